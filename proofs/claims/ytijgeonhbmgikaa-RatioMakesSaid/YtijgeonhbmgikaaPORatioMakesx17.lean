-- printed (pr.py)
import Derived.Test.YtijgeonhbmgikaaPORatioMakesx16
namespace Go.Proofs.Ytijgeonhbmgikaa.PORatioMakes
open Go.RowKit Go.Proofs.YtijgeonhbmgikaaN Go.Proofs.YtijgeonhbmgikaaW.PrintWords Go.Proofs.YtijgeonhbmgikaaW.PrintLast Go.Proofs.YtijgeonhbmgikaaW.PrintMore
attribute [local go_sem] qJ qH qd qc zo zn qI qG
set_option maxHeartbeats 8000000
set_option maxRecDepth 100000
set_option linter.unusedVariables false
set_option linter.unusedSimpArgs false
def jq.j0 : Nat → Bool → Bool → List Int → List Int → Bool → List Int → List Int → Option (Bool × List Int × List Int × Int)
 | 0, _, _, _, _, _, _, _ => none
 | k + 1, x20, x663000, x663001, x663002, x664000, x664001, x664002 => if x20 = true then (some (false, ([] : List Int), ([] : List Int), 1)) else ((jX.f k x663001 x664002).bind fun bt667 => ((jX.f k x664001 x663002).bind fun bt671 => ((jX.f k x663002 x664002).bind fun bt675 => ((vB.f k x663000 bt667.1 x664000 bt671.1).bind fun bt679 => (if bt667.2 = 0 then (if bt671.2 = 0 then (if bt675.2 = 0 then (if (bt679.2.length : Int) > 8 then (some (false, ([] : List Int), ([] : List Int), 21)) else ((zD.f k bt679.1 bt679.2 bt675.1).bind fun bt684 => (some (bt684.1, bt684.2.1, bt684.2.2.1, bt684.2.2.2)))) else (some (false, ([] : List Int), ([] : List Int), 21))) else (some (false, ([] : List Int), ([] : List Int), 21))) else (some (false, ([] : List Int), ([] : List Int), 21)))))))
def jq.f (k : Nat) (a0_0 : Bool) (l0_1 : List Int) (l0_2 : List Int) (a1_0 : Bool) (l1_1 : List Int) (l1_2 : List Int) : Option (Bool × List Int × List Int × Int) := (jh.f k a0_0 l0_1 l0_2).bind fun t665 => (if t665 = true then ((jh.f k a1_0 l1_1 l1_2).bind fun t666 => (jq.j0 k (!t666) a0_0 l0_1 l0_2 a1_0 l1_1 l1_2)) else (jq.j0 k true a0_0 l0_1 l0_2 a1_0 l1_1 l1_2))
theorem jq.vQ : ∀ k, (∀ y0 y1 y2 y3 y4 y5 y6, LeO (jq.j0 k y0 y1 y2 y3 y4 y5 y6) (jq.j0 (k + 1) y0 y1 y2 y3 y4 y5 y6))
 | 0 => fun _ _ _ _ _ _ _ r h => by simp [jq.j0] at h
 | k + 1 => by
  have ih0 := jq.vQ k
  ·
   intro y0 y1 y2 y3 y4 y5 y6
   unfold jq.j0
   repeat' first
   | (with_reducible exact ih0 _ _ _ _ _ _ _)
   | (with_reducible exact jX.mono _ _ _)
   | (with_reducible exact zD.mono _ _ _ _)
   | (with_reducible exact jh.mono _ _ _ _)
   | (with_reducible exact vB.mono _ _ _ _ _)
   | (with_reducible exact LeO.refl _)
   | (with_reducible exact LeO.none _)
   | (with_reducible refine LeO.ite ?_ ?_)
   | (with_reducible refine LeO.bind ?_ (fun _ => ?_))
theorem jq.mono : ∀ a0 a1 a2 a3 a4 a5 k, LeO (jq.f k a0 a1 a2 a3 a4 a5) (jq.f (k + 1) a0 a1 a2 a3 a4 a5) := by
 intro a0 a1 a2 a3 a4 a5 k
 have ih0 := jq.vQ k
 unfold jq.f
 repeat' first
   | (with_reducible exact ih0 _ _ _ _ _ _ _)
   | (with_reducible exact jX.mono _ _ _)
   | (with_reducible exact zD.mono _ _ _ _)
   | (with_reducible exact jh.mono _ _ _ _)
   | (with_reducible exact vB.mono _ _ _ _ _)
   | (with_reducible exact LeO.refl _)
   | (with_reducible exact LeO.none _)
   | (with_reducible refine LeO.ite ?_ ?_)
   | (with_reducible refine LeO.bind ?_ (fun _ => ?_))
theorem jq.calls (k : Nat) (a0_0 : Bool) (A0_1 : Option Addr) (c0_1 : Nat) (l0_1 : List Int) (A0_2 : Option Addr) (c0_2 : Nat) (l0_2 : List Int) (a1_0 : Bool) (A1_1 : Option Addr) (c1_1 : Nat) (l1_1 : List Int) (A1_2 : Option Addr) (c1_2 : Nat) (l1_2 : List Int) (r1 : Bool) (r2 : List Int) (r3 : List Int) (r4 : Int) (w : World) (hr0_1 : Kd.C (Kd.int .u64) w A0_1 l0_1.length l0_1) (hc0_1 : l0_1.length ≤ c0_1) (hr0_2 : Kd.C (Kd.int .u64) w A0_2 l0_2.length l0_2) (hc0_2 : l0_2.length ≤ c0_2) (hr1_1 : Kd.C (Kd.int .u64) w A1_1 l1_1.length l1_1) (hc1_1 : l1_1.length ≤ c1_1) (hr1_2 : Kd.C (Kd.int .u64) w A1_2 l1_2.length l1_2) (hc1_2 : l1_2.length ≤ c1_2) (h : jq.f k a0_0 l0_1 l0_2 a1_0 l1_1 l1_2 = some (r1, r2, r3, r4)) :
  Calls Try.prog 79 #[.agg #[.bool a0_0, .slice A0_1 l0_1.length c0_1, .slice A0_2 l0_2.length c0_2], .agg #[.bool a1_0, .slice A1_1 l1_1.length c1_1, .slice A1_2 l1_2.length c1_2]] w fun e w' => ∃ v1_ v2_ : Value, e = .returned (.tuple #[.agg #[.bool r1, v1_, v2_], .int .i64 r4]) ∧ Kd.R (Kd.int .u64) 22 w' w.heap.size (fun k_ => some k_ ≠ (v2_ : Value).ownBlock) v1_ r2 ∧ Kd.R (Kd.int .u64) 22 w' w.heap.size (fun k_ => some k_ ≠ (v1_ : Value).ownBlock) v2_ r3 ∧ Below w.heap.size w w' := by
 have hu44 := Try.underlying44
 have hu120 := Try.underlying120
 have HR0_1 := jA.mk hr0_1
 have HC0_1 := jA.mk hc0_1
 clear hr0_1 hc0_1
 have HR0_2 := jA.mk hr0_2
 have HC0_2 := jA.mk hc0_2
 clear hr0_2 hc0_2
 have HR1_1 := jA.mk hr1_1
 have HC1_1 := jA.mk hc1_1
 clear hr1_1 hc1_1
 have HR1_2 := jA.mk hr1_2
 have HC1_2 := jA.mk hc1_2
 clear hr1_2 hc1_2
 have HB := jA.mk (Below.refl w.heap.size w)
 have H : ((jh.f k a0_0 l0_1 l0_2).bind fun t665 => (if t665 = true then ((jh.f k a1_0 l1_1 l1_2).bind fun t666 => (jq.j0 k (!t666) a0_0 l0_1 l0_2 a1_0 l1_1 l1_2)) else (jq.j0 k true a0_0 l0_1 l0_2 a1_0 l1_1 l1_2))) = some (r1, r2, r3, r4) := h
 clear h
 have HC3 := jA.mk H
 clear H
 go_enter Try.func79, Try.ntmps79
 go_upto_region 1 with (first | ((with_reducible refine jW (N := 2) rfl ?_); (try (refine je (by rfl) ?_; dsimp only)); refine bx_ 2 #[.bool a0_0, .slice A0_1 l0_1.length c0_1, .slice A0_2 l0_2.length c0_2] 44 ?_; intro gb662 hg w4 hbox hb; have BK662 := jA.mk (hbox); have GW662 := jA.mk ((by rw [hg]; exact (jB (bb_ HB)) : w.heap.size ≤ gb662)); have GE662 := GW662; replace HB := bs_ HB hb; clear hb hbox hg) | ((with_reducible refine jW (N := 3) rfl ?_); (try (refine je (by rfl) ?_; dsimp only)); refine bx_ 3 #[.bool a1_0, .slice A1_1 l1_1.length c1_1, .slice A1_2 l1_2.length c1_2] 44 ?_; intro gb663 hg w5 hbox hb; have BK663 := jA.mk (hbox); have GW663 := jA.mk ((by rw [hg]; exact (jB (bb1_ HB GE662)) : w.heap.size ≤ gb663)); have GE663 := GW663; replace HB := jA.mk (jJ (bb1_ HB GE662) hb); have NB662_663 := jA.mk ((by rw [hg]; exact nlt_ BK662 : gb662 ≠ gb663)); have NB663_662 := jA.mk ((by rw [hg]; exact ngt_ BK662 : gb663 ≠ gb662)); replace BK662 := bk_ BK662 hb; clear hb hbox hg) | ((with_reducible refine jW (N := 4) rfl ?_); (try (refine je (by rfl) ?_; dsimp only)); refine bx_ 4 #[.bool false, .slice none 0 0, .slice none 0 0] 44 ?_; intro gb664 hg w6 hbox hb; have BK664 := jA.mk (hbox); have GW664 := jA.mk ((by rw [hg]; exact (jB (bb2_ HB GE662 GE663)) : w.heap.size ≤ gb664)); have GE664 := GW664; replace HB := jA.mk (jJ (bb2_ HB GE662 GE663) hb); have NB662_664 := jA.mk ((by rw [hg]; exact nlt_ BK662 : gb662 ≠ gb664)); have NB664_662 := jA.mk ((by rw [hg]; exact ngt_ BK662 : gb664 ≠ gb662)); replace BK662 := bk_ BK662 hb; have NB663_664 := jA.mk ((by rw [hg]; exact nlt_ BK663 : gb663 ≠ gb664)); have NB664_663 := jA.mk ((by rw [hg]; exact ngt_ BK663 : gb664 ≠ gb663)); replace BK663 := bk_ BK663 hb; clear hb hbox hg))
 (try simp only [Act.put, ss_])
 go_cut [20] (fun v20 wc => ∃ (kq : Nat) (x20_2 : Bool), v20 = .bool x20_2 ∧ jA (jq.j0 kq x20_2 a0_0 l0_1 l0_2 a1_0 l1_1 l1_2 = some (r1, r2, r3, r4)) ∧ jA (kq ≤ k) ∧ jA (wc.heap[gb662]? = some (.cells #[.bool a0_0, (.slice A0_1 l0_1.length c0_1), (.slice A0_2 l0_2.length c0_2)] 44 (0, 0))) ∧ jA (wc.heap[gb663]? = some (.cells #[.bool a1_0, (.slice A1_1 l1_1.length c1_1), (.slice A1_2 l1_2.length c1_2)] 44 (0, 0))) ∧ jA (wc.heap[gb664]? = some (.cells #[.bool false, (.slice none 0 0), (.slice none 0 0)] 44 (0, 0))) ∧ jA (Below w.heap.size w wc))
 case first =>
  have H := HC3.out
  clear HC3
  obtain ⟨t665, A7, H⟩ := oc_ H
  try dsimp only at H
  by_cases c8 : t665 = true
  ·
   subst c8
   replace H := ip_ H
   obtain ⟨t666, A9, H⟩ := oc_ H
   try dsimp only at H
   have H' := jA.mk H
   clear H
   have hnb10 := NB662_663.out
   have hnc10 := NB663_662.out
   have hnb11 := NB662_664.out
   have hnc11 := NB664_662.out
   have hcz12_0 : w6.cell? ⟨gb662, 0, none⟩ = some (.bool a0_0) := (jI BK662.out 0).trans rfl
   have hcz12_1 : w6.cell? ⟨gb662, 1, none⟩ = some (.slice A0_1 l0_1.length c0_1) := (jI BK662.out 1).trans rfl
   have hcz12_2 : w6.cell? ⟨gb662, 2, none⟩ = some (.slice A0_2 l0_2.length c0_2) := (jI BK662.out 2).trans rfl
   have hfz12_0 := jK BK662.out 0
   have hfz12_1 := jK BK662.out 1
   have hfz12_2 := jK BK662.out 2
   go_wp2_with (first | ((with_reducible refine jD (f := 76) rfl ?_); refine gl_ (some 14) Try.func76 #[.agg #[.bool a0_0, .slice A0_1 l0_1.length c0_1, .slice A0_2 l0_2.length c0_2]] ?_; (with_reducible refine (jh.calls k a0_0 _ _ l0_1 _ _ l0_2 true _ ?side1 ?side2 ?side3 ?side4 A7.out).mono ?_); (case side1 => exact cb_ HR0_1 HB); (case side2 => exact HC0_1.out); (case side3 => exact cb_ HR0_2 HB); (case side4 => exact HC0_2.out); rintro e w13 ⟨rfl, hb⟩; refine ⟨_, rfl, ?_⟩; replace BK662 := bk_ BK662 hb; replace BK663 := bk_ BK663 hb; replace BK664 := bk_ BK664 hb; replace HB := jA.mk (jJ (bb3_ HB GE662 GE663 GE664) hb); have hnb14 := NB663_664.out; have hnc14 := NB664_663.out; obtain ⟨hcz15_0, hcz15_1, hcz15_2, hfz15_0, hfz15_1, hfz15_2⟩ := bf3_ BK663) | (go_at_call 76; (with_reducible refine (jh.calls k a1_0 _ _ l1_1 _ _ l1_2 t666 _ ?side1 ?side2 ?side3 ?side4 A9.out).mono ?_); (case side1 => exact cb_ HR1_1 HB); (case side2 => exact HC1_1.out); (case side3 => exact cb_ HR1_2 HB); (case side4 => exact HC1_2.out); rintro e w16 ⟨rfl, hb⟩; replace BK662 := bk_ BK662 hb; replace BK663 := bk_ BK663 hb; replace BK664 := bk_ BK664 hb; replace HB := jA.mk (jJ (bb3_ HB GE662 GE663 GE664) hb)))
   go_meet
   case rel => exact ⟨_, (!t666), sd_, H', ⟨by first | omega | exact Nat.le_refl _⟩, ⟨by (with_reducible repeat (first | refine zU ?_ _ | refine vN ?_ | refine vT ?_ _)); exact BK662.out⟩, ⟨by (with_reducible repeat (first | refine zU ?_ _ | refine vN ?_ | refine vT ?_ _)); exact BK663.out⟩, ⟨by (with_reducible repeat (first | refine zU ?_ _ | refine vN ?_ | refine vT ?_ _)); exact BK664.out⟩, ⟨(bb3_ HB GE662 GE663 GE664)⟩⟩
  ·
   replace c8 := Bool.eq_false_iff.mpr c8
   subst c8
   replace H := in_ H
   have H' := jA.mk H
   clear H
   have hnb17 := NB662_663.out
   have hnc17 := NB663_662.out
   have hnb18 := NB662_664.out
   have hnc18 := NB664_662.out
   have hcz19_0 : w6.cell? ⟨gb662, 0, none⟩ = some (.bool a0_0) := (jI BK662.out 0).trans rfl
   have hcz19_1 : w6.cell? ⟨gb662, 1, none⟩ = some (.slice A0_1 l0_1.length c0_1) := (jI BK662.out 1).trans rfl
   have hcz19_2 : w6.cell? ⟨gb662, 2, none⟩ = some (.slice A0_2 l0_2.length c0_2) := (jI BK662.out 2).trans rfl
   have hfz19_0 := jK BK662.out 0
   have hfz19_1 := jK BK662.out 1
   have hfz19_2 := jK BK662.out 2
   go_wp2_with (first | ((with_reducible refine jD (f := 76) rfl ?_); refine gl_ (some 14) Try.func76 #[.agg #[.bool a0_0, .slice A0_1 l0_1.length c0_1, .slice A0_2 l0_2.length c0_2]] ?_; (with_reducible refine (jh.calls k a0_0 _ _ l0_1 _ _ l0_2 false _ ?side1 ?side2 ?side3 ?side4 A7.out).mono ?_); (case side1 => exact cb_ HR0_1 HB); (case side2 => exact HC0_1.out); (case side3 => exact cb_ HR0_2 HB); (case side4 => exact HC0_2.out); rintro e w20 ⟨rfl, hb⟩; refine ⟨_, rfl, ?_⟩; replace BK662 := bk_ BK662 hb; replace BK663 := bk_ BK663 hb; replace BK664 := bk_ BK664 hb; replace HB := jA.mk (jJ (bb3_ HB GE662 GE663 GE664) hb)))
   go_meet
   case rel => exact ⟨_, (true), sd_, H', ⟨by first | omega | exact Nat.le_refl _⟩, ⟨by (with_reducible repeat (first | refine zU ?_ _ | refine vN ?_ | refine vT ?_ _)); exact BK662.out⟩, ⟨by (with_reducible repeat (first | refine zU ?_ _ | refine vN ?_ | refine vT ?_ _)); exact BK663.out⟩, ⟨by (with_reducible repeat (first | refine zU ?_ _ | refine vN ?_ | refine vT ?_ _)); exact BK664.out⟩, ⟨(bb3_ HB GE662 GE663 GE664)⟩⟩
 case rest =>
  clear HC3
  try clear c1
  try clear p2
  try clear c7
  try clear c8
  try clear c10
  try clear c11
  try clear c14
  try clear c17
  try clear c18
  try clear hcz12_0
  try clear hcz12_1
  try clear hcz12_2
  try clear hcz15_0
  try clear hcz15_1
  try clear hcz15_2
  try clear hcz19_0
  try clear hcz19_1
  try clear hcz19_2
  try clear hfz12_0
  try clear hfz12_1
  try clear hfz12_2
  try clear hfz15_0
  try clear hfz15_1
  try clear hfz15_2
  try clear hfz19_0
  try clear hfz19_1
  try clear hfz19_2
  obtain ⟨kq, x20_2, rfl, HA, HJ2, BK662, BK663, BK664, HB⟩ := hcut
  cases kq with
  | zero => exact absurd HA.out (by simp [jq.j0])
  | succ kj2 =>
   have H := HA.out
   clear HA
   simp only [jq.j0] at H
   by_cases c21 : x20_2 = true
   ·
    subst c21
    replace H := ip_ H
    simp only [Option.some.injEq, Prod.mk.injEq] at H
    obtain ⟨rfl, rfl, rfl, rfl⟩ := H
    have hnb22 := NB664_662.out
    have hnc22 := NB662_664.out
    have hnb23 := NB664_663.out
    have hnc23 := NB663_664.out
    have hcz24_0 : wc.cell? ⟨gb664, 0, none⟩ = some (.bool false) := (jI BK664.out 0).trans rfl
    have hcz24_1 : wc.cell? ⟨gb664, 1, none⟩ = some (.slice none 0 0) := (jI BK664.out 1).trans rfl
    have hcz24_2 : wc.cell? ⟨gb664, 2, none⟩ = some (.slice none 0 0) := (jI BK664.out 2).trans rfl
    have hfz24_0 := jK BK664.out 0
    have hfz24_1 := jK BK664.out 1
    have hfz24_2 := jK BK664.out 2
    go_wp2
    refine bodyPost_ret (za rfl _ _ gb664 44 #[.bool false, .slice none 0 0, .slice none 0 0] (0, 0) _ rfl (by refine pk_ ?_; refine jc (cs := #[.bool false, .slice none 0 0, .slice none 0 0]) ?_ 2 _ rs_; refine pk_ ?_; refine jc (cs := #[.bool false, .slice none 0 0, .slice none 0 0]) ?_ 1 _ rs_; refine pk_ ?_; refine jc (cs := #[.bool false, .slice none 0 0, .slice none 0 0]) ?_ 0 _ rs_; refine pk_ ?_; exact BK664.out) Try.underlying44 rfl kr_) rfl ?_
    exact ⟨_, _, ew_, nl_, nl_, (bb3_ HB GE662 GE663 GE664)⟩
   ·
    replace c21 := Bool.eq_false_iff.mpr c21
    subst c21
    replace H := in_ H
    replace H := ob_ H
    obtain ⟨⟨t667, t668⟩, A250, H⟩ := H
    try dsimp only at H
    have A25 := jA.mk A250
    clear A250
    replace H := ob_ H
    obtain ⟨⟨t671, t672⟩, A260, H⟩ := H
    try dsimp only at H
    have A26 := jA.mk A260
    clear A260
    replace H := ob_ H
    obtain ⟨⟨t675, t676⟩, A270, H⟩ := H
    try dsimp only at H
    have A27 := jA.mk A270
    clear A270
    replace H := ob_ H
    obtain ⟨⟨t679, t680⟩, A280, H⟩ := H
    try dsimp only at H
    have A28 := jA.mk A280
    clear A280
    by_cases c29 : t668 = 0
    ·
     rw [if_pos c29] at H
     have c29b0 := beq_iff_eq.mpr c29
     have c29b1 := bne_eq_false_iff_eq.mpr c29
     clear c29
     by_cases c30 : t672 = 0
     ·
      rw [if_pos c30] at H
      have c30b0 := beq_iff_eq.mpr c30
      have c30b1 := bne_eq_false_iff_eq.mpr c30
      clear c30
      by_cases c31 : t676 = 0
      ·
       rw [if_pos c31] at H
       have c31b0 := beq_iff_eq.mpr c31
       have c31b1 := bne_eq_false_iff_eq.mpr c31
       clear c31
       by_cases c32 : (t680.length : Int) > 8
       ·
        rw [if_pos c32] at H
        have c32b0 := decide_eq_true c32
        have c32b1 : decide (8 < t680.length) = true := decide_eq_true (by omega)
        clear c32
        simp only [Option.some.injEq, Prod.mk.injEq] at H
        obtain ⟨rfl, rfl, rfl, rfl⟩ := H
        have hnb33 := NB662_663.out
        have hnc33 := NB663_662.out
        have hnb34 := NB662_664.out
        have hnc34 := NB664_662.out
        have hcz35_0 : wc.cell? ⟨gb662, 0, none⟩ = some (.bool a0_0) := (jI BK662.out 0).trans rfl
        have hcz35_1 : wc.cell? ⟨gb662, 1, none⟩ = some (.slice A0_1 l0_1.length c0_1) := (jI BK662.out 1).trans rfl
        have hcz35_2 : wc.cell? ⟨gb662, 2, none⟩ = some (.slice A0_2 l0_2.length c0_2) := (jI BK662.out 2).trans rfl
        have hfz35_0 := jK BK662.out 0
        have hfz35_1 := jK BK662.out 1
        have hfz35_2 := jK BK662.out 2
        have hnb36 := NB663_664.out
        have hnc36 := NB664_663.out
        have hcz37_0 : wc.cell? ⟨gb663, 0, none⟩ = some (.bool a1_0) := (jI BK663.out 0).trans rfl
        have hcz37_1 : wc.cell? ⟨gb663, 1, none⟩ = some (.slice A1_1 l1_1.length c1_1) := (jI BK663.out 1).trans rfl
        have hcz37_2 : wc.cell? ⟨gb663, 2, none⟩ = some (.slice A1_2 l1_2.length c1_2) := (jI BK663.out 2).trans rfl
        have hfz37_0 := jK BK663.out 0
        have hfz37_1 := jK BK663.out 1
        have hfz37_2 := jK BK663.out 2
        go_wp2_with (first | ((with_reducible refine jD (f := 106) rfl ?_); refine gl_ (some 27) Try.func106 #[.slice A0_1 l0_1.length c0_1, .slice A1_2 l1_2.length c1_2] ?_; (with_reducible refine (jX.calls kj2 _ _ l0_1 _ _ l1_2 t667 t668 _ ?side1 ?side2 ?side3 ?side4 A25.out).mono ?_); (case side1 => exact cb_ HR0_1 HB); (case side2 => exact HC0_1.out); (case side3 => exact cb_ HR1_2 HB); (case side4 => exact HC1_2.out); rintro e w38 ⟨v669, rfl, ho0, hb⟩; refine ⟨_, rfl, ?_⟩; have HO670 := jA.mk (Kd.jL ho0 (jB (bb3_ HB GE662 GE663 GE664))); replace BK662 := bk_ BK662 hb; replace BK663 := bk_ BK663 hb; replace BK664 := bk_ BK664 hb; replace HB := jA.mk (jJ (bb3_ HB GE662 GE663 GE664) hb); obtain ⟨hcz39_0, hcz39_1, hcz39_2, hfz39_0, hfz39_1, hfz39_2⟩ := bf3_ BK663; obtain ⟨hcz40_0, hcz40_1, hcz40_2, hfz40_0, hfz40_1, hfz40_2⟩ := bf3_ BK662) | ((with_reducible refine jD (f := 106) rfl ?_); refine gl_ (some 35) Try.func106 #[.slice A1_1 l1_1.length c1_1, .slice A0_2 l0_2.length c0_2] ?_; (with_reducible refine (jX.calls kj2 _ _ l1_1 _ _ l0_2 t671 t672 _ ?side1 ?side2 ?side3 ?side4 A26.out).mono ?_); (case side1 => exact cb_ HR1_1 HB); (case side2 => exact HC1_1.out); (case side3 => exact cb_ HR0_2 HB); (case side4 => exact HC0_2.out); rintro e w41 ⟨v673, rfl, ho0, hb⟩; refine ⟨_, rfl, ?_⟩; have HO674 := jA.mk (Kd.jL (Kd.jG ho0 (Kd.R_lt (rR_ HO670))) (jB (bb3_ HB GE662 GE663 GE664))); replace HO670 := re_ HO670 ho0 hb; replace BK662 := bk_ BK662 hb; replace BK663 := bk_ BK663 hb; replace BK664 := bk_ BK664 hb; replace HB := jA.mk (jJ (bb3_ HB GE662 GE663 GE664) hb); obtain ⟨hcz42_0, hcz42_1, hcz42_2, hfz42_0, hfz42_1, hfz42_2⟩ := bf3_ BK662; obtain ⟨hcz43_0, hcz43_1, hcz43_2, hfz43_0, hfz43_1, hfz43_2⟩ := bf3_ BK663) | ((with_reducible refine jD (f := 106) rfl ?_); refine gl_ (some 43) Try.func106 #[.slice A0_2 l0_2.length c0_2, .slice A1_2 l1_2.length c1_2] ?_; (with_reducible refine (jX.calls kj2 _ _ l0_2 _ _ l1_2 t675 t676 _ ?side1 ?side2 ?side3 ?side4 A27.out).mono ?_); (case side1 => exact cb_ HR0_2 HB); (case side2 => exact HC0_2.out); (case side3 => exact cb_ HR1_2 HB); (case side4 => exact HC1_2.out); rintro e w44 ⟨v677, rfl, ho0, hb⟩; refine ⟨_, rfl, ?_⟩; have HO678 := jA.mk (Kd.jL (Kd.jG (Kd.jG ho0 (Kd.R_lt (rR_ HO670))) (Kd.R_lt (rR_ HO674))) (jB (bb3_ HB GE662 GE663 GE664))); replace HO670 := re_ HO670 ho0 hb; replace HO674 := re_ HO674 ho0 hb; replace BK662 := bk_ BK662 hb; replace BK663 := bk_ BK663 hb; replace BK664 := bk_ BK664 hb; replace HB := jA.mk (jJ (bb3_ HB GE662 GE663 GE664) hb); obtain ⟨hcz45_0, hcz45_1, hcz45_2, hfz45_0, hfz45_1, hfz45_2⟩ := bf3_ BK662; obtain ⟨Ao46, co46, rfl⟩ := Kd.jP HO670.out; obtain ⟨hcz47_0, hcz47_1, hcz47_2, hfz47_0, hfz47_1, hfz47_2⟩ := bf3_ BK663; obtain ⟨Ao48, co48, rfl⟩ := Kd.jP HO674.out) | ((with_reducible refine jD (f := 107) rfl ?_); refine gl_ (some 54) Try.func107 #[.agg #[.bool a0_0, .slice Ao46 t667.length co46], .agg #[.bool a1_0, .slice Ao48 t671.length co48]] ?_; (with_reducible refine (vB.calls kj2 a0_0 _ _ t667 a1_0 _ _ t671 t679 t680 _ ?side1 ?side2 ?side3 ?side4 A28.out).mono ?_); (case side1 => exact cc_ (Kd.jC HO670.out).2.2); (case side2 => exact (Kd.jC HO670.out).2.1); (case side3 => exact cc_ (Kd.jC HO674.out).2.2); (case side4 => exact (Kd.jC HO674.out).2.1); rintro e w49 ⟨v681, rfl, ho0, hb⟩; refine ⟨_, rfl, ?_⟩; have HO682 := jA.mk (Kd.jL (Kd.jG (Kd.jG (Kd.jG ho0 (Kd.R_lt (rR_ HO670))) (Kd.R_lt (rR_ HO674))) (Kd.R_lt (rR_ HO678))) (jB (bb3_ HB GE662 GE663 GE664))); replace HO670 := re_ HO670 ho0 hb; replace HO674 := re_ HO674 ho0 hb; replace HO678 := re_ HO678 ho0 hb; replace BK662 := bk_ BK662 hb; replace BK663 := bk_ BK663 hb; replace BK664 := bk_ BK664 hb; replace HB := jA.mk (jJ (bb3_ HB GE662 GE663 GE664) hb)) | ((with_reducible refine jW (N := 12) rfl ?_); (try (refine je (by rfl) ?_; dsimp only)); refine bx_ 12 #[.bool false, .slice none 0 0] 120 ?_; intro gb683 hg w50 hbox hb; replace HO670 := ro_ HO670 hb; replace HO674 := ro_ HO674 hb; replace HO678 := ro_ HO678 hb; replace HO682 := ro_ HO682 hb; have BK683 := jA.mk (hbox); have GW683 := jA.mk ((by rw [hg]; exact (jB (bb3_ HB GE662 GE663 GE664)) : w.heap.size ≤ gb683)); have GE683 := GW683; replace HB := jA.mk (jJ (bb3_ HB GE662 GE663 GE664) hb); have NB662_683 := jA.mk ((by rw [hg]; exact nlt_ BK662 : gb662 ≠ gb683)); have NB683_662 := jA.mk ((by rw [hg]; exact ngt_ BK662 : gb683 ≠ gb662)); replace BK662 := bk_ BK662 hb; have NB663_683 := jA.mk ((by rw [hg]; exact nlt_ BK663 : gb663 ≠ gb683)); have NB683_663 := jA.mk ((by rw [hg]; exact ngt_ BK663 : gb683 ≠ gb663)); replace BK663 := bk_ BK663 hb; have NB664_683 := jA.mk ((by rw [hg]; exact nlt_ BK664 : gb664 ≠ gb683)); have NB683_664 := jA.mk ((by rw [hg]; exact ngt_ BK664 : gb683 ≠ gb664)); replace BK664 := bk_ BK664 hb; clear hb hbox hg; have hnb51 := NB683_662.out; have hnc51 := NB662_683.out; have hnb52 := NB683_663.out; have hnc52 := NB663_683.out; have hnb53 := NB683_664.out; have hnc53 := NB664_683.out; obtain ⟨hcz54_0, hcz54_1, hfz54_0, hfz54_1⟩ := bf2_ BK683; obtain ⟨Ao55, co55, rfl⟩ := Kd.jP HO682.out; obtain ⟨hcz56_0, hcz56_1, hcz56_2, hfz56_0, hfz56_1, hfz56_2⟩ := bf3_ BK664))
        refine bodyPost_ret (za rfl _ _ gb664 44 #[.bool false, .slice none 0 0, .slice none 0 0] (0, 0) _ rfl (by refine pk_ ?_; refine jc (cs := #[.bool false, .slice none 0 0, .slice none 0 0]) ?_ 2 _ rs_; refine pk_ ?_; refine jc (cs := #[.bool false, .slice none 0 0, .slice none 0 0]) ?_ 1 _ rs_; refine pk_ ?_; refine jc (cs := #[.bool false, .slice none 0 0, .slice none 0 0]) ?_ 0 _ rs_; refine pk_ ?_; refine vP ?_ NB664_683.out _; refine pk_ ?_; refine vP ?_ NB664_683.out _; refine pk_ ?_; exact BK664.out) Try.underlying44 rfl kr_) rfl ?_
        exact ⟨_, _, ew_, nl_, nl_, (bb4_ HB GE662 GE663 GE664 GE683)⟩
       ·
        rw [if_neg c32] at H
        have c32b0 := decide_eq_false c32
        have c32b1 : decide (8 < t680.length) = false := decide_eq_false (by omega)
        clear c32
        replace H := ob_ H
        obtain ⟨⟨t684, t685, t688, t691⟩, A570, H⟩ := H
        try dsimp only at H
        have A57 := jA.mk A570
        clear A570
        simp only [Option.some.injEq, Prod.mk.injEq] at H
        obtain ⟨rfl, rfl, rfl, rfl⟩ := H
        have hnb58 := NB662_663.out
        have hnc58 := NB663_662.out
        have hnb59 := NB662_664.out
        have hnc59 := NB664_662.out
        have hcz60_0 : wc.cell? ⟨gb662, 0, none⟩ = some (.bool a0_0) := (jI BK662.out 0).trans rfl
        have hcz60_1 : wc.cell? ⟨gb662, 1, none⟩ = some (.slice A0_1 l0_1.length c0_1) := (jI BK662.out 1).trans rfl
        have hcz60_2 : wc.cell? ⟨gb662, 2, none⟩ = some (.slice A0_2 l0_2.length c0_2) := (jI BK662.out 2).trans rfl
        have hfz60_0 := jK BK662.out 0
        have hfz60_1 := jK BK662.out 1
        have hfz60_2 := jK BK662.out 2
        have hnb61 := NB663_664.out
        have hnc61 := NB664_663.out
        have hcz62_0 : wc.cell? ⟨gb663, 0, none⟩ = some (.bool a1_0) := (jI BK663.out 0).trans rfl
        have hcz62_1 : wc.cell? ⟨gb663, 1, none⟩ = some (.slice A1_1 l1_1.length c1_1) := (jI BK663.out 1).trans rfl
        have hcz62_2 : wc.cell? ⟨gb663, 2, none⟩ = some (.slice A1_2 l1_2.length c1_2) := (jI BK663.out 2).trans rfl
        have hfz62_0 := jK BK663.out 0
        have hfz62_1 := jK BK663.out 1
        have hfz62_2 := jK BK663.out 2
        go_wp2_with (first | ((with_reducible refine jD (f := 106) rfl ?_); refine gl_ (some 27) Try.func106 #[.slice A0_1 l0_1.length c0_1, .slice A1_2 l1_2.length c1_2] ?_; (with_reducible refine (jX.calls kj2 _ _ l0_1 _ _ l1_2 t667 t668 _ ?side1 ?side2 ?side3 ?side4 A25.out).mono ?_); (case side1 => exact cb_ HR0_1 HB); (case side2 => exact HC0_1.out); (case side3 => exact cb_ HR1_2 HB); (case side4 => exact HC1_2.out); rintro e w63 ⟨v669, rfl, ho0, hb⟩; refine ⟨_, rfl, ?_⟩; have HO670 := jA.mk (Kd.jL ho0 (jB (bb3_ HB GE662 GE663 GE664))); replace BK662 := bk_ BK662 hb; replace BK663 := bk_ BK663 hb; replace BK664 := bk_ BK664 hb; replace HB := jA.mk (jJ (bb3_ HB GE662 GE663 GE664) hb); obtain ⟨hcz64_0, hcz64_1, hcz64_2, hfz64_0, hfz64_1, hfz64_2⟩ := bf3_ BK663; obtain ⟨hcz65_0, hcz65_1, hcz65_2, hfz65_0, hfz65_1, hfz65_2⟩ := bf3_ BK662) | ((with_reducible refine jD (f := 106) rfl ?_); refine gl_ (some 35) Try.func106 #[.slice A1_1 l1_1.length c1_1, .slice A0_2 l0_2.length c0_2] ?_; (with_reducible refine (jX.calls kj2 _ _ l1_1 _ _ l0_2 t671 t672 _ ?side1 ?side2 ?side3 ?side4 A26.out).mono ?_); (case side1 => exact cb_ HR1_1 HB); (case side2 => exact HC1_1.out); (case side3 => exact cb_ HR0_2 HB); (case side4 => exact HC0_2.out); rintro e w66 ⟨v673, rfl, ho0, hb⟩; refine ⟨_, rfl, ?_⟩; have HO674 := jA.mk (Kd.jL (Kd.jG ho0 (Kd.R_lt (rR_ HO670))) (jB (bb3_ HB GE662 GE663 GE664))); replace HO670 := re_ HO670 ho0 hb; replace BK662 := bk_ BK662 hb; replace BK663 := bk_ BK663 hb; replace BK664 := bk_ BK664 hb; replace HB := jA.mk (jJ (bb3_ HB GE662 GE663 GE664) hb); obtain ⟨hcz67_0, hcz67_1, hcz67_2, hfz67_0, hfz67_1, hfz67_2⟩ := bf3_ BK662; obtain ⟨hcz68_0, hcz68_1, hcz68_2, hfz68_0, hfz68_1, hfz68_2⟩ := bf3_ BK663) | ((with_reducible refine jD (f := 106) rfl ?_); refine gl_ (some 43) Try.func106 #[.slice A0_2 l0_2.length c0_2, .slice A1_2 l1_2.length c1_2] ?_; (with_reducible refine (jX.calls kj2 _ _ l0_2 _ _ l1_2 t675 t676 _ ?side1 ?side2 ?side3 ?side4 A27.out).mono ?_); (case side1 => exact cb_ HR0_2 HB); (case side2 => exact HC0_2.out); (case side3 => exact cb_ HR1_2 HB); (case side4 => exact HC1_2.out); rintro e w69 ⟨v677, rfl, ho0, hb⟩; refine ⟨_, rfl, ?_⟩; have HO678 := jA.mk (Kd.jL (Kd.jG (Kd.jG ho0 (Kd.R_lt (rR_ HO670))) (Kd.R_lt (rR_ HO674))) (jB (bb3_ HB GE662 GE663 GE664))); replace HO670 := re_ HO670 ho0 hb; replace HO674 := re_ HO674 ho0 hb; replace BK662 := bk_ BK662 hb; replace BK663 := bk_ BK663 hb; replace BK664 := bk_ BK664 hb; replace HB := jA.mk (jJ (bb3_ HB GE662 GE663 GE664) hb); obtain ⟨hcz70_0, hcz70_1, hcz70_2, hfz70_0, hfz70_1, hfz70_2⟩ := bf3_ BK662; obtain ⟨Ao71, co71, rfl⟩ := Kd.jP HO670.out; obtain ⟨hcz72_0, hcz72_1, hcz72_2, hfz72_0, hfz72_1, hfz72_2⟩ := bf3_ BK663; obtain ⟨Ao73, co73, rfl⟩ := Kd.jP HO674.out) | ((with_reducible refine jD (f := 107) rfl ?_); refine gl_ (some 54) Try.func107 #[.agg #[.bool a0_0, .slice Ao71 t667.length co71], .agg #[.bool a1_0, .slice Ao73 t671.length co73]] ?_; (with_reducible refine (vB.calls kj2 a0_0 _ _ t667 a1_0 _ _ t671 t679 t680 _ ?side1 ?side2 ?side3 ?side4 A28.out).mono ?_); (case side1 => exact cc_ (Kd.jC HO670.out).2.2); (case side2 => exact (Kd.jC HO670.out).2.1); (case side3 => exact cc_ (Kd.jC HO674.out).2.2); (case side4 => exact (Kd.jC HO674.out).2.1); rintro e w74 ⟨v681, rfl, ho0, hb⟩; refine ⟨_, rfl, ?_⟩; have HO682 := jA.mk (Kd.jL (Kd.jG (Kd.jG (Kd.jG ho0 (Kd.R_lt (rR_ HO670))) (Kd.R_lt (rR_ HO674))) (Kd.R_lt (rR_ HO678))) (jB (bb3_ HB GE662 GE663 GE664))); replace HO670 := re_ HO670 ho0 hb; replace HO674 := re_ HO674 ho0 hb; replace HO678 := re_ HO678 ho0 hb; replace BK662 := bk_ BK662 hb; replace BK663 := bk_ BK663 hb; replace BK664 := bk_ BK664 hb; replace HB := jA.mk (jJ (bb3_ HB GE662 GE663 GE664) hb)) | ((with_reducible refine jW (N := 12) rfl ?_); (try (refine je (by rfl) ?_; dsimp only)); refine bx_ 12 #[.bool false, .slice none 0 0] 120 ?_; intro gb683 hg w75 hbox hb; replace HO670 := ro_ HO670 hb; replace HO674 := ro_ HO674 hb; replace HO678 := ro_ HO678 hb; replace HO682 := ro_ HO682 hb; have BK683 := jA.mk (hbox); have GW683 := jA.mk ((by rw [hg]; exact (jB (bb3_ HB GE662 GE663 GE664)) : w.heap.size ≤ gb683)); have GE683 := GW683; replace HB := jA.mk (jJ (bb3_ HB GE662 GE663 GE664) hb); have NB662_683 := jA.mk ((by rw [hg]; exact nlt_ BK662 : gb662 ≠ gb683)); have NB683_662 := jA.mk ((by rw [hg]; exact ngt_ BK662 : gb683 ≠ gb662)); replace BK662 := bk_ BK662 hb; have NB663_683 := jA.mk ((by rw [hg]; exact nlt_ BK663 : gb663 ≠ gb683)); have NB683_663 := jA.mk ((by rw [hg]; exact ngt_ BK663 : gb683 ≠ gb663)); replace BK663 := bk_ BK663 hb; have NB664_683 := jA.mk ((by rw [hg]; exact nlt_ BK664 : gb664 ≠ gb683)); have NB683_664 := jA.mk ((by rw [hg]; exact ngt_ BK664 : gb683 ≠ gb664)); replace BK664 := bk_ BK664 hb; clear hb hbox hg; have hnb76 := NB683_662.out; have hnc76 := NB662_683.out; have hnb77 := NB683_663.out; have hnc77 := NB663_683.out; have hnb78 := NB683_664.out; have hnc78 := NB664_683.out; obtain ⟨hcz79_0, hcz79_1, hfz79_0, hfz79_1⟩ := bf2_ BK683; obtain ⟨Ao80, co80, rfl⟩ := Kd.jP HO682.out; obtain ⟨Ao81, co81, rfl⟩ := Kd.jP HO678.out) | ((with_reducible refine jD (f := 36) rfl ?_); refine gl_ (some 77) Try.func36 #[.bool t679, .slice Ao80 t680.length co80, .slice Ao81 t675.length co81] ?_; (with_reducible refine (zD.calls kj2 t679 _ _ t680 _ _ t675 t684 t685 t688 t691 _ ?side1 ?side2 ?side3 ?side4 A57.out).mono ?_); (case side1 => refine (Kd.jC (e := 22) (base := w.heap.size) (ok := fun k_ => (((True ∧ some k_ ≠ (.slice Ao71 t667.length co71 : Value).ownBlock) ∧ some k_ ≠ (.slice Ao73 t671.length co73 : Value).ownBlock) ∧ some k_ ≠ (.slice Ao81 t675.length co81 : Value).ownBlock)) (n := t680.length) (c := co80) ?_).2.2; exact (rg2_ HO682 BK683)); (case side2 => exact (Kd.jC HO682.out).2.1); (case side3 => refine (Kd.jC (e := 22) (base := w.heap.size) (ok := fun k_ => (((True ∧ some k_ ≠ (.slice Ao71 t667.length co71 : Value).ownBlock) ∧ some k_ ≠ (.slice Ao73 t671.length co73 : Value).ownBlock) ∧ some k_ ≠ (.slice Ao80 t680.length co80 : Value).ownBlock)) (n := t675.length) (c := co81) ?_).2.2; exact (rg2_ HO678 BK683)); (case side4 => exact (Kd.jC HO678.out).2.1); rintro e w82 ⟨v686, v689, rfl, ho0, ho1, hb⟩; refine ⟨_, rfl, ?_⟩; have HO687 := jA.mk (Kd.jL (Kd.jG (Kd.jG (Kd.jG (Kd.jG ho0 (Kd.R_lt (rg2_ HO670 BK683))) (Kd.R_lt (rg2_ HO674 BK683))) (Kd.R_lt (rg2_ HO678 BK683))) (Kd.R_lt (rg2_ HO682 BK683))) (jB (bb4_ HB GE662 GE663 GE664 GE683))); have HO690 := jA.mk (Kd.jL (Kd.jG (Kd.jG (Kd.jG (Kd.jG ho1 (Kd.R_lt (rg2_ HO670 BK683))) (Kd.R_lt (rg2_ HO674 BK683))) (Kd.R_lt (rg2_ HO678 BK683))) (Kd.R_lt (rg2_ HO682 BK683))) (jB (bb4_ HB GE662 GE663 GE664 GE683))); replace HO670 := jA.mk (Kd.jO (Kd.jo (Kd.jo (Kd.zm (rg2_ HO670 BK683) hb) (Kd.jY ho0)) (Kd.jY ho1)) (fun _ h_ => h_.1)); replace HO674 := jA.mk (Kd.jO (Kd.jo (Kd.jo (Kd.zm (rg2_ HO674 BK683) hb) (Kd.jY ho0)) (Kd.jY ho1)) (fun _ h_ => h_.1)); replace HO678 := jA.mk (Kd.jO (Kd.jo (Kd.jo (Kd.zm (rg2_ HO678 BK683) hb) (Kd.jY ho0)) (Kd.jY ho1)) (fun _ h_ => h_.1)); replace HO682 := jA.mk (Kd.jO (Kd.jo (Kd.jo (Kd.zm (rg2_ HO682 BK683) hb) (Kd.jY ho0)) (Kd.jY ho1)) (fun _ h_ => h_.1)); replace BK662 := jA.mk (vJ (g := gb662) (o := .cells #[.bool a0_0, .slice A0_1 l0_1.length c0_1, .slice A0_2 l0_2.length c0_2] 44 (0, 0)) (by refine pk_ ?_; refine vP ?_ NB662_683.out _; refine pk_ ?_; refine vP ?_ NB662_683.out _; refine pk_ ?_; exact BK662.out) hb); replace BK663 := jA.mk (vJ (g := gb663) (o := .cells #[.bool a1_0, .slice A1_1 l1_1.length c1_1, .slice A1_2 l1_2.length c1_2] 44 (0, 0)) (by refine pk_ ?_; refine vP ?_ NB663_683.out _; refine pk_ ?_; refine vP ?_ NB663_683.out _; refine pk_ ?_; exact BK663.out) hb); replace BK664 := jA.mk (vJ (g := gb664) (o := .cells #[.bool false, .slice none 0 0, .slice none 0 0] 44 (0, 0)) (by refine pk_ ?_; refine vP ?_ NB664_683.out _; refine pk_ ?_; refine vP ?_ NB664_683.out _; refine pk_ ?_; exact BK664.out) hb); replace BK683 := jA.mk (vJ (g := gb683) (o := .cells #[.bool t679, .slice Ao80 t680.length co80] 120 (0, 0)) (by refine pk_ ?_; refine jc (cs := #[.bool t679, .slice none 0 0]) ?_ 1 _ rs_; refine pk_ ?_; refine jc (cs := #[.bool false, .slice none 0 0]) ?_ 0 _ rs_; refine pk_ ?_; exact BK683.out) hb); replace HB := jA.mk (jJ (bb4_ HB GE662 GE663 GE664 GE683) hb); obtain ⟨hcz83_0, hcz83_1, hcz83_2, hfz83_0, hfz83_1, hfz83_2⟩ := bf3_ BK664; obtain ⟨Ao84, co84, rfl⟩ := Kd.jP HO687.out; obtain ⟨Ao85, co85, rfl⟩ := Kd.jP HO690.out))
        refine bodyPost_ret (za rfl _ _ gb664 44 #[.bool t684, .slice Ao84 t685.length co84, .slice Ao85 t688.length co85] (0, 0) _ rfl (by refine pk_ ?_; refine jc (cs := #[.bool t684, .slice Ao84 t685.length co84, .slice none 0 0]) ?_ 2 _ rs_; refine pk_ ?_; refine jc (cs := #[.bool t684, .slice none 0 0, .slice none 0 0]) ?_ 1 _ rs_; refine pk_ ?_; refine jc (cs := #[.bool false, .slice none 0 0, .slice none 0 0]) ?_ 0 _ rs_; refine pk_ ?_; exact BK664.out) Try.underlying44 rfl kr_) rfl ?_
        exact ⟨_, _, ew_, by refine pR_ ?_; exact Kd.jO (Kd.vU (p := ⟨gb664, 2, none⟩) (Kd.vU (p := ⟨gb664, 1, none⟩) (Kd.vU (p := ⟨gb664, 0, none⟩) (Kd.jm HO687.out BK664.out (by decide)) (fun _ hk => hk.2) (.bool t684)) (fun _ hk => hk.2) (.slice Ao84 t685.length co84)) (fun _ hk => hk.2) (.slice Ao85 t688.length co85)) (fun _ hk => hk.1.1.1.1.1), by refine pR_ ?_; exact Kd.jO (Kd.vU (p := ⟨gb664, 2, none⟩) (Kd.vU (p := ⟨gb664, 1, none⟩) (Kd.vU (p := ⟨gb664, 0, none⟩) (Kd.jm HO690.out BK664.out (by decide)) (fun _ hk => hk.2) (.bool t684)) (fun _ hk => hk.2) (.slice Ao84 t685.length co84)) (fun _ hk => hk.2) (.slice Ao85 t688.length co85)) (fun _ hk => hk.1.1.1.1.1), (bb4_ HB GE662 GE663 GE664 GE683)⟩
      ·
       rw [if_neg c31] at H
       have c31b0 := beq_eq_false_iff_ne.mpr c31
       have c31b1 := bne_iff_ne.mpr c31
       simp only [Option.some.injEq, Prod.mk.injEq] at H
       obtain ⟨rfl, rfl, rfl, rfl⟩ := H
       have hnb86 := NB662_663.out
       have hnc86 := NB663_662.out
       have hnb87 := NB662_664.out
       have hnc87 := NB664_662.out
       have hcz88_0 : wc.cell? ⟨gb662, 0, none⟩ = some (.bool a0_0) := (jI BK662.out 0).trans rfl
       have hcz88_1 : wc.cell? ⟨gb662, 1, none⟩ = some (.slice A0_1 l0_1.length c0_1) := (jI BK662.out 1).trans rfl
       have hcz88_2 : wc.cell? ⟨gb662, 2, none⟩ = some (.slice A0_2 l0_2.length c0_2) := (jI BK662.out 2).trans rfl
       have hfz88_0 := jK BK662.out 0
       have hfz88_1 := jK BK662.out 1
       have hfz88_2 := jK BK662.out 2
       have hnb89 := NB663_664.out
       have hnc89 := NB664_663.out
       have hcz90_0 : wc.cell? ⟨gb663, 0, none⟩ = some (.bool a1_0) := (jI BK663.out 0).trans rfl
       have hcz90_1 : wc.cell? ⟨gb663, 1, none⟩ = some (.slice A1_1 l1_1.length c1_1) := (jI BK663.out 1).trans rfl
       have hcz90_2 : wc.cell? ⟨gb663, 2, none⟩ = some (.slice A1_2 l1_2.length c1_2) := (jI BK663.out 2).trans rfl
       have hfz90_0 := jK BK663.out 0
       have hfz90_1 := jK BK663.out 1
       have hfz90_2 := jK BK663.out 2
       go_wp2_with (first | ((with_reducible refine jD (f := 106) rfl ?_); refine gl_ (some 27) Try.func106 #[.slice A0_1 l0_1.length c0_1, .slice A1_2 l1_2.length c1_2] ?_; (with_reducible refine (jX.calls kj2 _ _ l0_1 _ _ l1_2 t667 t668 _ ?side1 ?side2 ?side3 ?side4 A25.out).mono ?_); (case side1 => exact cb_ HR0_1 HB); (case side2 => exact HC0_1.out); (case side3 => exact cb_ HR1_2 HB); (case side4 => exact HC1_2.out); rintro e w91 ⟨v669, rfl, ho0, hb⟩; refine ⟨_, rfl, ?_⟩; have HO670 := jA.mk (Kd.jL ho0 (jB (bb3_ HB GE662 GE663 GE664))); replace BK662 := bk_ BK662 hb; replace BK663 := bk_ BK663 hb; replace BK664 := bk_ BK664 hb; replace HB := jA.mk (jJ (bb3_ HB GE662 GE663 GE664) hb); obtain ⟨hcz92_0, hcz92_1, hcz92_2, hfz92_0, hfz92_1, hfz92_2⟩ := bf3_ BK663; obtain ⟨hcz93_0, hcz93_1, hcz93_2, hfz93_0, hfz93_1, hfz93_2⟩ := bf3_ BK662) | ((with_reducible refine jD (f := 106) rfl ?_); refine gl_ (some 35) Try.func106 #[.slice A1_1 l1_1.length c1_1, .slice A0_2 l0_2.length c0_2] ?_; (with_reducible refine (jX.calls kj2 _ _ l1_1 _ _ l0_2 t671 t672 _ ?side1 ?side2 ?side3 ?side4 A26.out).mono ?_); (case side1 => exact cb_ HR1_1 HB); (case side2 => exact HC1_1.out); (case side3 => exact cb_ HR0_2 HB); (case side4 => exact HC0_2.out); rintro e w94 ⟨v673, rfl, ho0, hb⟩; refine ⟨_, rfl, ?_⟩; have HO674 := jA.mk (Kd.jL (Kd.jG ho0 (Kd.R_lt (rR_ HO670))) (jB (bb3_ HB GE662 GE663 GE664))); replace HO670 := re_ HO670 ho0 hb; replace BK662 := bk_ BK662 hb; replace BK663 := bk_ BK663 hb; replace BK664 := bk_ BK664 hb; replace HB := jA.mk (jJ (bb3_ HB GE662 GE663 GE664) hb); obtain ⟨hcz95_0, hcz95_1, hcz95_2, hfz95_0, hfz95_1, hfz95_2⟩ := bf3_ BK662; obtain ⟨hcz96_0, hcz96_1, hcz96_2, hfz96_0, hfz96_1, hfz96_2⟩ := bf3_ BK663) | ((with_reducible refine jD (f := 106) rfl ?_); refine gl_ (some 43) Try.func106 #[.slice A0_2 l0_2.length c0_2, .slice A1_2 l1_2.length c1_2] ?_; (with_reducible refine (jX.calls kj2 _ _ l0_2 _ _ l1_2 t675 t676 _ ?side1 ?side2 ?side3 ?side4 A27.out).mono ?_); (case side1 => exact cb_ HR0_2 HB); (case side2 => exact HC0_2.out); (case side3 => exact cb_ HR1_2 HB); (case side4 => exact HC1_2.out); rintro e w97 ⟨v677, rfl, ho0, hb⟩; refine ⟨_, rfl, ?_⟩; have HO678 := jA.mk (Kd.jL (Kd.jG (Kd.jG ho0 (Kd.R_lt (rR_ HO670))) (Kd.R_lt (rR_ HO674))) (jB (bb3_ HB GE662 GE663 GE664))); replace HO670 := re_ HO670 ho0 hb; replace HO674 := re_ HO674 ho0 hb; replace BK662 := bk_ BK662 hb; replace BK663 := bk_ BK663 hb; replace BK664 := bk_ BK664 hb; replace HB := jA.mk (jJ (bb3_ HB GE662 GE663 GE664) hb); obtain ⟨hcz98_0, hcz98_1, hcz98_2, hfz98_0, hfz98_1, hfz98_2⟩ := bf3_ BK662; obtain ⟨Ao99, co99, rfl⟩ := Kd.jP HO670.out; obtain ⟨hcz100_0, hcz100_1, hcz100_2, hfz100_0, hfz100_1, hfz100_2⟩ := bf3_ BK663; obtain ⟨Ao101, co101, rfl⟩ := Kd.jP HO674.out) | ((with_reducible refine jD (f := 107) rfl ?_); refine gl_ (some 54) Try.func107 #[.agg #[.bool a0_0, .slice Ao99 t667.length co99], .agg #[.bool a1_0, .slice Ao101 t671.length co101]] ?_; (with_reducible refine (vB.calls kj2 a0_0 _ _ t667 a1_0 _ _ t671 t679 t680 _ ?side1 ?side2 ?side3 ?side4 A28.out).mono ?_); (case side1 => exact cc_ (Kd.jC HO670.out).2.2); (case side2 => exact (Kd.jC HO670.out).2.1); (case side3 => exact cc_ (Kd.jC HO674.out).2.2); (case side4 => exact (Kd.jC HO674.out).2.1); rintro e w102 ⟨v681, rfl, ho0, hb⟩; refine ⟨_, rfl, ?_⟩; have HO682 := jA.mk (Kd.jL (Kd.jG (Kd.jG (Kd.jG ho0 (Kd.R_lt (rR_ HO670))) (Kd.R_lt (rR_ HO674))) (Kd.R_lt (rR_ HO678))) (jB (bb3_ HB GE662 GE663 GE664))); replace HO670 := re_ HO670 ho0 hb; replace HO674 := re_ HO674 ho0 hb; replace HO678 := re_ HO678 ho0 hb; replace BK662 := bk_ BK662 hb; replace BK663 := bk_ BK663 hb; replace BK664 := bk_ BK664 hb; replace HB := jA.mk (jJ (bb3_ HB GE662 GE663 GE664) hb)) | ((with_reducible refine jW (N := 12) rfl ?_); (try (refine je (by rfl) ?_; dsimp only)); refine bx_ 12 #[.bool false, .slice none 0 0] 120 ?_; intro gb683 hg w103 hbox hb; replace HO670 := ro_ HO670 hb; replace HO674 := ro_ HO674 hb; replace HO678 := ro_ HO678 hb; replace HO682 := ro_ HO682 hb; have BK683 := jA.mk (hbox); have GW683 := jA.mk ((by rw [hg]; exact (jB (bb3_ HB GE662 GE663 GE664)) : w.heap.size ≤ gb683)); have GE683 := GW683; replace HB := jA.mk (jJ (bb3_ HB GE662 GE663 GE664) hb); have NB662_683 := jA.mk ((by rw [hg]; exact nlt_ BK662 : gb662 ≠ gb683)); have NB683_662 := jA.mk ((by rw [hg]; exact ngt_ BK662 : gb683 ≠ gb662)); replace BK662 := bk_ BK662 hb; have NB663_683 := jA.mk ((by rw [hg]; exact nlt_ BK663 : gb663 ≠ gb683)); have NB683_663 := jA.mk ((by rw [hg]; exact ngt_ BK663 : gb683 ≠ gb663)); replace BK663 := bk_ BK663 hb; have NB664_683 := jA.mk ((by rw [hg]; exact nlt_ BK664 : gb664 ≠ gb683)); have NB683_664 := jA.mk ((by rw [hg]; exact ngt_ BK664 : gb683 ≠ gb664)); replace BK664 := bk_ BK664 hb; clear hb hbox hg; have hnb104 := NB683_662.out; have hnc104 := NB662_683.out; have hnb105 := NB683_663.out; have hnc105 := NB663_683.out; have hnb106 := NB683_664.out; have hnc106 := NB664_683.out; obtain ⟨hcz107_0, hcz107_1, hfz107_0, hfz107_1⟩ := bf2_ BK683; obtain ⟨Ao108, co108, rfl⟩ := Kd.jP HO682.out; obtain ⟨hcz109_0, hcz109_1, hcz109_2, hfz109_0, hfz109_1, hfz109_2⟩ := bf3_ BK664))
       refine bodyPost_ret (za rfl _ _ gb664 44 #[.bool false, .slice none 0 0, .slice none 0 0] (0, 0) _ rfl (by refine pk_ ?_; refine jc (cs := #[.bool false, .slice none 0 0, .slice none 0 0]) ?_ 2 _ rs_; refine pk_ ?_; refine jc (cs := #[.bool false, .slice none 0 0, .slice none 0 0]) ?_ 1 _ rs_; refine pk_ ?_; refine jc (cs := #[.bool false, .slice none 0 0, .slice none 0 0]) ?_ 0 _ rs_; refine pk_ ?_; refine vP ?_ NB664_683.out _; refine pk_ ?_; refine vP ?_ NB664_683.out _; refine pk_ ?_; exact BK664.out) Try.underlying44 rfl kr_) rfl ?_
       exact ⟨_, _, ew_, nl_, nl_, (bb4_ HB GE662 GE663 GE664 GE683)⟩
     ·
      rw [if_neg c30] at H
      have c30b0 := beq_eq_false_iff_ne.mpr c30
      have c30b1 := bne_iff_ne.mpr c30
      simp only [Option.some.injEq, Prod.mk.injEq] at H
      obtain ⟨rfl, rfl, rfl, rfl⟩ := H
      have hnb110 := NB662_663.out
      have hnc110 := NB663_662.out
      have hnb111 := NB662_664.out
      have hnc111 := NB664_662.out
      have hcz112_0 : wc.cell? ⟨gb662, 0, none⟩ = some (.bool a0_0) := (jI BK662.out 0).trans rfl
      have hcz112_1 : wc.cell? ⟨gb662, 1, none⟩ = some (.slice A0_1 l0_1.length c0_1) := (jI BK662.out 1).trans rfl
      have hcz112_2 : wc.cell? ⟨gb662, 2, none⟩ = some (.slice A0_2 l0_2.length c0_2) := (jI BK662.out 2).trans rfl
      have hfz112_0 := jK BK662.out 0
      have hfz112_1 := jK BK662.out 1
      have hfz112_2 := jK BK662.out 2
      have hnb113 := NB663_664.out
      have hnc113 := NB664_663.out
      have hcz114_0 : wc.cell? ⟨gb663, 0, none⟩ = some (.bool a1_0) := (jI BK663.out 0).trans rfl
      have hcz114_1 : wc.cell? ⟨gb663, 1, none⟩ = some (.slice A1_1 l1_1.length c1_1) := (jI BK663.out 1).trans rfl
      have hcz114_2 : wc.cell? ⟨gb663, 2, none⟩ = some (.slice A1_2 l1_2.length c1_2) := (jI BK663.out 2).trans rfl
      have hfz114_0 := jK BK663.out 0
      have hfz114_1 := jK BK663.out 1
      have hfz114_2 := jK BK663.out 2
      go_wp2_with (first | ((with_reducible refine jD (f := 106) rfl ?_); refine gl_ (some 27) Try.func106 #[.slice A0_1 l0_1.length c0_1, .slice A1_2 l1_2.length c1_2] ?_; (with_reducible refine (jX.calls kj2 _ _ l0_1 _ _ l1_2 t667 t668 _ ?side1 ?side2 ?side3 ?side4 A25.out).mono ?_); (case side1 => exact cb_ HR0_1 HB); (case side2 => exact HC0_1.out); (case side3 => exact cb_ HR1_2 HB); (case side4 => exact HC1_2.out); rintro e w115 ⟨v669, rfl, ho0, hb⟩; refine ⟨_, rfl, ?_⟩; have HO670 := jA.mk (Kd.jL ho0 (jB (bb3_ HB GE662 GE663 GE664))); replace BK662 := bk_ BK662 hb; replace BK663 := bk_ BK663 hb; replace BK664 := bk_ BK664 hb; replace HB := jA.mk (jJ (bb3_ HB GE662 GE663 GE664) hb); obtain ⟨hcz116_0, hcz116_1, hcz116_2, hfz116_0, hfz116_1, hfz116_2⟩ := bf3_ BK663; obtain ⟨hcz117_0, hcz117_1, hcz117_2, hfz117_0, hfz117_1, hfz117_2⟩ := bf3_ BK662) | ((with_reducible refine jD (f := 106) rfl ?_); refine gl_ (some 35) Try.func106 #[.slice A1_1 l1_1.length c1_1, .slice A0_2 l0_2.length c0_2] ?_; (with_reducible refine (jX.calls kj2 _ _ l1_1 _ _ l0_2 t671 t672 _ ?side1 ?side2 ?side3 ?side4 A26.out).mono ?_); (case side1 => exact cb_ HR1_1 HB); (case side2 => exact HC1_1.out); (case side3 => exact cb_ HR0_2 HB); (case side4 => exact HC0_2.out); rintro e w118 ⟨v673, rfl, ho0, hb⟩; refine ⟨_, rfl, ?_⟩; have HO674 := jA.mk (Kd.jL (Kd.jG ho0 (Kd.R_lt (rR_ HO670))) (jB (bb3_ HB GE662 GE663 GE664))); replace HO670 := re_ HO670 ho0 hb; replace BK662 := bk_ BK662 hb; replace BK663 := bk_ BK663 hb; replace BK664 := bk_ BK664 hb; replace HB := jA.mk (jJ (bb3_ HB GE662 GE663 GE664) hb); obtain ⟨hcz119_0, hcz119_1, hcz119_2, hfz119_0, hfz119_1, hfz119_2⟩ := bf3_ BK662; obtain ⟨hcz120_0, hcz120_1, hcz120_2, hfz120_0, hfz120_1, hfz120_2⟩ := bf3_ BK663) | ((with_reducible refine jD (f := 106) rfl ?_); refine gl_ (some 43) Try.func106 #[.slice A0_2 l0_2.length c0_2, .slice A1_2 l1_2.length c1_2] ?_; (with_reducible refine (jX.calls kj2 _ _ l0_2 _ _ l1_2 t675 t676 _ ?side1 ?side2 ?side3 ?side4 A27.out).mono ?_); (case side1 => exact cb_ HR0_2 HB); (case side2 => exact HC0_2.out); (case side3 => exact cb_ HR1_2 HB); (case side4 => exact HC1_2.out); rintro e w121 ⟨v677, rfl, ho0, hb⟩; refine ⟨_, rfl, ?_⟩; have HO678 := jA.mk (Kd.jL (Kd.jG (Kd.jG ho0 (Kd.R_lt (rR_ HO670))) (Kd.R_lt (rR_ HO674))) (jB (bb3_ HB GE662 GE663 GE664))); replace HO670 := re_ HO670 ho0 hb; replace HO674 := re_ HO674 ho0 hb; replace BK662 := bk_ BK662 hb; replace BK663 := bk_ BK663 hb; replace BK664 := bk_ BK664 hb; replace HB := jA.mk (jJ (bb3_ HB GE662 GE663 GE664) hb); obtain ⟨hcz122_0, hcz122_1, hcz122_2, hfz122_0, hfz122_1, hfz122_2⟩ := bf3_ BK662; obtain ⟨Ao123, co123, rfl⟩ := Kd.jP HO670.out; obtain ⟨hcz124_0, hcz124_1, hcz124_2, hfz124_0, hfz124_1, hfz124_2⟩ := bf3_ BK663; obtain ⟨Ao125, co125, rfl⟩ := Kd.jP HO674.out) | ((with_reducible refine jD (f := 107) rfl ?_); refine gl_ (some 54) Try.func107 #[.agg #[.bool a0_0, .slice Ao123 t667.length co123], .agg #[.bool a1_0, .slice Ao125 t671.length co125]] ?_; (with_reducible refine (vB.calls kj2 a0_0 _ _ t667 a1_0 _ _ t671 t679 t680 _ ?side1 ?side2 ?side3 ?side4 A28.out).mono ?_); (case side1 => exact cc_ (Kd.jC HO670.out).2.2); (case side2 => exact (Kd.jC HO670.out).2.1); (case side3 => exact cc_ (Kd.jC HO674.out).2.2); (case side4 => exact (Kd.jC HO674.out).2.1); rintro e w126 ⟨v681, rfl, ho0, hb⟩; refine ⟨_, rfl, ?_⟩; have HO682 := jA.mk (Kd.jL (Kd.jG (Kd.jG (Kd.jG ho0 (Kd.R_lt (rR_ HO670))) (Kd.R_lt (rR_ HO674))) (Kd.R_lt (rR_ HO678))) (jB (bb3_ HB GE662 GE663 GE664))); replace HO670 := re_ HO670 ho0 hb; replace HO674 := re_ HO674 ho0 hb; replace HO678 := re_ HO678 ho0 hb; replace BK662 := bk_ BK662 hb; replace BK663 := bk_ BK663 hb; replace BK664 := bk_ BK664 hb; replace HB := jA.mk (jJ (bb3_ HB GE662 GE663 GE664) hb)) | ((with_reducible refine jW (N := 12) rfl ?_); (try (refine je (by rfl) ?_; dsimp only)); refine bx_ 12 #[.bool false, .slice none 0 0] 120 ?_; intro gb683 hg w127 hbox hb; replace HO670 := ro_ HO670 hb; replace HO674 := ro_ HO674 hb; replace HO678 := ro_ HO678 hb; replace HO682 := ro_ HO682 hb; have BK683 := jA.mk (hbox); have GW683 := jA.mk ((by rw [hg]; exact (jB (bb3_ HB GE662 GE663 GE664)) : w.heap.size ≤ gb683)); have GE683 := GW683; replace HB := jA.mk (jJ (bb3_ HB GE662 GE663 GE664) hb); have NB662_683 := jA.mk ((by rw [hg]; exact nlt_ BK662 : gb662 ≠ gb683)); have NB683_662 := jA.mk ((by rw [hg]; exact ngt_ BK662 : gb683 ≠ gb662)); replace BK662 := bk_ BK662 hb; have NB663_683 := jA.mk ((by rw [hg]; exact nlt_ BK663 : gb663 ≠ gb683)); have NB683_663 := jA.mk ((by rw [hg]; exact ngt_ BK663 : gb683 ≠ gb663)); replace BK663 := bk_ BK663 hb; have NB664_683 := jA.mk ((by rw [hg]; exact nlt_ BK664 : gb664 ≠ gb683)); have NB683_664 := jA.mk ((by rw [hg]; exact ngt_ BK664 : gb683 ≠ gb664)); replace BK664 := bk_ BK664 hb; clear hb hbox hg; have hnb128 := NB683_662.out; have hnc128 := NB662_683.out; have hnb129 := NB683_663.out; have hnc129 := NB663_683.out; have hnb130 := NB683_664.out; have hnc130 := NB664_683.out; obtain ⟨hcz131_0, hcz131_1, hfz131_0, hfz131_1⟩ := bf2_ BK683; obtain ⟨Ao132, co132, rfl⟩ := Kd.jP HO682.out; obtain ⟨hcz133_0, hcz133_1, hcz133_2, hfz133_0, hfz133_1, hfz133_2⟩ := bf3_ BK664))
      refine bodyPost_ret (za rfl _ _ gb664 44 #[.bool false, .slice none 0 0, .slice none 0 0] (0, 0) _ rfl (by refine pk_ ?_; refine jc (cs := #[.bool false, .slice none 0 0, .slice none 0 0]) ?_ 2 _ rs_; refine pk_ ?_; refine jc (cs := #[.bool false, .slice none 0 0, .slice none 0 0]) ?_ 1 _ rs_; refine pk_ ?_; refine jc (cs := #[.bool false, .slice none 0 0, .slice none 0 0]) ?_ 0 _ rs_; refine pk_ ?_; refine vP ?_ NB664_683.out _; refine pk_ ?_; refine vP ?_ NB664_683.out _; refine pk_ ?_; exact BK664.out) Try.underlying44 rfl kr_) rfl ?_
      exact ⟨_, _, ew_, nl_, nl_, (bb4_ HB GE662 GE663 GE664 GE683)⟩
    ·
     rw [if_neg c29] at H
     have c29b0 := beq_eq_false_iff_ne.mpr c29
     have c29b1 := bne_iff_ne.mpr c29
     simp only [Option.some.injEq, Prod.mk.injEq] at H
     obtain ⟨rfl, rfl, rfl, rfl⟩ := H
     have hnb134 := NB662_663.out
     have hnc134 := NB663_662.out
     have hnb135 := NB662_664.out
     have hnc135 := NB664_662.out
     have hcz136_0 : wc.cell? ⟨gb662, 0, none⟩ = some (.bool a0_0) := (jI BK662.out 0).trans rfl
     have hcz136_1 : wc.cell? ⟨gb662, 1, none⟩ = some (.slice A0_1 l0_1.length c0_1) := (jI BK662.out 1).trans rfl
     have hcz136_2 : wc.cell? ⟨gb662, 2, none⟩ = some (.slice A0_2 l0_2.length c0_2) := (jI BK662.out 2).trans rfl
     have hfz136_0 := jK BK662.out 0
     have hfz136_1 := jK BK662.out 1
     have hfz136_2 := jK BK662.out 2
     have hnb137 := NB663_664.out
     have hnc137 := NB664_663.out
     have hcz138_0 : wc.cell? ⟨gb663, 0, none⟩ = some (.bool a1_0) := (jI BK663.out 0).trans rfl
     have hcz138_1 : wc.cell? ⟨gb663, 1, none⟩ = some (.slice A1_1 l1_1.length c1_1) := (jI BK663.out 1).trans rfl
     have hcz138_2 : wc.cell? ⟨gb663, 2, none⟩ = some (.slice A1_2 l1_2.length c1_2) := (jI BK663.out 2).trans rfl
     have hfz138_0 := jK BK663.out 0
     have hfz138_1 := jK BK663.out 1
     have hfz138_2 := jK BK663.out 2
     go_wp2_with (first | ((with_reducible refine jD (f := 106) rfl ?_); refine gl_ (some 27) Try.func106 #[.slice A0_1 l0_1.length c0_1, .slice A1_2 l1_2.length c1_2] ?_; (with_reducible refine (jX.calls kj2 _ _ l0_1 _ _ l1_2 t667 t668 _ ?side1 ?side2 ?side3 ?side4 A25.out).mono ?_); (case side1 => exact cb_ HR0_1 HB); (case side2 => exact HC0_1.out); (case side3 => exact cb_ HR1_2 HB); (case side4 => exact HC1_2.out); rintro e w139 ⟨v669, rfl, ho0, hb⟩; refine ⟨_, rfl, ?_⟩; have HO670 := jA.mk (Kd.jL ho0 (jB (bb3_ HB GE662 GE663 GE664))); replace BK662 := bk_ BK662 hb; replace BK663 := bk_ BK663 hb; replace BK664 := bk_ BK664 hb; replace HB := jA.mk (jJ (bb3_ HB GE662 GE663 GE664) hb); obtain ⟨hcz140_0, hcz140_1, hcz140_2, hfz140_0, hfz140_1, hfz140_2⟩ := bf3_ BK663; obtain ⟨hcz141_0, hcz141_1, hcz141_2, hfz141_0, hfz141_1, hfz141_2⟩ := bf3_ BK662) | ((with_reducible refine jD (f := 106) rfl ?_); refine gl_ (some 35) Try.func106 #[.slice A1_1 l1_1.length c1_1, .slice A0_2 l0_2.length c0_2] ?_; (with_reducible refine (jX.calls kj2 _ _ l1_1 _ _ l0_2 t671 t672 _ ?side1 ?side2 ?side3 ?side4 A26.out).mono ?_); (case side1 => exact cb_ HR1_1 HB); (case side2 => exact HC1_1.out); (case side3 => exact cb_ HR0_2 HB); (case side4 => exact HC0_2.out); rintro e w142 ⟨v673, rfl, ho0, hb⟩; refine ⟨_, rfl, ?_⟩; have HO674 := jA.mk (Kd.jL (Kd.jG ho0 (Kd.R_lt (rR_ HO670))) (jB (bb3_ HB GE662 GE663 GE664))); replace HO670 := re_ HO670 ho0 hb; replace BK662 := bk_ BK662 hb; replace BK663 := bk_ BK663 hb; replace BK664 := bk_ BK664 hb; replace HB := jA.mk (jJ (bb3_ HB GE662 GE663 GE664) hb); obtain ⟨hcz143_0, hcz143_1, hcz143_2, hfz143_0, hfz143_1, hfz143_2⟩ := bf3_ BK662; obtain ⟨hcz144_0, hcz144_1, hcz144_2, hfz144_0, hfz144_1, hfz144_2⟩ := bf3_ BK663) | ((with_reducible refine jD (f := 106) rfl ?_); refine gl_ (some 43) Try.func106 #[.slice A0_2 l0_2.length c0_2, .slice A1_2 l1_2.length c1_2] ?_; (with_reducible refine (jX.calls kj2 _ _ l0_2 _ _ l1_2 t675 t676 _ ?side1 ?side2 ?side3 ?side4 A27.out).mono ?_); (case side1 => exact cb_ HR0_2 HB); (case side2 => exact HC0_2.out); (case side3 => exact cb_ HR1_2 HB); (case side4 => exact HC1_2.out); rintro e w145 ⟨v677, rfl, ho0, hb⟩; refine ⟨_, rfl, ?_⟩; have HO678 := jA.mk (Kd.jL (Kd.jG (Kd.jG ho0 (Kd.R_lt (rR_ HO670))) (Kd.R_lt (rR_ HO674))) (jB (bb3_ HB GE662 GE663 GE664))); replace HO670 := re_ HO670 ho0 hb; replace HO674 := re_ HO674 ho0 hb; replace BK662 := bk_ BK662 hb; replace BK663 := bk_ BK663 hb; replace BK664 := bk_ BK664 hb; replace HB := jA.mk (jJ (bb3_ HB GE662 GE663 GE664) hb); obtain ⟨hcz146_0, hcz146_1, hcz146_2, hfz146_0, hfz146_1, hfz146_2⟩ := bf3_ BK662; obtain ⟨Ao147, co147, rfl⟩ := Kd.jP HO670.out; obtain ⟨hcz148_0, hcz148_1, hcz148_2, hfz148_0, hfz148_1, hfz148_2⟩ := bf3_ BK663; obtain ⟨Ao149, co149, rfl⟩ := Kd.jP HO674.out) | ((with_reducible refine jD (f := 107) rfl ?_); refine gl_ (some 54) Try.func107 #[.agg #[.bool a0_0, .slice Ao147 t667.length co147], .agg #[.bool a1_0, .slice Ao149 t671.length co149]] ?_; (with_reducible refine (vB.calls kj2 a0_0 _ _ t667 a1_0 _ _ t671 t679 t680 _ ?side1 ?side2 ?side3 ?side4 A28.out).mono ?_); (case side1 => exact cc_ (Kd.jC HO670.out).2.2); (case side2 => exact (Kd.jC HO670.out).2.1); (case side3 => exact cc_ (Kd.jC HO674.out).2.2); (case side4 => exact (Kd.jC HO674.out).2.1); rintro e w150 ⟨v681, rfl, ho0, hb⟩; refine ⟨_, rfl, ?_⟩; have HO682 := jA.mk (Kd.jL (Kd.jG (Kd.jG (Kd.jG ho0 (Kd.R_lt (rR_ HO670))) (Kd.R_lt (rR_ HO674))) (Kd.R_lt (rR_ HO678))) (jB (bb3_ HB GE662 GE663 GE664))); replace HO670 := re_ HO670 ho0 hb; replace HO674 := re_ HO674 ho0 hb; replace HO678 := re_ HO678 ho0 hb; replace BK662 := bk_ BK662 hb; replace BK663 := bk_ BK663 hb; replace BK664 := bk_ BK664 hb; replace HB := jA.mk (jJ (bb3_ HB GE662 GE663 GE664) hb)) | ((with_reducible refine jW (N := 12) rfl ?_); (try (refine je (by rfl) ?_; dsimp only)); refine bx_ 12 #[.bool false, .slice none 0 0] 120 ?_; intro gb683 hg w151 hbox hb; replace HO670 := ro_ HO670 hb; replace HO674 := ro_ HO674 hb; replace HO678 := ro_ HO678 hb; replace HO682 := ro_ HO682 hb; have BK683 := jA.mk (hbox); have GW683 := jA.mk ((by rw [hg]; exact (jB (bb3_ HB GE662 GE663 GE664)) : w.heap.size ≤ gb683)); have GE683 := GW683; replace HB := jA.mk (jJ (bb3_ HB GE662 GE663 GE664) hb); have NB662_683 := jA.mk ((by rw [hg]; exact nlt_ BK662 : gb662 ≠ gb683)); have NB683_662 := jA.mk ((by rw [hg]; exact ngt_ BK662 : gb683 ≠ gb662)); replace BK662 := bk_ BK662 hb; have NB663_683 := jA.mk ((by rw [hg]; exact nlt_ BK663 : gb663 ≠ gb683)); have NB683_663 := jA.mk ((by rw [hg]; exact ngt_ BK663 : gb683 ≠ gb663)); replace BK663 := bk_ BK663 hb; have NB664_683 := jA.mk ((by rw [hg]; exact nlt_ BK664 : gb664 ≠ gb683)); have NB683_664 := jA.mk ((by rw [hg]; exact ngt_ BK664 : gb683 ≠ gb664)); replace BK664 := bk_ BK664 hb; clear hb hbox hg; have hnb152 := NB683_662.out; have hnc152 := NB662_683.out; have hnb153 := NB683_663.out; have hnc153 := NB663_683.out; have hnb154 := NB683_664.out; have hnc154 := NB664_683.out; obtain ⟨hcz155_0, hcz155_1, hfz155_0, hfz155_1⟩ := bf2_ BK683; obtain ⟨Ao156, co156, rfl⟩ := Kd.jP HO682.out; obtain ⟨hcz157_0, hcz157_1, hcz157_2, hfz157_0, hfz157_1, hfz157_2⟩ := bf3_ BK664))
     refine bodyPost_ret (za rfl _ _ gb664 44 #[.bool false, .slice none 0 0, .slice none 0 0] (0, 0) _ rfl (by refine pk_ ?_; refine jc (cs := #[.bool false, .slice none 0 0, .slice none 0 0]) ?_ 2 _ rs_; refine pk_ ?_; refine jc (cs := #[.bool false, .slice none 0 0, .slice none 0 0]) ?_ 1 _ rs_; refine pk_ ?_; refine jc (cs := #[.bool false, .slice none 0 0, .slice none 0 0]) ?_ 0 _ rs_; refine pk_ ?_; refine vP ?_ NB664_683.out _; refine pk_ ?_; refine vP ?_ NB664_683.out _; refine pk_ ?_; exact BK664.out) Try.underlying44 rfl kr_) rfl ?_
     exact ⟨_, _, ew_, nl_, nl_, (bb4_ HB GE662 GE663 GE664 GE683)⟩
end Go.Proofs.Ytijgeonhbmgikaa.PORatioMakes
