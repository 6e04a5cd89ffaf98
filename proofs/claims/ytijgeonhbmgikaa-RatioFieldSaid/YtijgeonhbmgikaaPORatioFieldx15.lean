-- printed (pr.py)
import Derived.Test.YtijgeonhbmgikaaPORatioFieldx10
import Derived.Test.YtijgeonhbmgikaaPORatioFieldx14
namespace Go.Proofs.Ytijgeonhbmgikaa.PORatioField
open Go.RowKit Go.Proofs.YtijgeonhbmgikaaN Go.Proofs.YtijgeonhbmgikaaW.PrintWords Go.Proofs.YtijgeonhbmgikaaW.PrintLast Go.Proofs.YtijgeonhbmgikaaW.PrintMore
attribute [local go_sem] qH qF qg qd zq zo qG qE
set_option maxHeartbeats 8000000
set_option maxRecDepth 100000
set_option linter.unusedVariables false
set_option linter.unusedSimpArgs false
mutual
def jU.j0 : Nat → List Int → List Int → Bool → Option (List Int × Int)
 | 0, _, _, _ => none
 | k + 1, x0, x1, x16 => if x16 = true then (some (([] : List Int), 1)) else (jU.l0 k x0 x1)
def jU.l0 : Nat → List Int → List Int → Option (List Int × Int)
 | 0, _, _ => none
 | k + 1, x0, x1 => if (x1.length : Int) > 0 then ((jD.f k x0 x1).bind fun bt570 => (jU.l0 k x1 bt570.2.1)) else (some (x0, 0))
end
def jU.f (k : Nat) (l0 : List Int) (l1 : List Int) : Option (List Int × Int) := (vK.f l0).bind fun t568 => (if t568 = true then ((vK.f l1).bind fun t569 => (jU.j0 k l0 l1 (!t569))) else (jU.j0 k l0 l1 true))
theorem jU.vS : ∀ k, (∀ y0 y1 y2, LeO (jU.j0 k y0 y1 y2) (jU.j0 (k + 1) y0 y1 y2)) ∧ (∀ y0 y1, LeO (jU.l0 k y0 y1) (jU.l0 (k + 1) y0 y1))
 | 0 => ⟨fun _ _ _ r h => by simp [jU.j0] at h, fun _ _ r h => by simp [jU.l0] at h⟩
 | k + 1 => by
  obtain ⟨ih0, ih1⟩ := jU.vS k
  refine ⟨?_, ?_⟩ <;> (intros; first | unfold jU.j0 | unfold jU.l0) <;> repeat' first
   | (with_reducible exact ih0 _ _ _)
   | (with_reducible exact ih1 _ _)
   | (with_reducible exact jD.mono _ _ _)
   | (with_reducible exact LeO.refl _)
   | (with_reducible exact LeO.none _)
   | (with_reducible refine LeO.ite ?_ ?_)
   | (with_reducible refine LeO.bind ?_ (fun _ => ?_))
theorem jU.mono : ∀ a0 a1 k, LeO (jU.f k a0 a1) (jU.f (k + 1) a0 a1) := by
 intro a0 a1 k
 obtain ⟨ih0, ih1⟩ := jU.vS k
 unfold jU.f
 repeat' first
   | (with_reducible exact ih0 _ _ _)
   | (with_reducible exact ih1 _ _)
   | (with_reducible exact jD.mono _ _ _)
   | (with_reducible exact LeO.refl _)
   | (with_reducible exact LeO.none _)
   | (with_reducible refine LeO.ite ?_ ?_)
   | (with_reducible refine LeO.bind ?_ (fun _ => ?_))
theorem jU.calls (k : Nat) (P0_ : Nat → Prop) (A0 : Option Addr) (c0 : Nat) (l0 : List Int) (P1_ : Nat → Prop) (A1 : Option Addr) (c1 : Nat) (l1 : List Int) (r1 : List Int) (r2 : Int) (w : World) (hs0 : Kd.V (Kd.int .u64) 22 w w.heap.size (fun k_ => P0_ k_) (.slice A0 l0.length c0) l0) (hs1 : Kd.V (Kd.int .u64) 22 w w.heap.size (fun k_ => P1_ k_) (.slice A1 l1.length c1) l1) (h : jU.f k l0 l1 = some (r1, r2)) :
  Calls Try.prog 77 #[.slice A0 l0.length c0, .slice A1 l1.length c1] w fun e w' => ∃ v0_ : Value, e = .returned (.tuple #[v0_, .int .i64 r2]) ∧ Kd.V (Kd.int .u64) 22 w' w.heap.size (fun k_ => ((P0_ k_ ∨ P1_ k_) ∨ w.heap.size ≤ k_)) v0_ r1 ∧ Below w.heap.size w w' := by
 have HO0 := jA.mk (show Kd.V (Kd.int .u64) 22 w w.heap.size (fun k_ => ((P0_ k_ ∨ P1_ k_) ∨ w.heap.size ≤ k_)) (.slice A0 l0.length c0) l0 from Kd.vZ hs0 (fun k_ hk => .inl (.inl hk)))
 have HO1 := jA.mk (show Kd.V (Kd.int .u64) 22 w w.heap.size (fun k_ => ((P0_ k_ ∨ P1_ k_) ∨ w.heap.size ≤ k_)) (.slice A1 l1.length c1) l1 from Kd.vZ hs1 (fun k_ hk => .inl (.inr hk)))
 have HB := jA.mk (Below.refl w.heap.size w)
 have H : ((vK.f l0).bind fun t568 => (if t568 = true then ((vK.f l1).bind fun t569 => (jU.j0 k l0 l1 (!t569))) else (jU.j0 k l0 l1 true))) = some (r1, r2) := h
 clear h
 have HC3 := jA.mk H
 clear H
 go_enter Try.func77, Try.ntmps77
 go_upto_region 1 with (fail)
 go_cut [16] (fun v16 wc => ∃ (kq : Nat) (x16_2 : Bool), v16 = .bool x16_2 ∧ jA (jU.j0 kq l0 l1 x16_2 = some (r1, r2)) ∧ jA (kq ≤ k) ∧ jA (Kd.V (Kd.int .u64) 22 wc w.heap.size (fun k_ => ((P0_ k_ ∨ P1_ k_) ∨ w.heap.size ≤ k_)) (.slice A0 l0.length c0) l0) ∧ jA (Kd.V (Kd.int .u64) 22 wc w.heap.size (fun k_ => ((P0_ k_ ∨ P1_ k_) ∨ w.heap.size ≤ k_)) (.slice A1 l1.length c1) l1) ∧ jA (Below w.heap.size w wc))
 case first =>
  have H := HC3.out
  clear HC3
  obtain ⟨t568, A4, H⟩ := oc_ H
  try dsimp only at H
  by_cases c5 : t568 = true
  ·
   subst c5
   replace H := ip_ H
   obtain ⟨t569, A6, H⟩ := oc_ H
   try dsimp only at H
   have H' := jA.mk H
   clear H
   go_wp2_with (first | ((with_reducible refine jH (f := 74) rfl ?_); refine gl_ (some 10) Try.func74 #[.slice A0 l0.length c0] ?_; (with_reducible refine (vK.calls _ _ l0 true _ ?side1 ?side2 A4.out).mono ?_); (case side1 => repeat (first | exact (Kd.vD HO0.out).2.2 | (with_reducible refine Kd.zJ ?_ _) | (with_reducible refine Kd.zU ?_ _) | (with_reducible refine Kd.zx ?_))); (case side2 => exact (Kd.vD HO0.out).2.1); rintro e w' ⟨rfl, ⟨nd, rfl⟩⟩; refine ⟨_, rfl, ?_⟩) | ((with_reducible refine jX (N := 14) rfl ?_); refine jr (by first | rfl | kernel_rfl) ?_; dsimp only; (with_reducible refine jH (f := 74) rfl ?_); refine gl_ (some 14) Try.func74 #[.slice A1 l1.length c1] ?_; (with_reducible refine (vK.calls _ _ l1 t569 _ ?side1 ?side2 A6.out).mono ?_); (case side1 => repeat (first | exact (Kd.vD HO1.out).2.2 | (with_reducible refine Kd.zJ ?_ _) | (with_reducible refine Kd.zU ?_ _) | (with_reducible refine Kd.zx ?_))); (case side2 => exact (Kd.vD HO1.out).2.1); rintro e w' ⟨rfl, ⟨nd, rfl⟩⟩; refine ⟨_, rfl, ?_⟩))
   go_meet
   case rel => exact ⟨_, (!t569), sd_, H', ⟨by first | omega | exact Nat.le_refl _⟩, ⟨(rV_ HO0)⟩, ⟨(rV_ HO1)⟩, ⟨(bb_ HB)⟩⟩
  ·
   replace c5 := Bool.eq_false_iff.mpr c5
   subst c5
   replace H := in_ H
   have H' := jA.mk H
   clear H
   go_wp2_with (first | ((with_reducible refine jH (f := 74) rfl ?_); refine gl_ (some 10) Try.func74 #[.slice A0 l0.length c0] ?_; (with_reducible refine (vK.calls _ _ l0 false _ ?side1 ?side2 A4.out).mono ?_); (case side1 => repeat (first | exact (Kd.vD HO0.out).2.2 | (with_reducible refine Kd.zJ ?_ _) | (with_reducible refine Kd.zU ?_ _) | (with_reducible refine Kd.zx ?_))); (case side2 => exact (Kd.vD HO0.out).2.1); rintro e w' ⟨rfl, ⟨nd, rfl⟩⟩; refine ⟨_, rfl, ?_⟩))
   go_meet
   case rel => exact ⟨_, (true), sd_, H', ⟨by first | omega | exact Nat.le_refl _⟩, ⟨(rV_ HO0)⟩, ⟨(rV_ HO1)⟩, ⟨(bb_ HB)⟩⟩
 case rest =>
  clear HC3
  try clear c1
  try clear p2
  try clear c5
  obtain ⟨kq, x16_2, rfl, HA, HJ2, HO_0, HO_1, HB⟩ := hcut
  cases kq with
  | zero => exact absurd HA.out (by simp [jU.j0])
  | succ kj2 =>
   have H := HA.out
   clear HA
   simp only [jU.j0] at H
   by_cases c7 : x16_2 = true
   ·
    subst c7
    replace H := ip_ H
    simp only [Option.some.injEq, Prod.mk.injEq] at H
    obtain ⟨rfl, rfl⟩ := H
    go_wp2
    go_ret2
    exact ⟨_, ew_, Kd.jIw _ _ _ _ _, (bb_ HB)⟩
   ·
    replace c7 := Bool.eq_false_iff.mpr c7
    subst c7
    replace H := in_ H
    have H' := jA.mk H
    clear H
    go_wp2
    go_loopg [0, 1] kj2 (fun kq v0 v1 w' => ∃ (x0_2 : List Int) (x1_2 : List Int), jA (jU.l0 kq x0_2 x1_2 = some (r1, r2)) ∧ jA (kq ≤ kj2) ∧ jA (Kd.V (Kd.int .u64) 22 w' w.heap.size (fun k_ => ((P0_ k_ ∨ P1_ k_) ∨ w.heap.size ≤ k_)) v0 x0_2) ∧ jA (Kd.V (Kd.int .u64) 22 w' w.heap.size (fun k_ => ((P0_ k_ ∨ P1_ k_) ∨ w.heap.size ≤ k_)) v1 x1_2) ∧ jA (Below w.heap.size w w'))
    case atStart => exact ⟨(l0), (l1), H', ⟨Nat.le_refl _⟩, ⟨(rV_ HO_0)⟩, ⟨(rV_ HO_1)⟩, ⟨(bb_ HB)⟩⟩
    case round =>
     clear H'
     try clear c1
     try clear p2
     try clear c5
     try clear c7
     try clear p2
     obtain ⟨x0_2, x1_2, HA, HK2, HO_0, HO_1, HB⟩ := hrel
     cases gk with
     | zero => exact absurd HA.out (by simp [jU.l0])
     | succ k2 =>
      have H := HA.out
      clear HA
      simp only [jU.l0] at H
      by_cases c8 : (x1_2.length : Int) > 0
      ·
       rw [if_pos c8] at H
       have c8b0 := decide_eq_true c8
       have c8b1 : decide (0 < x1_2.length) = true := decide_eq_true (by omega)
       clear c8
       replace H := ob_ H
       obtain ⟨⟨t570, t571, t572⟩, A90, H⟩ := H
       try dsimp only at H
       have A9 := jA.mk A90
       clear A90
       have H' := jA.mk H
       clear H
       obtain ⟨Ao10, co10, eo10⟩ := Kd.zR HO_1.out
       subst eo10
       obtain ⟨Ao11, co11, eo11⟩ := Kd.zR HO_0.out
       subst eo11
       go_wp2_with (first | ((with_reducible refine jH (f := 78) rfl ?_); refine gl_ (some 23) Try.func78 #[.slice Ao11 x0_2.length co11, .slice Ao10 x1_2.length co10] ?_; (with_reducible refine (jD.calls k2 _ _ x0_2 _ _ x1_2 t570 t571 t572 _ ?side1 ?side2 ?side3 ?side4 A9.out).mono ?_); (case side1 => repeat (first | exact (Kd.vD HO_0.out).2.2 | (with_reducible refine Kd.zJ ?_ _) | (with_reducible refine Kd.zU ?_ _) | (with_reducible refine Kd.zx ?_))); (case side2 => exact (Kd.vD HO_0.out).2.1); (case side3 => repeat (first | exact (Kd.vD HO_1.out).2.2 | (with_reducible refine Kd.zJ ?_ _) | (with_reducible refine Kd.zU ?_ _) | (with_reducible refine Kd.zx ?_))); (case side4 => exact (Kd.vD HO_1.out).2.1); rintro e w12 ⟨v573, v575, rfl, ho0, ho1, hb⟩; refine ⟨_, rfl, ?_⟩; replace HO_0 := jA.mk (Kd.vZ (Kd.jAr (Kd.jAr (Kd.jEb (rV_ HO_0) hb) (Kd.vB ho0)) (Kd.vB ho1)) (fun _ h_ => h_.1)); replace HO_1 := jA.mk (Kd.vZ (Kd.jAr (Kd.jAr (Kd.jEb (rV_ HO_1) hb) (Kd.vB ho0)) (Kd.vB ho1)) (fun _ h_ => h_.1)); have HO574 := jA.mk (Kd.jN (Kd.jBm (M := fun k_ => (w.heap.size ≤ k_)) ho0 (jC (bb_ HB)) (fun k_ h_ => h_)) (jC (bb_ HB))); have HO576 := jA.mk (Kd.jN (Kd.jBm (M := fun k_ => (w.heap.size ≤ k_)) ho1 (jC (bb_ HB)) (fun k_ h_ => h_)) (jC (bb_ HB))); replace HB := bs_ HB hb))
       go_roundg k2
       case measure => have := HJ2.out; have := HK2.out; omega
       case rel => exact ⟨(x1_2), (t571), H', ⟨by have := HJ2.out; have := HK2.out; omega⟩, ⟨by (with_reducible repeat (first | apply Kd.jCi | apply Kd.jCh | apply Kd.jDC)); exact Kd.vZ HO_1.out (fun _ hk => hk.1.1)⟩, ⟨Kd.vZ (Kd.R_V (by refine pR_ ?_; exact Kd.jT HO576.out (fun _ hk => hk.1))) (fun k_ hk => by first | exact ⟨(.inr (hk.1)), hk.2⟩ | exact (.inr (hk)))⟩, ⟨(bb_ HB)⟩⟩
      ·
       rw [if_neg c8] at H
       have c8b0 := decide_eq_false c8
       have c8b1 : decide (0 < x1_2.length) = false := decide_eq_false (by omega)
       clear c8
       simp only [Option.some.injEq, Prod.mk.injEq] at H
       obtain ⟨rfl, rfl⟩ := H
       obtain ⟨Ao13, co13, eo13⟩ := Kd.zR HO_1.out
       subst eo13
       go_wp2
       go_ret2
       exact ⟨_, ew_, (rV_ HO_0), (bb_ HB)⟩
def vk.f (k : Nat) (a0 : Bool) (l1 : List Int) (l2 : List Int) : Option (Bool × List Int × List Int × Int) := (jU.f k l1 l2).bind fun bt578 => (if bt578.2 = 0 then (if (l2.length : Int) = 0 then (some (false, ([] : List Int), ([] : List Int), 30)) else ((jD.f k l1 bt578.1).bind fun bt582 => ((jD.f k l2 bt578.1).bind fun bt589 => (if a0 = true then (some (decide ((bt582.1.length : Int) > 0), bt582.1, bt589.1, 0)) else (some (false, bt582.1, bt589.1, 0)))))) else (some (false, ([] : List Int), ([] : List Int), bt578.2)))
theorem vk.mono : ∀ a0 a1 a2 k, LeO (vk.f k a0 a1 a2) (vk.f (k + 1) a0 a1 a2) := by
 intro a0 a1 a2 k
 unfold vk.f
 repeat' first
   | (with_reducible exact jD.mono _ _ _)
   | (with_reducible exact jU.mono _ _ _)
   | (with_reducible exact LeO.refl _)
   | (with_reducible exact LeO.none _)
   | (with_reducible refine LeO.ite ?_ ?_)
   | (with_reducible refine LeO.bind ?_ (fun _ => ?_))
theorem vk.calls (k : Nat) (a0 : Bool) (A1 : Option Addr) (c1 : Nat) (l1 : List Int) (A2 : Option Addr) (c2 : Nat) (l2 : List Int) (r1 : Bool) (r2 : List Int) (r3 : List Int) (r4 : Int) (w : World) (hr1 : Kd.C (Kd.int .u64) w A1 l1.length l1) (hc1 : l1.length ≤ c1) (hr2 : Kd.C (Kd.int .u64) w A2 l2.length l2) (hc2 : l2.length ≤ c2) (h : vk.f k a0 l1 l2 = some (r1, r2, r3, r4)) :
  Calls Try.prog 36 #[.bool a0, .slice A1 l1.length c1, .slice A2 l2.length c2] w fun e w' => ∃ v1_ v2_ : Value, e = .returned (.tuple #[.agg #[.bool r1, v1_, v2_], .int .i64 r4]) ∧ Kd.R (Kd.int .u64) 22 w' w.heap.size (fun k_ => some k_ ≠ (v2_ : Value).ownBlock) v1_ r2 ∧ Kd.R (Kd.int .u64) 22 w' w.heap.size (fun k_ => some k_ ≠ (v1_ : Value).ownBlock) v2_ r3 ∧ Below w.heap.size w w' := by
 have hu44 := Try.underlying44
 have HR1 := jA.mk hr1
 have HC1 := jA.mk hc1
 clear hr1 hc1
 have HR2 := jA.mk hr2
 have HC2 := jA.mk hc2
 clear hr2 hc2
 have HB := jA.mk (Below.refl w.heap.size w)
 have H : ((jU.f k l1 l2).bind fun bt578 => (if bt578.2 = 0 then (if (l2.length : Int) = 0 then (some (false, ([] : List Int), ([] : List Int), 30)) else ((jD.f k l1 bt578.1).bind fun bt582 => ((jD.f k l2 bt578.1).bind fun bt589 => (if a0 = true then (some (decide ((bt582.1.length : Int) > 0), bt582.1, bt589.1, 0)) else (some (false, bt582.1, bt589.1, 0)))))) else (some (false, ([] : List Int), ([] : List Int), bt578.2)))) = some (r1, r2, r3, r4) := h
 clear h
 replace H := ob_ H
 obtain ⟨⟨t578, t581⟩, A40, H⟩ := H
 try dsimp only at H
 have A4 := jA.mk A40
 clear A40
 by_cases c5 : t581 = 0
 ·
  rw [if_pos c5] at H
  have c5b0 := beq_iff_eq.mpr c5
  have c5b1 := bne_eq_false_iff_eq.mpr c5
  clear c5
  by_cases c6 : (l2.length : Int) = 0
  ·
   rw [if_pos c6] at H
   have c6b0 := beq_iff_eq.mpr c6
   have c6b1 := bne_eq_false_iff_eq.mpr c6
   clear c6
   simp only [Option.some.injEq, Prod.mk.injEq] at H
   obtain ⟨rfl, rfl, rfl, rfl⟩ := H
   go_enter Try.func36, Try.ntmps36
   go_wp2_with (first | ((with_reducible refine jX (N := 6) rfl ?_); (try (refine jr (by rfl) ?_; dsimp only)); refine bx_ 6 #[.bool false, .slice none 0 0, .slice none 0 0] 44 ?_; intro gb577 hg w7 hbox hb; have BK577 := jA.mk (hbox); have GW577 := jA.mk ((by rw [hg]; exact (jC (bb_ HB)) : w.heap.size ≤ gb577)); have GE577 := GW577; replace HB := bs_ HB hb; clear hb hbox hg) | ((with_reducible refine jH (f := 77) rfl ?_); refine gl_ (some 19) Try.func77 #[.slice A1 l1.length c1, .slice A2 l2.length c2] ?_; (with_reducible refine (jU.calls k (fun k_ => k_ < w.heap.size) _ _ l1 (fun k_ => k_ < w.heap.size) _ _ l2 t578 t581 _ ?side1 ?side2 A4.out).mono ?_); (case side1 => exact Kd.V_mk HC1.out (Kd.zk (Kd.C_F (Kd.zH .u64) HR1.out) (bb1_ HB GE577))); (case side2 => exact Kd.V_mk HC2.out (Kd.zk (Kd.C_F (Kd.zH .u64) HR2.out) (bb1_ HB GE577))); rintro e w8 ⟨v579, rfl, ho0, hb⟩; refine ⟨_, rfl, ?_⟩; have HO580 := jA.mk (Kd.zh (Kd.vZ (ok' := fun k_ => k_ ≠ gb577) ho0 (fun k_ hk_ => Or.elim hk_ (fun hs_ => Or.elim hs_ (fun hs_ => fun e_ => Nat.not_le.2 hs_ (by rw [e_]; exact GW577.out)) (fun hs_ => fun e_ => Nat.not_le.2 hs_ (by rw [e_]; exact GW577.out))) (fun hn_ => (Kd.jAI (g := gb577) (o := .cells #[.bool false, .slice none 0 0, .slice none 0 0] 44 (0, 0)) (kb_ BK577) k_ hn_)))) (jC (bb1_ HB GE577))); replace BK577 := bk_ BK577 hb; replace HB := jA.mk (jI (bb1_ HB GE577) hb); obtain ⟨hcz9_0, hcz9_1, hcz9_2, hfz9_0, hfz9_1, hfz9_2⟩ := bf3_ BK577))
   refine bodyPost_ret (zn rfl _ _ gb577 44 #[.bool false, .slice none 0 0, .slice none 0 0] (0, 0) _ rfl (by refine pk_ ?_; refine jm (cs := #[.bool false, .slice none 0 0, .slice none 0 0]) ?_ 2 _ rs_; refine pk_ ?_; refine jm (cs := #[.bool false, .slice none 0 0, .slice none 0 0]) ?_ 1 _ rs_; refine pk_ ?_; refine jm (cs := #[.bool false, .slice none 0 0, .slice none 0 0]) ?_ 0 _ rs_; refine pk_ ?_; exact BK577.out) Try.underlying44 rfl kr_) rfl ?_
   exact ⟨_, _, ew_, nl_, nl_, (bb1_ HB GE577)⟩
  ·
   rw [if_neg c6] at H
   have c6b0 := beq_eq_false_iff_ne.mpr c6
   have c6b1 := bne_iff_ne.mpr c6
   have c6b2 : ¬ (l2 = []) := fun h_ => c6 (by rw [h_]; rfl)
   replace H := ob_ H
   obtain ⟨⟨t582, t583, t584⟩, A100, H⟩ := H
   try dsimp only at H
   have A10 := jA.mk A100
   clear A100
   replace H := ob_ H
   obtain ⟨⟨t589, t590, t591⟩, A110, H⟩ := H
   try dsimp only at H
   have A11 := jA.mk A110
   clear A110
   by_cases c12 : a0 = true
   ·
    subst c12
    replace H := ip_ H
    simp only [Option.some.injEq, Prod.mk.injEq] at H
    obtain ⟨rfl, rfl, rfl, rfl⟩ := H
    go_enter Try.func36, Try.ntmps36
    go_wp2_with (first | ((with_reducible refine jX (N := 6) rfl ?_); (try (refine jr (by rfl) ?_; dsimp only)); refine bx_ 6 #[.bool false, .slice none 0 0, .slice none 0 0] 44 ?_; intro gb577 hg w13 hbox hb; have BK577 := jA.mk (hbox); have GW577 := jA.mk ((by rw [hg]; exact (jC (bb_ HB)) : w.heap.size ≤ gb577)); have GE577 := GW577; replace HB := bs_ HB hb; clear hb hbox hg) | ((with_reducible refine jH (f := 77) rfl ?_); refine gl_ (some 19) Try.func77 #[.slice A1 l1.length c1, .slice A2 l2.length c2] ?_; (with_reducible refine (jU.calls k (fun k_ => k_ < w.heap.size) _ _ l1 (fun k_ => k_ < w.heap.size) _ _ l2 t578 t581 _ ?side1 ?side2 A4.out).mono ?_); (case side1 => exact Kd.V_mk HC1.out (Kd.zk (Kd.C_F (Kd.zH .u64) HR1.out) (bb1_ HB GE577))); (case side2 => exact Kd.V_mk HC2.out (Kd.zk (Kd.C_F (Kd.zH .u64) HR2.out) (bb1_ HB GE577))); rintro e w14 ⟨v579, rfl, ho0, hb⟩; refine ⟨_, rfl, ?_⟩; have HO580 := jA.mk (Kd.zh (Kd.vZ (ok' := fun k_ => k_ ≠ gb577) ho0 (fun k_ hk_ => Or.elim hk_ (fun hs_ => Or.elim hs_ (fun hs_ => fun e_ => Nat.not_le.2 hs_ (by rw [e_]; exact GW577.out)) (fun hs_ => fun e_ => Nat.not_le.2 hs_ (by rw [e_]; exact GW577.out))) (fun hn_ => (Kd.jAI (g := gb577) (o := .cells #[.bool false, .slice none 0 0, .slice none 0 0] 44 (0, 0)) (kb_ BK577) k_ hn_)))) (jC (bb1_ HB GE577))); replace BK577 := bk_ BK577 hb; replace HB := jA.mk (jI (bb1_ HB GE577) hb); obtain ⟨Ao15, co15, rfl⟩ := Kd.zR HO580.out) | ((with_reducible refine jH (f := 78) rfl ?_); refine gl_ (some 33) Try.func78 #[.slice A1 l1.length c1, .slice Ao15 t578.length co15] ?_; (with_reducible refine (jD.calls k _ _ l1 _ _ t578 t582 t583 t584 _ ?side1 ?side2 ?side3 ?side4 A10.out).mono ?_); (case side1 => exact cb_ HR1 HB); (case side2 => exact HC1.out); (case side3 => repeat (first | exact (Kd.vD HO580.out).2.2 | (with_reducible refine Kd.zJ ?_ _) | (with_reducible refine Kd.zU ?_ _) | (with_reducible refine Kd.zx ?_))); (case side4 => exact (Kd.vD HO580.out).2.1); rintro e w16 ⟨v585, v587, rfl, ho0, ho1, hb⟩; refine ⟨_, rfl, ?_⟩; replace HO580 := jA.mk (Kd.vZ (Kd.jAr (Kd.jAr (Kd.jEb (rV_ HO580) hb) (Kd.vB ho0)) (Kd.vB ho1)) (fun _ h_ => h_.1)); have HO586 := jA.mk (Kd.jN ho0 (jC (bb1_ HB GE577))); have HO588 := jA.mk (Kd.jN ho1 (jC (bb1_ HB GE577))); replace BK577 := bk_ BK577 hb; replace HB := jA.mk (jI (bb1_ HB GE577) hb)) | ((with_reducible refine jH (f := 78) rfl ?_); refine gl_ (some 40) Try.func78 #[.slice A2 l2.length c2, .slice Ao15 t578.length co15] ?_; (with_reducible refine (jD.calls k _ _ l2 _ _ t578 t589 t590 t591 _ ?side1 ?side2 ?side3 ?side4 A11.out).mono ?_); (case side1 => exact cb_ HR2 HB); (case side2 => exact HC2.out); (case side3 => repeat (first | exact (Kd.vD HO580.out).2.2 | (with_reducible refine Kd.zJ ?_ _) | (with_reducible refine Kd.zU ?_ _) | (with_reducible refine Kd.zx ?_))); (case side4 => exact (Kd.vD HO580.out).2.1); rintro e w17 ⟨v592, v594, rfl, ho0, ho1, hb⟩; refine ⟨_, rfl, ?_⟩; replace HO580 := jA.mk (Kd.vZ (Kd.jAr (Kd.jAr (Kd.jEb (rV_ HO580) hb) (Kd.vB ho0)) (Kd.vB ho1)) (fun _ h_ => h_.1)); have HO593 := jA.mk (Kd.jN (Kd.jL (Kd.jL ho0 (Kd.R_lt (rR_ HO586))) (Kd.R_lt (rR_ HO588))) (jC (bb1_ HB GE577))); have HO595 := jA.mk (Kd.jN (Kd.jL (Kd.jL ho1 (Kd.R_lt (rR_ HO586))) (Kd.R_lt (rR_ HO588))) (jC (bb1_ HB GE577))); replace HO586 := jA.mk (Kd.jT (Kd.zQ (Kd.zQ (Kd.jAf (rR_ HO586) hb) (Kd.vB ho0)) (Kd.vB ho1)) (fun _ h_ => h_.1)); replace HO588 := jA.mk (Kd.jT (Kd.zQ (Kd.zQ (Kd.jAf (rR_ HO588) hb) (Kd.vB ho0)) (Kd.vB ho1)) (fun _ h_ => h_.1)); replace BK577 := bk_ BK577 hb; replace HB := jA.mk (jI (bb1_ HB GE577) hb); obtain ⟨Ao18, co18, rfl⟩ := Kd.jV HO586.out; obtain ⟨Ao19, co19, rfl⟩ := Kd.jV HO593.out; obtain ⟨hcz20_0, hcz20_1, hcz20_2, hfz20_0, hfz20_1, hfz20_2⟩ := bf3_ BK577))
    refine bodyPost_ret (zn rfl _ _ gb577 44 #[.bool (decide ((t582.length : Int) > 0)), .slice Ao18 t582.length co18, .slice Ao19 t589.length co19] (0, 0) _ rfl (by refine pk_ ?_; refine jm (cs := #[.bool (decide ((t582.length : Int) > 0)), .slice Ao18 t582.length co18, .slice none 0 0]) ?_ 2 _ rs_; refine pk_ ?_; refine jm (cs := #[.bool (decide ((t582.length : Int) > 0)), .slice none 0 0, .slice none 0 0]) ?_ 1 _ rs_; refine pk_ ?_; refine jm (cs := #[.bool false, .slice none 0 0, .slice none 0 0]) ?_ 0 _ rs_; refine pk_ ?_; exact BK577.out) Try.underlying44 rfl kr_) rfl ?_
    exact ⟨_, _, ew_, by refine pR_ ?_; exact Kd.jT (Kd.vQ (p := ⟨gb577, 2, none⟩) (Kd.vQ (p := ⟨gb577, 1, none⟩) (Kd.vQ (p := ⟨gb577, 0, none⟩) (Kd.jZ HO586.out BK577.out (by decide)) (fun _ hk => hk.2) _) (fun _ hk => hk.2) (.slice Ao18 t582.length co18)) (fun _ hk => hk.2) (.slice Ao19 t589.length co19)) (fun _ hk => hk.1.1.2), by refine pR_ ?_; exact Kd.jT (Kd.vQ (p := ⟨gb577, 2, none⟩) (Kd.vQ (p := ⟨gb577, 1, none⟩) (Kd.vQ (p := ⟨gb577, 0, none⟩) (Kd.jZ HO593.out BK577.out (by decide)) (fun _ hk => hk.2) _) (fun _ hk => hk.2) (.slice Ao18 t582.length co18)) (fun _ hk => hk.2) (.slice Ao19 t589.length co19)) (fun _ hk => hk.1.1.2), (bb1_ HB GE577)⟩
   ·
    replace c12 := Bool.eq_false_iff.mpr c12
    subst c12
    replace H := in_ H
    simp only [Option.some.injEq, Prod.mk.injEq] at H
    obtain ⟨rfl, rfl, rfl, rfl⟩ := H
    go_enter Try.func36, Try.ntmps36
    go_wp2_with (first | ((with_reducible refine jX (N := 6) rfl ?_); (try (refine jr (by rfl) ?_; dsimp only)); refine bx_ 6 #[.bool false, .slice none 0 0, .slice none 0 0] 44 ?_; intro gb577 hg w21 hbox hb; have BK577 := jA.mk (hbox); have GW577 := jA.mk ((by rw [hg]; exact (jC (bb_ HB)) : w.heap.size ≤ gb577)); have GE577 := GW577; replace HB := bs_ HB hb; clear hb hbox hg) | ((with_reducible refine jH (f := 77) rfl ?_); refine gl_ (some 19) Try.func77 #[.slice A1 l1.length c1, .slice A2 l2.length c2] ?_; (with_reducible refine (jU.calls k (fun k_ => k_ < w.heap.size) _ _ l1 (fun k_ => k_ < w.heap.size) _ _ l2 t578 t581 _ ?side1 ?side2 A4.out).mono ?_); (case side1 => exact Kd.V_mk HC1.out (Kd.zk (Kd.C_F (Kd.zH .u64) HR1.out) (bb1_ HB GE577))); (case side2 => exact Kd.V_mk HC2.out (Kd.zk (Kd.C_F (Kd.zH .u64) HR2.out) (bb1_ HB GE577))); rintro e w22 ⟨v579, rfl, ho0, hb⟩; refine ⟨_, rfl, ?_⟩; have HO580 := jA.mk (Kd.zh (Kd.vZ (ok' := fun k_ => k_ ≠ gb577) ho0 (fun k_ hk_ => Or.elim hk_ (fun hs_ => Or.elim hs_ (fun hs_ => fun e_ => Nat.not_le.2 hs_ (by rw [e_]; exact GW577.out)) (fun hs_ => fun e_ => Nat.not_le.2 hs_ (by rw [e_]; exact GW577.out))) (fun hn_ => (Kd.jAI (g := gb577) (o := .cells #[.bool false, .slice none 0 0, .slice none 0 0] 44 (0, 0)) (kb_ BK577) k_ hn_)))) (jC (bb1_ HB GE577))); replace BK577 := bk_ BK577 hb; replace HB := jA.mk (jI (bb1_ HB GE577) hb); obtain ⟨Ao23, co23, rfl⟩ := Kd.zR HO580.out) | ((with_reducible refine jH (f := 78) rfl ?_); refine gl_ (some 33) Try.func78 #[.slice A1 l1.length c1, .slice Ao23 t578.length co23] ?_; (with_reducible refine (jD.calls k _ _ l1 _ _ t578 t582 t583 t584 _ ?side1 ?side2 ?side3 ?side4 A10.out).mono ?_); (case side1 => exact cb_ HR1 HB); (case side2 => exact HC1.out); (case side3 => repeat (first | exact (Kd.vD HO580.out).2.2 | (with_reducible refine Kd.zJ ?_ _) | (with_reducible refine Kd.zU ?_ _) | (with_reducible refine Kd.zx ?_))); (case side4 => exact (Kd.vD HO580.out).2.1); rintro e w24 ⟨v585, v587, rfl, ho0, ho1, hb⟩; refine ⟨_, rfl, ?_⟩; replace HO580 := jA.mk (Kd.vZ (Kd.jAr (Kd.jAr (Kd.jEb (rV_ HO580) hb) (Kd.vB ho0)) (Kd.vB ho1)) (fun _ h_ => h_.1)); have HO586 := jA.mk (Kd.jN ho0 (jC (bb1_ HB GE577))); have HO588 := jA.mk (Kd.jN ho1 (jC (bb1_ HB GE577))); replace BK577 := bk_ BK577 hb; replace HB := jA.mk (jI (bb1_ HB GE577) hb)) | ((with_reducible refine jH (f := 78) rfl ?_); refine gl_ (some 40) Try.func78 #[.slice A2 l2.length c2, .slice Ao23 t578.length co23] ?_; (with_reducible refine (jD.calls k _ _ l2 _ _ t578 t589 t590 t591 _ ?side1 ?side2 ?side3 ?side4 A11.out).mono ?_); (case side1 => exact cb_ HR2 HB); (case side2 => exact HC2.out); (case side3 => repeat (first | exact (Kd.vD HO580.out).2.2 | (with_reducible refine Kd.zJ ?_ _) | (with_reducible refine Kd.zU ?_ _) | (with_reducible refine Kd.zx ?_))); (case side4 => exact (Kd.vD HO580.out).2.1); rintro e w25 ⟨v592, v594, rfl, ho0, ho1, hb⟩; refine ⟨_, rfl, ?_⟩; replace HO580 := jA.mk (Kd.vZ (Kd.jAr (Kd.jAr (Kd.jEb (rV_ HO580) hb) (Kd.vB ho0)) (Kd.vB ho1)) (fun _ h_ => h_.1)); have HO593 := jA.mk (Kd.jN (Kd.jL (Kd.jL ho0 (Kd.R_lt (rR_ HO586))) (Kd.R_lt (rR_ HO588))) (jC (bb1_ HB GE577))); have HO595 := jA.mk (Kd.jN (Kd.jL (Kd.jL ho1 (Kd.R_lt (rR_ HO586))) (Kd.R_lt (rR_ HO588))) (jC (bb1_ HB GE577))); replace HO586 := jA.mk (Kd.jT (Kd.zQ (Kd.zQ (Kd.jAf (rR_ HO586) hb) (Kd.vB ho0)) (Kd.vB ho1)) (fun _ h_ => h_.1)); replace HO588 := jA.mk (Kd.jT (Kd.zQ (Kd.zQ (Kd.jAf (rR_ HO588) hb) (Kd.vB ho0)) (Kd.vB ho1)) (fun _ h_ => h_.1)); replace BK577 := bk_ BK577 hb; replace HB := jA.mk (jI (bb1_ HB GE577) hb); obtain ⟨Ao26, co26, rfl⟩ := Kd.jV HO593.out; obtain ⟨Ao27, co27, rfl⟩ := Kd.jV HO586.out; obtain ⟨hcz28_0, hcz28_1, hcz28_2, hfz28_0, hfz28_1, hfz28_2⟩ := bf3_ BK577))
    refine bodyPost_ret (zn rfl _ _ gb577 44 #[.bool false, .slice Ao27 t582.length co27, .slice Ao26 t589.length co26] (0, 0) _ rfl (by refine pk_ ?_; refine jm (cs := #[.bool false, .slice Ao27 t582.length co27, .slice none 0 0]) ?_ 2 _ rs_; refine pk_ ?_; refine jm (cs := #[.bool false, .slice none 0 0, .slice none 0 0]) ?_ 1 _ rs_; refine pk_ ?_; refine jm (cs := #[.bool false, .slice none 0 0, .slice none 0 0]) ?_ 0 _ rs_; refine pk_ ?_; exact BK577.out) Try.underlying44 rfl kr_) rfl ?_
    exact ⟨_, _, ew_, by refine pR_ ?_; exact Kd.jT (Kd.vQ (p := ⟨gb577, 2, none⟩) (Kd.vQ (p := ⟨gb577, 1, none⟩) (Kd.vQ (p := ⟨gb577, 0, none⟩) (Kd.jZ HO586.out BK577.out (by decide)) (fun _ hk => hk.2) (.bool false)) (fun _ hk => hk.2) (.slice Ao27 t582.length co27)) (fun _ hk => hk.2) (.slice Ao26 t589.length co26)) (fun _ hk => hk.1.1.2), by refine pR_ ?_; exact Kd.jT (Kd.vQ (p := ⟨gb577, 2, none⟩) (Kd.vQ (p := ⟨gb577, 1, none⟩) (Kd.vQ (p := ⟨gb577, 0, none⟩) (Kd.jZ HO593.out BK577.out (by decide)) (fun _ hk => hk.2) (.bool false)) (fun _ hk => hk.2) (.slice Ao27 t582.length co27)) (fun _ hk => hk.2) (.slice Ao26 t589.length co26)) (fun _ hk => hk.1.1.2), (bb1_ HB GE577)⟩
 ·
  rw [if_neg c5] at H
  have c5b0 := beq_eq_false_iff_ne.mpr c5
  have c5b1 := bne_iff_ne.mpr c5
  simp only [Option.some.injEq, Prod.mk.injEq] at H
  obtain ⟨rfl, rfl, rfl, rfl⟩ := H
  go_enter Try.func36, Try.ntmps36
  go_wp2_with (first | ((with_reducible refine jX (N := 6) rfl ?_); (try (refine jr (by rfl) ?_; dsimp only)); refine bx_ 6 #[.bool false, .slice none 0 0, .slice none 0 0] 44 ?_; intro gb577 hg w29 hbox hb; have BK577 := jA.mk (hbox); have GW577 := jA.mk ((by rw [hg]; exact (jC (bb_ HB)) : w.heap.size ≤ gb577)); have GE577 := GW577; replace HB := bs_ HB hb; clear hb hbox hg) | ((with_reducible refine jH (f := 77) rfl ?_); refine gl_ (some 19) Try.func77 #[.slice A1 l1.length c1, .slice A2 l2.length c2] ?_; (with_reducible refine (jU.calls k (fun k_ => k_ < w.heap.size) _ _ l1 (fun k_ => k_ < w.heap.size) _ _ l2 t578 t581 _ ?side1 ?side2 A4.out).mono ?_); (case side1 => exact Kd.V_mk HC1.out (Kd.zk (Kd.C_F (Kd.zH .u64) HR1.out) (bb1_ HB GE577))); (case side2 => exact Kd.V_mk HC2.out (Kd.zk (Kd.C_F (Kd.zH .u64) HR2.out) (bb1_ HB GE577))); rintro e w30 ⟨v579, rfl, ho0, hb⟩; refine ⟨_, rfl, ?_⟩; have HO580 := jA.mk (Kd.zh (Kd.vZ (ok' := fun k_ => k_ ≠ gb577) ho0 (fun k_ hk_ => Or.elim hk_ (fun hs_ => Or.elim hs_ (fun hs_ => fun e_ => Nat.not_le.2 hs_ (by rw [e_]; exact GW577.out)) (fun hs_ => fun e_ => Nat.not_le.2 hs_ (by rw [e_]; exact GW577.out))) (fun hn_ => (Kd.jAI (g := gb577) (o := .cells #[.bool false, .slice none 0 0, .slice none 0 0] 44 (0, 0)) (kb_ BK577) k_ hn_)))) (jC (bb1_ HB GE577))); replace BK577 := bk_ BK577 hb; replace HB := jA.mk (jI (bb1_ HB GE577) hb); obtain ⟨hcz31_0, hcz31_1, hcz31_2, hfz31_0, hfz31_1, hfz31_2⟩ := bf3_ BK577))
  refine bodyPost_ret (zn rfl _ _ gb577 44 #[.bool false, .slice none 0 0, .slice none 0 0] (0, 0) _ rfl (by refine pk_ ?_; refine jm (cs := #[.bool false, .slice none 0 0, .slice none 0 0]) ?_ 2 _ rs_; refine pk_ ?_; refine jm (cs := #[.bool false, .slice none 0 0, .slice none 0 0]) ?_ 1 _ rs_; refine pk_ ?_; refine jm (cs := #[.bool false, .slice none 0 0, .slice none 0 0]) ?_ 0 _ rs_; refine pk_ ?_; exact BK577.out) Try.underlying44 rfl kr_) rfl ?_
  exact ⟨_, _, ew_, nl_, nl_, (bb1_ HB GE577)⟩
def ze.f (k : Nat) (a0 : Bool) (a1 : Int) (a2 : Int) : Option (Bool × List Int × List Int) := (jW.f k (([IntKind.u64.wrap (a1)] : List Int))).bind fun t600 => ((vk.f k a0 t600 (([IntKind.u64.wrap ((IntKind.u64.wrap (a2)) + 1)] : List Int))).bind fun bt606 => (some (bt606.1, bt606.2.1, bt606.2.2.1)))
theorem ze.mono : ∀ a0 a1 a2 k, LeO (ze.f k a0 a1 a2) (ze.f (k + 1) a0 a1 a2) := by
 intro a0 a1 a2 k
 unfold ze.f
 repeat' first
   | (with_reducible exact jW.mono _ _)
   | (with_reducible exact vk.mono _ _ _ _)
   | (with_reducible exact LeO.refl _)
   | (with_reducible exact LeO.none _)
   | (with_reducible refine LeO.ite ?_ ?_)
   | (with_reducible refine LeO.bind ?_ (fun _ => ?_))
theorem ze.calls (k : Nat) (a0 : Bool) (a1 : Int) (a2 : Int) (r1 : Bool) (r2 : List Int) (r3 : List Int) (w : World) (h : ze.f k a0 a1 a2 = some (r1, r2, r3)) :
  Calls Try.prog 41 #[.bool a0, .int .u32 a1, .int .u32 a2] w fun e w' => ∃ v1_ v2_ : Value, e = .returned (.agg #[.bool r1, v1_, v2_]) ∧ Kd.R (Kd.int .u64) 22 w' w.heap.size (fun k_ => some k_ ≠ (v2_ : Value).ownBlock) v1_ r2 ∧ Kd.R (Kd.int .u64) 22 w' w.heap.size (fun k_ => some k_ ≠ (v1_ : Value).ownBlock) v2_ r3 ∧ Below w.heap.size w w' := by
 have hu44 := Try.underlying44
 have HB := jA.mk (Below.refl w.heap.size w)
 have H : ((jW.f k (([IntKind.u64.wrap (a1)] : List Int))).bind fun t600 => ((vk.f k a0 t600 (([IntKind.u64.wrap ((IntKind.u64.wrap (a2)) + 1)] : List Int))).bind fun bt606 => (some (bt606.1, bt606.2.1, bt606.2.2.1)))) = some (r1, r2, r3) := h
 clear h
 obtain ⟨y597, hy597⟩ : ∃ y_ : List Int, y_ = (([IntKind.u64.wrap (a1)] : List Int)) := ⟨_, rfl⟩
 replace H : ((jW.f k y597).bind fun t600 => ((vk.f k a0 t600 (([IntKind.u64.wrap ((IntKind.u64.wrap (a2)) + 1)] : List Int))).bind fun bt606 => (some (bt606.1, bt606.2.1, bt606.2.2.1)))) = some (r1, r2, r3) := by first | (rw [hy597]; with_reducible exact H) | (have H2_ := (Option.bind_some _ _).symm.trans H; rw [hy597]; with_reducible exact H2_) | (with_reducible exact hs_ H) | with_reducible exact H | (rw [hy597]; exact H) | exact H
 have Ny597 := jA.mk hy597
 clear hy597
 obtain ⟨t600, A4, H⟩ := oc_ H
 try dsimp only at H
 obtain ⟨y603, hy603⟩ : ∃ y_ : List Int, y_ = (([IntKind.u64.wrap ((IntKind.u64.wrap (a2)) + 1)] : List Int)) := ⟨_, rfl⟩
 replace H : ((vk.f k a0 t600 y603).bind fun bt606 => (some (bt606.1, bt606.2.1, bt606.2.2.1))) = some (r1, r2, r3) := by first | (rw [hy603]; with_reducible exact H) | (have H2_ := (Option.bind_some _ _).symm.trans H; rw [hy603]; with_reducible exact H2_) | (with_reducible exact hs_ H) | with_reducible exact H | (rw [hy603]; exact H) | exact H
 have Ny603 := jA.mk hy603
 clear hy603
 replace H := ob_ H
 obtain ⟨⟨t606, t607, t610, t613⟩, A50, H⟩ := H
 try dsimp only at H
 have A5 := jA.mk A50
 clear A50
 simp only [Option.some.injEq, Prod.mk.injEq] at H
 obtain ⟨rfl, rfl, rfl⟩ := H
 go_enter Try.func41, Try.ntmps41
 go_wp2_with (first | ((with_reducible refine jX (N := 6) rfl ?_); refine bx_ 6 #[.bool false, .slice none 0 0, .slice none 0 0] 44 ?_; intro gb596 hg w6 hbox hb; have BK596 := jA.mk (hbox); have GW596 := jA.mk ((by rw [hg]; exact (jC (bb_ HB)) : w.heap.size ≤ gb596)); have GE596 := GW596; replace HB := bs_ HB hb; clear hb hbox hg) | ((with_reducible refine jX (N := 13) rfl ?_); refine Kd.jAC (Kd.int .u64) _ 22 ?hg (N := 13) ?hd (xs := ([IntKind.u64.wrap (a1)] : List Int)) (inner := [.int .u64 (IntKind.u64.wrap (a1))]) (ok := fun _ => True) (okp := fun _ => True) ?hr ?hp (fun _ hk => hk) trivial (Below.refl _ _) (Nat.le_refl _) (by simp) ?_; (case hd => rfl); (case hg => rfl); (case hr => exact gs_); (case hp => exact (Reps.one (show Kd.M (Kd.int .u64) _ _ _ (IntKind.u64.wrap (a1)) [.int .u64 (IntKind.u64.wrap (a1))] from rfl) (Reps.none _ _))); intro v598 w7 ho8 hb hg_ hnew_; clear hg_ hnew_; (first | rw [← Ny597.out] at ho8 | (simp only [Int.reduceToNat] at ho8; rw [← Ny597.out] at ho8)); have HO599 := jA.mk (Kd.jN ho8 (jC (bb1_ HB GE596))); replace BK596 := bk_ BK596 hb; replace HB := jA.mk (jI (bb1_ HB GE596) hb); clear hb ho8; obtain ⟨Ao9, co9, rfl⟩ := Kd.jV HO599.out) | ((with_reducible refine jH (f := 25) rfl ?_); refine gl_ (some 14) Try.func25 #[.slice Ao9 y597.length co9] ?_; (with_reducible refine (jW.calls k _ _ y597 t600 _ ?side1 ?side2 A4.out).mono ?_); (case side1 => exact cc_ (Kd.jE HO599.out).2.2); (case side2 => exact (Kd.jE HO599.out).2.1); rintro e w10 ⟨v601, rfl, ho0, hb⟩; refine ⟨_, rfl, ?_⟩; have HO602 := jA.mk (Kd.jN (Kd.jL ho0 (Kd.R_lt (rR_ HO599))) (jC (bb1_ HB GE596))); replace HO599 := re_ HO599 ho0 hb; replace BK596 := bk_ BK596 hb; replace HB := jA.mk (jI (bb1_ HB GE596) hb)) | ((with_reducible refine jX (N := 18) rfl ?_); refine Kd.jAC (Kd.int .u64) _ 22 ?hg (N := 18) ?hd (xs := ([IntKind.u64.wrap ((IntKind.u64.wrap (a2)) + 1)] : List Int)) (inner := [.int .u64 (IntKind.u64.wrap ((IntKind.u64.wrap (a2)) + 1))]) (ok := fun _ => True) (okp := fun _ => True) ?hr ?hp (fun _ hk => hk) trivial (Below.refl _ _) (Nat.le_refl _) (by simp) ?_; (case hd => rfl); (case hg => rfl); (case hr => exact gs_); (case hp => exact (Reps.one (show Kd.M (Kd.int .u64) _ _ _ (IntKind.u64.wrap ((IntKind.u64.wrap (a2)) + 1)) [.int .u64 (IntKind.u64.wrap ((IntKind.u64.wrap (a2)) + 1))] from rfl) (Reps.none _ _))); intro v604 w11 ho12 hb hg_ hnew_; clear hg_ hnew_; (first | rw [← Ny603.out] at ho12 | (simp only [Int.reduceToNat] at ho12; rw [← Ny603.out] at ho12)); have HO605 := jA.mk (Kd.jN (Kd.jL (Kd.jL ho12 (Kd.R_lt (rR_ HO599))) (Kd.R_lt (rR_ HO602))) (jC (bb1_ HB GE596))); replace HO599 := re_ HO599 ho12 hb; replace HO602 := re_ HO602 ho12 hb; replace BK596 := bk_ BK596 hb; replace HB := jA.mk (jI (bb1_ HB GE596) hb); clear hb ho12; obtain ⟨Ao13, co13, rfl⟩ := Kd.jV HO602.out; obtain ⟨Ao14, co14, rfl⟩ := Kd.jV HO605.out) | ((with_reducible refine jH (f := 36) rfl ?_); refine gl_ (some 19) Try.func36 #[.bool a0, .slice Ao13 t600.length co13, .slice Ao14 y603.length co14] ?_; (with_reducible refine (vk.calls k a0 _ _ t600 _ _ y603 t606 t607 t610 t613 _ ?side1 ?side2 ?side3 ?side4 A5.out).mono ?_); (case side1 => exact cc_ (Kd.jE HO602.out).2.2); (case side2 => exact (Kd.jE HO602.out).2.1); (case side3 => exact cc_ (Kd.jE HO605.out).2.2); (case side4 => exact (Kd.jE HO605.out).2.1); rintro e w15 ⟨v608, v611, rfl, ho0, ho1, hb⟩; refine ⟨_, rfl, ?_⟩; have HO609 := jA.mk (Kd.jN (Kd.jL (Kd.jL (Kd.jL ho0 (Kd.R_lt (rR_ HO599))) (Kd.R_lt (rR_ HO602))) (Kd.R_lt (rR_ HO605))) (jC (bb1_ HB GE596))); have HO612 := jA.mk (Kd.jN (Kd.jL (Kd.jL (Kd.jL ho1 (Kd.R_lt (rR_ HO599))) (Kd.R_lt (rR_ HO602))) (Kd.R_lt (rR_ HO605))) (jC (bb1_ HB GE596))); replace HO599 := jA.mk (Kd.jT (Kd.zQ (Kd.zQ (Kd.jAf (rR_ HO599) hb) (Kd.vB ho0)) (Kd.vB ho1)) (fun _ h_ => h_.1)); replace HO602 := jA.mk (Kd.jT (Kd.zQ (Kd.zQ (Kd.jAf (rR_ HO602) hb) (Kd.vB ho0)) (Kd.vB ho1)) (fun _ h_ => h_.1)); replace HO605 := jA.mk (Kd.jT (Kd.zQ (Kd.zQ (Kd.jAf (rR_ HO605) hb) (Kd.vB ho0)) (Kd.vB ho1)) (fun _ h_ => h_.1)); replace BK596 := bk_ BK596 hb; replace HB := jA.mk (jI (bb1_ HB GE596) hb)) | ((with_reducible refine jX (N := 7) rfl ?_); refine bx_ 7 #[.bool false, .slice none 0 0, .slice none 0 0] 44 ?_; intro gb614 hg w16 hbox hb; replace HO599 := ro_ HO599 hb; replace HO602 := ro_ HO602 hb; replace HO605 := ro_ HO605 hb; replace HO609 := ro_ HO609 hb; replace HO612 := ro_ HO612 hb; have BK614 := jA.mk (hbox); have GW614 := jA.mk ((by rw [hg]; exact (jC (bb1_ HB GE596)) : w.heap.size ≤ gb614)); have GE614 := GW614; replace HB := jA.mk (jI (bb1_ HB GE596) hb); have NB596_614 := jA.mk ((by rw [hg]; exact nlt_ BK596 : gb596 ≠ gb614)); have NB614_596 := jA.mk ((by rw [hg]; exact ngt_ BK596 : gb614 ≠ gb596)); replace BK596 := bk_ BK596 hb; clear hb hbox hg; have hnb17 := NB614_596.out; have hnc17 := NB596_614.out; obtain ⟨hcz18_0, hcz18_1, hcz18_2, hfz18_0, hfz18_1, hfz18_2⟩ := bf3_ BK614; obtain ⟨Ao19, co19, rfl⟩ := Kd.jV HO609.out; obtain ⟨Ao20, co20, rfl⟩ := Kd.jV HO612.out; obtain ⟨hcz21_0, hcz21_1, hcz21_2, hfz21_0, hfz21_1, hfz21_2⟩ := bf3_ BK596))
 refine bodyPost_ret (results_cell_row rfl _ _ gb596 44 #[.bool t606, .slice Ao19 t607.length co19, .slice Ao20 t610.length co20] (0, 0) _ rfl (by refine pk_ ?_; refine jm (cs := #[.bool t606, .slice Ao19 t607.length co19, .slice none 0 0]) ?_ 2 _ rs_; refine pk_ ?_; refine jm (cs := #[.bool t606, .slice none 0 0, .slice none 0 0]) ?_ 1 _ rs_; refine pk_ ?_; refine jm (cs := #[.bool false, .slice none 0 0, .slice none 0 0]) ?_ 0 _ rs_; refine pk_ ?_; refine qo ?_ NB596_614.out _; refine pk_ ?_; refine qo ?_ NB596_614.out _; refine pk_ ?_; refine qo ?_ NB596_614.out _; refine pk_ ?_; exact BK596.out) Try.underlying44 rfl kr_) rfl ?_
 exact ⟨_, _, ew_, by refine pR_ ?_; exact Kd.jT (Kd.vQ (p := ⟨gb596, 2, none⟩) (Kd.vQ (p := ⟨gb596, 1, none⟩) (Kd.vQ (p := ⟨gb596, 0, none⟩) (Kd.vQ (p := ⟨gb614, 2, none⟩) (Kd.vQ (p := ⟨gb614, 1, none⟩) (Kd.vQ (p := ⟨gb614, 0, none⟩) (Kd.jZ (Kd.jZ HO609.out BK614.out (by decide)) BK596.out (by decide)) (fun _ hk => hk.1.2) (.bool t606)) (fun _ hk => hk.1.2) (.slice Ao19 t607.length co19)) (fun _ hk => hk.1.2) (.slice Ao20 t610.length co20)) (fun _ hk => hk.2) (.bool t606)) (fun _ hk => hk.2) (.slice Ao19 t607.length co19)) (fun _ hk => hk.2) (.slice Ao20 t610.length co20)) (fun _ hk => hk.1.1.1.1.1), by refine pR_ ?_; exact Kd.jT (Kd.vQ (p := ⟨gb596, 2, none⟩) (Kd.vQ (p := ⟨gb596, 1, none⟩) (Kd.vQ (p := ⟨gb596, 0, none⟩) (Kd.vQ (p := ⟨gb614, 2, none⟩) (Kd.vQ (p := ⟨gb614, 1, none⟩) (Kd.vQ (p := ⟨gb614, 0, none⟩) (Kd.jZ (Kd.jZ HO612.out BK614.out (by decide)) BK596.out (by decide)) (fun _ hk => hk.1.2) (.bool t606)) (fun _ hk => hk.1.2) (.slice Ao19 t607.length co19)) (fun _ hk => hk.1.2) (.slice Ao20 t610.length co20)) (fun _ hk => hk.2) (.bool t606)) (fun _ hk => hk.2) (.slice Ao19 t607.length co19)) (fun _ hk => hk.2) (.slice Ao20 t610.length co20)) (fun _ hk => hk.1.1.1.1.1), (bb2_ HB GE596 GE614)⟩
def zC.f (k : Nat) (a0_0 : Bool) (l0_1 : List Int) (l0_2 : List Int) (a1_0 : Bool) (l1_1 : List Int) (l1_2 : List Int) : Option (Bool × List Int × List Int) := (vL.f k a0_0 l0_1 l0_2 a1_0 l1_1 l1_2).bind fun bt618 => (some (bt618.1, bt618.2.1, bt618.2.2.1))
theorem zC.mono : ∀ a0 a1 a2 a3 a4 a5 k, LeO (zC.f k a0 a1 a2 a3 a4 a5) (zC.f (k + 1) a0 a1 a2 a3 a4 a5) := by
 intro a0 a1 a2 a3 a4 a5 k
 unfold zC.f
 repeat' first
   | (with_reducible exact vL.mono _ _ _ _ _ _ _)
   | (with_reducible exact LeO.refl _)
   | (with_reducible exact LeO.none _)
   | (with_reducible refine LeO.ite ?_ ?_)
   | (with_reducible refine LeO.bind ?_ (fun _ => ?_))
theorem zC.calls (k : Nat) (a0_0 : Bool) (A0_1 : Option Addr) (c0_1 : Nat) (l0_1 : List Int) (A0_2 : Option Addr) (c0_2 : Nat) (l0_2 : List Int) (a1_0 : Bool) (A1_1 : Option Addr) (c1_1 : Nat) (l1_1 : List Int) (A1_2 : Option Addr) (c1_2 : Nat) (l1_2 : List Int) (r1 : Bool) (r2 : List Int) (r3 : List Int) (w : World) (hr0_1 : Kd.C (Kd.int .u64) w A0_1 l0_1.length l0_1) (hc0_1 : l0_1.length ≤ c0_1) (hr0_2 : Kd.C (Kd.int .u64) w A0_2 l0_2.length l0_2) (hc0_2 : l0_2.length ≤ c0_2) (hr1_1 : Kd.C (Kd.int .u64) w A1_1 l1_1.length l1_1) (hc1_1 : l1_1.length ≤ c1_1) (hr1_2 : Kd.C (Kd.int .u64) w A1_2 l1_2.length l1_2) (hc1_2 : l1_2.length ≤ c1_2) (h : zC.f k a0_0 l0_1 l0_2 a1_0 l1_1 l1_2 = some (r1, r2, r3)) :
  Calls Try.prog 48 #[.agg #[.bool a0_0, .slice A0_1 l0_1.length c0_1, .slice A0_2 l0_2.length c0_2], .agg #[.bool a1_0, .slice A1_1 l1_1.length c1_1, .slice A1_2 l1_2.length c1_2]] w fun e w' => ∃ v1_ v2_ : Value, e = .returned (.agg #[.bool r1, v1_, v2_]) ∧ Kd.R (Kd.int .u64) 22 w' w.heap.size (fun k_ => some k_ ≠ (v2_ : Value).ownBlock) v1_ r2 ∧ Kd.R (Kd.int .u64) 22 w' w.heap.size (fun k_ => some k_ ≠ (v1_ : Value).ownBlock) v2_ r3 ∧ Below w.heap.size w w' := by
 have hu44 := Try.underlying44
 have HR0_1 := jA.mk hr0_1
 have HC0_1 := jA.mk hc0_1
 clear hr0_1 hc0_1
 have HR0_2 := jA.mk hr0_2
 have HC0_2 := jA.mk hc0_2
 clear hr0_2 hc0_2
 have HR1_1 := jA.mk hr1_1
 have HC1_1 := jA.mk hc1_1
 clear hr1_1 hc1_1
 have HR1_2 := jA.mk hr1_2
 have HC1_2 := jA.mk hc1_2
 clear hr1_2 hc1_2
 have HB := jA.mk (Below.refl w.heap.size w)
 have H : ((vL.f k a0_0 l0_1 l0_2 a1_0 l1_1 l1_2).bind fun bt618 => (some (bt618.1, bt618.2.1, bt618.2.2.1))) = some (r1, r2, r3) := h
 clear h
 replace H := ob_ H
 obtain ⟨⟨t618, t619, t622, t625⟩, A30, H⟩ := H
 try dsimp only at H
 have A3 := jA.mk A30
 clear A30
 simp only [Option.some.injEq, Prod.mk.injEq] at H
 obtain ⟨rfl, rfl, rfl⟩ := H
 go_enter Try.func48, Try.ntmps48
 go_wp2_with (first | ((with_reducible refine jX (N := 2) rfl ?_); refine bx_ 2 #[.bool a0_0, .slice A0_1 l0_1.length c0_1, .slice A0_2 l0_2.length c0_2] 44 ?_; intro gb615 hg w4 hbox hb; have BK615 := jA.mk (hbox); have GW615 := jA.mk ((by rw [hg]; exact (jC (bb_ HB)) : w.heap.size ≤ gb615)); have GE615 := GW615; replace HB := bs_ HB hb; clear hb hbox hg) | ((with_reducible refine jX (N := 3) rfl ?_); refine bx_ 3 #[.bool a1_0, .slice A1_1 l1_1.length c1_1, .slice A1_2 l1_2.length c1_2] 44 ?_; intro gb616 hg w5 hbox hb; have BK616 := jA.mk (hbox); have GW616 := jA.mk ((by rw [hg]; exact (jC (bb1_ HB GE615)) : w.heap.size ≤ gb616)); have GE616 := GW616; replace HB := jA.mk (jI (bb1_ HB GE615) hb); have NB615_616 := jA.mk ((by rw [hg]; exact nlt_ BK615 : gb615 ≠ gb616)); have NB616_615 := jA.mk ((by rw [hg]; exact ngt_ BK615 : gb616 ≠ gb615)); replace BK615 := bk_ BK615 hb; clear hb hbox hg) | ((with_reducible refine jX (N := 4) rfl ?_); refine bx_ 4 #[.bool false, .slice none 0 0, .slice none 0 0] 44 ?_; intro gb617 hg w6 hbox hb; have BK617 := jA.mk (hbox); have GW617 := jA.mk ((by rw [hg]; exact (jC (bb2_ HB GE615 GE616)) : w.heap.size ≤ gb617)); have GE617 := GW617; replace HB := jA.mk (jI (bb2_ HB GE615 GE616) hb); have NB615_617 := jA.mk ((by rw [hg]; exact nlt_ BK615 : gb615 ≠ gb617)); have NB617_615 := jA.mk ((by rw [hg]; exact ngt_ BK615 : gb617 ≠ gb615)); replace BK615 := bk_ BK615 hb; have NB616_617 := jA.mk ((by rw [hg]; exact nlt_ BK616 : gb616 ≠ gb617)); have NB617_616 := jA.mk ((by rw [hg]; exact ngt_ BK616 : gb617 ≠ gb616)); replace BK616 := bk_ BK616 hb; clear hb hbox hg; have hnb7 := NB615_616.out; have hnc7 := NB616_615.out; have hnb8 := NB615_617.out; have hnc8 := NB617_615.out; obtain ⟨hcz9_0, hcz9_1, hcz9_2, hfz9_0, hfz9_1, hfz9_2⟩ := bf3_ BK615; have hnb10 := NB616_617.out; have hnc10 := NB617_616.out; obtain ⟨hcz11_0, hcz11_1, hcz11_2, hfz11_0, hfz11_1, hfz11_2⟩ := bf3_ BK616) | ((with_reducible refine jH (f := 49) rfl ?_); refine gl_ (some 10) Try.func49 #[.agg #[.bool a0_0, .slice A0_1 l0_1.length c0_1, .slice A0_2 l0_2.length c0_2], .agg #[.bool a1_0, .slice A1_1 l1_1.length c1_1, .slice A1_2 l1_2.length c1_2]] ?_; (with_reducible refine (vL.calls k a0_0 _ _ l0_1 _ _ l0_2 a1_0 _ _ l1_1 _ _ l1_2 t618 t619 t622 t625 _ ?side1 ?side2 ?side3 ?side4 ?side5 ?side6 ?side7 ?side8 A3.out).mono ?_); (case side1 => exact cb_ HR0_1 HB); (case side2 => exact HC0_1.out); (case side3 => exact cb_ HR0_2 HB); (case side4 => exact HC0_2.out); (case side5 => exact cb_ HR1_1 HB); (case side6 => exact HC1_1.out); (case side7 => exact cb_ HR1_2 HB); (case side8 => exact HC1_2.out); rintro e w12 ⟨v620, v623, rfl, ho0, ho1, hb⟩; refine ⟨_, rfl, ?_⟩; have HO621 := jA.mk (Kd.jN ho0 (jC (bb3_ HB GE615 GE616 GE617))); have HO624 := jA.mk (Kd.jN ho1 (jC (bb3_ HB GE615 GE616 GE617))); replace BK615 := bk_ BK615 hb; replace BK616 := bk_ BK616 hb; replace BK617 := bk_ BK617 hb; replace HB := jA.mk (jI (bb3_ HB GE615 GE616 GE617) hb)) | ((with_reducible refine jX (N := 5) rfl ?_); refine bx_ 5 #[.bool false, .slice none 0 0, .slice none 0 0] 44 ?_; intro gb626 hg w13 hbox hb; replace HO621 := ro_ HO621 hb; replace HO624 := ro_ HO624 hb; have BK626 := jA.mk (hbox); have GW626 := jA.mk ((by rw [hg]; exact (jC (bb3_ HB GE615 GE616 GE617)) : w.heap.size ≤ gb626)); have GE626 := GW626; replace HB := jA.mk (jI (bb3_ HB GE615 GE616 GE617) hb); have NB615_626 := jA.mk ((by rw [hg]; exact nlt_ BK615 : gb615 ≠ gb626)); have NB626_615 := jA.mk ((by rw [hg]; exact ngt_ BK615 : gb626 ≠ gb615)); replace BK615 := bk_ BK615 hb; have NB616_626 := jA.mk ((by rw [hg]; exact nlt_ BK616 : gb616 ≠ gb626)); have NB626_616 := jA.mk ((by rw [hg]; exact ngt_ BK616 : gb626 ≠ gb616)); replace BK616 := bk_ BK616 hb; have NB617_626 := jA.mk ((by rw [hg]; exact nlt_ BK617 : gb617 ≠ gb626)); have NB626_617 := jA.mk ((by rw [hg]; exact ngt_ BK617 : gb626 ≠ gb617)); replace BK617 := bk_ BK617 hb; clear hb hbox hg; have hnb14 := NB626_615.out; have hnc14 := NB615_626.out; have hnb15 := NB626_616.out; have hnc15 := NB616_626.out; have hnb16 := NB626_617.out; have hnc16 := NB617_626.out; obtain ⟨hcz17_0, hcz17_1, hcz17_2, hfz17_0, hfz17_1, hfz17_2⟩ := bf3_ BK626; obtain ⟨Ao18, co18, rfl⟩ := Kd.jV HO621.out; obtain ⟨Ao19, co19, rfl⟩ := Kd.jV HO624.out; obtain ⟨hcz20_0, hcz20_1, hcz20_2, hfz20_0, hfz20_1, hfz20_2⟩ := bf3_ BK617))
 refine bodyPost_ret (results_cell_row rfl _ _ gb617 44 #[.bool t618, .slice Ao18 t619.length co18, .slice Ao19 t622.length co19] (0, 0) _ rfl (by refine pk_ ?_; refine jm (cs := #[.bool t618, .slice Ao18 t619.length co18, .slice none 0 0]) ?_ 2 _ rs_; refine pk_ ?_; refine jm (cs := #[.bool t618, .slice none 0 0, .slice none 0 0]) ?_ 1 _ rs_; refine pk_ ?_; refine jm (cs := #[.bool false, .slice none 0 0, .slice none 0 0]) ?_ 0 _ rs_; refine pk_ ?_; refine qo ?_ NB617_626.out _; refine pk_ ?_; refine qo ?_ NB617_626.out _; refine pk_ ?_; refine qo ?_ NB617_626.out _; refine pk_ ?_; exact BK617.out) Try.underlying44 rfl kr_) rfl ?_
 exact ⟨_, _, ew_, by refine pR_ ?_; exact Kd.jT (Kd.vQ (p := ⟨gb617, 2, none⟩) (Kd.vQ (p := ⟨gb617, 1, none⟩) (Kd.vQ (p := ⟨gb617, 0, none⟩) (Kd.vQ (p := ⟨gb626, 2, none⟩) (Kd.vQ (p := ⟨gb626, 1, none⟩) (Kd.vQ (p := ⟨gb626, 0, none⟩) (Kd.jZ (Kd.jZ HO621.out BK626.out (by decide)) BK617.out (by decide)) (fun _ hk => hk.1.2) (.bool t618)) (fun _ hk => hk.1.2) (.slice Ao18 t619.length co18)) (fun _ hk => hk.1.2) (.slice Ao19 t622.length co19)) (fun _ hk => hk.2) (.bool t618)) (fun _ hk => hk.2) (.slice Ao18 t619.length co18)) (fun _ hk => hk.2) (.slice Ao19 t622.length co19)) (fun _ hk => hk.1.1), by refine pR_ ?_; exact Kd.jT (Kd.vQ (p := ⟨gb617, 2, none⟩) (Kd.vQ (p := ⟨gb617, 1, none⟩) (Kd.vQ (p := ⟨gb617, 0, none⟩) (Kd.vQ (p := ⟨gb626, 2, none⟩) (Kd.vQ (p := ⟨gb626, 1, none⟩) (Kd.vQ (p := ⟨gb626, 0, none⟩) (Kd.jZ (Kd.jZ HO624.out BK626.out (by decide)) BK617.out (by decide)) (fun _ hk => hk.1.2) (.bool t618)) (fun _ hk => hk.1.2) (.slice Ao18 t619.length co18)) (fun _ hk => hk.1.2) (.slice Ao19 t622.length co19)) (fun _ hk => hk.2) (.bool t618)) (fun _ hk => hk.2) (.slice Ao18 t619.length co18)) (fun _ hk => hk.2) (.slice Ao19 t622.length co19)) (fun _ hk => hk.1.1), (bb4_ HB GE615 GE616 GE617 GE626)⟩
end Go.Proofs.Ytijgeonhbmgikaa.PORatioField
