-- printed (pr.py)
import Derived.Test.YtijgeonhbmgikaaPORatioSumsx0
import Derived.Test.YtijgeonhbmgikaaPORatioSumsx11
import Derived.Test.YtijgeonhbmgikaaPORatioSumsx14
namespace Go.Proofs.Ytijgeonhbmgikaa.PORatioSums
open Go.RowKit Go.Proofs.YtijgeonhbmgikaaN Go.Proofs.YtijgeonhbmgikaaW.PrintWords Go.Proofs.YtijgeonhbmgikaaW.PrintLast Go.Proofs.YtijgeonhbmgikaaW.PrintMore
attribute [local go_sem] qV qR qy qx qA zy qU qP
set_option maxHeartbeats 8000000
set_option maxRecDepth 100000

/-! ### jV: function 77 -/
mutual
def jV.j0 : Nat → List Int → List Int → Bool → Option (List Int × Int)
 | 0, _, _, _ => none
 | k + 1, x0, x1, x16 => if x16 = true then (some (([] : List Int), 1)) else (jV.l0 k x0 x1)
def jV.l0 : Nat → List Int → List Int → Option (List Int × Int)
 | 0, _, _ => none
 | k + 1, x0, x1 => if (x1.length : Int) > 0 then ((jD.f k x0 x1).bind fun bt588 => (jV.l0 k x1 bt588.2.1)) else (some (x0, 0))
end
def jV.f (k : Nat) (l0 : List Int) (l1 : List Int) : Option (List Int × Int) := (vH.f l0).bind fun t586 => (if t586 = true then ((vH.f l1).bind fun t587 => (jV.j0 k l0 l1 (!t587))) else (jV.j0 k l0 l1 true))
theorem jV.vk : ∀ k, (∀ y0 y1 y2, LeO (jV.j0 k y0 y1 y2) (jV.j0 (k + 1) y0 y1 y2)) ∧ (∀ y0 y1, LeO (jV.l0 k y0 y1) (jV.l0 (k + 1) y0 y1))
 | 0 => ⟨fun _ _ _ r h => by simp [jV.j0] at h, fun _ _ r h => by simp [jV.l0] at h⟩
 | k + 1 => by
  obtain ⟨ih0, ih1⟩ := jV.vk k
  refine ⟨?_, ?_⟩ <;> (intros; first | unfold jV.j0 | unfold jV.l0) <;> repeat' first
   | (with_reducible exact ih0 _ _ _)
   | (with_reducible exact ih1 _ _)
   | (with_reducible exact jD.mono _ _ _)
   | (with_reducible exact LeO.refl _)
   | (with_reducible exact LeO.none _)
   | (with_reducible refine LeO.ite ?_ ?_)
   | (with_reducible refine LeO.bind ?_ (fun _ => ?_))
theorem jV.mono : ∀ a0 a1 k, LeO (jV.f k a0 a1) (jV.f (k + 1) a0 a1) := by
 intro a0 a1 k
 obtain ⟨ih0, ih1⟩ := jV.vk k
 unfold jV.f
 repeat' first
   | (with_reducible exact ih0 _ _ _)
   | (with_reducible exact ih1 _ _)
   | (with_reducible exact jD.mono _ _ _)
   | (with_reducible exact LeO.refl _)
   | (with_reducible exact LeO.none _)
   | (with_reducible refine LeO.ite ?_ ?_)
   | (with_reducible refine LeO.bind ?_ (fun _ => ?_))
theorem jV.calls (k : Nat) (P0_ : Nat → Prop) (A0 : Option Addr) (c0 : Nat) (l0 : List Int) (P1_ : Nat → Prop) (A1 : Option Addr) (c1 : Nat) (l1 : List Int) (r1 : List Int) (r2 : Int) (w : World) (hs0 : Kd.V (Kd.int .u64) 22 w w.heap.size (fun k_ => P0_ k_) (.slice A0 l0.length c0) l0) (hs1 : Kd.V (Kd.int .u64) 22 w w.heap.size (fun k_ => P1_ k_) (.slice A1 l1.length c1) l1) (h : jV.f k l0 l1 = some (r1, r2)) :
  Calls Try.prog 77 #[.slice A0 l0.length c0, .slice A1 l1.length c1] w fun e w' => ∃ v0_ : Value, e = .returned (.tuple #[v0_, .int .i64 r2]) ∧ Kd.V (Kd.int .u64) 22 w' w.heap.size (fun k_ => ((P0_ k_ ∨ P1_ k_) ∨ w.heap.size ≤ k_)) v0_ r1 ∧ Below w.heap.size w w' := by
 have HO0 := jA.mk (show Kd.V (Kd.int .u64) 22 w w.heap.size (fun k_ => ((P0_ k_ ∨ P1_ k_) ∨ w.heap.size ≤ k_)) (.slice A0 l0.length c0) l0 from Kd.vO hs0 (fun k_ hk => .inl (.inl hk)))
 have HO1 := jA.mk (show Kd.V (Kd.int .u64) 22 w w.heap.size (fun k_ => ((P0_ k_ ∨ P1_ k_) ∨ w.heap.size ≤ k_)) (.slice A1 l1.length c1) l1 from Kd.vO hs1 (fun k_ hk => .inl (.inr hk)))
 have HB := jA.mk (Below.refl w.heap.size w)
 have H : ((vH.f l0).bind fun t586 => (if t586 = true then ((vH.f l1).bind fun t587 => (jV.j0 k l0 l1 (!t587))) else (jV.j0 k l0 l1 true))) = some (r1, r2) := h
 clear h
 have HC3 := jA.mk H
 clear H
 go_enter Try.func77, Try.ntmps77
 go_upto_region 1 with (fail)
 go_cut [16] (fun v16 wc => ∃ (kq : Nat) (x16_2 : Bool), v16 = .bool x16_2 ∧ jA (jV.j0 kq l0 l1 x16_2 = some (r1, r2)) ∧ jA (kq ≤ k) ∧ jA (Kd.V (Kd.int .u64) 22 wc w.heap.size (fun k_ => ((P0_ k_ ∨ P1_ k_) ∨ w.heap.size ≤ k_)) (.slice A0 l0.length c0) l0) ∧ jA (Kd.V (Kd.int .u64) 22 wc w.heap.size (fun k_ => ((P0_ k_ ∨ P1_ k_) ∨ w.heap.size ≤ k_)) (.slice A1 l1.length c1) l1) ∧ jA (Below w.heap.size w wc))
 case first =>
  have H := HC3.out
  clear HC3
  replace H := ob_ H
  obtain ⟨t586, A40, H⟩ := H
  try dsimp only at H
  have A4 := jA.mk A40
  clear A40
  by_cases c5 : t586 = true
  ·
   subst c5
   have H1 : ((vH.f l1).bind fun t587 => (jV.j0 k l0 l1 (!t587))) = some (r1, r2) := by rw [if_pos rfl] at H; exact H
   clear H
   have H := H1
   clear H1
   replace H := ob_ H
   obtain ⟨t587, A60, H⟩ := H
   try dsimp only at H
   have A6 := jA.mk A60
   clear A60
   have H' := jA.mk H
   clear H
   go_wp2_with (first | ((with_reducible refine jJ (f := 74) rfl ?_); refine jr (some 10) rfl rfl Try.func74 kr_ rfl #[.slice A0 l0.length c0] rfl mt_ ?_; (with_reducible refine (vH.calls _ _ l0 true _ ?side1 ?side2 A4.out).mono ?_); (case side1 => repeat (first | exact (Kd.vI HO0.out).2.2 | (with_reducible refine Kd.zR ?_ _) | (with_reducible refine Kd.zh ?_ _) | (with_reducible refine Kd.qG ?_))); (case side2 => exact (Kd.vI HO0.out).2.1); rintro e w' ⟨rfl, ⟨nd, rfl⟩⟩; refine ⟨_, rfl, ?_⟩) | ((with_reducible refine jl (N := 14) rfl ?_); refine jv (by first | rfl | kernel_rfl) ?_; dsimp only; (with_reducible refine jJ (f := 74) rfl ?_); refine jr (some 14) rfl rfl Try.func74 kr_ rfl #[.slice A1 l1.length c1] rfl mt_ ?_; (with_reducible refine (vH.calls _ _ l1 t587 _ ?side1 ?side2 A6.out).mono ?_); (case side1 => repeat (first | exact (Kd.vI HO1.out).2.2 | (with_reducible refine Kd.zR ?_ _) | (with_reducible refine Kd.zh ?_ _) | (with_reducible refine Kd.qG ?_))); (case side2 => exact (Kd.vI HO1.out).2.1); rintro e w' ⟨rfl, ⟨nd, rfl⟩⟩; refine ⟨_, rfl, ?_⟩))
   go_meet
   case rel => exact ⟨_, (!t587), sd_, H', ⟨by first | omega | exact Nat.le_refl _⟩, ⟨(rV_ HO0)⟩, ⟨(rV_ HO1)⟩, ⟨(bb_ HB)⟩⟩
  ·
   replace c5 := Bool.eq_false_iff.mpr c5
   subst c5
   have H1 : (jV.j0 k l0 l1 true) = some (r1, r2) := by rw [if_neg (show ¬ (false = true) by decide)] at H; exact H
   clear H
   have H := H1
   clear H1
   have H' := jA.mk H
   clear H
   go_wp2_with (first | ((with_reducible refine jJ (f := 74) rfl ?_); refine jr (some 10) rfl rfl Try.func74 kr_ rfl #[.slice A0 l0.length c0] rfl mt_ ?_; (with_reducible refine (vH.calls _ _ l0 false _ ?side1 ?side2 A4.out).mono ?_); (case side1 => repeat (first | exact (Kd.vI HO0.out).2.2 | (with_reducible refine Kd.zR ?_ _) | (with_reducible refine Kd.zh ?_ _) | (with_reducible refine Kd.qG ?_))); (case side2 => exact (Kd.vI HO0.out).2.1); rintro e w' ⟨rfl, ⟨nd, rfl⟩⟩; refine ⟨_, rfl, ?_⟩))
   go_meet
   case rel => exact ⟨_, (true), sd_, H', ⟨by first | omega | exact Nat.le_refl _⟩, ⟨(rV_ HO0)⟩, ⟨(rV_ HO1)⟩, ⟨(bb_ HB)⟩⟩
 case rest =>
  clear HC3
  try clear c1
  try clear p2
  try clear c5
  obtain ⟨kq, x16_2, rfl, HA, HJ2, HO_0, HO_1, HB⟩ := hcut
  cases kq with
  | zero => exact absurd HA.out (by simp [jV.j0])
  | succ kj2 =>
   have H := HA.out
   clear HA
   simp only [jV.j0] at H
   by_cases c7 : x16_2 = true
   ·
    subst c7
    have H1 : (some (([] : List Int), 1)) = some (r1, r2) := by rw [if_pos rfl] at H; exact H
    clear H
    have H := H1
    clear H1
    simp only [Option.some.injEq, Prod.mk.injEq] at H
    obtain ⟨rfl, rfl⟩ := H
    go_wp2
    go_ret2
    exact ⟨_, ew_, Kd.jIk _ _ _ _ _, (bb_ HB)⟩
   ·
    replace c7 := Bool.eq_false_iff.mpr c7
    subst c7
    have H1 : (jV.l0 kj2 l0 l1) = some (r1, r2) := by rw [if_neg (show ¬ (false = true) by decide)] at H; exact H
    clear H
    have H := H1
    clear H1
    have H' := jA.mk H
    clear H
    go_wp2
    go_loopg [0, 1] kj2 (fun kq v0 v1 w' => ∃ (x0_2 : List Int) (x1_2 : List Int), jA (jV.l0 kq x0_2 x1_2 = some (r1, r2)) ∧ jA (kq ≤ kj2) ∧ jA (Kd.V (Kd.int .u64) 22 w' w.heap.size (fun k_ => ((P0_ k_ ∨ P1_ k_) ∨ w.heap.size ≤ k_)) v0 x0_2) ∧ jA (Kd.V (Kd.int .u64) 22 w' w.heap.size (fun k_ => ((P0_ k_ ∨ P1_ k_) ∨ w.heap.size ≤ k_)) v1 x1_2) ∧ jA (Below w.heap.size w w'))
    case atStart => exact ⟨(l0), (l1), H', ⟨Nat.le_refl _⟩, ⟨(rV_ HO_0)⟩, ⟨(rV_ HO_1)⟩, ⟨(bb_ HB)⟩⟩
    case round =>
     clear H'
     try clear c1
     try clear p2
     try clear c5
     try clear c7
     try clear p2
     obtain ⟨x0_2, x1_2, HA, HK2, HO_0, HO_1, HB⟩ := hrel
     cases gk with
     | zero => exact absurd HA.out (by simp [jV.l0])
     | succ k2 =>
      have H := HA.out
      clear HA
      simp only [jV.l0] at H
      by_cases c8 : (x1_2.length : Int) > 0
      ·
       rw [if_pos c8] at H
       have c8b0 := decide_eq_true c8
       have c8b1 : decide (0 < x1_2.length) = true := decide_eq_true (by omega)
       clear c8
       replace H := ob_ H
       obtain ⟨⟨t588, t589, t590⟩, A90, H⟩ := H
       try dsimp only at H
       have A9 := jA.mk A90
       clear A90
       have H' := jA.mk H
       clear H
       obtain ⟨Ao10, co10, eo10⟩ := Kd.zT HO_1.out
       subst eo10
       obtain ⟨Ao11, co11, eo11⟩ := Kd.zT HO_0.out
       subst eo11
       go_wp2_with (first | ((with_reducible refine jJ (f := 78) rfl ?_); refine jr (some 23) rfl rfl Try.func78 kr_ rfl #[.slice Ao11 x0_2.length co11, .slice Ao10 x1_2.length co10] rfl mt_ ?_; (with_reducible refine (jD.calls k2 _ _ x0_2 _ _ x1_2 t588 t589 t590 _ ?side1 ?side2 ?side3 ?side4 A9.out).mono ?_); (case side1 => repeat (first | exact (Kd.vI HO_0.out).2.2 | (with_reducible refine Kd.zR ?_ _) | (with_reducible refine Kd.zh ?_ _) | (with_reducible refine Kd.qG ?_))); (case side2 => exact (Kd.vI HO_0.out).2.1); (case side3 => repeat (first | exact (Kd.vI HO_1.out).2.2 | (with_reducible refine Kd.zR ?_ _) | (with_reducible refine Kd.zh ?_ _) | (with_reducible refine Kd.qG ?_))); (case side4 => exact (Kd.vI HO_1.out).2.1); rintro e w12 ⟨v591, v593, rfl, ho0, ho1, hb⟩; refine ⟨_, rfl, ?_⟩; have n0_ := jA.mk (Kd.vO (Kd.jAA (Kd.jAA (Kd.jCA (rV_ HO_0) hb) (Kd.jL ho0)) (Kd.jL ho1)) (fun _ h_ => h_.1)); have n1_ := jA.mk (Kd.vO (Kd.jAA (Kd.jAA (Kd.jCA (rV_ HO_1) hb) (Kd.jL ho0)) (Kd.jL ho1)) (fun _ h_ => h_.1)); have n2_ := jA.mk (Kd.jS (Kd.jBj (M := fun k_ => (w.heap.size ≤ k_)) ho0 (jB (bb_ HB)) (fun k_ h_ => h_)) (jB (bb_ HB))); have n3_ := jA.mk (Kd.jS (Kd.jBj (M := fun k_ => (w.heap.size ≤ k_)) ho1 (jB (bb_ HB)) (fun k_ h_ => h_)) (jB (bb_ HB))); have n4_ := jA.mk (jC (bb_ HB) hb); clear HO_0 HO_1 HB; have HO_0 := n0_; have HO_1 := n1_; have HO592 := n2_; have HO594 := n3_; have HB := n4_; clear n0_ n1_ n2_ n3_ n4_))
       go_roundg k2
       case measure => have := HJ2.out; have := HK2.out; omega
       case rel => exact ⟨(x1_2), (t589), H', ⟨by have := HJ2.out; have := HK2.out; omega⟩, ⟨by (with_reducible repeat (first | apply Kd.jCe | apply Kd.jCd | apply Kd.jCx)); exact Kd.vO HO_1.out (fun _ hk => hk.1.1)⟩, ⟨Kd.vO (Kd.R_V (by refine pR_ ?_; exact Kd.jP HO594.out (fun _ hk => hk.1))) (fun k_ hk => by first | exact ⟨(.inr (hk.1)), hk.2⟩ | exact (.inr (hk)))⟩, ⟨(bb_ HB)⟩⟩
      ·
       rw [if_neg c8] at H
       have c8b0 := decide_eq_false c8
       have c8b1 : decide (0 < x1_2.length) = false := decide_eq_false (by omega)
       clear c8
       simp only [Option.some.injEq, Prod.mk.injEq] at H
       obtain ⟨rfl, rfl⟩ := H
       obtain ⟨Ao13, co13, eo13⟩ := Kd.zT HO_1.out
       subst eo13
       go_wp2
       go_ret2
       exact ⟨_, ew_, (rV_ HO_0), (bb_ HB)⟩

/-! ### vZ: function 36 -/
def vZ.f (k : Nat) (a0 : Bool) (l1 : List Int) (l2 : List Int) : Option (Bool × List Int × List Int × Int) := (jV.f k l1 l2).bind fun bt596 => (if bt596.2 = 0 then (if (l2.length : Int) = 0 then (some (false, ([] : List Int), ([] : List Int), 30)) else ((jD.f k l1 bt596.1).bind fun bt600 => ((jD.f k l2 bt596.1).bind fun bt607 => (if a0 = true then (some (decide ((bt600.1.length : Int) > 0), bt600.1, bt607.1, 0)) else (some (false, bt600.1, bt607.1, 0)))))) else (some (false, ([] : List Int), ([] : List Int), bt596.2)))
theorem vZ.mono : ∀ a0 a1 a2 k, LeO (vZ.f k a0 a1 a2) (vZ.f (k + 1) a0 a1 a2) := by
 intro a0 a1 a2 k
 unfold vZ.f
 repeat' first
   | (with_reducible exact jD.mono _ _ _)
   | (with_reducible exact jV.mono _ _ _)
   | (with_reducible exact LeO.refl _)
   | (with_reducible exact LeO.none _)
   | (with_reducible refine LeO.ite ?_ ?_)
   | (with_reducible refine LeO.bind ?_ (fun _ => ?_))
theorem vZ.calls (k : Nat) (a0 : Bool) (A1 : Option Addr) (c1 : Nat) (l1 : List Int) (A2 : Option Addr) (c2 : Nat) (l2 : List Int) (r1 : Bool) (r2 : List Int) (r3 : List Int) (r4 : Int) (w : World) (hr1 : Kd.C (Kd.int .u64) w A1 l1.length l1) (hc1 : l1.length ≤ c1) (hr2 : Kd.C (Kd.int .u64) w A2 l2.length l2) (hc2 : l2.length ≤ c2) (h : vZ.f k a0 l1 l2 = some (r1, r2, r3, r4)) :
  Calls Try.prog 36 #[.bool a0, .slice A1 l1.length c1, .slice A2 l2.length c2] w fun e w' => ∃ v1_ v2_ : Value, e = .returned (.tuple #[.agg #[.bool r1, v1_, v2_], .int .i64 r4]) ∧ Kd.R (Kd.int .u64) 22 w' w.heap.size (fun k_ => some k_ ≠ (v2_ : Value).ownBlock) v1_ r2 ∧ Kd.R (Kd.int .u64) 22 w' w.heap.size (fun k_ => some k_ ≠ (v1_ : Value).ownBlock) v2_ r3 ∧ Below w.heap.size w w' := by
 have hu44 := Try.underlying44
 have HR1 := jA.mk hr1
 have HC1 := jA.mk hc1
 clear hr1 hc1
 have HR2 := jA.mk hr2
 have HC2 := jA.mk hc2
 clear hr2 hc2
 have HB := jA.mk (Below.refl w.heap.size w)
 have H : ((jV.f k l1 l2).bind fun bt596 => (if bt596.2 = 0 then (if (l2.length : Int) = 0 then (some (false, ([] : List Int), ([] : List Int), 30)) else ((jD.f k l1 bt596.1).bind fun bt600 => ((jD.f k l2 bt596.1).bind fun bt607 => (if a0 = true then (some (decide ((bt600.1.length : Int) > 0), bt600.1, bt607.1, 0)) else (some (false, bt600.1, bt607.1, 0)))))) else (some (false, ([] : List Int), ([] : List Int), bt596.2)))) = some (r1, r2, r3, r4) := h
 clear h
 replace H := ob_ H
 obtain ⟨⟨t596, t599⟩, A40, H⟩ := H
 try dsimp only at H
 have A4 := jA.mk A40
 clear A40
 by_cases c5 : t599 = 0
 ·
  rw [if_pos c5] at H
  have c5b0 := beq_iff_eq.mpr c5
  have c5b1 := bne_eq_false_iff_eq.mpr c5
  clear c5
  by_cases c6 : (l2.length : Int) = 0
  ·
   rw [if_pos c6] at H
   have c6b0 := beq_iff_eq.mpr c6
   have c6b1 := bne_eq_false_iff_eq.mpr c6
   clear c6
   simp only [Option.some.injEq, Prod.mk.injEq] at H
   obtain ⟨rfl, rfl, rfl, rfl⟩ := H
   go_enter Try.func36, Try.ntmps36
   go_wp2_with (first | ((with_reducible refine jl (N := 6) rfl ?_); (try (refine jv (by rfl) ?_; dsimp only)); refine zA ?hg (N := 6) ?hd (cs := #[.bool false, .slice none 0 0, .slice none 0 0]) (t := 44) ?hr ?_; (case hd => rfl); (case hg => rfl); (case hr => exact gs_); intro gb595 hg w7 hbox hb; have n0_ := jA.mk (jC (bb_ HB) hb); have n1_ := jA.mk (hbox); have n2_ := jA.mk ((by rw [hg]; exact (jB (bb_ HB)) : w.heap.size ≤ gb595)); have n3_ := jA.mk ((by rw [hg]; exact (jB (bb_ HB)) : w.heap.size ≤ gb595)); clear HB; have HB := n0_; have BK595 := n1_; have GW595 := n2_; have GE595 := n3_; clear n0_ n1_ n2_ n3_ hb hbox hg) | ((with_reducible refine jJ (f := 77) rfl ?_); refine jr (some 19) rfl rfl Try.func77 kr_ rfl #[.slice A1 l1.length c1, .slice A2 l2.length c2] rfl mt_ ?_; (with_reducible refine (jV.calls k (fun k_ => k_ < w.heap.size) _ _ l1 (fun k_ => k_ < w.heap.size) _ _ l2 t596 t599 _ ?side1 ?side2 A4.out).mono ?_); (case side1 => exact Kd.V_mk HC1.out (Kd.zl (Kd.C_F (Kd.zN .u64) HR1.out) (bb1_ HB GE595))); (case side2 => exact Kd.V_mk HC2.out (Kd.zl (Kd.C_F (Kd.zN .u64) HR2.out) (bb1_ HB GE595))); rintro e w8 ⟨v597, rfl, ho0, hb⟩; refine ⟨_, rfl, ?_⟩; have n0_ := jA.mk (Kd.zk (Kd.vO (ok' := fun k_ => k_ ≠ gb595) ho0 (fun k_ hk_ => Or.elim hk_ (fun hs_ => Or.elim hs_ (fun hs_ => fun e_ => Nat.not_le.2 hs_ (by rw [e_]; exact GW595.out)) (fun hs_ => fun e_ => Nat.not_le.2 hs_ (by rw [e_]; exact GW595.out))) (fun hn_ => (Kd.jAe (g := gb595) (o := .cells #[.bool false, .slice none 0 0, .slice none 0 0] 44 (0, 0)) (kb_ BK595) k_ hn_)))) (jB (bb1_ HB GE595))); have n1_ := jA.mk (bl_ BK595 hb); have n2_ := jA.mk (jC (bb1_ HB GE595) hb); clear BK595 HB; have HO598 := n0_; have BK595 := n1_; have HB := n2_; clear n0_ n1_ n2_; have hcz9_0 : w8.cell? ⟨gb595, 0, none⟩ = some (.bool false) := (jF BK595.out 0).trans rfl; have hcz9_1 : w8.cell? ⟨gb595, 1, none⟩ = some (.slice none 0 0) := (jF BK595.out 1).trans rfl; have hcz9_2 : w8.cell? ⟨gb595, 2, none⟩ = some (.slice none 0 0) := (jF BK595.out 2).trans rfl; have hfz9_0 := jE BK595.out 0; have hfz9_1 := jE BK595.out 1; have hfz9_2 := jE BK595.out 2))
   refine bodyPost_ret (qN rfl _ _ gb595 44 #[.bool false, .slice none 0 0, .slice none 0 0] (0, 0) _ rfl (by refine pk_ ?_; refine vD (cs := #[.bool false, .slice none 0 0, .slice none 0 0]) ?_ 2 _ rs_; refine pk_ ?_; refine vD (cs := #[.bool false, .slice none 0 0, .slice none 0 0]) ?_ 1 _ rs_; refine pk_ ?_; refine vD (cs := #[.bool false, .slice none 0 0, .slice none 0 0]) ?_ 0 _ rs_; refine pk_ ?_; exact BK595.out) Try.underlying44 rfl kr_) rfl ?_
   exact ⟨_, _, ew_, nl_, nl_, (bb1_ HB GE595)⟩
  ·
   rw [if_neg c6] at H
   have c6b0 := beq_eq_false_iff_ne.mpr c6
   have c6b1 := bne_iff_ne.mpr c6
   have c6b2 : ¬ (l2 = []) := fun h_ => c6 (by rw [h_]; rfl)
   replace H := ob_ H
   obtain ⟨⟨t600, t601, t602⟩, A100, H⟩ := H
   try dsimp only at H
   have A10 := jA.mk A100
   clear A100
   replace H := ob_ H
   obtain ⟨⟨t607, t608, t609⟩, A110, H⟩ := H
   try dsimp only at H
   have A11 := jA.mk A110
   clear A110
   by_cases c12 : a0 = true
   ·
    subst c12
    have H1 : (some (decide ((t600.length : Int) > 0), t600, t607, 0)) = some (r1, r2, r3, r4) := by rw [if_pos rfl] at H; exact H
    clear H
    have H := H1
    clear H1
    simp only [Option.some.injEq, Prod.mk.injEq] at H
    obtain ⟨rfl, rfl, rfl, rfl⟩ := H
    go_enter Try.func36, Try.ntmps36
    go_wp2_with (first | ((with_reducible refine jl (N := 6) rfl ?_); (try (refine jv (by rfl) ?_; dsimp only)); refine zA ?hg (N := 6) ?hd (cs := #[.bool false, .slice none 0 0, .slice none 0 0]) (t := 44) ?hr ?_; (case hd => rfl); (case hg => rfl); (case hr => exact gs_); intro gb595 hg w13 hbox hb; have n0_ := jA.mk (jC (bb_ HB) hb); have n1_ := jA.mk (hbox); have n2_ := jA.mk ((by rw [hg]; exact (jB (bb_ HB)) : w.heap.size ≤ gb595)); have n3_ := jA.mk ((by rw [hg]; exact (jB (bb_ HB)) : w.heap.size ≤ gb595)); clear HB; have HB := n0_; have BK595 := n1_; have GW595 := n2_; have GE595 := n3_; clear n0_ n1_ n2_ n3_ hb hbox hg) | ((with_reducible refine jJ (f := 77) rfl ?_); refine jr (some 19) rfl rfl Try.func77 kr_ rfl #[.slice A1 l1.length c1, .slice A2 l2.length c2] rfl mt_ ?_; (with_reducible refine (jV.calls k (fun k_ => k_ < w.heap.size) _ _ l1 (fun k_ => k_ < w.heap.size) _ _ l2 t596 t599 _ ?side1 ?side2 A4.out).mono ?_); (case side1 => exact Kd.V_mk HC1.out (Kd.zl (Kd.C_F (Kd.zN .u64) HR1.out) (bb1_ HB GE595))); (case side2 => exact Kd.V_mk HC2.out (Kd.zl (Kd.C_F (Kd.zN .u64) HR2.out) (bb1_ HB GE595))); rintro e w14 ⟨v597, rfl, ho0, hb⟩; refine ⟨_, rfl, ?_⟩; have n0_ := jA.mk (Kd.zk (Kd.vO (ok' := fun k_ => k_ ≠ gb595) ho0 (fun k_ hk_ => Or.elim hk_ (fun hs_ => Or.elim hs_ (fun hs_ => fun e_ => Nat.not_le.2 hs_ (by rw [e_]; exact GW595.out)) (fun hs_ => fun e_ => Nat.not_le.2 hs_ (by rw [e_]; exact GW595.out))) (fun hn_ => (Kd.jAe (g := gb595) (o := .cells #[.bool false, .slice none 0 0, .slice none 0 0] 44 (0, 0)) (kb_ BK595) k_ hn_)))) (jB (bb1_ HB GE595))); have n1_ := jA.mk (bl_ BK595 hb); have n2_ := jA.mk (jC (bb1_ HB GE595) hb); clear BK595 HB; have HO598 := n0_; have BK595 := n1_; have HB := n2_; clear n0_ n1_ n2_; obtain ⟨Ao15, co15, eo15⟩ := Kd.zT HO598.out; subst eo15) | ((with_reducible refine jJ (f := 78) rfl ?_); refine jr (some 33) rfl rfl Try.func78 kr_ rfl #[.slice A1 l1.length c1, .slice Ao15 t596.length co15] rfl mt_ ?_; (with_reducible refine (jD.calls k _ _ l1 _ _ t596 t600 t601 t602 _ ?side1 ?side2 ?side3 ?side4 A10.out).mono ?_); (case side1 => exact cc_ (Kd.je HR1.out HB.out)); (case side2 => exact HC1.out); (case side3 => repeat (first | exact (Kd.vI HO598.out).2.2 | (with_reducible refine Kd.zR ?_ _) | (with_reducible refine Kd.zh ?_ _) | (with_reducible refine Kd.qG ?_))); (case side4 => exact (Kd.vI HO598.out).2.1); rintro e w16 ⟨v603, v605, rfl, ho0, ho1, hb⟩; refine ⟨_, rfl, ?_⟩; have n0_ := jA.mk (Kd.vO (Kd.jAA (Kd.jAA (Kd.jCA (rV_ HO598) hb) (Kd.jL ho0)) (Kd.jL ho1)) (fun _ h_ => h_.1)); have n1_ := jA.mk (Kd.jS ho0 (jB (bb1_ HB GE595))); have n2_ := jA.mk (Kd.jS ho1 (jB (bb1_ HB GE595))); have n3_ := jA.mk (bl_ BK595 hb); have n4_ := jA.mk (jC (bb1_ HB GE595) hb); clear HO598 BK595 HB; have HO598 := n0_; have HO604 := n1_; have HO606 := n2_; have BK595 := n3_; have HB := n4_; clear n0_ n1_ n2_ n3_ n4_) | ((with_reducible refine jJ (f := 78) rfl ?_); refine jr (some 40) rfl rfl Try.func78 kr_ rfl #[.slice A2 l2.length c2, .slice Ao15 t596.length co15] rfl mt_ ?_; (with_reducible refine (jD.calls k _ _ l2 _ _ t596 t607 t608 t609 _ ?side1 ?side2 ?side3 ?side4 A11.out).mono ?_); (case side1 => exact cc_ (Kd.je HR2.out HB.out)); (case side2 => exact HC2.out); (case side3 => repeat (first | exact (Kd.vI HO598.out).2.2 | (with_reducible refine Kd.zR ?_ _) | (with_reducible refine Kd.zh ?_ _) | (with_reducible refine Kd.qG ?_))); (case side4 => exact (Kd.vI HO598.out).2.1); rintro e w17 ⟨v610, v612, rfl, ho0, ho1, hb⟩; refine ⟨_, rfl, ?_⟩; have n0_ := jA.mk (Kd.vO (Kd.jAA (Kd.jAA (Kd.jCA (rV_ HO598) hb) (Kd.jL ho0)) (Kd.jL ho1)) (fun _ h_ => h_.1)); have n1_ := jA.mk (Kd.jP (Kd.zI (Kd.zI (Kd.jAR (rR_ HO604) hb) (Kd.jL ho0)) (Kd.jL ho1)) (fun _ h_ => h_.1)); have n2_ := jA.mk (Kd.jP (Kd.zI (Kd.zI (Kd.jAR (rR_ HO606) hb) (Kd.jL ho0)) (Kd.jL ho1)) (fun _ h_ => h_.1)); have n3_ := jA.mk (Kd.jS (Kd.jN (Kd.jN ho0 (Kd.R_lt (rR_ HO604))) (Kd.R_lt (rR_ HO606))) (jB (bb1_ HB GE595))); have n4_ := jA.mk (Kd.jS (Kd.jN (Kd.jN ho1 (Kd.R_lt (rR_ HO604))) (Kd.R_lt (rR_ HO606))) (jB (bb1_ HB GE595))); have n5_ := jA.mk (bl_ BK595 hb); have n6_ := jA.mk (jC (bb1_ HB GE595) hb); clear HO598 HO604 HO606 BK595 HB; have HO598 := n0_; have HO604 := n1_; have HO606 := n2_; have HO611 := n3_; have HO613 := n4_; have BK595 := n5_; have HB := n6_; clear n0_ n1_ n2_ n3_ n4_ n5_ n6_; obtain ⟨Ao18, co18, eo18⟩ := Kd.jc HO604.out; subst eo18; obtain ⟨Ao19, co19, eo19⟩ := Kd.jc HO611.out; subst eo19; have hcz20_0 : w17.cell? ⟨gb595, 0, none⟩ = some (.bool false) := (jF BK595.out 0).trans rfl; have hcz20_1 : w17.cell? ⟨gb595, 1, none⟩ = some (.slice none 0 0) := (jF BK595.out 1).trans rfl; have hcz20_2 : w17.cell? ⟨gb595, 2, none⟩ = some (.slice none 0 0) := (jF BK595.out 2).trans rfl; have hfz20_0 := jE BK595.out 0; have hfz20_1 := jE BK595.out 1; have hfz20_2 := jE BK595.out 2))
    refine bodyPost_ret (qN rfl _ _ gb595 44 #[.bool (decide ((t600.length : Int) > 0)), .slice Ao18 t600.length co18, .slice Ao19 t607.length co19] (0, 0) _ rfl (by refine pk_ ?_; refine vD (cs := #[.bool (decide ((t600.length : Int) > 0)), .slice Ao18 t600.length co18, .slice none 0 0]) ?_ 2 _ rs_; refine pk_ ?_; refine vD (cs := #[.bool (decide ((t600.length : Int) > 0)), .slice none 0 0, .slice none 0 0]) ?_ 1 _ rs_; refine pk_ ?_; refine vD (cs := #[.bool false, .slice none 0 0, .slice none 0 0]) ?_ 0 _ rs_; refine pk_ ?_; exact BK595.out) Try.underlying44 rfl kr_) rfl ?_
    exact ⟨_, _, ew_, by refine pR_ ?_; exact Kd.jP (Kd.ji (p := ⟨gb595, 2, none⟩) (Kd.ji (p := ⟨gb595, 1, none⟩) (Kd.ji (p := ⟨gb595, 0, none⟩) (Kd.jW HO604.out BK595.out (by decide)) (fun _ hk => hk.2) _) (fun _ hk => hk.2) (.slice Ao18 t600.length co18)) (fun _ hk => hk.2) (.slice Ao19 t607.length co19)) (fun _ hk => hk.1.1.2), by refine pR_ ?_; exact Kd.jP (Kd.ji (p := ⟨gb595, 2, none⟩) (Kd.ji (p := ⟨gb595, 1, none⟩) (Kd.ji (p := ⟨gb595, 0, none⟩) (Kd.jW HO611.out BK595.out (by decide)) (fun _ hk => hk.2) _) (fun _ hk => hk.2) (.slice Ao18 t600.length co18)) (fun _ hk => hk.2) (.slice Ao19 t607.length co19)) (fun _ hk => hk.1.1.2), (bb1_ HB GE595)⟩
   ·
    replace c12 := Bool.eq_false_iff.mpr c12
    subst c12
    have H1 : (some (false, t600, t607, 0)) = some (r1, r2, r3, r4) := by rw [if_neg (show ¬ (false = true) by decide)] at H; exact H
    clear H
    have H := H1
    clear H1
    simp only [Option.some.injEq, Prod.mk.injEq] at H
    obtain ⟨rfl, rfl, rfl, rfl⟩ := H
    go_enter Try.func36, Try.ntmps36
    go_wp2_with (first | ((with_reducible refine jl (N := 6) rfl ?_); (try (refine jv (by rfl) ?_; dsimp only)); refine zA ?hg (N := 6) ?hd (cs := #[.bool false, .slice none 0 0, .slice none 0 0]) (t := 44) ?hr ?_; (case hd => rfl); (case hg => rfl); (case hr => exact gs_); intro gb595 hg w21 hbox hb; have n0_ := jA.mk (jC (bb_ HB) hb); have n1_ := jA.mk (hbox); have n2_ := jA.mk ((by rw [hg]; exact (jB (bb_ HB)) : w.heap.size ≤ gb595)); have n3_ := jA.mk ((by rw [hg]; exact (jB (bb_ HB)) : w.heap.size ≤ gb595)); clear HB; have HB := n0_; have BK595 := n1_; have GW595 := n2_; have GE595 := n3_; clear n0_ n1_ n2_ n3_ hb hbox hg) | ((with_reducible refine jJ (f := 77) rfl ?_); refine jr (some 19) rfl rfl Try.func77 kr_ rfl #[.slice A1 l1.length c1, .slice A2 l2.length c2] rfl mt_ ?_; (with_reducible refine (jV.calls k (fun k_ => k_ < w.heap.size) _ _ l1 (fun k_ => k_ < w.heap.size) _ _ l2 t596 t599 _ ?side1 ?side2 A4.out).mono ?_); (case side1 => exact Kd.V_mk HC1.out (Kd.zl (Kd.C_F (Kd.zN .u64) HR1.out) (bb1_ HB GE595))); (case side2 => exact Kd.V_mk HC2.out (Kd.zl (Kd.C_F (Kd.zN .u64) HR2.out) (bb1_ HB GE595))); rintro e w22 ⟨v597, rfl, ho0, hb⟩; refine ⟨_, rfl, ?_⟩; have n0_ := jA.mk (Kd.zk (Kd.vO (ok' := fun k_ => k_ ≠ gb595) ho0 (fun k_ hk_ => Or.elim hk_ (fun hs_ => Or.elim hs_ (fun hs_ => fun e_ => Nat.not_le.2 hs_ (by rw [e_]; exact GW595.out)) (fun hs_ => fun e_ => Nat.not_le.2 hs_ (by rw [e_]; exact GW595.out))) (fun hn_ => (Kd.jAe (g := gb595) (o := .cells #[.bool false, .slice none 0 0, .slice none 0 0] 44 (0, 0)) (kb_ BK595) k_ hn_)))) (jB (bb1_ HB GE595))); have n1_ := jA.mk (bl_ BK595 hb); have n2_ := jA.mk (jC (bb1_ HB GE595) hb); clear BK595 HB; have HO598 := n0_; have BK595 := n1_; have HB := n2_; clear n0_ n1_ n2_; obtain ⟨Ao23, co23, eo23⟩ := Kd.zT HO598.out; subst eo23) | ((with_reducible refine jJ (f := 78) rfl ?_); refine jr (some 33) rfl rfl Try.func78 kr_ rfl #[.slice A1 l1.length c1, .slice Ao23 t596.length co23] rfl mt_ ?_; (with_reducible refine (jD.calls k _ _ l1 _ _ t596 t600 t601 t602 _ ?side1 ?side2 ?side3 ?side4 A10.out).mono ?_); (case side1 => exact cc_ (Kd.je HR1.out HB.out)); (case side2 => exact HC1.out); (case side3 => repeat (first | exact (Kd.vI HO598.out).2.2 | (with_reducible refine Kd.zR ?_ _) | (with_reducible refine Kd.zh ?_ _) | (with_reducible refine Kd.qG ?_))); (case side4 => exact (Kd.vI HO598.out).2.1); rintro e w24 ⟨v603, v605, rfl, ho0, ho1, hb⟩; refine ⟨_, rfl, ?_⟩; have n0_ := jA.mk (Kd.vO (Kd.jAA (Kd.jAA (Kd.jCA (rV_ HO598) hb) (Kd.jL ho0)) (Kd.jL ho1)) (fun _ h_ => h_.1)); have n1_ := jA.mk (Kd.jS ho0 (jB (bb1_ HB GE595))); have n2_ := jA.mk (Kd.jS ho1 (jB (bb1_ HB GE595))); have n3_ := jA.mk (bl_ BK595 hb); have n4_ := jA.mk (jC (bb1_ HB GE595) hb); clear HO598 BK595 HB; have HO598 := n0_; have HO604 := n1_; have HO606 := n2_; have BK595 := n3_; have HB := n4_; clear n0_ n1_ n2_ n3_ n4_) | ((with_reducible refine jJ (f := 78) rfl ?_); refine jr (some 40) rfl rfl Try.func78 kr_ rfl #[.slice A2 l2.length c2, .slice Ao23 t596.length co23] rfl mt_ ?_; (with_reducible refine (jD.calls k _ _ l2 _ _ t596 t607 t608 t609 _ ?side1 ?side2 ?side3 ?side4 A11.out).mono ?_); (case side1 => exact cc_ (Kd.je HR2.out HB.out)); (case side2 => exact HC2.out); (case side3 => repeat (first | exact (Kd.vI HO598.out).2.2 | (with_reducible refine Kd.zR ?_ _) | (with_reducible refine Kd.zh ?_ _) | (with_reducible refine Kd.qG ?_))); (case side4 => exact (Kd.vI HO598.out).2.1); rintro e w25 ⟨v610, v612, rfl, ho0, ho1, hb⟩; refine ⟨_, rfl, ?_⟩; have n0_ := jA.mk (Kd.vO (Kd.jAA (Kd.jAA (Kd.jCA (rV_ HO598) hb) (Kd.jL ho0)) (Kd.jL ho1)) (fun _ h_ => h_.1)); have n1_ := jA.mk (Kd.jP (Kd.zI (Kd.zI (Kd.jAR (rR_ HO604) hb) (Kd.jL ho0)) (Kd.jL ho1)) (fun _ h_ => h_.1)); have n2_ := jA.mk (Kd.jP (Kd.zI (Kd.zI (Kd.jAR (rR_ HO606) hb) (Kd.jL ho0)) (Kd.jL ho1)) (fun _ h_ => h_.1)); have n3_ := jA.mk (Kd.jS (Kd.jN (Kd.jN ho0 (Kd.R_lt (rR_ HO604))) (Kd.R_lt (rR_ HO606))) (jB (bb1_ HB GE595))); have n4_ := jA.mk (Kd.jS (Kd.jN (Kd.jN ho1 (Kd.R_lt (rR_ HO604))) (Kd.R_lt (rR_ HO606))) (jB (bb1_ HB GE595))); have n5_ := jA.mk (bl_ BK595 hb); have n6_ := jA.mk (jC (bb1_ HB GE595) hb); clear HO598 HO604 HO606 BK595 HB; have HO598 := n0_; have HO604 := n1_; have HO606 := n2_; have HO611 := n3_; have HO613 := n4_; have BK595 := n5_; have HB := n6_; clear n0_ n1_ n2_ n3_ n4_ n5_ n6_; obtain ⟨Ao26, co26, eo26⟩ := Kd.jc HO611.out; subst eo26; obtain ⟨Ao27, co27, eo27⟩ := Kd.jc HO604.out; subst eo27; have hcz28_0 : w25.cell? ⟨gb595, 0, none⟩ = some (.bool false) := (jF BK595.out 0).trans rfl; have hcz28_1 : w25.cell? ⟨gb595, 1, none⟩ = some (.slice none 0 0) := (jF BK595.out 1).trans rfl; have hcz28_2 : w25.cell? ⟨gb595, 2, none⟩ = some (.slice none 0 0) := (jF BK595.out 2).trans rfl; have hfz28_0 := jE BK595.out 0; have hfz28_1 := jE BK595.out 1; have hfz28_2 := jE BK595.out 2))
    refine bodyPost_ret (qN rfl _ _ gb595 44 #[.bool false, .slice Ao27 t600.length co27, .slice Ao26 t607.length co26] (0, 0) _ rfl (by refine pk_ ?_; refine vD (cs := #[.bool false, .slice Ao27 t600.length co27, .slice none 0 0]) ?_ 2 _ rs_; refine pk_ ?_; refine vD (cs := #[.bool false, .slice none 0 0, .slice none 0 0]) ?_ 1 _ rs_; refine pk_ ?_; refine vD (cs := #[.bool false, .slice none 0 0, .slice none 0 0]) ?_ 0 _ rs_; refine pk_ ?_; exact BK595.out) Try.underlying44 rfl kr_) rfl ?_
    exact ⟨_, _, ew_, by refine pR_ ?_; exact Kd.jP (Kd.ji (p := ⟨gb595, 2, none⟩) (Kd.ji (p := ⟨gb595, 1, none⟩) (Kd.ji (p := ⟨gb595, 0, none⟩) (Kd.jW HO604.out BK595.out (by decide)) (fun _ hk => hk.2) (.bool false)) (fun _ hk => hk.2) (.slice Ao27 t600.length co27)) (fun _ hk => hk.2) (.slice Ao26 t607.length co26)) (fun _ hk => hk.1.1.2), by refine pR_ ?_; exact Kd.jP (Kd.ji (p := ⟨gb595, 2, none⟩) (Kd.ji (p := ⟨gb595, 1, none⟩) (Kd.ji (p := ⟨gb595, 0, none⟩) (Kd.jW HO611.out BK595.out (by decide)) (fun _ hk => hk.2) (.bool false)) (fun _ hk => hk.2) (.slice Ao27 t600.length co27)) (fun _ hk => hk.2) (.slice Ao26 t607.length co26)) (fun _ hk => hk.1.1.2), (bb1_ HB GE595)⟩
 ·
  rw [if_neg c5] at H
  have c5b0 := beq_eq_false_iff_ne.mpr c5
  have c5b1 := bne_iff_ne.mpr c5
  simp only [Option.some.injEq, Prod.mk.injEq] at H
  obtain ⟨rfl, rfl, rfl, rfl⟩ := H
  go_enter Try.func36, Try.ntmps36
  go_wp2_with (first | ((with_reducible refine jl (N := 6) rfl ?_); (try (refine jv (by rfl) ?_; dsimp only)); refine zA ?hg (N := 6) ?hd (cs := #[.bool false, .slice none 0 0, .slice none 0 0]) (t := 44) ?hr ?_; (case hd => rfl); (case hg => rfl); (case hr => exact gs_); intro gb595 hg w29 hbox hb; have n0_ := jA.mk (jC (bb_ HB) hb); have n1_ := jA.mk (hbox); have n2_ := jA.mk ((by rw [hg]; exact (jB (bb_ HB)) : w.heap.size ≤ gb595)); have n3_ := jA.mk ((by rw [hg]; exact (jB (bb_ HB)) : w.heap.size ≤ gb595)); clear HB; have HB := n0_; have BK595 := n1_; have GW595 := n2_; have GE595 := n3_; clear n0_ n1_ n2_ n3_ hb hbox hg) | ((with_reducible refine jJ (f := 77) rfl ?_); refine jr (some 19) rfl rfl Try.func77 kr_ rfl #[.slice A1 l1.length c1, .slice A2 l2.length c2] rfl mt_ ?_; (with_reducible refine (jV.calls k (fun k_ => k_ < w.heap.size) _ _ l1 (fun k_ => k_ < w.heap.size) _ _ l2 t596 t599 _ ?side1 ?side2 A4.out).mono ?_); (case side1 => exact Kd.V_mk HC1.out (Kd.zl (Kd.C_F (Kd.zN .u64) HR1.out) (bb1_ HB GE595))); (case side2 => exact Kd.V_mk HC2.out (Kd.zl (Kd.C_F (Kd.zN .u64) HR2.out) (bb1_ HB GE595))); rintro e w30 ⟨v597, rfl, ho0, hb⟩; refine ⟨_, rfl, ?_⟩; have n0_ := jA.mk (Kd.zk (Kd.vO (ok' := fun k_ => k_ ≠ gb595) ho0 (fun k_ hk_ => Or.elim hk_ (fun hs_ => Or.elim hs_ (fun hs_ => fun e_ => Nat.not_le.2 hs_ (by rw [e_]; exact GW595.out)) (fun hs_ => fun e_ => Nat.not_le.2 hs_ (by rw [e_]; exact GW595.out))) (fun hn_ => (Kd.jAe (g := gb595) (o := .cells #[.bool false, .slice none 0 0, .slice none 0 0] 44 (0, 0)) (kb_ BK595) k_ hn_)))) (jB (bb1_ HB GE595))); have n1_ := jA.mk (bl_ BK595 hb); have n2_ := jA.mk (jC (bb1_ HB GE595) hb); clear BK595 HB; have HO598 := n0_; have BK595 := n1_; have HB := n2_; clear n0_ n1_ n2_; have hcz31_0 : w30.cell? ⟨gb595, 0, none⟩ = some (.bool false) := (jF BK595.out 0).trans rfl; have hcz31_1 : w30.cell? ⟨gb595, 1, none⟩ = some (.slice none 0 0) := (jF BK595.out 1).trans rfl; have hcz31_2 : w30.cell? ⟨gb595, 2, none⟩ = some (.slice none 0 0) := (jF BK595.out 2).trans rfl; have hfz31_0 := jE BK595.out 0; have hfz31_1 := jE BK595.out 1; have hfz31_2 := jE BK595.out 2))
  refine bodyPost_ret (qN rfl _ _ gb595 44 #[.bool false, .slice none 0 0, .slice none 0 0] (0, 0) _ rfl (by refine pk_ ?_; refine vD (cs := #[.bool false, .slice none 0 0, .slice none 0 0]) ?_ 2 _ rs_; refine pk_ ?_; refine vD (cs := #[.bool false, .slice none 0 0, .slice none 0 0]) ?_ 1 _ rs_; refine pk_ ?_; refine vD (cs := #[.bool false, .slice none 0 0, .slice none 0 0]) ?_ 0 _ rs_; refine pk_ ?_; exact BK595.out) Try.underlying44 rfl kr_) rfl ?_
  exact ⟨_, _, ew_, nl_, nl_, (bb1_ HB GE595)⟩

/-! ### zJ: function 41 -/
def zJ.f (k : Nat) (a0 : Bool) (a1 : Int) (a2 : Int) : Option (Bool × List Int × List Int) := (jd.f k (([IntKind.u64.wrap (a1)] : List Int))).bind fun t618 => ((vZ.f k a0 t618 (([IntKind.u64.wrap ((IntKind.u64.wrap (a2)) + 1)] : List Int))).bind fun bt624 => (some (bt624.1, bt624.2.1, bt624.2.2.1)))
theorem zJ.mono : ∀ a0 a1 a2 k, LeO (zJ.f k a0 a1 a2) (zJ.f (k + 1) a0 a1 a2) := by
 intro a0 a1 a2 k
 unfold zJ.f
 repeat' first
   | (with_reducible exact jd.mono _ _)
   | (with_reducible exact vZ.mono _ _ _ _)
   | (with_reducible exact LeO.refl _)
   | (with_reducible exact LeO.none _)
   | (with_reducible refine LeO.ite ?_ ?_)
   | (with_reducible refine LeO.bind ?_ (fun _ => ?_))
theorem zJ.calls (k : Nat) (a0 : Bool) (a1 : Int) (a2 : Int) (r1 : Bool) (r2 : List Int) (r3 : List Int) (w : World) (h : zJ.f k a0 a1 a2 = some (r1, r2, r3)) :
  Calls Try.prog 41 #[.bool a0, .int .u32 a1, .int .u32 a2] w fun e w' => ∃ v1_ v2_ : Value, e = .returned (.agg #[.bool r1, v1_, v2_]) ∧ Kd.R (Kd.int .u64) 22 w' w.heap.size (fun k_ => some k_ ≠ (v2_ : Value).ownBlock) v1_ r2 ∧ Kd.R (Kd.int .u64) 22 w' w.heap.size (fun k_ => some k_ ≠ (v1_ : Value).ownBlock) v2_ r3 ∧ Below w.heap.size w w' := by
 have hu44 := Try.underlying44
 have HB := jA.mk (Below.refl w.heap.size w)
 have H : ((jd.f k (([IntKind.u64.wrap (a1)] : List Int))).bind fun t618 => ((vZ.f k a0 t618 (([IntKind.u64.wrap ((IntKind.u64.wrap (a2)) + 1)] : List Int))).bind fun bt624 => (some (bt624.1, bt624.2.1, bt624.2.2.1)))) = some (r1, r2, r3) := h
 clear h
 obtain ⟨y615, hy615⟩ : ∃ y_ : List Int, y_ = (([IntKind.u64.wrap (a1)] : List Int)) := ⟨_, rfl⟩
 replace H : ((jd.f k y615).bind fun t618 => ((vZ.f k a0 t618 (([IntKind.u64.wrap ((IntKind.u64.wrap (a2)) + 1)] : List Int))).bind fun bt624 => (some (bt624.1, bt624.2.1, bt624.2.2.1)))) = some (r1, r2, r3) := by first | (rw [hy615]; with_reducible exact H) | (have H2_ := (Option.bind_some _ _).symm.trans H; rw [hy615]; with_reducible exact H2_) | (with_reducible exact hs_ H) | with_reducible exact H | (rw [hy615]; exact H) | exact H
 have Ny615 := jA.mk hy615
 clear hy615
 replace H := ob_ H
 obtain ⟨t618, A40, H⟩ := H
 try dsimp only at H
 have A4 := jA.mk A40
 clear A40
 obtain ⟨y621, hy621⟩ : ∃ y_ : List Int, y_ = (([IntKind.u64.wrap ((IntKind.u64.wrap (a2)) + 1)] : List Int)) := ⟨_, rfl⟩
 replace H : ((vZ.f k a0 t618 y621).bind fun bt624 => (some (bt624.1, bt624.2.1, bt624.2.2.1))) = some (r1, r2, r3) := by first | (rw [hy621]; with_reducible exact H) | (have H2_ := (Option.bind_some _ _).symm.trans H; rw [hy621]; with_reducible exact H2_) | (with_reducible exact hs_ H) | with_reducible exact H | (rw [hy621]; exact H) | exact H
 have Ny621 := jA.mk hy621
 clear hy621
 replace H := ob_ H
 obtain ⟨⟨t624, t625, t628, t631⟩, A50, H⟩ := H
 try dsimp only at H
 have A5 := jA.mk A50
 clear A50
 simp only [Option.some.injEq, Prod.mk.injEq] at H
 obtain ⟨rfl, rfl, rfl⟩ := H
 go_enter Try.func41, Try.ntmps41
 go_wp2_with (first | ((with_reducible refine jl (N := 6) rfl ?_); refine zA ?hg (N := 6) ?hd (cs := #[.bool false, .slice none 0 0, .slice none 0 0]) (t := 44) ?hr ?_; (case hd => rfl); (case hg => rfl); (case hr => exact gs_); intro gb614 hg w6 hbox hb; have n0_ := jA.mk (jC (bb_ HB) hb); have n1_ := jA.mk (hbox); have n2_ := jA.mk ((by rw [hg]; exact (jB (bb_ HB)) : w.heap.size ≤ gb614)); have n3_ := jA.mk ((by rw [hg]; exact (jB (bb_ HB)) : w.heap.size ≤ gb614)); clear HB; have HB := n0_; have BK614 := n1_; have GW614 := n2_; have GE614 := n3_; clear n0_ n1_ n2_ n3_ hb hbox hg) | ((with_reducible refine jl (N := 13) rfl ?_); refine Kd.jAC (Kd.int .u64) _ 22 ?hg (N := 13) ?hd (xs := ([IntKind.u64.wrap (a1)] : List Int)) (inner := [.int .u64 (IntKind.u64.wrap (a1))]) (ok := fun _ => True) (okp := fun _ => True) ?hr ?hp (fun _ hk => hk) trivial (Below.refl _ _) (Nat.le_refl _) (by simp) ?_; (case hd => rfl); (case hg => rfl); (case hr => exact gs_); (case hp => exact (Reps.one (show Kd.M (Kd.int .u64) _ _ _ (IntKind.u64.wrap (a1)) [.int .u64 (IntKind.u64.wrap (a1))] from rfl) (Reps.none _ _))); intro v616 w7 ho8 hb hg_ hnew_; clear hg_ hnew_; (first | rw [← Ny615.out] at ho8 | (simp only [Int.reduceToNat] at ho8; rw [← Ny615.out] at ho8)); have n0_ := jA.mk (Kd.jS ho8 (jB (bb1_ HB GE614))); have n1_ := jA.mk (bl_ BK614 hb); have n2_ := jA.mk (jC (bb1_ HB GE614) hb); clear BK614 HB; have HO617 := n0_; have BK614 := n1_; have HB := n2_; clear n0_ n1_ n2_ hb ho8; obtain ⟨Ao9, co9, eo9⟩ := Kd.jc HO617.out; subst eo9) | ((with_reducible refine jJ (f := 25) rfl ?_); refine jr (some 14) rfl rfl Try.func25 kr_ rfl #[.slice Ao9 y615.length co9] rfl mt_ ?_; (with_reducible refine (jd.calls k _ _ y615 t618 _ ?side1 ?side2 A4.out).mono ?_); (case side1 => exact cc_ (Kd.jI HO617.out).2.2); (case side2 => exact (Kd.jI HO617.out).2.1); rintro e w10 ⟨v619, rfl, ho0, hb⟩; refine ⟨_, rfl, ?_⟩; have n0_ := jA.mk (Kd.jK (rR_ HO617) (Kd.jL ho0) hb); have n1_ := jA.mk (Kd.jS (Kd.jN ho0 (Kd.R_lt (rR_ HO617))) (jB (bb1_ HB GE614))); have n2_ := jA.mk (bl_ BK614 hb); have n3_ := jA.mk (jC (bb1_ HB GE614) hb); clear HO617 BK614 HB; have HO617 := n0_; have HO620 := n1_; have BK614 := n2_; have HB := n3_; clear n0_ n1_ n2_ n3_) | ((with_reducible refine jl (N := 18) rfl ?_); refine Kd.jAC (Kd.int .u64) _ 22 ?hg (N := 18) ?hd (xs := ([IntKind.u64.wrap ((IntKind.u64.wrap (a2)) + 1)] : List Int)) (inner := [.int .u64 (IntKind.u64.wrap ((IntKind.u64.wrap (a2)) + 1))]) (ok := fun _ => True) (okp := fun _ => True) ?hr ?hp (fun _ hk => hk) trivial (Below.refl _ _) (Nat.le_refl _) (by simp) ?_; (case hd => rfl); (case hg => rfl); (case hr => exact gs_); (case hp => exact (Reps.one (show Kd.M (Kd.int .u64) _ _ _ (IntKind.u64.wrap ((IntKind.u64.wrap (a2)) + 1)) [.int .u64 (IntKind.u64.wrap ((IntKind.u64.wrap (a2)) + 1))] from rfl) (Reps.none _ _))); intro v622 w11 ho12 hb hg_ hnew_; clear hg_ hnew_; (first | rw [← Ny621.out] at ho12 | (simp only [Int.reduceToNat] at ho12; rw [← Ny621.out] at ho12)); have n0_ := jA.mk (Kd.jK (rR_ HO617) (Kd.jL ho12) hb); have n1_ := jA.mk (Kd.jK (rR_ HO620) (Kd.jL ho12) hb); have n2_ := jA.mk (Kd.jS (Kd.jN (Kd.jN ho12 (Kd.R_lt (rR_ HO617))) (Kd.R_lt (rR_ HO620))) (jB (bb1_ HB GE614))); have n3_ := jA.mk (bl_ BK614 hb); have n4_ := jA.mk (jC (bb1_ HB GE614) hb); clear HO617 HO620 BK614 HB; have HO617 := n0_; have HO620 := n1_; have HO623 := n2_; have BK614 := n3_; have HB := n4_; clear n0_ n1_ n2_ n3_ n4_ hb ho12; obtain ⟨Ao13, co13, eo13⟩ := Kd.jc HO620.out; subst eo13; obtain ⟨Ao14, co14, eo14⟩ := Kd.jc HO623.out; subst eo14) | ((with_reducible refine jJ (f := 36) rfl ?_); refine jr (some 19) rfl rfl Try.func36 kr_ rfl #[.bool a0, .slice Ao13 t618.length co13, .slice Ao14 y621.length co14] rfl mt_ ?_; (with_reducible refine (vZ.calls k a0 _ _ t618 _ _ y621 t624 t625 t628 t631 _ ?side1 ?side2 ?side3 ?side4 A5.out).mono ?_); (case side1 => exact cc_ (Kd.jI HO620.out).2.2); (case side2 => exact (Kd.jI HO620.out).2.1); (case side3 => exact cc_ (Kd.jI HO623.out).2.2); (case side4 => exact (Kd.jI HO623.out).2.1); rintro e w15 ⟨v626, v629, rfl, ho0, ho1, hb⟩; refine ⟨_, rfl, ?_⟩; have n0_ := jA.mk (Kd.jP (Kd.zI (Kd.zI (Kd.jAR (rR_ HO617) hb) (Kd.jL ho0)) (Kd.jL ho1)) (fun _ h_ => h_.1)); have n1_ := jA.mk (Kd.jP (Kd.zI (Kd.zI (Kd.jAR (rR_ HO620) hb) (Kd.jL ho0)) (Kd.jL ho1)) (fun _ h_ => h_.1)); have n2_ := jA.mk (Kd.jP (Kd.zI (Kd.zI (Kd.jAR (rR_ HO623) hb) (Kd.jL ho0)) (Kd.jL ho1)) (fun _ h_ => h_.1)); have n3_ := jA.mk (Kd.jS (Kd.jN (Kd.jN (Kd.jN ho0 (Kd.R_lt (rR_ HO617))) (Kd.R_lt (rR_ HO620))) (Kd.R_lt (rR_ HO623))) (jB (bb1_ HB GE614))); have n4_ := jA.mk (Kd.jS (Kd.jN (Kd.jN (Kd.jN ho1 (Kd.R_lt (rR_ HO617))) (Kd.R_lt (rR_ HO620))) (Kd.R_lt (rR_ HO623))) (jB (bb1_ HB GE614))); have n5_ := jA.mk (bl_ BK614 hb); have n6_ := jA.mk (jC (bb1_ HB GE614) hb); clear HO617 HO620 HO623 BK614 HB; have HO617 := n0_; have HO620 := n1_; have HO623 := n2_; have HO627 := n3_; have HO630 := n4_; have BK614 := n5_; have HB := n6_; clear n0_ n1_ n2_ n3_ n4_ n5_ n6_) | ((with_reducible refine jl (N := 7) rfl ?_); refine zA ?hg (N := 7) ?hd (cs := #[.bool false, .slice none 0 0, .slice none 0 0]) (t := 44) ?hr ?_; (case hd => rfl); (case hg => rfl); (case hr => exact gs_); intro gb632 hg w16 hbox hb; have n0_ := jA.mk (Kd.jy (rR_ HO617) hb); have n1_ := jA.mk (Kd.jy (rR_ HO620) hb); have n2_ := jA.mk (Kd.jy (rR_ HO623) hb); have n3_ := jA.mk (Kd.jy (rR_ HO627) hb); have n4_ := jA.mk (Kd.jy (rR_ HO630) hb); have n5_ := jA.mk (bl_ BK614 hb); have n6_ := jA.mk (jC (bb1_ HB GE614) hb); have n7_ := jA.mk (hbox); have n8_ := jA.mk ((by rw [hg]; exact (jB (bb1_ HB GE614)) : w.heap.size ≤ gb632)); have n9_ := jA.mk ((by rw [hg]; exact (jB (bb1_ HB GE614)) : w.heap.size ≤ gb632)); have n10_ := jA.mk ((by rw [hg]; exact Nat.ne_of_lt (qC (g := gb614) (o := .cells #[.bool false, .slice none 0 0, .slice none 0 0] 44 (0, 0)) (kb_ BK614)) : gb614 ≠ gb632)); have n11_ := jA.mk ((by rw [hg]; exact Nat.ne_of_gt (qC (g := gb614) (o := .cells #[.bool false, .slice none 0 0, .slice none 0 0] 44 (0, 0)) (kb_ BK614)) : gb632 ≠ gb614)); clear HO617 HO620 HO623 HO627 HO630 BK614 HB; have HO617 := n0_; have HO620 := n1_; have HO623 := n2_; have HO627 := n3_; have HO630 := n4_; have BK614 := n5_; have HB := n6_; have BK632 := n7_; have GW632 := n8_; have GE632 := n9_; have NB614_632 := n10_; have NB632_614 := n11_; clear n0_ n1_ n2_ n3_ n4_ n5_ n6_ n7_ n8_ n9_ n10_ n11_ hb hbox hg; have hnb17 := NB632_614.out; have hnc17 := NB614_632.out; have hcz18_0 : w16.cell? ⟨gb632, 0, none⟩ = some (.bool false) := (jF BK632.out 0).trans rfl; have hcz18_1 : w16.cell? ⟨gb632, 1, none⟩ = some (.slice none 0 0) := (jF BK632.out 1).trans rfl; have hcz18_2 : w16.cell? ⟨gb632, 2, none⟩ = some (.slice none 0 0) := (jF BK632.out 2).trans rfl; have hfz18_0 := jE BK632.out 0; have hfz18_1 := jE BK632.out 1; have hfz18_2 := jE BK632.out 2; obtain ⟨Ao19, co19, eo19⟩ := Kd.jc HO627.out; subst eo19; obtain ⟨Ao20, co20, eo20⟩ := Kd.jc HO630.out; subst eo20; have hcz21_0 : w16.cell? ⟨gb614, 0, none⟩ = some (.bool false) := (jF BK614.out 0).trans rfl; have hcz21_1 : w16.cell? ⟨gb614, 1, none⟩ = some (.slice none 0 0) := (jF BK614.out 1).trans rfl; have hcz21_2 : w16.cell? ⟨gb614, 2, none⟩ = some (.slice none 0 0) := (jF BK614.out 2).trans rfl; have hfz21_0 := jE BK614.out 0; have hfz21_1 := jE BK614.out 1; have hfz21_2 := jE BK614.out 2))
 refine bodyPost_ret (results_cell_row rfl _ _ gb614 44 #[.bool t624, .slice Ao19 t625.length co19, .slice Ao20 t628.length co20] (0, 0) _ rfl (by refine pk_ ?_; refine vD (cs := #[.bool t624, .slice Ao19 t625.length co19, .slice none 0 0]) ?_ 2 _ rs_; refine pk_ ?_; refine vD (cs := #[.bool t624, .slice none 0 0, .slice none 0 0]) ?_ 1 _ rs_; refine pk_ ?_; refine vD (cs := #[.bool false, .slice none 0 0, .slice none 0 0]) ?_ 0 _ rs_; refine pk_ ?_; refine qX ?_ NB614_632.out _; refine pk_ ?_; refine qX ?_ NB614_632.out _; refine pk_ ?_; refine qX ?_ NB614_632.out _; refine pk_ ?_; exact BK614.out) Try.underlying44 rfl kr_) rfl ?_
 exact ⟨_, _, ew_, by refine pR_ ?_; exact Kd.jP (Kd.ji (p := ⟨gb614, 2, none⟩) (Kd.ji (p := ⟨gb614, 1, none⟩) (Kd.ji (p := ⟨gb614, 0, none⟩) (Kd.ji (p := ⟨gb632, 2, none⟩) (Kd.ji (p := ⟨gb632, 1, none⟩) (Kd.ji (p := ⟨gb632, 0, none⟩) (Kd.jW (Kd.jW HO627.out BK632.out (by decide)) BK614.out (by decide)) (fun _ hk => hk.1.2) (.bool t624)) (fun _ hk => hk.1.2) (.slice Ao19 t625.length co19)) (fun _ hk => hk.1.2) (.slice Ao20 t628.length co20)) (fun _ hk => hk.2) (.bool t624)) (fun _ hk => hk.2) (.slice Ao19 t625.length co19)) (fun _ hk => hk.2) (.slice Ao20 t628.length co20)) (fun _ hk => hk.1.1.1.1.1), by refine pR_ ?_; exact Kd.jP (Kd.ji (p := ⟨gb614, 2, none⟩) (Kd.ji (p := ⟨gb614, 1, none⟩) (Kd.ji (p := ⟨gb614, 0, none⟩) (Kd.ji (p := ⟨gb632, 2, none⟩) (Kd.ji (p := ⟨gb632, 1, none⟩) (Kd.ji (p := ⟨gb632, 0, none⟩) (Kd.jW (Kd.jW HO630.out BK632.out (by decide)) BK614.out (by decide)) (fun _ hk => hk.1.2) (.bool t624)) (fun _ hk => hk.1.2) (.slice Ao19 t625.length co19)) (fun _ hk => hk.1.2) (.slice Ao20 t628.length co20)) (fun _ hk => hk.2) (.bool t624)) (fun _ hk => hk.2) (.slice Ao19 t625.length co19)) (fun _ hk => hk.2) (.slice Ao20 t628.length co20)) (fun _ hk => hk.1.1.1.1.1), (bb2_ HB GE614 GE632)⟩

end Go.Proofs.Ytijgeonhbmgikaa.PORatioSums
