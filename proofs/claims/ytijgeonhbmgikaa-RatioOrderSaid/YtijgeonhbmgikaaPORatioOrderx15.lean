-- printed (pr.py)
import Derived.Test.YtijgeonhbmgikaaPORatioOrderx0
import Derived.Test.YtijgeonhbmgikaaPORatioOrderx11
import Derived.Test.YtijgeonhbmgikaaPORatioOrderx14
namespace Go.Proofs.Ytijgeonhbmgikaa.PORatioOrder
open Go.RowKit Go.Proofs.YtijgeonhbmgikaaN Go.Proofs.YtijgeonhbmgikaaW.PrintWords Go.Proofs.YtijgeonhbmgikaaW.PrintLast Go.Proofs.YtijgeonhbmgikaaW.PrintMore
attribute [local go_sem] qU qP qp qo zx zw qR qO
set_option maxHeartbeats 8000000
set_option maxRecDepth 100000
set_option linter.unusedVariables false
set_option linter.unusedSimpArgs false

/-! ### jV: function 77 -/
mutual
def jV.j0 : Nat → List Int → List Int → Bool → Option (List Int × Int)
 | 0, _, _, _ => none
 | k + 1, x0, x1, x16 => if x16 = true then (some (([] : List Int), 1)) else (jV.l0 k x0 x1)
def jV.l0 : Nat → List Int → List Int → Option (List Int × Int)
 | 0, _, _ => none
 | k + 1, x0, x1 => if (x1.length : Int) > 0 then ((jD.f k x0 x1).bind fun bt570 => (jV.l0 k x1 bt570.2.1)) else (some (x0, 0))
end
def jV.f (k : Nat) (l0 : List Int) (l1 : List Int) : Option (List Int × Int) := (vM.f l0).bind fun t568 => (if t568 = true then ((vM.f l1).bind fun t569 => (jV.j0 k l0 l1 (!t569))) else (jV.j0 k l0 l1 true))
theorem jV.vZ : ∀ k, (∀ y0 y1 y2, LeO (jV.j0 k y0 y1 y2) (jV.j0 (k + 1) y0 y1 y2)) ∧ (∀ y0 y1, LeO (jV.l0 k y0 y1) (jV.l0 (k + 1) y0 y1))
 | 0 => ⟨fun _ _ _ r h => by simp [jV.j0] at h, fun _ _ r h => by simp [jV.l0] at h⟩
 | k + 1 => by
  obtain ⟨ih0, ih1⟩ := jV.vZ k
  refine ⟨?_, ?_⟩ <;> (intros; first | unfold jV.j0 | unfold jV.l0) <;> repeat' first
   | (with_reducible exact ih0 _ _ _)
   | (with_reducible exact ih1 _ _)
   | (with_reducible exact jD.mono _ _ _)
   | (with_reducible exact LeO.refl _)
   | (with_reducible exact LeO.none _)
   | (with_reducible refine LeO.ite ?_ ?_)
   | (with_reducible refine LeO.bind ?_ (fun _ => ?_))
theorem jV.mono : ∀ a0 a1 k, LeO (jV.f k a0 a1) (jV.f (k + 1) a0 a1) := by
 intro a0 a1 k
 obtain ⟨ih0, ih1⟩ := jV.vZ k
 unfold jV.f
 repeat' first
   | (with_reducible exact ih0 _ _ _)
   | (with_reducible exact ih1 _ _)
   | (with_reducible exact jD.mono _ _ _)
   | (with_reducible exact LeO.refl _)
   | (with_reducible exact LeO.none _)
   | (with_reducible refine LeO.ite ?_ ?_)
   | (with_reducible refine LeO.bind ?_ (fun _ => ?_))
theorem jV.calls (k : Nat) (P0_ : Nat → Prop) (A0 : Option Addr) (c0 : Nat) (l0 : List Int) (P1_ : Nat → Prop) (A1 : Option Addr) (c1 : Nat) (l1 : List Int) (r1 : List Int) (r2 : Int) (w : World) (hs0 : Kd.V (Kd.int .u64) 22 w w.heap.size (fun k_ => P0_ k_) (.slice A0 l0.length c0) l0) (hs1 : Kd.V (Kd.int .u64) 22 w w.heap.size (fun k_ => P1_ k_) (.slice A1 l1.length c1) l1) (h : jV.f k l0 l1 = some (r1, r2)) :
  Calls Try.prog 77 #[.slice A0 l0.length c0, .slice A1 l1.length c1] w fun e w' => ∃ v0_ : Value, e = .returned (.tuple #[v0_, .int .i64 r2]) ∧ Kd.V (Kd.int .u64) 22 w' w.heap.size (fun k_ => ((P0_ k_ ∨ P1_ k_) ∨ w.heap.size ≤ k_)) v0_ r1 ∧ Below w.heap.size w w' := by
 have HO0 := jA.mk (show Kd.V (Kd.int .u64) 22 w w.heap.size (fun k_ => ((P0_ k_ ∨ P1_ k_) ∨ w.heap.size ≤ k_)) (.slice A0 l0.length c0) l0 from Kd.zA hs0 (fun k_ hk => .inl (.inl hk)))
 have HO1 := jA.mk (show Kd.V (Kd.int .u64) 22 w w.heap.size (fun k_ => ((P0_ k_ ∨ P1_ k_) ∨ w.heap.size ≤ k_)) (.slice A1 l1.length c1) l1 from Kd.zA hs1 (fun k_ hk => .inl (.inr hk)))
 have HB := jA.mk (Below.refl w.heap.size w)
 have H : ((vM.f l0).bind fun t568 => (if t568 = true then ((vM.f l1).bind fun t569 => (jV.j0 k l0 l1 (!t569))) else (jV.j0 k l0 l1 true))) = some (r1, r2) := h
 clear h
 have HC3 := jA.mk H
 clear H
 go_enter Try.func77, Try.ntmps77
 go_upto_region 1 with (fail)
 go_cut [16] (fun v16 wc => ∃ (kq : Nat) (x16_2 : Bool), v16 = .bool x16_2 ∧ jA (jV.j0 kq l0 l1 x16_2 = some (r1, r2)) ∧ jA (kq ≤ k) ∧ jA (Kd.V (Kd.int .u64) 22 wc w.heap.size (fun k_ => ((P0_ k_ ∨ P1_ k_) ∨ w.heap.size ≤ k_)) (.slice A0 l0.length c0) l0) ∧ jA (Kd.V (Kd.int .u64) 22 wc w.heap.size (fun k_ => ((P0_ k_ ∨ P1_ k_) ∨ w.heap.size ≤ k_)) (.slice A1 l1.length c1) l1) ∧ jA (Below w.heap.size w wc))
 case first =>
  have H := HC3.out
  clear HC3
  replace H := ob_ H
  obtain ⟨t568, A40, H⟩ := H
  try dsimp only at H
  have A4 := jA.mk A40
  clear A40
  by_cases c5 : t568 = true
  ·
   subst c5
   have H1 : ((vM.f l1).bind fun t569 => (jV.j0 k l0 l1 (!t569))) = some (r1, r2) := by rw [if_pos rfl] at H; exact H
   clear H
   have H := H1
   clear H1
   replace H := ob_ H
   obtain ⟨t569, A60, H⟩ := H
   try dsimp only at H
   have A6 := jA.mk A60
   clear A60
   have H' := jA.mk H
   clear H
   go_wp2_with (first | ((with_reducible refine jE (f := 74) rfl ?_); refine jh (some 10) rfl rfl Try.func74 kr_ rfl #[.slice A0 l0.length c0] rfl mt_ ?_; (with_reducible refine (vM.calls _ _ l0 true _ ?side1 ?side2 A4.out).mono ?_); (case side1 => repeat (first | exact (Kd.vJ HO0.out).2.2 | (with_reducible refine Kd.zZ ?_ _) | (with_reducible refine Kd.zh ?_ _) | (with_reducible refine Kd.qC ?_))); (case side2 => exact (Kd.vJ HO0.out).2.1); rintro e w' ⟨rfl, ⟨nd, rfl⟩⟩; refine ⟨_, rfl, ?_⟩) | ((with_reducible refine je (N := 14) rfl ?_); refine vC (by first | rfl | kernel_rfl) ?_; dsimp only; (with_reducible refine jE (f := 74) rfl ?_); refine jh (some 14) rfl rfl Try.func74 kr_ rfl #[.slice A1 l1.length c1] rfl mt_ ?_; (with_reducible refine (vM.calls _ _ l1 t569 _ ?side1 ?side2 A6.out).mono ?_); (case side1 => repeat (first | exact (Kd.vJ HO1.out).2.2 | (with_reducible refine Kd.zZ ?_ _) | (with_reducible refine Kd.zh ?_ _) | (with_reducible refine Kd.qC ?_))); (case side2 => exact (Kd.vJ HO1.out).2.1); rintro e w' ⟨rfl, ⟨nd, rfl⟩⟩; refine ⟨_, rfl, ?_⟩))
   go_meet
   case rel => exact ⟨_, (!t569), sd_, H', ⟨by first | omega | exact Nat.le_refl _⟩, ⟨(rV_ HO0)⟩, ⟨(rV_ HO1)⟩, ⟨(bb_ HB)⟩⟩
  ·
   replace c5 := Bool.eq_false_iff.mpr c5
   subst c5
   have H1 : (jV.j0 k l0 l1 true) = some (r1, r2) := by rw [if_neg (show ¬ (false = true) by decide)] at H; exact H
   clear H
   have H := H1
   clear H1
   have H' := jA.mk H
   clear H
   go_wp2_with (first | ((with_reducible refine jE (f := 74) rfl ?_); refine jh (some 10) rfl rfl Try.func74 kr_ rfl #[.slice A0 l0.length c0] rfl mt_ ?_; (with_reducible refine (vM.calls _ _ l0 false _ ?side1 ?side2 A4.out).mono ?_); (case side1 => repeat (first | exact (Kd.vJ HO0.out).2.2 | (with_reducible refine Kd.zZ ?_ _) | (with_reducible refine Kd.zh ?_ _) | (with_reducible refine Kd.qC ?_))); (case side2 => exact (Kd.vJ HO0.out).2.1); rintro e w' ⟨rfl, ⟨nd, rfl⟩⟩; refine ⟨_, rfl, ?_⟩))
   go_meet
   case rel => exact ⟨_, (true), sd_, H', ⟨by first | omega | exact Nat.le_refl _⟩, ⟨(rV_ HO0)⟩, ⟨(rV_ HO1)⟩, ⟨(bb_ HB)⟩⟩
 case rest =>
  clear HC3
  try clear c1
  try clear p2
  try clear c5
  obtain ⟨kq, x16_2, rfl, HA, HJ2, HO_0, HO_1, HB⟩ := hcut
  cases kq with
  | zero => exact absurd HA.out (by simp [jV.j0])
  | succ kj2 =>
   have H := HA.out
   clear HA
   simp only [jV.j0] at H
   by_cases c7 : x16_2 = true
   ·
    subst c7
    have H1 : (some (([] : List Int), 1)) = some (r1, r2) := by rw [if_pos rfl] at H; exact H
    clear H
    have H := H1
    clear H1
    simp only [Option.some.injEq, Prod.mk.injEq] at H
    obtain ⟨rfl, rfl⟩ := H
    go_wp2
    go_ret2
    exact ⟨_, ew_, Kd.jIa _ _ _ _ _, (bb_ HB)⟩
   ·
    replace c7 := Bool.eq_false_iff.mpr c7
    subst c7
    have H1 : (jV.l0 kj2 l0 l1) = some (r1, r2) := by rw [if_neg (show ¬ (false = true) by decide)] at H; exact H
    clear H
    have H := H1
    clear H1
    have H' := jA.mk H
    clear H
    go_wp2
    go_loopg [0, 1] kj2 (fun kq v0 v1 w' => ∃ (x0_2 : List Int) (x1_2 : List Int), jA (jV.l0 kq x0_2 x1_2 = some (r1, r2)) ∧ jA (kq ≤ kj2) ∧ jA (Kd.V (Kd.int .u64) 22 w' w.heap.size (fun k_ => ((P0_ k_ ∨ P1_ k_) ∨ w.heap.size ≤ k_)) v0 x0_2) ∧ jA (Kd.V (Kd.int .u64) 22 w' w.heap.size (fun k_ => ((P0_ k_ ∨ P1_ k_) ∨ w.heap.size ≤ k_)) v1 x1_2) ∧ jA (Below w.heap.size w w'))
    case atStart => exact ⟨(l0), (l1), H', ⟨Nat.le_refl _⟩, ⟨(rV_ HO_0)⟩, ⟨(rV_ HO_1)⟩, ⟨(bb_ HB)⟩⟩
    case round =>
     clear H'
     try clear c1
     try clear p2
     try clear c5
     try clear c7
     try clear p2
     obtain ⟨x0_2, x1_2, HA, HK2, HO_0, HO_1, HB⟩ := hrel
     cases gk with
     | zero => exact absurd HA.out (by simp [jV.l0])
     | succ k2 =>
      have H := HA.out
      clear HA
      simp only [jV.l0] at H
      by_cases c8 : (x1_2.length : Int) > 0
      ·
       rw [if_pos c8] at H
       have c8b0 := decide_eq_true c8
       have c8b1 : decide (0 < x1_2.length) = true := decide_eq_true (by omega)
       clear c8
       replace H := ob_ H
       obtain ⟨⟨t570, t571, t572⟩, A90, H⟩ := H
       try dsimp only at H
       have A9 := jA.mk A90
       clear A90
       have H' := jA.mk H
       clear H
       obtain ⟨Ao10, co10, eo10⟩ := Kd.zT HO_1.out
       subst eo10
       obtain ⟨Ao11, co11, eo11⟩ := Kd.zT HO_0.out
       subst eo11
       go_wp2_with (first | ((with_reducible refine jE (f := 78) rfl ?_); refine jh (some 23) rfl rfl Try.func78 kr_ rfl #[.slice Ao11 x0_2.length co11, .slice Ao10 x1_2.length co10] rfl mt_ ?_; (with_reducible refine (jD.calls k2 _ _ x0_2 _ _ x1_2 t570 t571 t572 _ ?side1 ?side2 ?side3 ?side4 A9.out).mono ?_); (case side1 => repeat (first | exact (Kd.vJ HO_0.out).2.2 | (with_reducible refine Kd.zZ ?_ _) | (with_reducible refine Kd.zh ?_ _) | (with_reducible refine Kd.qC ?_))); (case side2 => exact (Kd.vJ HO_0.out).2.1); (case side3 => repeat (first | exact (Kd.vJ HO_1.out).2.2 | (with_reducible refine Kd.zZ ?_ _) | (with_reducible refine Kd.zh ?_ _) | (with_reducible refine Kd.qC ?_))); (case side4 => exact (Kd.vJ HO_1.out).2.1); rintro e w12 ⟨v573, v575, rfl, ho0, ho1, hb⟩; refine ⟨_, rfl, ?_⟩; replace HO_0 := jA.mk (Kd.zA (Kd.jAp (Kd.jAp (Kd.jEP (rV_ HO_0) hb) (Kd.jU ho0)) (Kd.jU ho1)) (fun _ h_ => h_.1)); replace HO_1 := jA.mk (Kd.zA (Kd.jAp (Kd.jAp (Kd.jEP (rV_ HO_1) hb) (Kd.jU ho0)) (Kd.jU ho1)) (fun _ h_ => h_.1)); have HO574 := jA.mk (Kd.jM (Kd.jBg (M := fun k_ => (w.heap.size ≤ k_)) ho0 (jB (bb_ HB)) (fun k_ h_ => h_)) (jB (bb_ HB))); have HO576 := jA.mk (Kd.jM (Kd.jBg (M := fun k_ => (w.heap.size ≤ k_)) ho1 (jB (bb_ HB)) (fun k_ h_ => h_)) (jB (bb_ HB))); replace HB := bs_ HB hb))
       go_roundg k2
       case measure => have := HJ2.out; have := HK2.out; omega
       case rel => exact ⟨(x1_2), (t571), H', ⟨by have := HJ2.out; have := HK2.out; omega⟩, ⟨by (with_reducible repeat (first | apply Kd.jCa | apply Kd.jCZ | apply Kd.jCs)); exact Kd.zA HO_1.out (fun _ hk => hk.1.1)⟩, ⟨Kd.zA (Kd.R_V (by refine pR_ ?_; exact Kd.jN HO576.out (fun _ hk => hk.1))) (fun k_ hk => by first | exact ⟨(.inr (hk.1)), hk.2⟩ | exact (.inr (hk)))⟩, ⟨(bb_ HB)⟩⟩
      ·
       rw [if_neg c8] at H
       have c8b0 := decide_eq_false c8
       have c8b1 : decide (0 < x1_2.length) = false := decide_eq_false (by omega)
       clear c8
       simp only [Option.some.injEq, Prod.mk.injEq] at H
       obtain ⟨rfl, rfl⟩ := H
       obtain ⟨Ao13, co13, eo13⟩ := Kd.zT HO_1.out
       subst eo13
       go_wp2
       go_ret2
       exact ⟨_, ew_, (rV_ HO_0), (bb_ HB)⟩

/-! ### vw: function 36 -/
def vw.f (k : Nat) (a0 : Bool) (l1 : List Int) (l2 : List Int) : Option (Bool × List Int × List Int × Int) := (jV.f k l1 l2).bind fun bt578 => (if bt578.2 = 0 then (if (l2.length : Int) = 0 then (some (false, ([] : List Int), ([] : List Int), 30)) else ((jD.f k l1 bt578.1).bind fun bt582 => ((jD.f k l2 bt578.1).bind fun bt589 => (if a0 = true then (some (decide ((bt582.1.length : Int) > 0), bt582.1, bt589.1, 0)) else (some (false, bt582.1, bt589.1, 0)))))) else (some (false, ([] : List Int), ([] : List Int), bt578.2)))
theorem vw.mono : ∀ a0 a1 a2 k, LeO (vw.f k a0 a1 a2) (vw.f (k + 1) a0 a1 a2) := by
 intro a0 a1 a2 k
 unfold vw.f
 repeat' first
   | (with_reducible exact jD.mono _ _ _)
   | (with_reducible exact jV.mono _ _ _)
   | (with_reducible exact LeO.refl _)
   | (with_reducible exact LeO.none _)
   | (with_reducible refine LeO.ite ?_ ?_)
   | (with_reducible refine LeO.bind ?_ (fun _ => ?_))
theorem vw.calls (k : Nat) (a0 : Bool) (A1 : Option Addr) (c1 : Nat) (l1 : List Int) (A2 : Option Addr) (c2 : Nat) (l2 : List Int) (r1 : Bool) (r2 : List Int) (r3 : List Int) (r4 : Int) (w : World) (hr1 : Kd.C (Kd.int .u64) w A1 l1.length l1) (hc1 : l1.length ≤ c1) (hr2 : Kd.C (Kd.int .u64) w A2 l2.length l2) (hc2 : l2.length ≤ c2) (h : vw.f k a0 l1 l2 = some (r1, r2, r3, r4)) :
  Calls Try.prog 36 #[.bool a0, .slice A1 l1.length c1, .slice A2 l2.length c2] w fun e w' => ∃ v1_ v2_ : Value, e = .returned (.tuple #[.agg #[.bool r1, v1_, v2_], .int .i64 r4]) ∧ Kd.R (Kd.int .u64) 22 w' w.heap.size (fun k_ => some k_ ≠ (v2_ : Value).ownBlock) v1_ r2 ∧ Kd.R (Kd.int .u64) 22 w' w.heap.size (fun k_ => some k_ ≠ (v1_ : Value).ownBlock) v2_ r3 ∧ Below w.heap.size w w' := by
 have hu44 := Try.underlying44
 have HR1 := jA.mk hr1
 have HC1 := jA.mk hc1
 clear hr1 hc1
 have HR2 := jA.mk hr2
 have HC2 := jA.mk hc2
 clear hr2 hc2
 have HB := jA.mk (Below.refl w.heap.size w)
 have H : ((jV.f k l1 l2).bind fun bt578 => (if bt578.2 = 0 then (if (l2.length : Int) = 0 then (some (false, ([] : List Int), ([] : List Int), 30)) else ((jD.f k l1 bt578.1).bind fun bt582 => ((jD.f k l2 bt578.1).bind fun bt589 => (if a0 = true then (some (decide ((bt582.1.length : Int) > 0), bt582.1, bt589.1, 0)) else (some (false, bt582.1, bt589.1, 0)))))) else (some (false, ([] : List Int), ([] : List Int), bt578.2)))) = some (r1, r2, r3, r4) := h
 clear h
 replace H := ob_ H
 obtain ⟨⟨t578, t581⟩, A40, H⟩ := H
 try dsimp only at H
 have A4 := jA.mk A40
 clear A40
 by_cases c5 : t581 = 0
 ·
  rw [if_pos c5] at H
  have c5b0 := beq_iff_eq.mpr c5
  have c5b1 := bne_eq_false_iff_eq.mpr c5
  clear c5
  by_cases c6 : (l2.length : Int) = 0
  ·
   rw [if_pos c6] at H
   have c6b0 := beq_iff_eq.mpr c6
   have c6b1 := bne_eq_false_iff_eq.mpr c6
   clear c6
   simp only [Option.some.injEq, Prod.mk.injEq] at H
   obtain ⟨rfl, rfl, rfl, rfl⟩ := H
   go_enter Try.func36, Try.ntmps36
   go_wp2_with (first | ((with_reducible refine je (N := 6) rfl ?_); (try (refine vC (by rfl) ?_; dsimp only)); refine vQ ?hg (N := 6) ?hd (cs := #[.bool false, .slice none 0 0, .slice none 0 0]) (t := 44) ?hr ?_; (case hd => rfl); (case hg => rfl); (case hr => exact gs_); intro gb577 hg w7 hbox hb; have BK577 := jA.mk (hbox); have GW577 := jA.mk ((by rw [hg]; exact (jB (bb_ HB)) : w.heap.size ≤ gb577)); have GE577 := jA.mk ((by rw [hg]; exact (jB (bb_ HB)) : w.heap.size ≤ gb577)); replace HB := bs_ HB hb; clear hb hbox hg) | ((with_reducible refine jE (f := 77) rfl ?_); refine jh (some 19) rfl rfl Try.func77 kr_ rfl #[.slice A1 l1.length c1, .slice A2 l2.length c2] rfl mt_ ?_; (with_reducible refine (jV.calls k (fun k_ => k_ < w.heap.size) _ _ l1 (fun k_ => k_ < w.heap.size) _ _ l2 t578 t581 _ ?side1 ?side2 A4.out).mono ?_); (case side1 => exact Kd.V_mk HC1.out (Kd.zm (Kd.C_F (Kd.zN .u64) HR1.out) (bb1_ HB GE577))); (case side2 => exact Kd.V_mk HC2.out (Kd.zm (Kd.C_F (Kd.zN .u64) HR2.out) (bb1_ HB GE577))); rintro e w8 ⟨v579, rfl, ho0, hb⟩; refine ⟨_, rfl, ?_⟩; have HO580 := jA.mk (Kd.za (Kd.zA (ok' := fun k_ => k_ ≠ gb577) ho0 (fun k_ hk_ => Or.elim hk_ (fun hs_ => Or.elim hs_ (fun hs_ => fun e_ => Nat.not_le.2 hs_ (by rw [e_]; exact GW577.out)) (fun hs_ => fun e_ => Nat.not_le.2 hs_ (by rw [e_]; exact GW577.out))) (fun hn_ => (Kd.qc (g := gb577) (o := .cells #[.bool false, .slice none 0 0, .slice none 0 0] 44 (0, 0)) (kb_ BK577) k_ hn_)))) (jB (bb1_ HB GE577))); replace BK577 := bk_ BK577 hb; replace HB := jA.mk (jK (bb1_ HB GE577) hb); obtain ⟨hcz9_0, hcz9_1, hcz9_2, hfz9_0, hfz9_1, hfz9_2⟩ := bf3_ BK577))
   refine bodyPost_ret (qI rfl _ _ gb577 44 #[.bool false, .slice none 0 0, .slice none 0 0] (0, 0) _ rfl (by refine pk_ ?_; refine jv (cs := #[.bool false, .slice none 0 0, .slice none 0 0]) ?_ 2 _ rs_; refine pk_ ?_; refine jv (cs := #[.bool false, .slice none 0 0, .slice none 0 0]) ?_ 1 _ rs_; refine pk_ ?_; refine jv (cs := #[.bool false, .slice none 0 0, .slice none 0 0]) ?_ 0 _ rs_; refine pk_ ?_; exact BK577.out) Try.underlying44 rfl kr_) rfl ?_
   exact ⟨_, _, ew_, nl_, nl_, (bb1_ HB GE577)⟩
  ·
   rw [if_neg c6] at H
   have c6b0 := beq_eq_false_iff_ne.mpr c6
   have c6b1 := bne_iff_ne.mpr c6
   have c6b2 : ¬ (l2 = []) := fun h_ => c6 (by rw [h_]; rfl)
   replace H := ob_ H
   obtain ⟨⟨t582, t583, t584⟩, A100, H⟩ := H
   try dsimp only at H
   have A10 := jA.mk A100
   clear A100
   replace H := ob_ H
   obtain ⟨⟨t589, t590, t591⟩, A110, H⟩ := H
   try dsimp only at H
   have A11 := jA.mk A110
   clear A110
   by_cases c12 : a0 = true
   ·
    subst c12
    have H1 : (some (decide ((t582.length : Int) > 0), t582, t589, 0)) = some (r1, r2, r3, r4) := by rw [if_pos rfl] at H; exact H
    clear H
    have H := H1
    clear H1
    simp only [Option.some.injEq, Prod.mk.injEq] at H
    obtain ⟨rfl, rfl, rfl, rfl⟩ := H
    go_enter Try.func36, Try.ntmps36
    go_wp2_with (first | ((with_reducible refine je (N := 6) rfl ?_); (try (refine vC (by rfl) ?_; dsimp only)); refine vQ ?hg (N := 6) ?hd (cs := #[.bool false, .slice none 0 0, .slice none 0 0]) (t := 44) ?hr ?_; (case hd => rfl); (case hg => rfl); (case hr => exact gs_); intro gb577 hg w13 hbox hb; have BK577 := jA.mk (hbox); have GW577 := jA.mk ((by rw [hg]; exact (jB (bb_ HB)) : w.heap.size ≤ gb577)); have GE577 := jA.mk ((by rw [hg]; exact (jB (bb_ HB)) : w.heap.size ≤ gb577)); replace HB := bs_ HB hb; clear hb hbox hg) | ((with_reducible refine jE (f := 77) rfl ?_); refine jh (some 19) rfl rfl Try.func77 kr_ rfl #[.slice A1 l1.length c1, .slice A2 l2.length c2] rfl mt_ ?_; (with_reducible refine (jV.calls k (fun k_ => k_ < w.heap.size) _ _ l1 (fun k_ => k_ < w.heap.size) _ _ l2 t578 t581 _ ?side1 ?side2 A4.out).mono ?_); (case side1 => exact Kd.V_mk HC1.out (Kd.zm (Kd.C_F (Kd.zN .u64) HR1.out) (bb1_ HB GE577))); (case side2 => exact Kd.V_mk HC2.out (Kd.zm (Kd.C_F (Kd.zN .u64) HR2.out) (bb1_ HB GE577))); rintro e w14 ⟨v579, rfl, ho0, hb⟩; refine ⟨_, rfl, ?_⟩; have HO580 := jA.mk (Kd.za (Kd.zA (ok' := fun k_ => k_ ≠ gb577) ho0 (fun k_ hk_ => Or.elim hk_ (fun hs_ => Or.elim hs_ (fun hs_ => fun e_ => Nat.not_le.2 hs_ (by rw [e_]; exact GW577.out)) (fun hs_ => fun e_ => Nat.not_le.2 hs_ (by rw [e_]; exact GW577.out))) (fun hn_ => (Kd.qc (g := gb577) (o := .cells #[.bool false, .slice none 0 0, .slice none 0 0] 44 (0, 0)) (kb_ BK577) k_ hn_)))) (jB (bb1_ HB GE577))); replace BK577 := bk_ BK577 hb; replace HB := jA.mk (jK (bb1_ HB GE577) hb); obtain ⟨Ao15, co15, eo15⟩ := Kd.zT HO580.out; subst eo15) | ((with_reducible refine jE (f := 78) rfl ?_); refine jh (some 33) rfl rfl Try.func78 kr_ rfl #[.slice A1 l1.length c1, .slice Ao15 t578.length co15] rfl mt_ ?_; (with_reducible refine (jD.calls k _ _ l1 _ _ t578 t582 t583 t584 _ ?side1 ?side2 ?side3 ?side4 A10.out).mono ?_); (case side1 => exact cc_ (Kd.jS HR1.out HB.out)); (case side2 => exact HC1.out); (case side3 => repeat (first | exact (Kd.vJ HO580.out).2.2 | (with_reducible refine Kd.zZ ?_ _) | (with_reducible refine Kd.zh ?_ _) | (with_reducible refine Kd.qC ?_))); (case side4 => exact (Kd.vJ HO580.out).2.1); rintro e w16 ⟨v585, v587, rfl, ho0, ho1, hb⟩; refine ⟨_, rfl, ?_⟩; replace HO580 := jA.mk (Kd.zA (Kd.jAp (Kd.jAp (Kd.jEP (rV_ HO580) hb) (Kd.jU ho0)) (Kd.jU ho1)) (fun _ h_ => h_.1)); have HO586 := jA.mk (Kd.jM ho0 (jB (bb1_ HB GE577))); have HO588 := jA.mk (Kd.jM ho1 (jB (bb1_ HB GE577))); replace BK577 := bk_ BK577 hb; replace HB := jA.mk (jK (bb1_ HB GE577) hb)) | ((with_reducible refine jE (f := 78) rfl ?_); refine jh (some 40) rfl rfl Try.func78 kr_ rfl #[.slice A2 l2.length c2, .slice Ao15 t578.length co15] rfl mt_ ?_; (with_reducible refine (jD.calls k _ _ l2 _ _ t578 t589 t590 t591 _ ?side1 ?side2 ?side3 ?side4 A11.out).mono ?_); (case side1 => exact cc_ (Kd.jS HR2.out HB.out)); (case side2 => exact HC2.out); (case side3 => repeat (first | exact (Kd.vJ HO580.out).2.2 | (with_reducible refine Kd.zZ ?_ _) | (with_reducible refine Kd.zh ?_ _) | (with_reducible refine Kd.qC ?_))); (case side4 => exact (Kd.vJ HO580.out).2.1); rintro e w17 ⟨v592, v594, rfl, ho0, ho1, hb⟩; refine ⟨_, rfl, ?_⟩; replace HO580 := jA.mk (Kd.zA (Kd.jAp (Kd.jAp (Kd.jEP (rV_ HO580) hb) (Kd.jU ho0)) (Kd.jU ho1)) (fun _ h_ => h_.1)); have HO593 := jA.mk (Kd.jM (Kd.jH (Kd.jH ho0 (Kd.R_lt (rR_ HO586))) (Kd.R_lt (rR_ HO588))) (jB (bb1_ HB GE577))); have HO595 := jA.mk (Kd.jM (Kd.jH (Kd.jH ho1 (Kd.R_lt (rR_ HO586))) (Kd.R_lt (rR_ HO588))) (jB (bb1_ HB GE577))); replace HO586 := jA.mk (Kd.jN (Kd.jd (Kd.jd (Kd.zU (rR_ HO586) hb) (Kd.jU ho0)) (Kd.jU ho1)) (fun _ h_ => h_.1)); replace HO588 := jA.mk (Kd.jN (Kd.jd (Kd.jd (Kd.zU (rR_ HO588) hb) (Kd.jU ho0)) (Kd.jU ho1)) (fun _ h_ => h_.1)); replace BK577 := bk_ BK577 hb; replace HB := jA.mk (jK (bb1_ HB GE577) hb); obtain ⟨Ao18, co18, eo18⟩ := Kd.jW HO586.out; subst eo18; obtain ⟨Ao19, co19, eo19⟩ := Kd.jW HO593.out; subst eo19; obtain ⟨hcz20_0, hcz20_1, hcz20_2, hfz20_0, hfz20_1, hfz20_2⟩ := bf3_ BK577))
    refine bodyPost_ret (qI rfl _ _ gb577 44 #[.bool (decide ((t582.length : Int) > 0)), .slice Ao18 t582.length co18, .slice Ao19 t589.length co19] (0, 0) _ rfl (by refine pk_ ?_; refine jv (cs := #[.bool (decide ((t582.length : Int) > 0)), .slice Ao18 t582.length co18, .slice none 0 0]) ?_ 2 _ rs_; refine pk_ ?_; refine jv (cs := #[.bool (decide ((t582.length : Int) > 0)), .slice none 0 0, .slice none 0 0]) ?_ 1 _ rs_; refine pk_ ?_; refine jv (cs := #[.bool false, .slice none 0 0, .slice none 0 0]) ?_ 0 _ rs_; refine pk_ ?_; exact BK577.out) Try.underlying44 rfl kr_) rfl ?_
    exact ⟨_, _, ew_, by refine pR_ ?_; exact Kd.jN (Kd.zl (p := ⟨gb577, 2, none⟩) (Kd.zl (p := ⟨gb577, 1, none⟩) (Kd.zl (p := ⟨gb577, 0, none⟩) (Kd.jZ HO586.out BK577.out (by decide)) (fun _ hk => hk.2) _) (fun _ hk => hk.2) (.slice Ao18 t582.length co18)) (fun _ hk => hk.2) (.slice Ao19 t589.length co19)) (fun _ hk => hk.1.1.2), by refine pR_ ?_; exact Kd.jN (Kd.zl (p := ⟨gb577, 2, none⟩) (Kd.zl (p := ⟨gb577, 1, none⟩) (Kd.zl (p := ⟨gb577, 0, none⟩) (Kd.jZ HO593.out BK577.out (by decide)) (fun _ hk => hk.2) _) (fun _ hk => hk.2) (.slice Ao18 t582.length co18)) (fun _ hk => hk.2) (.slice Ao19 t589.length co19)) (fun _ hk => hk.1.1.2), (bb1_ HB GE577)⟩
   ·
    replace c12 := Bool.eq_false_iff.mpr c12
    subst c12
    have H1 : (some (false, t582, t589, 0)) = some (r1, r2, r3, r4) := by rw [if_neg (show ¬ (false = true) by decide)] at H; exact H
    clear H
    have H := H1
    clear H1
    simp only [Option.some.injEq, Prod.mk.injEq] at H
    obtain ⟨rfl, rfl, rfl, rfl⟩ := H
    go_enter Try.func36, Try.ntmps36
    go_wp2_with (first | ((with_reducible refine je (N := 6) rfl ?_); (try (refine vC (by rfl) ?_; dsimp only)); refine vQ ?hg (N := 6) ?hd (cs := #[.bool false, .slice none 0 0, .slice none 0 0]) (t := 44) ?hr ?_; (case hd => rfl); (case hg => rfl); (case hr => exact gs_); intro gb577 hg w21 hbox hb; have BK577 := jA.mk (hbox); have GW577 := jA.mk ((by rw [hg]; exact (jB (bb_ HB)) : w.heap.size ≤ gb577)); have GE577 := jA.mk ((by rw [hg]; exact (jB (bb_ HB)) : w.heap.size ≤ gb577)); replace HB := bs_ HB hb; clear hb hbox hg) | ((with_reducible refine jE (f := 77) rfl ?_); refine jh (some 19) rfl rfl Try.func77 kr_ rfl #[.slice A1 l1.length c1, .slice A2 l2.length c2] rfl mt_ ?_; (with_reducible refine (jV.calls k (fun k_ => k_ < w.heap.size) _ _ l1 (fun k_ => k_ < w.heap.size) _ _ l2 t578 t581 _ ?side1 ?side2 A4.out).mono ?_); (case side1 => exact Kd.V_mk HC1.out (Kd.zm (Kd.C_F (Kd.zN .u64) HR1.out) (bb1_ HB GE577))); (case side2 => exact Kd.V_mk HC2.out (Kd.zm (Kd.C_F (Kd.zN .u64) HR2.out) (bb1_ HB GE577))); rintro e w22 ⟨v579, rfl, ho0, hb⟩; refine ⟨_, rfl, ?_⟩; have HO580 := jA.mk (Kd.za (Kd.zA (ok' := fun k_ => k_ ≠ gb577) ho0 (fun k_ hk_ => Or.elim hk_ (fun hs_ => Or.elim hs_ (fun hs_ => fun e_ => Nat.not_le.2 hs_ (by rw [e_]; exact GW577.out)) (fun hs_ => fun e_ => Nat.not_le.2 hs_ (by rw [e_]; exact GW577.out))) (fun hn_ => (Kd.qc (g := gb577) (o := .cells #[.bool false, .slice none 0 0, .slice none 0 0] 44 (0, 0)) (kb_ BK577) k_ hn_)))) (jB (bb1_ HB GE577))); replace BK577 := bk_ BK577 hb; replace HB := jA.mk (jK (bb1_ HB GE577) hb); obtain ⟨Ao23, co23, eo23⟩ := Kd.zT HO580.out; subst eo23) | ((with_reducible refine jE (f := 78) rfl ?_); refine jh (some 33) rfl rfl Try.func78 kr_ rfl #[.slice A1 l1.length c1, .slice Ao23 t578.length co23] rfl mt_ ?_; (with_reducible refine (jD.calls k _ _ l1 _ _ t578 t582 t583 t584 _ ?side1 ?side2 ?side3 ?side4 A10.out).mono ?_); (case side1 => exact cc_ (Kd.jS HR1.out HB.out)); (case side2 => exact HC1.out); (case side3 => repeat (first | exact (Kd.vJ HO580.out).2.2 | (with_reducible refine Kd.zZ ?_ _) | (with_reducible refine Kd.zh ?_ _) | (with_reducible refine Kd.qC ?_))); (case side4 => exact (Kd.vJ HO580.out).2.1); rintro e w24 ⟨v585, v587, rfl, ho0, ho1, hb⟩; refine ⟨_, rfl, ?_⟩; replace HO580 := jA.mk (Kd.zA (Kd.jAp (Kd.jAp (Kd.jEP (rV_ HO580) hb) (Kd.jU ho0)) (Kd.jU ho1)) (fun _ h_ => h_.1)); have HO586 := jA.mk (Kd.jM ho0 (jB (bb1_ HB GE577))); have HO588 := jA.mk (Kd.jM ho1 (jB (bb1_ HB GE577))); replace BK577 := bk_ BK577 hb; replace HB := jA.mk (jK (bb1_ HB GE577) hb)) | ((with_reducible refine jE (f := 78) rfl ?_); refine jh (some 40) rfl rfl Try.func78 kr_ rfl #[.slice A2 l2.length c2, .slice Ao23 t578.length co23] rfl mt_ ?_; (with_reducible refine (jD.calls k _ _ l2 _ _ t578 t589 t590 t591 _ ?side1 ?side2 ?side3 ?side4 A11.out).mono ?_); (case side1 => exact cc_ (Kd.jS HR2.out HB.out)); (case side2 => exact HC2.out); (case side3 => repeat (first | exact (Kd.vJ HO580.out).2.2 | (with_reducible refine Kd.zZ ?_ _) | (with_reducible refine Kd.zh ?_ _) | (with_reducible refine Kd.qC ?_))); (case side4 => exact (Kd.vJ HO580.out).2.1); rintro e w25 ⟨v592, v594, rfl, ho0, ho1, hb⟩; refine ⟨_, rfl, ?_⟩; replace HO580 := jA.mk (Kd.zA (Kd.jAp (Kd.jAp (Kd.jEP (rV_ HO580) hb) (Kd.jU ho0)) (Kd.jU ho1)) (fun _ h_ => h_.1)); have HO593 := jA.mk (Kd.jM (Kd.jH (Kd.jH ho0 (Kd.R_lt (rR_ HO586))) (Kd.R_lt (rR_ HO588))) (jB (bb1_ HB GE577))); have HO595 := jA.mk (Kd.jM (Kd.jH (Kd.jH ho1 (Kd.R_lt (rR_ HO586))) (Kd.R_lt (rR_ HO588))) (jB (bb1_ HB GE577))); replace HO586 := jA.mk (Kd.jN (Kd.jd (Kd.jd (Kd.zU (rR_ HO586) hb) (Kd.jU ho0)) (Kd.jU ho1)) (fun _ h_ => h_.1)); replace HO588 := jA.mk (Kd.jN (Kd.jd (Kd.jd (Kd.zU (rR_ HO588) hb) (Kd.jU ho0)) (Kd.jU ho1)) (fun _ h_ => h_.1)); replace BK577 := bk_ BK577 hb; replace HB := jA.mk (jK (bb1_ HB GE577) hb); obtain ⟨Ao26, co26, eo26⟩ := Kd.jW HO593.out; subst eo26; obtain ⟨Ao27, co27, eo27⟩ := Kd.jW HO586.out; subst eo27; obtain ⟨hcz28_0, hcz28_1, hcz28_2, hfz28_0, hfz28_1, hfz28_2⟩ := bf3_ BK577))
    refine bodyPost_ret (qI rfl _ _ gb577 44 #[.bool false, .slice Ao27 t582.length co27, .slice Ao26 t589.length co26] (0, 0) _ rfl (by refine pk_ ?_; refine jv (cs := #[.bool false, .slice Ao27 t582.length co27, .slice none 0 0]) ?_ 2 _ rs_; refine pk_ ?_; refine jv (cs := #[.bool false, .slice none 0 0, .slice none 0 0]) ?_ 1 _ rs_; refine pk_ ?_; refine jv (cs := #[.bool false, .slice none 0 0, .slice none 0 0]) ?_ 0 _ rs_; refine pk_ ?_; exact BK577.out) Try.underlying44 rfl kr_) rfl ?_
    exact ⟨_, _, ew_, by refine pR_ ?_; exact Kd.jN (Kd.zl (p := ⟨gb577, 2, none⟩) (Kd.zl (p := ⟨gb577, 1, none⟩) (Kd.zl (p := ⟨gb577, 0, none⟩) (Kd.jZ HO586.out BK577.out (by decide)) (fun _ hk => hk.2) (.bool false)) (fun _ hk => hk.2) (.slice Ao27 t582.length co27)) (fun _ hk => hk.2) (.slice Ao26 t589.length co26)) (fun _ hk => hk.1.1.2), by refine pR_ ?_; exact Kd.jN (Kd.zl (p := ⟨gb577, 2, none⟩) (Kd.zl (p := ⟨gb577, 1, none⟩) (Kd.zl (p := ⟨gb577, 0, none⟩) (Kd.jZ HO593.out BK577.out (by decide)) (fun _ hk => hk.2) (.bool false)) (fun _ hk => hk.2) (.slice Ao27 t582.length co27)) (fun _ hk => hk.2) (.slice Ao26 t589.length co26)) (fun _ hk => hk.1.1.2), (bb1_ HB GE577)⟩
 ·
  rw [if_neg c5] at H
  have c5b0 := beq_eq_false_iff_ne.mpr c5
  have c5b1 := bne_iff_ne.mpr c5
  simp only [Option.some.injEq, Prod.mk.injEq] at H
  obtain ⟨rfl, rfl, rfl, rfl⟩ := H
  go_enter Try.func36, Try.ntmps36
  go_wp2_with (first | ((with_reducible refine je (N := 6) rfl ?_); (try (refine vC (by rfl) ?_; dsimp only)); refine vQ ?hg (N := 6) ?hd (cs := #[.bool false, .slice none 0 0, .slice none 0 0]) (t := 44) ?hr ?_; (case hd => rfl); (case hg => rfl); (case hr => exact gs_); intro gb577 hg w29 hbox hb; have BK577 := jA.mk (hbox); have GW577 := jA.mk ((by rw [hg]; exact (jB (bb_ HB)) : w.heap.size ≤ gb577)); have GE577 := jA.mk ((by rw [hg]; exact (jB (bb_ HB)) : w.heap.size ≤ gb577)); replace HB := bs_ HB hb; clear hb hbox hg) | ((with_reducible refine jE (f := 77) rfl ?_); refine jh (some 19) rfl rfl Try.func77 kr_ rfl #[.slice A1 l1.length c1, .slice A2 l2.length c2] rfl mt_ ?_; (with_reducible refine (jV.calls k (fun k_ => k_ < w.heap.size) _ _ l1 (fun k_ => k_ < w.heap.size) _ _ l2 t578 t581 _ ?side1 ?side2 A4.out).mono ?_); (case side1 => exact Kd.V_mk HC1.out (Kd.zm (Kd.C_F (Kd.zN .u64) HR1.out) (bb1_ HB GE577))); (case side2 => exact Kd.V_mk HC2.out (Kd.zm (Kd.C_F (Kd.zN .u64) HR2.out) (bb1_ HB GE577))); rintro e w30 ⟨v579, rfl, ho0, hb⟩; refine ⟨_, rfl, ?_⟩; have HO580 := jA.mk (Kd.za (Kd.zA (ok' := fun k_ => k_ ≠ gb577) ho0 (fun k_ hk_ => Or.elim hk_ (fun hs_ => Or.elim hs_ (fun hs_ => fun e_ => Nat.not_le.2 hs_ (by rw [e_]; exact GW577.out)) (fun hs_ => fun e_ => Nat.not_le.2 hs_ (by rw [e_]; exact GW577.out))) (fun hn_ => (Kd.qc (g := gb577) (o := .cells #[.bool false, .slice none 0 0, .slice none 0 0] 44 (0, 0)) (kb_ BK577) k_ hn_)))) (jB (bb1_ HB GE577))); replace BK577 := bk_ BK577 hb; replace HB := jA.mk (jK (bb1_ HB GE577) hb); obtain ⟨hcz31_0, hcz31_1, hcz31_2, hfz31_0, hfz31_1, hfz31_2⟩ := bf3_ BK577))
  refine bodyPost_ret (qI rfl _ _ gb577 44 #[.bool false, .slice none 0 0, .slice none 0 0] (0, 0) _ rfl (by refine pk_ ?_; refine jv (cs := #[.bool false, .slice none 0 0, .slice none 0 0]) ?_ 2 _ rs_; refine pk_ ?_; refine jv (cs := #[.bool false, .slice none 0 0, .slice none 0 0]) ?_ 1 _ rs_; refine pk_ ?_; refine jv (cs := #[.bool false, .slice none 0 0, .slice none 0 0]) ?_ 0 _ rs_; refine pk_ ?_; exact BK577.out) Try.underlying44 rfl kr_) rfl ?_
  exact ⟨_, _, ew_, nl_, nl_, (bb1_ HB GE577)⟩

/-! ### vP: function 41 -/
def vP.f (k : Nat) (a0 : Bool) (a1 : Int) (a2 : Int) : Option (Bool × List Int × List Int) := (jY.f k (([IntKind.u64.wrap (a1)] : List Int))).bind fun t600 => ((vw.f k a0 t600 (([IntKind.u64.wrap ((IntKind.u64.wrap (a2)) + 1)] : List Int))).bind fun bt606 => (some (bt606.1, bt606.2.1, bt606.2.2.1)))
theorem vP.mono : ∀ a0 a1 a2 k, LeO (vP.f k a0 a1 a2) (vP.f (k + 1) a0 a1 a2) := by
 intro a0 a1 a2 k
 unfold vP.f
 repeat' first
   | (with_reducible exact jY.mono _ _)
   | (with_reducible exact vw.mono _ _ _ _)
   | (with_reducible exact LeO.refl _)
   | (with_reducible exact LeO.none _)
   | (with_reducible refine LeO.ite ?_ ?_)
   | (with_reducible refine LeO.bind ?_ (fun _ => ?_))
theorem vP.calls (k : Nat) (a0 : Bool) (a1 : Int) (a2 : Int) (r1 : Bool) (r2 : List Int) (r3 : List Int) (w : World) (h : vP.f k a0 a1 a2 = some (r1, r2, r3)) :
  Calls Try.prog 41 #[.bool a0, .int .u32 a1, .int .u32 a2] w fun e w' => ∃ v1_ v2_ : Value, e = .returned (.agg #[.bool r1, v1_, v2_]) ∧ Kd.R (Kd.int .u64) 22 w' w.heap.size (fun k_ => some k_ ≠ (v2_ : Value).ownBlock) v1_ r2 ∧ Kd.R (Kd.int .u64) 22 w' w.heap.size (fun k_ => some k_ ≠ (v1_ : Value).ownBlock) v2_ r3 ∧ Below w.heap.size w w' := by
 have hu44 := Try.underlying44
 have HB := jA.mk (Below.refl w.heap.size w)
 have H : ((jY.f k (([IntKind.u64.wrap (a1)] : List Int))).bind fun t600 => ((vw.f k a0 t600 (([IntKind.u64.wrap ((IntKind.u64.wrap (a2)) + 1)] : List Int))).bind fun bt606 => (some (bt606.1, bt606.2.1, bt606.2.2.1)))) = some (r1, r2, r3) := h
 clear h
 obtain ⟨y597, hy597⟩ : ∃ y_ : List Int, y_ = (([IntKind.u64.wrap (a1)] : List Int)) := ⟨_, rfl⟩
 replace H : ((jY.f k y597).bind fun t600 => ((vw.f k a0 t600 (([IntKind.u64.wrap ((IntKind.u64.wrap (a2)) + 1)] : List Int))).bind fun bt606 => (some (bt606.1, bt606.2.1, bt606.2.2.1)))) = some (r1, r2, r3) := by first | (rw [hy597]; with_reducible exact H) | (have H2_ := (Option.bind_some _ _).symm.trans H; rw [hy597]; with_reducible exact H2_) | (with_reducible exact hs_ H) | with_reducible exact H | (rw [hy597]; exact H) | exact H
 have Ny597 := jA.mk hy597
 clear hy597
 replace H := ob_ H
 obtain ⟨t600, A40, H⟩ := H
 try dsimp only at H
 have A4 := jA.mk A40
 clear A40
 obtain ⟨y603, hy603⟩ : ∃ y_ : List Int, y_ = (([IntKind.u64.wrap ((IntKind.u64.wrap (a2)) + 1)] : List Int)) := ⟨_, rfl⟩
 replace H : ((vw.f k a0 t600 y603).bind fun bt606 => (some (bt606.1, bt606.2.1, bt606.2.2.1))) = some (r1, r2, r3) := by first | (rw [hy603]; with_reducible exact H) | (have H2_ := (Option.bind_some _ _).symm.trans H; rw [hy603]; with_reducible exact H2_) | (with_reducible exact hs_ H) | with_reducible exact H | (rw [hy603]; exact H) | exact H
 have Ny603 := jA.mk hy603
 clear hy603
 replace H := ob_ H
 obtain ⟨⟨t606, t607, t610, t613⟩, A50, H⟩ := H
 try dsimp only at H
 have A5 := jA.mk A50
 clear A50
 simp only [Option.some.injEq, Prod.mk.injEq] at H
 obtain ⟨rfl, rfl, rfl⟩ := H
 go_enter Try.func41, Try.ntmps41
 go_wp2_with (first | ((with_reducible refine je (N := 6) rfl ?_); refine vQ ?hg (N := 6) ?hd (cs := #[.bool false, .slice none 0 0, .slice none 0 0]) (t := 44) ?hr ?_; (case hd => rfl); (case hg => rfl); (case hr => exact gs_); intro gb596 hg w6 hbox hb; have BK596 := jA.mk (hbox); have GW596 := jA.mk ((by rw [hg]; exact (jB (bb_ HB)) : w.heap.size ≤ gb596)); have GE596 := jA.mk ((by rw [hg]; exact (jB (bb_ HB)) : w.heap.size ≤ gb596)); replace HB := bs_ HB hb; clear hb hbox hg) | ((with_reducible refine je (N := 13) rfl ?_); refine Kd.jAC (Kd.int .u64) _ 22 ?hg (N := 13) ?hd (xs := ([IntKind.u64.wrap (a1)] : List Int)) (inner := [.int .u64 (IntKind.u64.wrap (a1))]) (ok := fun _ => True) (okp := fun _ => True) ?hr ?hp (fun _ hk => hk) trivial (Below.refl _ _) (Nat.le_refl _) (by simp) ?_; (case hd => rfl); (case hg => rfl); (case hr => exact gs_); (case hp => exact (Reps.one (show Kd.M (Kd.int .u64) _ _ _ (IntKind.u64.wrap (a1)) [.int .u64 (IntKind.u64.wrap (a1))] from rfl) (Reps.none _ _))); intro v598 w7 ho8 hb hg_ hnew_; clear hg_ hnew_; (first | rw [← Ny597.out] at ho8 | (simp only [Int.reduceToNat] at ho8; rw [← Ny597.out] at ho8)); have HO599 := jA.mk (Kd.jM ho8 (jB (bb1_ HB GE596))); replace BK596 := bk_ BK596 hb; replace HB := jA.mk (jK (bb1_ HB GE596) hb); clear hb ho8; obtain ⟨Ao9, co9, eo9⟩ := Kd.jW HO599.out; subst eo9) | ((with_reducible refine jE (f := 25) rfl ?_); refine jh (some 14) rfl rfl Try.func25 kr_ rfl #[.slice Ao9 y597.length co9] rfl mt_ ?_; (with_reducible refine (jY.calls k _ _ y597 t600 _ ?side1 ?side2 A4.out).mono ?_); (case side1 => exact cc_ (Kd.jC HO599.out).2.2); (case side2 => exact (Kd.jC HO599.out).2.1); rintro e w10 ⟨v601, rfl, ho0, hb⟩; refine ⟨_, rfl, ?_⟩; have HO602 := jA.mk (Kd.jM (Kd.jH ho0 (Kd.R_lt (rR_ HO599))) (jB (bb1_ HB GE596))); replace HO599 := re_ HO599 ho0 hb; replace BK596 := bk_ BK596 hb; replace HB := jA.mk (jK (bb1_ HB GE596) hb)) | ((with_reducible refine je (N := 18) rfl ?_); refine Kd.jAC (Kd.int .u64) _ 22 ?hg (N := 18) ?hd (xs := ([IntKind.u64.wrap ((IntKind.u64.wrap (a2)) + 1)] : List Int)) (inner := [.int .u64 (IntKind.u64.wrap ((IntKind.u64.wrap (a2)) + 1))]) (ok := fun _ => True) (okp := fun _ => True) ?hr ?hp (fun _ hk => hk) trivial (Below.refl _ _) (Nat.le_refl _) (by simp) ?_; (case hd => rfl); (case hg => rfl); (case hr => exact gs_); (case hp => exact (Reps.one (show Kd.M (Kd.int .u64) _ _ _ (IntKind.u64.wrap ((IntKind.u64.wrap (a2)) + 1)) [.int .u64 (IntKind.u64.wrap ((IntKind.u64.wrap (a2)) + 1))] from rfl) (Reps.none _ _))); intro v604 w11 ho12 hb hg_ hnew_; clear hg_ hnew_; (first | rw [← Ny603.out] at ho12 | (simp only [Int.reduceToNat] at ho12; rw [← Ny603.out] at ho12)); have HO605 := jA.mk (Kd.jM (Kd.jH (Kd.jH ho12 (Kd.R_lt (rR_ HO599))) (Kd.R_lt (rR_ HO602))) (jB (bb1_ HB GE596))); replace HO599 := re_ HO599 ho12 hb; replace HO602 := re_ HO602 ho12 hb; replace BK596 := bk_ BK596 hb; replace HB := jA.mk (jK (bb1_ HB GE596) hb); clear hb ho12; obtain ⟨Ao13, co13, eo13⟩ := Kd.jW HO602.out; subst eo13; obtain ⟨Ao14, co14, eo14⟩ := Kd.jW HO605.out; subst eo14) | ((with_reducible refine jE (f := 36) rfl ?_); refine jh (some 19) rfl rfl Try.func36 kr_ rfl #[.bool a0, .slice Ao13 t600.length co13, .slice Ao14 y603.length co14] rfl mt_ ?_; (with_reducible refine (vw.calls k a0 _ _ t600 _ _ y603 t606 t607 t610 t613 _ ?side1 ?side2 ?side3 ?side4 A5.out).mono ?_); (case side1 => exact cc_ (Kd.jC HO602.out).2.2); (case side2 => exact (Kd.jC HO602.out).2.1); (case side3 => exact cc_ (Kd.jC HO605.out).2.2); (case side4 => exact (Kd.jC HO605.out).2.1); rintro e w15 ⟨v608, v611, rfl, ho0, ho1, hb⟩; refine ⟨_, rfl, ?_⟩; have HO609 := jA.mk (Kd.jM (Kd.jH (Kd.jH (Kd.jH ho0 (Kd.R_lt (rR_ HO599))) (Kd.R_lt (rR_ HO602))) (Kd.R_lt (rR_ HO605))) (jB (bb1_ HB GE596))); have HO612 := jA.mk (Kd.jM (Kd.jH (Kd.jH (Kd.jH ho1 (Kd.R_lt (rR_ HO599))) (Kd.R_lt (rR_ HO602))) (Kd.R_lt (rR_ HO605))) (jB (bb1_ HB GE596))); replace HO599 := jA.mk (Kd.jN (Kd.jd (Kd.jd (Kd.zU (rR_ HO599) hb) (Kd.jU ho0)) (Kd.jU ho1)) (fun _ h_ => h_.1)); replace HO602 := jA.mk (Kd.jN (Kd.jd (Kd.jd (Kd.zU (rR_ HO602) hb) (Kd.jU ho0)) (Kd.jU ho1)) (fun _ h_ => h_.1)); replace HO605 := jA.mk (Kd.jN (Kd.jd (Kd.jd (Kd.zU (rR_ HO605) hb) (Kd.jU ho0)) (Kd.jU ho1)) (fun _ h_ => h_.1)); replace BK596 := bk_ BK596 hb; replace HB := jA.mk (jK (bb1_ HB GE596) hb)) | ((with_reducible refine je (N := 7) rfl ?_); refine vQ ?hg (N := 7) ?hd (cs := #[.bool false, .slice none 0 0, .slice none 0 0]) (t := 44) ?hr ?_; (case hd => rfl); (case hg => rfl); (case hr => exact gs_); intro gb614 hg w16 hbox hb; replace HO599 := ro_ HO599 hb; replace HO602 := ro_ HO602 hb; replace HO605 := ro_ HO605 hb; replace HO609 := ro_ HO609 hb; replace HO612 := ro_ HO612 hb; have BK614 := jA.mk (hbox); have GW614 := jA.mk ((by rw [hg]; exact (jB (bb1_ HB GE596)) : w.heap.size ≤ gb614)); have GE614 := jA.mk ((by rw [hg]; exact (jB (bb1_ HB GE596)) : w.heap.size ≤ gb614)); replace HB := jA.mk (jK (bb1_ HB GE596) hb); have NB596_614 := jA.mk ((by rw [hg]; exact Nat.ne_of_lt (vI (g := gb596) (o := .cells #[.bool false, .slice none 0 0, .slice none 0 0] 44 (0, 0)) (kb_ BK596)) : gb596 ≠ gb614)); have NB614_596 := jA.mk ((by rw [hg]; exact Nat.ne_of_gt (vI (g := gb596) (o := .cells #[.bool false, .slice none 0 0, .slice none 0 0] 44 (0, 0)) (kb_ BK596)) : gb614 ≠ gb596)); replace BK596 := bk_ BK596 hb; clear hb hbox hg; have hnb17 := NB614_596.out; have hnc17 := NB596_614.out; obtain ⟨hcz18_0, hcz18_1, hcz18_2, hfz18_0, hfz18_1, hfz18_2⟩ := bf3_ BK614; obtain ⟨Ao19, co19, eo19⟩ := Kd.jW HO609.out; subst eo19; obtain ⟨Ao20, co20, eo20⟩ := Kd.jW HO612.out; subst eo20; obtain ⟨hcz21_0, hcz21_1, hcz21_2, hfz21_0, hfz21_1, hfz21_2⟩ := bf3_ BK596))
 refine bodyPost_ret (results_cell_row rfl _ _ gb596 44 #[.bool t606, .slice Ao19 t607.length co19, .slice Ao20 t610.length co20] (0, 0) _ rfl (by refine pk_ ?_; refine jv (cs := #[.bool t606, .slice Ao19 t607.length co19, .slice none 0 0]) ?_ 2 _ rs_; refine pk_ ?_; refine jv (cs := #[.bool t606, .slice none 0 0, .slice none 0 0]) ?_ 1 _ rs_; refine pk_ ?_; refine jv (cs := #[.bool false, .slice none 0 0, .slice none 0 0]) ?_ 0 _ rs_; refine pk_ ?_; refine jm ?_ NB596_614.out _; refine pk_ ?_; refine jm ?_ NB596_614.out _; refine pk_ ?_; refine jm ?_ NB596_614.out _; refine pk_ ?_; exact BK596.out) Try.underlying44 rfl kr_) rfl ?_
 exact ⟨_, _, ew_, by refine pR_ ?_; exact Kd.jN (Kd.zl (p := ⟨gb596, 2, none⟩) (Kd.zl (p := ⟨gb596, 1, none⟩) (Kd.zl (p := ⟨gb596, 0, none⟩) (Kd.zl (p := ⟨gb614, 2, none⟩) (Kd.zl (p := ⟨gb614, 1, none⟩) (Kd.zl (p := ⟨gb614, 0, none⟩) (Kd.jZ (Kd.jZ HO609.out BK614.out (by decide)) BK596.out (by decide)) (fun _ hk => hk.1.2) (.bool t606)) (fun _ hk => hk.1.2) (.slice Ao19 t607.length co19)) (fun _ hk => hk.1.2) (.slice Ao20 t610.length co20)) (fun _ hk => hk.2) (.bool t606)) (fun _ hk => hk.2) (.slice Ao19 t607.length co19)) (fun _ hk => hk.2) (.slice Ao20 t610.length co20)) (fun _ hk => hk.1.1.1.1.1), by refine pR_ ?_; exact Kd.jN (Kd.zl (p := ⟨gb596, 2, none⟩) (Kd.zl (p := ⟨gb596, 1, none⟩) (Kd.zl (p := ⟨gb596, 0, none⟩) (Kd.zl (p := ⟨gb614, 2, none⟩) (Kd.zl (p := ⟨gb614, 1, none⟩) (Kd.zl (p := ⟨gb614, 0, none⟩) (Kd.jZ (Kd.jZ HO612.out BK614.out (by decide)) BK596.out (by decide)) (fun _ hk => hk.1.2) (.bool t606)) (fun _ hk => hk.1.2) (.slice Ao19 t607.length co19)) (fun _ hk => hk.1.2) (.slice Ao20 t610.length co20)) (fun _ hk => hk.2) (.bool t606)) (fun _ hk => hk.2) (.slice Ao19 t607.length co19)) (fun _ hk => hk.2) (.slice Ao20 t610.length co20)) (fun _ hk => hk.1.1.1.1.1), (bb2_ HB GE596 GE614)⟩

end Go.Proofs.Ytijgeonhbmgikaa.PORatioOrder
