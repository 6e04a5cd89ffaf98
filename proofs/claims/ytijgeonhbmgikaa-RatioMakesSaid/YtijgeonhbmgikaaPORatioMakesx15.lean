-- printed (pr.py)
import Derived.Test.YtijgeonhbmgikaaPORatioMakesx14
namespace Go.Proofs.Ytijgeonhbmgikaa.PORatioMakes
open Go.RowKit Go.Proofs.YtijgeonhbmgikaaN Go.Proofs.YtijgeonhbmgikaaW.PrintWords Go.Proofs.YtijgeonhbmgikaaW.PrintLast Go.Proofs.YtijgeonhbmgikaaW.PrintMore
attribute [local go_sem] qJ qH qd qc zo zn qI qG
set_option maxHeartbeats 8000000
set_option maxRecDepth 100000
set_option linter.unusedVariables false
set_option linter.unusedSimpArgs false
mutual
def jT.j0 : Nat → List Int → List Int → Bool → Option (List Int × Int)
 | 0, _, _, _ => none
 | k + 1, x0, x1, x16 => if x16 = true then (some (([] : List Int), 1)) else (jT.l0 k x0 x1)
def jT.l0 : Nat → List Int → List Int → Option (List Int × Int)
 | 0, _, _ => none
 | k + 1, x0, x1 => if (x1.length : Int) > 0 then ((jE.f k x0 x1).bind fun bt571 => (jT.l0 k x1 bt571.2.1)) else (some (x0, 0))
end
def jT.f (k : Nat) (l0 : List Int) (l1 : List Int) : Option (List Int × Int) := (jk.f l0).bind fun t569 => (if t569 = true then ((jk.f l1).bind fun t570 => (jT.j0 k l0 l1 (!t570))) else (jT.j0 k l0 l1 true))
theorem jT.vQ : ∀ k, (∀ y0 y1 y2, LeO (jT.j0 k y0 y1 y2) (jT.j0 (k + 1) y0 y1 y2)) ∧ (∀ y0 y1, LeO (jT.l0 k y0 y1) (jT.l0 (k + 1) y0 y1))
 | 0 => ⟨fun _ _ _ r h => by simp [jT.j0] at h, fun _ _ r h => by simp [jT.l0] at h⟩
 | k + 1 => by
  obtain ⟨ih0, ih1⟩ := jT.vQ k
  refine ⟨?_, ?_⟩ <;> (intros; first | unfold jT.j0 | unfold jT.l0) <;> repeat' first
   | (with_reducible exact ih0 _ _ _)
   | (with_reducible exact ih1 _ _)
   | (with_reducible exact jE.mono _ _ _)
   | (with_reducible exact LeO.refl _)
   | (with_reducible exact LeO.none _)
   | (with_reducible refine LeO.ite ?_ ?_)
   | (with_reducible refine LeO.bind ?_ (fun _ => ?_))
theorem jT.mono : ∀ a0 a1 k, LeO (jT.f k a0 a1) (jT.f (k + 1) a0 a1) := by
 intro a0 a1 k
 obtain ⟨ih0, ih1⟩ := jT.vQ k
 unfold jT.f
 repeat' first
   | (with_reducible exact ih0 _ _ _)
   | (with_reducible exact ih1 _ _)
   | (with_reducible exact jE.mono _ _ _)
   | (with_reducible exact LeO.refl _)
   | (with_reducible exact LeO.none _)
   | (with_reducible refine LeO.ite ?_ ?_)
   | (with_reducible refine LeO.bind ?_ (fun _ => ?_))
theorem jT.calls (k : Nat) (P0_ : Nat → Prop) (A0 : Option Addr) (c0 : Nat) (l0 : List Int) (P1_ : Nat → Prop) (A1 : Option Addr) (c1 : Nat) (l1 : List Int) (r1 : List Int) (r2 : Int) (w : World) (hs0 : Kd.V (Kd.int .u64) 22 w w.heap.size (fun k_ => P0_ k_) (.slice A0 l0.length c0) l0) (hs1 : Kd.V (Kd.int .u64) 22 w w.heap.size (fun k_ => P1_ k_) (.slice A1 l1.length c1) l1) (h : jT.f k l0 l1 = some (r1, r2)) :
  Calls Try.prog 77 #[.slice A0 l0.length c0, .slice A1 l1.length c1] w fun e w' => ∃ v0_ : Value, e = .returned (.tuple #[v0_, .int .i64 r2]) ∧ Kd.V (Kd.int .u64) 22 w' w.heap.size (fun k_ => ((P0_ k_ ∨ P1_ k_) ∨ w.heap.size ≤ k_)) v0_ r1 ∧ Below w.heap.size w w' := by
 have HO0 := jA.mk (show Kd.V (Kd.int .u64) 22 w w.heap.size (fun k_ => ((P0_ k_ ∨ P1_ k_) ∨ w.heap.size ≤ k_)) (.slice A0 l0.length c0) l0 from Kd.zF hs0 (fun k_ hk => .inl (.inl hk)))
 have HO1 := jA.mk (show Kd.V (Kd.int .u64) 22 w w.heap.size (fun k_ => ((P0_ k_ ∨ P1_ k_) ∨ w.heap.size ≤ k_)) (.slice A1 l1.length c1) l1 from Kd.zF hs1 (fun k_ hk => .inl (.inr hk)))
 have HB := jA.mk (Below.refl w.heap.size w)
 have H : ((jk.f l0).bind fun t569 => (if t569 = true then ((jk.f l1).bind fun t570 => (jT.j0 k l0 l1 (!t570))) else (jT.j0 k l0 l1 true))) = some (r1, r2) := h
 clear h
 have HC3 := jA.mk H
 clear H
 go_enter Try.func77, Try.ntmps77
 go_upto_region 1 with (fail)
 go_cut [16] (fun v16 wc => ∃ (kq : Nat) (x16_2 : Bool), v16 = .bool x16_2 ∧ jA (jT.j0 kq l0 l1 x16_2 = some (r1, r2)) ∧ jA (kq ≤ k) ∧ jA (Kd.V (Kd.int .u64) 22 wc w.heap.size (fun k_ => ((P0_ k_ ∨ P1_ k_) ∨ w.heap.size ≤ k_)) (.slice A0 l0.length c0) l0) ∧ jA (Kd.V (Kd.int .u64) 22 wc w.heap.size (fun k_ => ((P0_ k_ ∨ P1_ k_) ∨ w.heap.size ≤ k_)) (.slice A1 l1.length c1) l1) ∧ jA (Below w.heap.size w wc))
 case first =>
  have H := HC3.out
  clear HC3
  obtain ⟨t569, A4, H⟩ := oc_ H
  try dsimp only at H
  by_cases c5 : t569 = true
  ·
   subst c5
   replace H := ip_ H
   obtain ⟨t570, A6, H⟩ := oc_ H
   try dsimp only at H
   have H' := jA.mk H
   clear H
   go_wp2_with (first | ((with_reducible refine jD (f := 74) rfl ?_); refine gl_ (some 10) Try.func74 #[.slice A0 l0.length c0] ?_; (with_reducible refine (jk.calls _ _ l0 true _ ?side1 ?side2 A4.out).mono ?_); (case side1 => repeat (first | exact (Kd.vG HO0.out).2.2 | (with_reducible refine Kd.zR ?_ _) | (with_reducible refine Kd.zV ?_ _) | (with_reducible refine Kd.zw ?_))); (case side2 => exact (Kd.vG HO0.out).2.1); rintro e w' ⟨rfl, ⟨nd, rfl⟩⟩; refine ⟨_, rfl, ?_⟩) | ((with_reducible refine jW (N := 14) rfl ?_); refine je (by first | rfl | kernel_rfl) ?_; dsimp only; (with_reducible refine jD (f := 74) rfl ?_); refine gl_ (some 14) Try.func74 #[.slice A1 l1.length c1] ?_; (with_reducible refine (jk.calls _ _ l1 t570 _ ?side1 ?side2 A6.out).mono ?_); (case side1 => repeat (first | exact (Kd.vG HO1.out).2.2 | (with_reducible refine Kd.zR ?_ _) | (with_reducible refine Kd.zV ?_ _) | (with_reducible refine Kd.zw ?_))); (case side2 => exact (Kd.vG HO1.out).2.1); rintro e w' ⟨rfl, ⟨nd, rfl⟩⟩; refine ⟨_, rfl, ?_⟩))
   go_meet
   case rel => exact ⟨_, (!t570), sd_, H', ⟨by first | omega | exact Nat.le_refl _⟩, ⟨(rV_ HO0)⟩, ⟨(rV_ HO1)⟩, ⟨(bb_ HB)⟩⟩
  ·
   replace c5 := Bool.eq_false_iff.mpr c5
   subst c5
   replace H := in_ H
   have H' := jA.mk H
   clear H
   go_wp2_with (first | ((with_reducible refine jD (f := 74) rfl ?_); refine gl_ (some 10) Try.func74 #[.slice A0 l0.length c0] ?_; (with_reducible refine (jk.calls _ _ l0 false _ ?side1 ?side2 A4.out).mono ?_); (case side1 => repeat (first | exact (Kd.vG HO0.out).2.2 | (with_reducible refine Kd.zR ?_ _) | (with_reducible refine Kd.zV ?_ _) | (with_reducible refine Kd.zw ?_))); (case side2 => exact (Kd.vG HO0.out).2.1); rintro e w' ⟨rfl, ⟨nd, rfl⟩⟩; refine ⟨_, rfl, ?_⟩))
   go_meet
   case rel => exact ⟨_, (true), sd_, H', ⟨by first | omega | exact Nat.le_refl _⟩, ⟨(rV_ HO0)⟩, ⟨(rV_ HO1)⟩, ⟨(bb_ HB)⟩⟩
 case rest =>
  clear HC3
  try clear c1
  try clear p2
  try clear c5
  obtain ⟨kq, x16_2, rfl, HA, HJ2, HO_0, HO_1, HB⟩ := hcut
  cases kq with
  | zero => exact absurd HA.out (by simp [jT.j0])
  | succ kj2 =>
   have H := HA.out
   clear HA
   simp only [jT.j0] at H
   by_cases c7 : x16_2 = true
   ·
    subst c7
    replace H := ip_ H
    simp only [Option.some.injEq, Prod.mk.injEq] at H
    obtain ⟨rfl, rfl⟩ := H
    go_wp2
    go_ret2
    exact ⟨_, ew_, Kd.jIf _ _ _ _ _, (bb_ HB)⟩
   ·
    replace c7 := Bool.eq_false_iff.mpr c7
    subst c7
    replace H := in_ H
    have H' := jA.mk H
    clear H
    go_wp2
    go_loopg [0, 1] kj2 (fun kq v0 v1 w' => ∃ (x0_2 : List Int) (x1_2 : List Int), jA (jT.l0 kq x0_2 x1_2 = some (r1, r2)) ∧ jA (kq ≤ kj2) ∧ jA (Kd.V (Kd.int .u64) 22 w' w.heap.size (fun k_ => ((P0_ k_ ∨ P1_ k_) ∨ w.heap.size ≤ k_)) v0 x0_2) ∧ jA (Kd.V (Kd.int .u64) 22 w' w.heap.size (fun k_ => ((P0_ k_ ∨ P1_ k_) ∨ w.heap.size ≤ k_)) v1 x1_2) ∧ jA (Below w.heap.size w w'))
    case atStart => exact ⟨(l0), (l1), H', ⟨Nat.le_refl _⟩, ⟨(rV_ HO_0)⟩, ⟨(rV_ HO_1)⟩, ⟨(bb_ HB)⟩⟩
    case round =>
     clear H'
     try clear c1
     try clear p2
     try clear c5
     try clear c7
     try clear p2
     obtain ⟨x0_2, x1_2, HA, HK2, HO_0, HO_1, HB⟩ := hrel
     cases gk with
     | zero => exact absurd HA.out (by simp [jT.l0])
     | succ k2 =>
      have H := HA.out
      clear HA
      simp only [jT.l0] at H
      by_cases c8 : (x1_2.length : Int) > 0
      ·
       rw [if_pos c8] at H
       have c8b0 := decide_eq_true c8
       have c8b1 : decide (0 < x1_2.length) = true := decide_eq_true (by omega)
       clear c8
       replace H := ob_ H
       obtain ⟨⟨t571, t572, t573⟩, A90, H⟩ := H
       try dsimp only at H
       have A9 := jA.mk A90
       clear A90
       have H' := jA.mk H
       clear H
       obtain ⟨Ao10, co10, eo10⟩ := Kd.zX HO_1.out
       subst eo10
       obtain ⟨Ao11, co11, eo11⟩ := Kd.zX HO_0.out
       subst eo11
       go_wp2_with (first | ((with_reducible refine jD (f := 78) rfl ?_); refine gl_ (some 23) Try.func78 #[.slice Ao11 x0_2.length co11, .slice Ao10 x1_2.length co10] ?_; (with_reducible refine (jE.calls k2 _ _ x0_2 _ _ x1_2 t571 t572 t573 _ ?side1 ?side2 ?side3 ?side4 A9.out).mono ?_); (case side1 => repeat (first | exact (Kd.vG HO_0.out).2.2 | (with_reducible refine Kd.zR ?_ _) | (with_reducible refine Kd.zV ?_ _) | (with_reducible refine Kd.zw ?_))); (case side2 => exact (Kd.vG HO_0.out).2.1); (case side3 => repeat (first | exact (Kd.vG HO_1.out).2.2 | (with_reducible refine Kd.zR ?_ _) | (with_reducible refine Kd.zV ?_ _) | (with_reducible refine Kd.zw ?_))); (case side4 => exact (Kd.vG HO_1.out).2.1); rintro e w12 ⟨v574, v576, rfl, ho0, ho1, hb⟩; refine ⟨_, rfl, ?_⟩; replace HO_0 := jA.mk (Kd.zF (Kd.jAp (Kd.jAp (Kd.jEV (rV_ HO_0) hb) (Kd.jY ho0)) (Kd.jY ho1)) (fun _ h_ => h_.1)); replace HO_1 := jA.mk (Kd.zF (Kd.jAp (Kd.jAp (Kd.jEV (rV_ HO_1) hb) (Kd.jY ho0)) (Kd.jY ho1)) (fun _ h_ => h_.1)); have HO575 := jA.mk (Kd.jL (Kd.jBh (M := fun k_ => (w.heap.size ≤ k_)) ho0 (jB (bb_ HB)) (fun k_ h_ => h_)) (jB (bb_ HB))); have HO577 := jA.mk (Kd.jL (Kd.jBh (M := fun k_ => (w.heap.size ≤ k_)) ho1 (jB (bb_ HB)) (fun k_ h_ => h_)) (jB (bb_ HB))); replace HB := bs_ HB hb))
       go_roundg k2
       case measure => have := HJ2.out; have := HK2.out; omega
       case rel => exact ⟨(x1_2), (t572), H', ⟨by have := HJ2.out; have := HK2.out; omega⟩, ⟨by (with_reducible repeat (first | apply Kd.jCb | apply Kd.jCa | apply Kd.jCu)); exact Kd.zF HO_1.out (fun _ hk => hk.1.1)⟩, ⟨Kd.zF (Kd.R_V (by refine pR_ ?_; exact Kd.jO HO577.out (fun _ hk => hk.1))) (fun k_ hk => by first | exact ⟨(.inr (hk.1)), hk.2⟩ | exact (.inr (hk)))⟩, ⟨(bb_ HB)⟩⟩
      ·
       rw [if_neg c8] at H
       have c8b0 := decide_eq_false c8
       have c8b1 : decide (0 < x1_2.length) = false := decide_eq_false (by omega)
       clear c8
       simp only [Option.some.injEq, Prod.mk.injEq] at H
       obtain ⟨rfl, rfl⟩ := H
       obtain ⟨Ao13, co13, eo13⟩ := Kd.zX HO_1.out
       subst eo13
       go_wp2
       go_ret2
       exact ⟨_, ew_, (rV_ HO_0), (bb_ HB)⟩
def zD.f (k : Nat) (a0 : Bool) (l1 : List Int) (l2 : List Int) : Option (Bool × List Int × List Int × Int) := (jT.f k l1 l2).bind fun bt579 => (if bt579.2 = 0 then (if (l2.length : Int) = 0 then (some (false, ([] : List Int), ([] : List Int), 30)) else ((jE.f k l1 bt579.1).bind fun bt583 => ((jE.f k l2 bt579.1).bind fun bt590 => (if a0 = true then (some (decide ((bt583.1.length : Int) > 0), bt583.1, bt590.1, 0)) else (some (false, bt583.1, bt590.1, 0)))))) else (some (false, ([] : List Int), ([] : List Int), bt579.2)))
theorem zD.mono : ∀ a0 a1 a2 k, LeO (zD.f k a0 a1 a2) (zD.f (k + 1) a0 a1 a2) := by
 intro a0 a1 a2 k
 unfold zD.f
 repeat' first
   | (with_reducible exact jE.mono _ _ _)
   | (with_reducible exact jT.mono _ _ _)
   | (with_reducible exact LeO.refl _)
   | (with_reducible exact LeO.none _)
   | (with_reducible refine LeO.ite ?_ ?_)
   | (with_reducible refine LeO.bind ?_ (fun _ => ?_))
theorem zD.calls (k : Nat) (a0 : Bool) (A1 : Option Addr) (c1 : Nat) (l1 : List Int) (A2 : Option Addr) (c2 : Nat) (l2 : List Int) (r1 : Bool) (r2 : List Int) (r3 : List Int) (r4 : Int) (w : World) (hr1 : Kd.C (Kd.int .u64) w A1 l1.length l1) (hc1 : l1.length ≤ c1) (hr2 : Kd.C (Kd.int .u64) w A2 l2.length l2) (hc2 : l2.length ≤ c2) (h : zD.f k a0 l1 l2 = some (r1, r2, r3, r4)) :
  Calls Try.prog 36 #[.bool a0, .slice A1 l1.length c1, .slice A2 l2.length c2] w fun e w' => ∃ v1_ v2_ : Value, e = .returned (.tuple #[.agg #[.bool r1, v1_, v2_], .int .i64 r4]) ∧ Kd.R (Kd.int .u64) 22 w' w.heap.size (fun k_ => some k_ ≠ (v2_ : Value).ownBlock) v1_ r2 ∧ Kd.R (Kd.int .u64) 22 w' w.heap.size (fun k_ => some k_ ≠ (v1_ : Value).ownBlock) v2_ r3 ∧ Below w.heap.size w w' := by
 have hu44 := Try.underlying44
 have HR1 := jA.mk hr1
 have HC1 := jA.mk hc1
 clear hr1 hc1
 have HR2 := jA.mk hr2
 have HC2 := jA.mk hc2
 clear hr2 hc2
 have HB := jA.mk (Below.refl w.heap.size w)
 have H : ((jT.f k l1 l2).bind fun bt579 => (if bt579.2 = 0 then (if (l2.length : Int) = 0 then (some (false, ([] : List Int), ([] : List Int), 30)) else ((jE.f k l1 bt579.1).bind fun bt583 => ((jE.f k l2 bt579.1).bind fun bt590 => (if a0 = true then (some (decide ((bt583.1.length : Int) > 0), bt583.1, bt590.1, 0)) else (some (false, bt583.1, bt590.1, 0)))))) else (some (false, ([] : List Int), ([] : List Int), bt579.2)))) = some (r1, r2, r3, r4) := h
 clear h
 replace H := ob_ H
 obtain ⟨⟨t579, t582⟩, A40, H⟩ := H
 try dsimp only at H
 have A4 := jA.mk A40
 clear A40
 by_cases c5 : t582 = 0
 ·
  rw [if_pos c5] at H
  have c5b0 := beq_iff_eq.mpr c5
  have c5b1 := bne_eq_false_iff_eq.mpr c5
  clear c5
  by_cases c6 : (l2.length : Int) = 0
  ·
   rw [if_pos c6] at H
   have c6b0 := beq_iff_eq.mpr c6
   have c6b1 := bne_eq_false_iff_eq.mpr c6
   clear c6
   simp only [Option.some.injEq, Prod.mk.injEq] at H
   obtain ⟨rfl, rfl, rfl, rfl⟩ := H
   go_enter Try.func36, Try.ntmps36
   go_wp2_with (first | ((with_reducible refine jW (N := 6) rfl ?_); (try (refine je (by rfl) ?_; dsimp only)); refine bx_ 6 #[.bool false, .slice none 0 0, .slice none 0 0] 44 ?_; intro gb578 hg w7 hbox hb; have BK578 := jA.mk (hbox); have GW578 := jA.mk ((by rw [hg]; exact (jB (bb_ HB)) : w.heap.size ≤ gb578)); have GE578 := GW578; replace HB := bs_ HB hb; clear hb hbox hg) | ((with_reducible refine jD (f := 77) rfl ?_); refine gl_ (some 19) Try.func77 #[.slice A1 l1.length c1, .slice A2 l2.length c2] ?_; (with_reducible refine (jT.calls k (fun k_ => k_ < w.heap.size) _ _ l1 (fun k_ => k_ < w.heap.size) _ _ l2 t579 t582 _ ?side1 ?side2 A4.out).mono ?_); (case side1 => exact Kd.V_mk HC1.out (Kd.zZ (Kd.C_F (Kd.zI .u64) HR1.out) (bb1_ HB GE578))); (case side2 => exact Kd.V_mk HC2.out (Kd.zZ (Kd.C_F (Kd.zI .u64) HR2.out) (bb1_ HB GE578))); rintro e w8 ⟨v580, rfl, ho0, hb⟩; refine ⟨_, rfl, ?_⟩; have HO581 := jA.mk (Kd.zf (Kd.zF (ok' := fun k_ => k_ ≠ gb578) ho0 (fun k_ hk_ => Or.elim hk_ (fun hs_ => Or.elim hs_ (fun hs_ => fun e_ => Nat.not_le.2 hs_ (by rw [e_]; exact GW578.out)) (fun hs_ => fun e_ => Nat.not_le.2 hs_ (by rw [e_]; exact GW578.out))) (fun hn_ => (Kd.jAQ (g := gb578) (o := .cells #[.bool false, .slice none 0 0, .slice none 0 0] 44 (0, 0)) (kb_ BK578) k_ hn_)))) (jB (bb1_ HB GE578))); replace BK578 := bk_ BK578 hb; replace HB := jA.mk (jJ (bb1_ HB GE578) hb); obtain ⟨hcz9_0, hcz9_1, hcz9_2, hfz9_0, hfz9_1, hfz9_2⟩ := bf3_ BK578))
   refine bodyPost_ret (za rfl _ _ gb578 44 #[.bool false, .slice none 0 0, .slice none 0 0] (0, 0) _ rfl (by refine pk_ ?_; refine jc (cs := #[.bool false, .slice none 0 0, .slice none 0 0]) ?_ 2 _ rs_; refine pk_ ?_; refine jc (cs := #[.bool false, .slice none 0 0, .slice none 0 0]) ?_ 1 _ rs_; refine pk_ ?_; refine jc (cs := #[.bool false, .slice none 0 0, .slice none 0 0]) ?_ 0 _ rs_; refine pk_ ?_; exact BK578.out) Try.underlying44 rfl kr_) rfl ?_
   exact ⟨_, _, ew_, nl_, nl_, (bb1_ HB GE578)⟩
  ·
   rw [if_neg c6] at H
   have c6b0 := beq_eq_false_iff_ne.mpr c6
   have c6b1 := bne_iff_ne.mpr c6
   have c6b2 : ¬ (l2 = []) := fun h_ => c6 (by rw [h_]; rfl)
   replace H := ob_ H
   obtain ⟨⟨t583, t584, t585⟩, A100, H⟩ := H
   try dsimp only at H
   have A10 := jA.mk A100
   clear A100
   replace H := ob_ H
   obtain ⟨⟨t590, t591, t592⟩, A110, H⟩ := H
   try dsimp only at H
   have A11 := jA.mk A110
   clear A110
   by_cases c12 : a0 = true
   ·
    subst c12
    replace H := ip_ H
    simp only [Option.some.injEq, Prod.mk.injEq] at H
    obtain ⟨rfl, rfl, rfl, rfl⟩ := H
    go_enter Try.func36, Try.ntmps36
    go_wp2_with (first | ((with_reducible refine jW (N := 6) rfl ?_); (try (refine je (by rfl) ?_; dsimp only)); refine bx_ 6 #[.bool false, .slice none 0 0, .slice none 0 0] 44 ?_; intro gb578 hg w13 hbox hb; have BK578 := jA.mk (hbox); have GW578 := jA.mk ((by rw [hg]; exact (jB (bb_ HB)) : w.heap.size ≤ gb578)); have GE578 := GW578; replace HB := bs_ HB hb; clear hb hbox hg) | ((with_reducible refine jD (f := 77) rfl ?_); refine gl_ (some 19) Try.func77 #[.slice A1 l1.length c1, .slice A2 l2.length c2] ?_; (with_reducible refine (jT.calls k (fun k_ => k_ < w.heap.size) _ _ l1 (fun k_ => k_ < w.heap.size) _ _ l2 t579 t582 _ ?side1 ?side2 A4.out).mono ?_); (case side1 => exact Kd.V_mk HC1.out (Kd.zZ (Kd.C_F (Kd.zI .u64) HR1.out) (bb1_ HB GE578))); (case side2 => exact Kd.V_mk HC2.out (Kd.zZ (Kd.C_F (Kd.zI .u64) HR2.out) (bb1_ HB GE578))); rintro e w14 ⟨v580, rfl, ho0, hb⟩; refine ⟨_, rfl, ?_⟩; have HO581 := jA.mk (Kd.zf (Kd.zF (ok' := fun k_ => k_ ≠ gb578) ho0 (fun k_ hk_ => Or.elim hk_ (fun hs_ => Or.elim hs_ (fun hs_ => fun e_ => Nat.not_le.2 hs_ (by rw [e_]; exact GW578.out)) (fun hs_ => fun e_ => Nat.not_le.2 hs_ (by rw [e_]; exact GW578.out))) (fun hn_ => (Kd.jAQ (g := gb578) (o := .cells #[.bool false, .slice none 0 0, .slice none 0 0] 44 (0, 0)) (kb_ BK578) k_ hn_)))) (jB (bb1_ HB GE578))); replace BK578 := bk_ BK578 hb; replace HB := jA.mk (jJ (bb1_ HB GE578) hb); obtain ⟨Ao15, co15, rfl⟩ := Kd.zX HO581.out) | ((with_reducible refine jD (f := 78) rfl ?_); refine gl_ (some 33) Try.func78 #[.slice A1 l1.length c1, .slice Ao15 t579.length co15] ?_; (with_reducible refine (jE.calls k _ _ l1 _ _ t579 t583 t584 t585 _ ?side1 ?side2 ?side3 ?side4 A10.out).mono ?_); (case side1 => exact cb_ HR1 HB); (case side2 => exact HC1.out); (case side3 => repeat (first | exact (Kd.vG HO581.out).2.2 | (with_reducible refine Kd.zR ?_ _) | (with_reducible refine Kd.zV ?_ _) | (with_reducible refine Kd.zw ?_))); (case side4 => exact (Kd.vG HO581.out).2.1); rintro e w16 ⟨v586, v588, rfl, ho0, ho1, hb⟩; refine ⟨_, rfl, ?_⟩; replace HO581 := jA.mk (Kd.zF (Kd.jAp (Kd.jAp (Kd.jEV (rV_ HO581) hb) (Kd.jY ho0)) (Kd.jY ho1)) (fun _ h_ => h_.1)); have HO587 := jA.mk (Kd.jL ho0 (jB (bb1_ HB GE578))); have HO589 := jA.mk (Kd.jL ho1 (jB (bb1_ HB GE578))); replace BK578 := bk_ BK578 hb; replace HB := jA.mk (jJ (bb1_ HB GE578) hb)) | ((with_reducible refine jD (f := 78) rfl ?_); refine gl_ (some 40) Try.func78 #[.slice A2 l2.length c2, .slice Ao15 t579.length co15] ?_; (with_reducible refine (jE.calls k _ _ l2 _ _ t579 t590 t591 t592 _ ?side1 ?side2 ?side3 ?side4 A11.out).mono ?_); (case side1 => exact cb_ HR2 HB); (case side2 => exact HC2.out); (case side3 => repeat (first | exact (Kd.vG HO581.out).2.2 | (with_reducible refine Kd.zR ?_ _) | (with_reducible refine Kd.zV ?_ _) | (with_reducible refine Kd.zw ?_))); (case side4 => exact (Kd.vG HO581.out).2.1); rintro e w17 ⟨v593, v595, rfl, ho0, ho1, hb⟩; refine ⟨_, rfl, ?_⟩; replace HO581 := jA.mk (Kd.zF (Kd.jAp (Kd.jAp (Kd.jEV (rV_ HO581) hb) (Kd.jY ho0)) (Kd.jY ho1)) (fun _ h_ => h_.1)); have HO594 := jA.mk (Kd.jL (Kd.jG (Kd.jG ho0 (Kd.R_lt (rR_ HO587))) (Kd.R_lt (rR_ HO589))) (jB (bb1_ HB GE578))); have HO596 := jA.mk (Kd.jL (Kd.jG (Kd.jG ho1 (Kd.R_lt (rR_ HO587))) (Kd.R_lt (rR_ HO589))) (jB (bb1_ HB GE578))); replace HO587 := jA.mk (Kd.jO (Kd.jo (Kd.jo (Kd.zm (rR_ HO587) hb) (Kd.jY ho0)) (Kd.jY ho1)) (fun _ h_ => h_.1)); replace HO589 := jA.mk (Kd.jO (Kd.jo (Kd.jo (Kd.zm (rR_ HO589) hb) (Kd.jY ho0)) (Kd.jY ho1)) (fun _ h_ => h_.1)); replace BK578 := bk_ BK578 hb; replace HB := jA.mk (jJ (bb1_ HB GE578) hb); obtain ⟨Ao18, co18, rfl⟩ := Kd.jP HO587.out; obtain ⟨Ao19, co19, rfl⟩ := Kd.jP HO594.out; obtain ⟨hcz20_0, hcz20_1, hcz20_2, hfz20_0, hfz20_1, hfz20_2⟩ := bf3_ BK578))
    refine bodyPost_ret (za rfl _ _ gb578 44 #[.bool (decide ((t583.length : Int) > 0)), .slice Ao18 t583.length co18, .slice Ao19 t590.length co19] (0, 0) _ rfl (by refine pk_ ?_; refine jc (cs := #[.bool (decide ((t583.length : Int) > 0)), .slice Ao18 t583.length co18, .slice none 0 0]) ?_ 2 _ rs_; refine pk_ ?_; refine jc (cs := #[.bool (decide ((t583.length : Int) > 0)), .slice none 0 0, .slice none 0 0]) ?_ 1 _ rs_; refine pk_ ?_; refine jc (cs := #[.bool false, .slice none 0 0, .slice none 0 0]) ?_ 0 _ rs_; refine pk_ ?_; exact BK578.out) Try.underlying44 rfl kr_) rfl ?_
    exact ⟨_, _, ew_, by refine pR_ ?_; exact Kd.jO (Kd.vU (p := ⟨gb578, 2, none⟩) (Kd.vU (p := ⟨gb578, 1, none⟩) (Kd.vU (p := ⟨gb578, 0, none⟩) (Kd.jm HO587.out BK578.out (by decide)) (fun _ hk => hk.2) _) (fun _ hk => hk.2) (.slice Ao18 t583.length co18)) (fun _ hk => hk.2) (.slice Ao19 t590.length co19)) (fun _ hk => hk.1.1.2), by refine pR_ ?_; exact Kd.jO (Kd.vU (p := ⟨gb578, 2, none⟩) (Kd.vU (p := ⟨gb578, 1, none⟩) (Kd.vU (p := ⟨gb578, 0, none⟩) (Kd.jm HO594.out BK578.out (by decide)) (fun _ hk => hk.2) _) (fun _ hk => hk.2) (.slice Ao18 t583.length co18)) (fun _ hk => hk.2) (.slice Ao19 t590.length co19)) (fun _ hk => hk.1.1.2), (bb1_ HB GE578)⟩
   ·
    replace c12 := Bool.eq_false_iff.mpr c12
    subst c12
    replace H := in_ H
    simp only [Option.some.injEq, Prod.mk.injEq] at H
    obtain ⟨rfl, rfl, rfl, rfl⟩ := H
    go_enter Try.func36, Try.ntmps36
    go_wp2_with (first | ((with_reducible refine jW (N := 6) rfl ?_); (try (refine je (by rfl) ?_; dsimp only)); refine bx_ 6 #[.bool false, .slice none 0 0, .slice none 0 0] 44 ?_; intro gb578 hg w21 hbox hb; have BK578 := jA.mk (hbox); have GW578 := jA.mk ((by rw [hg]; exact (jB (bb_ HB)) : w.heap.size ≤ gb578)); have GE578 := GW578; replace HB := bs_ HB hb; clear hb hbox hg) | ((with_reducible refine jD (f := 77) rfl ?_); refine gl_ (some 19) Try.func77 #[.slice A1 l1.length c1, .slice A2 l2.length c2] ?_; (with_reducible refine (jT.calls k (fun k_ => k_ < w.heap.size) _ _ l1 (fun k_ => k_ < w.heap.size) _ _ l2 t579 t582 _ ?side1 ?side2 A4.out).mono ?_); (case side1 => exact Kd.V_mk HC1.out (Kd.zZ (Kd.C_F (Kd.zI .u64) HR1.out) (bb1_ HB GE578))); (case side2 => exact Kd.V_mk HC2.out (Kd.zZ (Kd.C_F (Kd.zI .u64) HR2.out) (bb1_ HB GE578))); rintro e w22 ⟨v580, rfl, ho0, hb⟩; refine ⟨_, rfl, ?_⟩; have HO581 := jA.mk (Kd.zf (Kd.zF (ok' := fun k_ => k_ ≠ gb578) ho0 (fun k_ hk_ => Or.elim hk_ (fun hs_ => Or.elim hs_ (fun hs_ => fun e_ => Nat.not_le.2 hs_ (by rw [e_]; exact GW578.out)) (fun hs_ => fun e_ => Nat.not_le.2 hs_ (by rw [e_]; exact GW578.out))) (fun hn_ => (Kd.jAQ (g := gb578) (o := .cells #[.bool false, .slice none 0 0, .slice none 0 0] 44 (0, 0)) (kb_ BK578) k_ hn_)))) (jB (bb1_ HB GE578))); replace BK578 := bk_ BK578 hb; replace HB := jA.mk (jJ (bb1_ HB GE578) hb); obtain ⟨Ao23, co23, rfl⟩ := Kd.zX HO581.out) | ((with_reducible refine jD (f := 78) rfl ?_); refine gl_ (some 33) Try.func78 #[.slice A1 l1.length c1, .slice Ao23 t579.length co23] ?_; (with_reducible refine (jE.calls k _ _ l1 _ _ t579 t583 t584 t585 _ ?side1 ?side2 ?side3 ?side4 A10.out).mono ?_); (case side1 => exact cb_ HR1 HB); (case side2 => exact HC1.out); (case side3 => repeat (first | exact (Kd.vG HO581.out).2.2 | (with_reducible refine Kd.zR ?_ _) | (with_reducible refine Kd.zV ?_ _) | (with_reducible refine Kd.zw ?_))); (case side4 => exact (Kd.vG HO581.out).2.1); rintro e w24 ⟨v586, v588, rfl, ho0, ho1, hb⟩; refine ⟨_, rfl, ?_⟩; replace HO581 := jA.mk (Kd.zF (Kd.jAp (Kd.jAp (Kd.jEV (rV_ HO581) hb) (Kd.jY ho0)) (Kd.jY ho1)) (fun _ h_ => h_.1)); have HO587 := jA.mk (Kd.jL ho0 (jB (bb1_ HB GE578))); have HO589 := jA.mk (Kd.jL ho1 (jB (bb1_ HB GE578))); replace BK578 := bk_ BK578 hb; replace HB := jA.mk (jJ (bb1_ HB GE578) hb)) | ((with_reducible refine jD (f := 78) rfl ?_); refine gl_ (some 40) Try.func78 #[.slice A2 l2.length c2, .slice Ao23 t579.length co23] ?_; (with_reducible refine (jE.calls k _ _ l2 _ _ t579 t590 t591 t592 _ ?side1 ?side2 ?side3 ?side4 A11.out).mono ?_); (case side1 => exact cb_ HR2 HB); (case side2 => exact HC2.out); (case side3 => repeat (first | exact (Kd.vG HO581.out).2.2 | (with_reducible refine Kd.zR ?_ _) | (with_reducible refine Kd.zV ?_ _) | (with_reducible refine Kd.zw ?_))); (case side4 => exact (Kd.vG HO581.out).2.1); rintro e w25 ⟨v593, v595, rfl, ho0, ho1, hb⟩; refine ⟨_, rfl, ?_⟩; replace HO581 := jA.mk (Kd.zF (Kd.jAp (Kd.jAp (Kd.jEV (rV_ HO581) hb) (Kd.jY ho0)) (Kd.jY ho1)) (fun _ h_ => h_.1)); have HO594 := jA.mk (Kd.jL (Kd.jG (Kd.jG ho0 (Kd.R_lt (rR_ HO587))) (Kd.R_lt (rR_ HO589))) (jB (bb1_ HB GE578))); have HO596 := jA.mk (Kd.jL (Kd.jG (Kd.jG ho1 (Kd.R_lt (rR_ HO587))) (Kd.R_lt (rR_ HO589))) (jB (bb1_ HB GE578))); replace HO587 := jA.mk (Kd.jO (Kd.jo (Kd.jo (Kd.zm (rR_ HO587) hb) (Kd.jY ho0)) (Kd.jY ho1)) (fun _ h_ => h_.1)); replace HO589 := jA.mk (Kd.jO (Kd.jo (Kd.jo (Kd.zm (rR_ HO589) hb) (Kd.jY ho0)) (Kd.jY ho1)) (fun _ h_ => h_.1)); replace BK578 := bk_ BK578 hb; replace HB := jA.mk (jJ (bb1_ HB GE578) hb); obtain ⟨Ao26, co26, rfl⟩ := Kd.jP HO594.out; obtain ⟨Ao27, co27, rfl⟩ := Kd.jP HO587.out; obtain ⟨hcz28_0, hcz28_1, hcz28_2, hfz28_0, hfz28_1, hfz28_2⟩ := bf3_ BK578))
    refine bodyPost_ret (za rfl _ _ gb578 44 #[.bool false, .slice Ao27 t583.length co27, .slice Ao26 t590.length co26] (0, 0) _ rfl (by refine pk_ ?_; refine jc (cs := #[.bool false, .slice Ao27 t583.length co27, .slice none 0 0]) ?_ 2 _ rs_; refine pk_ ?_; refine jc (cs := #[.bool false, .slice none 0 0, .slice none 0 0]) ?_ 1 _ rs_; refine pk_ ?_; refine jc (cs := #[.bool false, .slice none 0 0, .slice none 0 0]) ?_ 0 _ rs_; refine pk_ ?_; exact BK578.out) Try.underlying44 rfl kr_) rfl ?_
    exact ⟨_, _, ew_, by refine pR_ ?_; exact Kd.jO (Kd.vU (p := ⟨gb578, 2, none⟩) (Kd.vU (p := ⟨gb578, 1, none⟩) (Kd.vU (p := ⟨gb578, 0, none⟩) (Kd.jm HO587.out BK578.out (by decide)) (fun _ hk => hk.2) (.bool false)) (fun _ hk => hk.2) (.slice Ao27 t583.length co27)) (fun _ hk => hk.2) (.slice Ao26 t590.length co26)) (fun _ hk => hk.1.1.2), by refine pR_ ?_; exact Kd.jO (Kd.vU (p := ⟨gb578, 2, none⟩) (Kd.vU (p := ⟨gb578, 1, none⟩) (Kd.vU (p := ⟨gb578, 0, none⟩) (Kd.jm HO594.out BK578.out (by decide)) (fun _ hk => hk.2) (.bool false)) (fun _ hk => hk.2) (.slice Ao27 t583.length co27)) (fun _ hk => hk.2) (.slice Ao26 t590.length co26)) (fun _ hk => hk.1.1.2), (bb1_ HB GE578)⟩
 ·
  rw [if_neg c5] at H
  have c5b0 := beq_eq_false_iff_ne.mpr c5
  have c5b1 := bne_iff_ne.mpr c5
  simp only [Option.some.injEq, Prod.mk.injEq] at H
  obtain ⟨rfl, rfl, rfl, rfl⟩ := H
  go_enter Try.func36, Try.ntmps36
  go_wp2_with (first | ((with_reducible refine jW (N := 6) rfl ?_); (try (refine je (by rfl) ?_; dsimp only)); refine bx_ 6 #[.bool false, .slice none 0 0, .slice none 0 0] 44 ?_; intro gb578 hg w29 hbox hb; have BK578 := jA.mk (hbox); have GW578 := jA.mk ((by rw [hg]; exact (jB (bb_ HB)) : w.heap.size ≤ gb578)); have GE578 := GW578; replace HB := bs_ HB hb; clear hb hbox hg) | ((with_reducible refine jD (f := 77) rfl ?_); refine gl_ (some 19) Try.func77 #[.slice A1 l1.length c1, .slice A2 l2.length c2] ?_; (with_reducible refine (jT.calls k (fun k_ => k_ < w.heap.size) _ _ l1 (fun k_ => k_ < w.heap.size) _ _ l2 t579 t582 _ ?side1 ?side2 A4.out).mono ?_); (case side1 => exact Kd.V_mk HC1.out (Kd.zZ (Kd.C_F (Kd.zI .u64) HR1.out) (bb1_ HB GE578))); (case side2 => exact Kd.V_mk HC2.out (Kd.zZ (Kd.C_F (Kd.zI .u64) HR2.out) (bb1_ HB GE578))); rintro e w30 ⟨v580, rfl, ho0, hb⟩; refine ⟨_, rfl, ?_⟩; have HO581 := jA.mk (Kd.zf (Kd.zF (ok' := fun k_ => k_ ≠ gb578) ho0 (fun k_ hk_ => Or.elim hk_ (fun hs_ => Or.elim hs_ (fun hs_ => fun e_ => Nat.not_le.2 hs_ (by rw [e_]; exact GW578.out)) (fun hs_ => fun e_ => Nat.not_le.2 hs_ (by rw [e_]; exact GW578.out))) (fun hn_ => (Kd.jAQ (g := gb578) (o := .cells #[.bool false, .slice none 0 0, .slice none 0 0] 44 (0, 0)) (kb_ BK578) k_ hn_)))) (jB (bb1_ HB GE578))); replace BK578 := bk_ BK578 hb; replace HB := jA.mk (jJ (bb1_ HB GE578) hb); obtain ⟨hcz31_0, hcz31_1, hcz31_2, hfz31_0, hfz31_1, hfz31_2⟩ := bf3_ BK578))
  refine bodyPost_ret (za rfl _ _ gb578 44 #[.bool false, .slice none 0 0, .slice none 0 0] (0, 0) _ rfl (by refine pk_ ?_; refine jc (cs := #[.bool false, .slice none 0 0, .slice none 0 0]) ?_ 2 _ rs_; refine pk_ ?_; refine jc (cs := #[.bool false, .slice none 0 0, .slice none 0 0]) ?_ 1 _ rs_; refine pk_ ?_; refine jc (cs := #[.bool false, .slice none 0 0, .slice none 0 0]) ?_ 0 _ rs_; refine pk_ ?_; exact BK578.out) Try.underlying44 rfl kr_) rfl ?_
  exact ⟨_, _, ew_, nl_, nl_, (bb1_ HB GE578)⟩
-- NOT PRINTED: function 80 (ratio_Of_1)
def zW.sz (a0 : Int) : Int := if a0 < 0 then IntKind.u64.wrap (-(IntKind.u64.wrap a0)) else IntKind.u64.wrap a0
def zW.f (a0 : Int) : Option (Bool × List Int × List Int) := (jBO.f (zW.sz a0)).bind fun t => some (decide (a0 < 0), t, [1])
theorem zW.jJS {P : Program} {ops : Array Oper} {Q : Exit → Act → World → Prop} {oi : Oper} {N : Option Tmp} {a : Act} {w : World} {K : Act → World → Prop} {f : FuncId} {fn : Func} {t : Tmp} {as_ : Array Operand} {ts : Array TypeId} (cap : Array Value) (hf : P.funcs[f]? = some fn) (hname : (fn.name == "runtime.NumGoroutine") = false) (hb : fn.body.isSome = true) (args : Array Value)
  (hw : Region.wanted oi (yielded ops a.tmps) = true) (hN : oi.dst = N) (hop : oi.op = .call { callee := .value (.tmp t), args := as_, argTypes := ts }) (hv : a.eval (.tmp t) = .func (.func f) #[] cap) (hargs : as_.map a.eval ++ cap = args)
  (h : Calls P f args w fun e w' => ∃ v, e = .returned v ∧ K (a.put N v) w') : if Region.wanted oi (yielded ops a.tmps) = true then Oper.wp P oi a w K Q else K (a.put N undef) w := by
 refine call_ f args hw hN ?_ h
 have he := jDR hf hname hb args w
 unfold execOp
 simp [hop, resolve, Deferred.ofValue, invoke, hv, hargs, he]
theorem zW.lit (w : World) (q : Int) (base : Nat) (hb : base ≤ w.heap.size) : Kd.R (Kd.int .u64) 22 (w.alloc (.cells #[.int .u64 q] 22)) base (fun k_ => k_ = w.heap.size) (.slice (some ⟨w.heap.size, 0, none⟩) 1 1) [q] := Kd.jBg (jFo w base 22 .u64 [q] hb (by simp)) (fun k_ hk => by simp [Value.ownBlock] at hk; exact hk.symm)
theorem zW.fin {wz w : World} {g gL c9 : Nat} {A9 : Option Addr} {t : List Int} {neg : Bool} (ht : Kd.R (Kd.int .u64) 22 wz w.heap.size (fun k_ => k_ ≠ g ∧ k_ ≠ gL) (.slice A9 t.length c9) t) (hl : Kd.R (Kd.int .u64) 22 wz w.heap.size (fun k_ => k_ = gL) (.slice (some ⟨gL, 0, none⟩) 1 1) [1]) (hg : gL ≠ g) (hb : Below w.heap.size w wz) (hw : w.heap.size ≤ g) :
  Kd.R (Kd.int .u64) 22 (((wz.setCell ⟨g, 0, none⟩ (.bool neg)).setCell ⟨g, 1, none⟩ (.slice A9 t.length c9)).setCell ⟨g, 2, none⟩ (.slice (some ⟨gL, 0, none⟩) 1 1)) w.heap.size (fun k_ => some k_ ≠ (.slice (some ⟨gL, 0, none⟩) 1 1 : Value).ownBlock) (.slice A9 t.length c9) t ∧
  Kd.R (Kd.int .u64) 22 (((wz.setCell ⟨g, 0, none⟩ (.bool neg)).setCell ⟨g, 1, none⟩ (.slice A9 t.length c9)).setCell ⟨g, 2, none⟩ (.slice (some ⟨gL, 0, none⟩) 1 1)) w.heap.size (fun k_ => some k_ ≠ (.slice A9 t.length c9 : Value).ownBlock) (.slice (some ⟨gL, 0, none⟩) 1 1) [1] ∧
  Below w.heap.size w (((wz.setCell ⟨g, 0, none⟩ (.bool neg)).setCell ⟨g, 1, none⟩ (.slice A9 t.length c9)).setCell ⟨g, 2, none⟩ (.slice (some ⟨gL, 0, none⟩) 1 1)) := by
 refine ⟨Kd.jO (Kd.vU (Kd.vU (Kd.vU ht (fun _ hk => hk.1) _) (fun _ hk => hk.1) _) (fun _ hk => hk.1) _) (fun k_ hk => ?_), Kd.jO (Kd.vU (Kd.vU (Kd.vU hl (fun _ hk => by rw [hk]; exact hg) _) (fun _ hk => by rw [hk]; exact hg) _) (fun _ hk => by rw [hk]; exact hg) _) (fun k_ hk => ?_), vX (vX (vX hb hw) hw) hw⟩
 ·
  intro e_
  have : k_ = gL := by simpa [Value.ownBlock] using e_
  exact hk.2 this
 ·
  subst hk
  intro e_
  exact (ht.1 k_ e_.symm).2 rfl
set_option maxHeartbeats 4000000 in
theorem zW.cl (g : Nat) (a0 : Int) (w : World) (hx : w.heap[g]? = some (.cells #[.int .i64 a0] 2 (0, 0))) : Calls Try.prog 80 #[.pointer (some ⟨g, 0, none⟩)] w fun e w' => e = .returned (.int .u64 (zW.sz a0)) ∧ w = w' := by
 have hc : w.cell? ⟨g, 0, none⟩ = some (.int .i64 a0) := (jI hx 0).trans rfl
 clear hx
 unfold zW.sz
 by_cases h : a0 < 0
 ·
  have hb : decide (a0 < 0) = true := decide_eq_true h
  rw [if_pos h]
  clear h
  go_enter Try.func80, Try.ntmps80
  go_wp2
  go_ret
  exact ⟨rfl, rfl⟩
 ·
  have hb : decide (a0 < 0) = false := decide_eq_false h
  rw [if_neg h]
  clear h
  go_enter Try.func80, Try.ntmps80
  go_wp2
  go_ret
  exact ⟨rfl, rfl⟩
theorem zW.calls (a0 : Int) (r1 : Bool) (r2 : List Int) (r3 : List Int) (w : World) (h : zW.f a0 = some (r1, r2, r3)) :
  Calls Try.prog 39 #[.int .i64 a0] w fun e w' => ∃ v1_ v2_ : Value, e = .returned (.agg #[.bool r1, v1_, v2_]) ∧ Kd.R (Kd.int .u64) 22 w' w.heap.size (fun k_ => some k_ ≠ (v2_ : Value).ownBlock) v1_ r2 ∧ Kd.R (Kd.int .u64) 22 w' w.heap.size (fun k_ => some k_ ≠ (v1_ : Value).ownBlock) v2_ r3 ∧ Below w.heap.size w w' := by
 unfold zW.f at h
 obtain ⟨t, ht, h⟩ := Option.bind_eq_some_iff.mp h
 simp only [Option.some.injEq, Prod.mk.injEq] at h
 obtain ⟨rfl, rfl, rfl⟩ := h
 have HT := jA.mk ht
 clear ht
 have hX := vT (jAn w (.cells #[.int .i64 a0] 2)) (.cells #[.bool false, .slice none 0 0, .slice none 0 0] 44)
 have hY := jAn (w.alloc (.cells #[.int .i64 a0] 2)) (.cells #[.bool false, .slice none 0 0, .slice none 0 0] 44)
 have hD := vM (vM (Below.refl _ w) (.cells #[.int .i64 a0] 2)) (.cells #[.bool false, .slice none 0 0, .slice none 0 0] 44)
 have hS := jA.mk (show ((w.alloc (.cells #[.int .i64 a0] 2)).alloc (.cells #[.bool false, .slice none 0 0, .slice none 0 0] 44)).heap.size = w.heap.size + 2 from by simp)
 simp only [World.size_alloc] at hY
 have HX := jA.mk hX
 have HY := jA.mk hY
 have HD := jA.mk hD
 have HSZ := jA.mk (show ∀ x : Int, zW.sz x = zW.sz x from fun _ => rfl)
 generalize hsz : zW.sz a0 = z at HT
 have HCL := jA.mk (show ∀ w : World, w.heap[w.heap.size]? = w.heap[w.heap.size]? from fun _ => rfl)
 have HC : jA (∀ w' : World, w'.heap[w.heap.size]? = some (.cells #[.int .i64 a0] 2 (0, 0)) → Calls Try.prog 80 #[.pointer (some ⟨w.heap.size, 0, none⟩)] w' fun e w'' => e = .returned (.int .u64 z) ∧ w' = w'') := ⟨fun w' hx => by rw [← hsz]; exact zW.cl _ _ _ hx⟩
 clear hX hY hD HSZ HCL hsz
 generalize hlt : decide (a0 < 0) = neg
 have HLT := jA.mk hlt
 go_enter Try.func39, Try.ntmps39
 go_wp2_with fail
 generalize (w.alloc (.cells #[.int .i64 a0] 2)).alloc (.cells #[.bool false, .slice none 0 0, .slice none 0 0] 44) = v0 at HX HY HD hS ⊢
 refine jAk (n := 8) (S := fun w' => w'.heap[w.heap.size]? = some (.cells #[.int .i64 a0] 2 (0, 0)) ∧ w'.heap[w.heap.size + 1]? = some (.cells #[.bool false, .slice none 0 0, .slice none 0 0] 44 (0, 0)) ∧ Below w.heap.size w w') (ds := [7]) #[false, false, false, false, false, false, false, false] kr_ rfl rfl ⟨vN HX.out, vN HY.out, qE HD.out⟩ (fun hHeld => ?_)
 have hS1 := jA.mk (show v0.drew.heap.size = w.heap.size + 2 from hS.out)
 generalize v0.drew = v1 at hS1 hHeld ⊢
 clear HX HY HD hS
 refine jBs (i := 0) (N := some 5) (v := ?_) (a' := ?_) (ba_ 8 1) rfl rfl kr_ (fun _ _ _ h => h) (Or.inl ⟨by rfl, ?_⟩) hHeld ?_ ?_
 rotate_left
 ·
  rintro w' ⟨s0_, s1_, s2_⟩
  have hc := (jI s0_ 0).trans (show _ = some (.int .i64 a0) from rfl)
  go_simp
  with_reducible rfl
 rotate_left
 ·
  simp only [Act.put, ss_, qg, jAb]
  rfl
 refine pu_ 1 (some 6) (ba_ 8 3) kr_ ?_
 refine pu_ 2 (some 7) (ba_ 8 7) kr_ ?_
 refine two_ (i := 3) (j := 5) (Ni := some 8) (Nj := some 10) (ba_ 8 15) (ba_ 8 39) rfl rfl rfl rfl kr_ (by decide) (by decide) (fun K hK => ?_) (fun K hK => ?_)
 ·
  refine zW.jJS #[.pointer (some ⟨w.heap.size, 0, none⟩)] Try.func80 kr_ rfl #[.pointer (some ⟨w.heap.size, 0, none⟩)] (by rfl) rfl rfl rfl (by (try simp only [List.map_toArray, List.map_cons, List.map_nil]); first | done | rfl) ?_
  refine (HC.out _ hHeld.1).mono ?_
  rintro e w' ⟨rfl, rfl⟩
  refine ⟨_, rfl, ?_⟩
  refine hK.out _ _ hHeld (fun hHeld => ?_)
  clear hK K
  refine ns_ 8 ?_
  refine two_ (i := 4) (j := 5) (Ni := some 9) (Nj := some 10) (ba_ 8 31) (ba_ 8 47) rfl rfl rfl rfl kr_ (by decide) (by decide) (fun K hK => ?_) (fun K hK => ?_)
  ·
   obtain ⟨s0_, s1_, s2_⟩ := hHeld
   refine jAs Try.func81 kr_ rfl #[.int .u64 z] (by rfl) rfl rfl (by (try simp only [List.map_toArray, List.map_cons, List.map_nil]); first | done | rfl) ?_
   refine (jBO.calls z t _ HT.out).mono ?_
   rintro e w4 ⟨v9, rfl, ho, hb⟩
   refine ⟨_, rfl, ?_⟩
   obtain ⟨A9, c9, e9⟩ := Kd.jP ho
   subst e9
   have HO := jA.mk ho
   have HBB := jA.mk hb
   have HZB := jA.mk (jB s2_)
   clear ho hb
   refine hK.out _ _ ⟨vJ s0_ HBB.out, vJ s1_ HBB.out, jJ s2_ HBB.out⟩ (fun hHeld => ?_)
   clear hK K s0_ s1_ s2_
   refine ns_ 9 ?_
   refine one_ (i := 5) (N := some 10) (ba_ 8 63) rfl rfl kr_ (by decide) (fun K hK => ?_)
   refine jEb (w1 := ?_) (v := ?_) (by rfl) rfl ?_ ?_
   rotate_left 2
   ·
    go_simp
    constructor
    ·
     rfl
    ·
     rfl
   obtain ⟨s0_, s1_, s2_⟩ := hHeld
   have HL := jA.mk (zW.lit _ 1 w.heap.size (jB s2_))
   refine hK.out _ _ ⟨vT s0_ _, vT s1_ _, vM s2_ _⟩ (fun hHeld => ?_)
   clear hK K
   refine ns_ 10 ?_
   obtain ⟨s0_, s1_, s2_⟩ := hHeld
   refine pu_ 6 (some 11) (ba_ 8 127) kr_ ?_
   have z0 := (jI s1_ 0).trans (show _ = some (.bool false) from rfl)
   have z1 := (jI s1_ 1).trans (show _ = some (.slice none 0 0) from rfl)
   have z2 := (jI s1_ 2).trans (show _ = some (.slice none 0 0) from rfl)
   have f0 := jK s1_ 0
   have f1 := jK s1_ 1
   have f2 := jK s1_ 2
   refine jCg (i := 7) (N := none) (ba_ 8 255) rfl rfl kr_ (by decide) (fun K hK => ?_)
   refine jBt (w1 := ?_) (by rfl) rfl ?_ ?_
   rotate_left
   ·
    go_simp
    rfl
   refine hK.out _ _ ?_
   clear hK K z0 z1 z2 f0 f1 f2
   refine jBH kr_ ?_
   go_wp2
   refine bodyPost_ret (results_cell_row rfl _ _ (w.heap.size + 1) 44 #[.bool neg, .slice A9 t.length c9, .slice (some ⟨w4.heap.size, 0, none⟩) 1 1] (0, 0) _ rfl (by refine jc (cs := #[.bool neg, .slice A9 t.length c9, .slice none 0 0]) ?_ 2 _ rs_; refine jc (cs := #[.bool neg, .slice none 0 0, .slice none 0 0]) ?_ 1 _ rs_; refine jc (cs := #[.bool false, .slice none 0 0, .slice none 0 0]) ?_ 0 _ rs_; exact s1_) Try.underlying44 rfl kr_) rfl ?_
   have hz1 := hS1.out
   have hz2 := jB HBB.out
   (try simp only [World.size_alloc] at hz2)
   obtain ⟨f1, f2, f3⟩ := zW.fin (neg := neg) (g := w.heap.size + 1) (Kd.zG (Kd.jL (Kd.jO (Kd.jAJ HO.out) (fun k_ hk => ⟨by have := hk.2.1; omega, by have := hk.2.2.1; omega⟩)) HZB.out) _) HL.out (by omega) s2_ (by omega)
   exact ⟨_, _, rfl, f1, f2, f3⟩
  ·
   refine jEb (w1 := ?_) (v := ?_) (by rfl) rfl ?_ ?_
   rotate_left 2
   ·
    go_simp
    constructor
    ·
     rfl
    ·
     rfl
   obtain ⟨s0_, s1_, s2_⟩ := hHeld
   have HL := jA.mk (zW.lit _ 1 w.heap.size (jB s2_))
   refine hK.out _ _ ⟨vT s0_ _, vT s1_ _, vM s2_ _⟩ (fun hHeld => ?_)
   clear hK K
   refine ns_ 10 ?_
   refine one_ (i := 4) (N := some 9) (ba_ 8 63) rfl rfl kr_ (by decide) (fun K hK => ?_)
   obtain ⟨s0_, s1_, s2_⟩ := hHeld
   refine jAs Try.func81 kr_ rfl #[.int .u64 z] (by rfl) rfl rfl (by (try simp only [List.map_toArray, List.map_cons, List.map_nil]); first | done | rfl) ?_
   refine (jBO.calls z t _ HT.out).mono ?_
   rintro e w4 ⟨v9, rfl, ho, hb⟩
   refine ⟨_, rfl, ?_⟩
   obtain ⟨A9, c9, e9⟩ := Kd.jP ho
   subst e9
   have HL := jA.mk (Kd.qo HL.out hb)
   have HO := jA.mk ho
   have HBB := jA.mk hb
   have HZB := jA.mk (jB s2_)
   clear ho hb
   refine hK.out _ _ ⟨vJ s0_ HBB.out, vJ s1_ HBB.out, jJ s2_ HBB.out⟩ (fun hHeld => ?_)
   clear hK K s0_ s1_ s2_
   refine ns_ 9 ?_
   obtain ⟨s0_, s1_, s2_⟩ := hHeld
   refine pu_ 6 (some 11) (ba_ 8 127) kr_ ?_
   have z0 := (jI s1_ 0).trans (show _ = some (.bool false) from rfl)
   have z1 := (jI s1_ 1).trans (show _ = some (.slice none 0 0) from rfl)
   have z2 := (jI s1_ 2).trans (show _ = some (.slice none 0 0) from rfl)
   have f0 := jK s1_ 0
   have f1 := jK s1_ 1
   have f2 := jK s1_ 2
   refine jCg (i := 7) (N := none) (ba_ 8 255) rfl rfl kr_ (by decide) (fun K hK => ?_)
   refine jBt (w1 := ?_) (by rfl) rfl ?_ ?_
   rotate_left
   ·
    go_simp
    rfl
   refine hK.out _ _ ?_
   clear hK K z0 z1 z2 f0 f1 f2
   refine jBH kr_ ?_
   go_wp2
   refine bodyPost_ret (results_cell_row rfl _ _ (w.heap.size + 1) 44 #[.bool neg, .slice A9 t.length c9, .slice (some ⟨v1.heap.size, 0, none⟩) 1 1] (0, 0) _ rfl (by refine jc (cs := #[.bool neg, .slice A9 t.length c9, .slice none 0 0]) ?_ 2 _ rs_; refine jc (cs := #[.bool neg, .slice none 0 0, .slice none 0 0]) ?_ 1 _ rs_; refine jc (cs := #[.bool false, .slice none 0 0, .slice none 0 0]) ?_ 0 _ rs_; exact s1_) Try.underlying44 rfl kr_) rfl ?_
   have hz1 := hS1.out
   obtain ⟨f1, f2, f3⟩ := zW.fin (neg := neg) (g := w.heap.size + 1) (Kd.jL (Kd.jO (Kd.jAJ HO.out) (fun k_ hk => by have hk1 := hk.2.1; simp only [World.size_alloc] at hk1; exact ⟨by omega, by omega⟩)) HZB.out) HL.out (by omega) s2_ (by omega)
   exact ⟨_, _, rfl, f1, f2, f3⟩
 ·
  refine jEb (w1 := ?_) (v := ?_) (by rfl) rfl ?_ ?_
  rotate_left 2
  ·
   go_simp
   constructor
   ·
    rfl
   ·
    rfl
  obtain ⟨s0_, s1_, s2_⟩ := hHeld
  have HL := jA.mk (zW.lit _ 1 w.heap.size (jB s2_))
  refine hK.out _ _ ⟨vT s0_ _, vT s1_ _, vM s2_ _⟩ (fun hHeld => ?_)
  clear hK K
  refine ns_ 10 ?_
  refine one_ (i := 3) (N := some 8) (ba_ 8 47) rfl rfl kr_ (by decide) (fun K hK => ?_)
  refine zW.jJS #[.pointer (some ⟨w.heap.size, 0, none⟩)] Try.func80 kr_ rfl #[.pointer (some ⟨w.heap.size, 0, none⟩)] (by rfl) rfl rfl rfl (by (try simp only [List.map_toArray, List.map_cons, List.map_nil]); first | done | rfl) ?_
  refine (HC.out _ hHeld.1).mono ?_
  rintro e w' ⟨rfl, rfl⟩
  refine ⟨_, rfl, ?_⟩
  refine hK.out _ _ hHeld (fun hHeld => ?_)
  clear hK K
  refine ns_ 8 ?_
  refine one_ (i := 4) (N := some 9) (ba_ 8 63) rfl rfl kr_ (by decide) (fun K hK => ?_)
  obtain ⟨s0_, s1_, s2_⟩ := hHeld
  refine jAs Try.func81 kr_ rfl #[.int .u64 z] (by rfl) rfl rfl (by (try simp only [List.map_toArray, List.map_cons, List.map_nil]); first | done | rfl) ?_
  refine (jBO.calls z t _ HT.out).mono ?_
  rintro e w4 ⟨v9, rfl, ho, hb⟩
  refine ⟨_, rfl, ?_⟩
  obtain ⟨A9, c9, e9⟩ := Kd.jP ho
  subst e9
  have HL := jA.mk (Kd.qo HL.out hb)
  have HO := jA.mk ho
  have HBB := jA.mk hb
  have HZB := jA.mk (jB s2_)
  clear ho hb
  refine hK.out _ _ ⟨vJ s0_ HBB.out, vJ s1_ HBB.out, jJ s2_ HBB.out⟩ (fun hHeld => ?_)
  clear hK K s0_ s1_ s2_
  refine ns_ 9 ?_
  obtain ⟨s0_, s1_, s2_⟩ := hHeld
  refine pu_ 6 (some 11) (ba_ 8 127) kr_ ?_
  have z0 := (jI s1_ 0).trans (show _ = some (.bool false) from rfl)
  have z1 := (jI s1_ 1).trans (show _ = some (.slice none 0 0) from rfl)
  have z2 := (jI s1_ 2).trans (show _ = some (.slice none 0 0) from rfl)
  have f0 := jK s1_ 0
  have f1 := jK s1_ 1
  have f2 := jK s1_ 2
  refine jCg (i := 7) (N := none) (ba_ 8 255) rfl rfl kr_ (by decide) (fun K hK => ?_)
  refine jBt (w1 := ?_) (by rfl) rfl ?_ ?_
  rotate_left
  ·
   go_simp
   rfl
  refine hK.out _ _ ?_
  clear hK K z0 z1 z2 f0 f1 f2
  refine jBH kr_ ?_
  go_wp2
  refine bodyPost_ret (results_cell_row rfl _ _ (w.heap.size + 1) 44 #[.bool neg, .slice A9 t.length c9, .slice (some ⟨v1.heap.size, 0, none⟩) 1 1] (0, 0) _ rfl (by refine jc (cs := #[.bool neg, .slice A9 t.length c9, .slice none 0 0]) ?_ 2 _ rs_; refine jc (cs := #[.bool neg, .slice none 0 0, .slice none 0 0]) ?_ 1 _ rs_; refine jc (cs := #[.bool false, .slice none 0 0, .slice none 0 0]) ?_ 0 _ rs_; exact s1_) Try.underlying44 rfl kr_) rfl ?_
  have hz1 := hS1.out
  obtain ⟨f1, f2, f3⟩ := zW.fin (neg := neg) (g := w.heap.size + 1) (Kd.jL (Kd.jO (Kd.jAJ HO.out) (fun k_ hk => by have hk1 := hk.2.1; simp only [World.size_alloc] at hk1; exact ⟨by omega, by omega⟩)) HZB.out) HL.out (by omega) s2_ (by omega)
  exact ⟨_, _, rfl, f1, f2, f3⟩
def zN.l0 : Nat → List (S44) → Int → Int → Bool → List Int → List Int → Option (Bool × List Int × List Int × Int)
 | 0, _, _, _, _, _, _ => none
 | k + 1, x7, x8, x9, x598000, x598001, x598002 => if x9 < x8 then (if 0 ≤ x9 then (if x9 < (x7.length : Int) then ((vO.f k x598000 x598001 x598002 ((vH x7 x9).f0) ((vH x7 x9).f1) ((vH x7 x9).f2)).bind fun bt607 => (if bt607.2.2.2 = 0 then (zN.l0 k x7 x8 (wrap64 (x9 + 1)) bt607.1 bt607.2.1 bt607.2.2.1) else (some (false, ([] : List Int), ([] : List Int), bt607.2.2.2)))) else (none)) else (none)) else (some (x598000, x598001, x598002, 0))
def zN.f (k : Nat) (l0 : List (S44)) : Option (Bool × List Int × List Int × Int) := (zW.f 0).bind fun bt598 => (zN.l0 k l0 (l0.length : Int) 0 bt598.1 bt598.2.1 bt598.2.2)
theorem zN.vQ : ∀ k, (∀ y0 y1 y2 y3 y4 y5, LeO (zN.l0 k y0 y1 y2 y3 y4 y5) (zN.l0 (k + 1) y0 y1 y2 y3 y4 y5))
 | 0 => fun _ _ _ _ _ _ r h => by simp [zN.l0] at h
 | k + 1 => by
  have ih0 := zN.vQ k
  ·
   intro y0 y1 y2 y3 y4 y5
   unfold zN.l0
   repeat' first
   | (with_reducible exact ih0 _ _ _ _ _ _)
   | (with_reducible exact vO.mono _ _ _ _ _ _ _)
   | (with_reducible exact LeO.refl _)
   | (with_reducible exact LeO.none _)
   | (with_reducible refine LeO.ite ?_ ?_)
   | (with_reducible refine LeO.bind ?_ (fun _ => ?_))
theorem zN.mono : ∀ a0 k, LeO (zN.f k a0) (zN.f (k + 1) a0) := by
 intro a0 k
 have ih0 := zN.vQ k
 unfold zN.f
 repeat' first
   | (with_reducible exact ih0 _ _ _ _ _ _)
   | (with_reducible exact vO.mono _ _ _ _ _ _ _)
   | (with_reducible exact LeO.refl _)
   | (with_reducible exact LeO.none _)
   | (with_reducible refine LeO.ite ?_ ?_)
   | (with_reducible refine LeO.bind ?_ (fun _ => ?_))
theorem zN.calls (k : Nat) (A0 : Option Addr) (c0 : Nat) (l0 : List (S44)) (r1 : Bool) (r2 : List Int) (r3 : List Int) (r4 : Int) (w : World) (hr0 : Kd.C k44 w A0 l0.length l0) (hc0 : l0.length ≤ c0) (h : zN.f k l0 = some (r1, r2, r3, r4)) :
  Calls Try.prog 37 #[.slice A0 l0.length c0] w fun e w' => ∃ v1_ v2_ : Value, e = .returned (.tuple #[.agg #[.bool r1, v1_, v2_], .int .i64 r4]) ∧ Kd.R (Kd.int .u64) 22 w' w.heap.size (fun k_ => some k_ ≠ (v2_ : Value).ownBlock) v1_ r2 ∧ Kd.R (Kd.int .u64) 22 w' w.heap.size (fun k_ => some k_ ≠ (v1_ : Value).ownBlock) v2_ r3 ∧ Below w.heap.size w w' := by
 have hu44 := Try.underlying44
 have HR0 := jA.mk hr0
 have HC0 := jA.mk hc0
 clear hr0 hc0
 have HB := jA.mk (Below.refl w.heap.size w)
 have H : ((zW.f 0).bind fun bt598 => (zN.l0 k l0 (l0.length : Int) 0 bt598.1 bt598.2.1 bt598.2.2)) = some (r1, r2, r3, r4) := h
 clear h
 replace H := ob_ H
 obtain ⟨⟨t598, t599, t602⟩, A20, H⟩ := H
 try dsimp only at H
 have A2 := jA.mk A20
 clear A20
 have H' := jA.mk H
 clear H
 go_enter Try.func37, Try.ntmps37
 go_wp2_with (first | ((with_reducible refine jW (N := 2) rfl ?_); refine bx_ 2 #[.bool false, .slice none 0 0, .slice none 0 0] 44 ?_; intro gb597 hg w3 hbox hb; have BK597 := jA.mk (hbox); have GW597 := jA.mk ((by rw [hg]; exact (jB (bb_ HB)) : w.heap.size ≤ gb597)); have GE597 := GW597; replace HB := bs_ HB hb; clear hb hbox hg) | ((with_reducible refine jD (f := 39) rfl ?_); refine gl_ (some 6) Try.func39 #[.int .i64 0] ?_; (with_reducible refine (zW.calls 0 t598 t599 t602 _ A2.out).mono ?_); rintro e w4 ⟨v600, v603, rfl, ho0, ho1, hb⟩; refine ⟨_, rfl, ?_⟩; have HO601 := jA.mk (Kd.jL ho0 (jB (bb1_ HB GE597))); have HO604 := jA.mk (Kd.jL ho1 (jB (bb1_ HB GE597))); replace BK597 := bk_ BK597 hb; replace HB := jA.mk (jJ (bb1_ HB GE597) hb); obtain ⟨hcz5_0, hcz5_1, hcz5_2, hfz5_0, hfz5_1, hfz5_2⟩ := bf3_ BK597; obtain ⟨Ao6, co6, rfl⟩ := Kd.jP HO601.out; obtain ⟨Ao7, co7, rfl⟩ := Kd.jP HO604.out))
 go_loopg [9] k (fun kq v9 w' => ∃ (x9_1 : Int) (x598000_1 : Bool) (x598001_1 : List Int) (x598002_1 : List Int) (u598001 : Value) (u598002 : Value), v9 = .int .i64 x9_1 ∧ jA (zN.l0 kq l0 (l0.length : Int) x9_1 x598000_1 x598001_1 x598002_1 = some (r1, r2, r3, r4)) ∧ jA (kq ≤ k) ∧ jA (Kd.R (Kd.int .u64) 22 w' w.heap.size (fun k_ => some k_ ≠ (u598002 : Value).ownBlock) u598001 x598001_1) ∧ jA (Kd.R (Kd.int .u64) 22 w' w.heap.size (fun k_ => some k_ ≠ (u598001 : Value).ownBlock) u598002 x598002_1) ∧ jA (w'.heap[gb597]? = some (.cells #[.bool x598000_1, u598001, u598002] 44 (0, 0))) ∧ jA (Below w.heap.size w w'))
 case atStart => exact ⟨(0), (t598), (t599), (t602), (.slice Ao6 t599.length co6), (.slice Ao7 t602.length co7), sd_, H', ⟨Nat.le_refl _⟩, ⟨by (with_reducible repeat (first | apply Kd.zG | apply Kd.zM | apply Kd.zP)); exact Kd.jO (Kd.vU (p := ⟨gb597, 2, none⟩) (Kd.vU (p := ⟨gb597, 1, none⟩) (Kd.vU (p := ⟨gb597, 0, none⟩) (Kd.jm HO601.out BK597.out (by decide)) (fun _ hk => hk.2) (.bool t598)) (fun _ hk => hk.2) (.slice Ao6 t599.length co6)) (fun _ hk => hk.2) (.slice Ao7 t602.length co7)) (fun _ hk => hk.1)⟩, ⟨by (with_reducible repeat (first | apply Kd.zG | apply Kd.zM | apply Kd.zP)); exact Kd.jO (Kd.vU (p := ⟨gb597, 2, none⟩) (Kd.vU (p := ⟨gb597, 1, none⟩) (Kd.vU (p := ⟨gb597, 0, none⟩) (Kd.jm HO604.out BK597.out (by decide)) (fun _ hk => hk.2) (.bool t598)) (fun _ hk => hk.2) (.slice Ao6 t599.length co6)) (fun _ hk => hk.2) (.slice Ao7 t602.length co7)) (fun _ hk => hk.1)⟩, ⟨by (with_reducible repeat (first | refine zU ?_ _ | refine vN ?_ | refine vT ?_ _)); refine jc (cs := #[.bool t598, .slice Ao6 t599.length co6, .slice none 0 0]) ?_ 2 _ rs_; refine pk_ ?_; refine jc (cs := #[.bool t598, .slice none 0 0, .slice none 0 0]) ?_ 1 _ rs_; refine pk_ ?_; refine jc (cs := #[.bool false, .slice none 0 0, .slice none 0 0]) ?_ 0 _ rs_; refine pk_ ?_; exact BK597.out⟩, ⟨(bb1_ HB GE597)⟩⟩
 case round =>
  clear H'
  try clear p2
  try clear c3
  try clear hcz5_0
  try clear hcz5_1
  try clear hcz5_2
  try clear hfz5_0
  try clear hfz5_1
  try clear hfz5_2
  obtain ⟨x9_1, x598000_1, x598001_1, x598002_1, u598001, u598002, rfl, HA, HK1, HO_598001, HO_598002, BK597, HB⟩ := hrel
  cases gk with
  | zero => exact absurd HA.out (by simp [zN.l0])
  | succ k1 =>
   have H := HA.out
   clear HA
   simp only [zN.l0] at H
   by_cases c8 : x9_1 < (l0.length : Int)
   ·
    rw [if_pos c8] at H
    have c8b0 := decide_eq_true c8
    clear c8
    by_cases c9 : 0 ≤ x9_1
    ·
     rw [if_pos c9] at H
     have c9b0 := decide_eq_true c9
     clear c9
     by_cases c10 : x9_1 < (l0.length : Int)
     ·
      rw [if_pos c10] at H
      have c10b0 := decide_eq_true c10
      clear c10
      replace H := ob_ H
      obtain ⟨⟨t607, t608, t611, t614⟩, A110, H⟩ := H
      try dsimp only at H
      have A11 := jA.mk A110
      clear A110
      by_cases c12 : t614 = 0
      ·
       rw [if_pos c12] at H
       have c12b0 := beq_iff_eq.mpr c12
       have c12b1 := bne_eq_false_iff_eq.mpr c12
       clear c12
       have H' := jA.mk H
       clear H
       have p605 : 0 ≤ (x9_1 : Int) := of_decide_eq_true am_
       have q605 : x9_1 < (l0.length : Int) := of_decide_eq_true am_
       obtain ⟨ad605, A605_1, c605_1, A605_2, c605_2, e605, hx605_0, hx605_1, hx605_2, hl605_1, hi605_1, hl605_2, hi605_2⟩ := jCt HR0.out x9_1 p605 q605
       cases e605
       replace hx605_0 := (HB.out.cell (World.block_lt_of_cell? w _ hx605_0)).trans hx605_0
       replace hx605_1 := (HB.out.cell (World.block_lt_of_cell? w _ hx605_1)).trans hx605_1
       replace hx605_2 := (HB.out.cell (World.block_lt_of_cell? w _ hx605_2)).trans hx605_2
       have HR605_1 := jA.mk hi605_1
       have HC605_1 := jA.mk hl605_1
       clear hi605_1 hl605_1
       have HR605_2 := jA.mk hi605_2
       have HC605_2 := jA.mk hl605_2
       clear hi605_2 hl605_2
       replace p605 := eq_true p605
       replace q605 := eq_true q605
       go_wp2_with (first | ((with_reducible refine jW (N := 5) rfl ?_); refine bx_ 5 #[.bool false, .slice none 0 0, .slice none 0 0] 44 ?_; intro gb606 hg w13 hbox hb; replace HO_598001 := ro_ HO_598001 hb; replace HO_598002 := ro_ HO_598002 hb; have BK606 := jA.mk (hbox); have GW606 := jA.mk ((by rw [hg]; exact (jB (bb1_ HB GE597)) : w.heap.size ≤ gb606)); have GE606 := GW606; replace HB := jA.mk (jJ (bb1_ HB GE597) hb); have NB597_606 := jA.mk ((by rw [hg]; exact nlt_ BK597 : gb597 ≠ gb606)); have NB606_597 := jA.mk ((by rw [hg]; exact ngt_ BK597 : gb606 ≠ gb597)); replace BK597 := bk_ BK597 hb; clear hb hbox hg; have hnb14 := NB606_597.out; have hnc14 := NB597_606.out; obtain ⟨hcz15_0, hcz15_1, hcz15_2, hfz15_0, hfz15_1, hfz15_2⟩ := bf3_ BK606; obtain ⟨hcz16_0, hcz16_1, hcz16_2, hfz16_0, hfz16_1, hfz16_2⟩ := bf3_ BK597; obtain ⟨Ao17, co17, rfl⟩ := Kd.jP HO_598001.out; obtain ⟨Ao18, co18, rfl⟩ := Kd.jP HO_598002.out) | ((with_reducible refine jD (f := 49) rfl ?_); refine gl_ (some 16) Try.func49 #[.agg #[.bool x598000_1, .slice Ao17 x598001_1.length co17, .slice Ao18 x598002_1.length co18], .agg #[.bool ((vH l0 x9_1).f0), .slice A605_1 ((vH l0 x9_1).f1).length c605_1, .slice A605_2 ((vH l0 x9_1).f2).length c605_2]] ?_; (with_reducible refine (vO.calls k1 x598000_1 _ _ x598001_1 _ _ x598002_1 ((vH l0 x9_1).f0) _ _ ((vH l0 x9_1).f1) _ _ ((vH l0 x9_1).f2) t607 t608 t611 t614 _ ?side1 ?side2 ?side3 ?side4 ?side5 ?side6 ?side7 ?side8 A11.out).mono ?_); (case side1 => refine (Kd.jC (e := 22) (base := w.heap.size) (ok := fun k_ => some k_ ≠ (.slice Ao18 x598002_1.length co18 : Value).ownBlock) (n := x598001_1.length) (c := co17) ?_).2.2; exact (rg3_ HO_598001 BK606)); (case side2 => exact (Kd.jC HO_598001.out).2.1); (case side3 => refine (Kd.jC (e := 22) (base := w.heap.size) (ok := fun k_ => some k_ ≠ (.slice Ao17 x598001_1.length co17 : Value).ownBlock) (n := x598002_1.length) (c := co18) ?_).2.2; exact (rg3_ HO_598002 BK606)); (case side4 => exact (Kd.jC HO_598002.out).2.1); (case side5 => exact Kd.zT HR605_1.out (bb2_ HB GE597 GE606)); (case side6 => exact HC605_1.out); (case side7 => exact Kd.zT HR605_2.out (bb2_ HB GE597 GE606)); (case side8 => exact HC605_2.out); rintro e w19 ⟨v609, v612, rfl, ho0, ho1, hb⟩; refine ⟨_, rfl, ?_⟩; have HO610 := jA.mk (Kd.jL (Kd.jG (Kd.jG ho0 (Kd.R_lt (rg3_ HO_598001 BK606))) (Kd.R_lt (rg3_ HO_598002 BK606))) (jB (bb2_ HB GE597 GE606))); have HO613 := jA.mk (Kd.jL (Kd.jG (Kd.jG ho1 (Kd.R_lt (rg3_ HO_598001 BK606))) (Kd.R_lt (rg3_ HO_598002 BK606))) (jB (bb2_ HB GE597 GE606))); replace HO_598001 := jA.mk (Kd.jO (Kd.jo (Kd.jo (Kd.zm (rg3_ HO_598001 BK606) hb) (Kd.jY ho0)) (Kd.jY ho1)) (fun _ h_ => h_.1)); replace HO_598002 := jA.mk (Kd.jO (Kd.jo (Kd.jo (Kd.zm (rg3_ HO_598002 BK606) hb) (Kd.jY ho0)) (Kd.jY ho1)) (fun _ h_ => h_.1)); replace BK597 := jA.mk (vJ (g := gb597) (o := .cells #[.bool x598000_1, .slice Ao17 x598001_1.length co17, .slice Ao18 x598002_1.length co18] 44 (0, 0)) (by refine pk_ ?_; refine vP ?_ NB597_606.out _; refine pk_ ?_; refine vP ?_ NB597_606.out _; refine pk_ ?_; refine vP ?_ NB597_606.out _; refine pk_ ?_; exact BK597.out) hb); replace BK606 := jA.mk (vJ (g := gb606) (o := .cells #[.bool ((vH l0 x9_1).f0), .slice A605_1 ((vH l0 x9_1).f1).length c605_1, .slice A605_2 ((vH l0 x9_1).f2).length c605_2] 44 (0, 0)) (by refine pk_ ?_; refine jc (cs := #[.bool ((vH l0 x9_1).f0), .slice A605_1 ((vH l0 x9_1).f1).length c605_1, .slice none 0 0]) ?_ 2 _ rs_; refine pk_ ?_; refine jc (cs := #[.bool ((vH l0 x9_1).f0), .slice none 0 0, .slice none 0 0]) ?_ 1 _ rs_; refine pk_ ?_; refine jc (cs := #[.bool false, .slice none 0 0, .slice none 0 0]) ?_ 0 _ rs_; refine pk_ ?_; exact BK606.out) hb); replace HB := jA.mk (jJ (bb2_ HB GE597 GE606) hb); obtain ⟨hcz20_0, hcz20_1, hcz20_2, hfz20_0, hfz20_1, hfz20_2⟩ := bf3_ BK597; obtain ⟨Ao21, co21, rfl⟩ := Kd.jP HO610.out; obtain ⟨Ao22, co22, rfl⟩ := Kd.jP HO613.out))
       go_roundg k1
       case measure => have := HK1.out; omega
       case rel => exact ⟨(wrap64 (x9_1 + 1)), (t607), (t608), (t611), (.slice Ao21 t608.length co21), (.slice Ao22 t611.length co22), sd_, H', ⟨by have := HK1.out; omega⟩, ⟨by (with_reducible repeat (first | apply Kd.zG | apply Kd.zM | apply Kd.zP)); exact Kd.jO (Kd.vU (p := ⟨gb597, 2, none⟩) (Kd.vU (p := ⟨gb597, 1, none⟩) (Kd.vU (p := ⟨gb597, 0, none⟩) (Kd.jm HO610.out BK597.out (by decide)) (fun _ hk => hk.2) (.bool t607)) (fun _ hk => hk.2) (.slice Ao21 t608.length co21)) (fun _ hk => hk.2) (.slice Ao22 t611.length co22)) (fun _ hk => hk.1.1.1)⟩, ⟨by (with_reducible repeat (first | apply Kd.zG | apply Kd.zM | apply Kd.zP)); exact Kd.jO (Kd.vU (p := ⟨gb597, 2, none⟩) (Kd.vU (p := ⟨gb597, 1, none⟩) (Kd.vU (p := ⟨gb597, 0, none⟩) (Kd.jm HO613.out BK597.out (by decide)) (fun _ hk => hk.2) (.bool t607)) (fun _ hk => hk.2) (.slice Ao21 t608.length co21)) (fun _ hk => hk.2) (.slice Ao22 t611.length co22)) (fun _ hk => hk.1.1.1)⟩, ⟨by (with_reducible repeat (first | refine zU ?_ _ | refine vN ?_ | refine vT ?_ _)); refine jc (cs := #[.bool t607, .slice Ao21 t608.length co21, .slice Ao18 x598002_1.length co18]) ?_ 2 _ rs_; refine pk_ ?_; refine jc (cs := #[.bool t607, .slice Ao17 x598001_1.length co17, .slice Ao18 x598002_1.length co18]) ?_ 1 _ rs_; refine pk_ ?_; refine jc (cs := #[.bool x598000_1, .slice Ao17 x598001_1.length co17, .slice Ao18 x598002_1.length co18]) ?_ 0 _ rs_; refine pk_ ?_; exact BK597.out⟩, ⟨(bb2_ HB GE597 GE606)⟩⟩
      ·
       rw [if_neg c12] at H
       have c12b0 := beq_eq_false_iff_ne.mpr c12
       have c12b1 := bne_iff_ne.mpr c12
       simp only [Option.some.injEq, Prod.mk.injEq] at H
       obtain ⟨rfl, rfl, rfl, rfl⟩ := H
       have p605 : 0 ≤ (x9_1 : Int) := of_decide_eq_true am_
       have q605 : x9_1 < (l0.length : Int) := of_decide_eq_true am_
       obtain ⟨ad605, A605_1, c605_1, A605_2, c605_2, e605, hx605_0, hx605_1, hx605_2, hl605_1, hi605_1, hl605_2, hi605_2⟩ := jCt HR0.out x9_1 p605 q605
       cases e605
       replace hx605_0 := (HB.out.cell (World.block_lt_of_cell? w _ hx605_0)).trans hx605_0
       replace hx605_1 := (HB.out.cell (World.block_lt_of_cell? w _ hx605_1)).trans hx605_1
       replace hx605_2 := (HB.out.cell (World.block_lt_of_cell? w _ hx605_2)).trans hx605_2
       have HR605_1 := jA.mk hi605_1
       have HC605_1 := jA.mk hl605_1
       clear hi605_1 hl605_1
       have HR605_2 := jA.mk hi605_2
       have HC605_2 := jA.mk hl605_2
       clear hi605_2 hl605_2
       replace p605 := eq_true p605
       replace q605 := eq_true q605
       go_wp2_with (first | ((with_reducible refine jW (N := 5) rfl ?_); refine bx_ 5 #[.bool false, .slice none 0 0, .slice none 0 0] 44 ?_; intro gb606 hg w23 hbox hb; replace HO_598001 := ro_ HO_598001 hb; replace HO_598002 := ro_ HO_598002 hb; have BK606 := jA.mk (hbox); have GW606 := jA.mk ((by rw [hg]; exact (jB (bb1_ HB GE597)) : w.heap.size ≤ gb606)); have GE606 := GW606; replace HB := jA.mk (jJ (bb1_ HB GE597) hb); have NB597_606 := jA.mk ((by rw [hg]; exact nlt_ BK597 : gb597 ≠ gb606)); have NB606_597 := jA.mk ((by rw [hg]; exact ngt_ BK597 : gb606 ≠ gb597)); replace BK597 := bk_ BK597 hb; clear hb hbox hg; have hnb24 := NB606_597.out; have hnc24 := NB597_606.out; obtain ⟨hcz25_0, hcz25_1, hcz25_2, hfz25_0, hfz25_1, hfz25_2⟩ := bf3_ BK606; obtain ⟨hcz26_0, hcz26_1, hcz26_2, hfz26_0, hfz26_1, hfz26_2⟩ := bf3_ BK597; obtain ⟨Ao27, co27, rfl⟩ := Kd.jP HO_598001.out; obtain ⟨Ao28, co28, rfl⟩ := Kd.jP HO_598002.out) | ((with_reducible refine jD (f := 49) rfl ?_); refine gl_ (some 16) Try.func49 #[.agg #[.bool x598000_1, .slice Ao27 x598001_1.length co27, .slice Ao28 x598002_1.length co28], .agg #[.bool ((vH l0 x9_1).f0), .slice A605_1 ((vH l0 x9_1).f1).length c605_1, .slice A605_2 ((vH l0 x9_1).f2).length c605_2]] ?_; (with_reducible refine (vO.calls k1 x598000_1 _ _ x598001_1 _ _ x598002_1 ((vH l0 x9_1).f0) _ _ ((vH l0 x9_1).f1) _ _ ((vH l0 x9_1).f2) t607 t608 t611 t614 _ ?side1 ?side2 ?side3 ?side4 ?side5 ?side6 ?side7 ?side8 A11.out).mono ?_); (case side1 => refine (Kd.jC (e := 22) (base := w.heap.size) (ok := fun k_ => some k_ ≠ (.slice Ao28 x598002_1.length co28 : Value).ownBlock) (n := x598001_1.length) (c := co27) ?_).2.2; exact (rg3_ HO_598001 BK606)); (case side2 => exact (Kd.jC HO_598001.out).2.1); (case side3 => refine (Kd.jC (e := 22) (base := w.heap.size) (ok := fun k_ => some k_ ≠ (.slice Ao27 x598001_1.length co27 : Value).ownBlock) (n := x598002_1.length) (c := co28) ?_).2.2; exact (rg3_ HO_598002 BK606)); (case side4 => exact (Kd.jC HO_598002.out).2.1); (case side5 => exact Kd.zT HR605_1.out (bb2_ HB GE597 GE606)); (case side6 => exact HC605_1.out); (case side7 => exact Kd.zT HR605_2.out (bb2_ HB GE597 GE606)); (case side8 => exact HC605_2.out); rintro e w29 ⟨v609, v612, rfl, ho0, ho1, hb⟩; refine ⟨_, rfl, ?_⟩; have HO610 := jA.mk (Kd.jL (Kd.jG (Kd.jG ho0 (Kd.R_lt (rg3_ HO_598001 BK606))) (Kd.R_lt (rg3_ HO_598002 BK606))) (jB (bb2_ HB GE597 GE606))); have HO613 := jA.mk (Kd.jL (Kd.jG (Kd.jG ho1 (Kd.R_lt (rg3_ HO_598001 BK606))) (Kd.R_lt (rg3_ HO_598002 BK606))) (jB (bb2_ HB GE597 GE606))); replace HO_598001 := jA.mk (Kd.jO (Kd.jo (Kd.jo (Kd.zm (rg3_ HO_598001 BK606) hb) (Kd.jY ho0)) (Kd.jY ho1)) (fun _ h_ => h_.1)); replace HO_598002 := jA.mk (Kd.jO (Kd.jo (Kd.jo (Kd.zm (rg3_ HO_598002 BK606) hb) (Kd.jY ho0)) (Kd.jY ho1)) (fun _ h_ => h_.1)); replace BK597 := jA.mk (vJ (g := gb597) (o := .cells #[.bool x598000_1, .slice Ao27 x598001_1.length co27, .slice Ao28 x598002_1.length co28] 44 (0, 0)) (by refine pk_ ?_; refine vP ?_ NB597_606.out _; refine pk_ ?_; refine vP ?_ NB597_606.out _; refine pk_ ?_; refine vP ?_ NB597_606.out _; refine pk_ ?_; exact BK597.out) hb); replace BK606 := jA.mk (vJ (g := gb606) (o := .cells #[.bool ((vH l0 x9_1).f0), .slice A605_1 ((vH l0 x9_1).f1).length c605_1, .slice A605_2 ((vH l0 x9_1).f2).length c605_2] 44 (0, 0)) (by refine pk_ ?_; refine jc (cs := #[.bool ((vH l0 x9_1).f0), .slice A605_1 ((vH l0 x9_1).f1).length c605_1, .slice none 0 0]) ?_ 2 _ rs_; refine pk_ ?_; refine jc (cs := #[.bool ((vH l0 x9_1).f0), .slice none 0 0, .slice none 0 0]) ?_ 1 _ rs_; refine pk_ ?_; refine jc (cs := #[.bool false, .slice none 0 0, .slice none 0 0]) ?_ 0 _ rs_; refine pk_ ?_; exact BK606.out) hb); replace HB := jA.mk (jJ (bb2_ HB GE597 GE606) hb); obtain ⟨hcz30_0, hcz30_1, hcz30_2, hfz30_0, hfz30_1, hfz30_2⟩ := bf3_ BK597; obtain ⟨Ao31, co31, rfl⟩ := Kd.jP HO610.out; obtain ⟨Ao32, co32, rfl⟩ := Kd.jP HO613.out))
       refine bodyPost_ret (za rfl _ _ gb597 44 #[.bool false, .slice none 0 0, .slice none 0 0] (0, 0) _ rfl (by refine pk_ ?_; refine jc (cs := #[.bool false, .slice none 0 0, .slice Ao32 t611.length co32]) ?_ 2 _ rs_; refine pk_ ?_; refine jc (cs := #[.bool false, .slice Ao31 t608.length co31, .slice Ao32 t611.length co32]) ?_ 1 _ rs_; refine pk_ ?_; refine jc (cs := #[.bool t607, .slice Ao31 t608.length co31, .slice Ao32 t611.length co32]) ?_ 0 _ rs_; refine pk_ ?_; refine jc (cs := #[.bool t607, .slice Ao31 t608.length co31, .slice Ao28 x598002_1.length co28]) ?_ 2 _ rs_; refine pk_ ?_; refine jc (cs := #[.bool t607, .slice Ao27 x598001_1.length co27, .slice Ao28 x598002_1.length co28]) ?_ 1 _ rs_; refine pk_ ?_; refine jc (cs := #[.bool x598000_1, .slice Ao27 x598001_1.length co27, .slice Ao28 x598002_1.length co28]) ?_ 0 _ rs_; refine pk_ ?_; exact BK597.out) Try.underlying44 rfl kr_) rfl ?_
       exact ⟨_, _, ew_, nl_, nl_, (bb2_ HB GE597 GE606)⟩
     ·
      rw [if_neg c10] at H
      exact absurd H (by simp)
    ·
     rw [if_neg c9] at H
     exact absurd H (by simp)
   ·
    rw [if_neg c8] at H
    have c8b0 := decide_eq_false c8
    clear c8
    simp only [Option.some.injEq, Prod.mk.injEq] at H
    obtain ⟨rfl, rfl, rfl, rfl⟩ := H
    have hcz33_0 : wr.cell? ⟨gb597, 0, none⟩ = some (.bool x598000_1) := (jI BK597.out 0).trans rfl
    have hcz33_1 : wr.cell? ⟨gb597, 1, none⟩ = some (u598001) := (jI BK597.out 1).trans rfl
    have hcz33_2 : wr.cell? ⟨gb597, 2, none⟩ = some (u598002) := (jI BK597.out 2).trans rfl
    have hfz33_0 := jK BK597.out 0
    have hfz33_1 := jK BK597.out 1
    have hfz33_2 := jK BK597.out 2
    obtain ⟨Ao34, co34, eo34⟩ := Kd.jP HO_598001.out
    subst eo34
    obtain ⟨Ao35, co35, eo35⟩ := Kd.jP HO_598002.out
    subst eo35
    go_wp2
    refine bodyPost_ret (za rfl _ _ gb597 44 #[.bool x598000_1, .slice Ao34 x598001_1.length co34, .slice Ao35 x598002_1.length co35] (0, 0) _ rfl (by refine pk_ ?_; refine jc (cs := #[.bool x598000_1, .slice Ao34 x598001_1.length co34, .slice Ao35 x598002_1.length co35]) ?_ 2 _ rs_; refine pk_ ?_; refine jc (cs := #[.bool x598000_1, .slice Ao34 x598001_1.length co34, .slice Ao35 x598002_1.length co35]) ?_ 1 _ rs_; refine pk_ ?_; refine jc (cs := #[.bool x598000_1, .slice Ao34 x598001_1.length co34, .slice Ao35 x598002_1.length co35]) ?_ 0 _ rs_; refine pk_ ?_; exact BK597.out) Try.underlying44 rfl kr_) rfl ?_
    exact ⟨_, _, ew_, by refine pR_ ?_; exact Kd.jO (Kd.vU (p := ⟨gb597, 2, none⟩) (Kd.vU (p := ⟨gb597, 1, none⟩) (Kd.vU (p := ⟨gb597, 0, none⟩) (Kd.jm HO_598001.out BK597.out (by decide)) (fun _ hk => hk.2) (.bool x598000_1)) (fun _ hk => hk.2) (.slice Ao34 x598001_1.length co34)) (fun _ hk => hk.2) (.slice Ao35 x598002_1.length co35)) (fun _ hk => hk.1), by refine pR_ ?_; exact Kd.jO (Kd.vU (p := ⟨gb597, 2, none⟩) (Kd.vU (p := ⟨gb597, 1, none⟩) (Kd.vU (p := ⟨gb597, 0, none⟩) (Kd.jm HO_598002.out BK597.out (by decide)) (fun _ hk => hk.2) (.bool x598000_1)) (fun _ hk => hk.2) (.slice Ao34 x598001_1.length co34)) (fun _ hk => hk.2) (.slice Ao35 x598002_1.length co35)) (fun _ hk => hk.1), (bb1_ HB GE597)⟩
def zH.f (k : Nat) (a0 : Int) : Option (Bool × List Int × List Int) := if a0 < 0 then ((vY.f k (IntKind.u64.wrap (-(IntKind.u64.wrap (a0))))).bind fun t616 => (some (decide (a0 < 0), t616, (([1] : List Int))))) else ((vY.f k (IntKind.u64.wrap (a0))).bind fun t622 => (some (decide (a0 < 0), t622, (([1] : List Int)))))
theorem zH.mono : ∀ a0 k, LeO (zH.f k a0) (zH.f (k + 1) a0) := by
 intro a0 k
 unfold zH.f
 repeat' first
   | (with_reducible exact vY.mono _ _)
   | (with_reducible exact LeO.refl _)
   | (with_reducible exact LeO.none _)
   | (with_reducible refine LeO.ite ?_ ?_)
   | (with_reducible refine LeO.bind ?_ (fun _ => ?_))
theorem zH.calls (k : Nat) (a0 : Int) (r1 : Bool) (r2 : List Int) (r3 : List Int) (w : World) (h : zH.f k a0 = some (r1, r2, r3)) :
  Calls Try.prog 40 #[.int .i64 a0] w fun e w' => ∃ v1_ v2_ : Value, e = .returned (.agg #[.bool r1, v1_, v2_]) ∧ Kd.R (Kd.int .u64) 22 w' w.heap.size (fun k_ => some k_ ≠ (v2_ : Value).ownBlock) v1_ r2 ∧ Kd.R (Kd.int .u64) 22 w' w.heap.size (fun k_ => some k_ ≠ (v1_ : Value).ownBlock) v2_ r3 ∧ Below w.heap.size w w' := by
 have hu44 := Try.underlying44
 have HB := jA.mk (Below.refl w.heap.size w)
 have H : (if a0 < 0 then ((vY.f k (IntKind.u64.wrap (-(IntKind.u64.wrap (a0))))).bind fun t616 => (some (decide (a0 < 0), t616, (([1] : List Int))))) else ((vY.f k (IntKind.u64.wrap (a0))).bind fun t622 => (some (decide (a0 < 0), t622, (([1] : List Int)))))) = some (r1, r2, r3) := h
 clear h
 by_cases c2 : a0 < 0
 ·
  rw [if_pos c2] at H
  have c2b0 := decide_eq_true c2
  clear c2
  obtain ⟨t616, A3, H⟩ := oc_ H
  try dsimp only at H
  obtain ⟨y619, hy619⟩ : ∃ y_ : List Int, y_ = (([1] : List Int)) := ⟨_, rfl⟩
  replace H : (some (decide (a0 < 0), t616, y619)) = some (r1, r2, r3) := by first | (rw [hy619]; with_reducible exact H) | (have H2_ := (Option.bind_some _ _).symm.trans H; rw [hy619]; with_reducible exact H2_) | (with_reducible exact hs_ H) | with_reducible exact H | (rw [hy619]; exact H) | exact H
  have Ny619 := jA.mk hy619
  clear hy619
  simp only [Option.some.injEq, Prod.mk.injEq] at H
  obtain ⟨rfl, rfl, rfl⟩ := H
  go_enter Try.func40, Try.ntmps40
  go_wp2_with (first | ((with_reducible refine jW (N := 2) rfl ?_); refine bx_ 2 #[.bool false, .slice none 0 0, .slice none 0 0] 44 ?_; intro gb615 hg w4 hbox hb; have BK615 := jA.mk (hbox); have GW615 := jA.mk ((by rw [hg]; exact (jB (bb_ HB)) : w.heap.size ≤ gb615)); have GE615 := GW615; replace HB := bs_ HB hb; clear hb hbox hg) | ((with_reducible refine jD (f := 21) rfl ?_); refine gl_ (some 13) Try.func21 #[.int .u64 (IntKind.u64.wrap (-(IntKind.u64.wrap (a0))))] ?_; (with_reducible refine (vY.calls k (IntKind.u64.wrap (-(IntKind.u64.wrap (a0)))) t616 _ A3.out).mono ?_); rintro e w5 ⟨v617, rfl, ho0, hb⟩; refine ⟨_, rfl, ?_⟩; have HO618 := jA.mk (Kd.jL ho0 (jB (bb1_ HB GE615))); replace BK615 := bk_ BK615 hb; replace HB := jA.mk (jJ (bb1_ HB GE615) hb)) | ((with_reducible refine jW (N := 14) rfl ?_); refine Kd.qy (Kd.int .u64) _ 22 ?hg (N := 14) ?hd (xs := ([1] : List Int)) (inner := [.int .u64 1]) (ok := fun _ => True) (okp := fun _ => True) ?hr ?hp (fun _ hk => hk) trivial (Below.refl _ _) (Nat.le_refl _) (by simp) ?_; (case hd => rfl); (case hg => rfl); (case hr => exact gs_); (case hp => exact (Reps.one (show Kd.M (Kd.int .u64) _ _ _ 1 [.int .u64 1] from rfl) (Reps.none _ _))); intro v620 w6 ho7 hb hg_ hnew_; clear hg_ hnew_; (first | rw [← Ny619.out] at ho7 | (simp only [Int.reduceToNat] at ho7; rw [← Ny619.out] at ho7)); have HO621 := jA.mk (Kd.jL (Kd.jG ho7 (Kd.R_lt (rR_ HO618))) (jB (bb1_ HB GE615))); replace HO618 := re_ HO618 ho7 hb; replace BK615 := bk_ BK615 hb; replace HB := jA.mk (jJ (bb1_ HB GE615) hb); clear hb ho7; obtain ⟨Ao8, co8, rfl⟩ := Kd.jP HO621.out; obtain ⟨Ao9, co9, rfl⟩ := Kd.jP HO618.out; obtain ⟨hcz10_0, hcz10_1, hcz10_2, hfz10_0, hfz10_1, hfz10_2⟩ := bf3_ BK615))
  refine bodyPost_ret (results_cell_row rfl _ _ gb615 44 #[.bool true, .slice Ao9 t616.length co9, .slice Ao8 y619.length co8] (0, 0) _ rfl (by refine pk_ ?_; refine jc (cs := #[.bool true, .slice Ao9 t616.length co9, .slice none 0 0]) ?_ 2 _ rs_; refine pk_ ?_; refine jc (cs := #[.bool true, .slice none 0 0, .slice none 0 0]) ?_ 1 _ rs_; refine pk_ ?_; refine jc (cs := #[.bool false, .slice none 0 0, .slice none 0 0]) ?_ 0 _ rs_; refine pk_ ?_; exact BK615.out) Try.underlying44 rfl kr_) rfl ?_
  exact ⟨.slice Ao9 t616.length co9, .slice Ao8 y619.length co8, by rw [c2b0], by refine pR_ ?_; exact Kd.jO (Kd.vU (p := ⟨gb615, 2, none⟩) (Kd.vU (p := ⟨gb615, 1, none⟩) (Kd.vU (p := ⟨gb615, 0, none⟩) (Kd.jm HO618.out BK615.out (by decide)) (fun _ hk => hk.2) (.bool true)) (fun _ hk => hk.2) (.slice Ao9 t616.length co9)) (fun _ hk => hk.2) (.slice Ao8 y619.length co8)) (fun _ hk => hk.1.2), by refine pR_ ?_; exact Kd.jO (Kd.vU (p := ⟨gb615, 2, none⟩) (Kd.vU (p := ⟨gb615, 1, none⟩) (Kd.vU (p := ⟨gb615, 0, none⟩) (Kd.jm HO621.out BK615.out (by decide)) (fun _ hk => hk.2) (.bool true)) (fun _ hk => hk.2) (.slice Ao9 t616.length co9)) (fun _ hk => hk.2) (.slice Ao8 y619.length co8)) (fun _ hk => hk.1.2), (bb1_ HB GE615)⟩
 ·
  rw [if_neg c2] at H
  have c2b0 := decide_eq_false c2
  clear c2
  obtain ⟨t622, A11, H⟩ := oc_ H
  try dsimp only at H
  obtain ⟨y625, hy625⟩ : ∃ y_ : List Int, y_ = (([1] : List Int)) := ⟨_, rfl⟩
  replace H : (some (decide (a0 < 0), t622, y625)) = some (r1, r2, r3) := by first | (rw [hy625]; with_reducible exact H) | (have H2_ := (Option.bind_some _ _).symm.trans H; rw [hy625]; with_reducible exact H2_) | (with_reducible exact hs_ H) | with_reducible exact H | (rw [hy625]; exact H) | exact H
  have Ny625 := jA.mk hy625
  clear hy625
  simp only [Option.some.injEq, Prod.mk.injEq] at H
  obtain ⟨rfl, rfl, rfl⟩ := H
  go_enter Try.func40, Try.ntmps40
  go_wp2_with (first | ((with_reducible refine jW (N := 2) rfl ?_); refine bx_ 2 #[.bool false, .slice none 0 0, .slice none 0 0] 44 ?_; intro gb615 hg w12 hbox hb; have BK615 := jA.mk (hbox); have GW615 := jA.mk ((by rw [hg]; exact (jB (bb_ HB)) : w.heap.size ≤ gb615)); have GE615 := GW615; replace HB := bs_ HB hb; clear hb hbox hg) | ((with_reducible refine jD (f := 21) rfl ?_); refine gl_ (some 13) Try.func21 #[.int .u64 (IntKind.u64.wrap (a0))] ?_; (with_reducible refine (vY.calls k (IntKind.u64.wrap (a0)) t622 _ A11.out).mono ?_); rintro e w13 ⟨v623, rfl, ho0, hb⟩; refine ⟨_, rfl, ?_⟩; have HO624 := jA.mk (Kd.jL ho0 (jB (bb1_ HB GE615))); replace BK615 := bk_ BK615 hb; replace HB := jA.mk (jJ (bb1_ HB GE615) hb)) | ((with_reducible refine jW (N := 14) rfl ?_); refine Kd.qy (Kd.int .u64) _ 22 ?hg (N := 14) ?hd (xs := ([1] : List Int)) (inner := [.int .u64 1]) (ok := fun _ => True) (okp := fun _ => True) ?hr ?hp (fun _ hk => hk) trivial (Below.refl _ _) (Nat.le_refl _) (by simp) ?_; (case hd => rfl); (case hg => rfl); (case hr => exact gs_); (case hp => exact (Reps.one (show Kd.M (Kd.int .u64) _ _ _ 1 [.int .u64 1] from rfl) (Reps.none _ _))); intro v626 w14 ho15 hb hg_ hnew_; clear hg_ hnew_; (first | rw [← Ny625.out] at ho15 | (simp only [Int.reduceToNat] at ho15; rw [← Ny625.out] at ho15)); have HO627 := jA.mk (Kd.jL (Kd.jG ho15 (Kd.R_lt (rR_ HO624))) (jB (bb1_ HB GE615))); replace HO624 := re_ HO624 ho15 hb; replace BK615 := bk_ BK615 hb; replace HB := jA.mk (jJ (bb1_ HB GE615) hb); clear hb ho15; obtain ⟨Ao16, co16, rfl⟩ := Kd.jP HO627.out; obtain ⟨Ao17, co17, rfl⟩ := Kd.jP HO624.out; obtain ⟨hcz18_0, hcz18_1, hcz18_2, hfz18_0, hfz18_1, hfz18_2⟩ := bf3_ BK615))
  refine bodyPost_ret (results_cell_row rfl _ _ gb615 44 #[.bool false, .slice Ao17 t622.length co17, .slice Ao16 y625.length co16] (0, 0) _ rfl (by refine pk_ ?_; refine jc (cs := #[.bool false, .slice Ao17 t622.length co17, .slice none 0 0]) ?_ 2 _ rs_; refine pk_ ?_; refine jc (cs := #[.bool false, .slice none 0 0, .slice none 0 0]) ?_ 1 _ rs_; refine pk_ ?_; refine jc (cs := #[.bool false, .slice none 0 0, .slice none 0 0]) ?_ 0 _ rs_; refine pk_ ?_; exact BK615.out) Try.underlying44 rfl kr_) rfl ?_
  exact ⟨.slice Ao17 t622.length co17, .slice Ao16 y625.length co16, by rw [c2b0], by refine pR_ ?_; exact Kd.jO (Kd.vU (p := ⟨gb615, 2, none⟩) (Kd.vU (p := ⟨gb615, 1, none⟩) (Kd.vU (p := ⟨gb615, 0, none⟩) (Kd.jm HO624.out BK615.out (by decide)) (fun _ hk => hk.2) (.bool false)) (fun _ hk => hk.2) (.slice Ao17 t622.length co17)) (fun _ hk => hk.2) (.slice Ao16 y625.length co16)) (fun _ hk => hk.1.2), by refine pR_ ?_; exact Kd.jO (Kd.vU (p := ⟨gb615, 2, none⟩) (Kd.vU (p := ⟨gb615, 1, none⟩) (Kd.vU (p := ⟨gb615, 0, none⟩) (Kd.jm HO627.out BK615.out (by decide)) (fun _ hk => hk.2) (.bool false)) (fun _ hk => hk.2) (.slice Ao17 t622.length co17)) (fun _ hk => hk.2) (.slice Ao16 y625.length co16)) (fun _ hk => hk.1.2), (bb1_ HB GE615)⟩
end Go.Proofs.Ytijgeonhbmgikaa.PORatioMakes
