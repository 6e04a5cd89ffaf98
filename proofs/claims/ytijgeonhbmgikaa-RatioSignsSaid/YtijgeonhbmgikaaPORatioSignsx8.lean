-- printed (pr.py)
import Derived.Test.YtijgeonhbmgikaaPORatioSignsx0
import Derived.Test.YtijgeonhbmgikaaPORatioSignsx1
import Derived.Test.YtijgeonhbmgikaaPORatioSignsx2
import Derived.Test.YtijgeonhbmgikaaPORatioSignsx3
import Derived.Test.YtijgeonhbmgikaaPORatioSignsx4
import Derived.Test.YtijgeonhbmgikaaPORatioSignsx7
namespace Go.Proofs.Ytijgeonhbmgikaa.PORatioSigns
open Go.RowKit Go.Proofs.YtijgeonhbmgikaaN Go.Proofs.YtijgeonhbmgikaaW.PrintWords Go.Proofs.YtijgeonhbmgikaaW.PrintLast Go.Proofs.YtijgeonhbmgikaaW.PrintMore
attribute [local go_sem] qG qE qg qd zl zk qF qD
set_option maxHeartbeats 8000000
set_option maxRecDepth 100000
set_option linter.unusedVariables false
set_option linter.unusedSimpArgs false

/-! ### jZ: function 72 -/
mutual
def jZ.j0 : Nat → List Int → List Int → Bool → Option (List Int × List Int × Int)
 | 0, _, _, _ => none
 | k + 1, x0, x1, x15 => if x15 = true then (some (([] : List Int), ([] : List Int), 1)) else (if (x1.length : Int) = 0 then (some (([] : List Int), ([] : List Int), 30)) else (if (x1.length : Int) = 1 then (if 0 < (x1.length : Int) then ((vC.f k x0 (rd x1 0)).bind fun bt207 => ((jAM.f bt207.2.1).bind fun t212 => (some (bt207.1, t212, 0)))) else (none)) else ((vG.f k x0 x1).bind fun t215 => (if t215 < 0 then ((jv.f k x0).bind fun t216 => (some (([] : List Int), t216, 0))) else (if 0 ≤ (wrap64 ((x1.length : Int) - 1)) then (if (wrap64 ((x1.length : Int) - 1)) < (x1.length : Int) then ((bits_LeadingZeros64.f (rd x1 (wrap64 ((x1.length : Int) - 1)))).bind fun t220 => ((jF.f k x0 t220).bind fun t221 => ((some (([0, 0] : List Int) : List Int)).bind fun y224 => (if t221.length + y224.length < 17592186044416 then ((some (t221 ++ y224 : List Int)).bind fun y227 => ((jF.f k x1 t220).bind fun t230 => (if 0 ≤ (wrap64 ((y227.length : Int) - (t230.length : Int))) then (if (wrap64 ((y227.length : Int) - (t230.length : Int)) : Int).toNat ≤ 35184372088832 then ((some (List.replicate (wrap64 ((y227.length : Int) - (t230.length : Int)) : Int).toNat 0 : List Int)).bind fun y233 => (jZ.l0 k t220 y227 t230 y233 (wrap64 ((y233.length : Int) - 1)))) else (none)) else (none)))) else (none))))) else (none)) else (none))))))
def jZ.l0 : Nat → Int → List Int → List Int → List Int → Int → Option (List Int × List Int × Int)
 | 0, _, _, _, _, _ => none
 | k + 1, x10, x11, x12, x13, x14 => if x14 ≥ 0 then (if 0 ≤ x14 then (if x14 ≤ (mn (wrap64 ((wrap64 (x14 + (x12.length : Int))) + 1)) (x11.length : Int)) then (if (mn (wrap64 ((wrap64 (x14 + (x12.length : Int))) + 1)) (x11.length : Int)) ≤ (x11.length : Int) then ((jT.f k ((x11.take ((mn (wrap64 ((wrap64 (x14 + (x12.length : Int))) + 1)) (x11.length : Int)) : Int).toNat).drop (x14 : Int).toNat) x12).bind fun t240 => (if x14 < (x13.length : Int) then (jZ.l0 k x10 (Go.splice x11 (x14 : Int).toNat t240.2) x12 (x13.set (x14 : Int).toNat t240.1) (wrap64 (x14 - 1))) else (none))) else (none)) else (none)) else (none)) else ((jv.f k x13).bind fun t242 => ((jF.f k x11 (wrap64 (-x10))).bind fun t245 => (some (t242, t245, 0))))
end
def jZ.f (k : Nat) (l0 : List Int) (l1 : List Int) : Option (List Int × List Int × Int) := (zP.f l0).bind fun t204 => (if t204 = true then ((zP.f l1).bind fun t205 => (jZ.j0 k l0 l1 (!t205))) else (jZ.j0 k l0 l1 true))
theorem jZ.zF : ∀ k, (∀ y0 y1 y2, LeO (jZ.j0 k y0 y1 y2) (jZ.j0 (k + 1) y0 y1 y2)) ∧ (∀ y0 y1 y2 y3 y4, LeO (jZ.l0 k y0 y1 y2 y3 y4) (jZ.l0 (k + 1) y0 y1 y2 y3 y4))
 | 0 => ⟨fun _ _ _ r h => by simp [jZ.j0] at h, fun _ _ _ _ _ r h => by simp [jZ.l0] at h⟩
 | k + 1 => by
  obtain ⟨ih0, ih1⟩ := jZ.zF k
  refine ⟨?_, ?_⟩ <;> (intros; first | unfold jZ.j0 | unfold jZ.l0) <;> repeat' first
   | (with_reducible exact ih0 _ _ _)
   | (with_reducible exact ih1 _ _ _ _ _)
   | (with_reducible exact vG.mono _ _ _)
   | (with_reducible exact jF.mono _ _ _)
   | (with_reducible exact jv.mono _ _)
   | (with_reducible exact vC.mono _ _ _)
   | (with_reducible exact jT.mono _ _ _)
   | (with_reducible exact LeO.refl _)
   | (with_reducible exact LeO.none _)
   | (with_reducible refine LeO.ite ?_ ?_)
   | (with_reducible refine LeO.bind ?_ (fun _ => ?_))
theorem jZ.mono : ∀ a0 a1 k, LeO (jZ.f k a0 a1) (jZ.f (k + 1) a0 a1) := by
 intro a0 a1 k
 obtain ⟨ih0, ih1⟩ := jZ.zF k
 unfold jZ.f
 repeat' first
   | (with_reducible exact ih0 _ _ _)
   | (with_reducible exact ih1 _ _ _ _ _)
   | (with_reducible exact vG.mono _ _ _)
   | (with_reducible exact jF.mono _ _ _)
   | (with_reducible exact jv.mono _ _)
   | (with_reducible exact vC.mono _ _ _)
   | (with_reducible exact jT.mono _ _ _)
   | (with_reducible exact LeO.refl _)
   | (with_reducible exact LeO.none _)
   | (with_reducible refine LeO.ite ?_ ?_)
   | (with_reducible refine LeO.bind ?_ (fun _ => ?_))
theorem jZ.calls (k : Nat) (A0 : Option Addr) (c0 : Nat) (l0 : List Int) (A1 : Option Addr) (c1 : Nat) (l1 : List Int) (r1 : List Int) (r2 : List Int) (r3 : Int) (w : World) (hr0 : Kd.C (Kd.int .u64) w A0 l0.length l0) (hc0 : l0.length ≤ c0) (hr1 : Kd.C (Kd.int .u64) w A1 l1.length l1) (hc1 : l1.length ≤ c1) (h : jZ.f k l0 l1 = some (r1, r2, r3)) :
  Calls Try.prog 72 #[.slice A0 l0.length c0, .slice A1 l1.length c1] w fun e w' => ∃ v0_ v1_ : Value, e = .returned (.tuple #[v0_, v1_, .int .i64 r3]) ∧ Kd.R (Kd.int .u64) 22 w' w.heap.size (fun k_ => some k_ ≠ (v1_ : Value).ownBlock) v0_ r1 ∧ Kd.R (Kd.int .u64) 22 w' w.heap.size (fun k_ => some k_ ≠ (v0_ : Value).ownBlock) v1_ r2 ∧ Below w.heap.size w w' := by
 have HR0 := jA.mk hr0
 have HC0 := jA.mk hc0
 clear hr0 hc0
 have HR1 := jA.mk hr1
 have HC1 := jA.mk hc1
 clear hr1 hc1
 have HB := jA.mk (Below.refl w.heap.size w)
 have H : ((zP.f l0).bind fun t204 => (if t204 = true then ((zP.f l1).bind fun t205 => (jZ.j0 k l0 l1 (!t205))) else (jZ.j0 k l0 l1 true))) = some (r1, r2, r3) := h
 clear h
 have HC3 := jA.mk H
 clear H
 go_enter Try.func72, Try.ntmps72
 go_upto_region 1 with (fail)
 go_cut [15] (fun v15 wc => ∃ (kq : Nat) (x15_2 : Bool), v15 = .bool x15_2 ∧ jA (jZ.j0 kq l0 l1 x15_2 = some (r1, r2, r3)) ∧ jA (kq ≤ k) ∧ jA (Below w.heap.size w wc))
 case first =>
  have H := HC3.out
  clear HC3
  replace H := Option.bind_eq_some_iff.mp H
  obtain ⟨t204, A40, H⟩ := H
  replace H : (if t204 = true then ((zP.f l1).bind fun t205 => (jZ.j0 k l0 l1 (!t205))) else (jZ.j0 k l0 l1 true)) = some (r1, r2, r3) := H
  have A4 := jA.mk A40
  clear A40
  by_cases c5 : t204 = true
  ·
   subst c5
   have H1 : ((zP.f l1).bind fun t205 => (jZ.j0 k l0 l1 (!t205))) = some (r1, r2, r3) := by rw [if_pos rfl] at H; exact H
   clear H
   have H := H1
   clear H1
   replace H := Option.bind_eq_some_iff.mp H
   obtain ⟨t205, A60, H⟩ := H
   replace H : (jZ.j0 k l0 l1 (!t205)) = some (r1, r2, r3) := H
   have A6 := jA.mk A60
   clear A60
   have H' := jA.mk H
   clear H
   go_wp2_with (first | ((with_reducible refine jH (f := 64) rfl ?_); refine jq (some 17) rfl rfl Try.func64 kr_ rfl #[.slice A0 l0.length c0] rfl mt_ ?_; (with_reducible refine (zP.calls _ _ l0 true _ ?side1 ?side2 A4.out).mono ?_); (case side1 => exact cc_ (Kd.jR HR0.out HB.out)); (case side2 => exact HC0.out); rintro e w' ⟨rfl, ⟨nd, rfl⟩⟩; refine ⟨_, rfl, ?_⟩) | ((with_reducible refine jd (N := 21) rfl ?_); refine vD (by first | rfl | kernel_rfl) ?_; dsimp only; (with_reducible refine jH (f := 64) rfl ?_); refine jq (some 21) rfl rfl Try.func64 kr_ rfl #[.slice A1 l1.length c1] rfl mt_ ?_; (with_reducible refine (zP.calls _ _ l1 t205 _ ?side1 ?side2 A6.out).mono ?_); (case side1 => repeat (first | exact (Kd.jR HR1.out (bb_ HB)) | (with_reducible refine Kd.zm ?_ _) | (with_reducible refine Kd.qI ?_ _) | (with_reducible refine Kd.qw ?_))); (case side2 => exact HC1.out); rintro e w' ⟨rfl, ⟨nd, rfl⟩⟩; refine ⟨_, rfl, ?_⟩))
   go_meet
   case rel => exact ⟨_, (!t205), sd_, H', ⟨by first | omega | exact Nat.le_refl _⟩, ⟨(bb_ HB)⟩⟩
  ·
   replace c5 := Bool.eq_false_iff.mpr c5
   subst c5
   have H1 : (jZ.j0 k l0 l1 true) = some (r1, r2, r3) := by rw [if_neg (show ¬ (false = true) by decide)] at H; exact H
   clear H
   have H := H1
   clear H1
   have H' := jA.mk H
   clear H
   go_wp2_with (first | ((with_reducible refine jH (f := 64) rfl ?_); refine jq (some 17) rfl rfl Try.func64 kr_ rfl #[.slice A0 l0.length c0] rfl mt_ ?_; (with_reducible refine (zP.calls _ _ l0 false _ ?side1 ?side2 A4.out).mono ?_); (case side1 => exact cc_ (Kd.jR HR0.out HB.out)); (case side2 => exact HC0.out); rintro e w' ⟨rfl, ⟨nd, rfl⟩⟩; refine ⟨_, rfl, ?_⟩))
   go_meet
   case rel => exact ⟨_, (true), sd_, H', ⟨by first | omega | exact Nat.le_refl _⟩, ⟨(bb_ HB)⟩⟩
 case rest =>
  clear HC3
  try clear c1
  try clear p2
  try clear c5
  try clear c6
  obtain ⟨kq, x15_2, rfl, HA, HJ2, HB⟩ := hcut
  cases kq with
  | zero => exact absurd HA.out (by simp [jZ.j0])
  | succ kj2 =>
   have H := HA.out
   clear HA
   simp only [jZ.j0] at H
   by_cases c7 : x15_2 = true
   ·
    subst c7
    have H1 : (some (([] : List Int), ([] : List Int), 1)) = some (r1, r2, r3) := by rw [if_pos rfl] at H; exact H
    clear H
    have H := H1
    clear H1
    simp only [Option.some.injEq, Prod.mk.injEq] at H
    obtain ⟨rfl, rfl, rfl⟩ := H
    go_wp2
    go_ret3
    exact ⟨_, _, ew_, nl_, nl_, (bb_ HB)⟩
   ·
    replace c7 := Bool.eq_false_iff.mpr c7
    subst c7
    have H1 : (if (l1.length : Int) = 0 then (some (([] : List Int), ([] : List Int), 30)) else (if (l1.length : Int) = 1 then (if 0 < (l1.length : Int) then ((vC.f kj2 l0 (rd l1 0)).bind fun bt207 => ((jAM.f bt207.2.1).bind fun t212 => (some (bt207.1, t212, 0)))) else (none)) else ((vG.f kj2 l0 l1).bind fun t215 => (if t215 < 0 then ((jv.f kj2 l0).bind fun t216 => (some (([] : List Int), t216, 0))) else (if 0 ≤ (wrap64 ((l1.length : Int) - 1)) then (if (wrap64 ((l1.length : Int) - 1)) < (l1.length : Int) then ((bits_LeadingZeros64.f (rd l1 (wrap64 ((l1.length : Int) - 1)))).bind fun t220 => ((jF.f kj2 l0 t220).bind fun t221 => ((some (([0, 0] : List Int) : List Int)).bind fun y224 => (if t221.length + y224.length < 17592186044416 then ((some (t221 ++ y224 : List Int)).bind fun y227 => ((jF.f kj2 l1 t220).bind fun t230 => (if 0 ≤ (wrap64 ((y227.length : Int) - (t230.length : Int))) then (if (wrap64 ((y227.length : Int) - (t230.length : Int)) : Int).toNat ≤ 35184372088832 then ((some (List.replicate (wrap64 ((y227.length : Int) - (t230.length : Int)) : Int).toNat 0 : List Int)).bind fun y233 => (jZ.l0 kj2 t220 y227 t230 y233 (wrap64 ((y233.length : Int) - 1)))) else (none)) else (none)))) else (none))))) else (none)) else (none)))))) = some (r1, r2, r3) := by rw [if_neg (show ¬ (false = true) by decide)] at H; exact H
    clear H
    have H := H1
    clear H1
    by_cases c8 : (l1.length : Int) = 0
    ·
     rw [if_pos c8] at H
     have c8b0 : ((l1.length : Int) == 0) = true := beq_iff_eq.mpr c8
     have c8b1 : ((l1.length : Int) != 0) = false := bne_eq_false_iff_eq.mpr c8
     clear c8
     simp only [Option.some.injEq, Prod.mk.injEq] at H
     obtain ⟨rfl, rfl, rfl⟩ := H
     go_wp2
     go_ret3
     exact ⟨_, _, ew_, nl_, nl_, (bb_ HB)⟩
    ·
     rw [if_neg c8] at H
     have c8b0 : ((l1.length : Int) == 0) = false := beq_eq_false_iff_ne.mpr c8
     have c8b1 : ((l1.length : Int) != 0) = true := bne_iff_ne.mpr c8
     have c8b2 : ¬ (l1 = []) := fun h_ => c8 (by rw [h_]; rfl)
     by_cases c9 : (l1.length : Int) = 1
     ·
      rw [if_pos c9] at H
      have c9b0 : ((l1.length : Int) == 1) = true := beq_iff_eq.mpr c9
      have c9b1 : ((l1.length : Int) != 1) = false := bne_eq_false_iff_eq.mpr c9
      clear c9
      by_cases c10 : 0 < (l1.length : Int)
      ·
       rw [if_pos c10] at H
       have c10b0 : decide (0 < (l1.length : Int)) = true := decide_eq_true c10
       have c10b1 : decide (0 < l1.length) = true := decide_eq_true (by omega)
       clear c10
       replace H := Option.bind_eq_some_iff.mp H
       obtain ⟨⟨t207, t208, t209⟩, A110, H⟩ := H
       replace H : ((jAM.f t208).bind fun t212 => (some (t207, t212, 0))) = some (r1, r2, r3) := H
       have A11 := jA.mk A110
       clear A110
       replace H := Option.bind_eq_some_iff.mp H
       obtain ⟨t212, A120, H⟩ := H
       replace H : (some (t207, t212, 0)) = some (r1, r2, r3) := H
       have A12 := jA.mk A120
       clear A120
       simp only [Option.some.injEq, Prod.mk.injEq] at H
       obtain ⟨rfl, rfl, rfl⟩ := H
       have p206 : 0 ≤ (0 : Int) := (by omega)
       have q206 : 0 < (l1.length : Int) := of_decide_eq_true am_
       obtain ⟨ad206, e206, hx206_0⟩ := Kd.zG HR1.out 0 p206 q206
       cases e206
       have qi206 : (0 < l1.length) = True := eq_true (by omega)
       (try rw [show ((0 : Int)).toNat = 0 from rfl] at hx206_0)
       (try rw [Addr.add_zero'] at hx206_0)
       replace hx206_0 := (HB.out.cell (World.block_lt_of_cell? w _ hx206_0)).trans hx206_0
       replace p206 := eq_true p206
       replace q206 := eq_true q206
       go_wp2_with (first | ((with_reducible refine jH (f := 97) rfl ?_); refine jq (some 37) rfl rfl Try.func97 kr_ rfl #[.slice A0 l0.length c0, .int .u64 (rd l1 0)] rfl mt_ ?_; (with_reducible refine (vC.calls kj2 _ _ l0 (rd l1 0) t207 t208 t209 _ ?side1 ?side2 A11.out).mono ?_); (case side1 => exact cc_ (Kd.jR HR0.out HB.out)); (case side2 => exact HC0.out); rintro e w13 ⟨v210, rfl, ho0, hb⟩; refine ⟨_, rfl, ?_⟩; have n0_ := jA.mk (Kd.jV ho0 (jC (bb_ HB))); have n1_ := jA.mk (jE (bb_ HB) hb); clear HB; have HO211 := n0_; have HB := n1_; clear n0_ n1_) | ((with_reducible refine jH (f := 81) rfl ?_); refine jq (some 43) rfl rfl Try.func81 kr_ rfl #[.int .u64 t208] rfl mt_ ?_; (with_reducible refine (jAM.calls t208 t212 _ A12.out).mono ?_); rintro e w14 ⟨v213, rfl, ho0, hb⟩; refine ⟨_, rfl, ?_⟩; have n0_ := jA.mk (Kd.jr (rR_ HO211) (Kd.jS ho0) hb); have n1_ := jA.mk (Kd.jV (Kd.jY ho0 (Kd.R_lt (rR_ HO211))) (jC (bb_ HB))); have n2_ := jA.mk (jE (bb_ HB) hb); clear HO211 HB; have HO211 := n0_; have HO214 := n1_; have HB := n2_; clear n0_ n1_ n2_))
       go_ret3
       exact ⟨_, _, ew_, by refine pR_ ?_; exact Kd.jM HO211.out (fun _ hk => hk.2), by refine pR_ ?_; exact Kd.jM HO214.out (fun _ hk => hk.2), (bb_ HB)⟩
      ·
       rw [if_neg c10] at H
       exact absurd H (by simp)
     ·
      rw [if_neg c9] at H
      have c9b0 : ((l1.length : Int) == 1) = false := beq_eq_false_iff_ne.mpr c9
      have c9b1 : ((l1.length : Int) != 1) = true := bne_iff_ne.mpr c9
      replace H := Option.bind_eq_some_iff.mp H
      obtain ⟨t215, A150, H⟩ := H
      replace H : (if t215 < 0 then ((jv.f kj2 l0).bind fun t216 => (some (([] : List Int), t216, 0))) else (if 0 ≤ (wrap64 ((l1.length : Int) - 1)) then (if (wrap64 ((l1.length : Int) - 1)) < (l1.length : Int) then ((bits_LeadingZeros64.f (rd l1 (wrap64 ((l1.length : Int) - 1)))).bind fun t220 => ((jF.f kj2 l0 t220).bind fun t221 => ((some (([0, 0] : List Int) : List Int)).bind fun y224 => (if t221.length + y224.length < 17592186044416 then ((some (t221 ++ y224 : List Int)).bind fun y227 => ((jF.f kj2 l1 t220).bind fun t230 => (if 0 ≤ (wrap64 ((y227.length : Int) - (t230.length : Int))) then (if (wrap64 ((y227.length : Int) - (t230.length : Int)) : Int).toNat ≤ 35184372088832 then ((some (List.replicate (wrap64 ((y227.length : Int) - (t230.length : Int)) : Int).toNat 0 : List Int)).bind fun y233 => (jZ.l0 kj2 t220 y227 t230 y233 (wrap64 ((y233.length : Int) - 1)))) else (none)) else (none)))) else (none))))) else (none)) else (none))) = some (r1, r2, r3) := H
      have A15 := jA.mk A150
      clear A150
      by_cases c16 : t215 < 0
      ·
       rw [if_pos c16] at H
       have c16b0 : decide (t215 < 0) = true := decide_eq_true c16
       clear c16
       replace H := Option.bind_eq_some_iff.mp H
       obtain ⟨t216, A170, H⟩ := H
       replace H : (some (([] : List Int), t216, 0)) = some (r1, r2, r3) := H
       have A17 := jA.mk A170
       clear A170
       simp only [Option.some.injEq, Prod.mk.injEq] at H
       obtain ⟨rfl, rfl, rfl⟩ := H
       go_wp2_with (first | ((with_reducible refine jH (f := 98) rfl ?_); refine jq (some 47) rfl rfl Try.func98 kr_ rfl #[.slice A0 l0.length c0, .slice A1 l1.length c1] rfl mt_ ?_; (with_reducible refine (vG.calls kj2 _ _ l0 _ _ l1 t215 _ ?side1 ?side2 ?side3 ?side4 A15.out).mono ?_); (case side1 => exact cc_ (Kd.jR HR0.out HB.out)); (case side2 => exact HC0.out); (case side3 => exact cc_ (Kd.jR HR1.out HB.out)); (case side4 => exact HC1.out); rintro e w18 ⟨rfl, hb⟩; refine ⟨_, rfl, ?_⟩; have n0_ := jA.mk (jE (bb_ HB) hb); clear HB; have HB := n0_; clear n0_) | ((with_reducible refine jH (f := 96) rfl ?_); refine jq (some 50) rfl rfl Try.func96 kr_ rfl #[.slice A0 l0.length c0] rfl mt_ ?_; (with_reducible refine (jv.calls kj2 _ _ l0 t216 _ ?side1 ?side2 A17.out).mono ?_); (case side1 => exact cc_ (Kd.jR HR0.out HB.out)); (case side2 => exact HC0.out); rintro e w19 ⟨v217, rfl, ho0, hb⟩; refine ⟨_, rfl, ?_⟩; have n0_ := jA.mk (Kd.jV ho0 (jC (bb_ HB))); have n1_ := jA.mk (jE (bb_ HB) hb); clear HB; have HO218 := n0_; have HB := n1_; clear n0_ n1_))
       go_ret3
       exact ⟨_, _, ew_, nl_, by refine pR_ ?_; exact Kd.jM HO218.out (fun _ hk => (by simp [Value.ownBlock])), (bb_ HB)⟩
      ·
       rw [if_neg c16] at H
       have c16b0 : decide (t215 < 0) = false := decide_eq_false c16
       clear c16
       obtain ⟨ji20, hji20⟩ : ∃ j_ : Int, (wrap64 ((l1.length : Int) - 1)) = j_ := ⟨_, rfl⟩
       replace H : (if 0 ≤ (ji20) then (if (ji20) < (l1.length : Int) then ((bits_LeadingZeros64.f (rd l1 (ji20))).bind fun t220 => ((jF.f kj2 l0 t220).bind fun t221 => ((some (([0, 0] : List Int) : List Int)).bind fun y224 => (if t221.length + y224.length < 17592186044416 then ((some (t221 ++ y224 : List Int)).bind fun y227 => ((jF.f kj2 l1 t220).bind fun t230 => (if 0 ≤ (wrap64 ((y227.length : Int) - (t230.length : Int))) then (if (wrap64 ((y227.length : Int) - (t230.length : Int)) : Int).toNat ≤ 35184372088832 then ((some (List.replicate (wrap64 ((y227.length : Int) - (t230.length : Int)) : Int).toNat 0 : List Int)).bind fun y233 => (jZ.l0 kj2 t220 y227 t230 y233 (wrap64 ((y233.length : Int) - 1)))) else (none)) else (none)))) else (none))))) else (none)) else (none)) = some (r1, r2, r3) := by first | (rw [hji20] at H; exact H) | (simp only [hji20] at H ⊢; exact H)
       (try rw [hji20] at A15)
       have hji20w : (IntKind.i64.wrap ((l1.length : Int) - 1)) = ji20 := (jc _).trans hji20
       by_cases c21 : 0 ≤ (ji20)
       ·
        rw [if_pos c21] at H
        have c21b0 : decide (0 ≤ (ji20)) = true := decide_eq_true c21
        clear c21
        by_cases c22 : (ji20) < (l1.length : Int)
        ·
         rw [if_pos c22] at H
         have c22b0 : decide ((ji20) < (l1.length : Int)) = true := decide_eq_true c22
         clear c22
         replace H := Option.bind_eq_some_iff.mp H
         obtain ⟨t220, A230, H⟩ := H
         replace H : ((jF.f kj2 l0 t220).bind fun t221 => ((some (([0, 0] : List Int) : List Int)).bind fun y224 => (if t221.length + y224.length < 17592186044416 then ((some (t221 ++ y224 : List Int)).bind fun y227 => ((jF.f kj2 l1 t220).bind fun t230 => (if 0 ≤ (wrap64 ((y227.length : Int) - (t230.length : Int))) then (if (wrap64 ((y227.length : Int) - (t230.length : Int)) : Int).toNat ≤ 35184372088832 then ((some (List.replicate (wrap64 ((y227.length : Int) - (t230.length : Int)) : Int).toNat 0 : List Int)).bind fun y233 => (jZ.l0 kj2 t220 y227 t230 y233 (wrap64 ((y233.length : Int) - 1)))) else (none)) else (none)))) else (none)))) = some (r1, r2, r3) := H
         have A23 := jA.mk A230
         clear A230
         replace H := Option.bind_eq_some_iff.mp H
         obtain ⟨t221, A240, H⟩ := H
         replace H : ((some (([0, 0] : List Int) : List Int)).bind fun y224 => (if t221.length + y224.length < 17592186044416 then ((some (t221 ++ y224 : List Int)).bind fun y227 => ((jF.f kj2 l1 t220).bind fun t230 => (if 0 ≤ (wrap64 ((y227.length : Int) - (t230.length : Int))) then (if (wrap64 ((y227.length : Int) - (t230.length : Int)) : Int).toNat ≤ 35184372088832 then ((some (List.replicate (wrap64 ((y227.length : Int) - (t230.length : Int)) : Int).toNat 0 : List Int)).bind fun y233 => (jZ.l0 kj2 t220 y227 t230 y233 (wrap64 ((y233.length : Int) - 1)))) else (none)) else (none)))) else (none))) = some (r1, r2, r3) := H
         have A24 := jA.mk A240
         clear A240
         obtain ⟨y224, hy224⟩ : ∃ y_ : List Int, y_ = (([0, 0] : List Int)) := ⟨_, rfl⟩
         replace H : (if t221.length + y224.length < 17592186044416 then ((some (t221 ++ y224 : List Int)).bind fun y227 => ((jF.f kj2 l1 t220).bind fun t230 => (if 0 ≤ (wrap64 ((y227.length : Int) - (t230.length : Int))) then (if (wrap64 ((y227.length : Int) - (t230.length : Int)) : Int).toNat ≤ 35184372088832 then ((some (List.replicate (wrap64 ((y227.length : Int) - (t230.length : Int)) : Int).toNat 0 : List Int)).bind fun y233 => (jZ.l0 kj2 t220 y227 t230 y233 (wrap64 ((y233.length : Int) - 1)))) else (none)) else (none)))) else (none)) = some (r1, r2, r3) := by first | (rw [hy224]; with_reducible exact H) | (have H2_ := (Option.bind_some _ _).symm.trans H; rw [hy224]; with_reducible exact H2_) | (with_reducible exact hs_ H) | with_reducible exact H | (rw [hy224]; exact H) | exact H
         have Ny224 := jA.mk hy224
         clear hy224
         by_cases c25 : t221.length + y224.length < 17592186044416
         ·
          rw [if_pos c25] at H
          have LMc25 := jA.mk c25
          clear c25
          obtain ⟨y227, hy227⟩ : ∃ y_ : List Int, y_ = (t221 ++ y224) := ⟨_, rfl⟩
          replace H : ((jF.f kj2 l1 t220).bind fun t230 => (if 0 ≤ (wrap64 ((y227.length : Int) - (t230.length : Int))) then (if (wrap64 ((y227.length : Int) - (t230.length : Int)) : Int).toNat ≤ 35184372088832 then ((some (List.replicate (wrap64 ((y227.length : Int) - (t230.length : Int)) : Int).toNat 0 : List Int)).bind fun y233 => (jZ.l0 kj2 t220 y227 t230 y233 (wrap64 ((y233.length : Int) - 1)))) else (none)) else (none))) = some (r1, r2, r3) := by first | (rw [hy227]; with_reducible exact H) | (have H2_ := (Option.bind_some _ _).symm.trans H; rw [hy227]; with_reducible exact H2_) | (with_reducible exact hs_ H) | with_reducible exact H | (rw [hy227]; exact H) | exact H
          have Ny227 := jA.mk hy227
          clear hy227
          replace H := Option.bind_eq_some_iff.mp H
          obtain ⟨t230, A260, H⟩ := H
          replace H : (if 0 ≤ (wrap64 ((y227.length : Int) - (t230.length : Int))) then (if (wrap64 ((y227.length : Int) - (t230.length : Int)) : Int).toNat ≤ 35184372088832 then ((some (List.replicate (wrap64 ((y227.length : Int) - (t230.length : Int)) : Int).toNat 0 : List Int)).bind fun y233 => (jZ.l0 kj2 t220 y227 t230 y233 (wrap64 ((y233.length : Int) - 1)))) else (none)) else (none)) = some (r1, r2, r3) := H
          have A26 := jA.mk A260
          clear A260
          obtain ⟨ji27, hji27⟩ : ∃ j_ : Int, (wrap64 ((y227.length : Int) - (t230.length : Int))) = j_ := ⟨_, rfl⟩
          replace H : (if 0 ≤ (ji27) then (if (ji27 : Int).toNat ≤ 35184372088832 then ((some (List.replicate (ji27 : Int).toNat 0 : List Int)).bind fun y233 => (jZ.l0 kj2 t220 y227 t230 y233 (wrap64 ((y233.length : Int) - 1)))) else (none)) else (none)) = some (r1, r2, r3) := by first | (rw [hji27] at H; exact H) | (simp only [hji27] at H ⊢; exact H)
          (try rw [hji27] at A15)
          (try rw [hji27] at A23)
          (try rw [hji27] at A24)
          (try rw [hji27] at A26)
          have hji27w : (IntKind.i64.wrap ((y227.length : Int) - (t230.length : Int))) = ji27 := (jc _).trans hji27
          by_cases c28 : 0 ≤ (ji27)
          ·
           rw [if_pos c28] at H
           have c28b0 := eq_true c28
           have c28b1 : decide (0 ≤ (ji27)) = true := decide_eq_true c28
           clear c28
           by_cases c29 : (ji27 : Int).toNat ≤ 35184372088832
           ·
            rw [if_pos c29] at H
            have c29b0 := eq_true c29
            have c29b1 : decide ((ji27 : Int).toNat ≤ 35184372088832) = true := decide_eq_true c29
            clear c29
            obtain ⟨y233, hy233⟩ : ∃ y_ : List Int, y_ = (List.replicate (ji27 : Int).toNat 0) := ⟨_, rfl⟩
            replace H : (jZ.l0 kj2 t220 y227 t230 y233 (wrap64 ((y233.length : Int) - 1))) = some (r1, r2, r3) := by first | (rw [hy233]; with_reducible exact H) | (have H2_ := (Option.bind_some _ _).symm.trans H; rw [hy233]; with_reducible exact H2_) | (with_reducible exact hs_ H) | with_reducible exact H | (rw [hy233]; exact H) | exact H
            have Ny233 := jA.mk hy233
            clear hy233
            have H' := jA.mk H
            clear H
            go_wp2_with (first | ((with_reducible refine jH (f := 98) rfl ?_); refine jq (some 47) rfl rfl Try.func98 kr_ rfl #[.slice A0 l0.length c0, .slice A1 l1.length c1] rfl mt_ ?_; (with_reducible refine (vG.calls kj2 _ _ l0 _ _ l1 t215 _ ?side1 ?side2 ?side3 ?side4 A15.out).mono ?_); (case side1 => exact cc_ (Kd.jR HR0.out HB.out)); (case side2 => exact HC0.out); (case side3 => exact cc_ (Kd.jR HR1.out HB.out)); (case side4 => exact HC1.out); rintro e w30 ⟨rfl, hb⟩; refine ⟨_, rfl, ?_⟩; have n0_ := jA.mk (jE (bb_ HB) hb); clear HB; have HB := n0_; clear n0_; have p219 : 0 ≤ ((ji20) : Int) := of_decide_eq_true am_; have q219 : (ji20) < (l1.length : Int) := of_decide_eq_true am_; obtain ⟨ad219, e219, hx219_0⟩ := Kd.zG HR1.out (ji20) p219 q219; cases e219; replace hx219_0 := (HB.out.cell (World.block_lt_of_cell? w _ hx219_0)).trans hx219_0; replace p219 := eq_true p219; replace q219 := eq_true q219) | ((with_reducible refine jH (f := 99) rfl ?_); refine jq (some 57) rfl rfl Try.func99 kr_ rfl #[.int .u64 (rd l1 (ji20))] rfl (by (try simp only [List.map_toArray, List.map_cons, List.map_nil]); first | done | (simp only [hji20]; rfl) | rfl | (simp only [List.length_drop, List.length_take]; rfl)) ?_; (with_reducible refine (bits_LeadingZeros64.calls (rd l1 (ji20)) t220 _ A23.out).mono ?_); rintro e w31 ⟨rfl, hb⟩; refine ⟨_, rfl, ?_⟩; have n0_ := jA.mk (jE (bb_ HB) hb); clear HB; have HB := n0_; clear n0_) | ((with_reducible refine jH (f := 100) rfl ?_); refine jq (some 60) rfl rfl Try.func100 kr_ rfl #[.slice A0 l0.length c0, .int .i64 t220] rfl mt_ ?_; (with_reducible refine (jF.calls kj2 _ _ l0 t220 t221 _ ?side1 ?side2 A24.out).mono ?_); (case side1 => exact cc_ (Kd.jR HR0.out HB.out)); (case side2 => exact HC0.out); rintro e w32 ⟨v222, rfl, ho0, hb⟩; refine ⟨_, rfl, ?_⟩; have n0_ := jA.mk (Kd.jV ho0 (jC (bb_ HB))); have n1_ := jA.mk (jE (bb_ HB) hb); clear HB; have HO223 := n0_; have HB := n1_; clear n0_ n1_) | ((with_reducible refine jd (N := 61) rfl ?_); refine Kd.jAJ (Kd.int .u64) _ 22 ?hg (N := 61) ?hd (xs := ([0, 0] : List Int)) (inner := [.int .u64 0, .int .u64 0]) (ok := fun _ => True) (okp := fun _ => True) ?hr ?hp (fun _ hk => hk) trivial (Below.refl _ _) (Nat.le_refl _) (by simp) ?_; (case hd => rfl); (case hg => rfl); (case hr => exact gs_); (case hp => exact (Reps.one (show Kd.M (Kd.int .u64) _ _ _ 0 [.int .u64 0] from rfl) (Reps.one (show Kd.M (Kd.int .u64) _ _ _ 0 [.int .u64 0] from rfl) (Reps.none _ _)))); intro v225 w33 ho34 hb hg_ hnew_; clear hg_ hnew_; (first | rw [← Ny224.out] at ho34 | (simp only [Int.reduceToNat] at ho34; rw [← Ny224.out] at ho34)); have n0_ := jA.mk (Kd.jr (rR_ HO223) (Kd.jS ho34) hb); have n1_ := jA.mk (Kd.jV (Kd.jY ho34 (Kd.R_lt (rR_ HO223))) (jC (bb_ HB))); have n2_ := jA.mk (jE (bb_ HB) hb); clear HO223 HB; have HO223 := n0_; have HO226 := n1_; have HB := n2_; clear n0_ n1_ n2_ hb ho34; obtain ⟨Ao36, co36, eo36⟩ := Kd.jf HO226.out; subst eo36) | ((with_reducible refine zW (b := .append) (xs := #[.tmp 60, .tmp 61]) rfl ?_); at_builtin; refine Kd.qp (Kd.int .u64) (w0 := w) w.heap.size rfl (.tmp 60) (.tmp 61) 35 22 (.int .u64 0) 8 rfl Try.underlying35 qR rfl (by decide) (by omega) v222 t221 y224 _ _ _ (fun k_ => some k_ ≠ (.slice Ao36 y224.length co36 : Value).ownBlock) (fun _ => False) rfl rfl ?aO ?aR (fun _ _ h => h) (fun _ h => h.elim) ?aF ?aB ?aS ?aL ?_; (case aR => exact cc_ (Kd.jG HO226.out).2.2); (case aB => exact (bb_ HB)); (case aF => exact (fun k_ hk => Kd.fresh' (Kd.R_lt (rR_ HO226)) k_ hk)); (case aO => exact (by refine pR_ ?_; exact Kd.jM HO223.out (fun _ hk => hk.2))); (case aS => exact (jC (bb_ HB))); (case aL => have := LMc25.out; omega); intro v228 w35 ho hb hg hat; rw [← Ny227.out] at ho; have n0_ := jA.mk (Kd.jEn (ok := (fun _ => True)) (rR_ HO226) hg hat); have n1_ := jA.mk (hb); have n2_ := jA.mk (ho); clear HO226 HB HO223; have HO226 := n0_; have HB := n1_; have HO229 := n2_; clear n0_ n1_ n2_ ho hb hg hat) | ((with_reducible refine jH (f := 100) rfl ?_); refine jq (some 65) rfl rfl Try.func100 kr_ rfl #[.slice (some ad219) l1.length c1, .int .i64 t220] rfl mt_ ?_; (with_reducible refine (jF.calls kj2 _ _ l1 t220 t230 _ ?side1 ?side2 A26.out).mono ?_); (case side1 => exact cc_ (Kd.jR HR1.out HB.out)); (case side2 => exact HC1.out); rintro e w37 ⟨v231, rfl, ho0, hb⟩; refine ⟨_, rfl, ?_⟩; have n0_ := jA.mk (Kd.jr (rR_ HO226) (Kd.jS ho0) hb); have n1_ := jA.mk (Kd.jr (rR_ HO229) (Kd.jS ho0) hb); have n2_ := jA.mk (Kd.jV (Kd.jY (Kd.jY ho0 (Kd.R_lt (rR_ HO226))) (Kd.R_lt (rR_ HO229))) (jC (bb_ HB))); have n3_ := jA.mk (jE (bb_ HB) hb); clear HO226 HO229 HB; have HO226 := n0_; have HO229 := n1_; have HO232 := n2_; have HB := n3_; clear n0_ n1_ n2_ n3_; obtain ⟨Ao38, co38, eo38⟩ := Kd.jf HO229.out; subst eo38; obtain ⟨Ao39, co39, eo39⟩ := Kd.jf HO232.out; subst eo39) | ((with_reducible refine jd (N := 71) rfl ?_); refine Kd.jEl (Kd.int .u64) _ 22 rfl (N := 71) rfl 35 _ _ rfl ji27 rfl rfl Try.underlying35 (.int .u64 0) 8 qR rfl (by decide) (by omega) 0 (ok := fun _ => True) (okp := fun _ => True) rfl (fun _ hk => hk) trivial (of_decide_eq_true am_) (Nat.le_trans (Nat.mul_le_mul_right _ (of_decide_eq_true am_ : ji27.toNat ≤ 35184372088832)) (by omega)) (Below.refl _ _) (Nat.le_refl _) ?_; intro v234 w40 ho41 hb hg_ hnew_; clear hg_ hnew_; (first | rw [← Ny233.out] at ho41 | (simp only [Int.reduceToNat] at ho41; rw [← Ny233.out] at ho41)); have n0_ := jA.mk (Kd.jr (rR_ HO226) (Kd.jS ho41) hb); have n1_ := jA.mk (Kd.jr (rR_ HO229) (Kd.jS ho41) hb); have n2_ := jA.mk (Kd.jr (rR_ HO232) (Kd.jS ho41) hb); have n3_ := jA.mk (Kd.jV (Kd.jY (Kd.jY (Kd.jY ho41 (Kd.R_lt (rR_ HO226))) (Kd.R_lt (rR_ HO229))) (Kd.R_lt (rR_ HO232))) (jC (bb_ HB))); have n4_ := jA.mk (jE (bb_ HB) hb); clear HO226 HO229 HO232 HB; have HO226 := n0_; have HO229 := n1_; have HO232 := n2_; have HO235 := n3_; have HB := n4_; clear n0_ n1_ n2_ n3_ n4_ hb ho41; obtain ⟨Ao42, co42, eo42⟩ := Kd.jf HO235.out; subst eo42))
            go_loopg [14] kj2 (fun kq v14 w' => ∃ (x11_2 x13_2 : List Int) (x14_2 : Int), v14 = .int .i64 x14_2 ∧ jA (jZ.l0 kq t220 x11_2 t230 x13_2 x14_2 = some (r1, r2, r3)) ∧ jA (kq ≤ kj2) ∧ jA (Kd.R (Kd.int .u64) 22 w' w.heap.size (fun k_ => some k_ ≠ ((.slice Ao39 t230.length co39) : Value).ownBlock ∧ some k_ ≠ ((.slice Ao42 y233.length co42) : Value).ownBlock) (.slice Ao38 y227.length co38) x11_2) ∧ jA (Kd.R (Kd.int .u64) 22 w' w.heap.size (fun k_ => some k_ ≠ ((.slice Ao38 y227.length co38) : Value).ownBlock ∧ some k_ ≠ ((.slice Ao42 y233.length co42) : Value).ownBlock) (.slice Ao39 t230.length co39) t230) ∧ jA (Kd.R (Kd.int .u64) 22 w' w.heap.size (fun k_ => some k_ ≠ ((.slice Ao38 y227.length co38) : Value).ownBlock ∧ some k_ ≠ ((.slice Ao39 t230.length co39) : Value).ownBlock) (.slice Ao42 y233.length co42) x13_2) ∧ jA (Below w.heap.size w w'))
            case atStart => exact ⟨(y227), (y233), (wrap64 ((y233.length : Int) - 1)), sd_, H', ⟨Nat.le_refl _⟩, ⟨by (with_reducible repeat (first | apply Kd.zQ | apply Kd.zh | apply Kd.zY)); exact Kd.jM HO229.out (fun _ hk => ⟨hk.1.2, hk.2⟩)⟩, ⟨by (with_reducible repeat (first | apply Kd.zQ | apply Kd.zh | apply Kd.zY)); exact Kd.jM HO232.out (fun _ hk => ⟨hk.1.2, hk.2⟩)⟩, ⟨by (with_reducible repeat (first | apply Kd.zQ | apply Kd.zh | apply Kd.zY)); exact Kd.jM HO235.out (fun _ hk => ⟨hk.1.2, hk.2⟩)⟩, ⟨(bb_ HB)⟩⟩
            case round =>
             clear H'
             try clear c1
             try clear c2
             try clear p2
             try clear q2
             try clear hx2
             try clear qi2
             try clear c5
             try clear c6
             try clear p6
             try clear c7
             try clear c8
             try clear c8b0
             try clear c8b1
             try clear c8b2
             try clear c9
             try clear c9b0
             try clear c9b1
             try clear c10
             try clear c10b0
             try clear c10b1
             try clear c16
             try clear c16b0
             try clear p20
             try clear q20
             try clear hx20
             try clear qi20
             try clear c21
             try clear c21b0
             try clear p21
             try clear q21
             try clear hx21
             try clear c22
             try clear c22b0
             try clear c25
             try clear c28
             try clear c28b0
             try clear c28b1
             try clear c29
             try clear c29b0
             try clear c29b1
             try clear hx206_0
             try clear hx219_0
             try clear p2
             try clear p206
             try clear p219
             try clear q206
             try clear q219
             obtain ⟨x11_2, x13_2, x14_2, rfl, HA, HK2, HO_11, HO_12, HO_13, HB⟩ := hrel
             have hl11_2 := (Kd.jG HO_11.out).1
             rw [hl11_2] at HO_11
             (try simp only [hl11_2])
             (try simp only [hl11_2] at HO_12)
             (try simp only [hl11_2] at HO_13)
             have hl13_2 := (Kd.jG HO_13.out).1
             rw [hl13_2] at HO_13
             (try simp only [hl13_2])
             (try simp only [hl13_2] at HO_11)
             (try simp only [hl13_2] at HO_12)
             cases gk with
             | zero => exact absurd HA.out (by simp [jZ.l0])
             | succ k2 =>
              have H := HA.out
              clear HA
              simp only [jZ.l0] at H
              by_cases c43 : x14_2 ≥ 0
              ·
               rw [if_pos c43] at H
               have c43b0 : decide (0 ≤ x14_2) = true := decide_eq_true c43
               clear c43
               obtain ⟨ji44, hji44⟩ : ∃ j_ : Int, (mn (wrap64 ((wrap64 (x14_2 + (t230.length : Int))) + 1)) (x11_2.length : Int)) = j_ := ⟨_, rfl⟩
               replace H : (if 0 ≤ x14_2 then (if x14_2 ≤ (ji44) then (if (ji44) ≤ (x11_2.length : Int) then ((jT.f k2 ((x11_2.take ((ji44) : Int).toNat).drop (x14_2 : Int).toNat) t230).bind fun t240 => (if x14_2 < (x13_2.length : Int) then (jZ.l0 k2 t220 (Go.splice x11_2 (x14_2 : Int).toNat t240.2) t230 (x13_2.set (x14_2 : Int).toNat t240.1) (wrap64 (x14_2 - 1))) else (none))) else (none)) else (none)) else (none)) = some (r1, r2, r3) := by first | (rw [hji44] at H; exact H) | (simp only [hji44] at H ⊢; exact H)
               have hji44_ : (if (x11_2.length : Int) < (wrap64 ((wrap64 (x14_2 + (t230.length : Int))) + 1)) then (x11_2.length : Int) else (wrap64 ((wrap64 (x14_2 + (t230.length : Int))) + 1))) = ji44 := hji44
               by_cases c45 : 0 ≤ x14_2
               ·
                rw [if_pos c45] at H
                have c45b0 := eq_true c45
                have c45b1 : decide (0 ≤ x14_2) = true := decide_eq_true c45
                clear c45
                by_cases c46 : x14_2 ≤ (ji44)
                ·
                 rw [if_pos c46] at H
                 have c46b0 := eq_true c46
                 have c46b1 : decide (x14_2 ≤ (ji44)) = true := decide_eq_true c46
                 clear c46
                 by_cases c47 : (ji44) ≤ (x11_2.length : Int)
                 ·
                  rw [if_pos c47] at H
                  have c47b0 := eq_true c47
                  have c47b1 : decide ((ji44) ≤ (x11_2.length : Int)) = true := decide_eq_true c47
                  clear c47
                  obtain ⟨y236, hy236⟩ : ∃ y_ : List Int, y_ = ((x11_2.take ((ji44) : Int).toNat).drop (x14_2 : Int).toNat) := ⟨_, rfl⟩
                  replace H : ((jT.f k2 y236 t230).bind fun t240 => (if x14_2 < (x13_2.length : Int) then (jZ.l0 k2 t220 (Go.splice x11_2 (x14_2 : Int).toNat t240.2) t230 (x13_2.set (x14_2 : Int).toNat t240.1) (wrap64 (x14_2 - 1))) else (none))) = some (r1, r2, r3) := by first | (rw [hy236]; with_reducible exact H) | (have H2_ := (Option.bind_some _ _).symm.trans H; rw [hy236]; with_reducible exact H2_) | (with_reducible exact hs_ H) | with_reducible exact H | (rw [hy236]; exact H) | exact H
                  have Ny236 := jA.mk hy236
                  clear hy236
                  replace H := Option.bind_eq_some_iff.mp H
                  obtain ⟨t240, A480, H⟩ := H
                  replace H : (if x14_2 < (x13_2.length : Int) then (jZ.l0 k2 t220 (Go.splice x11_2 (x14_2 : Int).toNat t240.2) t230 (x13_2.set (x14_2 : Int).toNat t240.1) (wrap64 (x14_2 - 1))) else (none)) = some (r1, r2, r3) := H
                  have A48 := jA.mk A480
                  clear A480
                  by_cases c49 : x14_2 < (x13_2.length : Int)
                  ·
                   rw [if_pos c49] at H
                   have c49b0 : decide (x14_2 < (x13_2.length : Int)) = true := decide_eq_true c49
                   (try simp only [hl13_2] at c49b0)
                   clear c49
                   obtain ⟨y241, hy241⟩ : ∃ y_ : List Int, y_ = (x13_2.set (x14_2 : Int).toNat t240.1) := ⟨_, rfl⟩
                   replace H : (jZ.l0 k2 t220 (Go.splice x11_2 (x14_2 : Int).toNat t240.2) t230 y241 (wrap64 (x14_2 - 1))) = some (r1, r2, r3) := by first | (rw [hy241]; with_reducible exact H) | (have H2_ := (Option.bind_some _ _).symm.trans H; rw [hy241]; with_reducible exact H2_) | (with_reducible exact hs_ H) | with_reducible exact H | (rw [hy241]; exact H) | exact H
                   have Ny241 := jA.mk hy241
                   clear hy241
                   have H' := jA.mk H
                   clear H
                   have q51 : ((ji44) : Int) ≤ ((x11_2.length : Int) : Int) := of_decide_eq_true am_
                   obtain ⟨i051, hi051, _, hsz51, _⟩ := info_parts qR
                   have hroom51 : x11_2.length ≤ co38 := (Kd.jG HO_11.out).2.1
                   have hC51 : Kd.C (Kd.int .u64) _ Ao38 x11_2.length x11_2 := (Kd.jG HO_11.out).2.2
                   have ql51 : (x14_2 : Int) ≤ ((ji44) : Int) := of_decide_eq_true am_
                   have q051 : (0 : Int) ≤ (x14_2 : Int) := of_decide_eq_true am_
                   have hcut51 := jGY (P := Try.prog) 35 22 .i64 .i64 Try.underlying35 hi051 1 hsz51 Ao38 x11_2.length co38 x14_2 (ji44) q051 ql51 q51 hroom51
                   have hr51 := Kd.jIR (lo := (x14_2 : Int).toNat) (hi := ((ji44) : Int).toNat) (c := co38) hC51 (by omega) (by omega) hroom51
                   obtain ⟨A51, hA51⟩ : ∃ A1, A1 = (if co38 = (x14_2 : Int).toNat then Ao38 else (Ao38 : Option Addr).map (·.add ((x14_2 : Int).toNat * 1))) := ⟨_, rfl⟩
                   obtain ⟨c51, hc51⟩ : ∃ c1, c1 = co38 - (x14_2 : Int).toNat := ⟨_, rfl⟩
                   have hy51 : y236.length = ((ji44) : Int).toNat - (x14_2 : Int).toNat := (by rw [Ny236.out, List.length_drop, List.length_take] <;> omega)
                   rw [show ((x11_2).take ((ji44) : Int).toNat).drop (x14_2 : Int).toNat = y236 from Ny236.out.symm] at hr51
                   replace hr51 : Kd.C (Kd.int .u64) _ A51 y236.length y236 := (by rw [hA51]; exact hr51)
                   rw [← hy51, ← hA51, ← hc51] at hcut51
                   have HR239 := jA.mk hr51
                   have HC239 := jA.mk (show y236.length ≤ c51 from by rw [hy51, hc51]; exact Nat.sub_le_sub_right (Nat.le_trans (by omega) hroom51) _)
                   clear hr51 hC51 hroom51 hi051 hsz51 hc51
                   have KY51 := jA.mk hy51
                   have KA51 := jA.mk hA51
                   clear hy51 hA51
                   have KL51 := jA.mk (show ((ji44) : Int).toNat ≤ x11_2.length from by omega)
                   have KM51 := jA.mk (show (x14_2 : Int).toNat ≤ ((ji44) : Int).toNat from by omega)
                   replace q51 := eq_true q51
                   obtain ⟨d_, u1_⟩ := t240
                   have hdl := jT.len A48.out
                   have hdu := jT.len2 A48.out
                   have hx11 : 0 < x11_2.length := by have := KL51.out; have := KM51.out; have := KY51.out; omega
                   obtain ⟨ga, ca, ea, hga0, hga1, -⟩ := Kd.jAD HO_11.out hx11
                   injection ea with ea_ en_ ec_
                   subst ea_
                   clear en_
                   subst ec_
                   obtain ⟨cur, hcur, hcl, hspl⟩ := jEk (i := (x14_2 : Int).toNat) HO_11.out
                   have hA_ : A51 = some ⟨ga, (x14_2 : Int).toNat, none⟩ := by rw [KA51.out, if_neg (by have := KL51.out; have := KM51.out; have := KY51.out; have := (Kd.jG HO_11.out).2.1; omega), Option.map_some, Nat.mul_one, add_plain]
                   have hq13 : x14_2 < (x13_2.length : Int) := of_decide_eq_true am_
                   have hp13 : 0 ≤ x14_2 := of_decide_eq_true am_
                   obtain ⟨go_, co_, eo_, hgo0, hgo1, -⟩ := Kd.jAD HO_13.out (by omega)
                   injection eo_ with ea_ en_ ec_
                   subst ea_
                   clear en_
                   subst ec_
                   have hRW := HR239.out
                   rw [hA_] at hRW
                   have HFX := jA.mk (show (x14_2 : Int).toNat + y236.length ≤ x11_2.length ∧ (x14_2 : Int).toNat + y236.length ≤ cur.length from by have := KL51.out; have := KM51.out; have := KY51.out; omega)
                   have HCUR := jA.mk hcur
                   have HSPL := jA.mk hspl
                   have HRW := jA.mk hRW
                   have HDU := jA.mk hdu
                   have HGA := jA.mk (And.intro hga0 hgo0)
                   subst hA_
                   clear hcur hcl hspl hRW hdu hdl hx11 hga0 hga1 hgo0 hgo1 HR239
                   replace hq13 := eq_true hq13
                   replace hp13 := eq_true hp13
                   go_wp2_with fail
                   refine (jT.calls k2 ga (x14_2 : Int).toNat _ _ _ y236 t230 u1_ d_ cur _ HRW.out HC239.out HCUR.out HFX.out.2 (Kd.jG HO_12.out).2.2 (Kd.jG HO_12.out).2.1 A48.out).mono ?_
                   rintro e w52 ⟨rfl, hg, hc⟩
                   have n0_ := jA.mk (HSPL.out w52 u1_ (by rw [HDU.out]; exact HFX.out.1) hc)
                   have n1_ := jA.mk (Kd.jEm HO_12.out hg (fun k_ hk_ => hk_.1))
                   have n2_ := jA.mk (Kd.jEm HO_13.out hg (fun k_ hk_ => hk_.1))
                   have n3_ := jA.mk (jCr HB.out hg HGA.out.1)
                   clear HO_11 HO_12 HO_13 HB hg hc
                   have HO_11 := n0_
                   have HO_12 := n1_
                   have HO_13 := n2_
                   have HB := n3_
                   clear n0_ n1_ n2_ n3_
                   obtain ⟨hx50_0, hf50_0⟩ := Kd.zy 0 HO_13.out (x14_2 : Int) (of_decide_eq_true am_) (of_decide_eq_true am_)
                   have HP := Kd.jAW HO_13.out (x14_2 : Int) d_
                   have HP_ := jA.mk HP.1
                   clear HP
                   go_wp2
                   (try simp only [← hl13_2])
                   (try simp only [← hl11_2])
                   go_roundg k2
                   case measure => have := HJ2.out; have := HK2.out; omega
                   case rel =>
                    refine ⟨_, _, _, rfl, H', ⟨by have := HJ2.out; have := HK2.out; omega⟩, ⟨?_⟩, ⟨?_⟩, ⟨?_⟩, ⟨vZ HB.out HGA.out.2⟩⟩
                    ·
                     (try simp only [hl13_2, hl11_2]); exact Kd.jU HO_11.out (fun k_ hk_ e_ => hk_.2 (by rw [e_]; rfl)) _
                    ·
                     (try simp only [hl13_2, hl11_2]); exact Kd.jU HO_12.out (fun k_ hk_ e_ => hk_.2 (by rw [e_]; rfl)) _
                    ·
                     (try simp only [hl13_2, hl11_2]); rw [Ny241.out]; exact HP_.out
                  ·
                   rw [if_neg c49] at H
                   exact absurd H (by simp)
                 ·
                  rw [if_neg c47] at H
                  exact absurd H (by simp)
                ·
                 rw [if_neg c46] at H
                 exact absurd H (by simp)
               ·
                rw [if_neg c45] at H
                exact absurd H (by simp)
              ·
               rw [if_neg c43] at H
               have c43b0 : decide (0 ≤ x14_2) = false := decide_eq_false c43
               clear c43
               replace H := Option.bind_eq_some_iff.mp H
               obtain ⟨t242, A550, H⟩ := H
               replace H : ((jF.f k2 x11_2 (wrap64 (-t220))).bind fun t245 => (some (t242, t245, 0))) = some (r1, r2, r3) := H
               have A55 := jA.mk A550
               clear A550
               replace H := Option.bind_eq_some_iff.mp H
               obtain ⟨t245, A560, H⟩ := H
               replace H : (some (t242, t245, 0)) = some (r1, r2, r3) := H
               have A56 := jA.mk A560
               clear A560
               simp only [Option.some.injEq, Prod.mk.injEq] at H
               obtain ⟨rfl, rfl, rfl⟩ := H
               go_wp2_with (first | ((with_reducible refine jH (f := 96) rfl ?_); refine jq (some 96) rfl rfl Try.func96 kr_ rfl #[.slice Ao42 x13_2.length co42] rfl mt_ ?_; (with_reducible refine (jv.calls k2 _ _ x13_2 t242 _ ?side1 ?side2 A55.out).mono ?_); (case side1 => exact cc_ (Kd.jG HO_13.out).2.2); (case side2 => exact (Kd.jG HO_13.out).2.1); rintro e w57 ⟨v243, rfl, ho0, hb⟩; refine ⟨_, rfl, ?_⟩; have n0_ := jA.mk (Kd.jr (rR_ HO_11) (Kd.jS ho0) hb); have n1_ := jA.mk (Kd.jr (rR_ HO_12) (Kd.jS ho0) hb); have n2_ := jA.mk (Kd.jr (rR_ HO_13) (Kd.jS ho0) hb); have n3_ := jA.mk (Kd.jV (Kd.jY (Kd.jY (Kd.jY ho0 (Kd.R_lt (rR_ HO_11))) (Kd.R_lt (rR_ HO_12))) (Kd.R_lt (rR_ HO_13))) (jC (bb_ HB))); have n4_ := jA.mk (jE (bb_ HB) hb); clear HO_11 HO_12 HO_13 HB; have HO_11 := n0_; have HO_12 := n1_; have HO_13 := n2_; have HO244 := n3_; have HB := n4_; clear n0_ n1_ n2_ n3_ n4_) | ((with_reducible refine jH (f := 100) rfl ?_); refine jq (some 100) rfl rfl Try.func100 kr_ rfl #[.slice Ao38 x11_2.length co38, .int .i64 (wrap64 (-t220))] rfl mt_ ?_; (with_reducible refine (jF.calls k2 _ _ x11_2 (wrap64 (-t220)) t245 _ ?side1 ?side2 A56.out).mono ?_); (case side1 => exact cc_ (Kd.jG HO_11.out).2.2); (case side2 => exact (Kd.jG HO_11.out).2.1); rintro e w58 ⟨v246, rfl, ho0, hb⟩; refine ⟨_, rfl, ?_⟩; have n0_ := jA.mk (Kd.jr (rR_ HO_11) (Kd.jS ho0) hb); have n1_ := jA.mk (Kd.jr (rR_ HO_12) (Kd.jS ho0) hb); have n2_ := jA.mk (Kd.jr (rR_ HO_13) (Kd.jS ho0) hb); have n3_ := jA.mk (Kd.jr (rR_ HO244) (Kd.jS ho0) hb); have n4_ := jA.mk (Kd.jV (Kd.jY (Kd.jY (Kd.jY (Kd.jY ho0 (Kd.R_lt (rR_ HO_11))) (Kd.R_lt (rR_ HO_12))) (Kd.R_lt (rR_ HO_13))) (Kd.R_lt (rR_ HO244))) (jC (bb_ HB))); have n5_ := jA.mk (jE (bb_ HB) hb); clear HO_11 HO_12 HO_13 HO244 HB; have HO_11 := n0_; have HO_12 := n1_; have HO_13 := n2_; have HO244 := n3_; have HO247 := n4_; have HB := n5_; clear n0_ n1_ n2_ n3_ n4_ n5_))
               go_ret3
               exact ⟨_, _, by first | rfl | (simp [zA, vw] <;> rfl) | (simp only [← hji20, ← hji27]; first | rfl | (simp [zA, vw] <;> rfl)) | (simp [*, zA, vw] <;> rfl), by refine pR_ ?_; exact Kd.jM HO244.out (fun _ hk => hk.2), by refine pR_ ?_; exact Kd.jM HO247.out (fun _ hk => hk.2), (bb_ HB)⟩
           ·
            rw [if_neg c29] at H
            exact absurd H (by simp)
          ·
           rw [if_neg c28] at H
           exact absurd H (by simp)
         ·
          rw [if_neg c25] at H
          exact absurd H (by simp)
        ·
         rw [if_neg c22] at H
         exact absurd H (by simp)
       ·
        rw [if_neg c21] at H
        exact absurd H (by simp)

/-! ### jk: function 71 -/
mutual
def jk.j0 : Nat → List Int → List Int → Bool → Option (List Int × Int)
 | 0, _, _, _ => none
 | k + 1, x0, x1, x16 => if x16 = true then (some (([] : List Int), 1)) else ((jv.f k x0).bind fun t250 => ((jv.f k x1).bind fun t253 => (jk.l0 k t250 t253)))
def jk.l0 : Nat → List Int → List Int → Option (List Int × Int)
 | 0, _, _ => none
 | k + 1, x0, x1 => if (x1.length : Int) > 0 then ((jZ.f k x0 x1).bind fun bt256 => (jk.l0 k x1 bt256.2.1)) else (some (x0, 0))
end
def jk.f (k : Nat) (l0 : List Int) (l1 : List Int) : Option (List Int × Int) := (zP.f l0).bind fun t248 => (if t248 = true then ((zP.f l1).bind fun t249 => (jk.j0 k l0 l1 (!t249))) else (jk.j0 k l0 l1 true))
theorem jk.zF : ∀ k, (∀ y0 y1 y2, LeO (jk.j0 k y0 y1 y2) (jk.j0 (k + 1) y0 y1 y2)) ∧ (∀ y0 y1, LeO (jk.l0 k y0 y1) (jk.l0 (k + 1) y0 y1))
 | 0 => ⟨fun _ _ _ r h => by simp [jk.j0] at h, fun _ _ r h => by simp [jk.l0] at h⟩
 | k + 1 => by
  obtain ⟨ih0, ih1⟩ := jk.zF k
  refine ⟨?_, ?_⟩ <;> (intros; first | unfold jk.j0 | unfold jk.l0) <;> repeat' first
   | (with_reducible exact ih0 _ _ _)
   | (with_reducible exact ih1 _ _)
   | (with_reducible exact jv.mono _ _)
   | (with_reducible exact jZ.mono _ _ _)
   | (with_reducible exact LeO.refl _)
   | (with_reducible exact LeO.none _)
   | (with_reducible refine LeO.ite ?_ ?_)
   | (with_reducible refine LeO.bind ?_ (fun _ => ?_))
theorem jk.mono : ∀ a0 a1 k, LeO (jk.f k a0 a1) (jk.f (k + 1) a0 a1) := by
 intro a0 a1 k
 obtain ⟨ih0, ih1⟩ := jk.zF k
 unfold jk.f
 repeat' first
   | (with_reducible exact ih0 _ _ _)
   | (with_reducible exact ih1 _ _)
   | (with_reducible exact jv.mono _ _)
   | (with_reducible exact jZ.mono _ _ _)
   | (with_reducible exact LeO.refl _)
   | (with_reducible exact LeO.none _)
   | (with_reducible refine LeO.ite ?_ ?_)
   | (with_reducible refine LeO.bind ?_ (fun _ => ?_))
theorem jk.calls (k : Nat) (A0 : Option Addr) (c0 : Nat) (l0 : List Int) (A1 : Option Addr) (c1 : Nat) (l1 : List Int) (r1 : List Int) (r2 : Int) (w : World) (hr0 : Kd.C (Kd.int .u64) w A0 l0.length l0) (hc0 : l0.length ≤ c0) (hr1 : Kd.C (Kd.int .u64) w A1 l1.length l1) (hc1 : l1.length ≤ c1) (h : jk.f k l0 l1 = some (r1, r2)) :
  Calls Try.prog 71 #[.slice A0 l0.length c0, .slice A1 l1.length c1] w fun e w' => ∃ v0_ : Value, e = .returned (.tuple #[v0_, .int .i64 r2]) ∧ Kd.R (Kd.int .u64) 22 w' w.heap.size (fun _ => True) v0_ r1 ∧ Below w.heap.size w w' := by
 have HR0 := jA.mk hr0
 have HC0 := jA.mk hc0
 clear hr0 hc0
 have HR1 := jA.mk hr1
 have HC1 := jA.mk hc1
 clear hr1 hc1
 have HB := jA.mk (Below.refl w.heap.size w)
 have H : ((zP.f l0).bind fun t248 => (if t248 = true then ((zP.f l1).bind fun t249 => (jk.j0 k l0 l1 (!t249))) else (jk.j0 k l0 l1 true))) = some (r1, r2) := h
 clear h
 have HC3 := jA.mk H
 clear H
 go_enter Try.func71, Try.ntmps71
 go_upto_region 1 with (fail)
 go_cut [16] (fun v16 wc => ∃ (kq : Nat) (x16_2 : Bool), v16 = .bool x16_2 ∧ jA (jk.j0 kq l0 l1 x16_2 = some (r1, r2)) ∧ jA (kq ≤ k) ∧ jA (Below w.heap.size w wc))
 case first =>
  have H := HC3.out
  clear HC3
  replace H := Option.bind_eq_some_iff.mp H
  obtain ⟨t248, A40, H⟩ := H
  replace H : (if t248 = true then ((zP.f l1).bind fun t249 => (jk.j0 k l0 l1 (!t249))) else (jk.j0 k l0 l1 true)) = some (r1, r2) := H
  have A4 := jA.mk A40
  clear A40
  by_cases c5 : t248 = true
  ·
   subst c5
   have H1 : ((zP.f l1).bind fun t249 => (jk.j0 k l0 l1 (!t249))) = some (r1, r2) := by rw [if_pos rfl] at H; exact H
   clear H
   have H := H1
   clear H1
   replace H := Option.bind_eq_some_iff.mp H
   obtain ⟨t249, A60, H⟩ := H
   replace H : (jk.j0 k l0 l1 (!t249)) = some (r1, r2) := H
   have A6 := jA.mk A60
   clear A60
   have H' := jA.mk H
   clear H
   go_wp2_with (first | ((with_reducible refine jH (f := 64) rfl ?_); refine jq (some 10) rfl rfl Try.func64 kr_ rfl #[.slice A0 l0.length c0] rfl mt_ ?_; (with_reducible refine (zP.calls _ _ l0 true _ ?side1 ?side2 A4.out).mono ?_); (case side1 => exact cc_ (Kd.jR HR0.out HB.out)); (case side2 => exact HC0.out); rintro e w' ⟨rfl, ⟨nd, rfl⟩⟩; refine ⟨_, rfl, ?_⟩) | ((with_reducible refine jd (N := 14) rfl ?_); refine vD (by first | rfl | kernel_rfl) ?_; dsimp only; (with_reducible refine jH (f := 64) rfl ?_); refine jq (some 14) rfl rfl Try.func64 kr_ rfl #[.slice A1 l1.length c1] rfl mt_ ?_; (with_reducible refine (zP.calls _ _ l1 t249 _ ?side1 ?side2 A6.out).mono ?_); (case side1 => repeat (first | exact (Kd.jR HR1.out (bb_ HB)) | (with_reducible refine Kd.zm ?_ _) | (with_reducible refine Kd.qI ?_ _) | (with_reducible refine Kd.qw ?_))); (case side2 => exact HC1.out); rintro e w' ⟨rfl, ⟨nd, rfl⟩⟩; refine ⟨_, rfl, ?_⟩))
   go_meet
   case rel => exact ⟨_, (!t249), sd_, H', ⟨by first | omega | exact Nat.le_refl _⟩, ⟨(bb_ HB)⟩⟩
  ·
   replace c5 := Bool.eq_false_iff.mpr c5
   subst c5
   have H1 : (jk.j0 k l0 l1 true) = some (r1, r2) := by rw [if_neg (show ¬ (false = true) by decide)] at H; exact H
   clear H
   have H := H1
   clear H1
   have H' := jA.mk H
   clear H
   go_wp2_with (first | ((with_reducible refine jH (f := 64) rfl ?_); refine jq (some 10) rfl rfl Try.func64 kr_ rfl #[.slice A0 l0.length c0] rfl mt_ ?_; (with_reducible refine (zP.calls _ _ l0 false _ ?side1 ?side2 A4.out).mono ?_); (case side1 => exact cc_ (Kd.jR HR0.out HB.out)); (case side2 => exact HC0.out); rintro e w' ⟨rfl, ⟨nd, rfl⟩⟩; refine ⟨_, rfl, ?_⟩))
   go_meet
   case rel => exact ⟨_, (true), sd_, H', ⟨by first | omega | exact Nat.le_refl _⟩, ⟨(bb_ HB)⟩⟩
 case rest =>
  clear HC3
  try clear c1
  try clear p2
  try clear c5
  try clear c6
  obtain ⟨kq, x16_2, rfl, HA, HJ2, HB⟩ := hcut
  cases kq with
  | zero => exact absurd HA.out (by simp [jk.j0])
  | succ kj2 =>
   have H := HA.out
   clear HA
   simp only [jk.j0] at H
   by_cases c7 : x16_2 = true
   ·
    subst c7
    have H1 : (some (([] : List Int), 1)) = some (r1, r2) := by rw [if_pos rfl] at H; exact H
    clear H
    have H := H1
    clear H1
    simp only [Option.some.injEq, Prod.mk.injEq] at H
    obtain ⟨rfl, rfl⟩ := H
    go_wp2
    go_ret2
    exact ⟨_, ew_, nl_, (bb_ HB)⟩
   ·
    replace c7 := Bool.eq_false_iff.mpr c7
    subst c7
    have H1 : ((jv.f kj2 l0).bind fun t250 => ((jv.f kj2 l1).bind fun t253 => (jk.l0 kj2 t250 t253))) = some (r1, r2) := by rw [if_neg (show ¬ (false = true) by decide)] at H; exact H
    clear H
    have H := H1
    clear H1
    replace H := Option.bind_eq_some_iff.mp H
    obtain ⟨t250, A80, H⟩ := H
    replace H : ((jv.f kj2 l1).bind fun t253 => (jk.l0 kj2 t250 t253)) = some (r1, r2) := H
    have A8 := jA.mk A80
    clear A80
    replace H := Option.bind_eq_some_iff.mp H
    obtain ⟨t253, A90, H⟩ := H
    replace H : (jk.l0 kj2 t250 t253) = some (r1, r2) := H
    have A9 := jA.mk A90
    clear A90
    have H' := jA.mk H
    clear H
    go_wp2_with (first | ((with_reducible refine jH (f := 96) rfl ?_); refine jq (some 18) rfl rfl Try.func96 kr_ rfl #[.slice A0 l0.length c0] rfl mt_ ?_; (with_reducible refine (jv.calls kj2 _ _ l0 t250 _ ?side1 ?side2 A8.out).mono ?_); (case side1 => exact cc_ (Kd.jR HR0.out HB.out)); (case side2 => exact HC0.out); rintro e w10 ⟨v251, rfl, ho0, hb⟩; refine ⟨_, rfl, ?_⟩; have n0_ := jA.mk (Kd.jV ho0 (jC (bb_ HB))); have n1_ := jA.mk (jE (bb_ HB) hb); clear HB; have HO252 := n0_; have HB := n1_; clear n0_ n1_) | ((with_reducible refine jH (f := 96) rfl ?_); refine jq (some 20) rfl rfl Try.func96 kr_ rfl #[.slice A1 l1.length c1] rfl mt_ ?_; (with_reducible refine (jv.calls kj2 _ _ l1 t253 _ ?side1 ?side2 A9.out).mono ?_); (case side1 => exact cc_ (Kd.jR HR1.out HB.out)); (case side2 => exact HC1.out); rintro e w11 ⟨v254, rfl, ho0, hb⟩; refine ⟨_, rfl, ?_⟩; have n0_ := jA.mk (Kd.jr (rR_ HO252) (Kd.jS ho0) hb); have n1_ := jA.mk (Kd.jV (Kd.jY ho0 (Kd.R_lt (rR_ HO252))) (jC (bb_ HB))); have n2_ := jA.mk (jE (bb_ HB) hb); clear HO252 HB; have HO252 := n0_; have HO255 := n1_; have HB := n2_; clear n0_ n1_ n2_))
    go_loopg [0, 1] kj2 (fun kq v0 v1 w' => ∃ (x0_2 : List Int) (x1_2 : List Int), jA (jk.l0 kq x0_2 x1_2 = some (r1, r2)) ∧ jA (kq ≤ kj2) ∧ jA (Kd.R (Kd.int .u64) 22 w' w.heap.size (fun k_ => some k_ ≠ (v1 : Value).ownBlock) v0 x0_2) ∧ jA (Kd.R (Kd.int .u64) 22 w' w.heap.size (fun k_ => some k_ ≠ (v0 : Value).ownBlock) v1 x1_2) ∧ jA (Below w.heap.size w w'))
    case atStart => exact ⟨(t250), (t253), H', ⟨Nat.le_refl _⟩, ⟨by (with_reducible repeat (first | apply Kd.zQ | apply Kd.zh | apply Kd.zY)); exact Kd.jM HO252.out (fun _ hk => hk.2)⟩, ⟨by (with_reducible repeat (first | apply Kd.zQ | apply Kd.zh | apply Kd.zY)); exact Kd.jM HO255.out (fun _ hk => hk.2)⟩, ⟨(bb_ HB)⟩⟩
    case round =>
     clear H'
     try clear c1
     try clear p2
     try clear c5
     try clear c6
     try clear c7
     try clear c9
     try clear p2
     obtain ⟨x0_2, x1_2, HA, HK2, HO_0, HO_1, HB⟩ := hrel
     cases gk with
     | zero => exact absurd HA.out (by simp [jk.l0])
     | succ k2 =>
      have H := HA.out
      clear HA
      simp only [jk.l0] at H
      by_cases c12 : (x1_2.length : Int) > 0
      ·
       rw [if_pos c12] at H
       have c12b0 : decide (0 < (x1_2.length : Int)) = true := decide_eq_true c12
       have c12b1 : decide (0 < x1_2.length) = true := decide_eq_true (by omega)
       clear c12
       replace H := Option.bind_eq_some_iff.mp H
       obtain ⟨⟨t256, t257, t258⟩, A130, H⟩ := H
       replace H : (jk.l0 k2 x1_2 t257) = some (r1, r2) := H
       have A13 := jA.mk A130
       clear A130
       have H' := jA.mk H
       clear H
       obtain ⟨Ao14, co14, eo14⟩ := Kd.jf HO_1.out
       subst eo14
       obtain ⟨Ao15, co15, eo15⟩ := Kd.jf HO_0.out
       subst eo15
       go_wp2_with (first | ((with_reducible refine jH (f := 72) rfl ?_); refine jq (some 27) rfl rfl Try.func72 kr_ rfl #[.slice Ao15 x0_2.length co15, .slice Ao14 x1_2.length co14] rfl mt_ ?_; (with_reducible refine (jZ.calls k2 _ _ x0_2 _ _ x1_2 t256 t257 t258 _ ?side1 ?side2 ?side3 ?side4 A13.out).mono ?_); (case side1 => exact cc_ (Kd.jG HO_0.out).2.2); (case side2 => exact (Kd.jG HO_0.out).2.1); (case side3 => exact cc_ (Kd.jG HO_1.out).2.2); (case side4 => exact (Kd.jG HO_1.out).2.1); rintro e w16 ⟨v259, v261, rfl, ho0, ho1, hb⟩; refine ⟨_, rfl, ?_⟩; have n0_ := jA.mk (Kd.jM (Kd.vL (Kd.vL (Kd.qK (rR_ HO_0) hb) (Kd.jS ho0)) (Kd.jS ho1)) (fun _ h_ => h_.1)); have n1_ := jA.mk (Kd.jM (Kd.vL (Kd.vL (Kd.qK (rR_ HO_1) hb) (Kd.jS ho0)) (Kd.jS ho1)) (fun _ h_ => h_.1)); have n2_ := jA.mk (Kd.jV (Kd.jY (Kd.jY ho0 (Kd.R_lt (rR_ HO_0))) (Kd.R_lt (rR_ HO_1))) (jC (bb_ HB))); have n3_ := jA.mk (Kd.jV (Kd.jY (Kd.jY ho1 (Kd.R_lt (rR_ HO_0))) (Kd.R_lt (rR_ HO_1))) (jC (bb_ HB))); have n4_ := jA.mk (jE (bb_ HB) hb); clear HO_0 HO_1 HB; have HO_0 := n0_; have HO_1 := n1_; have HO260 := n2_; have HO262 := n3_; have HB := n4_; clear n0_ n1_ n2_ n3_ n4_))
       go_roundg k2
       case measure => have := HJ2.out; have := HK2.out; omega
       case rel => exact ⟨(x1_2), (t257), H', ⟨by have := HJ2.out; have := HK2.out; omega⟩, ⟨by (with_reducible repeat (first | apply Kd.zQ | apply Kd.zh | apply Kd.zY)); exact Kd.jM HO_1.out (fun _ hk => hk.2)⟩, ⟨by (with_reducible repeat (first | apply Kd.zQ | apply Kd.zh | apply Kd.zY)); exact Kd.jM HO262.out (fun _ hk => hk.2)⟩, ⟨(bb_ HB)⟩⟩
      ·
       rw [if_neg c12] at H
       have c12b0 : decide (0 < (x1_2.length : Int)) = false := decide_eq_false c12
       have c12b1 : decide (0 < x1_2.length) = false := decide_eq_false (by omega)
       clear c12
       simp only [Option.some.injEq, Prod.mk.injEq] at H
       obtain ⟨rfl, rfl⟩ := H
       obtain ⟨Ao17, co17, eo17⟩ := Kd.jf HO_1.out
       subst eo17
       go_wp2
       go_ret2
       exact ⟨_, ew_, by refine pR_ ?_; exact Kd.jM HO_0.out (fun _ hk => trivial), (bb_ HB)⟩

/-! ### qX: function 73 -/
def qX.f (k : Nat) (l0 : List Int) (l1 : List Int) : Option (Int) := (vG.f k l0 l1).bind fun t263 => (some t263)
theorem qX.mono : ∀ a0 a1 k, LeO (qX.f k a0 a1) (qX.f (k + 1) a0 a1) := by
 intro a0 a1 k
 unfold qX.f
 repeat' first
   | (with_reducible exact vG.mono _ _ _)
   | (with_reducible exact LeO.refl _)
   | (with_reducible exact LeO.none _)
   | (with_reducible refine LeO.ite ?_ ?_)
   | (with_reducible refine LeO.bind ?_ (fun _ => ?_))
theorem qX.calls (k : Nat) (A0 : Option Addr) (c0 : Nat) (l0 : List Int) (A1 : Option Addr) (c1 : Nat) (l1 : List Int) (r : Int) (w : World) (hr0 : Kd.C (Kd.int .u64) w A0 l0.length l0) (hc0 : l0.length ≤ c0) (hr1 : Kd.C (Kd.int .u64) w A1 l1.length l1) (hc1 : l1.length ≤ c1) (h : qX.f k l0 l1 = some r) :
  Calls Try.prog 73 #[.slice A0 l0.length c0, .slice A1 l1.length c1] w fun e w' => e = .returned (.int .i64 r) ∧ Below w.heap.size w w' := by
 have HR0 := jA.mk hr0
 have HC0 := jA.mk hc0
 clear hr0 hc0
 have HR1 := jA.mk hr1
 have HC1 := jA.mk hc1
 clear hr1 hc1
 have HB := jA.mk (Below.refl w.heap.size w)
 have H : ((vG.f k l0 l1).bind fun t263 => (some t263)) = some r := h
 clear h
 replace H := Option.bind_eq_some_iff.mp H
 obtain ⟨t263, A30, H⟩ := H
 replace H : (some t263) = some r := H
 have A3 := jA.mk A30
 clear A30
 obtain rfl := Option.some.inj H
 go_enter Try.func73, Try.ntmps73
 go_wp2_with (first | ((with_reducible refine jH (f := 98) rfl ?_); refine jq (some 7) rfl rfl Try.func98 kr_ rfl #[.slice A0 l0.length c0, .slice A1 l1.length c1] rfl mt_ ?_; (with_reducible refine (vG.calls k _ _ l0 _ _ l1 t263 _ ?side1 ?side2 ?side3 ?side4 A3.out).mono ?_); (case side1 => exact cc_ HR0.out); (case side2 => exact HC0.out); (case side3 => exact cc_ HR1.out); (case side4 => exact HC1.out); rintro e w4 ⟨rfl, hb⟩; refine ⟨_, rfl, ?_⟩; have n0_ := jA.mk (jE (bb_ HB) hb); clear HB; have HB := n0_; clear n0_))
 go_ret
 exact ⟨ew_, (bb_ HB)⟩

end Go.Proofs.Ytijgeonhbmgikaa.PORatioSigns
