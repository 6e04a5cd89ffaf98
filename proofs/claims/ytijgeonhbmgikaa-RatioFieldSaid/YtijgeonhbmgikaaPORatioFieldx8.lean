-- printed (pr.py)
import Derived.Test.YtijgeonhbmgikaaPORatioFieldx4
import Derived.Test.YtijgeonhbmgikaaPORatioFieldx7
namespace Go.Proofs.Ytijgeonhbmgikaa.PORatioField
open Go.RowKit Go.Proofs.YtijgeonhbmgikaaN Go.Proofs.YtijgeonhbmgikaaW.PrintWords Go.Proofs.YtijgeonhbmgikaaW.PrintLast Go.Proofs.YtijgeonhbmgikaaW.PrintMore
attribute [local go_sem] qH qF qg qd zq zo qG qE
set_option maxHeartbeats 8000000
set_option maxRecDepth 100000
set_option linter.unusedVariables false
set_option linter.unusedSimpArgs false
mutual
def jy.j0 : Nat → List Int → List Int → Bool → Option (List Int × List Int × Int)
 | 0, _, _, _ => none
 | k + 1, x0, x1, x15 => if x15 = true then (some (([] : List Int), ([] : List Int), 1)) else (if (x1.length : Int) = 0 then (some (([] : List Int), ([] : List Int), 30)) else (if (x1.length : Int) = 1 then (if 0 < (x1.length : Int) then ((vO.f k x0 (rd x1 0)).bind fun bt207 => ((jBW.f bt207.2.1).bind fun t212 => (some (bt207.1, t212, 0)))) else (none)) else ((vN.f k x0 x1).bind fun t215 => (if t215 < 0 then ((vP.f k x0).bind fun t216 => (some (([] : List Int), t216, 0))) else (if 0 ≤ (wrap64 ((x1.length : Int) - 1)) then (if (wrap64 ((x1.length : Int) - 1)) < (x1.length : Int) then ((bits_LeadingZeros64.f (rd x1 (wrap64 ((x1.length : Int) - 1)))).bind fun t220 => ((jK.f k x0 t220).bind fun t221 => ((some (([0, 0] : List Int) : List Int)).bind fun y224 => (if t221.length + y224.length < 17592186044416 then ((some (t221 ++ y224 : List Int)).bind fun y227 => ((jK.f k x1 t220).bind fun t230 => (if 0 ≤ (wrap64 ((y227.length : Int) - (t230.length : Int))) then (if (wrap64 ((y227.length : Int) - (t230.length : Int)) : Int).toNat ≤ 35184372088832 then ((some (List.replicate (wrap64 ((y227.length : Int) - (t230.length : Int)) : Int).toNat 0 : List Int)).bind fun y233 => (jy.l0 k t220 y227 t230 y233 (wrap64 ((y233.length : Int) - 1)))) else (none)) else (none)))) else (none))))) else (none)) else (none))))))
def jy.l0 : Nat → Int → List Int → List Int → List Int → Int → Option (List Int × List Int × Int)
 | 0, _, _, _, _, _ => none
 | k + 1, x10, x11, x12, x13, x14 => if x14 ≥ 0 then (if 0 ≤ x14 then (if x14 ≤ (mn (wrap64 ((wrap64 (x14 + (x12.length : Int))) + 1)) (x11.length : Int)) then (if (mn (wrap64 ((wrap64 (x14 + (x12.length : Int))) + 1)) (x11.length : Int)) ≤ (x11.length : Int) then ((je.f k ((x11.take ((mn (wrap64 ((wrap64 (x14 + (x12.length : Int))) + 1)) (x11.length : Int)) : Int).toNat).drop (x14 : Int).toNat) x12).bind fun t240 => (if x14 < (x13.length : Int) then (jy.l0 k x10 (Go.splice x11 (x14 : Int).toNat t240.2) x12 (x13.set (x14 : Int).toNat t240.1) (wrap64 (x14 - 1))) else (none))) else (none)) else (none)) else (none)) else ((vP.f k x13).bind fun t242 => ((jK.f k x11 (wrap64 (-x10))).bind fun t245 => (some (t242, t245, 0))))
end
def jy.f (k : Nat) (l0 : List Int) (l1 : List Int) : Option (List Int × List Int × Int) := (qR.f l0).bind fun t204 => (if t204 = true then ((qR.f l1).bind fun t205 => (jy.j0 k l0 l1 (!t205))) else (jy.j0 k l0 l1 true))
theorem jy.vS : ∀ k, (∀ y0 y1 y2, LeO (jy.j0 k y0 y1 y2) (jy.j0 (k + 1) y0 y1 y2)) ∧ (∀ y0 y1 y2 y3 y4, LeO (jy.l0 k y0 y1 y2 y3 y4) (jy.l0 (k + 1) y0 y1 y2 y3 y4))
 | 0 => ⟨fun _ _ _ r h => by simp [jy.j0] at h, fun _ _ _ _ _ r h => by simp [jy.l0] at h⟩
 | k + 1 => by
  obtain ⟨ih0, ih1⟩ := jy.vS k
  refine ⟨?_, ?_⟩ <;> (intros; first | unfold jy.j0 | unfold jy.l0) <;> repeat' first
   | (with_reducible exact ih0 _ _ _)
   | (with_reducible exact ih1 _ _ _ _ _)
   | (with_reducible exact vN.mono _ _ _)
   | (with_reducible exact jK.mono _ _ _)
   | (with_reducible exact vP.mono _ _)
   | (with_reducible exact vO.mono _ _ _)
   | (with_reducible exact je.mono _ _ _)
   | (with_reducible exact LeO.refl _)
   | (with_reducible exact LeO.none _)
   | (with_reducible refine LeO.ite ?_ ?_)
   | (with_reducible refine LeO.bind ?_ (fun _ => ?_))
theorem jy.mono : ∀ a0 a1 k, LeO (jy.f k a0 a1) (jy.f (k + 1) a0 a1) := by
 intro a0 a1 k
 obtain ⟨ih0, ih1⟩ := jy.vS k
 unfold jy.f
 repeat' first
   | (with_reducible exact ih0 _ _ _)
   | (with_reducible exact ih1 _ _ _ _ _)
   | (with_reducible exact vN.mono _ _ _)
   | (with_reducible exact jK.mono _ _ _)
   | (with_reducible exact vP.mono _ _)
   | (with_reducible exact vO.mono _ _ _)
   | (with_reducible exact je.mono _ _ _)
   | (with_reducible exact LeO.refl _)
   | (with_reducible exact LeO.none _)
   | (with_reducible refine LeO.ite ?_ ?_)
   | (with_reducible refine LeO.bind ?_ (fun _ => ?_))
theorem jy.calls (k : Nat) (A0 : Option Addr) (c0 : Nat) (l0 : List Int) (A1 : Option Addr) (c1 : Nat) (l1 : List Int) (r1 : List Int) (r2 : List Int) (r3 : Int) (w : World) (hr0 : Kd.C (Kd.int .u64) w A0 l0.length l0) (hc0 : l0.length ≤ c0) (hr1 : Kd.C (Kd.int .u64) w A1 l1.length l1) (hc1 : l1.length ≤ c1) (h : jy.f k l0 l1 = some (r1, r2, r3)) :
  Calls Try.prog 72 #[.slice A0 l0.length c0, .slice A1 l1.length c1] w fun e w' => ∃ v0_ v1_ : Value, e = .returned (.tuple #[v0_, v1_, .int .i64 r3]) ∧ Kd.R (Kd.int .u64) 22 w' w.heap.size (fun k_ => some k_ ≠ (v1_ : Value).ownBlock) v0_ r1 ∧ Kd.R (Kd.int .u64) 22 w' w.heap.size (fun k_ => some k_ ≠ (v0_ : Value).ownBlock) v1_ r2 ∧ Below w.heap.size w w' := by
 have HR0 := jA.mk hr0
 have HC0 := jA.mk hc0
 clear hr0 hc0
 have HR1 := jA.mk hr1
 have HC1 := jA.mk hc1
 clear hr1 hc1
 have HB := jA.mk (Below.refl w.heap.size w)
 have H : ((qR.f l0).bind fun t204 => (if t204 = true then ((qR.f l1).bind fun t205 => (jy.j0 k l0 l1 (!t205))) else (jy.j0 k l0 l1 true))) = some (r1, r2, r3) := h
 clear h
 have HC3 := jA.mk H
 clear H
 go_enter Try.func72, Try.ntmps72
 go_upto_region 1 with (fail)
 go_cut [15] (fun v15 wc => ∃ (kq : Nat) (x15_2 : Bool), v15 = .bool x15_2 ∧ jA (jy.j0 kq l0 l1 x15_2 = some (r1, r2, r3)) ∧ jA (kq ≤ k) ∧ jA (Below w.heap.size w wc))
 case first =>
  have H := HC3.out
  clear HC3
  obtain ⟨t204, A4, H⟩ := oc_ H
  try dsimp only at H
  by_cases c5 : t204 = true
  ·
   subst c5
   replace H := ip_ H
   obtain ⟨t205, A6, H⟩ := oc_ H
   try dsimp only at H
   have H' := jA.mk H
   clear H
   go_wp2_with (first | ((with_reducible refine jH (f := 64) rfl ?_); refine gl_ (some 17) Try.func64 #[.slice A0 l0.length c0] ?_; (with_reducible refine (qR.calls _ _ l0 true _ ?side1 ?side2 A4.out).mono ?_); (case side1 => exact cb_ HR0 HB); (case side2 => exact HC0.out); rintro e w' ⟨rfl, ⟨nd, rfl⟩⟩; refine ⟨_, rfl, ?_⟩) | ((with_reducible refine jX (N := 21) rfl ?_); refine jr (by first | rfl | kernel_rfl) ?_; dsimp only; (with_reducible refine jH (f := 64) rfl ?_); refine gl_ (some 21) Try.func64 #[.slice A1 l1.length c1] ?_; (with_reducible refine (qR.calls _ _ l1 t205 _ ?side1 ?side2 A6.out).mono ?_); (case side1 => repeat (first | exact (Kd.zl HR1.out (bb_ HB)) | (with_reducible refine Kd.zJ ?_ _) | (with_reducible refine Kd.zU ?_ _) | (with_reducible refine Kd.zx ?_))); (case side2 => exact HC1.out); rintro e w' ⟨rfl, ⟨nd, rfl⟩⟩; refine ⟨_, rfl, ?_⟩))
   go_meet
   case rel => exact ⟨_, (!t205), sd_, H', ⟨by first | omega | exact Nat.le_refl _⟩, ⟨(bb_ HB)⟩⟩
  ·
   replace c5 := Bool.eq_false_iff.mpr c5
   subst c5
   replace H := in_ H
   have H' := jA.mk H
   clear H
   go_wp2_with (first | ((with_reducible refine jH (f := 64) rfl ?_); refine gl_ (some 17) Try.func64 #[.slice A0 l0.length c0] ?_; (with_reducible refine (qR.calls _ _ l0 false _ ?side1 ?side2 A4.out).mono ?_); (case side1 => exact cb_ HR0 HB); (case side2 => exact HC0.out); rintro e w' ⟨rfl, ⟨nd, rfl⟩⟩; refine ⟨_, rfl, ?_⟩))
   go_meet
   case rel => exact ⟨_, (true), sd_, H', ⟨by first | omega | exact Nat.le_refl _⟩, ⟨(bb_ HB)⟩⟩
 case rest =>
  clear HC3
  try clear c1
  try clear p2
  try clear c5
  try clear c6
  obtain ⟨kq, x15_2, rfl, HA, HJ2, HB⟩ := hcut
  cases kq with
  | zero => exact absurd HA.out (by simp [jy.j0])
  | succ kj2 =>
   have H := HA.out
   clear HA
   simp only [jy.j0] at H
   by_cases c7 : x15_2 = true
   ·
    subst c7
    replace H := ip_ H
    simp only [Option.some.injEq, Prod.mk.injEq] at H
    obtain ⟨rfl, rfl, rfl⟩ := H
    go_wp2
    go_ret3
    exact ⟨_, _, ew_, nl_, nl_, (bb_ HB)⟩
   ·
    replace c7 := Bool.eq_false_iff.mpr c7
    subst c7
    replace H := in_ H
    by_cases c8 : (l1.length : Int) = 0
    ·
     rw [if_pos c8] at H
     have c8b0 := beq_iff_eq.mpr c8
     have c8b1 := bne_eq_false_iff_eq.mpr c8
     clear c8
     simp only [Option.some.injEq, Prod.mk.injEq] at H
     obtain ⟨rfl, rfl, rfl⟩ := H
     go_wp2
     go_ret3
     exact ⟨_, _, ew_, nl_, nl_, (bb_ HB)⟩
    ·
     rw [if_neg c8] at H
     have c8b0 := beq_eq_false_iff_ne.mpr c8
     have c8b1 := bne_iff_ne.mpr c8
     have c8b2 : ¬ (l1 = []) := fun h_ => c8 (by rw [h_]; rfl)
     by_cases c9 : (l1.length : Int) = 1
     ·
      rw [if_pos c9] at H
      have c9b0 := beq_iff_eq.mpr c9
      have c9b1 := bne_eq_false_iff_eq.mpr c9
      clear c9
      by_cases c10 : 0 < (l1.length : Int)
      ·
       rw [if_pos c10] at H
       have c10b0 := decide_eq_true c10
       have c10b1 : decide (0 < l1.length) = true := decide_eq_true (by omega)
       clear c10
       replace H := ob_ H
       obtain ⟨⟨t207, t208, t209⟩, A110, H⟩ := H
       try dsimp only at H
       have A11 := jA.mk A110
       clear A110
       obtain ⟨t212, A12, H⟩ := oc_ H
       try dsimp only at H
       simp only [Option.some.injEq, Prod.mk.injEq] at H
       obtain ⟨rfl, rfl, rfl⟩ := H
       have p206 : 0 ≤ (0 : Int) := (by omega)
       have q206 : 0 < (l1.length : Int) := of_decide_eq_true am_
       obtain ⟨ad206, e206, hx206_0⟩ := Kd.vw HR1.out 0 p206 q206
       cases e206
       have qi206 : (0 < l1.length) = True := eq_true (by omega)
       (try rw [show ((0 : Int)).toNat = 0 from rfl] at hx206_0)
       (try rw [Addr.add_zero'] at hx206_0)
       replace hx206_0 := (HB.out.cell (World.block_lt_of_cell? w _ hx206_0)).trans hx206_0
       replace p206 := eq_true p206
       replace q206 := eq_true q206
       go_wp2_with (first | ((with_reducible refine jH (f := 97) rfl ?_); refine gl_ (some 37) Try.func97 #[.slice A0 l0.length c0, .int .u64 (rd l1 0)] ?_; (with_reducible refine (vO.calls kj2 _ _ l0 (rd l1 0) t207 t208 t209 _ ?side1 ?side2 A11.out).mono ?_); (case side1 => exact cb_ HR0 HB); (case side2 => exact HC0.out); rintro e w13 ⟨v210, rfl, ho0, hb⟩; refine ⟨_, rfl, ?_⟩; have HO211 := jA.mk (Kd.jN ho0 (jC (bb_ HB))); replace HB := bs_ HB hb) | ((with_reducible refine jH (f := 81) rfl ?_); refine gl_ (some 43) Try.func81 #[.int .u64 t208] ?_; (with_reducible refine (jBW.calls t208 t212 _ A12.out).mono ?_); rintro e w14 ⟨v213, rfl, ho0, hb⟩; refine ⟨_, rfl, ?_⟩; have HO214 := jA.mk (Kd.jN (Kd.jL ho0 (Kd.R_lt (rR_ HO211))) (jC (bb_ HB))); replace HO211 := re_ HO211 ho0 hb; replace HB := bs_ HB hb))
       go_ret3
       exact ⟨_, _, ew_, by refine pR_ ?_; exact Kd.jT HO211.out (fun _ hk => hk.2), by refine pR_ ?_; exact Kd.jT HO214.out (fun _ hk => hk.2), (bb_ HB)⟩
      ·
       rw [if_neg c10] at H
       exact absurd H (by simp)
     ·
      rw [if_neg c9] at H
      have c9b0 := beq_eq_false_iff_ne.mpr c9
      have c9b1 := bne_iff_ne.mpr c9
      obtain ⟨t215, A15, H⟩ := oc_ H
      try dsimp only at H
      by_cases c16 : t215 < 0
      ·
       rw [if_pos c16] at H
       have c16b0 := decide_eq_true c16
       clear c16
       obtain ⟨t216, A17, H⟩ := oc_ H
       try dsimp only at H
       simp only [Option.some.injEq, Prod.mk.injEq] at H
       obtain ⟨rfl, rfl, rfl⟩ := H
       go_wp2_with (first | ((with_reducible refine jH (f := 98) rfl ?_); refine gl_ (some 47) Try.func98 #[.slice A0 l0.length c0, .slice A1 l1.length c1] ?_; (with_reducible refine (vN.calls kj2 _ _ l0 _ _ l1 t215 _ ?side1 ?side2 ?side3 ?side4 A15.out).mono ?_); (case side1 => exact cb_ HR0 HB); (case side2 => exact HC0.out); (case side3 => exact cb_ HR1 HB); (case side4 => exact HC1.out); rintro e w18 ⟨rfl, hb⟩; refine ⟨_, rfl, ?_⟩; replace HB := bs_ HB hb) | ((with_reducible refine jH (f := 96) rfl ?_); refine gl_ (some 50) Try.func96 #[.slice A0 l0.length c0] ?_; (with_reducible refine (vP.calls kj2 _ _ l0 t216 _ ?side1 ?side2 A17.out).mono ?_); (case side1 => exact cb_ HR0 HB); (case side2 => exact HC0.out); rintro e w19 ⟨v217, rfl, ho0, hb⟩; refine ⟨_, rfl, ?_⟩; have HO218 := jA.mk (Kd.jN ho0 (jC (bb_ HB))); replace HB := bs_ HB hb))
       go_ret3
       exact ⟨_, _, ew_, nl_, by refine pR_ ?_; exact Kd.jT HO218.out (fun _ hk => (by simp [Value.ownBlock])), (bb_ HB)⟩
      ·
       rw [if_neg c16] at H
       have c16b0 := decide_eq_false c16
       clear c16
       obtain ⟨ji20, hji20⟩ : ∃ j_ : Int, (wrap64 ((l1.length : Int) - 1)) = j_ := ⟨_, rfl⟩
       replace H : (if 0 ≤ (ji20) then (if (ji20) < (l1.length : Int) then ((bits_LeadingZeros64.f (rd l1 (ji20))).bind fun t220 => ((jK.f kj2 l0 t220).bind fun t221 => ((some (([0, 0] : List Int) : List Int)).bind fun y224 => (if t221.length + y224.length < 17592186044416 then ((some (t221 ++ y224 : List Int)).bind fun y227 => ((jK.f kj2 l1 t220).bind fun t230 => (if 0 ≤ (wrap64 ((y227.length : Int) - (t230.length : Int))) then (if (wrap64 ((y227.length : Int) - (t230.length : Int)) : Int).toNat ≤ 35184372088832 then ((some (List.replicate (wrap64 ((y227.length : Int) - (t230.length : Int)) : Int).toNat 0 : List Int)).bind fun y233 => (jy.l0 kj2 t220 y227 t230 y233 (wrap64 ((y233.length : Int) - 1)))) else (none)) else (none)))) else (none))))) else (none)) else (none)) = some (r1, r2, r3) := by first | (rw [hji20] at H; exact H) | (simp only [hji20] at H ⊢; exact H)
       (try rw [hji20] at A15)
       have hji20w : (IntKind.i64.wrap ((l1.length : Int) - 1)) = ji20 := (qZ _).trans hji20
       by_cases c21 : 0 ≤ (ji20)
       ·
        rw [if_pos c21] at H
        have c21b0 := decide_eq_true c21
        clear c21
        by_cases c22 : (ji20) < (l1.length : Int)
        ·
         rw [if_pos c22] at H
         have c22b0 := decide_eq_true c22
         clear c22
         obtain ⟨t220, A23, H⟩ := oc_ H
         try dsimp only at H
         obtain ⟨t221, A24, H⟩ := oc_ H
         try dsimp only at H
         obtain ⟨y224, hy224⟩ : ∃ y_ : List Int, y_ = (([0, 0] : List Int)) := ⟨_, rfl⟩
         replace H : (if t221.length + y224.length < 17592186044416 then ((some (t221 ++ y224 : List Int)).bind fun y227 => ((jK.f kj2 l1 t220).bind fun t230 => (if 0 ≤ (wrap64 ((y227.length : Int) - (t230.length : Int))) then (if (wrap64 ((y227.length : Int) - (t230.length : Int)) : Int).toNat ≤ 35184372088832 then ((some (List.replicate (wrap64 ((y227.length : Int) - (t230.length : Int)) : Int).toNat 0 : List Int)).bind fun y233 => (jy.l0 kj2 t220 y227 t230 y233 (wrap64 ((y233.length : Int) - 1)))) else (none)) else (none)))) else (none)) = some (r1, r2, r3) := by first | (rw [hy224]; with_reducible exact H) | (have H2_ := (Option.bind_some _ _).symm.trans H; rw [hy224]; with_reducible exact H2_) | (with_reducible exact hs_ H) | with_reducible exact H | (rw [hy224]; exact H) | exact H
         have Ny224 := jA.mk hy224
         clear hy224
         by_cases c25 : t221.length + y224.length < 17592186044416
         ·
          rw [if_pos c25] at H
          have LMc25 := jA.mk c25
          clear c25
          obtain ⟨y227, hy227⟩ : ∃ y_ : List Int, y_ = (t221 ++ y224) := ⟨_, rfl⟩
          replace H : ((jK.f kj2 l1 t220).bind fun t230 => (if 0 ≤ (wrap64 ((y227.length : Int) - (t230.length : Int))) then (if (wrap64 ((y227.length : Int) - (t230.length : Int)) : Int).toNat ≤ 35184372088832 then ((some (List.replicate (wrap64 ((y227.length : Int) - (t230.length : Int)) : Int).toNat 0 : List Int)).bind fun y233 => (jy.l0 kj2 t220 y227 t230 y233 (wrap64 ((y233.length : Int) - 1)))) else (none)) else (none))) = some (r1, r2, r3) := by first | (rw [hy227]; with_reducible exact H) | (have H2_ := (Option.bind_some _ _).symm.trans H; rw [hy227]; with_reducible exact H2_) | (with_reducible exact hs_ H) | with_reducible exact H | (rw [hy227]; exact H) | exact H
          have Ny227 := jA.mk hy227
          clear hy227
          obtain ⟨t230, A26, H⟩ := oc_ H
          try dsimp only at H
          obtain ⟨ji27, hji27⟩ : ∃ j_ : Int, (wrap64 ((y227.length : Int) - (t230.length : Int))) = j_ := ⟨_, rfl⟩
          replace H : (if 0 ≤ (ji27) then (if (ji27 : Int).toNat ≤ 35184372088832 then ((some (List.replicate (ji27 : Int).toNat 0 : List Int)).bind fun y233 => (jy.l0 kj2 t220 y227 t230 y233 (wrap64 ((y233.length : Int) - 1)))) else (none)) else (none)) = some (r1, r2, r3) := by first | (rw [hji27] at H; exact H) | (simp only [hji27] at H ⊢; exact H)
          (try rw [hji27] at A15)
          (try rw [hji27] at A23)
          (try rw [hji27] at A24)
          (try rw [hji27] at A26)
          have hji27w : (IntKind.i64.wrap ((y227.length : Int) - (t230.length : Int))) = ji27 := (qZ _).trans hji27
          by_cases c28 : 0 ≤ (ji27)
          ·
           rw [if_pos c28] at H
           have c28b0 := eq_true c28
           have c28b1 := decide_eq_true c28
           clear c28
           by_cases c29 : (ji27 : Int).toNat ≤ 35184372088832
           ·
            rw [if_pos c29] at H
            have c29b0 := eq_true c29
            have c29b1 := decide_eq_true c29
            clear c29
            obtain ⟨y233, hy233⟩ : ∃ y_ : List Int, y_ = (List.replicate (ji27 : Int).toNat 0) := ⟨_, rfl⟩
            replace H : (jy.l0 kj2 t220 y227 t230 y233 (wrap64 ((y233.length : Int) - 1))) = some (r1, r2, r3) := by first | (rw [hy233]; with_reducible exact H) | (have H2_ := (Option.bind_some _ _).symm.trans H; rw [hy233]; with_reducible exact H2_) | (with_reducible exact hs_ H) | with_reducible exact H | (rw [hy233]; exact H) | exact H
            have Ny233 := jA.mk hy233
            clear hy233
            have H' := jA.mk H
            clear H
            go_wp2_with (first | ((with_reducible refine jH (f := 98) rfl ?_); refine gl_ (some 47) Try.func98 #[.slice A0 l0.length c0, .slice A1 l1.length c1] ?_; (with_reducible refine (vN.calls kj2 _ _ l0 _ _ l1 t215 _ ?side1 ?side2 ?side3 ?side4 A15.out).mono ?_); (case side1 => exact cb_ HR0 HB); (case side2 => exact HC0.out); (case side3 => exact cb_ HR1 HB); (case side4 => exact HC1.out); rintro e w30 ⟨rfl, hb⟩; refine ⟨_, rfl, ?_⟩; replace HB := bs_ HB hb; have p219 : 0 ≤ ((ji20) : Int) := of_decide_eq_true am_; have q219 : (ji20) < (l1.length : Int) := of_decide_eq_true am_; obtain ⟨ad219, e219, hx219_0⟩ := Kd.vw HR1.out (ji20) p219 q219; cases e219; replace hx219_0 := (HB.out.cell (World.block_lt_of_cell? w _ hx219_0)).trans hx219_0; replace p219 := eq_true p219; replace q219 := eq_true q219) | ((with_reducible refine jH (f := 99) rfl ?_); refine jHw (some 57) rfl rfl Try.func99 kr_ rfl #[.int .u64 (rd l1 (ji20))] rfl (by (try simp only [List.map_toArray, List.map_cons, List.map_nil]); first | done | (simp only [hji20]; rfl) | rfl | (simp only [List.length_drop, List.length_take]; rfl)) ?_; (with_reducible refine (bits_LeadingZeros64.calls (rd l1 (ji20)) t220 _ A23.out).mono ?_); rintro e w31 ⟨rfl, hb⟩; refine ⟨_, rfl, ?_⟩; replace HB := bs_ HB hb) | ((with_reducible refine jH (f := 100) rfl ?_); refine gl_ (some 60) Try.func100 #[.slice A0 l0.length c0, .int .i64 t220] ?_; (with_reducible refine (jK.calls kj2 _ _ l0 t220 t221 _ ?side1 ?side2 A24.out).mono ?_); (case side1 => exact cb_ HR0 HB); (case side2 => exact HC0.out); rintro e w32 ⟨v222, rfl, ho0, hb⟩; refine ⟨_, rfl, ?_⟩; have HO223 := jA.mk (Kd.jN ho0 (jC (bb_ HB))); replace HB := bs_ HB hb) | ((with_reducible refine jX (N := 61) rfl ?_); refine Kd.jAC (Kd.int .u64) _ 22 ?hg (N := 61) ?hd (xs := ([0, 0] : List Int)) (inner := [.int .u64 0, .int .u64 0]) (ok := fun _ => True) (okp := fun _ => True) ?hr ?hp (fun _ hk => hk) trivial (Below.refl _ _) (Nat.le_refl _) (by simp) ?_; (case hd => rfl); (case hg => rfl); (case hr => exact gs_); (case hp => exact (Reps.one (show Kd.M (Kd.int .u64) _ _ _ 0 [.int .u64 0] from rfl) (Reps.one (show Kd.M (Kd.int .u64) _ _ _ 0 [.int .u64 0] from rfl) (Reps.none _ _)))); intro v225 w33 ho34 hb hg_ hnew_; clear hg_ hnew_; (first | rw [← Ny224.out] at ho34 | (simp only [Int.reduceToNat] at ho34; rw [← Ny224.out] at ho34)); have HO226 := jA.mk (Kd.jN (Kd.jL ho34 (Kd.R_lt (rR_ HO223))) (jC (bb_ HB))); replace HO223 := re_ HO223 ho34 hb; replace HB := bs_ HB hb; clear hb ho34; obtain ⟨Ao36, co36, rfl⟩ := Kd.jV HO226.out) | ((with_reducible refine vW (b := .append) (xs := #[.tmp 60, .tmp 61]) rfl ?_); at_builtin; refine Kd.jAT (Kd.int .u64) (w0 := w) w.heap.size rfl (.tmp 60) (.tmp 61) 35 22 (.int .u64 0) 8 rfl Try.underlying35 qI rfl (by decide) (by omega) v222 t221 y224 _ _ _ (fun k_ => some k_ ≠ (.slice Ao36 y224.length co36 : Value).ownBlock) (fun _ => False) rfl rfl ?aO ?aR (fun _ _ h => h) (fun _ h => h.elim) ?aF ?aB ?aS ?aL ?_; (case aR => exact cc_ (Kd.jE HO226.out).2.2); (case aB => exact (bb_ HB)); (case aF => exact (fun k_ hk => Kd.fresh' (Kd.R_lt (rR_ HO226)) k_ hk)); (case aO => exact (by refine pR_ ?_; exact Kd.jT HO223.out (fun _ hk => hk.2))); (case aS => exact (jC (bb_ HB))); (case aL => have := LMc25.out; omega); intro v228 w35 ho hb hg hat; rw [← Ny227.out] at ho; replace HO226 := jA.mk (Kd.zW (ok := (fun _ => True)) (rR_ HO226) hg hat); replace HB := jA.mk (hb); have HO229 := jA.mk (ho); clear HO223 ho hb hg hat) | ((with_reducible refine jH (f := 100) rfl ?_); refine gl_ (some 65) Try.func100 #[.slice (some ad219) l1.length c1, .int .i64 t220] ?_; (with_reducible refine (jK.calls kj2 _ _ l1 t220 t230 _ ?side1 ?side2 A26.out).mono ?_); (case side1 => exact cb_ HR1 HB); (case side2 => exact HC1.out); rintro e w37 ⟨v231, rfl, ho0, hb⟩; refine ⟨_, rfl, ?_⟩; have HO232 := jA.mk (Kd.jN (Kd.jL (Kd.jL ho0 (Kd.R_lt (rR_ HO226))) (Kd.R_lt (rR_ HO229))) (jC (bb_ HB))); replace HO226 := re_ HO226 ho0 hb; replace HO229 := re_ HO229 ho0 hb; replace HB := bs_ HB hb; obtain ⟨Ao38, co38, rfl⟩ := Kd.jV HO229.out; obtain ⟨Ao39, co39, rfl⟩ := Kd.jV HO232.out) | ((with_reducible refine jX (N := 71) rfl ?_); refine Kd.jGm (Kd.int .u64) _ 22 rfl (N := 71) rfl 35 _ _ rfl ji27 rfl rfl Try.underlying35 (.int .u64 0) 8 qI rfl (by decide) (by omega) 0 (ok := fun _ => True) (okp := fun _ => True) rfl (fun _ hk => hk) trivial (of_decide_eq_true am_) (Nat.le_trans (Nat.mul_le_mul_right _ (of_decide_eq_true am_ : ji27.toNat ≤ 35184372088832)) (by omega)) (Below.refl _ _) (Nat.le_refl _) ?_; intro v234 w40 ho41 hb hg_ hnew_; clear hg_ hnew_; (first | rw [← Ny233.out] at ho41 | (simp only [Int.reduceToNat] at ho41; rw [← Ny233.out] at ho41)); have HO235 := jA.mk (Kd.jN (Kd.jL (Kd.jL (Kd.jL ho41 (Kd.R_lt (rR_ HO226))) (Kd.R_lt (rR_ HO229))) (Kd.R_lt (rR_ HO232))) (jC (bb_ HB))); replace HO226 := re_ HO226 ho41 hb; replace HO229 := re_ HO229 ho41 hb; replace HO232 := re_ HO232 ho41 hb; replace HB := bs_ HB hb; clear hb ho41; obtain ⟨Ao42, co42, rfl⟩ := Kd.jV HO235.out))
            go_loopg [14] kj2 (fun kq v14 w' => ∃ (x11_2 x13_2 : List Int) (x14_2 : Int), v14 = .int .i64 x14_2 ∧ jA (jy.l0 kq t220 x11_2 t230 x13_2 x14_2 = some (r1, r2, r3)) ∧ jA (kq ≤ kj2) ∧ jA (Kd.R (Kd.int .u64) 22 w' w.heap.size (fun k_ => some k_ ≠ ((.slice Ao39 t230.length co39) : Value).ownBlock ∧ some k_ ≠ ((.slice Ao42 y233.length co42) : Value).ownBlock) (.slice Ao38 y227.length co38) x11_2) ∧ jA (Kd.R (Kd.int .u64) 22 w' w.heap.size (fun k_ => some k_ ≠ ((.slice Ao38 y227.length co38) : Value).ownBlock ∧ some k_ ≠ ((.slice Ao42 y233.length co42) : Value).ownBlock) (.slice Ao39 t230.length co39) t230) ∧ jA (Kd.R (Kd.int .u64) 22 w' w.heap.size (fun k_ => some k_ ≠ ((.slice Ao38 y227.length co38) : Value).ownBlock ∧ some k_ ≠ ((.slice Ao39 t230.length co39) : Value).ownBlock) (.slice Ao42 y233.length co42) x13_2) ∧ jA (Below w.heap.size w w'))
            case atStart => exact ⟨(y227), (y233), (wrap64 ((y233.length : Int) - 1)), sd_, H', ⟨Nat.le_refl _⟩, ⟨by (with_reducible repeat (first | apply Kd.zM | apply Kd.zT | apply Kd.zZ)); exact Kd.jT HO229.out (fun _ hk => ⟨hk.1.2, hk.2⟩)⟩, ⟨by (with_reducible repeat (first | apply Kd.zM | apply Kd.zT | apply Kd.zZ)); exact Kd.jT HO232.out (fun _ hk => ⟨hk.1.2, hk.2⟩)⟩, ⟨by (with_reducible repeat (first | apply Kd.zM | apply Kd.zT | apply Kd.zZ)); exact Kd.jT HO235.out (fun _ hk => ⟨hk.1.2, hk.2⟩)⟩, ⟨(bb_ HB)⟩⟩
            case round =>
             clear H'
             try clear c1
             try clear c2
             try clear p2
             try clear q2
             try clear hx2
             try clear qi2
             try clear c5
             try clear c6
             try clear p6
             try clear c7
             try clear c8
             try clear c8b0
             try clear c8b1
             try clear c8b2
             try clear c9
             try clear c9b0
             try clear c9b1
             try clear c10
             try clear c10b0
             try clear c10b1
             try clear c16
             try clear c16b0
             try clear p20
             try clear q20
             try clear hx20
             try clear qi20
             try clear c21
             try clear c21b0
             try clear p21
             try clear q21
             try clear hx21
             try clear c22
             try clear c22b0
             try clear c25
             try clear c28
             try clear c28b0
             try clear c28b1
             try clear c29
             try clear c29b0
             try clear c29b1
             try clear hx206_0
             try clear hx219_0
             try clear p2
             try clear p206
             try clear p219
             try clear q206
             try clear q219
             obtain ⟨x11_2, x13_2, x14_2, rfl, HA, HK2, HO_11, HO_12, HO_13, HB⟩ := hrel
             have hl11_2 := (Kd.jE HO_11.out).1
             rw [hl11_2] at HO_11
             (try simp only [hl11_2])
             (try simp only [hl11_2] at HO_12)
             (try simp only [hl11_2] at HO_13)
             have hl13_2 := (Kd.jE HO_13.out).1
             rw [hl13_2] at HO_13
             (try simp only [hl13_2])
             (try simp only [hl13_2] at HO_11)
             (try simp only [hl13_2] at HO_12)
             cases gk with
             | zero => exact absurd HA.out (by simp [jy.l0])
             | succ k2 =>
              have H := HA.out
              clear HA
              simp only [jy.l0] at H
              by_cases c43 : x14_2 ≥ 0
              ·
               rw [if_pos c43] at H
               have c43b0 := decide_eq_true c43
               clear c43
               obtain ⟨ji44, hji44⟩ : ∃ j_ : Int, (mn (wrap64 ((wrap64 (x14_2 + (t230.length : Int))) + 1)) (x11_2.length : Int)) = j_ := ⟨_, rfl⟩
               replace H : (if 0 ≤ x14_2 then (if x14_2 ≤ (ji44) then (if (ji44) ≤ (x11_2.length : Int) then ((je.f k2 ((x11_2.take ((ji44) : Int).toNat).drop (x14_2 : Int).toNat) t230).bind fun t240 => (if x14_2 < (x13_2.length : Int) then (jy.l0 k2 t220 (Go.splice x11_2 (x14_2 : Int).toNat t240.2) t230 (x13_2.set (x14_2 : Int).toNat t240.1) (wrap64 (x14_2 - 1))) else (none))) else (none)) else (none)) else (none)) = some (r1, r2, r3) := by first | (rw [hji44] at H; exact H) | (simp only [hji44] at H ⊢; exact H)
               have hji44_ : (if (x11_2.length : Int) < (wrap64 ((wrap64 (x14_2 + (t230.length : Int))) + 1)) then (x11_2.length : Int) else (wrap64 ((wrap64 (x14_2 + (t230.length : Int))) + 1))) = ji44 := hji44
               by_cases c45 : 0 ≤ x14_2
               ·
                rw [if_pos c45] at H
                have c45b0 := eq_true c45
                have c45b1 := decide_eq_true c45
                clear c45
                by_cases c46 : x14_2 ≤ (ji44)
                ·
                 rw [if_pos c46] at H
                 have c46b0 := eq_true c46
                 have c46b1 := decide_eq_true c46
                 clear c46
                 by_cases c47 : (ji44) ≤ (x11_2.length : Int)
                 ·
                  rw [if_pos c47] at H
                  have c47b0 := eq_true c47
                  have c47b1 := decide_eq_true c47
                  clear c47
                  obtain ⟨y236, hy236⟩ : ∃ y_ : List Int, y_ = ((x11_2.take ((ji44) : Int).toNat).drop (x14_2 : Int).toNat) := ⟨_, rfl⟩
                  replace H : ((je.f k2 y236 t230).bind fun t240 => (if x14_2 < (x13_2.length : Int) then (jy.l0 k2 t220 (Go.splice x11_2 (x14_2 : Int).toNat t240.2) t230 (x13_2.set (x14_2 : Int).toNat t240.1) (wrap64 (x14_2 - 1))) else (none))) = some (r1, r2, r3) := by first | (rw [hy236]; with_reducible exact H) | (have H2_ := (Option.bind_some _ _).symm.trans H; rw [hy236]; with_reducible exact H2_) | (with_reducible exact hs_ H) | with_reducible exact H | (rw [hy236]; exact H) | exact H
                  have Ny236 := jA.mk hy236
                  clear hy236
                  obtain ⟨t240, A48, H⟩ := oc_ H
                  try dsimp only at H
                  by_cases c49 : x14_2 < (x13_2.length : Int)
                  ·
                   rw [if_pos c49] at H
                   have c49b0 := decide_eq_true c49
                   (try simp only [hl13_2] at c49b0)
                   clear c49
                   obtain ⟨y241, hy241⟩ : ∃ y_ : List Int, y_ = (x13_2.set (x14_2 : Int).toNat t240.1) := ⟨_, rfl⟩
                   replace H : (jy.l0 k2 t220 (Go.splice x11_2 (x14_2 : Int).toNat t240.2) t230 y241 (wrap64 (x14_2 - 1))) = some (r1, r2, r3) := by first | (rw [hy241]; with_reducible exact H) | (have H2_ := (Option.bind_some _ _).symm.trans H; rw [hy241]; with_reducible exact H2_) | (with_reducible exact hs_ H) | with_reducible exact H | (rw [hy241]; exact H) | exact H
                   have Ny241 := jA.mk hy241
                   clear hy241
                   have H' := jA.mk H
                   clear H
                   have q51 : ((ji44) : Int) ≤ ((x11_2.length : Int) : Int) := of_decide_eq_true am_
                   obtain ⟨i051, hi051, _, hsz51, _⟩ := info_parts qI
                   have hroom51 : x11_2.length ≤ co38 := (Kd.jE HO_11.out).2.1
                   have hC51 : Kd.C (Kd.int .u64) _ Ao38 x11_2.length x11_2 := (Kd.jE HO_11.out).2.2
                   have ql51 : (x14_2 : Int) ≤ ((ji44) : Int) := of_decide_eq_true am_
                   have q051 : (0 : Int) ≤ (x14_2 : Int) := of_decide_eq_true am_
                   have hcut51 := jIs (P := Try.prog) 35 22 .i64 .i64 Try.underlying35 hi051 1 hsz51 Ao38 x11_2.length co38 x14_2 (ji44) q051 ql51 q51 hroom51
                   have hr51 := Kd.jKs (lo := (x14_2 : Int).toNat) (hi := ((ji44) : Int).toNat) (c := co38) hC51 (by omega) (by omega) hroom51
                   obtain ⟨A51, hA51⟩ : ∃ A1, A1 = (if co38 = (x14_2 : Int).toNat then Ao38 else (Ao38 : Option Addr).map (·.add ((x14_2 : Int).toNat * 1))) := ⟨_, rfl⟩
                   obtain ⟨c51, hc51⟩ : ∃ c1, c1 = co38 - (x14_2 : Int).toNat := ⟨_, rfl⟩
                   have hy51 : y236.length = ((ji44) : Int).toNat - (x14_2 : Int).toNat := (by rw [Ny236.out, List.length_drop, List.length_take] <;> omega)
                   rw [show ((x11_2).take ((ji44) : Int).toNat).drop (x14_2 : Int).toNat = y236 from Ny236.out.symm] at hr51
                   replace hr51 : Kd.C (Kd.int .u64) _ A51 y236.length y236 := (by rw [hA51]; exact hr51)
                   rw [← hy51, ← hA51, ← hc51] at hcut51
                   have HR239 := jA.mk hr51
                   have HC239 := jA.mk (show y236.length ≤ c51 from by rw [hy51, hc51]; exact Nat.sub_le_sub_right (Nat.le_trans (by omega) hroom51) _)
                   clear hr51 hC51 hroom51 hi051 hsz51 hc51
                   have KY51 := jA.mk hy51
                   have KA51 := jA.mk hA51
                   clear hy51 hA51
                   have KL51 := jA.mk (show ((ji44) : Int).toNat ≤ x11_2.length from by omega)
                   have KM51 := jA.mk (show (x14_2 : Int).toNat ≤ ((ji44) : Int).toNat from by omega)
                   replace q51 := eq_true q51
                   obtain ⟨d_, u1_⟩ := t240
                   have hdl := je.len A48.out
                   have hdu := je.len2 A48.out
                   have hx11 : 0 < x11_2.length := by have := KL51.out; have := KM51.out; have := KY51.out; omega
                   obtain ⟨ga, ca, ea, hga0, hga1, -⟩ := Kd.jAB HO_11.out hx11
                   injection ea with ea_ en_ ec_
                   subst ea_
                   clear en_
                   subst ec_
                   obtain ⟨cur, hcur, hcl, hspl⟩ := jGl (i := (x14_2 : Int).toNat) HO_11.out
                   have hA_ : A51 = some ⟨ga, (x14_2 : Int).toNat, none⟩ := by rw [KA51.out, if_neg (by have := KL51.out; have := KM51.out; have := KY51.out; have := (Kd.jE HO_11.out).2.1; omega), Option.map_some, Nat.mul_one, add_plain]
                   have hq13 : x14_2 < (x13_2.length : Int) := of_decide_eq_true am_
                   have hp13 : 0 ≤ x14_2 := of_decide_eq_true am_
                   obtain ⟨go_, co_, eo_, hgo0, hgo1, -⟩ := Kd.jAB HO_13.out (by omega)
                   injection eo_ with ea_ en_ ec_
                   subst ea_
                   clear en_
                   subst ec_
                   have hRW := HR239.out
                   rw [hA_] at hRW
                   have HFX := jA.mk (show (x14_2 : Int).toNat + y236.length ≤ x11_2.length ∧ (x14_2 : Int).toNat + y236.length ≤ cur.length from by have := KL51.out; have := KM51.out; have := KY51.out; omega)
                   have HCUR := jA.mk hcur
                   have HSPL := jA.mk hspl
                   have HRW := jA.mk hRW
                   have HDU := jA.mk hdu
                   have HGA := jA.mk (And.intro hga0 hgo0)
                   subst hA_
                   clear hcur hcl hspl hRW hdu hdl hx11 hga0 hga1 hgo0 hgo1 HR239
                   replace hq13 := eq_true hq13
                   replace hp13 := eq_true hp13
                   go_wp2_with fail
                   refine (je.calls k2 ga (x14_2 : Int).toNat _ _ _ y236 t230 u1_ d_ cur _ HRW.out HC239.out HCUR.out HFX.out.2 (Kd.jE HO_12.out).2.2 (Kd.jE HO_12.out).2.1 A48.out).mono ?_
                   rintro e w52 ⟨rfl, hg, hc⟩
                   have n0_ := jA.mk (HSPL.out w52 u1_ (by rw [HDU.out]; exact HFX.out.1) hc)
                   have n1_ := jA.mk (Kd.jGn HO_12.out hg (fun k_ hk_ => hk_.1))
                   have n2_ := jA.mk (Kd.jGn HO_13.out hg (fun k_ hk_ => hk_.1))
                   have n3_ := jA.mk (jES HB.out hg HGA.out.1)
                   clear HO_11 HO_12 HO_13 HB hg hc
                   have HO_11 := n0_
                   have HO_12 := n1_
                   have HO_13 := n2_
                   have HB := n3_
                   clear n0_ n1_ n2_ n3_
                   obtain ⟨hx50_0, hf50_0⟩ := Kd.zK 0 HO_13.out (x14_2 : Int) (of_decide_eq_true am_) (of_decide_eq_true am_)
                   have HP := Kd.qw HO_13.out (x14_2 : Int) d_
                   have HP_ := jA.mk HP.1
                   clear HP
                   go_wp2
                   (try simp only [← hl13_2])
                   (try simp only [← hl11_2])
                   go_roundg k2
                   case measure => have := HJ2.out; have := HK2.out; omega
                   case rel =>
                    refine ⟨_, _, _, rfl, H', ⟨by have := HJ2.out; have := HK2.out; omega⟩, ⟨?_⟩, ⟨?_⟩, ⟨?_⟩, ⟨vI HB.out HGA.out.2⟩⟩
                    ·
                     (try simp only [hl13_2, hl11_2]); exact Kd.vQ HO_11.out (fun k_ hk_ e_ => hk_.2 (by rw [e_]; rfl)) _
                    ·
                     (try simp only [hl13_2, hl11_2]); exact Kd.vQ HO_12.out (fun k_ hk_ e_ => hk_.2 (by rw [e_]; rfl)) _
                    ·
                     (try simp only [hl13_2, hl11_2]); rw [Ny241.out]; exact HP_.out
                  ·
                   rw [if_neg c49] at H
                   exact absurd H (by simp)
                 ·
                  rw [if_neg c47] at H
                  exact absurd H (by simp)
                ·
                 rw [if_neg c46] at H
                 exact absurd H (by simp)
               ·
                rw [if_neg c45] at H
                exact absurd H (by simp)
              ·
               rw [if_neg c43] at H
               have c43b0 := decide_eq_false c43
               clear c43
               obtain ⟨t242, A55, H⟩ := oc_ H
               try dsimp only at H
               obtain ⟨t245, A56, H⟩ := oc_ H
               try dsimp only at H
               simp only [Option.some.injEq, Prod.mk.injEq] at H
               obtain ⟨rfl, rfl, rfl⟩ := H
               go_wp2_with (first | ((with_reducible refine jH (f := 96) rfl ?_); refine gl_ (some 96) Try.func96 #[.slice Ao42 x13_2.length co42] ?_; (with_reducible refine (vP.calls k2 _ _ x13_2 t242 _ ?side1 ?side2 A55.out).mono ?_); (case side1 => exact cc_ (Kd.jE HO_13.out).2.2); (case side2 => exact (Kd.jE HO_13.out).2.1); rintro e w57 ⟨v243, rfl, ho0, hb⟩; refine ⟨_, rfl, ?_⟩; have HO244 := jA.mk (Kd.jN (Kd.jL (Kd.jL (Kd.jL ho0 (Kd.R_lt (rR_ HO_11))) (Kd.R_lt (rR_ HO_12))) (Kd.R_lt (rR_ HO_13))) (jC (bb_ HB))); replace HO_11 := re_ HO_11 ho0 hb; replace HO_12 := re_ HO_12 ho0 hb; replace HO_13 := re_ HO_13 ho0 hb; replace HB := bs_ HB hb) | ((with_reducible refine jH (f := 100) rfl ?_); refine gl_ (some 100) Try.func100 #[.slice Ao38 x11_2.length co38, .int .i64 (wrap64 (-t220))] ?_; (with_reducible refine (jK.calls k2 _ _ x11_2 (wrap64 (-t220)) t245 _ ?side1 ?side2 A56.out).mono ?_); (case side1 => exact cc_ (Kd.jE HO_11.out).2.2); (case side2 => exact (Kd.jE HO_11.out).2.1); rintro e w58 ⟨v246, rfl, ho0, hb⟩; refine ⟨_, rfl, ?_⟩; have HO247 := jA.mk (Kd.jN (Kd.jL (Kd.jL (Kd.jL (Kd.jL ho0 (Kd.R_lt (rR_ HO_11))) (Kd.R_lt (rR_ HO_12))) (Kd.R_lt (rR_ HO_13))) (Kd.R_lt (rR_ HO244))) (jC (bb_ HB))); replace HO_11 := re_ HO_11 ho0 hb; replace HO_12 := re_ HO_12 ho0 hb; replace HO_13 := re_ HO_13 ho0 hb; replace HO244 := re_ HO244 ho0 hb; replace HB := bs_ HB hb))
               go_ret3
               exact ⟨_, _, by first | rfl | (simp [vY, vX] <;> rfl) | (simp only [← hji20, ← hji27]; first | rfl | (simp [vY, vX] <;> rfl)) | (simp [*, vY, vX] <;> rfl), by refine pR_ ?_; exact Kd.jT HO244.out (fun _ hk => hk.2), by refine pR_ ?_; exact Kd.jT HO247.out (fun _ hk => hk.2), (bb_ HB)⟩
           ·
            rw [if_neg c29] at H
            exact absurd H (by simp)
          ·
           rw [if_neg c28] at H
           exact absurd H (by simp)
         ·
          rw [if_neg c25] at H
          exact absurd H (by simp)
        ·
         rw [if_neg c22] at H
         exact absurd H (by simp)
       ·
        rw [if_neg c21] at H
        exact absurd H (by simp)
mutual
def vE.j0 : Nat → List Int → List Int → Bool → Option (List Int × Int)
 | 0, _, _, _ => none
 | k + 1, x0, x1, x16 => if x16 = true then (some (([] : List Int), 1)) else ((vP.f k x0).bind fun t250 => ((vP.f k x1).bind fun t253 => (vE.l0 k t250 t253)))
def vE.l0 : Nat → List Int → List Int → Option (List Int × Int)
 | 0, _, _ => none
 | k + 1, x0, x1 => if (x1.length : Int) > 0 then ((jy.f k x0 x1).bind fun bt256 => (vE.l0 k x1 bt256.2.1)) else (some (x0, 0))
end
def vE.f (k : Nat) (l0 : List Int) (l1 : List Int) : Option (List Int × Int) := (qR.f l0).bind fun t248 => (if t248 = true then ((qR.f l1).bind fun t249 => (vE.j0 k l0 l1 (!t249))) else (vE.j0 k l0 l1 true))
theorem vE.vS : ∀ k, (∀ y0 y1 y2, LeO (vE.j0 k y0 y1 y2) (vE.j0 (k + 1) y0 y1 y2)) ∧ (∀ y0 y1, LeO (vE.l0 k y0 y1) (vE.l0 (k + 1) y0 y1))
 | 0 => ⟨fun _ _ _ r h => by simp [vE.j0] at h, fun _ _ r h => by simp [vE.l0] at h⟩
 | k + 1 => by
  obtain ⟨ih0, ih1⟩ := vE.vS k
  refine ⟨?_, ?_⟩ <;> (intros; first | unfold vE.j0 | unfold vE.l0) <;> repeat' first
   | (with_reducible exact ih0 _ _ _)
   | (with_reducible exact ih1 _ _)
   | (with_reducible exact vP.mono _ _)
   | (with_reducible exact jy.mono _ _ _)
   | (with_reducible exact LeO.refl _)
   | (with_reducible exact LeO.none _)
   | (with_reducible refine LeO.ite ?_ ?_)
   | (with_reducible refine LeO.bind ?_ (fun _ => ?_))
theorem vE.mono : ∀ a0 a1 k, LeO (vE.f k a0 a1) (vE.f (k + 1) a0 a1) := by
 intro a0 a1 k
 obtain ⟨ih0, ih1⟩ := vE.vS k
 unfold vE.f
 repeat' first
   | (with_reducible exact ih0 _ _ _)
   | (with_reducible exact ih1 _ _)
   | (with_reducible exact vP.mono _ _)
   | (with_reducible exact jy.mono _ _ _)
   | (with_reducible exact LeO.refl _)
   | (with_reducible exact LeO.none _)
   | (with_reducible refine LeO.ite ?_ ?_)
   | (with_reducible refine LeO.bind ?_ (fun _ => ?_))
theorem vE.calls (k : Nat) (A0 : Option Addr) (c0 : Nat) (l0 : List Int) (A1 : Option Addr) (c1 : Nat) (l1 : List Int) (r1 : List Int) (r2 : Int) (w : World) (hr0 : Kd.C (Kd.int .u64) w A0 l0.length l0) (hc0 : l0.length ≤ c0) (hr1 : Kd.C (Kd.int .u64) w A1 l1.length l1) (hc1 : l1.length ≤ c1) (h : vE.f k l0 l1 = some (r1, r2)) :
  Calls Try.prog 71 #[.slice A0 l0.length c0, .slice A1 l1.length c1] w fun e w' => ∃ v0_ : Value, e = .returned (.tuple #[v0_, .int .i64 r2]) ∧ Kd.R (Kd.int .u64) 22 w' w.heap.size (fun _ => True) v0_ r1 ∧ Below w.heap.size w w' := by
 have HR0 := jA.mk hr0
 have HC0 := jA.mk hc0
 clear hr0 hc0
 have HR1 := jA.mk hr1
 have HC1 := jA.mk hc1
 clear hr1 hc1
 have HB := jA.mk (Below.refl w.heap.size w)
 have H : ((qR.f l0).bind fun t248 => (if t248 = true then ((qR.f l1).bind fun t249 => (vE.j0 k l0 l1 (!t249))) else (vE.j0 k l0 l1 true))) = some (r1, r2) := h
 clear h
 have HC3 := jA.mk H
 clear H
 go_enter Try.func71, Try.ntmps71
 go_upto_region 1 with (fail)
 go_cut [16] (fun v16 wc => ∃ (kq : Nat) (x16_2 : Bool), v16 = .bool x16_2 ∧ jA (vE.j0 kq l0 l1 x16_2 = some (r1, r2)) ∧ jA (kq ≤ k) ∧ jA (Below w.heap.size w wc))
 case first =>
  have H := HC3.out
  clear HC3
  obtain ⟨t248, A4, H⟩ := oc_ H
  try dsimp only at H
  by_cases c5 : t248 = true
  ·
   subst c5
   replace H := ip_ H
   obtain ⟨t249, A6, H⟩ := oc_ H
   try dsimp only at H
   have H' := jA.mk H
   clear H
   go_wp2_with (first | ((with_reducible refine jH (f := 64) rfl ?_); refine gl_ (some 10) Try.func64 #[.slice A0 l0.length c0] ?_; (with_reducible refine (qR.calls _ _ l0 true _ ?side1 ?side2 A4.out).mono ?_); (case side1 => exact cb_ HR0 HB); (case side2 => exact HC0.out); rintro e w' ⟨rfl, ⟨nd, rfl⟩⟩; refine ⟨_, rfl, ?_⟩) | ((with_reducible refine jX (N := 14) rfl ?_); refine jr (by first | rfl | kernel_rfl) ?_; dsimp only; (with_reducible refine jH (f := 64) rfl ?_); refine gl_ (some 14) Try.func64 #[.slice A1 l1.length c1] ?_; (with_reducible refine (qR.calls _ _ l1 t249 _ ?side1 ?side2 A6.out).mono ?_); (case side1 => repeat (first | exact (Kd.zl HR1.out (bb_ HB)) | (with_reducible refine Kd.zJ ?_ _) | (with_reducible refine Kd.zU ?_ _) | (with_reducible refine Kd.zx ?_))); (case side2 => exact HC1.out); rintro e w' ⟨rfl, ⟨nd, rfl⟩⟩; refine ⟨_, rfl, ?_⟩))
   go_meet
   case rel => exact ⟨_, (!t249), sd_, H', ⟨by first | omega | exact Nat.le_refl _⟩, ⟨(bb_ HB)⟩⟩
  ·
   replace c5 := Bool.eq_false_iff.mpr c5
   subst c5
   replace H := in_ H
   have H' := jA.mk H
   clear H
   go_wp2_with (first | ((with_reducible refine jH (f := 64) rfl ?_); refine gl_ (some 10) Try.func64 #[.slice A0 l0.length c0] ?_; (with_reducible refine (qR.calls _ _ l0 false _ ?side1 ?side2 A4.out).mono ?_); (case side1 => exact cb_ HR0 HB); (case side2 => exact HC0.out); rintro e w' ⟨rfl, ⟨nd, rfl⟩⟩; refine ⟨_, rfl, ?_⟩))
   go_meet
   case rel => exact ⟨_, (true), sd_, H', ⟨by first | omega | exact Nat.le_refl _⟩, ⟨(bb_ HB)⟩⟩
 case rest =>
  clear HC3
  try clear c1
  try clear p2
  try clear c5
  try clear c6
  obtain ⟨kq, x16_2, rfl, HA, HJ2, HB⟩ := hcut
  cases kq with
  | zero => exact absurd HA.out (by simp [vE.j0])
  | succ kj2 =>
   have H := HA.out
   clear HA
   simp only [vE.j0] at H
   by_cases c7 : x16_2 = true
   ·
    subst c7
    replace H := ip_ H
    simp only [Option.some.injEq, Prod.mk.injEq] at H
    obtain ⟨rfl, rfl⟩ := H
    go_wp2
    go_ret2
    exact ⟨_, ew_, nl_, (bb_ HB)⟩
   ·
    replace c7 := Bool.eq_false_iff.mpr c7
    subst c7
    replace H := in_ H
    obtain ⟨t250, A8, H⟩ := oc_ H
    try dsimp only at H
    obtain ⟨t253, A9, H⟩ := oc_ H
    try dsimp only at H
    have H' := jA.mk H
    clear H
    go_wp2_with (first | ((with_reducible refine jH (f := 96) rfl ?_); refine gl_ (some 18) Try.func96 #[.slice A0 l0.length c0] ?_; (with_reducible refine (vP.calls kj2 _ _ l0 t250 _ ?side1 ?side2 A8.out).mono ?_); (case side1 => exact cb_ HR0 HB); (case side2 => exact HC0.out); rintro e w10 ⟨v251, rfl, ho0, hb⟩; refine ⟨_, rfl, ?_⟩; have HO252 := jA.mk (Kd.jN ho0 (jC (bb_ HB))); replace HB := bs_ HB hb) | ((with_reducible refine jH (f := 96) rfl ?_); refine gl_ (some 20) Try.func96 #[.slice A1 l1.length c1] ?_; (with_reducible refine (vP.calls kj2 _ _ l1 t253 _ ?side1 ?side2 A9.out).mono ?_); (case side1 => exact cb_ HR1 HB); (case side2 => exact HC1.out); rintro e w11 ⟨v254, rfl, ho0, hb⟩; refine ⟨_, rfl, ?_⟩; have HO255 := jA.mk (Kd.jN (Kd.jL ho0 (Kd.R_lt (rR_ HO252))) (jC (bb_ HB))); replace HO252 := re_ HO252 ho0 hb; replace HB := bs_ HB hb))
    go_loopg [0, 1] kj2 (fun kq v0 v1 w' => ∃ (x0_2 : List Int) (x1_2 : List Int), jA (vE.l0 kq x0_2 x1_2 = some (r1, r2)) ∧ jA (kq ≤ kj2) ∧ jA (Kd.R (Kd.int .u64) 22 w' w.heap.size (fun k_ => some k_ ≠ (v1 : Value).ownBlock) v0 x0_2) ∧ jA (Kd.R (Kd.int .u64) 22 w' w.heap.size (fun k_ => some k_ ≠ (v0 : Value).ownBlock) v1 x1_2) ∧ jA (Below w.heap.size w w'))
    case atStart => exact ⟨(t250), (t253), H', ⟨Nat.le_refl _⟩, ⟨by (with_reducible repeat (first | apply Kd.zM | apply Kd.zT | apply Kd.zZ)); exact Kd.jT HO252.out (fun _ hk => hk.2)⟩, ⟨by (with_reducible repeat (first | apply Kd.zM | apply Kd.zT | apply Kd.zZ)); exact Kd.jT HO255.out (fun _ hk => hk.2)⟩, ⟨(bb_ HB)⟩⟩
    case round =>
     clear H'
     try clear c1
     try clear p2
     try clear c5
     try clear c6
     try clear c7
     try clear c9
     try clear p2
     obtain ⟨x0_2, x1_2, HA, HK2, HO_0, HO_1, HB⟩ := hrel
     cases gk with
     | zero => exact absurd HA.out (by simp [vE.l0])
     | succ k2 =>
      have H := HA.out
      clear HA
      simp only [vE.l0] at H
      by_cases c12 : (x1_2.length : Int) > 0
      ·
       rw [if_pos c12] at H
       have c12b0 := decide_eq_true c12
       have c12b1 : decide (0 < x1_2.length) = true := decide_eq_true (by omega)
       clear c12
       replace H := ob_ H
       obtain ⟨⟨t256, t257, t258⟩, A130, H⟩ := H
       try dsimp only at H
       have A13 := jA.mk A130
       clear A130
       have H' := jA.mk H
       clear H
       obtain ⟨Ao14, co14, eo14⟩ := Kd.jV HO_1.out
       subst eo14
       obtain ⟨Ao15, co15, eo15⟩ := Kd.jV HO_0.out
       subst eo15
       go_wp2_with (first | ((with_reducible refine jH (f := 72) rfl ?_); refine gl_ (some 27) Try.func72 #[.slice Ao15 x0_2.length co15, .slice Ao14 x1_2.length co14] ?_; (with_reducible refine (jy.calls k2 _ _ x0_2 _ _ x1_2 t256 t257 t258 _ ?side1 ?side2 ?side3 ?side4 A13.out).mono ?_); (case side1 => exact cc_ (Kd.jE HO_0.out).2.2); (case side2 => exact (Kd.jE HO_0.out).2.1); (case side3 => exact cc_ (Kd.jE HO_1.out).2.2); (case side4 => exact (Kd.jE HO_1.out).2.1); rintro e w16 ⟨v259, v261, rfl, ho0, ho1, hb⟩; refine ⟨_, rfl, ?_⟩; have HO260 := jA.mk (Kd.jN (Kd.jL (Kd.jL ho0 (Kd.R_lt (rR_ HO_0))) (Kd.R_lt (rR_ HO_1))) (jC (bb_ HB))); have HO262 := jA.mk (Kd.jN (Kd.jL (Kd.jL ho1 (Kd.R_lt (rR_ HO_0))) (Kd.R_lt (rR_ HO_1))) (jC (bb_ HB))); replace HO_0 := jA.mk (Kd.jT (Kd.zQ (Kd.zQ (Kd.jAf (rR_ HO_0) hb) (Kd.vB ho0)) (Kd.vB ho1)) (fun _ h_ => h_.1)); replace HO_1 := jA.mk (Kd.jT (Kd.zQ (Kd.zQ (Kd.jAf (rR_ HO_1) hb) (Kd.vB ho0)) (Kd.vB ho1)) (fun _ h_ => h_.1)); replace HB := bs_ HB hb))
       go_roundg k2
       case measure => have := HJ2.out; have := HK2.out; omega
       case rel => exact ⟨(x1_2), (t257), H', ⟨by have := HJ2.out; have := HK2.out; omega⟩, ⟨by (with_reducible repeat (first | apply Kd.zM | apply Kd.zT | apply Kd.zZ)); exact Kd.jT HO_1.out (fun _ hk => hk.2)⟩, ⟨by (with_reducible repeat (first | apply Kd.zM | apply Kd.zT | apply Kd.zZ)); exact Kd.jT HO262.out (fun _ hk => hk.2)⟩, ⟨(bb_ HB)⟩⟩
      ·
       rw [if_neg c12] at H
       have c12b0 := decide_eq_false c12
       have c12b1 : decide (0 < x1_2.length) = false := decide_eq_false (by omega)
       clear c12
       simp only [Option.some.injEq, Prod.mk.injEq] at H
       obtain ⟨rfl, rfl⟩ := H
       obtain ⟨Ao17, co17, eo17⟩ := Kd.jV HO_1.out
       subst eo17
       go_wp2
       go_ret2
       exact ⟨_, ew_, by refine pR_ ?_; exact Kd.jT HO_0.out (fun _ hk => trivial), (bb_ HB)⟩
def zm.f (k : Nat) (a0 : Bool) (l1 : List Int) (l2 : List Int) : Option (Bool × List Int × List Int × Int) := (vE.f k l1 l2).bind fun bt264 => (if bt264.2 = 0 then (if (l2.length : Int) = 0 then (some (false, ([] : List Int), ([] : List Int), 30)) else ((jy.f k l1 bt264.1).bind fun bt268 => ((jy.f k l2 bt264.1).bind fun bt275 => (if a0 = true then ((zF.f false bt268.1 bt275.1).bind fun t282 => (some (!t282, bt268.1, bt275.1, 0))) else (some (false, bt268.1, bt275.1, 0)))))) else (some (false, ([] : List Int), ([] : List Int), bt264.2)))
theorem zm.mono : ∀ a0 a1 a2 k, LeO (zm.f k a0 a1 a2) (zm.f (k + 1) a0 a1 a2) := by
 intro a0 a1 a2 k
 unfold zm.f
 repeat' first
   | (with_reducible exact jy.mono _ _ _)
   | (with_reducible exact vE.mono _ _ _)
   | (with_reducible exact LeO.refl _)
   | (with_reducible exact LeO.none _)
   | (with_reducible refine LeO.ite ?_ ?_)
   | (with_reducible refine LeO.bind ?_ (fun _ => ?_))
theorem zm.calls (k : Nat) (a0 : Bool) (A1 : Option Addr) (c1 : Nat) (l1 : List Int) (A2 : Option Addr) (c2 : Nat) (l2 : List Int) (r1 : Bool) (r2 : List Int) (r3 : List Int) (r4 : Int) (w : World) (hr1 : Kd.C (Kd.int .u64) w A1 l1.length l1) (hc1 : l1.length ≤ c1) (hr2 : Kd.C (Kd.int .u64) w A2 l2.length l2) (hc2 : l2.length ≤ c2) (h : zm.f k a0 l1 l2 = some (r1, r2, r3, r4)) :
  Calls Try.prog 24 #[.bool a0, .slice A1 l1.length c1, .slice A2 l2.length c2] w fun e w' => ∃ v1_ v2_ : Value, e = .returned (.tuple #[.agg #[.bool r1, v1_, v2_], .int .i64 r4]) ∧ Kd.R (Kd.int .u64) 22 w' w.heap.size (fun k_ => some k_ ≠ (v2_ : Value).ownBlock) v1_ r2 ∧ Kd.R (Kd.int .u64) 22 w' w.heap.size (fun k_ => some k_ ≠ (v1_ : Value).ownBlock) v2_ r3 ∧ Below w.heap.size w w' := by
 have hu44 := Try.underlying44
 have HR1 := jA.mk hr1
 have HC1 := jA.mk hc1
 clear hr1 hc1
 have HR2 := jA.mk hr2
 have HC2 := jA.mk hc2
 clear hr2 hc2
 have HB := jA.mk (Below.refl w.heap.size w)
 have H : ((vE.f k l1 l2).bind fun bt264 => (if bt264.2 = 0 then (if (l2.length : Int) = 0 then (some (false, ([] : List Int), ([] : List Int), 30)) else ((jy.f k l1 bt264.1).bind fun bt268 => ((jy.f k l2 bt264.1).bind fun bt275 => (if a0 = true then ((zF.f false bt268.1 bt275.1).bind fun t282 => (some (!t282, bt268.1, bt275.1, 0))) else (some (false, bt268.1, bt275.1, 0)))))) else (some (false, ([] : List Int), ([] : List Int), bt264.2)))) = some (r1, r2, r3, r4) := h
 clear h
 replace H := ob_ H
 obtain ⟨⟨t264, t265⟩, A40, H⟩ := H
 try dsimp only at H
 have A4 := jA.mk A40
 clear A40
 by_cases c5 : t265 = 0
 ·
  rw [if_pos c5] at H
  have c5b0 := beq_iff_eq.mpr c5
  have c5b1 := bne_eq_false_iff_eq.mpr c5
  clear c5
  by_cases c6 : (l2.length : Int) = 0
  ·
   rw [if_pos c6] at H
   have c6b0 := beq_iff_eq.mpr c6
   have c6b1 := bne_eq_false_iff_eq.mpr c6
   clear c6
   simp only [Option.some.injEq, Prod.mk.injEq] at H
   obtain ⟨rfl, rfl, rfl, rfl⟩ := H
   go_enter Try.func24, Try.ntmps24
   go_wp2_with (first | ((with_reducible refine jX (N := 6) rfl ?_); refine bx_ 6 #[.bool false, .slice none 0 0, .slice none 0 0] 44 ?_; intro gb263 hg w7 hbox hb; have BK263 := jA.mk (hbox); have GW263 := jA.mk ((by rw [hg]; exact (jC (bb_ HB)) : w.heap.size ≤ gb263)); have GE263 := GW263; replace HB := bs_ HB hb; clear hb hbox hg) | ((with_reducible refine jH (f := 71) rfl ?_); refine gl_ (some 12) Try.func71 #[.slice A1 l1.length c1, .slice A2 l2.length c2] ?_; (with_reducible refine (vE.calls k _ _ l1 _ _ l2 t264 t265 _ ?side1 ?side2 ?side3 ?side4 A4.out).mono ?_); (case side1 => exact cb_ HR1 HB); (case side2 => exact HC1.out); (case side3 => exact cb_ HR2 HB); (case side4 => exact HC2.out); rintro e w8 ⟨v266, rfl, ho0, hb⟩; refine ⟨_, rfl, ?_⟩; have HO267 := jA.mk (Kd.jN ho0 (jC (bb1_ HB GE263))); replace BK263 := bk_ BK263 hb; replace HB := jA.mk (jI (bb1_ HB GE263) hb); obtain ⟨hcz9_0, hcz9_1, hcz9_2, hfz9_0, hfz9_1, hfz9_2⟩ := bf3_ BK263))
   refine bodyPost_ret (zn rfl _ _ gb263 44 #[.bool false, .slice none 0 0, .slice none 0 0] (0, 0) _ rfl (by refine pk_ ?_; refine jm (cs := #[.bool false, .slice none 0 0, .slice none 0 0]) ?_ 2 _ rs_; refine pk_ ?_; refine jm (cs := #[.bool false, .slice none 0 0, .slice none 0 0]) ?_ 1 _ rs_; refine pk_ ?_; refine jm (cs := #[.bool false, .slice none 0 0, .slice none 0 0]) ?_ 0 _ rs_; refine pk_ ?_; exact BK263.out) Try.underlying44 rfl kr_) rfl ?_
   exact ⟨_, _, ew_, nl_, nl_, (bb1_ HB GE263)⟩
  ·
   rw [if_neg c6] at H
   have c6b0 := beq_eq_false_iff_ne.mpr c6
   have c6b1 := bne_iff_ne.mpr c6
   have c6b2 : ¬ (l2 = []) := fun h_ => c6 (by rw [h_]; rfl)
   replace H := ob_ H
   obtain ⟨⟨t268, t269, t270⟩, A100, H⟩ := H
   try dsimp only at H
   have A10 := jA.mk A100
   clear A100
   replace H := ob_ H
   obtain ⟨⟨t275, t276, t277⟩, A110, H⟩ := H
   try dsimp only at H
   have A11 := jA.mk A110
   clear A110
   by_cases c12 : a0 = true
   ·
    subst c12
    replace H := ip_ H
    obtain ⟨t282, A13, H⟩ := oc_ H
    try dsimp only at H
    simp only [Option.some.injEq, Prod.mk.injEq] at H
    obtain ⟨rfl, rfl, rfl, rfl⟩ := H
    go_enter Try.func24, Try.ntmps24
    go_wp2_with (first | ((with_reducible refine jX (N := 6) rfl ?_); refine bx_ 6 #[.bool false, .slice none 0 0, .slice none 0 0] 44 ?_; intro gb263 hg w14 hbox hb; have BK263 := jA.mk (hbox); have GW263 := jA.mk ((by rw [hg]; exact (jC (bb_ HB)) : w.heap.size ≤ gb263)); have GE263 := GW263; replace HB := bs_ HB hb; clear hb hbox hg) | ((with_reducible refine jH (f := 71) rfl ?_); refine gl_ (some 12) Try.func71 #[.slice A1 l1.length c1, .slice A2 l2.length c2] ?_; (with_reducible refine (vE.calls k _ _ l1 _ _ l2 t264 t265 _ ?side1 ?side2 ?side3 ?side4 A4.out).mono ?_); (case side1 => exact cb_ HR1 HB); (case side2 => exact HC1.out); (case side3 => exact cb_ HR2 HB); (case side4 => exact HC2.out); rintro e w15 ⟨v266, rfl, ho0, hb⟩; refine ⟨_, rfl, ?_⟩; have HO267 := jA.mk (Kd.jN ho0 (jC (bb1_ HB GE263))); replace BK263 := bk_ BK263 hb; replace HB := jA.mk (jI (bb1_ HB GE263) hb); obtain ⟨Ao16, co16, rfl⟩ := Kd.jV HO267.out) | ((with_reducible refine jH (f := 72) rfl ?_); refine gl_ (some 28) Try.func72 #[.slice A1 l1.length c1, .slice Ao16 t264.length co16] ?_; (with_reducible refine (jy.calls k _ _ l1 _ _ t264 t268 t269 t270 _ ?side1 ?side2 ?side3 ?side4 A10.out).mono ?_); (case side1 => exact cb_ HR1 HB); (case side2 => exact HC1.out); (case side3 => exact cc_ (Kd.jE HO267.out).2.2); (case side4 => exact (Kd.jE HO267.out).2.1); rintro e w17 ⟨v271, v273, rfl, ho0, ho1, hb⟩; refine ⟨_, rfl, ?_⟩; have HO272 := jA.mk (Kd.jN (Kd.jL ho0 (Kd.R_lt (rR_ HO267))) (jC (bb1_ HB GE263))); have HO274 := jA.mk (Kd.jN (Kd.jL ho1 (Kd.R_lt (rR_ HO267))) (jC (bb1_ HB GE263))); replace HO267 := jA.mk (Kd.jT (Kd.zQ (Kd.zQ (Kd.jAf (rR_ HO267) hb) (Kd.vB ho0)) (Kd.vB ho1)) (fun _ h_ => h_.1)); replace BK263 := bk_ BK263 hb; replace HB := jA.mk (jI (bb1_ HB GE263) hb); obtain ⟨Ao18, co18, rfl⟩ := Kd.jV HO272.out; obtain ⟨hcz19_0, hcz19_1, hcz19_2, hfz19_0, hfz19_1, hfz19_2⟩ := bf3_ BK263) | ((with_reducible refine jH (f := 72) rfl ?_); refine gl_ (some 36) Try.func72 #[.slice A2 l2.length c2, .slice Ao16 t264.length co16] ?_; (with_reducible refine (jy.calls k _ _ l2 _ _ t264 t275 t276 t277 _ ?side1 ?side2 ?side3 ?side4 A11.out).mono ?_); (case side1 => exact Kd.zl HR2.out (bb1_ HB GE263)); (case side2 => exact HC2.out); (case side3 => refine (Kd.jE (e := 22) (base := w.heap.size) (ok := fun k_ => ((True ∧ some k_ ≠ (.slice Ao18 t268.length co18 : Value).ownBlock) ∧ some k_ ≠ (v273 : Value).ownBlock)) (n := t264.length) (c := co16) ?_).2.2; exact (rg1_ HO267 BK263)); (case side4 => exact (Kd.jE HO267.out).2.1); rintro e w20 ⟨v278, v280, rfl, ho0, ho1, hb⟩; refine ⟨_, rfl, ?_⟩; have HO279 := jA.mk (Kd.jN (Kd.jL (Kd.jL (Kd.jL ho0 (Kd.R_lt (rg1_ HO267 BK263))) (Kd.R_lt (rg1_ HO272 BK263))) (Kd.R_lt (rg1_ HO274 BK263))) (jC (bb1_ HB GE263))); have HO281 := jA.mk (Kd.jN (Kd.jL (Kd.jL (Kd.jL ho1 (Kd.R_lt (rg1_ HO267 BK263))) (Kd.R_lt (rg1_ HO272 BK263))) (Kd.R_lt (rg1_ HO274 BK263))) (jC (bb1_ HB GE263))); replace HO267 := jA.mk (Kd.jT (Kd.zQ (Kd.zQ (Kd.jAf (rg1_ HO267 BK263) hb) (Kd.vB ho0)) (Kd.vB ho1)) (fun _ h_ => h_.1)); replace HO272 := jA.mk (Kd.jT (Kd.zQ (Kd.zQ (Kd.jAf (rg1_ HO272 BK263) hb) (Kd.vB ho0)) (Kd.vB ho1)) (fun _ h_ => h_.1)); replace HO274 := jA.mk (Kd.jT (Kd.zQ (Kd.zQ (Kd.jAf (rg1_ HO274 BK263) hb) (Kd.vB ho0)) (Kd.vB ho1)) (fun _ h_ => h_.1)); replace BK263 := jA.mk (jJ (g := gb263) (o := .cells #[.bool false, .slice Ao18 t268.length co18, .slice none 0 0] 44 (0, 0)) (by refine pk_ ?_; refine jm (cs := #[.bool false, .slice none 0 0, .slice none 0 0]) ?_ 1 _ rs_; refine pk_ ?_; exact BK263.out) hb); replace HB := jA.mk (jI (bb1_ HB GE263) hb); obtain ⟨Ao21, co21, rfl⟩ := Kd.jV HO279.out; obtain ⟨hcz22_0, hcz22_1, hcz22_2, hfz22_0, hfz22_1, hfz22_2⟩ := bf3_ BK263) | (go_at_call 54; (with_reducible refine (zF.calls false _ _ t268 _ _ t275 t282 _ ?side1 ?side2 ?side3 ?side4 A13.out).mono ?_); (case side1 => refine (Kd.jE (e := 22) (base := w.heap.size) (ok := fun k_ => (((some k_ ≠ (v273 : Value).ownBlock ∧ some k_ ≠ (.slice Ao16 t264.length co16 : Value).ownBlock) ∧ some k_ ≠ (.slice Ao21 t275.length co21 : Value).ownBlock) ∧ some k_ ≠ (v280 : Value).ownBlock)) (n := t268.length) (c := co18) ?_).2.2; exact (rg1_ HO272 BK263)); (case side2 => exact (Kd.jE HO272.out).2.1); (case side3 => refine (Kd.jE (e := 22) (base := w.heap.size) (ok := fun k_ => (((some k_ ≠ (v280 : Value).ownBlock ∧ some k_ ≠ (.slice Ao16 t264.length co16 : Value).ownBlock) ∧ some k_ ≠ (.slice Ao18 t268.length co18 : Value).ownBlock) ∧ some k_ ≠ (v273 : Value).ownBlock)) (n := t275.length) (c := co21) ?_).2.2; exact (rg1_ HO279 BK263)); (case side4 => exact (Kd.jE HO279.out).2.1); rintro e w23 ⟨rfl, hb⟩; replace HO267 := jA.mk (Kd.jAg (rg1_ HO267 BK263) hb); replace HO272 := jA.mk (Kd.jAg (rg1_ HO272 BK263) hb); replace HO274 := jA.mk (Kd.jAg (rg1_ HO274 BK263) hb); replace HO279 := jA.mk (Kd.jAg (rg1_ HO279 BK263) hb); replace HO281 := jA.mk (Kd.jAg (rg1_ HO281 BK263) hb); replace BK263 := jA.mk (jJ (g := gb263) (o := .cells #[.bool false, .slice Ao18 t268.length co18, .slice Ao21 t275.length co21] 44 (0, 0)) (by refine pk_ ?_; refine jm (cs := #[.bool false, .slice Ao18 t268.length co18, .slice none 0 0]) ?_ 2 _ rs_; refine pk_ ?_; exact BK263.out) hb); replace HB := jA.mk (jI (bb1_ HB GE263) hb); obtain ⟨hcz24_0, hcz24_1, hcz24_2, hfz24_0, hfz24_1, hfz24_2⟩ := bf3_ BK263))
    refine bodyPost_ret (zn rfl _ _ gb263 44 #[.bool (!t282), .slice Ao18 t268.length co18, .slice Ao21 t275.length co21] (0, 0) _ rfl (by refine pk_ ?_; refine jm (cs := #[.bool (!t282), .slice Ao18 t268.length co18, .slice Ao21 t275.length co21]) ?_ 2 _ rs_; refine pk_ ?_; refine jm (cs := #[.bool (!t282), .slice Ao18 t268.length co18, .slice Ao21 t275.length co21]) ?_ 1 _ rs_; refine pk_ ?_; refine jm (cs := #[.bool (!t282), .slice Ao18 t268.length co18, .slice Ao21 t275.length co21]) ?_ 0 _ rs_; refine pk_ ?_; refine jm (cs := #[.bool false, .slice Ao18 t268.length co18, .slice Ao21 t275.length co21]) ?_ 0 _ rs_; refine pk_ ?_; exact BK263.out) Try.underlying44 rfl kr_) rfl ?_
    exact ⟨_, _, ew_, by refine pR_ ?_; exact Kd.jT (Kd.vQ (p := ⟨gb263, 2, none⟩) (Kd.vQ (p := ⟨gb263, 1, none⟩) (Kd.vQ (p := ⟨gb263, 0, none⟩) (Kd.vQ (p := ⟨gb263, 0, none⟩) (Kd.jZ HO272.out BK263.out (by decide)) (fun _ hk => hk.2) (.bool (!t282))) (fun _ hk => hk.2) (.bool (!t282))) (fun _ hk => hk.2) (.slice Ao18 t268.length co18)) (fun _ hk => hk.2) (.slice Ao21 t275.length co21)) (fun _ hk => hk.1.1.2), by refine pR_ ?_; exact Kd.jT (Kd.vQ (p := ⟨gb263, 2, none⟩) (Kd.vQ (p := ⟨gb263, 1, none⟩) (Kd.vQ (p := ⟨gb263, 0, none⟩) (Kd.vQ (p := ⟨gb263, 0, none⟩) (Kd.jZ HO279.out BK263.out (by decide)) (fun _ hk => hk.2) (.bool (!t282))) (fun _ hk => hk.2) (.bool (!t282))) (fun _ hk => hk.2) (.slice Ao18 t268.length co18)) (fun _ hk => hk.2) (.slice Ao21 t275.length co21)) (fun _ hk => hk.1.1.2), (bb1_ HB GE263)⟩
   ·
    replace c12 := Bool.eq_false_iff.mpr c12
    subst c12
    replace H := in_ H
    simp only [Option.some.injEq, Prod.mk.injEq] at H
    obtain ⟨rfl, rfl, rfl, rfl⟩ := H
    go_enter Try.func24, Try.ntmps24
    go_wp2_with (first | ((with_reducible refine jX (N := 6) rfl ?_); refine bx_ 6 #[.bool false, .slice none 0 0, .slice none 0 0] 44 ?_; intro gb263 hg w25 hbox hb; have BK263 := jA.mk (hbox); have GW263 := jA.mk ((by rw [hg]; exact (jC (bb_ HB)) : w.heap.size ≤ gb263)); have GE263 := GW263; replace HB := bs_ HB hb; clear hb hbox hg) | ((with_reducible refine jH (f := 71) rfl ?_); refine gl_ (some 12) Try.func71 #[.slice A1 l1.length c1, .slice A2 l2.length c2] ?_; (with_reducible refine (vE.calls k _ _ l1 _ _ l2 t264 t265 _ ?side1 ?side2 ?side3 ?side4 A4.out).mono ?_); (case side1 => exact cb_ HR1 HB); (case side2 => exact HC1.out); (case side3 => exact cb_ HR2 HB); (case side4 => exact HC2.out); rintro e w26 ⟨v266, rfl, ho0, hb⟩; refine ⟨_, rfl, ?_⟩; have HO267 := jA.mk (Kd.jN ho0 (jC (bb1_ HB GE263))); replace BK263 := bk_ BK263 hb; replace HB := jA.mk (jI (bb1_ HB GE263) hb); obtain ⟨Ao27, co27, rfl⟩ := Kd.jV HO267.out) | ((with_reducible refine jH (f := 72) rfl ?_); refine gl_ (some 28) Try.func72 #[.slice A1 l1.length c1, .slice Ao27 t264.length co27] ?_; (with_reducible refine (jy.calls k _ _ l1 _ _ t264 t268 t269 t270 _ ?side1 ?side2 ?side3 ?side4 A10.out).mono ?_); (case side1 => exact cb_ HR1 HB); (case side2 => exact HC1.out); (case side3 => exact cc_ (Kd.jE HO267.out).2.2); (case side4 => exact (Kd.jE HO267.out).2.1); rintro e w28 ⟨v271, v273, rfl, ho0, ho1, hb⟩; refine ⟨_, rfl, ?_⟩; have HO272 := jA.mk (Kd.jN (Kd.jL ho0 (Kd.R_lt (rR_ HO267))) (jC (bb1_ HB GE263))); have HO274 := jA.mk (Kd.jN (Kd.jL ho1 (Kd.R_lt (rR_ HO267))) (jC (bb1_ HB GE263))); replace HO267 := jA.mk (Kd.jT (Kd.zQ (Kd.zQ (Kd.jAf (rR_ HO267) hb) (Kd.vB ho0)) (Kd.vB ho1)) (fun _ h_ => h_.1)); replace BK263 := bk_ BK263 hb; replace HB := jA.mk (jI (bb1_ HB GE263) hb); obtain ⟨Ao29, co29, rfl⟩ := Kd.jV HO272.out; obtain ⟨hcz30_0, hcz30_1, hcz30_2, hfz30_0, hfz30_1, hfz30_2⟩ := bf3_ BK263) | ((with_reducible refine jH (f := 72) rfl ?_); refine gl_ (some 36) Try.func72 #[.slice A2 l2.length c2, .slice Ao27 t264.length co27] ?_; (with_reducible refine (jy.calls k _ _ l2 _ _ t264 t275 t276 t277 _ ?side1 ?side2 ?side3 ?side4 A11.out).mono ?_); (case side1 => exact Kd.zl HR2.out (bb1_ HB GE263)); (case side2 => exact HC2.out); (case side3 => refine (Kd.jE (e := 22) (base := w.heap.size) (ok := fun k_ => ((True ∧ some k_ ≠ (.slice Ao29 t268.length co29 : Value).ownBlock) ∧ some k_ ≠ (v273 : Value).ownBlock)) (n := t264.length) (c := co27) ?_).2.2; exact (rg1_ HO267 BK263)); (case side4 => exact (Kd.jE HO267.out).2.1); rintro e w31 ⟨v278, v280, rfl, ho0, ho1, hb⟩; refine ⟨_, rfl, ?_⟩; have HO279 := jA.mk (Kd.jN (Kd.jL (Kd.jL (Kd.jL ho0 (Kd.R_lt (rg1_ HO267 BK263))) (Kd.R_lt (rg1_ HO272 BK263))) (Kd.R_lt (rg1_ HO274 BK263))) (jC (bb1_ HB GE263))); have HO281 := jA.mk (Kd.jN (Kd.jL (Kd.jL (Kd.jL ho1 (Kd.R_lt (rg1_ HO267 BK263))) (Kd.R_lt (rg1_ HO272 BK263))) (Kd.R_lt (rg1_ HO274 BK263))) (jC (bb1_ HB GE263))); replace HO267 := jA.mk (Kd.jT (Kd.zQ (Kd.zQ (Kd.jAf (rg1_ HO267 BK263) hb) (Kd.vB ho0)) (Kd.vB ho1)) (fun _ h_ => h_.1)); replace HO272 := jA.mk (Kd.jT (Kd.zQ (Kd.zQ (Kd.jAf (rg1_ HO272 BK263) hb) (Kd.vB ho0)) (Kd.vB ho1)) (fun _ h_ => h_.1)); replace HO274 := jA.mk (Kd.jT (Kd.zQ (Kd.zQ (Kd.jAf (rg1_ HO274 BK263) hb) (Kd.vB ho0)) (Kd.vB ho1)) (fun _ h_ => h_.1)); replace BK263 := jA.mk (jJ (g := gb263) (o := .cells #[.bool false, .slice Ao29 t268.length co29, .slice none 0 0] 44 (0, 0)) (by refine pk_ ?_; refine jm (cs := #[.bool false, .slice none 0 0, .slice none 0 0]) ?_ 1 _ rs_; refine pk_ ?_; exact BK263.out) hb); replace HB := jA.mk (jI (bb1_ HB GE263) hb); obtain ⟨Ao32, co32, rfl⟩ := Kd.jV HO279.out; obtain ⟨hcz33_0, hcz33_1, hcz33_2, hfz33_0, hfz33_1, hfz33_2⟩ := bf3_ BK263))
    refine bodyPost_ret (zn rfl _ _ gb263 44 #[.bool false, .slice Ao29 t268.length co29, .slice Ao32 t275.length co32] (0, 0) _ rfl (by refine pk_ ?_; refine jm (cs := #[.bool false, .slice Ao29 t268.length co29, .slice Ao32 t275.length co32]) ?_ 2 _ rs_; refine pk_ ?_; refine jm (cs := #[.bool false, .slice Ao29 t268.length co29, .slice Ao32 t275.length co32]) ?_ 1 _ rs_; refine pk_ ?_; refine jm (cs := #[.bool false, .slice Ao29 t268.length co29, .slice Ao32 t275.length co32]) ?_ 0 _ rs_; refine pk_ ?_; refine jm (cs := #[.bool false, .slice Ao29 t268.length co29, .slice Ao32 t275.length co32]) ?_ 0 _ rs_; refine pk_ ?_; refine jm (cs := #[.bool false, .slice Ao29 t268.length co29, .slice none 0 0]) ?_ 2 _ rs_; refine pk_ ?_; exact BK263.out) Try.underlying44 rfl kr_) rfl ?_
    exact ⟨_, _, ew_, by refine pR_ ?_; exact Kd.jT (Kd.vQ (p := ⟨gb263, 2, none⟩) (Kd.vQ (p := ⟨gb263, 1, none⟩) (Kd.vQ (p := ⟨gb263, 0, none⟩) (Kd.vQ (p := ⟨gb263, 0, none⟩) (Kd.vQ (p := ⟨gb263, 2, none⟩) (Kd.jZ HO272.out BK263.out (by decide)) (fun _ hk => hk.2) (.slice Ao32 t275.length co32)) (fun _ hk => hk.2) (.bool false)) (fun _ hk => hk.2) (.bool false)) (fun _ hk => hk.2) (.slice Ao29 t268.length co29)) (fun _ hk => hk.2) (.slice Ao32 t275.length co32)) (fun _ hk => hk.1.1.2), by refine pR_ ?_; exact Kd.jT (Kd.vQ (p := ⟨gb263, 2, none⟩) (Kd.vQ (p := ⟨gb263, 1, none⟩) (Kd.vQ (p := ⟨gb263, 0, none⟩) (Kd.vQ (p := ⟨gb263, 0, none⟩) (Kd.vQ (p := ⟨gb263, 2, none⟩) (Kd.jZ HO279.out BK263.out (by decide)) (fun _ hk => hk.2) (.slice Ao32 t275.length co32)) (fun _ hk => hk.2) (.bool false)) (fun _ hk => hk.2) (.bool false)) (fun _ hk => hk.2) (.slice Ao29 t268.length co29)) (fun _ hk => hk.2) (.slice Ao32 t275.length co32)) (fun _ hk => hk.1.1.2), (bb1_ HB GE263)⟩
 ·
  rw [if_neg c5] at H
  have c5b0 := beq_eq_false_iff_ne.mpr c5
  have c5b1 := bne_iff_ne.mpr c5
  simp only [Option.some.injEq, Prod.mk.injEq] at H
  obtain ⟨rfl, rfl, rfl, rfl⟩ := H
  go_enter Try.func24, Try.ntmps24
  go_wp2_with (first | ((with_reducible refine jX (N := 6) rfl ?_); refine bx_ 6 #[.bool false, .slice none 0 0, .slice none 0 0] 44 ?_; intro gb263 hg w34 hbox hb; have BK263 := jA.mk (hbox); have GW263 := jA.mk ((by rw [hg]; exact (jC (bb_ HB)) : w.heap.size ≤ gb263)); have GE263 := GW263; replace HB := bs_ HB hb; clear hb hbox hg) | ((with_reducible refine jH (f := 71) rfl ?_); refine gl_ (some 12) Try.func71 #[.slice A1 l1.length c1, .slice A2 l2.length c2] ?_; (with_reducible refine (vE.calls k _ _ l1 _ _ l2 t264 t265 _ ?side1 ?side2 ?side3 ?side4 A4.out).mono ?_); (case side1 => exact cb_ HR1 HB); (case side2 => exact HC1.out); (case side3 => exact cb_ HR2 HB); (case side4 => exact HC2.out); rintro e w35 ⟨v266, rfl, ho0, hb⟩; refine ⟨_, rfl, ?_⟩; have HO267 := jA.mk (Kd.jN ho0 (jC (bb1_ HB GE263))); replace BK263 := bk_ BK263 hb; replace HB := jA.mk (jI (bb1_ HB GE263) hb); obtain ⟨hcz36_0, hcz36_1, hcz36_2, hfz36_0, hfz36_1, hfz36_2⟩ := bf3_ BK263))
  refine bodyPost_ret (zn rfl _ _ gb263 44 #[.bool false, .slice none 0 0, .slice none 0 0] (0, 0) _ rfl (by refine pk_ ?_; refine jm (cs := #[.bool false, .slice none 0 0, .slice none 0 0]) ?_ 2 _ rs_; refine pk_ ?_; refine jm (cs := #[.bool false, .slice none 0 0, .slice none 0 0]) ?_ 1 _ rs_; refine pk_ ?_; refine jm (cs := #[.bool false, .slice none 0 0, .slice none 0 0]) ?_ 0 _ rs_; refine pk_ ?_; exact BK263.out) Try.underlying44 rfl kr_) rfl ?_
  exact ⟨_, _, ew_, nl_, nl_, (bb1_ HB GE263)⟩
def jAP.f (k : Nat) (l0 : List Int) (l1 : List Int) : Option (Int) := (vN.f k l0 l1).bind fun t283 => (some t283)
theorem jAP.mono : ∀ a0 a1 k, LeO (jAP.f k a0 a1) (jAP.f (k + 1) a0 a1) := by
 intro a0 a1 k
 unfold jAP.f
 repeat' first
   | (with_reducible exact vN.mono _ _ _)
   | (with_reducible exact LeO.refl _)
   | (with_reducible exact LeO.none _)
   | (with_reducible refine LeO.ite ?_ ?_)
   | (with_reducible refine LeO.bind ?_ (fun _ => ?_))
theorem jAP.calls (k : Nat) (A0 : Option Addr) (c0 : Nat) (l0 : List Int) (A1 : Option Addr) (c1 : Nat) (l1 : List Int) (r : Int) (w : World) (hr0 : Kd.C (Kd.int .u64) w A0 l0.length l0) (hc0 : l0.length ≤ c0) (hr1 : Kd.C (Kd.int .u64) w A1 l1.length l1) (hc1 : l1.length ≤ c1) (h : jAP.f k l0 l1 = some r) :
  Calls Try.prog 73 #[.slice A0 l0.length c0, .slice A1 l1.length c1] w fun e w' => e = .returned (.int .i64 r) ∧ Below w.heap.size w w' := by
 have HR0 := jA.mk hr0
 have HC0 := jA.mk hc0
 clear hr0 hc0
 have HR1 := jA.mk hr1
 have HC1 := jA.mk hc1
 clear hr1 hc1
 have HB := jA.mk (Below.refl w.heap.size w)
 have H : ((vN.f k l0 l1).bind fun t283 => (some t283)) = some r := h
 clear h
 replace H := ob_ H
 obtain ⟨t283, A30, H⟩ := H
 replace H : (some t283) = some r := H
 have A3 := jA.mk A30
 clear A30
 obtain rfl := Option.some.inj H
 go_enter Try.func73, Try.ntmps73
 go_wp2_with (first | ((with_reducible refine jH (f := 98) rfl ?_); refine gl_ (some 7) Try.func98 #[.slice A0 l0.length c0, .slice A1 l1.length c1] ?_; (with_reducible refine (vN.calls k _ _ l0 _ _ l1 t283 _ ?side1 ?side2 ?side3 ?side4 A3.out).mono ?_); (case side1 => exact cc_ HR0.out); (case side2 => exact HC0.out); (case side3 => exact cc_ HR1.out); (case side4 => exact HC1.out); rintro e w4 ⟨rfl, hb⟩; refine ⟨_, rfl, ?_⟩; replace HB := bs_ HB hb))
 go_ret
 exact ⟨ew_, (bb_ HB)⟩
end Go.Proofs.Ytijgeonhbmgikaa.PORatioField
