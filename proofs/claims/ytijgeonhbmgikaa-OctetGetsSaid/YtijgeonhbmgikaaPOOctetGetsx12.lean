-- printed (pr.py)
import Derived.Test.YtijgeonhbmgikaaPOOctetGetsx0
import Derived.Test.YtijgeonhbmgikaaPOOctetGetsx2
import Derived.Test.YtijgeonhbmgikaaPOOctetGetsx5
import Derived.Test.YtijgeonhbmgikaaPOOctetGetsx6
import Derived.Test.YtijgeonhbmgikaaPOOctetGetsx7
import Derived.Test.YtijgeonhbmgikaaPOOctetGetsx8
import Derived.Test.YtijgeonhbmgikaaPOOctetGetsx11
namespace Go.Proofs.Ytijgeonhbmgikaa.POOctetGets
open Go.RowKit Go.Proofs.YtijgeonhbmgikaaN Go.Proofs.YtijgeonhbmgikaaW.PrintWords Go.Proofs.YtijgeonhbmgikaaW.PrintLast Go.Proofs.YtijgeonhbmgikaaW.PrintMore
attribute [local go_sem] qC zy qR qP za zZ qA zx
set_option maxHeartbeats 8000000
set_option maxRecDepth 100000
set_option linter.unusedVariables false
set_option linter.unusedSimpArgs false

/-! ### vF: function 72 -/
mutual
def vF.j0 : Nat → List Int → List Int → Bool → Option (List Int × List Int × Int)
 | 0, _, _, _ => none
 | k + 1, x0, x1, x15 => if x15 = true then (some (([] : List Int), ([] : List Int), 1)) else (if (x1.length : Int) = 0 then (some (([] : List Int), ([] : List Int), 30)) else (if (x1.length : Int) = 1 then (if 0 < (x1.length : Int) then ((vJ.f k x0 (rd x1 0)).bind fun bt239 => ((jCF.f bt239.2.1).bind fun t244 => (some (bt239.1, t244, 0)))) else (none)) else ((vV.f k x0 x1).bind fun t247 => (if t247 < 0 then ((vX.f k x0).bind fun t248 => (some (([] : List Int), t248, 0))) else (if 0 ≤ (wrap64 ((x1.length : Int) - 1)) then (if (wrap64 ((x1.length : Int) - 1)) < (x1.length : Int) then ((bits_LeadingZeros64.f (rd x1 (wrap64 ((x1.length : Int) - 1)))).bind fun t252 => ((jH.f k x0 t252).bind fun t253 => ((some (([0, 0] : List Int) : List Int)).bind fun y256 => (if t253.length + y256.length < 17592186044416 then ((some (t253 ++ y256 : List Int)).bind fun y259 => ((jH.f k x1 t252).bind fun t262 => (if 0 ≤ (wrap64 ((y259.length : Int) - (t262.length : Int))) then (if (wrap64 ((y259.length : Int) - (t262.length : Int)) : Int).toNat ≤ 35184372088832 then ((some (List.replicate (wrap64 ((y259.length : Int) - (t262.length : Int)) : Int).toNat 0 : List Int)).bind fun y265 => (vF.l0 k t252 y259 t262 y265 (wrap64 ((y265.length : Int) - 1)))) else (none)) else (none)))) else (none))))) else (none)) else (none))))))
def vF.l0 : Nat → Int → List Int → List Int → List Int → Int → Option (List Int × List Int × Int)
 | 0, _, _, _, _, _ => none
 | k + 1, x10, x11, x12, x13, x14 => if x14 ≥ 0 then (if 0 ≤ x14 then (if x14 ≤ (mn (wrap64 ((wrap64 (x14 + (x12.length : Int))) + 1)) (x11.length : Int)) then (if (mn (wrap64 ((wrap64 (x14 + (x12.length : Int))) + 1)) (x11.length : Int)) ≤ (x11.length : Int) then ((jh.f k ((x11.take ((mn (wrap64 ((wrap64 (x14 + (x12.length : Int))) + 1)) (x11.length : Int)) : Int).toNat).drop (x14 : Int).toNat) x12).bind fun t272 => (if x14 < (x13.length : Int) then (vF.l0 k x10 (Go.splice x11 (x14 : Int).toNat t272.2) x12 (x13.set (x14 : Int).toNat t272.1) (wrap64 (x14 - 1))) else (none))) else (none)) else (none)) else (none)) else ((vX.f k x13).bind fun t274 => ((jH.f k x11 (wrap64 (-x10))).bind fun t277 => (some (t274, t277, 0))))
end
def vF.f (k : Nat) (l0 : List Int) (l1 : List Int) : Option (List Int × List Int × Int) := (zn.f l0).bind fun t236 => (if t236 = true then ((zn.f l1).bind fun t237 => (vF.j0 k l0 l1 (!t237))) else (vF.j0 k l0 l1 true))
theorem vF.vN : ∀ k, (∀ y0 y1 y2, LeO (vF.j0 k y0 y1 y2) (vF.j0 (k + 1) y0 y1 y2)) ∧ (∀ y0 y1 y2 y3 y4, LeO (vF.l0 k y0 y1 y2 y3 y4) (vF.l0 (k + 1) y0 y1 y2 y3 y4))
 | 0 => ⟨fun _ _ _ r h => by simp [vF.j0] at h, fun _ _ _ _ _ r h => by simp [vF.l0] at h⟩
 | k + 1 => by
  obtain ⟨ih0, ih1⟩ := vF.vN k
  refine ⟨?_, ?_⟩ <;> (intros; first | unfold vF.j0 | unfold vF.l0) <;> repeat' first
   | (with_reducible exact ih0 _ _ _)
   | (with_reducible exact ih1 _ _ _ _ _)
   | (with_reducible exact vV.mono _ _ _)
   | (with_reducible exact jH.mono _ _ _)
   | (with_reducible exact vX.mono _ _)
   | (with_reducible exact vJ.mono _ _ _)
   | (with_reducible exact jh.mono _ _ _)
   | (with_reducible exact LeO.refl _)
   | (with_reducible exact LeO.none _)
   | (with_reducible refine LeO.ite ?_ ?_)
   | (with_reducible refine LeO.bind ?_ (fun _ => ?_))
theorem vF.mono : ∀ a0 a1 k, LeO (vF.f k a0 a1) (vF.f (k + 1) a0 a1) := by
 intro a0 a1 k
 obtain ⟨ih0, ih1⟩ := vF.vN k
 unfold vF.f
 repeat' first
   | (with_reducible exact ih0 _ _ _)
   | (with_reducible exact ih1 _ _ _ _ _)
   | (with_reducible exact vV.mono _ _ _)
   | (with_reducible exact jH.mono _ _ _)
   | (with_reducible exact vX.mono _ _)
   | (with_reducible exact vJ.mono _ _ _)
   | (with_reducible exact jh.mono _ _ _)
   | (with_reducible exact LeO.refl _)
   | (with_reducible exact LeO.none _)
   | (with_reducible refine LeO.ite ?_ ?_)
   | (with_reducible refine LeO.bind ?_ (fun _ => ?_))
theorem vF.calls (k : Nat) (A0 : Option Addr) (c0 : Nat) (l0 : List Int) (A1 : Option Addr) (c1 : Nat) (l1 : List Int) (r1 : List Int) (r2 : List Int) (r3 : Int) (w : World) (hr0 : Kd.C (Kd.int .u64) w A0 l0.length l0) (hc0 : l0.length ≤ c0) (hr1 : Kd.C (Kd.int .u64) w A1 l1.length l1) (hc1 : l1.length ≤ c1) (h : vF.f k l0 l1 = some (r1, r2, r3)) :
  Calls Try.prog 72 #[.slice A0 l0.length c0, .slice A1 l1.length c1] w fun e w' => ∃ v0_ v1_ : Value, e = .returned (.tuple #[v0_, v1_, .int .i64 r3]) ∧ Kd.R (Kd.int .u64) 22 w' w.heap.size (fun k_ => some k_ ≠ (v1_ : Value).ownBlock) v0_ r1 ∧ Kd.R (Kd.int .u64) 22 w' w.heap.size (fun k_ => some k_ ≠ (v0_ : Value).ownBlock) v1_ r2 ∧ Below w.heap.size w w' := by
 have HR0 := jA.mk hr0
 have HC0 := jA.mk hc0
 clear hr0 hc0
 have HR1 := jA.mk hr1
 have HC1 := jA.mk hc1
 clear hr1 hc1
 have HB := jA.mk (Below.refl w.heap.size w)
 have H : ((zn.f l0).bind fun t236 => (if t236 = true then ((zn.f l1).bind fun t237 => (vF.j0 k l0 l1 (!t237))) else (vF.j0 k l0 l1 true))) = some (r1, r2, r3) := h
 clear h
 have HC3 := jA.mk H
 clear H
 go_enter Try.func72, Try.ntmps72
 go_upto_region 1 with (fail)
 go_cut [15] (fun v15 wc => ∃ (kq : Nat) (x15_2 : Bool), v15 = .bool x15_2 ∧ jA (vF.j0 kq l0 l1 x15_2 = some (r1, r2, r3)) ∧ jA (kq ≤ k) ∧ jA (Below w.heap.size w wc))
 case first =>
  have H := HC3.out
  clear HC3
  replace H := ob_ H
  obtain ⟨t236, A40, H⟩ := H
  try dsimp only at H
  have A4 := jA.mk A40
  clear A40
  by_cases c5 : t236 = true
  ·
   subst c5
   have H1 : ((zn.f l1).bind fun t237 => (vF.j0 k l0 l1 (!t237))) = some (r1, r2, r3) := by rw [if_pos rfl] at H; exact H
   clear H
   have H := H1
   clear H1
   replace H := ob_ H
   obtain ⟨t237, A60, H⟩ := H
   try dsimp only at H
   have A6 := jA.mk A60
   clear A60
   have H' := jA.mk H
   clear H
   go_wp2_with (first | ((with_reducible refine jG (f := 64) rfl ?_); refine jo (some 17) rfl rfl Try.func64 kr_ rfl #[.slice A0 l0.length c0] rfl mt_ ?_; (with_reducible refine (zn.calls _ _ l0 true _ ?side1 ?side2 A4.out).mono ?_); (case side1 => exact cc_ (Kd.jq HR0.out HB.out)); (case side2 => exact HC0.out); rintro e w' ⟨rfl, ⟨nd, rfl⟩⟩; refine ⟨_, rfl, ?_⟩) | ((with_reducible refine jr (N := 21) rfl ?_); refine vE (by first | rfl | kernel_rfl) ?_; dsimp only; (with_reducible refine jG (f := 64) rfl ?_); refine jo (some 21) rfl rfl Try.func64 kr_ rfl #[.slice A1 l1.length c1] rfl mt_ ?_; (with_reducible refine (zn.calls _ _ l1 t237 _ ?side1 ?side2 A6.out).mono ?_); (case side1 => repeat (first | exact (Kd.jq HR1.out (bb_ HB)) | (with_reducible refine Kd.zh ?_ _) | (with_reducible refine Kd.zu ?_ _) | (with_reducible refine Kd.qW ?_))); (case side2 => exact HC1.out); rintro e w' ⟨rfl, ⟨nd, rfl⟩⟩; refine ⟨_, rfl, ?_⟩))
   go_meet
   case rel => exact ⟨_, (!t237), sd_, H', ⟨by first | omega | exact Nat.le_refl _⟩, ⟨(bb_ HB)⟩⟩
  ·
   replace c5 := Bool.eq_false_iff.mpr c5
   subst c5
   have H1 : (vF.j0 k l0 l1 true) = some (r1, r2, r3) := by rw [if_neg (show ¬ (false = true) by decide)] at H; exact H
   clear H
   have H := H1
   clear H1
   have H' := jA.mk H
   clear H
   go_wp2_with (first | ((with_reducible refine jG (f := 64) rfl ?_); refine jo (some 17) rfl rfl Try.func64 kr_ rfl #[.slice A0 l0.length c0] rfl mt_ ?_; (with_reducible refine (zn.calls _ _ l0 false _ ?side1 ?side2 A4.out).mono ?_); (case side1 => exact cc_ (Kd.jq HR0.out HB.out)); (case side2 => exact HC0.out); rintro e w' ⟨rfl, ⟨nd, rfl⟩⟩; refine ⟨_, rfl, ?_⟩))
   go_meet
   case rel => exact ⟨_, (true), sd_, H', ⟨by first | omega | exact Nat.le_refl _⟩, ⟨(bb_ HB)⟩⟩
 case rest =>
  clear HC3
  try clear c1
  try clear p2
  try clear c5
  try clear c6
  obtain ⟨kq, x15_2, rfl, HA, HJ2, HB⟩ := hcut
  cases kq with
  | zero => exact absurd HA.out (by simp [vF.j0])
  | succ kj2 =>
   have H := HA.out
   clear HA
   simp only [vF.j0] at H
   by_cases c7 : x15_2 = true
   ·
    subst c7
    have H1 : (some (([] : List Int), ([] : List Int), 1)) = some (r1, r2, r3) := by rw [if_pos rfl] at H; exact H
    clear H
    have H := H1
    clear H1
    simp only [Option.some.injEq, Prod.mk.injEq] at H
    obtain ⟨rfl, rfl, rfl⟩ := H
    go_wp2
    go_ret3
    exact ⟨_, _, ew_, nl_, nl_, (bb_ HB)⟩
   ·
    replace c7 := Bool.eq_false_iff.mpr c7
    subst c7
    have H1 : (if (l1.length : Int) = 0 then (some (([] : List Int), ([] : List Int), 30)) else (if (l1.length : Int) = 1 then (if 0 < (l1.length : Int) then ((vJ.f kj2 l0 (rd l1 0)).bind fun bt239 => ((jCF.f bt239.2.1).bind fun t244 => (some (bt239.1, t244, 0)))) else (none)) else ((vV.f kj2 l0 l1).bind fun t247 => (if t247 < 0 then ((vX.f kj2 l0).bind fun t248 => (some (([] : List Int), t248, 0))) else (if 0 ≤ (wrap64 ((l1.length : Int) - 1)) then (if (wrap64 ((l1.length : Int) - 1)) < (l1.length : Int) then ((bits_LeadingZeros64.f (rd l1 (wrap64 ((l1.length : Int) - 1)))).bind fun t252 => ((jH.f kj2 l0 t252).bind fun t253 => ((some (([0, 0] : List Int) : List Int)).bind fun y256 => (if t253.length + y256.length < 17592186044416 then ((some (t253 ++ y256 : List Int)).bind fun y259 => ((jH.f kj2 l1 t252).bind fun t262 => (if 0 ≤ (wrap64 ((y259.length : Int) - (t262.length : Int))) then (if (wrap64 ((y259.length : Int) - (t262.length : Int)) : Int).toNat ≤ 35184372088832 then ((some (List.replicate (wrap64 ((y259.length : Int) - (t262.length : Int)) : Int).toNat 0 : List Int)).bind fun y265 => (vF.l0 kj2 t252 y259 t262 y265 (wrap64 ((y265.length : Int) - 1)))) else (none)) else (none)))) else (none))))) else (none)) else (none)))))) = some (r1, r2, r3) := by rw [if_neg (show ¬ (false = true) by decide)] at H; exact H
    clear H
    have H := H1
    clear H1
    by_cases c8 : (l1.length : Int) = 0
    ·
     rw [if_pos c8] at H
     have c8b0 := beq_iff_eq.mpr c8
     have c8b1 := bne_eq_false_iff_eq.mpr c8
     clear c8
     simp only [Option.some.injEq, Prod.mk.injEq] at H
     obtain ⟨rfl, rfl, rfl⟩ := H
     go_wp2
     go_ret3
     exact ⟨_, _, ew_, nl_, nl_, (bb_ HB)⟩
    ·
     rw [if_neg c8] at H
     have c8b0 := beq_eq_false_iff_ne.mpr c8
     have c8b1 := bne_iff_ne.mpr c8
     have c8b2 : ¬ (l1 = []) := fun h_ => c8 (by rw [h_]; rfl)
     by_cases c9 : (l1.length : Int) = 1
     ·
      rw [if_pos c9] at H
      have c9b0 := beq_iff_eq.mpr c9
      have c9b1 := bne_eq_false_iff_eq.mpr c9
      clear c9
      by_cases c10 : 0 < (l1.length : Int)
      ·
       rw [if_pos c10] at H
       have c10b0 := decide_eq_true c10
       have c10b1 : decide (0 < l1.length) = true := decide_eq_true (by omega)
       clear c10
       replace H := ob_ H
       obtain ⟨⟨t239, t240, t241⟩, A110, H⟩ := H
       try dsimp only at H
       have A11 := jA.mk A110
       clear A110
       replace H := ob_ H
       obtain ⟨t244, A120, H⟩ := H
       try dsimp only at H
       have A12 := jA.mk A120
       clear A120
       simp only [Option.some.injEq, Prod.mk.injEq] at H
       obtain ⟨rfl, rfl, rfl⟩ := H
       have p238 : 0 ≤ (0 : Int) := (by omega)
       have q238 : 0 < (l1.length : Int) := of_decide_eq_true am_
       obtain ⟨ad238, e238, hx238_0⟩ := Kd.zD HR1.out 0 p238 q238
       cases e238
       have qi238 : (0 < l1.length) = True := eq_true (by omega)
       (try rw [show ((0 : Int)).toNat = 0 from rfl] at hx238_0)
       (try rw [Addr.add_zero'] at hx238_0)
       replace hx238_0 := (HB.out.cell (World.block_lt_of_cell? w _ hx238_0)).trans hx238_0
       replace p238 := eq_true p238
       replace q238 := eq_true q238
       go_wp2_with (first | ((with_reducible refine jG (f := 97) rfl ?_); refine jo (some 37) rfl rfl Try.func97 kr_ rfl #[.slice A0 l0.length c0, .int .u64 (rd l1 0)] rfl mt_ ?_; (with_reducible refine (vJ.calls kj2 _ _ l0 (rd l1 0) t239 t240 t241 _ ?side1 ?side2 A11.out).mono ?_); (case side1 => exact cc_ (Kd.jq HR0.out HB.out)); (case side2 => exact HC0.out); rintro e w13 ⟨v242, rfl, ho0, hb⟩; refine ⟨_, rfl, ?_⟩; have HO243 := jA.mk (Kd.jU ho0 (jB (bb_ HB))); replace HB := bs_ HB hb) | ((with_reducible refine jG (f := 81) rfl ?_); refine jo (some 43) rfl rfl Try.func81 kr_ rfl #[.int .u64 t240] rfl mt_ ?_; (with_reducible refine (jCF.calls t240 t244 _ A12.out).mono ?_); rintro e w14 ⟨v245, rfl, ho0, hb⟩; refine ⟨_, rfl, ?_⟩; have HO246 := jA.mk (Kd.jU (Kd.jR ho0 (Kd.R_lt (rR_ HO243))) (jB (bb_ HB))); replace HO243 := re_ HO243 ho0 hb; replace HB := bs_ HB hb))
       go_ret3
       exact ⟨_, _, ew_, by refine pR_ ?_; exact Kd.jk HO243.out (fun _ hk => hk.2), by refine pR_ ?_; exact Kd.jk HO246.out (fun _ hk => hk.2), (bb_ HB)⟩
      ·
       rw [if_neg c10] at H
       exact absurd H (by simp)
     ·
      rw [if_neg c9] at H
      have c9b0 := beq_eq_false_iff_ne.mpr c9
      have c9b1 := bne_iff_ne.mpr c9
      replace H := ob_ H
      obtain ⟨t247, A150, H⟩ := H
      try dsimp only at H
      have A15 := jA.mk A150
      clear A150
      by_cases c16 : t247 < 0
      ·
       rw [if_pos c16] at H
       have c16b0 := decide_eq_true c16
       clear c16
       replace H := ob_ H
       obtain ⟨t248, A170, H⟩ := H
       try dsimp only at H
       have A17 := jA.mk A170
       clear A170
       simp only [Option.some.injEq, Prod.mk.injEq] at H
       obtain ⟨rfl, rfl, rfl⟩ := H
       go_wp2_with (first | ((with_reducible refine jG (f := 98) rfl ?_); refine jo (some 47) rfl rfl Try.func98 kr_ rfl #[.slice A0 l0.length c0, .slice A1 l1.length c1] rfl mt_ ?_; (with_reducible refine (vV.calls kj2 _ _ l0 _ _ l1 t247 _ ?side1 ?side2 ?side3 ?side4 A15.out).mono ?_); (case side1 => exact cc_ (Kd.jq HR0.out HB.out)); (case side2 => exact HC0.out); (case side3 => exact cc_ (Kd.jq HR1.out HB.out)); (case side4 => exact HC1.out); rintro e w18 ⟨rfl, hb⟩; refine ⟨_, rfl, ?_⟩; replace HB := bs_ HB hb) | ((with_reducible refine jG (f := 96) rfl ?_); refine jo (some 50) rfl rfl Try.func96 kr_ rfl #[.slice A0 l0.length c0] rfl mt_ ?_; (with_reducible refine (vX.calls kj2 _ _ l0 t248 _ ?side1 ?side2 A17.out).mono ?_); (case side1 => exact cc_ (Kd.jq HR0.out HB.out)); (case side2 => exact HC0.out); rintro e w19 ⟨v249, rfl, ho0, hb⟩; refine ⟨_, rfl, ?_⟩; have HO250 := jA.mk (Kd.jU ho0 (jB (bb_ HB))); replace HB := bs_ HB hb))
       go_ret3
       exact ⟨_, _, ew_, nl_, by refine pR_ ?_; exact Kd.jk HO250.out (fun _ hk => (by simp [Value.ownBlock])), (bb_ HB)⟩
      ·
       rw [if_neg c16] at H
       have c16b0 := decide_eq_false c16
       clear c16
       obtain ⟨ji20, hji20⟩ : ∃ j_ : Int, (wrap64 ((l1.length : Int) - 1)) = j_ := ⟨_, rfl⟩
       replace H : (if 0 ≤ (ji20) then (if (ji20) < (l1.length : Int) then ((bits_LeadingZeros64.f (rd l1 (ji20))).bind fun t252 => ((jH.f kj2 l0 t252).bind fun t253 => ((some (([0, 0] : List Int) : List Int)).bind fun y256 => (if t253.length + y256.length < 17592186044416 then ((some (t253 ++ y256 : List Int)).bind fun y259 => ((jH.f kj2 l1 t252).bind fun t262 => (if 0 ≤ (wrap64 ((y259.length : Int) - (t262.length : Int))) then (if (wrap64 ((y259.length : Int) - (t262.length : Int)) : Int).toNat ≤ 35184372088832 then ((some (List.replicate (wrap64 ((y259.length : Int) - (t262.length : Int)) : Int).toNat 0 : List Int)).bind fun y265 => (vF.l0 kj2 t252 y259 t262 y265 (wrap64 ((y265.length : Int) - 1)))) else (none)) else (none)))) else (none))))) else (none)) else (none)) = some (r1, r2, r3) := by first | (rw [hji20] at H; exact H) | (simp only [hji20] at H ⊢; exact H)
       (try rw [hji20] at A15)
       have hji20w : (IntKind.i64.wrap ((l1.length : Int) - 1)) = ji20 := (zF _).trans hji20
       by_cases c21 : 0 ≤ (ji20)
       ·
        rw [if_pos c21] at H
        have c21b0 := decide_eq_true c21
        clear c21
        by_cases c22 : (ji20) < (l1.length : Int)
        ·
         rw [if_pos c22] at H
         have c22b0 := decide_eq_true c22
         clear c22
         replace H := ob_ H
         obtain ⟨t252, A230, H⟩ := H
         try dsimp only at H
         have A23 := jA.mk A230
         clear A230
         replace H := ob_ H
         obtain ⟨t253, A240, H⟩ := H
         try dsimp only at H
         have A24 := jA.mk A240
         clear A240
         obtain ⟨y256, hy256⟩ : ∃ y_ : List Int, y_ = (([0, 0] : List Int)) := ⟨_, rfl⟩
         replace H : (if t253.length + y256.length < 17592186044416 then ((some (t253 ++ y256 : List Int)).bind fun y259 => ((jH.f kj2 l1 t252).bind fun t262 => (if 0 ≤ (wrap64 ((y259.length : Int) - (t262.length : Int))) then (if (wrap64 ((y259.length : Int) - (t262.length : Int)) : Int).toNat ≤ 35184372088832 then ((some (List.replicate (wrap64 ((y259.length : Int) - (t262.length : Int)) : Int).toNat 0 : List Int)).bind fun y265 => (vF.l0 kj2 t252 y259 t262 y265 (wrap64 ((y265.length : Int) - 1)))) else (none)) else (none)))) else (none)) = some (r1, r2, r3) := by first | (rw [hy256]; with_reducible exact H) | (have H2_ := (Option.bind_some _ _).symm.trans H; rw [hy256]; with_reducible exact H2_) | (with_reducible exact hs_ H) | with_reducible exact H | (rw [hy256]; exact H) | exact H
         have Ny256 := jA.mk hy256
         clear hy256
         by_cases c25 : t253.length + y256.length < 17592186044416
         ·
          rw [if_pos c25] at H
          have LMc25 := jA.mk c25
          clear c25
          obtain ⟨y259, hy259⟩ : ∃ y_ : List Int, y_ = (t253 ++ y256) := ⟨_, rfl⟩
          replace H : ((jH.f kj2 l1 t252).bind fun t262 => (if 0 ≤ (wrap64 ((y259.length : Int) - (t262.length : Int))) then (if (wrap64 ((y259.length : Int) - (t262.length : Int)) : Int).toNat ≤ 35184372088832 then ((some (List.replicate (wrap64 ((y259.length : Int) - (t262.length : Int)) : Int).toNat 0 : List Int)).bind fun y265 => (vF.l0 kj2 t252 y259 t262 y265 (wrap64 ((y265.length : Int) - 1)))) else (none)) else (none))) = some (r1, r2, r3) := by first | (rw [hy259]; with_reducible exact H) | (have H2_ := (Option.bind_some _ _).symm.trans H; rw [hy259]; with_reducible exact H2_) | (with_reducible exact hs_ H) | with_reducible exact H | (rw [hy259]; exact H) | exact H
          have Ny259 := jA.mk hy259
          clear hy259
          replace H := ob_ H
          obtain ⟨t262, A260, H⟩ := H
          try dsimp only at H
          have A26 := jA.mk A260
          clear A260
          obtain ⟨ji27, hji27⟩ : ∃ j_ : Int, (wrap64 ((y259.length : Int) - (t262.length : Int))) = j_ := ⟨_, rfl⟩
          replace H : (if 0 ≤ (ji27) then (if (ji27 : Int).toNat ≤ 35184372088832 then ((some (List.replicate (ji27 : Int).toNat 0 : List Int)).bind fun y265 => (vF.l0 kj2 t252 y259 t262 y265 (wrap64 ((y265.length : Int) - 1)))) else (none)) else (none)) = some (r1, r2, r3) := by first | (rw [hji27] at H; exact H) | (simp only [hji27] at H ⊢; exact H)
          (try rw [hji27] at A15)
          (try rw [hji27] at A23)
          (try rw [hji27] at A24)
          (try rw [hji27] at A26)
          have hji27w : (IntKind.i64.wrap ((y259.length : Int) - (t262.length : Int))) = ji27 := (zF _).trans hji27
          by_cases c28 : 0 ≤ (ji27)
          ·
           rw [if_pos c28] at H
           have c28b0 := eq_true c28
           have c28b1 := decide_eq_true c28
           clear c28
           by_cases c29 : (ji27 : Int).toNat ≤ 35184372088832
           ·
            rw [if_pos c29] at H
            have c29b0 := eq_true c29
            have c29b1 := decide_eq_true c29
            clear c29
            obtain ⟨y265, hy265⟩ : ∃ y_ : List Int, y_ = (List.replicate (ji27 : Int).toNat 0) := ⟨_, rfl⟩
            replace H : (vF.l0 kj2 t252 y259 t262 y265 (wrap64 ((y265.length : Int) - 1))) = some (r1, r2, r3) := by first | (rw [hy265]; with_reducible exact H) | (have H2_ := (Option.bind_some _ _).symm.trans H; rw [hy265]; with_reducible exact H2_) | (with_reducible exact hs_ H) | with_reducible exact H | (rw [hy265]; exact H) | exact H
            have Ny265 := jA.mk hy265
            clear hy265
            have H' := jA.mk H
            clear H
            go_wp2_with (first | ((with_reducible refine jG (f := 98) rfl ?_); refine jo (some 47) rfl rfl Try.func98 kr_ rfl #[.slice A0 l0.length c0, .slice A1 l1.length c1] rfl mt_ ?_; (with_reducible refine (vV.calls kj2 _ _ l0 _ _ l1 t247 _ ?side1 ?side2 ?side3 ?side4 A15.out).mono ?_); (case side1 => exact cc_ (Kd.jq HR0.out HB.out)); (case side2 => exact HC0.out); (case side3 => exact cc_ (Kd.jq HR1.out HB.out)); (case side4 => exact HC1.out); rintro e w30 ⟨rfl, hb⟩; refine ⟨_, rfl, ?_⟩; replace HB := bs_ HB hb; have p251 : 0 ≤ ((ji20) : Int) := of_decide_eq_true am_; have q251 : (ji20) < (l1.length : Int) := of_decide_eq_true am_; obtain ⟨ad251, e251, hx251_0⟩ := Kd.zD HR1.out (ji20) p251 q251; cases e251; replace hx251_0 := (HB.out.cell (World.block_lt_of_cell? w _ hx251_0)).trans hx251_0; replace p251 := eq_true p251; replace q251 := eq_true q251) | ((with_reducible refine jG (f := 99) rfl ?_); refine jo (some 57) rfl rfl Try.func99 kr_ rfl #[.int .u64 (rd l1 (ji20))] rfl (by (try simp only [List.map_toArray, List.map_cons, List.map_nil]); first | done | (simp only [hji20]; rfl) | rfl | (simp only [List.length_drop, List.length_take]; rfl)) ?_; (with_reducible refine (bits_LeadingZeros64.calls (rd l1 (ji20)) t252 _ A23.out).mono ?_); rintro e w31 ⟨rfl, hb⟩; refine ⟨_, rfl, ?_⟩; replace HB := bs_ HB hb) | ((with_reducible refine jG (f := 100) rfl ?_); refine jo (some 60) rfl rfl Try.func100 kr_ rfl #[.slice A0 l0.length c0, .int .i64 t252] rfl mt_ ?_; (with_reducible refine (jH.calls kj2 _ _ l0 t252 t253 _ ?side1 ?side2 A24.out).mono ?_); (case side1 => exact cc_ (Kd.jq HR0.out HB.out)); (case side2 => exact HC0.out); rintro e w32 ⟨v254, rfl, ho0, hb⟩; refine ⟨_, rfl, ?_⟩; have HO255 := jA.mk (Kd.jU ho0 (jB (bb_ HB))); replace HB := bs_ HB hb) | ((with_reducible refine jr (N := 61) rfl ?_); refine Kd.jAN (Kd.int .u64) _ 22 ?hg (N := 61) ?hd (xs := ([0, 0] : List Int)) (inner := [.int .u64 0, .int .u64 0]) (ok := fun _ => True) (okp := fun _ => True) ?hr ?hp (fun _ hk => hk) trivial (Below.refl _ _) (Nat.le_refl _) (by simp) ?_; (case hd => rfl); (case hg => rfl); (case hr => exact gs_); (case hp => exact (Reps.one (show Kd.M (Kd.int .u64) _ _ _ 0 [.int .u64 0] from rfl) (Reps.one (show Kd.M (Kd.int .u64) _ _ _ 0 [.int .u64 0] from rfl) (Reps.none _ _)))); intro v257 w33 ho34 hb hg_ hnew_; clear hg_ hnew_; (first | rw [← Ny256.out] at ho34 | (simp only [Int.reduceToNat] at ho34; rw [← Ny256.out] at ho34)); have HO258 := jA.mk (Kd.jU (Kd.jR ho34 (Kd.R_lt (rR_ HO255))) (jB (bb_ HB))); replace HO255 := re_ HO255 ho34 hb; replace HB := bs_ HB hb; clear hb ho34; obtain ⟨Ao36, co36, eo36⟩ := Kd.jm HO258.out; subst eo36) | ((with_reducible refine vU (b := .append) (xs := #[.tmp 60, .tmp 61]) rfl ?_); at_builtin; refine Kd.jAg (Kd.int .u64) (w0 := w) w.heap.size rfl (.tmp 60) (.tmp 61) 35 22 (.int .u64 0) 8 rfl Try.underlying35 zw rfl (by decide) (by omega) v254 t253 y256 _ _ _ (fun k_ => some k_ ≠ (.slice Ao36 y256.length co36 : Value).ownBlock) (fun _ => False) rfl rfl ?aO ?aR (fun _ _ h => h) (fun _ h => h.elim) ?aF ?aB ?aS ?aL ?_; (case aR => exact cc_ (Kd.jF HO258.out).2.2); (case aB => exact (bb_ HB)); (case aF => exact (fun k_ hk => Kd.fresh' (Kd.R_lt (rR_ HO258)) k_ hk)); (case aO => exact (by refine pR_ ?_; exact Kd.jk HO255.out (fun _ hk => hk.2))); (case aS => exact (jB (bb_ HB))); (case aL => have := LMc25.out; omega); intro v260 w35 ho hb hg hat; rw [← Ny259.out] at ho; replace HO258 := jA.mk (Kd.zP (ok := (fun _ => True)) (rR_ HO258) hg hat); replace HB := jA.mk (hb); have HO261 := jA.mk (ho); clear HO255 ho hb hg hat) | ((with_reducible refine jG (f := 100) rfl ?_); refine jo (some 65) rfl rfl Try.func100 kr_ rfl #[.slice (some ad251) l1.length c1, .int .i64 t252] rfl mt_ ?_; (with_reducible refine (jH.calls kj2 _ _ l1 t252 t262 _ ?side1 ?side2 A26.out).mono ?_); (case side1 => exact cc_ (Kd.jq HR1.out HB.out)); (case side2 => exact HC1.out); rintro e w37 ⟨v263, rfl, ho0, hb⟩; refine ⟨_, rfl, ?_⟩; have HO264 := jA.mk (Kd.jU (Kd.jR (Kd.jR ho0 (Kd.R_lt (rR_ HO258))) (Kd.R_lt (rR_ HO261))) (jB (bb_ HB))); replace HO258 := re_ HO258 ho0 hb; replace HO261 := re_ HO261 ho0 hb; replace HB := bs_ HB hb; obtain ⟨Ao38, co38, eo38⟩ := Kd.jm HO261.out; subst eo38; obtain ⟨Ao39, co39, eo39⟩ := Kd.jm HO264.out; subst eo39) | ((with_reducible refine jr (N := 71) rfl ?_); refine Kd.jFT (Kd.int .u64) _ 22 rfl (N := 71) rfl 35 _ _ rfl ji27 rfl rfl Try.underlying35 (.int .u64 0) 8 zw rfl (by decide) (by omega) 0 (ok := fun _ => True) (okp := fun _ => True) rfl (fun _ hk => hk) trivial (of_decide_eq_true am_) (Nat.le_trans (Nat.mul_le_mul_right _ (of_decide_eq_true am_ : ji27.toNat ≤ 35184372088832)) (by omega)) (Below.refl _ _) (Nat.le_refl _) ?_; intro v266 w40 ho41 hb hg_ hnew_; clear hg_ hnew_; (first | rw [← Ny265.out] at ho41 | (simp only [Int.reduceToNat] at ho41; rw [← Ny265.out] at ho41)); have HO267 := jA.mk (Kd.jU (Kd.jR (Kd.jR (Kd.jR ho41 (Kd.R_lt (rR_ HO258))) (Kd.R_lt (rR_ HO261))) (Kd.R_lt (rR_ HO264))) (jB (bb_ HB))); replace HO258 := re_ HO258 ho41 hb; replace HO261 := re_ HO261 ho41 hb; replace HO264 := re_ HO264 ho41 hb; replace HB := bs_ HB hb; clear hb ho41; obtain ⟨Ao42, co42, eo42⟩ := Kd.jm HO267.out; subst eo42))
            go_loopg [14] kj2 (fun kq v14 w' => ∃ (x11_2 x13_2 : List Int) (x14_2 : Int), v14 = .int .i64 x14_2 ∧ jA (vF.l0 kq t252 x11_2 t262 x13_2 x14_2 = some (r1, r2, r3)) ∧ jA (kq ≤ kj2) ∧ jA (Kd.R (Kd.int .u64) 22 w' w.heap.size (fun k_ => some k_ ≠ ((.slice Ao39 t262.length co39) : Value).ownBlock ∧ some k_ ≠ ((.slice Ao42 y265.length co42) : Value).ownBlock) (.slice Ao38 y259.length co38) x11_2) ∧ jA (Kd.R (Kd.int .u64) 22 w' w.heap.size (fun k_ => some k_ ≠ ((.slice Ao38 y259.length co38) : Value).ownBlock ∧ some k_ ≠ ((.slice Ao42 y265.length co42) : Value).ownBlock) (.slice Ao39 t262.length co39) t262) ∧ jA (Kd.R (Kd.int .u64) 22 w' w.heap.size (fun k_ => some k_ ≠ ((.slice Ao38 y259.length co38) : Value).ownBlock ∧ some k_ ≠ ((.slice Ao39 t262.length co39) : Value).ownBlock) (.slice Ao42 y265.length co42) x13_2) ∧ jA (Below w.heap.size w w'))
            case atStart => exact ⟨(y259), (y265), (wrap64 ((y265.length : Int) - 1)), sd_, H', ⟨Nat.le_refl _⟩, ⟨by (with_reducible repeat (first | apply Kd.zK | apply Kd.zN | apply Kd.zM)); exact Kd.jk HO261.out (fun _ hk => ⟨hk.1.2, hk.2⟩)⟩, ⟨by (with_reducible repeat (first | apply Kd.zK | apply Kd.zN | apply Kd.zM)); exact Kd.jk HO264.out (fun _ hk => ⟨hk.1.2, hk.2⟩)⟩, ⟨by (with_reducible repeat (first | apply Kd.zK | apply Kd.zN | apply Kd.zM)); exact Kd.jk HO267.out (fun _ hk => ⟨hk.1.2, hk.2⟩)⟩, ⟨(bb_ HB)⟩⟩
            case round =>
             clear H'
             try clear c1
             try clear c2
             try clear p2
             try clear q2
             try clear hx2
             try clear qi2
             try clear c5
             try clear c6
             try clear p6
             try clear c7
             try clear c8
             try clear c8b0
             try clear c8b1
             try clear c8b2
             try clear c9
             try clear c9b0
             try clear c9b1
             try clear c10
             try clear c10b0
             try clear c10b1
             try clear c16
             try clear c16b0
             try clear c21
             try clear c21b0
             try clear c22
             try clear c22b0
             try clear p23
             try clear q23
             try clear hx23
             try clear qi23
             try clear c25
             try clear p25
             try clear q25
             try clear hx25
             try clear c28
             try clear c28b0
             try clear c28b1
             try clear c29
             try clear c29b0
             try clear c29b1
             try clear hx238_0
             try clear hx251_0
             try clear p2
             try clear p238
             try clear p251
             try clear q238
             try clear q251
             obtain ⟨x11_2, x13_2, x14_2, rfl, HA, HK2, HO_11, HO_12, HO_13, HB⟩ := hrel
             have hl11_2 := (Kd.jF HO_11.out).1
             rw [hl11_2] at HO_11
             (try simp only [hl11_2])
             (try simp only [hl11_2] at HO_12)
             (try simp only [hl11_2] at HO_13)
             have hl13_2 := (Kd.jF HO_13.out).1
             rw [hl13_2] at HO_13
             (try simp only [hl13_2])
             (try simp only [hl13_2] at HO_11)
             (try simp only [hl13_2] at HO_12)
             cases gk with
             | zero => exact absurd HA.out (by simp [vF.l0])
             | succ k2 =>
              have H := HA.out
              clear HA
              simp only [vF.l0] at H
              by_cases c43 : x14_2 ≥ 0
              ·
               rw [if_pos c43] at H
               have c43b0 := decide_eq_true c43
               clear c43
               obtain ⟨ji44, hji44⟩ : ∃ j_ : Int, (mn (wrap64 ((wrap64 (x14_2 + (t262.length : Int))) + 1)) (x11_2.length : Int)) = j_ := ⟨_, rfl⟩
               replace H : (if 0 ≤ x14_2 then (if x14_2 ≤ (ji44) then (if (ji44) ≤ (x11_2.length : Int) then ((jh.f k2 ((x11_2.take ((ji44) : Int).toNat).drop (x14_2 : Int).toNat) t262).bind fun t272 => (if x14_2 < (x13_2.length : Int) then (vF.l0 k2 t252 (Go.splice x11_2 (x14_2 : Int).toNat t272.2) t262 (x13_2.set (x14_2 : Int).toNat t272.1) (wrap64 (x14_2 - 1))) else (none))) else (none)) else (none)) else (none)) = some (r1, r2, r3) := by first | (rw [hji44] at H; exact H) | (simp only [hji44] at H ⊢; exact H)
               have hji44_ : (if (x11_2.length : Int) < (wrap64 ((wrap64 (x14_2 + (t262.length : Int))) + 1)) then (x11_2.length : Int) else (wrap64 ((wrap64 (x14_2 + (t262.length : Int))) + 1))) = ji44 := hji44
               by_cases c45 : 0 ≤ x14_2
               ·
                rw [if_pos c45] at H
                have c45b0 := eq_true c45
                have c45b1 := decide_eq_true c45
                clear c45
                by_cases c46 : x14_2 ≤ (ji44)
                ·
                 rw [if_pos c46] at H
                 have c46b0 := eq_true c46
                 have c46b1 := decide_eq_true c46
                 clear c46
                 by_cases c47 : (ji44) ≤ (x11_2.length : Int)
                 ·
                  rw [if_pos c47] at H
                  have c47b0 := eq_true c47
                  have c47b1 := decide_eq_true c47
                  clear c47
                  obtain ⟨y268, hy268⟩ : ∃ y_ : List Int, y_ = ((x11_2.take ((ji44) : Int).toNat).drop (x14_2 : Int).toNat) := ⟨_, rfl⟩
                  replace H : ((jh.f k2 y268 t262).bind fun t272 => (if x14_2 < (x13_2.length : Int) then (vF.l0 k2 t252 (Go.splice x11_2 (x14_2 : Int).toNat t272.2) t262 (x13_2.set (x14_2 : Int).toNat t272.1) (wrap64 (x14_2 - 1))) else (none))) = some (r1, r2, r3) := by first | (rw [hy268]; with_reducible exact H) | (have H2_ := (Option.bind_some _ _).symm.trans H; rw [hy268]; with_reducible exact H2_) | (with_reducible exact hs_ H) | with_reducible exact H | (rw [hy268]; exact H) | exact H
                  have Ny268 := jA.mk hy268
                  clear hy268
                  replace H := ob_ H
                  obtain ⟨t272, A480, H⟩ := H
                  try dsimp only at H
                  have A48 := jA.mk A480
                  clear A480
                  by_cases c49 : x14_2 < (x13_2.length : Int)
                  ·
                   rw [if_pos c49] at H
                   have c49b0 := decide_eq_true c49
                   (try simp only [hl13_2] at c49b0)
                   clear c49
                   obtain ⟨y273, hy273⟩ : ∃ y_ : List Int, y_ = (x13_2.set (x14_2 : Int).toNat t272.1) := ⟨_, rfl⟩
                   replace H : (vF.l0 k2 t252 (Go.splice x11_2 (x14_2 : Int).toNat t272.2) t262 y273 (wrap64 (x14_2 - 1))) = some (r1, r2, r3) := by first | (rw [hy273]; with_reducible exact H) | (have H2_ := (Option.bind_some _ _).symm.trans H; rw [hy273]; with_reducible exact H2_) | (with_reducible exact hs_ H) | with_reducible exact H | (rw [hy273]; exact H) | exact H
                   have Ny273 := jA.mk hy273
                   clear hy273
                   have H' := jA.mk H
                   clear H
                   have q51 : ((ji44) : Int) ≤ ((x11_2.length : Int) : Int) := of_decide_eq_true am_
                   obtain ⟨i051, hi051, _, hsz51, _⟩ := info_parts zw
                   have hroom51 : x11_2.length ≤ co38 := (Kd.jF HO_11.out).2.1
                   have hC51 : Kd.C (Kd.int .u64) _ Ao38 x11_2.length x11_2 := (Kd.jF HO_11.out).2.2
                   have ql51 : (x14_2 : Int) ≤ ((ji44) : Int) := of_decide_eq_true am_
                   have q051 : (0 : Int) ≤ (x14_2 : Int) := of_decide_eq_true am_
                   have hcut51 := jJa (P := Try.prog) 35 22 .i64 .i64 Try.underlying35 hi051 1 hsz51 Ao38 x11_2.length co38 x14_2 (ji44) q051 ql51 q51 hroom51
                   have hr51 := Kd.jLj (lo := (x14_2 : Int).toNat) (hi := ((ji44) : Int).toNat) (c := co38) hC51 (by omega) (by omega) hroom51
                   obtain ⟨A51, hA51⟩ : ∃ A1, A1 = (if co38 = (x14_2 : Int).toNat then Ao38 else (Ao38 : Option Addr).map (·.add ((x14_2 : Int).toNat * 1))) := ⟨_, rfl⟩
                   obtain ⟨c51, hc51⟩ : ∃ c1, c1 = co38 - (x14_2 : Int).toNat := ⟨_, rfl⟩
                   have hy51 : y268.length = ((ji44) : Int).toNat - (x14_2 : Int).toNat := (by rw [Ny268.out, List.length_drop, List.length_take] <;> omega)
                   rw [show ((x11_2).take ((ji44) : Int).toNat).drop (x14_2 : Int).toNat = y268 from Ny268.out.symm] at hr51
                   replace hr51 : Kd.C (Kd.int .u64) _ A51 y268.length y268 := (by rw [hA51]; exact hr51)
                   rw [← hy51, ← hA51, ← hc51] at hcut51
                   have HR271 := jA.mk hr51
                   have HC271 := jA.mk (show y268.length ≤ c51 from by rw [hy51, hc51]; exact Nat.sub_le_sub_right (Nat.le_trans (by omega) hroom51) _)
                   clear hr51 hC51 hroom51 hi051 hsz51 hc51
                   have KY51 := jA.mk hy51
                   have KA51 := jA.mk hA51
                   clear hy51 hA51
                   have KL51 := jA.mk (show ((ji44) : Int).toNat ≤ x11_2.length from by omega)
                   have KM51 := jA.mk (show (x14_2 : Int).toNat ≤ ((ji44) : Int).toNat from by omega)
                   replace q51 := eq_true q51
                   obtain ⟨d_, u1_⟩ := t272
                   have hdl := jh.len A48.out
                   have hdu := jh.len2 A48.out
                   have hx11 : 0 < x11_2.length := by have := KL51.out; have := KM51.out; have := KY51.out; omega
                   obtain ⟨ga, ca, ea, hga0, hga1, -⟩ := Kd.jAA HO_11.out hx11
                   injection ea with ea_ en_ ec_
                   subst ea_
                   clear en_
                   subst ec_
                   obtain ⟨cur, hcur, hcl, hspl⟩ := jHL (i := (x14_2 : Int).toNat) HO_11.out
                   have hA_ : A51 = some ⟨ga, (x14_2 : Int).toNat, none⟩ := by rw [KA51.out, if_neg (by have := KL51.out; have := KM51.out; have := KY51.out; have := (Kd.jF HO_11.out).2.1; omega), Option.map_some, Nat.mul_one, add_plain]
                   have hq13 : x14_2 < (x13_2.length : Int) := of_decide_eq_true am_
                   have hp13 : 0 ≤ x14_2 := of_decide_eq_true am_
                   obtain ⟨go_, co_, eo_, hgo0, hgo1, -⟩ := Kd.jAA HO_13.out (by omega)
                   injection eo_ with ea_ en_ ec_
                   subst ea_
                   clear en_
                   subst ec_
                   have hRW := HR271.out
                   rw [hA_] at hRW
                   have HFX := jA.mk (show (x14_2 : Int).toNat + y268.length ≤ x11_2.length ∧ (x14_2 : Int).toNat + y268.length ≤ cur.length from by have := KL51.out; have := KM51.out; have := KY51.out; omega)
                   have HCUR := jA.mk hcur
                   have HSPL := jA.mk hspl
                   have HRW := jA.mk hRW
                   have HDU := jA.mk hdu
                   have HGA := jA.mk (And.intro hga0 hgo0)
                   subst hA_
                   clear hcur hcl hspl hRW hdu hdl hx11 hga0 hga1 hgo0 hgo1 HR271
                   replace hq13 := eq_true hq13
                   replace hp13 := eq_true hp13
                   go_wp2_with fail
                   refine (jh.calls k2 ga (x14_2 : Int).toNat _ _ _ y268 t262 u1_ d_ cur _ HRW.out HC271.out HCUR.out HFX.out.2 (Kd.jF HO_12.out).2.2 (Kd.jF HO_12.out).2.1 A48.out).mono ?_
                   rintro e w52 ⟨rfl, hg, hc⟩
                   have n0_ := jA.mk (HSPL.out w52 u1_ (by rw [HDU.out]; exact HFX.out.1) hc)
                   have n1_ := jA.mk (Kd.jHN HO_12.out hg (fun k_ hk_ => hk_.1))
                   have n2_ := jA.mk (Kd.jHN HO_13.out hg (fun k_ hk_ => hk_.1))
                   have n3_ := jA.mk (jEa HB.out hg HGA.out.1)
                   clear HO_11 HO_12 HO_13 HB hg hc
                   have HO_11 := n0_
                   have HO_12 := n1_
                   have HO_13 := n2_
                   have HB := n3_
                   clear n0_ n1_ n2_ n3_
                   obtain ⟨hx50_0, hf50_0⟩ := Kd.zJ 0 HO_13.out (x14_2 : Int) (of_decide_eq_true am_) (of_decide_eq_true am_)
                   have HP := Kd.qz HO_13.out (x14_2 : Int) d_
                   have HP_ := jA.mk HP.1
                   clear HP
                   go_wp2
                   (try simp only [← hl13_2])
                   (try simp only [← hl11_2])
                   go_roundg k2
                   case measure => have := HJ2.out; have := HK2.out; omega
                   case rel =>
                    refine ⟨_, _, _, rfl, H', ⟨by have := HJ2.out; have := HK2.out; omega⟩, ⟨?_⟩, ⟨?_⟩, ⟨?_⟩, ⟨zI HB.out HGA.out.2⟩⟩
                    ·
                     (try simp only [hl13_2, hl11_2]); exact Kd.qX HO_11.out (fun k_ hk_ e_ => hk_.2 (by rw [e_]; rfl)) _
                    ·
                     (try simp only [hl13_2, hl11_2]); exact Kd.qX HO_12.out (fun k_ hk_ e_ => hk_.2 (by rw [e_]; rfl)) _
                    ·
                     (try simp only [hl13_2, hl11_2]); rw [Ny273.out]; exact HP_.out
                  ·
                   rw [if_neg c49] at H
                   exact absurd H (by simp)
                 ·
                  rw [if_neg c47] at H
                  exact absurd H (by simp)
                ·
                 rw [if_neg c46] at H
                 exact absurd H (by simp)
               ·
                rw [if_neg c45] at H
                exact absurd H (by simp)
              ·
               rw [if_neg c43] at H
               have c43b0 := decide_eq_false c43
               clear c43
               replace H := ob_ H
               obtain ⟨t274, A550, H⟩ := H
               try dsimp only at H
               have A55 := jA.mk A550
               clear A550
               replace H := ob_ H
               obtain ⟨t277, A560, H⟩ := H
               try dsimp only at H
               have A56 := jA.mk A560
               clear A560
               simp only [Option.some.injEq, Prod.mk.injEq] at H
               obtain ⟨rfl, rfl, rfl⟩ := H
               go_wp2_with (first | ((with_reducible refine jG (f := 96) rfl ?_); refine jo (some 96) rfl rfl Try.func96 kr_ rfl #[.slice Ao42 x13_2.length co42] rfl mt_ ?_; (with_reducible refine (vX.calls k2 _ _ x13_2 t274 _ ?side1 ?side2 A55.out).mono ?_); (case side1 => exact cc_ (Kd.jF HO_13.out).2.2); (case side2 => exact (Kd.jF HO_13.out).2.1); rintro e w57 ⟨v275, rfl, ho0, hb⟩; refine ⟨_, rfl, ?_⟩; have HO276 := jA.mk (Kd.jU (Kd.jR (Kd.jR (Kd.jR ho0 (Kd.R_lt (rR_ HO_11))) (Kd.R_lt (rR_ HO_12))) (Kd.R_lt (rR_ HO_13))) (jB (bb_ HB))); replace HO_11 := re_ HO_11 ho0 hb; replace HO_12 := re_ HO_12 ho0 hb; replace HO_13 := re_ HO_13 ho0 hb; replace HB := bs_ HB hb) | ((with_reducible refine jG (f := 100) rfl ?_); refine jo (some 100) rfl rfl Try.func100 kr_ rfl #[.slice Ao38 x11_2.length co38, .int .i64 (wrap64 (-t252))] rfl mt_ ?_; (with_reducible refine (jH.calls k2 _ _ x11_2 (wrap64 (-t252)) t277 _ ?side1 ?side2 A56.out).mono ?_); (case side1 => exact cc_ (Kd.jF HO_11.out).2.2); (case side2 => exact (Kd.jF HO_11.out).2.1); rintro e w58 ⟨v278, rfl, ho0, hb⟩; refine ⟨_, rfl, ?_⟩; have HO279 := jA.mk (Kd.jU (Kd.jR (Kd.jR (Kd.jR (Kd.jR ho0 (Kd.R_lt (rR_ HO_11))) (Kd.R_lt (rR_ HO_12))) (Kd.R_lt (rR_ HO_13))) (Kd.R_lt (rR_ HO276))) (jB (bb_ HB))); replace HO_11 := re_ HO_11 ho0 hb; replace HO_12 := re_ HO_12 ho0 hb; replace HO_13 := re_ HO_13 ho0 hb; replace HO276 := re_ HO276 ho0 hb; replace HB := bs_ HB hb))
               go_ret3
               exact ⟨_, _, by first | rfl | (simp [vM, vL] <;> rfl) | (simp only [← hji20, ← hji27]; first | rfl | (simp [vM, vL] <;> rfl)) | (simp [*, vM, vL] <;> rfl), by refine pR_ ?_; exact Kd.jk HO276.out (fun _ hk => hk.2), by refine pR_ ?_; exact Kd.jk HO279.out (fun _ hk => hk.2), (bb_ HB)⟩
           ·
            rw [if_neg c29] at H
            exact absurd H (by simp)
          ·
           rw [if_neg c28] at H
           exact absurd H (by simp)
         ·
          rw [if_neg c25] at H
          exact absurd H (by simp)
        ·
         rw [if_neg c22] at H
         exact absurd H (by simp)
       ·
        rw [if_neg c21] at H
        exact absurd H (by simp)

/-! ### vI: function 71 -/
mutual
def vI.j0 : Nat → List Int → List Int → Bool → Option (List Int × Int)
 | 0, _, _, _ => none
 | k + 1, x0, x1, x16 => if x16 = true then (some (([] : List Int), 1)) else ((vX.f k x0).bind fun t282 => ((vX.f k x1).bind fun t285 => (vI.l0 k t282 t285)))
def vI.l0 : Nat → List Int → List Int → Option (List Int × Int)
 | 0, _, _ => none
 | k + 1, x0, x1 => if (x1.length : Int) > 0 then ((vF.f k x0 x1).bind fun bt288 => (vI.l0 k x1 bt288.2.1)) else (some (x0, 0))
end
def vI.f (k : Nat) (l0 : List Int) (l1 : List Int) : Option (List Int × Int) := (zn.f l0).bind fun t280 => (if t280 = true then ((zn.f l1).bind fun t281 => (vI.j0 k l0 l1 (!t281))) else (vI.j0 k l0 l1 true))
theorem vI.vN : ∀ k, (∀ y0 y1 y2, LeO (vI.j0 k y0 y1 y2) (vI.j0 (k + 1) y0 y1 y2)) ∧ (∀ y0 y1, LeO (vI.l0 k y0 y1) (vI.l0 (k + 1) y0 y1))
 | 0 => ⟨fun _ _ _ r h => by simp [vI.j0] at h, fun _ _ r h => by simp [vI.l0] at h⟩
 | k + 1 => by
  obtain ⟨ih0, ih1⟩ := vI.vN k
  refine ⟨?_, ?_⟩ <;> (intros; first | unfold vI.j0 | unfold vI.l0) <;> repeat' first
   | (with_reducible exact ih0 _ _ _)
   | (with_reducible exact ih1 _ _)
   | (with_reducible exact vX.mono _ _)
   | (with_reducible exact vF.mono _ _ _)
   | (with_reducible exact LeO.refl _)
   | (with_reducible exact LeO.none _)
   | (with_reducible refine LeO.ite ?_ ?_)
   | (with_reducible refine LeO.bind ?_ (fun _ => ?_))
theorem vI.mono : ∀ a0 a1 k, LeO (vI.f k a0 a1) (vI.f (k + 1) a0 a1) := by
 intro a0 a1 k
 obtain ⟨ih0, ih1⟩ := vI.vN k
 unfold vI.f
 repeat' first
   | (with_reducible exact ih0 _ _ _)
   | (with_reducible exact ih1 _ _)
   | (with_reducible exact vX.mono _ _)
   | (with_reducible exact vF.mono _ _ _)
   | (with_reducible exact LeO.refl _)
   | (with_reducible exact LeO.none _)
   | (with_reducible refine LeO.ite ?_ ?_)
   | (with_reducible refine LeO.bind ?_ (fun _ => ?_))
theorem vI.calls (k : Nat) (A0 : Option Addr) (c0 : Nat) (l0 : List Int) (A1 : Option Addr) (c1 : Nat) (l1 : List Int) (r1 : List Int) (r2 : Int) (w : World) (hr0 : Kd.C (Kd.int .u64) w A0 l0.length l0) (hc0 : l0.length ≤ c0) (hr1 : Kd.C (Kd.int .u64) w A1 l1.length l1) (hc1 : l1.length ≤ c1) (h : vI.f k l0 l1 = some (r1, r2)) :
  Calls Try.prog 71 #[.slice A0 l0.length c0, .slice A1 l1.length c1] w fun e w' => ∃ v0_ : Value, e = .returned (.tuple #[v0_, .int .i64 r2]) ∧ Kd.R (Kd.int .u64) 22 w' w.heap.size (fun _ => True) v0_ r1 ∧ Below w.heap.size w w' := by
 have HR0 := jA.mk hr0
 have HC0 := jA.mk hc0
 clear hr0 hc0
 have HR1 := jA.mk hr1
 have HC1 := jA.mk hc1
 clear hr1 hc1
 have HB := jA.mk (Below.refl w.heap.size w)
 have H : ((zn.f l0).bind fun t280 => (if t280 = true then ((zn.f l1).bind fun t281 => (vI.j0 k l0 l1 (!t281))) else (vI.j0 k l0 l1 true))) = some (r1, r2) := h
 clear h
 have HC3 := jA.mk H
 clear H
 go_enter Try.func71, Try.ntmps71
 go_upto_region 1 with (fail)
 go_cut [16] (fun v16 wc => ∃ (kq : Nat) (x16_2 : Bool), v16 = .bool x16_2 ∧ jA (vI.j0 kq l0 l1 x16_2 = some (r1, r2)) ∧ jA (kq ≤ k) ∧ jA (Below w.heap.size w wc))
 case first =>
  have H := HC3.out
  clear HC3
  replace H := ob_ H
  obtain ⟨t280, A40, H⟩ := H
  try dsimp only at H
  have A4 := jA.mk A40
  clear A40
  by_cases c5 : t280 = true
  ·
   subst c5
   have H1 : ((zn.f l1).bind fun t281 => (vI.j0 k l0 l1 (!t281))) = some (r1, r2) := by rw [if_pos rfl] at H; exact H
   clear H
   have H := H1
   clear H1
   replace H := ob_ H
   obtain ⟨t281, A60, H⟩ := H
   try dsimp only at H
   have A6 := jA.mk A60
   clear A60
   have H' := jA.mk H
   clear H
   go_wp2_with (first | ((with_reducible refine jG (f := 64) rfl ?_); refine jo (some 10) rfl rfl Try.func64 kr_ rfl #[.slice A0 l0.length c0] rfl mt_ ?_; (with_reducible refine (zn.calls _ _ l0 true _ ?side1 ?side2 A4.out).mono ?_); (case side1 => exact cc_ (Kd.jq HR0.out HB.out)); (case side2 => exact HC0.out); rintro e w' ⟨rfl, ⟨nd, rfl⟩⟩; refine ⟨_, rfl, ?_⟩) | ((with_reducible refine jr (N := 14) rfl ?_); refine vE (by first | rfl | kernel_rfl) ?_; dsimp only; (with_reducible refine jG (f := 64) rfl ?_); refine jo (some 14) rfl rfl Try.func64 kr_ rfl #[.slice A1 l1.length c1] rfl mt_ ?_; (with_reducible refine (zn.calls _ _ l1 t281 _ ?side1 ?side2 A6.out).mono ?_); (case side1 => repeat (first | exact (Kd.jq HR1.out (bb_ HB)) | (with_reducible refine Kd.zh ?_ _) | (with_reducible refine Kd.zu ?_ _) | (with_reducible refine Kd.qW ?_))); (case side2 => exact HC1.out); rintro e w' ⟨rfl, ⟨nd, rfl⟩⟩; refine ⟨_, rfl, ?_⟩))
   go_meet
   case rel => exact ⟨_, (!t281), sd_, H', ⟨by first | omega | exact Nat.le_refl _⟩, ⟨(bb_ HB)⟩⟩
  ·
   replace c5 := Bool.eq_false_iff.mpr c5
   subst c5
   have H1 : (vI.j0 k l0 l1 true) = some (r1, r2) := by rw [if_neg (show ¬ (false = true) by decide)] at H; exact H
   clear H
   have H := H1
   clear H1
   have H' := jA.mk H
   clear H
   go_wp2_with (first | ((with_reducible refine jG (f := 64) rfl ?_); refine jo (some 10) rfl rfl Try.func64 kr_ rfl #[.slice A0 l0.length c0] rfl mt_ ?_; (with_reducible refine (zn.calls _ _ l0 false _ ?side1 ?side2 A4.out).mono ?_); (case side1 => exact cc_ (Kd.jq HR0.out HB.out)); (case side2 => exact HC0.out); rintro e w' ⟨rfl, ⟨nd, rfl⟩⟩; refine ⟨_, rfl, ?_⟩))
   go_meet
   case rel => exact ⟨_, (true), sd_, H', ⟨by first | omega | exact Nat.le_refl _⟩, ⟨(bb_ HB)⟩⟩
 case rest =>
  clear HC3
  try clear c1
  try clear p2
  try clear c5
  try clear c6
  obtain ⟨kq, x16_2, rfl, HA, HJ2, HB⟩ := hcut
  cases kq with
  | zero => exact absurd HA.out (by simp [vI.j0])
  | succ kj2 =>
   have H := HA.out
   clear HA
   simp only [vI.j0] at H
   by_cases c7 : x16_2 = true
   ·
    subst c7
    have H1 : (some (([] : List Int), 1)) = some (r1, r2) := by rw [if_pos rfl] at H; exact H
    clear H
    have H := H1
    clear H1
    simp only [Option.some.injEq, Prod.mk.injEq] at H
    obtain ⟨rfl, rfl⟩ := H
    go_wp2
    go_ret2
    exact ⟨_, ew_, nl_, (bb_ HB)⟩
   ·
    replace c7 := Bool.eq_false_iff.mpr c7
    subst c7
    have H1 : ((vX.f kj2 l0).bind fun t282 => ((vX.f kj2 l1).bind fun t285 => (vI.l0 kj2 t282 t285))) = some (r1, r2) := by rw [if_neg (show ¬ (false = true) by decide)] at H; exact H
    clear H
    have H := H1
    clear H1
    replace H := ob_ H
    obtain ⟨t282, A80, H⟩ := H
    try dsimp only at H
    have A8 := jA.mk A80
    clear A80
    replace H := ob_ H
    obtain ⟨t285, A90, H⟩ := H
    try dsimp only at H
    have A9 := jA.mk A90
    clear A90
    have H' := jA.mk H
    clear H
    go_wp2_with (first | ((with_reducible refine jG (f := 96) rfl ?_); refine jo (some 18) rfl rfl Try.func96 kr_ rfl #[.slice A0 l0.length c0] rfl mt_ ?_; (with_reducible refine (vX.calls kj2 _ _ l0 t282 _ ?side1 ?side2 A8.out).mono ?_); (case side1 => exact cc_ (Kd.jq HR0.out HB.out)); (case side2 => exact HC0.out); rintro e w10 ⟨v283, rfl, ho0, hb⟩; refine ⟨_, rfl, ?_⟩; have HO284 := jA.mk (Kd.jU ho0 (jB (bb_ HB))); replace HB := bs_ HB hb) | ((with_reducible refine jG (f := 96) rfl ?_); refine jo (some 20) rfl rfl Try.func96 kr_ rfl #[.slice A1 l1.length c1] rfl mt_ ?_; (with_reducible refine (vX.calls kj2 _ _ l1 t285 _ ?side1 ?side2 A9.out).mono ?_); (case side1 => exact cc_ (Kd.jq HR1.out HB.out)); (case side2 => exact HC1.out); rintro e w11 ⟨v286, rfl, ho0, hb⟩; refine ⟨_, rfl, ?_⟩; have HO287 := jA.mk (Kd.jU (Kd.jR ho0 (Kd.R_lt (rR_ HO284))) (jB (bb_ HB))); replace HO284 := re_ HO284 ho0 hb; replace HB := bs_ HB hb))
    go_loopg [0, 1] kj2 (fun kq v0 v1 w' => ∃ (x0_2 : List Int) (x1_2 : List Int), jA (vI.l0 kq x0_2 x1_2 = some (r1, r2)) ∧ jA (kq ≤ kj2) ∧ jA (Kd.R (Kd.int .u64) 22 w' w.heap.size (fun k_ => some k_ ≠ (v1 : Value).ownBlock) v0 x0_2) ∧ jA (Kd.R (Kd.int .u64) 22 w' w.heap.size (fun k_ => some k_ ≠ (v0 : Value).ownBlock) v1 x1_2) ∧ jA (Below w.heap.size w w'))
    case atStart => exact ⟨(t282), (t285), H', ⟨Nat.le_refl _⟩, ⟨by (with_reducible repeat (first | apply Kd.zK | apply Kd.zN | apply Kd.zM)); exact Kd.jk HO284.out (fun _ hk => hk.2)⟩, ⟨by (with_reducible repeat (first | apply Kd.zK | apply Kd.zN | apply Kd.zM)); exact Kd.jk HO287.out (fun _ hk => hk.2)⟩, ⟨(bb_ HB)⟩⟩
    case round =>
     clear H'
     try clear c1
     try clear p2
     try clear c5
     try clear c6
     try clear c7
     try clear c9
     try clear p2
     obtain ⟨x0_2, x1_2, HA, HK2, HO_0, HO_1, HB⟩ := hrel
     cases gk with
     | zero => exact absurd HA.out (by simp [vI.l0])
     | succ k2 =>
      have H := HA.out
      clear HA
      simp only [vI.l0] at H
      by_cases c12 : (x1_2.length : Int) > 0
      ·
       rw [if_pos c12] at H
       have c12b0 := decide_eq_true c12
       have c12b1 : decide (0 < x1_2.length) = true := decide_eq_true (by omega)
       clear c12
       replace H := ob_ H
       obtain ⟨⟨t288, t289, t290⟩, A130, H⟩ := H
       try dsimp only at H
       have A13 := jA.mk A130
       clear A130
       have H' := jA.mk H
       clear H
       obtain ⟨Ao14, co14, eo14⟩ := Kd.jm HO_1.out
       subst eo14
       obtain ⟨Ao15, co15, eo15⟩ := Kd.jm HO_0.out
       subst eo15
       go_wp2_with (first | ((with_reducible refine jG (f := 72) rfl ?_); refine jo (some 27) rfl rfl Try.func72 kr_ rfl #[.slice Ao15 x0_2.length co15, .slice Ao14 x1_2.length co14] rfl mt_ ?_; (with_reducible refine (vF.calls k2 _ _ x0_2 _ _ x1_2 t288 t289 t290 _ ?side1 ?side2 ?side3 ?side4 A13.out).mono ?_); (case side1 => exact cc_ (Kd.jF HO_0.out).2.2); (case side2 => exact (Kd.jF HO_0.out).2.1); (case side3 => exact cc_ (Kd.jF HO_1.out).2.2); (case side4 => exact (Kd.jF HO_1.out).2.1); rintro e w16 ⟨v291, v293, rfl, ho0, ho1, hb⟩; refine ⟨_, rfl, ?_⟩; have HO292 := jA.mk (Kd.jU (Kd.jR (Kd.jR ho0 (Kd.R_lt (rR_ HO_0))) (Kd.R_lt (rR_ HO_1))) (jB (bb_ HB))); have HO294 := jA.mk (Kd.jU (Kd.jR (Kd.jR ho1 (Kd.R_lt (rR_ HO_0))) (Kd.R_lt (rR_ HO_1))) (jB (bb_ HB))); replace HO_0 := jA.mk (Kd.jk (Kd.jAd (Kd.jAd (Kd.jEE (rR_ HO_0) hb) (Kd.zf ho0)) (Kd.zf ho1)) (fun _ h_ => h_.1)); replace HO_1 := jA.mk (Kd.jk (Kd.jAd (Kd.jAd (Kd.jEE (rR_ HO_1) hb) (Kd.zf ho0)) (Kd.zf ho1)) (fun _ h_ => h_.1)); replace HB := bs_ HB hb))
       go_roundg k2
       case measure => have := HJ2.out; have := HK2.out; omega
       case rel => exact ⟨(x1_2), (t289), H', ⟨by have := HJ2.out; have := HK2.out; omega⟩, ⟨by (with_reducible repeat (first | apply Kd.zK | apply Kd.zN | apply Kd.zM)); exact Kd.jk HO_1.out (fun _ hk => hk.2)⟩, ⟨by (with_reducible repeat (first | apply Kd.zK | apply Kd.zN | apply Kd.zM)); exact Kd.jk HO294.out (fun _ hk => hk.2)⟩, ⟨(bb_ HB)⟩⟩
      ·
       rw [if_neg c12] at H
       have c12b0 := decide_eq_false c12
       have c12b1 : decide (0 < x1_2.length) = false := decide_eq_false (by omega)
       clear c12
       simp only [Option.some.injEq, Prod.mk.injEq] at H
       obtain ⟨rfl, rfl⟩ := H
       obtain ⟨Ao17, co17, eo17⟩ := Kd.jm HO_1.out
       subst eo17
       go_wp2
       go_ret2
       exact ⟨_, ew_, by refine pR_ ?_; exact Kd.jk HO_0.out (fun _ hk => trivial), (bb_ HB)⟩

/-! ### jAH: function 73 -/
def jAH.f (k : Nat) (l0 : List Int) (l1 : List Int) : Option (Int) := (vV.f k l0 l1).bind fun t295 => (some t295)
theorem jAH.mono : ∀ a0 a1 k, LeO (jAH.f k a0 a1) (jAH.f (k + 1) a0 a1) := by
 intro a0 a1 k
 unfold jAH.f
 repeat' first
   | (with_reducible exact vV.mono _ _ _)
   | (with_reducible exact LeO.refl _)
   | (with_reducible exact LeO.none _)
   | (with_reducible refine LeO.ite ?_ ?_)
   | (with_reducible refine LeO.bind ?_ (fun _ => ?_))
theorem jAH.calls (k : Nat) (A0 : Option Addr) (c0 : Nat) (l0 : List Int) (A1 : Option Addr) (c1 : Nat) (l1 : List Int) (r : Int) (w : World) (hr0 : Kd.C (Kd.int .u64) w A0 l0.length l0) (hc0 : l0.length ≤ c0) (hr1 : Kd.C (Kd.int .u64) w A1 l1.length l1) (hc1 : l1.length ≤ c1) (h : jAH.f k l0 l1 = some r) :
  Calls Try.prog 73 #[.slice A0 l0.length c0, .slice A1 l1.length c1] w fun e w' => e = .returned (.int .i64 r) ∧ Below w.heap.size w w' := by
 have HR0 := jA.mk hr0
 have HC0 := jA.mk hc0
 clear hr0 hc0
 have HR1 := jA.mk hr1
 have HC1 := jA.mk hc1
 clear hr1 hc1
 have HB := jA.mk (Below.refl w.heap.size w)
 have H : ((vV.f k l0 l1).bind fun t295 => (some t295)) = some r := h
 clear h
 replace H := ob_ H
 obtain ⟨t295, A30, H⟩ := H
 replace H : (some t295) = some r := H
 have A3 := jA.mk A30
 clear A30
 obtain rfl := Option.some.inj H
 go_enter Try.func73, Try.ntmps73
 go_wp2_with (first | ((with_reducible refine jG (f := 98) rfl ?_); refine jo (some 7) rfl rfl Try.func98 kr_ rfl #[.slice A0 l0.length c0, .slice A1 l1.length c1] rfl mt_ ?_; (with_reducible refine (vV.calls k _ _ l0 _ _ l1 t295 _ ?side1 ?side2 ?side3 ?side4 A3.out).mono ?_); (case side1 => exact cc_ HR0.out); (case side2 => exact HC0.out); (case side3 => exact cc_ HR1.out); (case side4 => exact HC1.out); rintro e w4 ⟨rfl, hb⟩; refine ⟨_, rfl, ?_⟩; replace HB := bs_ HB hb))
 go_ret
 exact ⟨ew_, (bb_ HB)⟩

end Go.Proofs.Ytijgeonhbmgikaa.POOctetGets
