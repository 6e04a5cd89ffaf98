-- printed (pr.py)
import Derived.Test.YtijgeonhbmgikaaPOOctetPutsx0
import Derived.Test.YtijgeonhbmgikaaPOOctetPutsx2
import Derived.Test.YtijgeonhbmgikaaPOOctetPutsx3
import Derived.Test.YtijgeonhbmgikaaPOOctetPutsx4
import Derived.Test.YtijgeonhbmgikaaPOOctetPutsx5
import Derived.Test.YtijgeonhbmgikaaPOOctetPutsx6
import Derived.Test.YtijgeonhbmgikaaPOOctetPutsx7
import Derived.Test.YtijgeonhbmgikaaPOOctetPutsx10
namespace Go.Proofs.Ytijgeonhbmgikaa.POOctetPuts
open Go.RowKit Go.Proofs.YtijgeonhbmgikaaN Go.Proofs.YtijgeonhbmgikaaW.PrintWords Go.Proofs.YtijgeonhbmgikaaW.PrintLast Go.Proofs.YtijgeonhbmgikaaW.PrintMore
attribute [local go_sem] qE qC qP qO ze za qD qA
set_option maxHeartbeats 8000000
set_option maxRecDepth 100000
set_option linter.unusedVariables false
set_option linter.unusedSimpArgs false

/-! ### vB: function 72 -/
mutual
def vB.j0 : Nat → List Int → List Int → Bool → Option (List Int × List Int × Int)
 | 0, _, _, _ => none
 | k + 1, x0, x1, x15 => if x15 = true then (some (([] : List Int), ([] : List Int), 1)) else (if (x1.length : Int) = 0 then (some (([] : List Int), ([] : List Int), 30)) else (if (x1.length : Int) = 1 then (if 0 < (x1.length : Int) then ((vG.f k x0 (rd x1 0)).bind fun bt231 => ((jBk.f bt231.2.1).bind fun t236 => (some (bt231.1, t236, 0)))) else (none)) else ((vP.f k x0 x1).bind fun t239 => (if t239 < 0 then ((vR.f k x0).bind fun t240 => (some (([] : List Int), t240, 0))) else (if 0 ≤ (wrap64 ((x1.length : Int) - 1)) then (if (wrap64 ((x1.length : Int) - 1)) < (x1.length : Int) then ((bits_LeadingZeros64.f (rd x1 (wrap64 ((x1.length : Int) - 1)))).bind fun t244 => ((jG.f k x0 t244).bind fun t245 => ((some (([0, 0] : List Int) : List Int)).bind fun y248 => (if t245.length + y248.length < 17592186044416 then ((some (t245 ++ y248 : List Int)).bind fun y251 => ((jG.f k x1 t244).bind fun t254 => (if 0 ≤ (wrap64 ((y251.length : Int) - (t254.length : Int))) then (if (wrap64 ((y251.length : Int) - (t254.length : Int)) : Int).toNat ≤ 35184372088832 then ((some (List.replicate (wrap64 ((y251.length : Int) - (t254.length : Int)) : Int).toNat 0 : List Int)).bind fun y257 => (vB.l0 k t244 y251 t254 y257 (wrap64 ((y257.length : Int) - 1)))) else (none)) else (none)))) else (none))))) else (none)) else (none))))))
def vB.l0 : Nat → Int → List Int → List Int → List Int → Int → Option (List Int × List Int × Int)
 | 0, _, _, _, _, _ => none
 | k + 1, x10, x11, x12, x13, x14 => if x14 ≥ 0 then (if 0 ≤ x14 then (if x14 ≤ (mn (wrap64 ((wrap64 (x14 + (x12.length : Int))) + 1)) (x11.length : Int)) then (if (mn (wrap64 ((wrap64 (x14 + (x12.length : Int))) + 1)) (x11.length : Int)) ≤ (x11.length : Int) then ((jd.f k ((x11.take ((mn (wrap64 ((wrap64 (x14 + (x12.length : Int))) + 1)) (x11.length : Int)) : Int).toNat).drop (x14 : Int).toNat) x12).bind fun t264 => (if x14 < (x13.length : Int) then (vB.l0 k x10 (Go.splice x11 (x14 : Int).toNat t264.2) x12 (x13.set (x14 : Int).toNat t264.1) (wrap64 (x14 - 1))) else (none))) else (none)) else (none)) else (none)) else ((vR.f k x13).bind fun t266 => ((jG.f k x11 (wrap64 (-x10))).bind fun t269 => (some (t266, t269, 0))))
end
def vB.f (k : Nat) (l0 : List Int) (l1 : List Int) : Option (List Int × List Int × Int) := (zP.f l0).bind fun t228 => (if t228 = true then ((zP.f l1).bind fun t229 => (vB.j0 k l0 l1 (!t229))) else (vB.j0 k l0 l1 true))
theorem vB.vJ : ∀ k, (∀ y0 y1 y2, LeO (vB.j0 k y0 y1 y2) (vB.j0 (k + 1) y0 y1 y2)) ∧ (∀ y0 y1 y2 y3 y4, LeO (vB.l0 k y0 y1 y2 y3 y4) (vB.l0 (k + 1) y0 y1 y2 y3 y4))
 | 0 => ⟨fun _ _ _ r h => by simp [vB.j0] at h, fun _ _ _ _ _ r h => by simp [vB.l0] at h⟩
 | k + 1 => by
  obtain ⟨ih0, ih1⟩ := vB.vJ k
  refine ⟨?_, ?_⟩ <;> (intros; first | unfold vB.j0 | unfold vB.l0) <;> repeat' first
   | (with_reducible exact ih0 _ _ _)
   | (with_reducible exact ih1 _ _ _ _ _)
   | (with_reducible exact vP.mono _ _ _)
   | (with_reducible exact jG.mono _ _ _)
   | (with_reducible exact vR.mono _ _)
   | (with_reducible exact vG.mono _ _ _)
   | (with_reducible exact jd.mono _ _ _)
   | (with_reducible exact LeO.refl _)
   | (with_reducible exact LeO.none _)
   | (with_reducible refine LeO.ite ?_ ?_)
   | (with_reducible refine LeO.bind ?_ (fun _ => ?_))
theorem vB.mono : ∀ a0 a1 k, LeO (vB.f k a0 a1) (vB.f (k + 1) a0 a1) := by
 intro a0 a1 k
 obtain ⟨ih0, ih1⟩ := vB.vJ k
 unfold vB.f
 repeat' first
   | (with_reducible exact ih0 _ _ _)
   | (with_reducible exact ih1 _ _ _ _ _)
   | (with_reducible exact vP.mono _ _ _)
   | (with_reducible exact jG.mono _ _ _)
   | (with_reducible exact vR.mono _ _)
   | (with_reducible exact vG.mono _ _ _)
   | (with_reducible exact jd.mono _ _ _)
   | (with_reducible exact LeO.refl _)
   | (with_reducible exact LeO.none _)
   | (with_reducible refine LeO.ite ?_ ?_)
   | (with_reducible refine LeO.bind ?_ (fun _ => ?_))
theorem vB.calls (k : Nat) (A0 : Option Addr) (c0 : Nat) (l0 : List Int) (A1 : Option Addr) (c1 : Nat) (l1 : List Int) (r1 : List Int) (r2 : List Int) (r3 : Int) (w : World) (hr0 : Kd.C (Kd.int .u64) w A0 l0.length l0) (hc0 : l0.length ≤ c0) (hr1 : Kd.C (Kd.int .u64) w A1 l1.length l1) (hc1 : l1.length ≤ c1) (h : vB.f k l0 l1 = some (r1, r2, r3)) :
  Calls Try.prog 72 #[.slice A0 l0.length c0, .slice A1 l1.length c1] w fun e w' => ∃ v0_ v1_ : Value, e = .returned (.tuple #[v0_, v1_, .int .i64 r3]) ∧ Kd.R (Kd.int .u64) 22 w' w.heap.size (fun k_ => some k_ ≠ (v1_ : Value).ownBlock) v0_ r1 ∧ Kd.R (Kd.int .u64) 22 w' w.heap.size (fun k_ => some k_ ≠ (v0_ : Value).ownBlock) v1_ r2 ∧ Below w.heap.size w w' := by
 have HR0 := jA.mk hr0
 have HC0 := jA.mk hc0
 clear hr0 hc0
 have HR1 := jA.mk hr1
 have HC1 := jA.mk hc1
 clear hr1 hc1
 have HB := jA.mk (Below.refl w.heap.size w)
 have H : ((zP.f l0).bind fun t228 => (if t228 = true then ((zP.f l1).bind fun t229 => (vB.j0 k l0 l1 (!t229))) else (vB.j0 k l0 l1 true))) = some (r1, r2, r3) := h
 clear h
 have HC3 := jA.mk H
 clear H
 go_enter Try.func72, Try.ntmps72
 go_upto_region 1 with (fail)
 go_cut [15] (fun v15 wc => ∃ (kq : Nat) (x15_2 : Bool), v15 = .bool x15_2 ∧ jA (vB.j0 kq l0 l1 x15_2 = some (r1, r2, r3)) ∧ jA (kq ≤ k) ∧ jA (Below w.heap.size w wc))
 case first =>
  have H := HC3.out
  clear HC3
  replace H := ob_ H
  obtain ⟨t228, A40, H⟩ := H
  try dsimp only at H
  have A4 := jA.mk A40
  clear A40
  by_cases c5 : t228 = true
  ·
   subst c5
   have H1 : ((zP.f l1).bind fun t229 => (vB.j0 k l0 l1 (!t229))) = some (r1, r2, r3) := by rw [if_pos rfl] at H; exact H
   clear H
   have H := H1
   clear H1
   replace H := ob_ H
   obtain ⟨t229, A60, H⟩ := H
   try dsimp only at H
   have A6 := jA.mk A60
   clear A60
   have H' := jA.mk H
   clear H
   go_wp2_with (first | ((with_reducible refine jF (f := 64) rfl ?_); refine jg (some 17) rfl rfl Try.func64 kr_ rfl #[.slice A0 l0.length c0] rfl mt_ ?_; (with_reducible refine (zP.calls _ _ l0 true _ ?side1 ?side2 A4.out).mono ?_); (case side1 => exact cc_ (Kd.jW HR0.out HB.out)); (case side2 => exact HC0.out); rintro e w' ⟨rfl, ⟨nd, rfl⟩⟩; refine ⟨_, rfl, ?_⟩) | ((with_reducible refine jq (N := 21) rfl ?_); refine jv (by first | rfl | kernel_rfl) ?_; dsimp only; (with_reducible refine jF (f := 64) rfl ?_); refine jg (some 21) rfl rfl Try.func64 kr_ rfl #[.slice A1 l1.length c1] rfl mt_ ?_; (with_reducible refine (zP.calls _ _ l1 t229 _ ?side1 ?side2 A6.out).mono ?_); (case side1 => repeat (first | exact (Kd.jW HR1.out (bb_ HB)) | (with_reducible refine Kd.zU ?_ _) | (with_reducible refine Kd.zm ?_ _) | (with_reducible refine Kd.qL ?_))); (case side2 => exact HC1.out); rintro e w' ⟨rfl, ⟨nd, rfl⟩⟩; refine ⟨_, rfl, ?_⟩))
   go_meet
   case rel => exact ⟨_, (!t229), sd_, H', ⟨by first | omega | exact Nat.le_refl _⟩, ⟨(bb_ HB)⟩⟩
  ·
   replace c5 := Bool.eq_false_iff.mpr c5
   subst c5
   have H1 : (vB.j0 k l0 l1 true) = some (r1, r2, r3) := by rw [if_neg (show ¬ (false = true) by decide)] at H; exact H
   clear H
   have H := H1
   clear H1
   have H' := jA.mk H
   clear H
   go_wp2_with (first | ((with_reducible refine jF (f := 64) rfl ?_); refine jg (some 17) rfl rfl Try.func64 kr_ rfl #[.slice A0 l0.length c0] rfl mt_ ?_; (with_reducible refine (zP.calls _ _ l0 false _ ?side1 ?side2 A4.out).mono ?_); (case side1 => exact cc_ (Kd.jW HR0.out HB.out)); (case side2 => exact HC0.out); rintro e w' ⟨rfl, ⟨nd, rfl⟩⟩; refine ⟨_, rfl, ?_⟩))
   go_meet
   case rel => exact ⟨_, (true), sd_, H', ⟨by first | omega | exact Nat.le_refl _⟩, ⟨(bb_ HB)⟩⟩
 case rest =>
  clear HC3
  try clear c1
  try clear p2
  try clear c5
  try clear c6
  obtain ⟨kq, x15_2, rfl, HA, HJ2, HB⟩ := hcut
  cases kq with
  | zero => exact absurd HA.out (by simp [vB.j0])
  | succ kj2 =>
   have H := HA.out
   clear HA
   simp only [vB.j0] at H
   by_cases c7 : x15_2 = true
   ·
    subst c7
    have H1 : (some (([] : List Int), ([] : List Int), 1)) = some (r1, r2, r3) := by rw [if_pos rfl] at H; exact H
    clear H
    have H := H1
    clear H1
    simp only [Option.some.injEq, Prod.mk.injEq] at H
    obtain ⟨rfl, rfl, rfl⟩ := H
    go_wp2
    go_ret3
    exact ⟨_, _, ew_, nl_, nl_, (bb_ HB)⟩
   ·
    replace c7 := Bool.eq_false_iff.mpr c7
    subst c7
    have H1 : (if (l1.length : Int) = 0 then (some (([] : List Int), ([] : List Int), 30)) else (if (l1.length : Int) = 1 then (if 0 < (l1.length : Int) then ((vG.f kj2 l0 (rd l1 0)).bind fun bt231 => ((jBk.f bt231.2.1).bind fun t236 => (some (bt231.1, t236, 0)))) else (none)) else ((vP.f kj2 l0 l1).bind fun t239 => (if t239 < 0 then ((vR.f kj2 l0).bind fun t240 => (some (([] : List Int), t240, 0))) else (if 0 ≤ (wrap64 ((l1.length : Int) - 1)) then (if (wrap64 ((l1.length : Int) - 1)) < (l1.length : Int) then ((bits_LeadingZeros64.f (rd l1 (wrap64 ((l1.length : Int) - 1)))).bind fun t244 => ((jG.f kj2 l0 t244).bind fun t245 => ((some (([0, 0] : List Int) : List Int)).bind fun y248 => (if t245.length + y248.length < 17592186044416 then ((some (t245 ++ y248 : List Int)).bind fun y251 => ((jG.f kj2 l1 t244).bind fun t254 => (if 0 ≤ (wrap64 ((y251.length : Int) - (t254.length : Int))) then (if (wrap64 ((y251.length : Int) - (t254.length : Int)) : Int).toNat ≤ 35184372088832 then ((some (List.replicate (wrap64 ((y251.length : Int) - (t254.length : Int)) : Int).toNat 0 : List Int)).bind fun y257 => (vB.l0 kj2 t244 y251 t254 y257 (wrap64 ((y257.length : Int) - 1)))) else (none)) else (none)))) else (none))))) else (none)) else (none)))))) = some (r1, r2, r3) := by rw [if_neg (show ¬ (false = true) by decide)] at H; exact H
    clear H
    have H := H1
    clear H1
    by_cases c8 : (l1.length : Int) = 0
    ·
     rw [if_pos c8] at H
     have c8b0 := beq_iff_eq.mpr c8
     have c8b1 := bne_eq_false_iff_eq.mpr c8
     clear c8
     simp only [Option.some.injEq, Prod.mk.injEq] at H
     obtain ⟨rfl, rfl, rfl⟩ := H
     go_wp2
     go_ret3
     exact ⟨_, _, ew_, nl_, nl_, (bb_ HB)⟩
    ·
     rw [if_neg c8] at H
     have c8b0 := beq_eq_false_iff_ne.mpr c8
     have c8b1 := bne_iff_ne.mpr c8
     have c8b2 : ¬ (l1 = []) := fun h_ => c8 (by rw [h_]; rfl)
     by_cases c9 : (l1.length : Int) = 1
     ·
      rw [if_pos c9] at H
      have c9b0 := beq_iff_eq.mpr c9
      have c9b1 := bne_eq_false_iff_eq.mpr c9
      clear c9
      by_cases c10 : 0 < (l1.length : Int)
      ·
       rw [if_pos c10] at H
       have c10b0 := decide_eq_true c10
       have c10b1 : decide (0 < l1.length) = true := decide_eq_true (by omega)
       clear c10
       replace H := ob_ H
       obtain ⟨⟨t231, t232, t233⟩, A110, H⟩ := H
       try dsimp only at H
       have A11 := jA.mk A110
       clear A110
       replace H := ob_ H
       obtain ⟨t236, A120, H⟩ := H
       try dsimp only at H
       have A12 := jA.mk A120
       clear A120
       simp only [Option.some.injEq, Prod.mk.injEq] at H
       obtain ⟨rfl, rfl, rfl⟩ := H
       have p230 : 0 ≤ (0 : Int) := (by omega)
       have q230 : 0 < (l1.length : Int) := of_decide_eq_true am_
       obtain ⟨ad230, e230, hx230_0⟩ := Kd.vW HR1.out 0 p230 q230
       cases e230
       have qi230 : (0 < l1.length) = True := eq_true (by omega)
       (try rw [show ((0 : Int)).toNat = 0 from rfl] at hx230_0)
       (try rw [Addr.add_zero'] at hx230_0)
       replace hx230_0 := (HB.out.cell (World.block_lt_of_cell? w _ hx230_0)).trans hx230_0
       replace p230 := eq_true p230
       replace q230 := eq_true q230
       go_wp2_with (first | ((with_reducible refine jF (f := 97) rfl ?_); refine jg (some 37) rfl rfl Try.func97 kr_ rfl #[.slice A0 l0.length c0, .int .u64 (rd l1 0)] rfl mt_ ?_; (with_reducible refine (vG.calls kj2 _ _ l0 (rd l1 0) t231 t232 t233 _ ?side1 ?side2 A11.out).mono ?_); (case side1 => exact cc_ (Kd.jW HR0.out HB.out)); (case side2 => exact HC0.out); rintro e w13 ⟨v234, rfl, ho0, hb⟩; refine ⟨_, rfl, ?_⟩; have HO235 := jA.mk (Kd.jZ ho0 (jB (bb_ HB))); replace HB := bs_ HB hb) | ((with_reducible refine jF (f := 81) rfl ?_); refine jg (some 43) rfl rfl Try.func81 kr_ rfl #[.int .u64 t232] rfl mt_ ?_; (with_reducible refine (jBk.calls t232 t236 _ A12.out).mono ?_); rintro e w14 ⟨v237, rfl, ho0, hb⟩; refine ⟨_, rfl, ?_⟩; have HO238 := jA.mk (Kd.jZ (Kd.jS ho0 (Kd.R_lt (rR_ HO235))) (jB (bb_ HB))); replace HO235 := re_ HO235 ho0 hb; replace HB := bs_ HB hb))
       go_ret3
       exact ⟨_, _, ew_, by refine pR_ ?_; exact Kd.jl HO235.out (fun _ hk => hk.2), by refine pR_ ?_; exact Kd.jl HO238.out (fun _ hk => hk.2), (bb_ HB)⟩
      ·
       rw [if_neg c10] at H
       exact absurd H (by simp)
     ·
      rw [if_neg c9] at H
      have c9b0 := beq_eq_false_iff_ne.mpr c9
      have c9b1 := bne_iff_ne.mpr c9
      replace H := ob_ H
      obtain ⟨t239, A150, H⟩ := H
      try dsimp only at H
      have A15 := jA.mk A150
      clear A150
      by_cases c16 : t239 < 0
      ·
       rw [if_pos c16] at H
       have c16b0 := decide_eq_true c16
       clear c16
       replace H := ob_ H
       obtain ⟨t240, A170, H⟩ := H
       try dsimp only at H
       have A17 := jA.mk A170
       clear A170
       simp only [Option.some.injEq, Prod.mk.injEq] at H
       obtain ⟨rfl, rfl, rfl⟩ := H
       go_wp2_with (first | ((with_reducible refine jF (f := 98) rfl ?_); refine jg (some 47) rfl rfl Try.func98 kr_ rfl #[.slice A0 l0.length c0, .slice A1 l1.length c1] rfl mt_ ?_; (with_reducible refine (vP.calls kj2 _ _ l0 _ _ l1 t239 _ ?side1 ?side2 ?side3 ?side4 A15.out).mono ?_); (case side1 => exact cc_ (Kd.jW HR0.out HB.out)); (case side2 => exact HC0.out); (case side3 => exact cc_ (Kd.jW HR1.out HB.out)); (case side4 => exact HC1.out); rintro e w18 ⟨rfl, hb⟩; refine ⟨_, rfl, ?_⟩; replace HB := bs_ HB hb) | ((with_reducible refine jF (f := 96) rfl ?_); refine jg (some 50) rfl rfl Try.func96 kr_ rfl #[.slice A0 l0.length c0] rfl mt_ ?_; (with_reducible refine (vR.calls kj2 _ _ l0 t240 _ ?side1 ?side2 A17.out).mono ?_); (case side1 => exact cc_ (Kd.jW HR0.out HB.out)); (case side2 => exact HC0.out); rintro e w19 ⟨v241, rfl, ho0, hb⟩; refine ⟨_, rfl, ?_⟩; have HO242 := jA.mk (Kd.jZ ho0 (jB (bb_ HB))); replace HB := bs_ HB hb))
       go_ret3
       exact ⟨_, _, ew_, nl_, by refine pR_ ?_; exact Kd.jl HO242.out (fun _ hk => (by simp [Value.ownBlock])), (bb_ HB)⟩
      ·
       rw [if_neg c16] at H
       have c16b0 := decide_eq_false c16
       clear c16
       obtain ⟨ji20, hji20⟩ : ∃ j_ : Int, (wrap64 ((l1.length : Int) - 1)) = j_ := ⟨_, rfl⟩
       replace H : (if 0 ≤ (ji20) then (if (ji20) < (l1.length : Int) then ((bits_LeadingZeros64.f (rd l1 (ji20))).bind fun t244 => ((jG.f kj2 l0 t244).bind fun t245 => ((some (([0, 0] : List Int) : List Int)).bind fun y248 => (if t245.length + y248.length < 17592186044416 then ((some (t245 ++ y248 : List Int)).bind fun y251 => ((jG.f kj2 l1 t244).bind fun t254 => (if 0 ≤ (wrap64 ((y251.length : Int) - (t254.length : Int))) then (if (wrap64 ((y251.length : Int) - (t254.length : Int)) : Int).toNat ≤ 35184372088832 then ((some (List.replicate (wrap64 ((y251.length : Int) - (t254.length : Int)) : Int).toNat 0 : List Int)).bind fun y257 => (vB.l0 kj2 t244 y251 t254 y257 (wrap64 ((y257.length : Int) - 1)))) else (none)) else (none)))) else (none))))) else (none)) else (none)) = some (r1, r2, r3) := by first | (rw [hji20] at H; exact H) | (simp only [hji20] at H ⊢; exact H)
       (try rw [hji20] at A15)
       have hji20w : (IntKind.i64.wrap ((l1.length : Int) - 1)) = ji20 := (vY _).trans hji20
       by_cases c21 : 0 ≤ (ji20)
       ·
        rw [if_pos c21] at H
        have c21b0 := decide_eq_true c21
        clear c21
        by_cases c22 : (ji20) < (l1.length : Int)
        ·
         rw [if_pos c22] at H
         have c22b0 := decide_eq_true c22
         clear c22
         replace H := ob_ H
         obtain ⟨t244, A230, H⟩ := H
         try dsimp only at H
         have A23 := jA.mk A230
         clear A230
         replace H := ob_ H
         obtain ⟨t245, A240, H⟩ := H
         try dsimp only at H
         have A24 := jA.mk A240
         clear A240
         obtain ⟨y248, hy248⟩ : ∃ y_ : List Int, y_ = (([0, 0] : List Int)) := ⟨_, rfl⟩
         replace H : (if t245.length + y248.length < 17592186044416 then ((some (t245 ++ y248 : List Int)).bind fun y251 => ((jG.f kj2 l1 t244).bind fun t254 => (if 0 ≤ (wrap64 ((y251.length : Int) - (t254.length : Int))) then (if (wrap64 ((y251.length : Int) - (t254.length : Int)) : Int).toNat ≤ 35184372088832 then ((some (List.replicate (wrap64 ((y251.length : Int) - (t254.length : Int)) : Int).toNat 0 : List Int)).bind fun y257 => (vB.l0 kj2 t244 y251 t254 y257 (wrap64 ((y257.length : Int) - 1)))) else (none)) else (none)))) else (none)) = some (r1, r2, r3) := by first | (rw [hy248]; with_reducible exact H) | (have H2_ := (Option.bind_some _ _).symm.trans H; rw [hy248]; with_reducible exact H2_) | (with_reducible exact hs_ H) | with_reducible exact H | (rw [hy248]; exact H) | exact H
         have Ny248 := jA.mk hy248
         clear hy248
         by_cases c25 : t245.length + y248.length < 17592186044416
         ·
          rw [if_pos c25] at H
          have LMc25 := jA.mk c25
          clear c25
          obtain ⟨y251, hy251⟩ : ∃ y_ : List Int, y_ = (t245 ++ y248) := ⟨_, rfl⟩
          replace H : ((jG.f kj2 l1 t244).bind fun t254 => (if 0 ≤ (wrap64 ((y251.length : Int) - (t254.length : Int))) then (if (wrap64 ((y251.length : Int) - (t254.length : Int)) : Int).toNat ≤ 35184372088832 then ((some (List.replicate (wrap64 ((y251.length : Int) - (t254.length : Int)) : Int).toNat 0 : List Int)).bind fun y257 => (vB.l0 kj2 t244 y251 t254 y257 (wrap64 ((y257.length : Int) - 1)))) else (none)) else (none))) = some (r1, r2, r3) := by first | (rw [hy251]; with_reducible exact H) | (have H2_ := (Option.bind_some _ _).symm.trans H; rw [hy251]; with_reducible exact H2_) | (with_reducible exact hs_ H) | with_reducible exact H | (rw [hy251]; exact H) | exact H
          have Ny251 := jA.mk hy251
          clear hy251
          replace H := ob_ H
          obtain ⟨t254, A260, H⟩ := H
          try dsimp only at H
          have A26 := jA.mk A260
          clear A260
          obtain ⟨ji27, hji27⟩ : ∃ j_ : Int, (wrap64 ((y251.length : Int) - (t254.length : Int))) = j_ := ⟨_, rfl⟩
          replace H : (if 0 ≤ (ji27) then (if (ji27 : Int).toNat ≤ 35184372088832 then ((some (List.replicate (ji27 : Int).toNat 0 : List Int)).bind fun y257 => (vB.l0 kj2 t244 y251 t254 y257 (wrap64 ((y257.length : Int) - 1)))) else (none)) else (none)) = some (r1, r2, r3) := by first | (rw [hji27] at H; exact H) | (simp only [hji27] at H ⊢; exact H)
          (try rw [hji27] at A15)
          (try rw [hji27] at A23)
          (try rw [hji27] at A24)
          (try rw [hji27] at A26)
          have hji27w : (IntKind.i64.wrap ((y251.length : Int) - (t254.length : Int))) = ji27 := (vY _).trans hji27
          by_cases c28 : 0 ≤ (ji27)
          ·
           rw [if_pos c28] at H
           have c28b0 := eq_true c28
           have c28b1 := decide_eq_true c28
           clear c28
           by_cases c29 : (ji27 : Int).toNat ≤ 35184372088832
           ·
            rw [if_pos c29] at H
            have c29b0 := eq_true c29
            have c29b1 := decide_eq_true c29
            clear c29
            obtain ⟨y257, hy257⟩ : ∃ y_ : List Int, y_ = (List.replicate (ji27 : Int).toNat 0) := ⟨_, rfl⟩
            replace H : (vB.l0 kj2 t244 y251 t254 y257 (wrap64 ((y257.length : Int) - 1))) = some (r1, r2, r3) := by first | (rw [hy257]; with_reducible exact H) | (have H2_ := (Option.bind_some _ _).symm.trans H; rw [hy257]; with_reducible exact H2_) | (with_reducible exact hs_ H) | with_reducible exact H | (rw [hy257]; exact H) | exact H
            have Ny257 := jA.mk hy257
            clear hy257
            have H' := jA.mk H
            clear H
            go_wp2_with (first | ((with_reducible refine jF (f := 98) rfl ?_); refine jg (some 47) rfl rfl Try.func98 kr_ rfl #[.slice A0 l0.length c0, .slice A1 l1.length c1] rfl mt_ ?_; (with_reducible refine (vP.calls kj2 _ _ l0 _ _ l1 t239 _ ?side1 ?side2 ?side3 ?side4 A15.out).mono ?_); (case side1 => exact cc_ (Kd.jW HR0.out HB.out)); (case side2 => exact HC0.out); (case side3 => exact cc_ (Kd.jW HR1.out HB.out)); (case side4 => exact HC1.out); rintro e w30 ⟨rfl, hb⟩; refine ⟨_, rfl, ?_⟩; replace HB := bs_ HB hb; have p243 : 0 ≤ ((ji20) : Int) := of_decide_eq_true am_; have q243 : (ji20) < (l1.length : Int) := of_decide_eq_true am_; obtain ⟨ad243, e243, hx243_0⟩ := Kd.vW HR1.out (ji20) p243 q243; cases e243; replace hx243_0 := (HB.out.cell (World.block_lt_of_cell? w _ hx243_0)).trans hx243_0; replace p243 := eq_true p243; replace q243 := eq_true q243) | ((with_reducible refine jF (f := 99) rfl ?_); refine jg (some 57) rfl rfl Try.func99 kr_ rfl #[.int .u64 (rd l1 (ji20))] rfl (by (try simp only [List.map_toArray, List.map_cons, List.map_nil]); first | done | (simp only [hji20]; rfl) | rfl | (simp only [List.length_drop, List.length_take]; rfl)) ?_; (with_reducible refine (bits_LeadingZeros64.calls (rd l1 (ji20)) t244 _ A23.out).mono ?_); rintro e w31 ⟨rfl, hb⟩; refine ⟨_, rfl, ?_⟩; replace HB := bs_ HB hb) | ((with_reducible refine jF (f := 100) rfl ?_); refine jg (some 60) rfl rfl Try.func100 kr_ rfl #[.slice A0 l0.length c0, .int .i64 t244] rfl mt_ ?_; (with_reducible refine (jG.calls kj2 _ _ l0 t244 t245 _ ?side1 ?side2 A24.out).mono ?_); (case side1 => exact cc_ (Kd.jW HR0.out HB.out)); (case side2 => exact HC0.out); rintro e w32 ⟨v246, rfl, ho0, hb⟩; refine ⟨_, rfl, ?_⟩; have HO247 := jA.mk (Kd.jZ ho0 (jB (bb_ HB))); replace HB := bs_ HB hb) | ((with_reducible refine jq (N := 61) rfl ?_); refine Kd.jAC (Kd.int .u64) _ 22 ?hg (N := 61) ?hd (xs := ([0, 0] : List Int)) (inner := [.int .u64 0, .int .u64 0]) (ok := fun _ => True) (okp := fun _ => True) ?hr ?hp (fun _ hk => hk) trivial (Below.refl _ _) (Nat.le_refl _) (by simp) ?_; (case hd => rfl); (case hg => rfl); (case hr => exact gs_); (case hp => exact (Reps.one (show Kd.M (Kd.int .u64) _ _ _ 0 [.int .u64 0] from rfl) (Reps.one (show Kd.M (Kd.int .u64) _ _ _ 0 [.int .u64 0] from rfl) (Reps.none _ _)))); intro v249 w33 ho34 hb hg_ hnew_; clear hg_ hnew_; (first | rw [← Ny248.out] at ho34 | (simp only [Int.reduceToNat] at ho34; rw [← Ny248.out] at ho34)); have HO250 := jA.mk (Kd.jZ (Kd.jS ho34 (Kd.R_lt (rR_ HO247))) (jB (bb_ HB))); replace HO247 := re_ HO247 ho34 hb; replace HB := bs_ HB hb; clear hb ho34; obtain ⟨Ao36, co36, eo36⟩ := Kd.jr HO250.out; subst eo36) | ((with_reducible refine vV (b := .append) (xs := #[.tmp 60, .tmp 61]) rfl ?_); at_builtin; refine Kd.jAV (Kd.int .u64) (w0 := w) w.heap.size rfl (.tmp 60) (.tmp 61) 35 22 (.int .u64 0) 8 rfl Try.underlying35 zx rfl (by decide) (by omega) v246 t245 y248 _ _ _ (fun k_ => some k_ ≠ (.slice Ao36 y248.length co36 : Value).ownBlock) (fun _ => False) rfl rfl ?aO ?aR (fun _ _ h => h) (fun _ h => h.elim) ?aF ?aB ?aS ?aL ?_; (case aR => exact cc_ (Kd.jH HO250.out).2.2); (case aB => exact (bb_ HB)); (case aF => exact (fun k_ hk => Kd.fresh' (Kd.R_lt (rR_ HO250)) k_ hk)); (case aO => exact (by refine pR_ ?_; exact Kd.jl HO247.out (fun _ hk => hk.2))); (case aS => exact (jB (bb_ HB))); (case aL => have := LMc25.out; omega); intro v252 w35 ho hb hg hat; rw [← Ny251.out] at ho; replace HO250 := jA.mk (Kd.vw (ok := (fun _ => True)) (rR_ HO250) hg hat); replace HB := jA.mk (hb); have HO253 := jA.mk (ho); clear HO247 ho hb hg hat) | ((with_reducible refine jF (f := 100) rfl ?_); refine jg (some 65) rfl rfl Try.func100 kr_ rfl #[.slice (some ad243) l1.length c1, .int .i64 t244] rfl mt_ ?_; (with_reducible refine (jG.calls kj2 _ _ l1 t244 t254 _ ?side1 ?side2 A26.out).mono ?_); (case side1 => exact cc_ (Kd.jW HR1.out HB.out)); (case side2 => exact HC1.out); rintro e w37 ⟨v255, rfl, ho0, hb⟩; refine ⟨_, rfl, ?_⟩; have HO256 := jA.mk (Kd.jZ (Kd.jS (Kd.jS ho0 (Kd.R_lt (rR_ HO250))) (Kd.R_lt (rR_ HO253))) (jB (bb_ HB))); replace HO250 := re_ HO250 ho0 hb; replace HO253 := re_ HO253 ho0 hb; replace HB := bs_ HB hb; obtain ⟨Ao38, co38, eo38⟩ := Kd.jr HO253.out; subst eo38; obtain ⟨Ao39, co39, eo39⟩ := Kd.jr HO256.out; subst eo39) | ((with_reducible refine jq (N := 71) rfl ?_); refine Kd.jEn (Kd.int .u64) _ 22 rfl (N := 71) rfl 35 _ _ rfl ji27 rfl rfl Try.underlying35 (.int .u64 0) 8 zx rfl (by decide) (by omega) 0 (ok := fun _ => True) (okp := fun _ => True) rfl (fun _ hk => hk) trivial (of_decide_eq_true am_) (Nat.le_trans (Nat.mul_le_mul_right _ (of_decide_eq_true am_ : ji27.toNat ≤ 35184372088832)) (by omega)) (Below.refl _ _) (Nat.le_refl _) ?_; intro v258 w40 ho41 hb hg_ hnew_; clear hg_ hnew_; (first | rw [← Ny257.out] at ho41 | (simp only [Int.reduceToNat] at ho41; rw [← Ny257.out] at ho41)); have HO259 := jA.mk (Kd.jZ (Kd.jS (Kd.jS (Kd.jS ho41 (Kd.R_lt (rR_ HO250))) (Kd.R_lt (rR_ HO253))) (Kd.R_lt (rR_ HO256))) (jB (bb_ HB))); replace HO250 := re_ HO250 ho41 hb; replace HO253 := re_ HO253 ho41 hb; replace HO256 := re_ HO256 ho41 hb; replace HB := bs_ HB hb; clear hb ho41; obtain ⟨Ao42, co42, eo42⟩ := Kd.jr HO259.out; subst eo42))
            go_loopg [14] kj2 (fun kq v14 w' => ∃ (x11_2 x13_2 : List Int) (x14_2 : Int), v14 = .int .i64 x14_2 ∧ jA (vB.l0 kq t244 x11_2 t254 x13_2 x14_2 = some (r1, r2, r3)) ∧ jA (kq ≤ kj2) ∧ jA (Kd.R (Kd.int .u64) 22 w' w.heap.size (fun k_ => some k_ ≠ ((.slice Ao39 t254.length co39) : Value).ownBlock ∧ some k_ ≠ ((.slice Ao42 y257.length co42) : Value).ownBlock) (.slice Ao38 y251.length co38) x11_2) ∧ jA (Kd.R (Kd.int .u64) 22 w' w.heap.size (fun k_ => some k_ ≠ ((.slice Ao38 y251.length co38) : Value).ownBlock ∧ some k_ ≠ ((.slice Ao42 y257.length co42) : Value).ownBlock) (.slice Ao39 t254.length co39) t254) ∧ jA (Kd.R (Kd.int .u64) 22 w' w.heap.size (fun k_ => some k_ ≠ ((.slice Ao38 y251.length co38) : Value).ownBlock ∧ some k_ ≠ ((.slice Ao39 t254.length co39) : Value).ownBlock) (.slice Ao42 y257.length co42) x13_2) ∧ jA (Below w.heap.size w w'))
            case atStart => exact ⟨(y251), (y257), (wrap64 ((y257.length : Int) - 1)), sd_, H', ⟨Nat.le_refl _⟩, ⟨by (with_reducible repeat (first | apply Kd.vv | apply Kd.zG | apply Kd.zK)); exact Kd.jl HO253.out (fun _ hk => ⟨hk.1.2, hk.2⟩)⟩, ⟨by (with_reducible repeat (first | apply Kd.vv | apply Kd.zG | apply Kd.zK)); exact Kd.jl HO256.out (fun _ hk => ⟨hk.1.2, hk.2⟩)⟩, ⟨by (with_reducible repeat (first | apply Kd.vv | apply Kd.zG | apply Kd.zK)); exact Kd.jl HO259.out (fun _ hk => ⟨hk.1.2, hk.2⟩)⟩, ⟨(bb_ HB)⟩⟩
            case round =>
             clear H'
             try clear c1
             try clear c2
             try clear p2
             try clear q2
             try clear hx2
             try clear qi2
             try clear c5
             try clear c6
             try clear p6
             try clear c7
             try clear c8
             try clear c8b0
             try clear c8b1
             try clear c8b2
             try clear c9
             try clear c9b0
             try clear c9b1
             try clear c10
             try clear c10b0
             try clear c10b1
             try clear c16
             try clear c16b0
             try clear c21
             try clear c21b0
             try clear c22
             try clear c22b0
             try clear p23
             try clear q23
             try clear hx23
             try clear qi23
             try clear p24
             try clear q24
             try clear hx24
             try clear c25
             try clear c28
             try clear c28b0
             try clear c28b1
             try clear c29
             try clear c29b0
             try clear c29b1
             try clear hx230_0
             try clear hx243_0
             try clear p2
             try clear p230
             try clear p243
             try clear q230
             try clear q243
             obtain ⟨x11_2, x13_2, x14_2, rfl, HA, HK2, HO_11, HO_12, HO_13, HB⟩ := hrel
             have hl11_2 := (Kd.jH HO_11.out).1
             rw [hl11_2] at HO_11
             (try simp only [hl11_2])
             (try simp only [hl11_2] at HO_12)
             (try simp only [hl11_2] at HO_13)
             have hl13_2 := (Kd.jH HO_13.out).1
             rw [hl13_2] at HO_13
             (try simp only [hl13_2])
             (try simp only [hl13_2] at HO_11)
             (try simp only [hl13_2] at HO_12)
             cases gk with
             | zero => exact absurd HA.out (by simp [vB.l0])
             | succ k2 =>
              have H := HA.out
              clear HA
              simp only [vB.l0] at H
              by_cases c43 : x14_2 ≥ 0
              ·
               rw [if_pos c43] at H
               have c43b0 := decide_eq_true c43
               clear c43
               obtain ⟨ji44, hji44⟩ : ∃ j_ : Int, (mn (wrap64 ((wrap64 (x14_2 + (t254.length : Int))) + 1)) (x11_2.length : Int)) = j_ := ⟨_, rfl⟩
               replace H : (if 0 ≤ x14_2 then (if x14_2 ≤ (ji44) then (if (ji44) ≤ (x11_2.length : Int) then ((jd.f k2 ((x11_2.take ((ji44) : Int).toNat).drop (x14_2 : Int).toNat) t254).bind fun t264 => (if x14_2 < (x13_2.length : Int) then (vB.l0 k2 t244 (Go.splice x11_2 (x14_2 : Int).toNat t264.2) t254 (x13_2.set (x14_2 : Int).toNat t264.1) (wrap64 (x14_2 - 1))) else (none))) else (none)) else (none)) else (none)) = some (r1, r2, r3) := by first | (rw [hji44] at H; exact H) | (simp only [hji44] at H ⊢; exact H)
               have hji44_ : (if (x11_2.length : Int) < (wrap64 ((wrap64 (x14_2 + (t254.length : Int))) + 1)) then (x11_2.length : Int) else (wrap64 ((wrap64 (x14_2 + (t254.length : Int))) + 1))) = ji44 := hji44
               by_cases c45 : 0 ≤ x14_2
               ·
                rw [if_pos c45] at H
                have c45b0 := eq_true c45
                have c45b1 := decide_eq_true c45
                clear c45
                by_cases c46 : x14_2 ≤ (ji44)
                ·
                 rw [if_pos c46] at H
                 have c46b0 := eq_true c46
                 have c46b1 := decide_eq_true c46
                 clear c46
                 by_cases c47 : (ji44) ≤ (x11_2.length : Int)
                 ·
                  rw [if_pos c47] at H
                  have c47b0 := eq_true c47
                  have c47b1 := decide_eq_true c47
                  clear c47
                  obtain ⟨y260, hy260⟩ : ∃ y_ : List Int, y_ = ((x11_2.take ((ji44) : Int).toNat).drop (x14_2 : Int).toNat) := ⟨_, rfl⟩
                  replace H : ((jd.f k2 y260 t254).bind fun t264 => (if x14_2 < (x13_2.length : Int) then (vB.l0 k2 t244 (Go.splice x11_2 (x14_2 : Int).toNat t264.2) t254 (x13_2.set (x14_2 : Int).toNat t264.1) (wrap64 (x14_2 - 1))) else (none))) = some (r1, r2, r3) := by first | (rw [hy260]; with_reducible exact H) | (have H2_ := (Option.bind_some _ _).symm.trans H; rw [hy260]; with_reducible exact H2_) | (with_reducible exact hs_ H) | with_reducible exact H | (rw [hy260]; exact H) | exact H
                  have Ny260 := jA.mk hy260
                  clear hy260
                  replace H := ob_ H
                  obtain ⟨t264, A480, H⟩ := H
                  try dsimp only at H
                  have A48 := jA.mk A480
                  clear A480
                  by_cases c49 : x14_2 < (x13_2.length : Int)
                  ·
                   rw [if_pos c49] at H
                   have c49b0 := decide_eq_true c49
                   (try simp only [hl13_2] at c49b0)
                   clear c49
                   obtain ⟨y265, hy265⟩ : ∃ y_ : List Int, y_ = (x13_2.set (x14_2 : Int).toNat t264.1) := ⟨_, rfl⟩
                   replace H : (vB.l0 k2 t244 (Go.splice x11_2 (x14_2 : Int).toNat t264.2) t254 y265 (wrap64 (x14_2 - 1))) = some (r1, r2, r3) := by first | (rw [hy265]; with_reducible exact H) | (have H2_ := (Option.bind_some _ _).symm.trans H; rw [hy265]; with_reducible exact H2_) | (with_reducible exact hs_ H) | with_reducible exact H | (rw [hy265]; exact H) | exact H
                   have Ny265 := jA.mk hy265
                   clear hy265
                   have H' := jA.mk H
                   clear H
                   have q51 : ((ji44) : Int) ≤ ((x11_2.length : Int) : Int) := of_decide_eq_true am_
                   obtain ⟨i051, hi051, _, hsz51, _⟩ := info_parts zx
                   have hroom51 : x11_2.length ≤ co38 := (Kd.jH HO_11.out).2.1
                   have hC51 : Kd.C (Kd.int .u64) _ Ao38 x11_2.length x11_2 := (Kd.jH HO_11.out).2.2
                   have ql51 : (x14_2 : Int) ≤ ((ji44) : Int) := of_decide_eq_true am_
                   have q051 : (0 : Int) ≤ (x14_2 : Int) := of_decide_eq_true am_
                   have hcut51 := jIc (P := Try.prog) 35 22 .i64 .i64 Try.underlying35 hi051 1 hsz51 Ao38 x11_2.length co38 x14_2 (ji44) q051 ql51 q51 hroom51
                   have hr51 := Kd.jKm (lo := (x14_2 : Int).toNat) (hi := ((ji44) : Int).toNat) (c := co38) hC51 (by omega) (by omega) hroom51
                   obtain ⟨A51, hA51⟩ : ∃ A1, A1 = (if co38 = (x14_2 : Int).toNat then Ao38 else (Ao38 : Option Addr).map (·.add ((x14_2 : Int).toNat * 1))) := ⟨_, rfl⟩
                   obtain ⟨c51, hc51⟩ : ∃ c1, c1 = co38 - (x14_2 : Int).toNat := ⟨_, rfl⟩
                   have hy51 : y260.length = ((ji44) : Int).toNat - (x14_2 : Int).toNat := (by rw [Ny260.out, List.length_drop, List.length_take] <;> omega)
                   rw [show ((x11_2).take ((ji44) : Int).toNat).drop (x14_2 : Int).toNat = y260 from Ny260.out.symm] at hr51
                   replace hr51 : Kd.C (Kd.int .u64) _ A51 y260.length y260 := (by rw [hA51]; exact hr51)
                   rw [← hy51, ← hA51, ← hc51] at hcut51
                   have HR263 := jA.mk hr51
                   have HC263 := jA.mk (show y260.length ≤ c51 from by rw [hy51, hc51]; exact Nat.sub_le_sub_right (Nat.le_trans (by omega) hroom51) _)
                   clear hr51 hC51 hroom51 hi051 hsz51 hc51
                   have KY51 := jA.mk hy51
                   have KA51 := jA.mk hA51
                   clear hy51 hA51
                   have KL51 := jA.mk (show ((ji44) : Int).toNat ≤ x11_2.length from by omega)
                   have KM51 := jA.mk (show (x14_2 : Int).toNat ≤ ((ji44) : Int).toNat from by omega)
                   replace q51 := eq_true q51
                   obtain ⟨d_, u1_⟩ := t264
                   have hdl := jd.len A48.out
                   have hdu := jd.len2 A48.out
                   have hx11 : 0 < x11_2.length := by have := KL51.out; have := KM51.out; have := KY51.out; omega
                   obtain ⟨ga, ca, ea, hga0, hga1, -⟩ := Kd.qm HO_11.out hx11
                   injection ea with ea_ en_ ec_
                   subst ea_
                   clear en_
                   subst ec_
                   obtain ⟨cur, hcur, hcl, hspl⟩ := jGR (i := (x14_2 : Int).toNat) HO_11.out
                   have hA_ : A51 = some ⟨ga, (x14_2 : Int).toNat, none⟩ := by rw [KA51.out, if_neg (by have := KL51.out; have := KM51.out; have := KY51.out; have := (Kd.jH HO_11.out).2.1; omega), Option.map_some, Nat.mul_one, add_plain]
                   have hq13 : x14_2 < (x13_2.length : Int) := of_decide_eq_true am_
                   have hp13 : 0 ≤ x14_2 := of_decide_eq_true am_
                   obtain ⟨go_, co_, eo_, hgo0, hgo1, -⟩ := Kd.qm HO_13.out (by omega)
                   injection eo_ with ea_ en_ ec_
                   subst ea_
                   clear en_
                   subst ec_
                   have hRW := HR263.out
                   rw [hA_] at hRW
                   have HFX := jA.mk (show (x14_2 : Int).toNat + y260.length ≤ x11_2.length ∧ (x14_2 : Int).toNat + y260.length ≤ cur.length from by have := KL51.out; have := KM51.out; have := KY51.out; omega)
                   have HCUR := jA.mk hcur
                   have HSPL := jA.mk hspl
                   have HRW := jA.mk hRW
                   have HDU := jA.mk hdu
                   have HGA := jA.mk (And.intro hga0 hgo0)
                   subst hA_
                   clear hcur hcl hspl hRW hdu hdl hx11 hga0 hga1 hgo0 hgo1 HR263
                   replace hq13 := eq_true hq13
                   replace hp13 := eq_true hp13
                   go_wp2_with fail
                   refine (jd.calls k2 ga (x14_2 : Int).toNat _ _ _ y260 t254 u1_ d_ cur _ HRW.out HC263.out HCUR.out HFX.out.2 (Kd.jH HO_12.out).2.2 (Kd.jH HO_12.out).2.1 A48.out).mono ?_
                   rintro e w52 ⟨rfl, hg, hc⟩
                   have n0_ := jA.mk (HSPL.out w52 u1_ (by rw [HDU.out]; exact HFX.out.1) hc)
                   have n1_ := jA.mk (Kd.jGS HO_12.out hg (fun k_ hk_ => hk_.1))
                   have n2_ := jA.mk (Kd.jGS HO_13.out hg (fun k_ hk_ => hk_.1))
                   have n3_ := jA.mk (jDz HB.out hg HGA.out.1)
                   clear HO_11 HO_12 HO_13 HB hg hc
                   have HO_11 := n0_
                   have HO_12 := n1_
                   have HO_13 := n2_
                   have HB := n3_
                   clear n0_ n1_ n2_ n3_
                   obtain ⟨hx50_0, hf50_0⟩ := Kd.zC 0 HO_13.out (x14_2 : Int) (of_decide_eq_true am_) (of_decide_eq_true am_)
                   have HP := Kd.qg HO_13.out (x14_2 : Int) d_
                   have HP_ := jA.mk HP.1
                   clear HP
                   go_wp2
                   (try simp only [← hl13_2])
                   (try simp only [← hl11_2])
                   go_roundg k2
                   case measure => have := HJ2.out; have := HK2.out; omega
                   case rel =>
                    refine ⟨_, _, _, rfl, H', ⟨by have := HJ2.out; have := HK2.out; omega⟩, ⟨?_⟩, ⟨?_⟩, ⟨?_⟩, ⟨zA HB.out HGA.out.2⟩⟩
                    ·
                     (try simp only [hl13_2, hl11_2]); exact Kd.jFB HO_11.out (fun k_ hk_ e_ => hk_.2 (by rw [e_]; rfl)) _
                    ·
                     (try simp only [hl13_2, hl11_2]); exact Kd.jFB HO_12.out (fun k_ hk_ e_ => hk_.2 (by rw [e_]; rfl)) _
                    ·
                     (try simp only [hl13_2, hl11_2]); rw [Ny265.out]; exact HP_.out
                  ·
                   rw [if_neg c49] at H
                   exact absurd H (by simp)
                 ·
                  rw [if_neg c47] at H
                  exact absurd H (by simp)
                ·
                 rw [if_neg c46] at H
                 exact absurd H (by simp)
               ·
                rw [if_neg c45] at H
                exact absurd H (by simp)
              ·
               rw [if_neg c43] at H
               have c43b0 := decide_eq_false c43
               clear c43
               replace H := ob_ H
               obtain ⟨t266, A550, H⟩ := H
               try dsimp only at H
               have A55 := jA.mk A550
               clear A550
               replace H := ob_ H
               obtain ⟨t269, A560, H⟩ := H
               try dsimp only at H
               have A56 := jA.mk A560
               clear A560
               simp only [Option.some.injEq, Prod.mk.injEq] at H
               obtain ⟨rfl, rfl, rfl⟩ := H
               go_wp2_with (first | ((with_reducible refine jF (f := 96) rfl ?_); refine jg (some 96) rfl rfl Try.func96 kr_ rfl #[.slice Ao42 x13_2.length co42] rfl mt_ ?_; (with_reducible refine (vR.calls k2 _ _ x13_2 t266 _ ?side1 ?side2 A55.out).mono ?_); (case side1 => exact cc_ (Kd.jH HO_13.out).2.2); (case side2 => exact (Kd.jH HO_13.out).2.1); rintro e w57 ⟨v267, rfl, ho0, hb⟩; refine ⟨_, rfl, ?_⟩; have HO268 := jA.mk (Kd.jZ (Kd.jS (Kd.jS (Kd.jS ho0 (Kd.R_lt (rR_ HO_11))) (Kd.R_lt (rR_ HO_12))) (Kd.R_lt (rR_ HO_13))) (jB (bb_ HB))); replace HO_11 := re_ HO_11 ho0 hb; replace HO_12 := re_ HO_12 ho0 hb; replace HO_13 := re_ HO_13 ho0 hb; replace HB := bs_ HB hb) | ((with_reducible refine jF (f := 100) rfl ?_); refine jg (some 100) rfl rfl Try.func100 kr_ rfl #[.slice Ao38 x11_2.length co38, .int .i64 (wrap64 (-t244))] rfl mt_ ?_; (with_reducible refine (jG.calls k2 _ _ x11_2 (wrap64 (-t244)) t269 _ ?side1 ?side2 A56.out).mono ?_); (case side1 => exact cc_ (Kd.jH HO_11.out).2.2); (case side2 => exact (Kd.jH HO_11.out).2.1); rintro e w58 ⟨v270, rfl, ho0, hb⟩; refine ⟨_, rfl, ?_⟩; have HO271 := jA.mk (Kd.jZ (Kd.jS (Kd.jS (Kd.jS (Kd.jS ho0 (Kd.R_lt (rR_ HO_11))) (Kd.R_lt (rR_ HO_12))) (Kd.R_lt (rR_ HO_13))) (Kd.R_lt (rR_ HO268))) (jB (bb_ HB))); replace HO_11 := re_ HO_11 ho0 hb; replace HO_12 := re_ HO_12 ho0 hb; replace HO_13 := re_ HO_13 ho0 hb; replace HO268 := re_ HO268 ho0 hb; replace HB := bs_ HB hb))
               go_ret3
               exact ⟨_, _, by first | rfl | (simp [vM, vL] <;> rfl) | (simp only [← hji20, ← hji27]; first | rfl | (simp [vM, vL] <;> rfl)) | (simp [*, vM, vL] <;> rfl), by refine pR_ ?_; exact Kd.jl HO268.out (fun _ hk => hk.2), by refine pR_ ?_; exact Kd.jl HO271.out (fun _ hk => hk.2), (bb_ HB)⟩
           ·
            rw [if_neg c29] at H
            exact absurd H (by simp)
          ·
           rw [if_neg c28] at H
           exact absurd H (by simp)
         ·
          rw [if_neg c25] at H
          exact absurd H (by simp)
        ·
         rw [if_neg c22] at H
         exact absurd H (by simp)
       ·
        rw [if_neg c21] at H
        exact absurd H (by simp)

/-! ### vE: function 71 -/
mutual
def vE.j0 : Nat → List Int → List Int → Bool → Option (List Int × Int)
 | 0, _, _, _ => none
 | k + 1, x0, x1, x16 => if x16 = true then (some (([] : List Int), 1)) else ((vR.f k x0).bind fun t274 => ((vR.f k x1).bind fun t277 => (vE.l0 k t274 t277)))
def vE.l0 : Nat → List Int → List Int → Option (List Int × Int)
 | 0, _, _ => none
 | k + 1, x0, x1 => if (x1.length : Int) > 0 then ((vB.f k x0 x1).bind fun bt280 => (vE.l0 k x1 bt280.2.1)) else (some (x0, 0))
end
def vE.f (k : Nat) (l0 : List Int) (l1 : List Int) : Option (List Int × Int) := (zP.f l0).bind fun t272 => (if t272 = true then ((zP.f l1).bind fun t273 => (vE.j0 k l0 l1 (!t273))) else (vE.j0 k l0 l1 true))
theorem vE.vJ : ∀ k, (∀ y0 y1 y2, LeO (vE.j0 k y0 y1 y2) (vE.j0 (k + 1) y0 y1 y2)) ∧ (∀ y0 y1, LeO (vE.l0 k y0 y1) (vE.l0 (k + 1) y0 y1))
 | 0 => ⟨fun _ _ _ r h => by simp [vE.j0] at h, fun _ _ r h => by simp [vE.l0] at h⟩
 | k + 1 => by
  obtain ⟨ih0, ih1⟩ := vE.vJ k
  refine ⟨?_, ?_⟩ <;> (intros; first | unfold vE.j0 | unfold vE.l0) <;> repeat' first
   | (with_reducible exact ih0 _ _ _)
   | (with_reducible exact ih1 _ _)
   | (with_reducible exact vR.mono _ _)
   | (with_reducible exact vB.mono _ _ _)
   | (with_reducible exact LeO.refl _)
   | (with_reducible exact LeO.none _)
   | (with_reducible refine LeO.ite ?_ ?_)
   | (with_reducible refine LeO.bind ?_ (fun _ => ?_))
theorem vE.mono : ∀ a0 a1 k, LeO (vE.f k a0 a1) (vE.f (k + 1) a0 a1) := by
 intro a0 a1 k
 obtain ⟨ih0, ih1⟩ := vE.vJ k
 unfold vE.f
 repeat' first
   | (with_reducible exact ih0 _ _ _)
   | (with_reducible exact ih1 _ _)
   | (with_reducible exact vR.mono _ _)
   | (with_reducible exact vB.mono _ _ _)
   | (with_reducible exact LeO.refl _)
   | (with_reducible exact LeO.none _)
   | (with_reducible refine LeO.ite ?_ ?_)
   | (with_reducible refine LeO.bind ?_ (fun _ => ?_))
theorem vE.calls (k : Nat) (A0 : Option Addr) (c0 : Nat) (l0 : List Int) (A1 : Option Addr) (c1 : Nat) (l1 : List Int) (r1 : List Int) (r2 : Int) (w : World) (hr0 : Kd.C (Kd.int .u64) w A0 l0.length l0) (hc0 : l0.length ≤ c0) (hr1 : Kd.C (Kd.int .u64) w A1 l1.length l1) (hc1 : l1.length ≤ c1) (h : vE.f k l0 l1 = some (r1, r2)) :
  Calls Try.prog 71 #[.slice A0 l0.length c0, .slice A1 l1.length c1] w fun e w' => ∃ v0_ : Value, e = .returned (.tuple #[v0_, .int .i64 r2]) ∧ Kd.R (Kd.int .u64) 22 w' w.heap.size (fun _ => True) v0_ r1 ∧ Below w.heap.size w w' := by
 have HR0 := jA.mk hr0
 have HC0 := jA.mk hc0
 clear hr0 hc0
 have HR1 := jA.mk hr1
 have HC1 := jA.mk hc1
 clear hr1 hc1
 have HB := jA.mk (Below.refl w.heap.size w)
 have H : ((zP.f l0).bind fun t272 => (if t272 = true then ((zP.f l1).bind fun t273 => (vE.j0 k l0 l1 (!t273))) else (vE.j0 k l0 l1 true))) = some (r1, r2) := h
 clear h
 have HC3 := jA.mk H
 clear H
 go_enter Try.func71, Try.ntmps71
 go_upto_region 1 with (fail)
 go_cut [16] (fun v16 wc => ∃ (kq : Nat) (x16_2 : Bool), v16 = .bool x16_2 ∧ jA (vE.j0 kq l0 l1 x16_2 = some (r1, r2)) ∧ jA (kq ≤ k) ∧ jA (Below w.heap.size w wc))
 case first =>
  have H := HC3.out
  clear HC3
  replace H := ob_ H
  obtain ⟨t272, A40, H⟩ := H
  try dsimp only at H
  have A4 := jA.mk A40
  clear A40
  by_cases c5 : t272 = true
  ·
   subst c5
   have H1 : ((zP.f l1).bind fun t273 => (vE.j0 k l0 l1 (!t273))) = some (r1, r2) := by rw [if_pos rfl] at H; exact H
   clear H
   have H := H1
   clear H1
   replace H := ob_ H
   obtain ⟨t273, A60, H⟩ := H
   try dsimp only at H
   have A6 := jA.mk A60
   clear A60
   have H' := jA.mk H
   clear H
   go_wp2_with (first | ((with_reducible refine jF (f := 64) rfl ?_); refine jg (some 10) rfl rfl Try.func64 kr_ rfl #[.slice A0 l0.length c0] rfl mt_ ?_; (with_reducible refine (zP.calls _ _ l0 true _ ?side1 ?side2 A4.out).mono ?_); (case side1 => exact cc_ (Kd.jW HR0.out HB.out)); (case side2 => exact HC0.out); rintro e w' ⟨rfl, ⟨nd, rfl⟩⟩; refine ⟨_, rfl, ?_⟩) | ((with_reducible refine jq (N := 14) rfl ?_); refine jv (by first | rfl | kernel_rfl) ?_; dsimp only; (with_reducible refine jF (f := 64) rfl ?_); refine jg (some 14) rfl rfl Try.func64 kr_ rfl #[.slice A1 l1.length c1] rfl mt_ ?_; (with_reducible refine (zP.calls _ _ l1 t273 _ ?side1 ?side2 A6.out).mono ?_); (case side1 => repeat (first | exact (Kd.jW HR1.out (bb_ HB)) | (with_reducible refine Kd.zU ?_ _) | (with_reducible refine Kd.zm ?_ _) | (with_reducible refine Kd.qL ?_))); (case side2 => exact HC1.out); rintro e w' ⟨rfl, ⟨nd, rfl⟩⟩; refine ⟨_, rfl, ?_⟩))
   go_meet
   case rel => exact ⟨_, (!t273), sd_, H', ⟨by first | omega | exact Nat.le_refl _⟩, ⟨(bb_ HB)⟩⟩
  ·
   replace c5 := Bool.eq_false_iff.mpr c5
   subst c5
   have H1 : (vE.j0 k l0 l1 true) = some (r1, r2) := by rw [if_neg (show ¬ (false = true) by decide)] at H; exact H
   clear H
   have H := H1
   clear H1
   have H' := jA.mk H
   clear H
   go_wp2_with (first | ((with_reducible refine jF (f := 64) rfl ?_); refine jg (some 10) rfl rfl Try.func64 kr_ rfl #[.slice A0 l0.length c0] rfl mt_ ?_; (with_reducible refine (zP.calls _ _ l0 false _ ?side1 ?side2 A4.out).mono ?_); (case side1 => exact cc_ (Kd.jW HR0.out HB.out)); (case side2 => exact HC0.out); rintro e w' ⟨rfl, ⟨nd, rfl⟩⟩; refine ⟨_, rfl, ?_⟩))
   go_meet
   case rel => exact ⟨_, (true), sd_, H', ⟨by first | omega | exact Nat.le_refl _⟩, ⟨(bb_ HB)⟩⟩
 case rest =>
  clear HC3
  try clear c1
  try clear p2
  try clear c5
  try clear c6
  obtain ⟨kq, x16_2, rfl, HA, HJ2, HB⟩ := hcut
  cases kq with
  | zero => exact absurd HA.out (by simp [vE.j0])
  | succ kj2 =>
   have H := HA.out
   clear HA
   simp only [vE.j0] at H
   by_cases c7 : x16_2 = true
   ·
    subst c7
    have H1 : (some (([] : List Int), 1)) = some (r1, r2) := by rw [if_pos rfl] at H; exact H
    clear H
    have H := H1
    clear H1
    simp only [Option.some.injEq, Prod.mk.injEq] at H
    obtain ⟨rfl, rfl⟩ := H
    go_wp2
    go_ret2
    exact ⟨_, ew_, nl_, (bb_ HB)⟩
   ·
    replace c7 := Bool.eq_false_iff.mpr c7
    subst c7
    have H1 : ((vR.f kj2 l0).bind fun t274 => ((vR.f kj2 l1).bind fun t277 => (vE.l0 kj2 t274 t277))) = some (r1, r2) := by rw [if_neg (show ¬ (false = true) by decide)] at H; exact H
    clear H
    have H := H1
    clear H1
    replace H := ob_ H
    obtain ⟨t274, A80, H⟩ := H
    try dsimp only at H
    have A8 := jA.mk A80
    clear A80
    replace H := ob_ H
    obtain ⟨t277, A90, H⟩ := H
    try dsimp only at H
    have A9 := jA.mk A90
    clear A90
    have H' := jA.mk H
    clear H
    go_wp2_with (first | ((with_reducible refine jF (f := 96) rfl ?_); refine jg (some 18) rfl rfl Try.func96 kr_ rfl #[.slice A0 l0.length c0] rfl mt_ ?_; (with_reducible refine (vR.calls kj2 _ _ l0 t274 _ ?side1 ?side2 A8.out).mono ?_); (case side1 => exact cc_ (Kd.jW HR0.out HB.out)); (case side2 => exact HC0.out); rintro e w10 ⟨v275, rfl, ho0, hb⟩; refine ⟨_, rfl, ?_⟩; have HO276 := jA.mk (Kd.jZ ho0 (jB (bb_ HB))); replace HB := bs_ HB hb) | ((with_reducible refine jF (f := 96) rfl ?_); refine jg (some 20) rfl rfl Try.func96 kr_ rfl #[.slice A1 l1.length c1] rfl mt_ ?_; (with_reducible refine (vR.calls kj2 _ _ l1 t277 _ ?side1 ?side2 A9.out).mono ?_); (case side1 => exact cc_ (Kd.jW HR1.out HB.out)); (case side2 => exact HC1.out); rintro e w11 ⟨v278, rfl, ho0, hb⟩; refine ⟨_, rfl, ?_⟩; have HO279 := jA.mk (Kd.jZ (Kd.jS ho0 (Kd.R_lt (rR_ HO276))) (jB (bb_ HB))); replace HO276 := re_ HO276 ho0 hb; replace HB := bs_ HB hb))
    go_loopg [0, 1] kj2 (fun kq v0 v1 w' => ∃ (x0_2 : List Int) (x1_2 : List Int), jA (vE.l0 kq x0_2 x1_2 = some (r1, r2)) ∧ jA (kq ≤ kj2) ∧ jA (Kd.R (Kd.int .u64) 22 w' w.heap.size (fun k_ => some k_ ≠ (v1 : Value).ownBlock) v0 x0_2) ∧ jA (Kd.R (Kd.int .u64) 22 w' w.heap.size (fun k_ => some k_ ≠ (v0 : Value).ownBlock) v1 x1_2) ∧ jA (Below w.heap.size w w'))
    case atStart => exact ⟨(t274), (t277), H', ⟨Nat.le_refl _⟩, ⟨by (with_reducible repeat (first | apply Kd.vv | apply Kd.zG | apply Kd.zK)); exact Kd.jl HO276.out (fun _ hk => hk.2)⟩, ⟨by (with_reducible repeat (first | apply Kd.vv | apply Kd.zG | apply Kd.zK)); exact Kd.jl HO279.out (fun _ hk => hk.2)⟩, ⟨(bb_ HB)⟩⟩
    case round =>
     clear H'
     try clear c1
     try clear p2
     try clear c5
     try clear c6
     try clear c7
     try clear c9
     try clear p2
     obtain ⟨x0_2, x1_2, HA, HK2, HO_0, HO_1, HB⟩ := hrel
     cases gk with
     | zero => exact absurd HA.out (by simp [vE.l0])
     | succ k2 =>
      have H := HA.out
      clear HA
      simp only [vE.l0] at H
      by_cases c12 : (x1_2.length : Int) > 0
      ·
       rw [if_pos c12] at H
       have c12b0 := decide_eq_true c12
       have c12b1 : decide (0 < x1_2.length) = true := decide_eq_true (by omega)
       clear c12
       replace H := ob_ H
       obtain ⟨⟨t280, t281, t282⟩, A130, H⟩ := H
       try dsimp only at H
       have A13 := jA.mk A130
       clear A130
       have H' := jA.mk H
       clear H
       obtain ⟨Ao14, co14, eo14⟩ := Kd.jr HO_1.out
       subst eo14
       obtain ⟨Ao15, co15, eo15⟩ := Kd.jr HO_0.out
       subst eo15
       go_wp2_with (first | ((with_reducible refine jF (f := 72) rfl ?_); refine jg (some 27) rfl rfl Try.func72 kr_ rfl #[.slice Ao15 x0_2.length co15, .slice Ao14 x1_2.length co14] rfl mt_ ?_; (with_reducible refine (vB.calls k2 _ _ x0_2 _ _ x1_2 t280 t281 t282 _ ?side1 ?side2 ?side3 ?side4 A13.out).mono ?_); (case side1 => exact cc_ (Kd.jH HO_0.out).2.2); (case side2 => exact (Kd.jH HO_0.out).2.1); (case side3 => exact cc_ (Kd.jH HO_1.out).2.2); (case side4 => exact (Kd.jH HO_1.out).2.1); rintro e w16 ⟨v283, v285, rfl, ho0, ho1, hb⟩; refine ⟨_, rfl, ?_⟩; have HO284 := jA.mk (Kd.jZ (Kd.jS (Kd.jS ho0 (Kd.R_lt (rR_ HO_0))) (Kd.R_lt (rR_ HO_1))) (jB (bb_ HB))); have HO286 := jA.mk (Kd.jZ (Kd.jS (Kd.jS ho1 (Kd.R_lt (rR_ HO_0))) (Kd.R_lt (rR_ HO_1))) (jB (bb_ HB))); replace HO_0 := jA.mk (Kd.jl (Kd.jEl (Kd.jEl (Kd.jKC (rR_ HO_0) hb) (Kd.qI ho0)) (Kd.qI ho1)) (fun _ h_ => h_.1)); replace HO_1 := jA.mk (Kd.jl (Kd.jEl (Kd.jEl (Kd.jKC (rR_ HO_1) hb) (Kd.qI ho0)) (Kd.qI ho1)) (fun _ h_ => h_.1)); replace HB := bs_ HB hb))
       go_roundg k2
       case measure => have := HJ2.out; have := HK2.out; omega
       case rel => exact ⟨(x1_2), (t281), H', ⟨by have := HJ2.out; have := HK2.out; omega⟩, ⟨by (with_reducible repeat (first | apply Kd.vv | apply Kd.zG | apply Kd.zK)); exact Kd.jl HO_1.out (fun _ hk => hk.2)⟩, ⟨by (with_reducible repeat (first | apply Kd.vv | apply Kd.zG | apply Kd.zK)); exact Kd.jl HO286.out (fun _ hk => hk.2)⟩, ⟨(bb_ HB)⟩⟩
      ·
       rw [if_neg c12] at H
       have c12b0 := decide_eq_false c12
       have c12b1 : decide (0 < x1_2.length) = false := decide_eq_false (by omega)
       clear c12
       simp only [Option.some.injEq, Prod.mk.injEq] at H
       obtain ⟨rfl, rfl⟩ := H
       obtain ⟨Ao17, co17, eo17⟩ := Kd.jr HO_1.out
       subst eo17
       go_wp2
       go_ret2
       exact ⟨_, ew_, by refine pR_ ?_; exact Kd.jl HO_0.out (fun _ hk => trivial), (bb_ HB)⟩

/-! ### qw: function 73 -/
def qw.f (k : Nat) (l0 : List Int) (l1 : List Int) : Option (Int) := (vP.f k l0 l1).bind fun t287 => (some t287)
theorem qw.mono : ∀ a0 a1 k, LeO (qw.f k a0 a1) (qw.f (k + 1) a0 a1) := by
 intro a0 a1 k
 unfold qw.f
 repeat' first
   | (with_reducible exact vP.mono _ _ _)
   | (with_reducible exact LeO.refl _)
   | (with_reducible exact LeO.none _)
   | (with_reducible refine LeO.ite ?_ ?_)
   | (with_reducible refine LeO.bind ?_ (fun _ => ?_))
theorem qw.calls (k : Nat) (A0 : Option Addr) (c0 : Nat) (l0 : List Int) (A1 : Option Addr) (c1 : Nat) (l1 : List Int) (r : Int) (w : World) (hr0 : Kd.C (Kd.int .u64) w A0 l0.length l0) (hc0 : l0.length ≤ c0) (hr1 : Kd.C (Kd.int .u64) w A1 l1.length l1) (hc1 : l1.length ≤ c1) (h : qw.f k l0 l1 = some r) :
  Calls Try.prog 73 #[.slice A0 l0.length c0, .slice A1 l1.length c1] w fun e w' => e = .returned (.int .i64 r) ∧ Below w.heap.size w w' := by
 have HR0 := jA.mk hr0
 have HC0 := jA.mk hc0
 clear hr0 hc0
 have HR1 := jA.mk hr1
 have HC1 := jA.mk hc1
 clear hr1 hc1
 have HB := jA.mk (Below.refl w.heap.size w)
 have H : ((vP.f k l0 l1).bind fun t287 => (some t287)) = some r := h
 clear h
 replace H := ob_ H
 obtain ⟨t287, A30, H⟩ := H
 replace H : (some t287) = some r := H
 have A3 := jA.mk A30
 clear A30
 obtain rfl := Option.some.inj H
 go_enter Try.func73, Try.ntmps73
 go_wp2_with (first | ((with_reducible refine jF (f := 98) rfl ?_); refine jg (some 7) rfl rfl Try.func98 kr_ rfl #[.slice A0 l0.length c0, .slice A1 l1.length c1] rfl mt_ ?_; (with_reducible refine (vP.calls k _ _ l0 _ _ l1 t287 _ ?side1 ?side2 ?side3 ?side4 A3.out).mono ?_); (case side1 => exact cc_ HR0.out); (case side2 => exact HC0.out); (case side3 => exact cc_ HR1.out); (case side4 => exact HC1.out); rintro e w4 ⟨rfl, hb⟩; refine ⟨_, rfl, ?_⟩; replace HB := bs_ HB hb))
 go_ret
 exact ⟨ew_, (bb_ HB)⟩

end Go.Proofs.Ytijgeonhbmgikaa.POOctetPuts
