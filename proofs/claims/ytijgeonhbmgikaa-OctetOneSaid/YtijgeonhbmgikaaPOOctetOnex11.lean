-- printed (pr.py)
import Derived.Test.YtijgeonhbmgikaaPOOctetOnex0
import Derived.Test.YtijgeonhbmgikaaPOOctetOnex2
import Derived.Test.YtijgeonhbmgikaaPOOctetOnex4
import Derived.Test.YtijgeonhbmgikaaPOOctetOnex5
import Derived.Test.YtijgeonhbmgikaaPOOctetOnex6
import Derived.Test.YtijgeonhbmgikaaPOOctetOnex7
import Derived.Test.YtijgeonhbmgikaaPOOctetOnex10
namespace Go.Proofs.Ytijgeonhbmgikaa.POOctetOne
open Go.RowKit Go.Proofs.YtijgeonhbmgikaaN Go.Proofs.YtijgeonhbmgikaaW.PrintWords Go.Proofs.YtijgeonhbmgikaaW.PrintLast Go.Proofs.YtijgeonhbmgikaaW.PrintMore
attribute [local go_sem] zQ zN qA zy zC zA zP zM
set_option maxHeartbeats 8000000
set_option maxRecDepth 100000
set_option linter.unusedVariables false
set_option linter.unusedSimpArgs false

/-! ### jR: function 72 -/
mutual
def jR.j0 : Nat → List Int → List Int → Bool → Option (List Int × List Int × Int)
 | 0, _, _, _ => none
 | k + 1, x0, x1, x15 => if x15 = true then (some (([] : List Int), ([] : List Int), 1)) else (if (x1.length : Int) = 0 then (some (([] : List Int), ([] : List Int), 30)) else (if (x1.length : Int) = 1 then (if 0 < (x1.length : Int) then ((jZ.f k x0 (rd x1 0)).bind fun bt219 => ((jBO.f bt219.2.1).bind fun t224 => (some (bt219.1, t224, 0)))) else (none)) else ((jh.f k x0 x1).bind fun t227 => (if t227 < 0 then ((jk.f k x0).bind fun t228 => (some (([] : List Int), t228, 0))) else (if 0 ≤ (wrap64 ((x1.length : Int) - 1)) then (if (wrap64 ((x1.length : Int) - 1)) < (x1.length : Int) then ((bits_LeadingZeros64.f (rd x1 (wrap64 ((x1.length : Int) - 1)))).bind fun t232 => ((jB.f k x0 t232).bind fun t233 => ((some (([0, 0] : List Int) : List Int)).bind fun y236 => (if t233.length + y236.length < 17592186044416 then ((some (t233 ++ y236 : List Int)).bind fun y239 => ((jB.f k x1 t232).bind fun t242 => (if 0 ≤ (wrap64 ((y239.length : Int) - (t242.length : Int))) then (if (wrap64 ((y239.length : Int) - (t242.length : Int)) : Int).toNat ≤ 35184372088832 then ((some (List.replicate (wrap64 ((y239.length : Int) - (t242.length : Int)) : Int).toNat 0 : List Int)).bind fun y245 => (jR.l0 k t232 y239 t242 y245 (wrap64 ((y245.length : Int) - 1)))) else (none)) else (none)))) else (none))))) else (none)) else (none))))))
def jR.l0 : Nat → Int → List Int → List Int → List Int → Int → Option (List Int × List Int × Int)
 | 0, _, _, _, _, _ => none
 | k + 1, x10, x11, x12, x13, x14 => if x14 ≥ 0 then (if 0 ≤ x14 then (if x14 ≤ (mn (wrap64 ((wrap64 (x14 + (x12.length : Int))) + 1)) (x11.length : Int)) then (if (mn (wrap64 ((wrap64 (x14 + (x12.length : Int))) + 1)) (x11.length : Int)) ≤ (x11.length : Int) then ((jK.f k ((x11.take ((mn (wrap64 ((wrap64 (x14 + (x12.length : Int))) + 1)) (x11.length : Int)) : Int).toNat).drop (x14 : Int).toNat) x12).bind fun t252 => (if x14 < (x13.length : Int) then (jR.l0 k x10 (Go.splice x11 (x14 : Int).toNat t252.2) x12 (x13.set (x14 : Int).toNat t252.1) (wrap64 (x14 - 1))) else (none))) else (none)) else (none)) else (none)) else ((jk.f k x13).bind fun t254 => ((jB.f k x11 (wrap64 (-x10))).bind fun t257 => (some (t254, t257, 0))))
end
def jR.f (k : Nat) (l0 : List Int) (l1 : List Int) : Option (List Int × List Int × Int) := (vK.f l0).bind fun t216 => (if t216 = true then ((vK.f l1).bind fun t217 => (jR.j0 k l0 l1 (!t217))) else (jR.j0 k l0 l1 true))
theorem jR.vW : ∀ k, (∀ y0 y1 y2, LeO (jR.j0 k y0 y1 y2) (jR.j0 (k + 1) y0 y1 y2)) ∧ (∀ y0 y1 y2 y3 y4, LeO (jR.l0 k y0 y1 y2 y3 y4) (jR.l0 (k + 1) y0 y1 y2 y3 y4))
 | 0 => ⟨fun _ _ _ r h => by simp [jR.j0] at h, fun _ _ _ _ _ r h => by simp [jR.l0] at h⟩
 | k + 1 => by
  obtain ⟨ih0, ih1⟩ := jR.vW k
  refine ⟨?_, ?_⟩ <;> (intros; first | unfold jR.j0 | unfold jR.l0) <;> repeat' first
   | (with_reducible exact ih0 _ _ _)
   | (with_reducible exact ih1 _ _ _ _ _)
   | (with_reducible exact jh.mono _ _ _)
   | (with_reducible exact jB.mono _ _ _)
   | (with_reducible exact jk.mono _ _)
   | (with_reducible exact jZ.mono _ _ _)
   | (with_reducible exact jK.mono _ _ _)
   | (with_reducible exact LeO.refl _)
   | (with_reducible exact LeO.none _)
   | (with_reducible refine LeO.ite ?_ ?_)
   | (with_reducible refine LeO.bind ?_ (fun _ => ?_))
theorem jR.mono : ∀ a0 a1 k, LeO (jR.f k a0 a1) (jR.f (k + 1) a0 a1) := by
 intro a0 a1 k
 obtain ⟨ih0, ih1⟩ := jR.vW k
 unfold jR.f
 repeat' first
   | (with_reducible exact ih0 _ _ _)
   | (with_reducible exact ih1 _ _ _ _ _)
   | (with_reducible exact jh.mono _ _ _)
   | (with_reducible exact jB.mono _ _ _)
   | (with_reducible exact jk.mono _ _)
   | (with_reducible exact jZ.mono _ _ _)
   | (with_reducible exact jK.mono _ _ _)
   | (with_reducible exact LeO.refl _)
   | (with_reducible exact LeO.none _)
   | (with_reducible refine LeO.ite ?_ ?_)
   | (with_reducible refine LeO.bind ?_ (fun _ => ?_))
theorem jR.calls (k : Nat) (A0 : Option Addr) (c0 : Nat) (l0 : List Int) (A1 : Option Addr) (c1 : Nat) (l1 : List Int) (r1 : List Int) (r2 : List Int) (r3 : Int) (w : World) (hr0 : Kd.C (Kd.int .u64) w A0 l0.length l0) (hc0 : l0.length ≤ c0) (hr1 : Kd.C (Kd.int .u64) w A1 l1.length l1) (hc1 : l1.length ≤ c1) (h : jR.f k l0 l1 = some (r1, r2, r3)) :
  Calls Try.prog 72 #[.slice A0 l0.length c0, .slice A1 l1.length c1] w fun e w' => ∃ v0_ v1_ : Value, e = .returned (.tuple #[v0_, v1_, .int .i64 r3]) ∧ Kd.R (Kd.int .u64) 22 w' w.heap.size (fun k_ => some k_ ≠ (v1_ : Value).ownBlock) v0_ r1 ∧ Kd.R (Kd.int .u64) 22 w' w.heap.size (fun k_ => some k_ ≠ (v0_ : Value).ownBlock) v1_ r2 ∧ Below w.heap.size w w' := by
 have HR0 := jA.mk hr0
 have HC0 := jA.mk hc0
 clear hr0 hc0
 have HR1 := jA.mk hr1
 have HC1 := jA.mk hc1
 clear hr1 hc1
 have HB := jA.mk (Below.refl w.heap.size w)
 have H : ((vK.f l0).bind fun t216 => (if t216 = true then ((vK.f l1).bind fun t217 => (jR.j0 k l0 l1 (!t217))) else (jR.j0 k l0 l1 true))) = some (r1, r2, r3) := h
 clear h
 have HC3 := jA.mk H
 clear H
 go_enter Try.func72, Try.ntmps72
 go_upto_region 1 with (fail)
 go_cut [15] (fun v15 wc => ∃ (kq : Nat) (x15_2 : Bool), v15 = .bool x15_2 ∧ jA (jR.j0 kq l0 l1 x15_2 = some (r1, r2, r3)) ∧ jA (kq ≤ k) ∧ jA (Below w.heap.size w wc))
 case first =>
  have H := HC3.out
  clear HC3
  replace H := ob_ H
  obtain ⟨t216, A40, H⟩ := H
  try dsimp only at H
  have A4 := jA.mk A40
  clear A40
  by_cases c5 : t216 = true
  ·
   subst c5
   have H1 : ((vK.f l1).bind fun t217 => (jR.j0 k l0 l1 (!t217))) = some (r1, r2, r3) := by rw [if_pos rfl] at H; exact H
   clear H
   have H := H1
   clear H1
   replace H := ob_ H
   obtain ⟨t217, A60, H⟩ := H
   try dsimp only at H
   have A6 := jA.mk A60
   clear A60
   have H' := jA.mk H
   clear H
   go_wp2_with (first | ((with_reducible refine jF (f := 64) rfl ?_); refine je (some 17) rfl rfl Try.func64 kr_ rfl #[.slice A0 l0.length c0] rfl mt_ ?_; (with_reducible refine (vK.calls _ _ l0 true _ ?side1 ?side2 A4.out).mono ?_); (case side1 => exact cc_ (Kd.jf HR0.out HB.out)); (case side2 => exact HC0.out); rintro e w' ⟨rfl, ⟨nd, rfl⟩⟩; refine ⟨_, rfl, ?_⟩) | ((with_reducible refine jv (N := 21) rfl ?_); refine vC (by first | rfl | kernel_rfl) ?_; dsimp only; (with_reducible refine jF (f := 64) rfl ?_); refine je (some 21) rfl rfl Try.func64 kr_ rfl #[.slice A1 l1.length c1] rfl mt_ ?_; (with_reducible refine (vK.calls _ _ l1 t217 _ ?side1 ?side2 A6.out).mono ?_); (case side1 => repeat (first | exact (Kd.jf HR1.out (bb_ HB)) | (with_reducible refine Kd.qg ?_ _) | (with_reducible refine Kd.jAa ?_ _) | (with_reducible refine Kd.jBy ?_))); (case side2 => exact HC1.out); rintro e w' ⟨rfl, ⟨nd, rfl⟩⟩; refine ⟨_, rfl, ?_⟩))
   go_meet
   case rel => exact ⟨_, (!t217), sd_, H', ⟨by first | omega | exact Nat.le_refl _⟩, ⟨(bb_ HB)⟩⟩
  ·
   replace c5 := Bool.eq_false_iff.mpr c5
   subst c5
   have H1 : (jR.j0 k l0 l1 true) = some (r1, r2, r3) := by rw [if_neg (show ¬ (false = true) by decide)] at H; exact H
   clear H
   have H := H1
   clear H1
   have H' := jA.mk H
   clear H
   go_wp2_with (first | ((with_reducible refine jF (f := 64) rfl ?_); refine je (some 17) rfl rfl Try.func64 kr_ rfl #[.slice A0 l0.length c0] rfl mt_ ?_; (with_reducible refine (vK.calls _ _ l0 false _ ?side1 ?side2 A4.out).mono ?_); (case side1 => exact cc_ (Kd.jf HR0.out HB.out)); (case side2 => exact HC0.out); rintro e w' ⟨rfl, ⟨nd, rfl⟩⟩; refine ⟨_, rfl, ?_⟩))
   go_meet
   case rel => exact ⟨_, (true), sd_, H', ⟨by first | omega | exact Nat.le_refl _⟩, ⟨(bb_ HB)⟩⟩
 case rest =>
  clear HC3
  try clear c1
  try clear p2
  try clear c5
  try clear c6
  obtain ⟨kq, x15_2, rfl, HA, HJ2, HB⟩ := hcut
  cases kq with
  | zero => exact absurd HA.out (by simp [jR.j0])
  | succ kj2 =>
   have H := HA.out
   clear HA
   simp only [jR.j0] at H
   by_cases c7 : x15_2 = true
   ·
    subst c7
    have H1 : (some (([] : List Int), ([] : List Int), 1)) = some (r1, r2, r3) := by rw [if_pos rfl] at H; exact H
    clear H
    have H := H1
    clear H1
    simp only [Option.some.injEq, Prod.mk.injEq] at H
    obtain ⟨rfl, rfl, rfl⟩ := H
    go_wp2
    go_ret3
    exact ⟨_, _, ew_, nl_, nl_, (bb_ HB)⟩
   ·
    replace c7 := Bool.eq_false_iff.mpr c7
    subst c7
    have H1 : (if (l1.length : Int) = 0 then (some (([] : List Int), ([] : List Int), 30)) else (if (l1.length : Int) = 1 then (if 0 < (l1.length : Int) then ((jZ.f kj2 l0 (rd l1 0)).bind fun bt219 => ((jBO.f bt219.2.1).bind fun t224 => (some (bt219.1, t224, 0)))) else (none)) else ((jh.f kj2 l0 l1).bind fun t227 => (if t227 < 0 then ((jk.f kj2 l0).bind fun t228 => (some (([] : List Int), t228, 0))) else (if 0 ≤ (wrap64 ((l1.length : Int) - 1)) then (if (wrap64 ((l1.length : Int) - 1)) < (l1.length : Int) then ((bits_LeadingZeros64.f (rd l1 (wrap64 ((l1.length : Int) - 1)))).bind fun t232 => ((jB.f kj2 l0 t232).bind fun t233 => ((some (([0, 0] : List Int) : List Int)).bind fun y236 => (if t233.length + y236.length < 17592186044416 then ((some (t233 ++ y236 : List Int)).bind fun y239 => ((jB.f kj2 l1 t232).bind fun t242 => (if 0 ≤ (wrap64 ((y239.length : Int) - (t242.length : Int))) then (if (wrap64 ((y239.length : Int) - (t242.length : Int)) : Int).toNat ≤ 35184372088832 then ((some (List.replicate (wrap64 ((y239.length : Int) - (t242.length : Int)) : Int).toNat 0 : List Int)).bind fun y245 => (jR.l0 kj2 t232 y239 t242 y245 (wrap64 ((y245.length : Int) - 1)))) else (none)) else (none)))) else (none))))) else (none)) else (none)))))) = some (r1, r2, r3) := by rw [if_neg (show ¬ (false = true) by decide)] at H; exact H
    clear H
    have H := H1
    clear H1
    by_cases c8 : (l1.length : Int) = 0
    ·
     rw [if_pos c8] at H
     have c8b0 := beq_iff_eq.mpr c8
     have c8b1 := bne_eq_false_iff_eq.mpr c8
     clear c8
     simp only [Option.some.injEq, Prod.mk.injEq] at H
     obtain ⟨rfl, rfl, rfl⟩ := H
     go_wp2
     go_ret3
     exact ⟨_, _, ew_, nl_, nl_, (bb_ HB)⟩
    ·
     rw [if_neg c8] at H
     have c8b0 := beq_eq_false_iff_ne.mpr c8
     have c8b1 := bne_iff_ne.mpr c8
     have c8b2 : ¬ (l1 = []) := fun h_ => c8 (by rw [h_]; rfl)
     by_cases c9 : (l1.length : Int) = 1
     ·
      rw [if_pos c9] at H
      have c9b0 := beq_iff_eq.mpr c9
      have c9b1 := bne_eq_false_iff_eq.mpr c9
      clear c9
      by_cases c10 : 0 < (l1.length : Int)
      ·
       rw [if_pos c10] at H
       have c10b0 := decide_eq_true c10
       have c10b1 : decide (0 < l1.length) = true := decide_eq_true (by omega)
       clear c10
       replace H := ob_ H
       obtain ⟨⟨t219, t220, t221⟩, A110, H⟩ := H
       try dsimp only at H
       have A11 := jA.mk A110
       clear A110
       replace H := ob_ H
       obtain ⟨t224, A120, H⟩ := H
       try dsimp only at H
       have A12 := jA.mk A120
       clear A120
       simp only [Option.some.injEq, Prod.mk.injEq] at H
       obtain ⟨rfl, rfl, rfl⟩ := H
       have p218 : 0 ≤ (0 : Int) := (by omega)
       have q218 : 0 < (l1.length : Int) := of_decide_eq_true am_
       obtain ⟨ad218, e218, hx218_0⟩ := Kd.vX HR1.out 0 p218 q218
       cases e218
       have qi218 : (0 < l1.length) = True := eq_true (by omega)
       (try rw [show ((0 : Int)).toNat = 0 from rfl] at hx218_0)
       (try rw [Addr.add_zero'] at hx218_0)
       replace hx218_0 := (HB.out.cell (World.block_lt_of_cell? w _ hx218_0)).trans hx218_0
       replace p218 := eq_true p218
       replace q218 := eq_true q218
       go_wp2_with (first | ((with_reducible refine jF (f := 97) rfl ?_); refine je (some 37) rfl rfl Try.func97 kr_ rfl #[.slice A0 l0.length c0, .int .u64 (rd l1 0)] rfl mt_ ?_; (with_reducible refine (jZ.calls kj2 _ _ l0 (rd l1 0) t219 t220 t221 _ ?side1 ?side2 A11.out).mono ?_); (case side1 => exact cc_ (Kd.jf HR0.out HB.out)); (case side2 => exact HC0.out); rintro e w13 ⟨v222, rfl, ho0, hb⟩; refine ⟨_, rfl, ?_⟩; have HO223 := jA.mk (Kd.ji ho0 (jC (bb_ HB))); replace HB := bs_ HB hb) | ((with_reducible refine jF (f := 81) rfl ?_); refine je (some 43) rfl rfl Try.func81 kr_ rfl #[.int .u64 t220] rfl mt_ ?_; (with_reducible refine (jBO.calls t220 t224 _ A12.out).mono ?_); rintro e w14 ⟨v225, rfl, ho0, hb⟩; refine ⟨_, rfl, ?_⟩; have HO226 := jA.mk (Kd.ji (Kd.zU ho0 (Kd.R_lt (rR_ HO223))) (jC (bb_ HB))); replace HO223 := re_ HO223 ho0 hb; replace HB := bs_ HB hb))
       go_ret3
       exact ⟨_, _, ew_, by refine pR_ ?_; exact Kd.jw HO223.out (fun _ hk => hk.2), by refine pR_ ?_; exact Kd.jw HO226.out (fun _ hk => hk.2), (bb_ HB)⟩
      ·
       rw [if_neg c10] at H
       exact absurd H (by simp)
     ·
      rw [if_neg c9] at H
      have c9b0 := beq_eq_false_iff_ne.mpr c9
      have c9b1 := bne_iff_ne.mpr c9
      replace H := ob_ H
      obtain ⟨t227, A150, H⟩ := H
      try dsimp only at H
      have A15 := jA.mk A150
      clear A150
      by_cases c16 : t227 < 0
      ·
       rw [if_pos c16] at H
       have c16b0 := decide_eq_true c16
       clear c16
       replace H := ob_ H
       obtain ⟨t228, A170, H⟩ := H
       try dsimp only at H
       have A17 := jA.mk A170
       clear A170
       simp only [Option.some.injEq, Prod.mk.injEq] at H
       obtain ⟨rfl, rfl, rfl⟩ := H
       go_wp2_with (first | ((with_reducible refine jF (f := 98) rfl ?_); refine je (some 47) rfl rfl Try.func98 kr_ rfl #[.slice A0 l0.length c0, .slice A1 l1.length c1] rfl mt_ ?_; (with_reducible refine (jh.calls kj2 _ _ l0 _ _ l1 t227 _ ?side1 ?side2 ?side3 ?side4 A15.out).mono ?_); (case side1 => exact cc_ (Kd.jf HR0.out HB.out)); (case side2 => exact HC0.out); (case side3 => exact cc_ (Kd.jf HR1.out HB.out)); (case side4 => exact HC1.out); rintro e w18 ⟨rfl, hb⟩; refine ⟨_, rfl, ?_⟩; replace HB := bs_ HB hb) | ((with_reducible refine jF (f := 96) rfl ?_); refine je (some 50) rfl rfl Try.func96 kr_ rfl #[.slice A0 l0.length c0] rfl mt_ ?_; (with_reducible refine (jk.calls kj2 _ _ l0 t228 _ ?side1 ?side2 A17.out).mono ?_); (case side1 => exact cc_ (Kd.jf HR0.out HB.out)); (case side2 => exact HC0.out); rintro e w19 ⟨v229, rfl, ho0, hb⟩; refine ⟨_, rfl, ?_⟩; have HO230 := jA.mk (Kd.ji ho0 (jC (bb_ HB))); replace HB := bs_ HB hb))
       go_ret3
       exact ⟨_, _, ew_, nl_, by refine pR_ ?_; exact Kd.jw HO230.out (fun _ hk => (by simp [Value.ownBlock])), (bb_ HB)⟩
      ·
       rw [if_neg c16] at H
       have c16b0 := decide_eq_false c16
       clear c16
       obtain ⟨ji20, hji20⟩ : ∃ j_ : Int, (wrap64 ((l1.length : Int) - 1)) = j_ := ⟨_, rfl⟩
       replace H : (if 0 ≤ (ji20) then (if (ji20) < (l1.length : Int) then ((bits_LeadingZeros64.f (rd l1 (ji20))).bind fun t232 => ((jB.f kj2 l0 t232).bind fun t233 => ((some (([0, 0] : List Int) : List Int)).bind fun y236 => (if t233.length + y236.length < 17592186044416 then ((some (t233 ++ y236 : List Int)).bind fun y239 => ((jB.f kj2 l1 t232).bind fun t242 => (if 0 ≤ (wrap64 ((y239.length : Int) - (t242.length : Int))) then (if (wrap64 ((y239.length : Int) - (t242.length : Int)) : Int).toNat ≤ 35184372088832 then ((some (List.replicate (wrap64 ((y239.length : Int) - (t242.length : Int)) : Int).toNat 0 : List Int)).bind fun y245 => (jR.l0 kj2 t232 y239 t242 y245 (wrap64 ((y245.length : Int) - 1)))) else (none)) else (none)))) else (none))))) else (none)) else (none)) = some (r1, r2, r3) := by first | (rw [hji20] at H; exact H) | (simp only [hji20] at H ⊢; exact H)
       (try rw [hji20] at A15)
       have hji20w : (IntKind.i64.wrap ((l1.length : Int) - 1)) = ji20 := (vU _).trans hji20
       by_cases c21 : 0 ≤ (ji20)
       ·
        rw [if_pos c21] at H
        have c21b0 := decide_eq_true c21
        clear c21
        by_cases c22 : (ji20) < (l1.length : Int)
        ·
         rw [if_pos c22] at H
         have c22b0 := decide_eq_true c22
         clear c22
         replace H := ob_ H
         obtain ⟨t232, A230, H⟩ := H
         try dsimp only at H
         have A23 := jA.mk A230
         clear A230
         replace H := ob_ H
         obtain ⟨t233, A240, H⟩ := H
         try dsimp only at H
         have A24 := jA.mk A240
         clear A240
         obtain ⟨y236, hy236⟩ : ∃ y_ : List Int, y_ = (([0, 0] : List Int)) := ⟨_, rfl⟩
         replace H : (if t233.length + y236.length < 17592186044416 then ((some (t233 ++ y236 : List Int)).bind fun y239 => ((jB.f kj2 l1 t232).bind fun t242 => (if 0 ≤ (wrap64 ((y239.length : Int) - (t242.length : Int))) then (if (wrap64 ((y239.length : Int) - (t242.length : Int)) : Int).toNat ≤ 35184372088832 then ((some (List.replicate (wrap64 ((y239.length : Int) - (t242.length : Int)) : Int).toNat 0 : List Int)).bind fun y245 => (jR.l0 kj2 t232 y239 t242 y245 (wrap64 ((y245.length : Int) - 1)))) else (none)) else (none)))) else (none)) = some (r1, r2, r3) := by first | (rw [hy236]; with_reducible exact H) | (have H2_ := (Option.bind_some _ _).symm.trans H; rw [hy236]; with_reducible exact H2_) | (with_reducible exact hs_ H) | with_reducible exact H | (rw [hy236]; exact H) | exact H
         have Ny236 := jA.mk hy236
         clear hy236
         by_cases c25 : t233.length + y236.length < 17592186044416
         ·
          rw [if_pos c25] at H
          have LMc25 := jA.mk c25
          clear c25
          obtain ⟨y239, hy239⟩ : ∃ y_ : List Int, y_ = (t233 ++ y236) := ⟨_, rfl⟩
          replace H : ((jB.f kj2 l1 t232).bind fun t242 => (if 0 ≤ (wrap64 ((y239.length : Int) - (t242.length : Int))) then (if (wrap64 ((y239.length : Int) - (t242.length : Int)) : Int).toNat ≤ 35184372088832 then ((some (List.replicate (wrap64 ((y239.length : Int) - (t242.length : Int)) : Int).toNat 0 : List Int)).bind fun y245 => (jR.l0 kj2 t232 y239 t242 y245 (wrap64 ((y245.length : Int) - 1)))) else (none)) else (none))) = some (r1, r2, r3) := by first | (rw [hy239]; with_reducible exact H) | (have H2_ := (Option.bind_some _ _).symm.trans H; rw [hy239]; with_reducible exact H2_) | (with_reducible exact hs_ H) | with_reducible exact H | (rw [hy239]; exact H) | exact H
          have Ny239 := jA.mk hy239
          clear hy239
          replace H := ob_ H
          obtain ⟨t242, A260, H⟩ := H
          try dsimp only at H
          have A26 := jA.mk A260
          clear A260
          obtain ⟨ji27, hji27⟩ : ∃ j_ : Int, (wrap64 ((y239.length : Int) - (t242.length : Int))) = j_ := ⟨_, rfl⟩
          replace H : (if 0 ≤ (ji27) then (if (ji27 : Int).toNat ≤ 35184372088832 then ((some (List.replicate (ji27 : Int).toNat 0 : List Int)).bind fun y245 => (jR.l0 kj2 t232 y239 t242 y245 (wrap64 ((y245.length : Int) - 1)))) else (none)) else (none)) = some (r1, r2, r3) := by first | (rw [hji27] at H; exact H) | (simp only [hji27] at H ⊢; exact H)
          (try rw [hji27] at A15)
          (try rw [hji27] at A23)
          (try rw [hji27] at A24)
          (try rw [hji27] at A26)
          have hji27w : (IntKind.i64.wrap ((y239.length : Int) - (t242.length : Int))) = ji27 := (vU _).trans hji27
          by_cases c28 : 0 ≤ (ji27)
          ·
           rw [if_pos c28] at H
           have c28b0 := eq_true c28
           have c28b1 := decide_eq_true c28
           clear c28
           by_cases c29 : (ji27 : Int).toNat ≤ 35184372088832
           ·
            rw [if_pos c29] at H
            have c29b0 := eq_true c29
            have c29b1 := decide_eq_true c29
            clear c29
            obtain ⟨y245, hy245⟩ : ∃ y_ : List Int, y_ = (List.replicate (ji27 : Int).toNat 0) := ⟨_, rfl⟩
            replace H : (jR.l0 kj2 t232 y239 t242 y245 (wrap64 ((y245.length : Int) - 1))) = some (r1, r2, r3) := by first | (rw [hy245]; with_reducible exact H) | (have H2_ := (Option.bind_some _ _).symm.trans H; rw [hy245]; with_reducible exact H2_) | (with_reducible exact hs_ H) | with_reducible exact H | (rw [hy245]; exact H) | exact H
            have Ny245 := jA.mk hy245
            clear hy245
            have H' := jA.mk H
            clear H
            go_wp2_with (first | ((with_reducible refine jF (f := 98) rfl ?_); refine je (some 47) rfl rfl Try.func98 kr_ rfl #[.slice A0 l0.length c0, .slice A1 l1.length c1] rfl mt_ ?_; (with_reducible refine (jh.calls kj2 _ _ l0 _ _ l1 t227 _ ?side1 ?side2 ?side3 ?side4 A15.out).mono ?_); (case side1 => exact cc_ (Kd.jf HR0.out HB.out)); (case side2 => exact HC0.out); (case side3 => exact cc_ (Kd.jf HR1.out HB.out)); (case side4 => exact HC1.out); rintro e w30 ⟨rfl, hb⟩; refine ⟨_, rfl, ?_⟩; replace HB := bs_ HB hb; have p231 : 0 ≤ ((ji20) : Int) := of_decide_eq_true am_; have q231 : (ji20) < (l1.length : Int) := of_decide_eq_true am_; obtain ⟨ad231, e231, hx231_0⟩ := Kd.vX HR1.out (ji20) p231 q231; cases e231; replace hx231_0 := (HB.out.cell (World.block_lt_of_cell? w _ hx231_0)).trans hx231_0; replace p231 := eq_true p231; replace q231 := eq_true q231) | ((with_reducible refine jF (f := 99) rfl ?_); refine je (some 57) rfl rfl Try.func99 kr_ rfl #[.int .u64 (rd l1 (ji20))] rfl (by (try simp only [List.map_toArray, List.map_cons, List.map_nil]); first | done | (simp only [hji20]; rfl) | rfl | (simp only [List.length_drop, List.length_take]; rfl)) ?_; (with_reducible refine (bits_LeadingZeros64.calls (rd l1 (ji20)) t232 _ A23.out).mono ?_); rintro e w31 ⟨rfl, hb⟩; refine ⟨_, rfl, ?_⟩; replace HB := bs_ HB hb) | ((with_reducible refine jF (f := 100) rfl ?_); refine je (some 60) rfl rfl Try.func100 kr_ rfl #[.slice A0 l0.length c0, .int .i64 t232] rfl mt_ ?_; (with_reducible refine (jB.calls kj2 _ _ l0 t232 t233 _ ?side1 ?side2 A24.out).mono ?_); (case side1 => exact cc_ (Kd.jf HR0.out HB.out)); (case side2 => exact HC0.out); rintro e w32 ⟨v234, rfl, ho0, hb⟩; refine ⟨_, rfl, ?_⟩; have HO235 := jA.mk (Kd.ji ho0 (jC (bb_ HB))); replace HB := bs_ HB hb) | ((with_reducible refine jv (N := 61) rfl ?_); refine Kd.jDQ (Kd.int .u64) _ 22 ?hg (N := 61) ?hd (xs := ([0, 0] : List Int)) (inner := [.int .u64 0, .int .u64 0]) (ok := fun _ => True) (okp := fun _ => True) ?hr ?hp (fun _ hk => hk) trivial (Below.refl _ _) (Nat.le_refl _) (by simp) ?_; (case hd => rfl); (case hg => rfl); (case hr => exact gs_); (case hp => exact (Reps.one (show Kd.M (Kd.int .u64) _ _ _ 0 [.int .u64 0] from rfl) (Reps.one (show Kd.M (Kd.int .u64) _ _ _ 0 [.int .u64 0] from rfl) (Reps.none _ _)))); intro v237 w33 ho34 hb hg_ hnew_; clear hg_ hnew_; (first | rw [← Ny236.out] at ho34 | (simp only [Int.reduceToNat] at ho34; rw [← Ny236.out] at ho34)); have HO238 := jA.mk (Kd.ji (Kd.zU ho34 (Kd.R_lt (rR_ HO235))) (jC (bb_ HB))); replace HO235 := re_ HO235 ho34 hb; replace HB := bs_ HB hb; clear hb ho34; obtain ⟨Ao36, co36, eo36⟩ := Kd.jq HO238.out; subst eo36) | ((with_reducible refine zW (b := .append) (xs := #[.tmp 60, .tmp 61]) rfl ?_); at_builtin; refine Kd.jBA (Kd.int .u64) (w0 := w) w.heap.size rfl (.tmp 60) (.tmp 61) 35 22 (.int .u64 0) 8 rfl Try.underlying35 qY rfl (by decide) (by omega) v234 t233 y236 _ _ _ (fun k_ => some k_ ≠ (.slice Ao36 y236.length co36 : Value).ownBlock) (fun _ => False) rfl rfl ?aO ?aR (fun _ _ h => h) (fun _ h => h.elim) ?aF ?aB ?aS ?aL ?_; (case aR => exact cc_ (Kd.jN HO238.out).2.2); (case aB => exact (bb_ HB)); (case aF => exact (fun k_ hk => Kd.fresh' (Kd.R_lt (rR_ HO238)) k_ hk)); (case aO => exact (by refine pR_ ?_; exact Kd.jw HO235.out (fun _ hk => hk.2))); (case aS => exact (jC (bb_ HB))); (case aL => have := LMc25.out; omega); intro v240 w35 ho hb hg hat; rw [← Ny239.out] at ho; replace HO238 := jA.mk (Kd.jGP (ok := (fun _ => True)) (rR_ HO238) hg hat); replace HB := jA.mk (hb); have HO241 := jA.mk (ho); clear HO235 ho hb hg hat) | ((with_reducible refine jF (f := 100) rfl ?_); refine je (some 65) rfl rfl Try.func100 kr_ rfl #[.slice (some ad231) l1.length c1, .int .i64 t232] rfl mt_ ?_; (with_reducible refine (jB.calls kj2 _ _ l1 t232 t242 _ ?side1 ?side2 A26.out).mono ?_); (case side1 => exact cc_ (Kd.jf HR1.out HB.out)); (case side2 => exact HC1.out); rintro e w37 ⟨v243, rfl, ho0, hb⟩; refine ⟨_, rfl, ?_⟩; have HO244 := jA.mk (Kd.ji (Kd.zU (Kd.zU ho0 (Kd.R_lt (rR_ HO238))) (Kd.R_lt (rR_ HO241))) (jC (bb_ HB))); replace HO238 := re_ HO238 ho0 hb; replace HO241 := re_ HO241 ho0 hb; replace HB := bs_ HB hb; obtain ⟨Ao38, co38, eo38⟩ := Kd.jq HO241.out; subst eo38; obtain ⟨Ao39, co39, eo39⟩ := Kd.jq HO244.out; subst eo39) | ((with_reducible refine jv (N := 71) rfl ?_); refine Kd.jEV (Kd.int .u64) _ 22 rfl (N := 71) rfl 35 _ _ rfl ji27 rfl rfl Try.underlying35 (.int .u64 0) 8 qY rfl (by decide) (by omega) 0 (ok := fun _ => True) (okp := fun _ => True) rfl (fun _ hk => hk) trivial (of_decide_eq_true am_) (Nat.le_trans (Nat.mul_le_mul_right _ (of_decide_eq_true am_ : ji27.toNat ≤ 35184372088832)) (by omega)) (Below.refl _ _) (Nat.le_refl _) ?_; intro v246 w40 ho41 hb hg_ hnew_; clear hg_ hnew_; (first | rw [← Ny245.out] at ho41 | (simp only [Int.reduceToNat] at ho41; rw [← Ny245.out] at ho41)); have HO247 := jA.mk (Kd.ji (Kd.zU (Kd.zU (Kd.zU ho41 (Kd.R_lt (rR_ HO238))) (Kd.R_lt (rR_ HO241))) (Kd.R_lt (rR_ HO244))) (jC (bb_ HB))); replace HO238 := re_ HO238 ho41 hb; replace HO241 := re_ HO241 ho41 hb; replace HO244 := re_ HO244 ho41 hb; replace HB := bs_ HB hb; clear hb ho41; obtain ⟨Ao42, co42, eo42⟩ := Kd.jq HO247.out; subst eo42))
            go_loopg [14] kj2 (fun kq v14 w' => ∃ (x11_2 x13_2 : List Int) (x14_2 : Int), v14 = .int .i64 x14_2 ∧ jA (jR.l0 kq t232 x11_2 t242 x13_2 x14_2 = some (r1, r2, r3)) ∧ jA (kq ≤ kj2) ∧ jA (Kd.R (Kd.int .u64) 22 w' w.heap.size (fun k_ => some k_ ≠ ((.slice Ao39 t242.length co39) : Value).ownBlock ∧ some k_ ≠ ((.slice Ao42 y245.length co42) : Value).ownBlock) (.slice Ao38 y239.length co38) x11_2) ∧ jA (Kd.R (Kd.int .u64) 22 w' w.heap.size (fun k_ => some k_ ≠ ((.slice Ao38 y239.length co38) : Value).ownBlock ∧ some k_ ≠ ((.slice Ao42 y245.length co42) : Value).ownBlock) (.slice Ao39 t242.length co39) t242) ∧ jA (Kd.R (Kd.int .u64) 22 w' w.heap.size (fun k_ => some k_ ≠ ((.slice Ao38 y239.length co38) : Value).ownBlock ∧ some k_ ≠ ((.slice Ao39 t242.length co39) : Value).ownBlock) (.slice Ao42 y245.length co42) x13_2) ∧ jA (Below w.heap.size w w'))
            case atStart => exact ⟨(y239), (y245), (wrap64 ((y245.length : Int) - 1)), sd_, H', ⟨Nat.le_refl _⟩, ⟨by (with_reducible repeat (first | apply Kd.ze | apply Kd.qD | apply Kd.zi)); exact Kd.jw HO241.out (fun _ hk => ⟨hk.1.2, hk.2⟩)⟩, ⟨by (with_reducible repeat (first | apply Kd.ze | apply Kd.qD | apply Kd.zi)); exact Kd.jw HO244.out (fun _ hk => ⟨hk.1.2, hk.2⟩)⟩, ⟨by (with_reducible repeat (first | apply Kd.ze | apply Kd.qD | apply Kd.zi)); exact Kd.jw HO247.out (fun _ hk => ⟨hk.1.2, hk.2⟩)⟩, ⟨(bb_ HB)⟩⟩
            case round =>
             clear H'
             try clear c1
             try clear c2
             try clear p2
             try clear q2
             try clear hx2
             try clear qi2
             try clear c5
             try clear c6
             try clear p6
             try clear c7
             try clear c8
             try clear c8b0
             try clear c8b1
             try clear c8b2
             try clear c9
             try clear c9b0
             try clear c9b1
             try clear c10
             try clear c10b0
             try clear c10b1
             try clear c16
             try clear c16b0
             try clear c21
             try clear c21b0
             try clear p21
             try clear q21
             try clear hx21
             try clear qi21
             try clear c22
             try clear c22b0
             try clear p23
             try clear q23
             try clear hx23
             try clear c25
             try clear c28
             try clear c28b0
             try clear c28b1
             try clear c29
             try clear c29b0
             try clear c29b1
             try clear hx218_0
             try clear hx231_0
             try clear p2
             try clear p218
             try clear p231
             try clear q218
             try clear q231
             obtain ⟨x11_2, x13_2, x14_2, rfl, HA, HK2, HO_11, HO_12, HO_13, HB⟩ := hrel
             have hl11_2 := (Kd.jN HO_11.out).1
             rw [hl11_2] at HO_11
             (try simp only [hl11_2])
             (try simp only [hl11_2] at HO_12)
             (try simp only [hl11_2] at HO_13)
             have hl13_2 := (Kd.jN HO_13.out).1
             rw [hl13_2] at HO_13
             (try simp only [hl13_2])
             (try simp only [hl13_2] at HO_11)
             (try simp only [hl13_2] at HO_12)
             cases gk with
             | zero => exact absurd HA.out (by simp [jR.l0])
             | succ k2 =>
              have H := HA.out
              clear HA
              simp only [jR.l0] at H
              by_cases c43 : x14_2 ≥ 0
              ·
               rw [if_pos c43] at H
               have c43b0 := decide_eq_true c43
               clear c43
               obtain ⟨ji44, hji44⟩ : ∃ j_ : Int, (mn (wrap64 ((wrap64 (x14_2 + (t242.length : Int))) + 1)) (x11_2.length : Int)) = j_ := ⟨_, rfl⟩
               replace H : (if 0 ≤ x14_2 then (if x14_2 ≤ (ji44) then (if (ji44) ≤ (x11_2.length : Int) then ((jK.f k2 ((x11_2.take ((ji44) : Int).toNat).drop (x14_2 : Int).toNat) t242).bind fun t252 => (if x14_2 < (x13_2.length : Int) then (jR.l0 k2 t232 (Go.splice x11_2 (x14_2 : Int).toNat t252.2) t242 (x13_2.set (x14_2 : Int).toNat t252.1) (wrap64 (x14_2 - 1))) else (none))) else (none)) else (none)) else (none)) = some (r1, r2, r3) := by first | (rw [hji44] at H; exact H) | (simp only [hji44] at H ⊢; exact H)
               have hji44_ : (if (x11_2.length : Int) < (wrap64 ((wrap64 (x14_2 + (t242.length : Int))) + 1)) then (x11_2.length : Int) else (wrap64 ((wrap64 (x14_2 + (t242.length : Int))) + 1))) = ji44 := hji44
               by_cases c45 : 0 ≤ x14_2
               ·
                rw [if_pos c45] at H
                have c45b0 := eq_true c45
                have c45b1 := decide_eq_true c45
                clear c45
                by_cases c46 : x14_2 ≤ (ji44)
                ·
                 rw [if_pos c46] at H
                 have c46b0 := eq_true c46
                 have c46b1 := decide_eq_true c46
                 clear c46
                 by_cases c47 : (ji44) ≤ (x11_2.length : Int)
                 ·
                  rw [if_pos c47] at H
                  have c47b0 := eq_true c47
                  have c47b1 := decide_eq_true c47
                  clear c47
                  obtain ⟨y248, hy248⟩ : ∃ y_ : List Int, y_ = ((x11_2.take ((ji44) : Int).toNat).drop (x14_2 : Int).toNat) := ⟨_, rfl⟩
                  replace H : ((jK.f k2 y248 t242).bind fun t252 => (if x14_2 < (x13_2.length : Int) then (jR.l0 k2 t232 (Go.splice x11_2 (x14_2 : Int).toNat t252.2) t242 (x13_2.set (x14_2 : Int).toNat t252.1) (wrap64 (x14_2 - 1))) else (none))) = some (r1, r2, r3) := by first | (rw [hy248]; with_reducible exact H) | (have H2_ := (Option.bind_some _ _).symm.trans H; rw [hy248]; with_reducible exact H2_) | (with_reducible exact hs_ H) | with_reducible exact H | (rw [hy248]; exact H) | exact H
                  have Ny248 := jA.mk hy248
                  clear hy248
                  replace H := ob_ H
                  obtain ⟨t252, A480, H⟩ := H
                  try dsimp only at H
                  have A48 := jA.mk A480
                  clear A480
                  by_cases c49 : x14_2 < (x13_2.length : Int)
                  ·
                   rw [if_pos c49] at H
                   have c49b0 := decide_eq_true c49
                   (try simp only [hl13_2] at c49b0)
                   clear c49
                   obtain ⟨y253, hy253⟩ : ∃ y_ : List Int, y_ = (x13_2.set (x14_2 : Int).toNat t252.1) := ⟨_, rfl⟩
                   replace H : (jR.l0 k2 t232 (Go.splice x11_2 (x14_2 : Int).toNat t252.2) t242 y253 (wrap64 (x14_2 - 1))) = some (r1, r2, r3) := by first | (rw [hy253]; with_reducible exact H) | (have H2_ := (Option.bind_some _ _).symm.trans H; rw [hy253]; with_reducible exact H2_) | (with_reducible exact hs_ H) | with_reducible exact H | (rw [hy253]; exact H) | exact H
                   have Ny253 := jA.mk hy253
                   clear hy253
                   have H' := jA.mk H
                   clear H
                   have q51 : ((ji44) : Int) ≤ ((x11_2.length : Int) : Int) := of_decide_eq_true am_
                   obtain ⟨i051, hi051, _, hsz51, _⟩ := info_parts qY
                   have hroom51 : x11_2.length ≤ co38 := (Kd.jN HO_11.out).2.1
                   have hC51 : Kd.C (Kd.int .u64) _ Ao38 x11_2.length x11_2 := (Kd.jN HO_11.out).2.2
                   have ql51 : (x14_2 : Int) ≤ ((ji44) : Int) := of_decide_eq_true am_
                   have q051 : (0 : Int) ≤ (x14_2 : Int) := of_decide_eq_true am_
                   have hcut51 := jIP (P := Try.prog) 35 22 .i64 .i64 Try.underlying35 hi051 1 hsz51 Ao38 x11_2.length co38 x14_2 (ji44) q051 ql51 q51 hroom51
                   have hr51 := Kd.jKY (lo := (x14_2 : Int).toNat) (hi := ((ji44) : Int).toNat) (c := co38) hC51 (by omega) (by omega) hroom51
                   obtain ⟨A51, hA51⟩ : ∃ A1, A1 = (if co38 = (x14_2 : Int).toNat then Ao38 else (Ao38 : Option Addr).map (·.add ((x14_2 : Int).toNat * 1))) := ⟨_, rfl⟩
                   obtain ⟨c51, hc51⟩ : ∃ c1, c1 = co38 - (x14_2 : Int).toNat := ⟨_, rfl⟩
                   have hy51 : y248.length = ((ji44) : Int).toNat - (x14_2 : Int).toNat := (by rw [Ny248.out, List.length_drop, List.length_take] <;> omega)
                   rw [show ((x11_2).take ((ji44) : Int).toNat).drop (x14_2 : Int).toNat = y248 from Ny248.out.symm] at hr51
                   replace hr51 : Kd.C (Kd.int .u64) _ A51 y248.length y248 := (by rw [hA51]; exact hr51)
                   rw [← hy51, ← hA51, ← hc51] at hcut51
                   have HR251 := jA.mk hr51
                   have HC251 := jA.mk (show y248.length ≤ c51 from by rw [hy51, hc51]; exact Nat.sub_le_sub_right (Nat.le_trans (by omega) hroom51) _)
                   clear hr51 hC51 hroom51 hi051 hsz51 hc51
                   have KY51 := jA.mk hy51
                   have KA51 := jA.mk hA51
                   clear hy51 hA51
                   have KL51 := jA.mk (show ((ji44) : Int).toNat ≤ x11_2.length from by omega)
                   have KM51 := jA.mk (show (x14_2 : Int).toNat ≤ ((ji44) : Int).toNat from by omega)
                   replace q51 := eq_true q51
                   obtain ⟨d_, u1_⟩ := t252
                   have hdl := jK.len A48.out
                   have hdu := jK.len2 A48.out
                   have hx11 : 0 < x11_2.length := by have := KL51.out; have := KM51.out; have := KY51.out; omega
                   obtain ⟨ga, ca, ea, hga0, hga1, -⟩ := Kd.qy HO_11.out hx11
                   injection ea with ea_ en_ ec_
                   subst ea_
                   clear en_
                   subst ec_
                   obtain ⟨cur, hcur, hcl, hspl⟩ := jGL (i := (x14_2 : Int).toNat) HO_11.out
                   have hA_ : A51 = some ⟨ga, (x14_2 : Int).toNat, none⟩ := by rw [KA51.out, if_neg (by have := KL51.out; have := KM51.out; have := KY51.out; have := (Kd.jN HO_11.out).2.1; omega), Option.map_some, Nat.mul_one, add_plain]
                   have hq13 : x14_2 < (x13_2.length : Int) := of_decide_eq_true am_
                   have hp13 : 0 ≤ x14_2 := of_decide_eq_true am_
                   obtain ⟨go_, co_, eo_, hgo0, hgo1, -⟩ := Kd.qy HO_13.out (by omega)
                   injection eo_ with ea_ en_ ec_
                   subst ea_
                   clear en_
                   subst ec_
                   have hRW := HR251.out
                   rw [hA_] at hRW
                   have HFX := jA.mk (show (x14_2 : Int).toNat + y248.length ≤ x11_2.length ∧ (x14_2 : Int).toNat + y248.length ≤ cur.length from by have := KL51.out; have := KM51.out; have := KY51.out; omega)
                   have HCUR := jA.mk hcur
                   have HSPL := jA.mk hspl
                   have HRW := jA.mk hRW
                   have HDU := jA.mk hdu
                   have HGA := jA.mk (And.intro hga0 hgo0)
                   subst hA_
                   clear hcur hcl hspl hRW hdu hdl hx11 hga0 hga1 hgo0 hgo1 HR251
                   replace hq13 := eq_true hq13
                   replace hp13 := eq_true hp13
                   go_wp2_with fail
                   refine (jK.calls k2 ga (x14_2 : Int).toNat _ _ _ y248 t242 u1_ d_ cur _ HRW.out HC251.out HCUR.out HFX.out.2 (Kd.jN HO_12.out).2.2 (Kd.jN HO_12.out).2.1 A48.out).mono ?_
                   rintro e w52 ⟨rfl, hg, hc⟩
                   have n0_ := jA.mk (HSPL.out w52 u1_ (by rw [HDU.out]; exact HFX.out.1) hc)
                   have n1_ := jA.mk (Kd.jGO HO_12.out hg (fun k_ hk_ => hk_.1))
                   have n2_ := jA.mk (Kd.jGO HO_13.out hg (fun k_ hk_ => hk_.1))
                   have n3_ := jA.mk (jDl HB.out hg HGA.out.1)
                   clear HO_11 HO_12 HO_13 HB hg hc
                   have HO_11 := n0_
                   have HO_12 := n1_
                   have HO_13 := n2_
                   have HB := n3_
                   clear n0_ n1_ n2_ n3_
                   obtain ⟨hx50_0, hf50_0⟩ := Kd.za 0 HO_13.out (x14_2 : Int) (of_decide_eq_true am_) (of_decide_eq_true am_)
                   have HP := Kd.jAz HO_13.out (x14_2 : Int) d_
                   have HP_ := jA.mk HP.1
                   clear HP
                   go_wp2
                   (try simp only [← hl13_2])
                   (try simp only [← hl11_2])
                   go_roundg k2
                   case measure => have := HJ2.out; have := HK2.out; omega
                   case rel =>
                    refine ⟨_, _, _, rfl, H', ⟨by have := HJ2.out; have := HK2.out; omega⟩, ⟨?_⟩, ⟨?_⟩, ⟨?_⟩, ⟨vV HB.out HGA.out.2⟩⟩
                    ·
                     (try simp only [hl13_2, hl11_2]); exact Kd.zl HO_11.out (fun k_ hk_ e_ => hk_.2 (by rw [e_]; rfl)) _
                    ·
                     (try simp only [hl13_2, hl11_2]); exact Kd.zl HO_12.out (fun k_ hk_ e_ => hk_.2 (by rw [e_]; rfl)) _
                    ·
                     (try simp only [hl13_2, hl11_2]); rw [Ny253.out]; exact HP_.out
                  ·
                   rw [if_neg c49] at H
                   exact absurd H (by simp)
                 ·
                  rw [if_neg c47] at H
                  exact absurd H (by simp)
                ·
                 rw [if_neg c46] at H
                 exact absurd H (by simp)
               ·
                rw [if_neg c45] at H
                exact absurd H (by simp)
              ·
               rw [if_neg c43] at H
               have c43b0 := decide_eq_false c43
               clear c43
               replace H := ob_ H
               obtain ⟨t254, A550, H⟩ := H
               try dsimp only at H
               have A55 := jA.mk A550
               clear A550
               replace H := ob_ H
               obtain ⟨t257, A560, H⟩ := H
               try dsimp only at H
               have A56 := jA.mk A560
               clear A560
               simp only [Option.some.injEq, Prod.mk.injEq] at H
               obtain ⟨rfl, rfl, rfl⟩ := H
               go_wp2_with (first | ((with_reducible refine jF (f := 96) rfl ?_); refine je (some 96) rfl rfl Try.func96 kr_ rfl #[.slice Ao42 x13_2.length co42] rfl mt_ ?_; (with_reducible refine (jk.calls k2 _ _ x13_2 t254 _ ?side1 ?side2 A55.out).mono ?_); (case side1 => exact cc_ (Kd.jN HO_13.out).2.2); (case side2 => exact (Kd.jN HO_13.out).2.1); rintro e w57 ⟨v255, rfl, ho0, hb⟩; refine ⟨_, rfl, ?_⟩; have HO256 := jA.mk (Kd.ji (Kd.zU (Kd.zU (Kd.zU ho0 (Kd.R_lt (rR_ HO_11))) (Kd.R_lt (rR_ HO_12))) (Kd.R_lt (rR_ HO_13))) (jC (bb_ HB))); replace HO_11 := re_ HO_11 ho0 hb; replace HO_12 := re_ HO_12 ho0 hb; replace HO_13 := re_ HO_13 ho0 hb; replace HB := bs_ HB hb) | ((with_reducible refine jF (f := 100) rfl ?_); refine je (some 100) rfl rfl Try.func100 kr_ rfl #[.slice Ao38 x11_2.length co38, .int .i64 (wrap64 (-t232))] rfl mt_ ?_; (with_reducible refine (jB.calls k2 _ _ x11_2 (wrap64 (-t232)) t257 _ ?side1 ?side2 A56.out).mono ?_); (case side1 => exact cc_ (Kd.jN HO_11.out).2.2); (case side2 => exact (Kd.jN HO_11.out).2.1); rintro e w58 ⟨v258, rfl, ho0, hb⟩; refine ⟨_, rfl, ?_⟩; have HO259 := jA.mk (Kd.ji (Kd.zU (Kd.zU (Kd.zU (Kd.zU ho0 (Kd.R_lt (rR_ HO_11))) (Kd.R_lt (rR_ HO_12))) (Kd.R_lt (rR_ HO_13))) (Kd.R_lt (rR_ HO256))) (jC (bb_ HB))); replace HO_11 := re_ HO_11 ho0 hb; replace HO_12 := re_ HO_12 ho0 hb; replace HO_13 := re_ HO_13 ho0 hb; replace HO256 := re_ HO256 ho0 hb; replace HB := bs_ HB hb))
               go_ret3
               exact ⟨_, _, by first | rfl | (simp [vB, jy] <;> rfl) | (simp only [← hji20, ← hji27]; first | rfl | (simp [vB, jy] <;> rfl)) | (simp [*, vB, jy] <;> rfl), by refine pR_ ?_; exact Kd.jw HO256.out (fun _ hk => hk.2), by refine pR_ ?_; exact Kd.jw HO259.out (fun _ hk => hk.2), (bb_ HB)⟩
           ·
            rw [if_neg c29] at H
            exact absurd H (by simp)
          ·
           rw [if_neg c28] at H
           exact absurd H (by simp)
         ·
          rw [if_neg c25] at H
          exact absurd H (by simp)
        ·
         rw [if_neg c22] at H
         exact absurd H (by simp)
       ·
        rw [if_neg c21] at H
        exact absurd H (by simp)

/-! ### jV: function 71 -/
mutual
def jV.j0 : Nat → List Int → List Int → Bool → Option (List Int × Int)
 | 0, _, _, _ => none
 | k + 1, x0, x1, x16 => if x16 = true then (some (([] : List Int), 1)) else ((jk.f k x0).bind fun t262 => ((jk.f k x1).bind fun t265 => (jV.l0 k t262 t265)))
def jV.l0 : Nat → List Int → List Int → Option (List Int × Int)
 | 0, _, _ => none
 | k + 1, x0, x1 => if (x1.length : Int) > 0 then ((jR.f k x0 x1).bind fun bt268 => (jV.l0 k x1 bt268.2.1)) else (some (x0, 0))
end
def jV.f (k : Nat) (l0 : List Int) (l1 : List Int) : Option (List Int × Int) := (vK.f l0).bind fun t260 => (if t260 = true then ((vK.f l1).bind fun t261 => (jV.j0 k l0 l1 (!t261))) else (jV.j0 k l0 l1 true))
theorem jV.vW : ∀ k, (∀ y0 y1 y2, LeO (jV.j0 k y0 y1 y2) (jV.j0 (k + 1) y0 y1 y2)) ∧ (∀ y0 y1, LeO (jV.l0 k y0 y1) (jV.l0 (k + 1) y0 y1))
 | 0 => ⟨fun _ _ _ r h => by simp [jV.j0] at h, fun _ _ r h => by simp [jV.l0] at h⟩
 | k + 1 => by
  obtain ⟨ih0, ih1⟩ := jV.vW k
  refine ⟨?_, ?_⟩ <;> (intros; first | unfold jV.j0 | unfold jV.l0) <;> repeat' first
   | (with_reducible exact ih0 _ _ _)
   | (with_reducible exact ih1 _ _)
   | (with_reducible exact jk.mono _ _)
   | (with_reducible exact jR.mono _ _ _)
   | (with_reducible exact LeO.refl _)
   | (with_reducible exact LeO.none _)
   | (with_reducible refine LeO.ite ?_ ?_)
   | (with_reducible refine LeO.bind ?_ (fun _ => ?_))
theorem jV.mono : ∀ a0 a1 k, LeO (jV.f k a0 a1) (jV.f (k + 1) a0 a1) := by
 intro a0 a1 k
 obtain ⟨ih0, ih1⟩ := jV.vW k
 unfold jV.f
 repeat' first
   | (with_reducible exact ih0 _ _ _)
   | (with_reducible exact ih1 _ _)
   | (with_reducible exact jk.mono _ _)
   | (with_reducible exact jR.mono _ _ _)
   | (with_reducible exact LeO.refl _)
   | (with_reducible exact LeO.none _)
   | (with_reducible refine LeO.ite ?_ ?_)
   | (with_reducible refine LeO.bind ?_ (fun _ => ?_))
theorem jV.calls (k : Nat) (A0 : Option Addr) (c0 : Nat) (l0 : List Int) (A1 : Option Addr) (c1 : Nat) (l1 : List Int) (r1 : List Int) (r2 : Int) (w : World) (hr0 : Kd.C (Kd.int .u64) w A0 l0.length l0) (hc0 : l0.length ≤ c0) (hr1 : Kd.C (Kd.int .u64) w A1 l1.length l1) (hc1 : l1.length ≤ c1) (h : jV.f k l0 l1 = some (r1, r2)) :
  Calls Try.prog 71 #[.slice A0 l0.length c0, .slice A1 l1.length c1] w fun e w' => ∃ v0_ : Value, e = .returned (.tuple #[v0_, .int .i64 r2]) ∧ Kd.R (Kd.int .u64) 22 w' w.heap.size (fun _ => True) v0_ r1 ∧ Below w.heap.size w w' := by
 have HR0 := jA.mk hr0
 have HC0 := jA.mk hc0
 clear hr0 hc0
 have HR1 := jA.mk hr1
 have HC1 := jA.mk hc1
 clear hr1 hc1
 have HB := jA.mk (Below.refl w.heap.size w)
 have H : ((vK.f l0).bind fun t260 => (if t260 = true then ((vK.f l1).bind fun t261 => (jV.j0 k l0 l1 (!t261))) else (jV.j0 k l0 l1 true))) = some (r1, r2) := h
 clear h
 have HC3 := jA.mk H
 clear H
 go_enter Try.func71, Try.ntmps71
 go_upto_region 1 with (fail)
 go_cut [16] (fun v16 wc => ∃ (kq : Nat) (x16_2 : Bool), v16 = .bool x16_2 ∧ jA (jV.j0 kq l0 l1 x16_2 = some (r1, r2)) ∧ jA (kq ≤ k) ∧ jA (Below w.heap.size w wc))
 case first =>
  have H := HC3.out
  clear HC3
  replace H := ob_ H
  obtain ⟨t260, A40, H⟩ := H
  try dsimp only at H
  have A4 := jA.mk A40
  clear A40
  by_cases c5 : t260 = true
  ·
   subst c5
   have H1 : ((vK.f l1).bind fun t261 => (jV.j0 k l0 l1 (!t261))) = some (r1, r2) := by rw [if_pos rfl] at H; exact H
   clear H
   have H := H1
   clear H1
   replace H := ob_ H
   obtain ⟨t261, A60, H⟩ := H
   try dsimp only at H
   have A6 := jA.mk A60
   clear A60
   have H' := jA.mk H
   clear H
   go_wp2_with (first | ((with_reducible refine jF (f := 64) rfl ?_); refine je (some 10) rfl rfl Try.func64 kr_ rfl #[.slice A0 l0.length c0] rfl mt_ ?_; (with_reducible refine (vK.calls _ _ l0 true _ ?side1 ?side2 A4.out).mono ?_); (case side1 => exact cc_ (Kd.jf HR0.out HB.out)); (case side2 => exact HC0.out); rintro e w' ⟨rfl, ⟨nd, rfl⟩⟩; refine ⟨_, rfl, ?_⟩) | ((with_reducible refine jv (N := 14) rfl ?_); refine vC (by first | rfl | kernel_rfl) ?_; dsimp only; (with_reducible refine jF (f := 64) rfl ?_); refine je (some 14) rfl rfl Try.func64 kr_ rfl #[.slice A1 l1.length c1] rfl mt_ ?_; (with_reducible refine (vK.calls _ _ l1 t261 _ ?side1 ?side2 A6.out).mono ?_); (case side1 => repeat (first | exact (Kd.jf HR1.out (bb_ HB)) | (with_reducible refine Kd.qg ?_ _) | (with_reducible refine Kd.jAa ?_ _) | (with_reducible refine Kd.jBy ?_))); (case side2 => exact HC1.out); rintro e w' ⟨rfl, ⟨nd, rfl⟩⟩; refine ⟨_, rfl, ?_⟩))
   go_meet
   case rel => exact ⟨_, (!t261), sd_, H', ⟨by first | omega | exact Nat.le_refl _⟩, ⟨(bb_ HB)⟩⟩
  ·
   replace c5 := Bool.eq_false_iff.mpr c5
   subst c5
   have H1 : (jV.j0 k l0 l1 true) = some (r1, r2) := by rw [if_neg (show ¬ (false = true) by decide)] at H; exact H
   clear H
   have H := H1
   clear H1
   have H' := jA.mk H
   clear H
   go_wp2_with (first | ((with_reducible refine jF (f := 64) rfl ?_); refine je (some 10) rfl rfl Try.func64 kr_ rfl #[.slice A0 l0.length c0] rfl mt_ ?_; (with_reducible refine (vK.calls _ _ l0 false _ ?side1 ?side2 A4.out).mono ?_); (case side1 => exact cc_ (Kd.jf HR0.out HB.out)); (case side2 => exact HC0.out); rintro e w' ⟨rfl, ⟨nd, rfl⟩⟩; refine ⟨_, rfl, ?_⟩))
   go_meet
   case rel => exact ⟨_, (true), sd_, H', ⟨by first | omega | exact Nat.le_refl _⟩, ⟨(bb_ HB)⟩⟩
 case rest =>
  clear HC3
  try clear c1
  try clear p2
  try clear c5
  try clear c6
  obtain ⟨kq, x16_2, rfl, HA, HJ2, HB⟩ := hcut
  cases kq with
  | zero => exact absurd HA.out (by simp [jV.j0])
  | succ kj2 =>
   have H := HA.out
   clear HA
   simp only [jV.j0] at H
   by_cases c7 : x16_2 = true
   ·
    subst c7
    have H1 : (some (([] : List Int), 1)) = some (r1, r2) := by rw [if_pos rfl] at H; exact H
    clear H
    have H := H1
    clear H1
    simp only [Option.some.injEq, Prod.mk.injEq] at H
    obtain ⟨rfl, rfl⟩ := H
    go_wp2
    go_ret2
    exact ⟨_, ew_, nl_, (bb_ HB)⟩
   ·
    replace c7 := Bool.eq_false_iff.mpr c7
    subst c7
    have H1 : ((jk.f kj2 l0).bind fun t262 => ((jk.f kj2 l1).bind fun t265 => (jV.l0 kj2 t262 t265))) = some (r1, r2) := by rw [if_neg (show ¬ (false = true) by decide)] at H; exact H
    clear H
    have H := H1
    clear H1
    replace H := ob_ H
    obtain ⟨t262, A80, H⟩ := H
    try dsimp only at H
    have A8 := jA.mk A80
    clear A80
    replace H := ob_ H
    obtain ⟨t265, A90, H⟩ := H
    try dsimp only at H
    have A9 := jA.mk A90
    clear A90
    have H' := jA.mk H
    clear H
    go_wp2_with (first | ((with_reducible refine jF (f := 96) rfl ?_); refine je (some 18) rfl rfl Try.func96 kr_ rfl #[.slice A0 l0.length c0] rfl mt_ ?_; (with_reducible refine (jk.calls kj2 _ _ l0 t262 _ ?side1 ?side2 A8.out).mono ?_); (case side1 => exact cc_ (Kd.jf HR0.out HB.out)); (case side2 => exact HC0.out); rintro e w10 ⟨v263, rfl, ho0, hb⟩; refine ⟨_, rfl, ?_⟩; have HO264 := jA.mk (Kd.ji ho0 (jC (bb_ HB))); replace HB := bs_ HB hb) | ((with_reducible refine jF (f := 96) rfl ?_); refine je (some 20) rfl rfl Try.func96 kr_ rfl #[.slice A1 l1.length c1] rfl mt_ ?_; (with_reducible refine (jk.calls kj2 _ _ l1 t265 _ ?side1 ?side2 A9.out).mono ?_); (case side1 => exact cc_ (Kd.jf HR1.out HB.out)); (case side2 => exact HC1.out); rintro e w11 ⟨v266, rfl, ho0, hb⟩; refine ⟨_, rfl, ?_⟩; have HO267 := jA.mk (Kd.ji (Kd.zU ho0 (Kd.R_lt (rR_ HO264))) (jC (bb_ HB))); replace HO264 := re_ HO264 ho0 hb; replace HB := bs_ HB hb))
    go_loopg [0, 1] kj2 (fun kq v0 v1 w' => ∃ (x0_2 : List Int) (x1_2 : List Int), jA (jV.l0 kq x0_2 x1_2 = some (r1, r2)) ∧ jA (kq ≤ kj2) ∧ jA (Kd.R (Kd.int .u64) 22 w' w.heap.size (fun k_ => some k_ ≠ (v1 : Value).ownBlock) v0 x0_2) ∧ jA (Kd.R (Kd.int .u64) 22 w' w.heap.size (fun k_ => some k_ ≠ (v0 : Value).ownBlock) v1 x1_2) ∧ jA (Below w.heap.size w w'))
    case atStart => exact ⟨(t262), (t265), H', ⟨Nat.le_refl _⟩, ⟨by (with_reducible repeat (first | apply Kd.ze | apply Kd.qD | apply Kd.zi)); exact Kd.jw HO264.out (fun _ hk => hk.2)⟩, ⟨by (with_reducible repeat (first | apply Kd.ze | apply Kd.qD | apply Kd.zi)); exact Kd.jw HO267.out (fun _ hk => hk.2)⟩, ⟨(bb_ HB)⟩⟩
    case round =>
     clear H'
     try clear c1
     try clear p2
     try clear c5
     try clear c6
     try clear c7
     try clear c9
     try clear p2
     obtain ⟨x0_2, x1_2, HA, HK2, HO_0, HO_1, HB⟩ := hrel
     cases gk with
     | zero => exact absurd HA.out (by simp [jV.l0])
     | succ k2 =>
      have H := HA.out
      clear HA
      simp only [jV.l0] at H
      by_cases c12 : (x1_2.length : Int) > 0
      ·
       rw [if_pos c12] at H
       have c12b0 := decide_eq_true c12
       have c12b1 : decide (0 < x1_2.length) = true := decide_eq_true (by omega)
       clear c12
       replace H := ob_ H
       obtain ⟨⟨t268, t269, t270⟩, A130, H⟩ := H
       try dsimp only at H
       have A13 := jA.mk A130
       clear A130
       have H' := jA.mk H
       clear H
       obtain ⟨Ao14, co14, eo14⟩ := Kd.jq HO_1.out
       subst eo14
       obtain ⟨Ao15, co15, eo15⟩ := Kd.jq HO_0.out
       subst eo15
       go_wp2_with (first | ((with_reducible refine jF (f := 72) rfl ?_); refine je (some 27) rfl rfl Try.func72 kr_ rfl #[.slice Ao15 x0_2.length co15, .slice Ao14 x1_2.length co14] rfl mt_ ?_; (with_reducible refine (jR.calls k2 _ _ x0_2 _ _ x1_2 t268 t269 t270 _ ?side1 ?side2 ?side3 ?side4 A13.out).mono ?_); (case side1 => exact cc_ (Kd.jN HO_0.out).2.2); (case side2 => exact (Kd.jN HO_0.out).2.1); (case side3 => exact cc_ (Kd.jN HO_1.out).2.2); (case side4 => exact (Kd.jN HO_1.out).2.1); rintro e w16 ⟨v271, v273, rfl, ho0, ho1, hb⟩; refine ⟨_, rfl, ?_⟩; have HO272 := jA.mk (Kd.ji (Kd.zU (Kd.zU ho0 (Kd.R_lt (rR_ HO_0))) (Kd.R_lt (rR_ HO_1))) (jC (bb_ HB))); have HO274 := jA.mk (Kd.ji (Kd.zU (Kd.zU ho1 (Kd.R_lt (rR_ HO_0))) (Kd.R_lt (rR_ HO_1))) (jC (bb_ HB))); replace HO_0 := jA.mk (Kd.jw (Kd.jEU (Kd.jEU (Kd.jJs (rR_ HO_0) hb) (Kd.zk ho0)) (Kd.zk ho1)) (fun _ h_ => h_.1)); replace HO_1 := jA.mk (Kd.jw (Kd.jEU (Kd.jEU (Kd.jJs (rR_ HO_1) hb) (Kd.zk ho0)) (Kd.zk ho1)) (fun _ h_ => h_.1)); replace HB := bs_ HB hb))
       go_roundg k2
       case measure => have := HJ2.out; have := HK2.out; omega
       case rel => exact ⟨(x1_2), (t269), H', ⟨by have := HJ2.out; have := HK2.out; omega⟩, ⟨by (with_reducible repeat (first | apply Kd.ze | apply Kd.qD | apply Kd.zi)); exact Kd.jw HO_1.out (fun _ hk => hk.2)⟩, ⟨by (with_reducible repeat (first | apply Kd.ze | apply Kd.qD | apply Kd.zi)); exact Kd.jw HO274.out (fun _ hk => hk.2)⟩, ⟨(bb_ HB)⟩⟩
      ·
       rw [if_neg c12] at H
       have c12b0 := decide_eq_false c12
       have c12b1 : decide (0 < x1_2.length) = false := decide_eq_false (by omega)
       clear c12
       simp only [Option.some.injEq, Prod.mk.injEq] at H
       obtain ⟨rfl, rfl⟩ := H
       obtain ⟨Ao17, co17, eo17⟩ := Kd.jq HO_1.out
       subst eo17
       go_wp2
       go_ret2
       exact ⟨_, ew_, by refine pR_ ?_; exact Kd.jw HO_0.out (fun _ hk => trivial), (bb_ HB)⟩

/-! ### zx: function 73 -/
def zx.f (k : Nat) (l0 : List Int) (l1 : List Int) : Option (Int) := (jh.f k l0 l1).bind fun t275 => (some t275)
theorem zx.mono : ∀ a0 a1 k, LeO (zx.f k a0 a1) (zx.f (k + 1) a0 a1) := by
 intro a0 a1 k
 unfold zx.f
 repeat' first
   | (with_reducible exact jh.mono _ _ _)
   | (with_reducible exact LeO.refl _)
   | (with_reducible exact LeO.none _)
   | (with_reducible refine LeO.ite ?_ ?_)
   | (with_reducible refine LeO.bind ?_ (fun _ => ?_))
theorem zx.calls (k : Nat) (A0 : Option Addr) (c0 : Nat) (l0 : List Int) (A1 : Option Addr) (c1 : Nat) (l1 : List Int) (r : Int) (w : World) (hr0 : Kd.C (Kd.int .u64) w A0 l0.length l0) (hc0 : l0.length ≤ c0) (hr1 : Kd.C (Kd.int .u64) w A1 l1.length l1) (hc1 : l1.length ≤ c1) (h : zx.f k l0 l1 = some r) :
  Calls Try.prog 73 #[.slice A0 l0.length c0, .slice A1 l1.length c1] w fun e w' => e = .returned (.int .i64 r) ∧ Below w.heap.size w w' := by
 have HR0 := jA.mk hr0
 have HC0 := jA.mk hc0
 clear hr0 hc0
 have HR1 := jA.mk hr1
 have HC1 := jA.mk hc1
 clear hr1 hc1
 have HB := jA.mk (Below.refl w.heap.size w)
 have H : ((jh.f k l0 l1).bind fun t275 => (some t275)) = some r := h
 clear h
 replace H := ob_ H
 obtain ⟨t275, A30, H⟩ := H
 replace H : (some t275) = some r := H
 have A3 := jA.mk A30
 clear A30
 obtain rfl := Option.some.inj H
 go_enter Try.func73, Try.ntmps73
 go_wp2_with (first | ((with_reducible refine jF (f := 98) rfl ?_); refine je (some 7) rfl rfl Try.func98 kr_ rfl #[.slice A0 l0.length c0, .slice A1 l1.length c1] rfl mt_ ?_; (with_reducible refine (jh.calls k _ _ l0 _ _ l1 t275 _ ?side1 ?side2 ?side3 ?side4 A3.out).mono ?_); (case side1 => exact cc_ HR0.out); (case side2 => exact HC0.out); (case side3 => exact cc_ HR1.out); (case side4 => exact HC1.out); rintro e w4 ⟨rfl, hb⟩; refine ⟨_, rfl, ?_⟩; replace HB := bs_ HB hb))
 go_ret
 exact ⟨ew_, (bb_ HB)⟩

end Go.Proofs.Ytijgeonhbmgikaa.POOctetOne
