-- printed (pr.py)
import Derived.Test.YtoganbmeedimiaaGreatPOPressOnex4
import Derived.Test.YtoganbmeedimiaaGreatPOPressOnex7
namespace Go.Proofs.YtoganbmeedimiaaGreat.POPressOne
open Go.RowKit Go.Proofs.YtoganbmeedimiaaGreatN Go.Proofs.YtoganbmeedimiaaGreatW.PrintWords Go.Proofs.YtoganbmeedimiaaGreatW.PrintLast Go.Proofs.YtoganbmeedimiaaGreatW.PrintMore
attribute [local go_sem] zV zR qA zy vZ vY zU zQ
set_option maxHeartbeats 8000000
set_option maxRecDepth 100000
set_option linter.unusedVariables false
set_option linter.unusedSimpArgs false
mutual
def jX.j0 : Nat → List Int → List Int → Bool → Option (List Int × List Int × Int)
 | 0, _, _, _ => none
 | k + 1, x0, x1, x15 => if x15 = true then (some (([] : List Int), ([] : List Int), 1)) else (if (x1.length : Int) = 0 then (some (([] : List Int), ([] : List Int), 30)) else (if (x1.length : Int) = 1 then (if 0 < (x1.length : Int) then ((jf.f k x0 (rd x1 0)).bind fun bt209 => ((jEn.f bt209.2.1).bind fun t214 => (some (bt209.1, t214, 0)))) else (none)) else ((jo.f k x0 x1).bind fun t217 => (if t217 < 0 then ((vC.f k x0).bind fun t218 => (some (([] : List Int), t218, 0))) else (if 0 ≤ (wrap64 ((x1.length : Int) - 1)) then (if (wrap64 ((x1.length : Int) - 1)) < (x1.length : Int) then ((bits_LeadingZeros64.f (rd x1 (wrap64 ((x1.length : Int) - 1)))).bind fun t222 => ((jD.f k x0 t222).bind fun t223 => ((some (([0, 0] : List Int) : List Int)).bind fun y226 => (if t223.length + y226.length < 17592186044416 then ((some (t223 ++ y226 : List Int)).bind fun y229 => ((jD.f k x1 t222).bind fun t232 => (if 0 ≤ (wrap64 ((y229.length : Int) - (t232.length : Int))) then (if (wrap64 ((y229.length : Int) - (t232.length : Int)) : Int).toNat ≤ 35184372088832 then ((some (List.replicate (wrap64 ((y229.length : Int) - (t232.length : Int)) : Int).toNat 0 : List Int)).bind fun y235 => (jX.l0 k t222 y229 t232 y235 (wrap64 ((y235.length : Int) - 1)))) else (none)) else (none)))) else (none))))) else (none)) else (none))))))
def jX.l0 : Nat → Int → List Int → List Int → List Int → Int → Option (List Int × List Int × Int)
 | 0, _, _, _, _, _ => none
 | k + 1, x10, x11, x12, x13, x14 => if x14 ≥ 0 then (if 0 ≤ x14 then (if x14 ≤ (mn (wrap64 ((wrap64 (x14 + (x12.length : Int))) + 1)) (x11.length : Int)) then (if (mn (wrap64 ((wrap64 (x14 + (x12.length : Int))) + 1)) (x11.length : Int)) ≤ (x11.length : Int) then ((jS.f k ((x11.take ((mn (wrap64 ((wrap64 (x14 + (x12.length : Int))) + 1)) (x11.length : Int)) : Int).toNat).drop (x14 : Int).toNat) x12).bind fun t242 => (if x14 < (x13.length : Int) then (jX.l0 k x10 (Go.splice x11 (x14 : Int).toNat t242.2) x12 (x13.set (x14 : Int).toNat t242.1) (wrap64 (x14 - 1))) else (none))) else (none)) else (none)) else (none)) else ((vC.f k x13).bind fun t244 => ((jD.f k x11 (wrap64 (-x10))).bind fun t247 => (some (t244, t247, 0))))
end
def jX.f (k : Nat) (l0 : List Int) (l1 : List Int) : Option (List Int × List Int × Int) := (vU.f l0).bind fun t206 => (if t206 = true then ((vU.f l1).bind fun t207 => (jX.j0 k l0 l1 (!t207))) else (jX.j0 k l0 l1 true))
theorem jX.zY : ∀ k, (∀ y0 y1 y2, LeO (jX.j0 k y0 y1 y2) (jX.j0 (k + 1) y0 y1 y2)) ∧ (∀ y0 y1 y2 y3 y4, LeO (jX.l0 k y0 y1 y2 y3 y4) (jX.l0 (k + 1) y0 y1 y2 y3 y4))
 | 0 => ⟨fun _ _ _ r h => by simp [jX.j0] at h, fun _ _ _ _ _ r h => by simp [jX.l0] at h⟩
 | k + 1 => by
  obtain ⟨ih0, ih1⟩ := jX.zY k
  refine ⟨?_, ?_⟩ <;> (intros; first | unfold jX.j0 | unfold jX.l0) <;> repeat' first
   | (with_reducible exact ih0 _ _ _)
   | (with_reducible exact ih1 _ _ _ _ _)
   | (with_reducible exact jo.mono _ _ _)
   | (with_reducible exact jD.mono _ _ _)
   | (with_reducible exact vC.mono _ _)
   | (with_reducible exact jf.mono _ _ _)
   | (with_reducible exact jS.mono _ _ _)
   | (with_reducible exact LeO.refl _)
   | (with_reducible exact LeO.none _)
   | (with_reducible refine LeO.ite ?_ ?_)
   | (with_reducible refine LeO.bind ?_ (fun _ => ?_))
theorem jX.mono : ∀ a0 a1 k, LeO (jX.f k a0 a1) (jX.f (k + 1) a0 a1) := by
 intro a0 a1 k
 obtain ⟨ih0, ih1⟩ := jX.zY k
 unfold jX.f
 repeat' first
   | (with_reducible exact ih0 _ _ _)
   | (with_reducible exact ih1 _ _ _ _ _)
   | (with_reducible exact jo.mono _ _ _)
   | (with_reducible exact jD.mono _ _ _)
   | (with_reducible exact vC.mono _ _)
   | (with_reducible exact jf.mono _ _ _)
   | (with_reducible exact jS.mono _ _ _)
   | (with_reducible exact LeO.refl _)
   | (with_reducible exact LeO.none _)
   | (with_reducible refine LeO.ite ?_ ?_)
   | (with_reducible refine LeO.bind ?_ (fun _ => ?_))
theorem jX.calls (k : Nat) (A0 : Option Addr) (c0 : Nat) (l0 : List Int) (A1 : Option Addr) (c1 : Nat) (l1 : List Int) (r1 : List Int) (r2 : List Int) (r3 : Int) (w : World) (hr0 : Kd.C (Kd.int .u64) w A0 l0.length l0) (hc0 : l0.length ≤ c0) (hr1 : Kd.C (Kd.int .u64) w A1 l1.length l1) (hc1 : l1.length ≤ c1) (h : jX.f k l0 l1 = some (r1, r2, r3)) :
  Calls Tryz.prog 128 #[.slice A0 l0.length c0, .slice A1 l1.length c1] w fun e w' => ∃ v0_ v1_ : Value, e = .returned (.tuple #[v0_, v1_, .int .i64 r3]) ∧ Kd.R (Kd.int .u64) 56 w' w.heap.size (fun k_ => some k_ ≠ (v1_ : Value).ownBlock) v0_ r1 ∧ Kd.R (Kd.int .u64) 56 w' w.heap.size (fun k_ => some k_ ≠ (v0_ : Value).ownBlock) v1_ r2 ∧ Below w.heap.size w w' := by
 have HR0 := jA.mk hr0
 have HC0 := jA.mk hc0
 clear hr0 hc0
 have HR1 := jA.mk hr1
 have HC1 := jA.mk hc1
 clear hr1 hc1
 have HB := jA.mk (Below.refl w.heap.size w)
 have H : ((vU.f l0).bind fun t206 => (if t206 = true then ((vU.f l1).bind fun t207 => (jX.j0 k l0 l1 (!t207))) else (jX.j0 k l0 l1 true))) = some (r1, r2, r3) := h
 clear h
 have HC3 := jA.mk H
 clear H
 go_enter Tryz.func128, Tryz.ntmps128
 go_upto_region 1 with (fail)
 go_cut [15] (fun v15 wc => ∃ (kq : Nat) (x15_2 : Bool), v15 = .bool x15_2 ∧ jA (jX.j0 kq l0 l1 x15_2 = some (r1, r2, r3)) ∧ jA (kq ≤ k) ∧ jA (Below w.heap.size w wc))
 case first =>
  have H := HC3.out
  clear HC3
  obtain ⟨t206, A4, H⟩ := oc_ H
  try dsimp only at H
  by_cases c5 : t206 = true
  ·
   subst c5
   replace H := ip_ H
   obtain ⟨t207, A6, H⟩ := oc_ H
   try dsimp only at H
   have H' := jA.mk H
   clear H
   go_wp2_with (first | ((with_reducible refine jL (f := 109) rfl ?_); refine gl_ (some 17) Tryz.func109 #[.slice A0 l0.length c0] ?_; (with_reducible refine (vU.calls _ _ l0 true _ ?side1 ?side2 A4.out).mono ?_); (case side1 => exact cb_ HR0 HB); (case side2 => exact HC0.out); rintro e w' ⟨rfl, ⟨nd, rfl⟩⟩; refine ⟨_, rfl, ?_⟩) | ((with_reducible refine jl (N := 21) rfl ?_); refine jg (by first | rfl | kernel_rfl) ?_; dsimp only; (with_reducible refine jL (f := 109) rfl ?_); refine gl_ (some 21) Tryz.func109 #[.slice A1 l1.length c1] ?_; (with_reducible refine (vU.calls _ _ l1 t207 _ ?side1 ?side2 A6.out).mono ?_); (case side1 => repeat (first | exact (Kd.vQ HR1.out (bb_ HB)) | (with_reducible refine Kd.jAH ?_ _) | (with_reducible refine Kd.jBM ?_ _) | (with_reducible refine Kd.jDF ?_))); (case side2 => exact HC1.out); rintro e w' ⟨rfl, ⟨nd, rfl⟩⟩; refine ⟨_, rfl, ?_⟩))
   go_meet
   case rel => exact ⟨_, (!t207), sd_, H', ⟨by first | omega | exact Nat.le_refl _⟩, ⟨(bb_ HB)⟩⟩
  replace c5 := Bool.eq_false_iff.mpr c5
  subst c5
  replace H := in_ H
  have H' := jA.mk H
  clear H
  go_wp2_with (first | ((with_reducible refine jL (f := 109) rfl ?_); refine gl_ (some 17) Tryz.func109 #[.slice A0 l0.length c0] ?_; (with_reducible refine (vU.calls _ _ l0 false _ ?side1 ?side2 A4.out).mono ?_); (case side1 => exact cb_ HR0 HB); (case side2 => exact HC0.out); rintro e w' ⟨rfl, ⟨nd, rfl⟩⟩; refine ⟨_, rfl, ?_⟩))
  go_meet
  case rel => exact ⟨_, (true), sd_, H', ⟨by first | omega | exact Nat.le_refl _⟩, ⟨(bb_ HB)⟩⟩
 case rest =>
  clear HC3
  try clear c1
  try clear p2
  try clear c5
  obtain ⟨kq, x15_2, rfl, HA, HJ2, HB⟩ := hcut
  cases kq with
  | zero => exact absurd HA.out (by simp [jX.j0])
  | succ kj2 =>
   have H := HA.out
   clear HA
   simp only [jX.j0] at H
   by_cases c7 : x15_2 = true
   ·
    subst c7
    replace H := ip_ H
    simp only [Option.some.injEq, Prod.mk.injEq] at H
    obtain ⟨rfl, rfl, rfl⟩ := H
    go_wp2
    go_ret3
    exact ⟨_, _, ew_, nl_, nl_, (bb_ HB)⟩
   replace c7 := Bool.eq_false_iff.mpr c7
   subst c7
   replace H := in_ H
   by_cases c8 : (l1.length : Int) = 0
   ·
    rw [if_pos c8] at H
    have c8b0 := beq_iff_eq.mpr c8
    have c8b1 := bne_eq_false_iff_eq.mpr c8
    clear c8
    simp only [Option.some.injEq, Prod.mk.injEq] at H
    obtain ⟨rfl, rfl, rfl⟩ := H
    go_wp2
    go_ret3
    exact ⟨_, _, ew_, nl_, nl_, (bb_ HB)⟩
   rw [if_neg c8] at H
   have c8b0 := beq_eq_false_iff_ne.mpr c8
   have c8b1 := bne_iff_ne.mpr c8
   have c8b2 : ¬ (l1 = []) := fun h_ => c8 (by rw [h_]; rfl)
   by_cases c9 : (l1.length : Int) = 1
   ·
    rw [if_pos c9] at H
    have c9b0 := beq_iff_eq.mpr c9
    have c9b1 := bne_eq_false_iff_eq.mpr c9
    clear c9
    by_cases c10 : 0 < (l1.length : Int)
    rotate_left
    ·
     rw [if_neg c10] at H
     exact absurd H (by simp)
    rw [if_pos c10] at H
    have c10b0 := decide_eq_true c10
    have c10b1 : decide (0 < l1.length) = true := decide_eq_true (by omega)
    clear c10
    replace H := ob_ H
    obtain ⟨⟨t209, t210, t211⟩, A110, H⟩ := H
    try dsimp only at H
    have A11 := jA.mk A110
    clear A110
    obtain ⟨t214, A12, H⟩ := oc_ H
    try dsimp only at H
    simp only [Option.some.injEq, Prod.mk.injEq] at H
    obtain ⟨rfl, rfl, rfl⟩ := H
    have p208 : 0 ≤ (0 : Int) := (by omega)
    have q208 : 0 < (l1.length : Int) := of_decide_eq_true am_
    obtain ⟨ad208, e208, hx208_0⟩ := Kd.vS HR1.out 0 p208 q208
    cases e208
    have qi208 : (0 < l1.length) = True := eq_true (by omega)
    (try rw [show ((0 : Int)).toNat = 0 from rfl] at hx208_0)
    (try rw [Addr.add_zero'] at hx208_0)
    replace hx208_0 := (HB.out.cell (World.block_lt_of_cell? w _ hx208_0)).trans hx208_0
    replace p208 := eq_true p208
    replace q208 := eq_true q208
    go_wp2_with (first | ((with_reducible refine jL (f := 137) rfl ?_); refine gl_ (some 37) Tryz.func137 #[.slice A0 l0.length c0, .int .u64 (rd l1 0)] ?_; (with_reducible refine (jf.calls kj2 _ _ l0 (rd l1 0) t209 t210 t211 _ ?side1 ?side2 A11.out).mono ?_); (case side1 => exact cb_ HR0 HB); (case side2 => exact HC0.out); rintro e w13 ⟨v212, rfl, ho0, hb⟩; refine ⟨_, rfl, ?_⟩; have HO213 := jA.mk (Kd.jk ho0 (jE (bb_ HB))); replace HB := bs_ HB hb) | ((with_reducible refine jL (f := 138) rfl ?_); refine gl_ (some 43) Tryz.func138 #[.int .u64 t210] ?_; (with_reducible refine (jEn.calls t210 t214 _ A12.out).mono ?_); rintro e w14 ⟨v215, rfl, ho0, hb⟩; refine ⟨_, rfl, ?_⟩; have HO216 := jA.mk (Kd.jk (Kd.qD ho0 (Kd.R_lt (rR_ HO213))) (jE (bb_ HB))); replace HO213 := re_ HO213 ho0 hb; replace HB := bs_ HB hb))
    go_ret3
    exact ⟨_, _, ew_, by refine pR_ ?_; exact Kd.vB HO213.out (fun _ hk => hk.2), by refine pR_ ?_; exact Kd.vB HO216.out (fun _ hk => hk.2), (bb_ HB)⟩
   rw [if_neg c9] at H
   have c9b0 := beq_eq_false_iff_ne.mpr c9
   have c9b1 := bne_iff_ne.mpr c9
   obtain ⟨t217, A15, H⟩ := oc_ H
   try dsimp only at H
   by_cases c16 : t217 < 0
   ·
    rw [if_pos c16] at H
    have c16b0 := decide_eq_true c16
    clear c16
    obtain ⟨t218, A17, H⟩ := oc_ H
    try dsimp only at H
    simp only [Option.some.injEq, Prod.mk.injEq] at H
    obtain ⟨rfl, rfl, rfl⟩ := H
    go_wp2_with (first | ((with_reducible refine jL (f := 129) rfl ?_); refine gl_ (some 47) Tryz.func129 #[.slice A0 l0.length c0, .slice A1 l1.length c1] ?_; (with_reducible refine (jo.calls kj2 _ _ l0 _ _ l1 t217 _ ?side1 ?side2 ?side3 ?side4 A15.out).mono ?_); (case side1 => exact cb_ HR0 HB); (case side2 => exact HC0.out); (case side3 => exact cb_ HR1 HB); (case side4 => exact HC1.out); rintro e w18 ⟨rfl, hb⟩; refine ⟨_, rfl, ?_⟩; replace HB := bs_ HB hb) | ((with_reducible refine jL (f := 127) rfl ?_); refine gl_ (some 50) Tryz.func127 #[.slice A0 l0.length c0] ?_; (with_reducible refine (vC.calls kj2 _ _ l0 t218 _ ?side1 ?side2 A17.out).mono ?_); (case side1 => exact cb_ HR0 HB); (case side2 => exact HC0.out); rintro e w19 ⟨v219, rfl, ho0, hb⟩; refine ⟨_, rfl, ?_⟩; have HO220 := jA.mk (Kd.jk ho0 (jE (bb_ HB))); replace HB := bs_ HB hb))
    go_ret3
    exact ⟨_, _, ew_, nl_, by refine pR_ ?_; exact Kd.vB HO220.out (fun _ hk => (by simp [Value.ownBlock])), (bb_ HB)⟩
   rw [if_neg c16] at H
   have c16b0 := decide_eq_false c16
   clear c16
   obtain ⟨ji20, hji20⟩ : ∃ j_ : Int, (wrap64 ((l1.length : Int) - 1)) = j_ := ⟨_, rfl⟩
   replace H : (if 0 ≤ (ji20) then (if (ji20) < (l1.length : Int) then ((bits_LeadingZeros64.f (rd l1 (ji20))).bind fun t222 => ((jD.f kj2 l0 t222).bind fun t223 => ((some (([0, 0] : List Int) : List Int)).bind fun y226 => (if t223.length + y226.length < 17592186044416 then ((some (t223 ++ y226 : List Int)).bind fun y229 => ((jD.f kj2 l1 t222).bind fun t232 => (if 0 ≤ (wrap64 ((y229.length : Int) - (t232.length : Int))) then (if (wrap64 ((y229.length : Int) - (t232.length : Int)) : Int).toNat ≤ 35184372088832 then ((some (List.replicate (wrap64 ((y229.length : Int) - (t232.length : Int)) : Int).toNat 0 : List Int)).bind fun y235 => (jX.l0 kj2 t222 y229 t232 y235 (wrap64 ((y235.length : Int) - 1)))) else (none)) else (none)))) else (none))))) else (none)) else (none)) = some (r1, r2, r3) := by first | (rw [hji20] at H; exact H) | (simp only [hji20] at H ⊢; exact H)
   (try rw [hji20] at A15)
   have hji20w : (IntKind.i64.wrap ((l1.length : Int) - 1)) = ji20 := (vF _).trans hji20
   by_cases c21 : 0 ≤ (ji20)
   rotate_left
   ·
    rw [if_neg c21] at H
    exact absurd H (by simp)
   rw [if_pos c21] at H
   have c21b0 := decide_eq_true c21
   clear c21
   by_cases c22 : (ji20) < (l1.length : Int)
   rotate_left
   ·
    rw [if_neg c22] at H
    exact absurd H (by simp)
   rw [if_pos c22] at H
   have c22b0 := decide_eq_true c22
   clear c22
   obtain ⟨t222, A23, H⟩ := oc_ H
   try dsimp only at H
   obtain ⟨t223, A24, H⟩ := oc_ H
   try dsimp only at H
   obtain ⟨y226, hy226⟩ : ∃ y_ : List Int, y_ = (([0, 0] : List Int)) := ⟨_, rfl⟩
   replace H : (if t223.length + y226.length < 17592186044416 then ((some (t223 ++ y226 : List Int)).bind fun y229 => ((jD.f kj2 l1 t222).bind fun t232 => (if 0 ≤ (wrap64 ((y229.length : Int) - (t232.length : Int))) then (if (wrap64 ((y229.length : Int) - (t232.length : Int)) : Int).toNat ≤ 35184372088832 then ((some (List.replicate (wrap64 ((y229.length : Int) - (t232.length : Int)) : Int).toNat 0 : List Int)).bind fun y235 => (jX.l0 kj2 t222 y229 t232 y235 (wrap64 ((y235.length : Int) - 1)))) else (none)) else (none)))) else (none)) = some (r1, r2, r3) := by first | (rw [hy226]; with_reducible exact H) | (have H2_ := (Option.bind_some _ _).symm.trans H; rw [hy226]; with_reducible exact H2_) | (with_reducible exact hs_ H) | with_reducible exact H | (rw [hy226]; exact H) | exact H
   have Ny226 := jA.mk hy226
   clear hy226
   by_cases c25 : t223.length + y226.length < 17592186044416
   rotate_left
   ·
    rw [if_neg c25] at H
    exact absurd H (by simp)
   rw [if_pos c25] at H
   have LMc25 := jA.mk c25
   clear c25
   obtain ⟨y229, hy229⟩ : ∃ y_ : List Int, y_ = (t223 ++ y226) := ⟨_, rfl⟩
   replace H : ((jD.f kj2 l1 t222).bind fun t232 => (if 0 ≤ (wrap64 ((y229.length : Int) - (t232.length : Int))) then (if (wrap64 ((y229.length : Int) - (t232.length : Int)) : Int).toNat ≤ 35184372088832 then ((some (List.replicate (wrap64 ((y229.length : Int) - (t232.length : Int)) : Int).toNat 0 : List Int)).bind fun y235 => (jX.l0 kj2 t222 y229 t232 y235 (wrap64 ((y235.length : Int) - 1)))) else (none)) else (none))) = some (r1, r2, r3) := by first | (rw [hy229]; with_reducible exact H) | (have H2_ := (Option.bind_some _ _).symm.trans H; rw [hy229]; with_reducible exact H2_) | (with_reducible exact hs_ H) | with_reducible exact H | (rw [hy229]; exact H) | exact H
   have Ny229 := jA.mk hy229
   clear hy229
   obtain ⟨t232, A26, H⟩ := oc_ H
   try dsimp only at H
   obtain ⟨ji27, hji27⟩ : ∃ j_ : Int, (wrap64 ((y229.length : Int) - (t232.length : Int))) = j_ := ⟨_, rfl⟩
   replace H : (if 0 ≤ (ji27) then (if (ji27 : Int).toNat ≤ 35184372088832 then ((some (List.replicate (ji27 : Int).toNat 0 : List Int)).bind fun y235 => (jX.l0 kj2 t222 y229 t232 y235 (wrap64 ((y235.length : Int) - 1)))) else (none)) else (none)) = some (r1, r2, r3) := by first | (rw [hji27] at H; exact H) | (simp only [hji27] at H ⊢; exact H)
   (try rw [hji27] at A15)
   (try rw [hji27] at A23)
   (try rw [hji27] at A24)
   (try rw [hji27] at A26)
   have hji27w : (IntKind.i64.wrap ((y229.length : Int) - (t232.length : Int))) = ji27 := (vF _).trans hji27
   by_cases c28 : 0 ≤ (ji27)
   rotate_left
   ·
    rw [if_neg c28] at H
    exact absurd H (by simp)
   rw [if_pos c28] at H
   have c28b0 := eq_true c28
   have c28b1 := decide_eq_true c28
   clear c28
   by_cases c29 : (ji27 : Int).toNat ≤ 35184372088832
   rotate_left
   ·
    rw [if_neg c29] at H
    exact absurd H (by simp)
   rw [if_pos c29] at H
   have c29b0 := eq_true c29
   have c29b1 := decide_eq_true c29
   clear c29
   obtain ⟨y235, hy235⟩ : ∃ y_ : List Int, y_ = (List.replicate (ji27 : Int).toNat 0) := ⟨_, rfl⟩
   replace H : (jX.l0 kj2 t222 y229 t232 y235 (wrap64 ((y235.length : Int) - 1))) = some (r1, r2, r3) := by first | (rw [hy235]; with_reducible exact H) | (have H2_ := (Option.bind_some _ _).symm.trans H; rw [hy235]; with_reducible exact H2_) | (with_reducible exact hs_ H) | with_reducible exact H | (rw [hy235]; exact H) | exact H
   have Ny235 := jA.mk hy235
   clear hy235
   have H' := jA.mk H
   clear H
   go_wp2_with (first | ((with_reducible refine jL (f := 129) rfl ?_); refine gl_ (some 47) Tryz.func129 #[.slice A0 l0.length c0, .slice A1 l1.length c1] ?_; (with_reducible refine (jo.calls kj2 _ _ l0 _ _ l1 t217 _ ?side1 ?side2 ?side3 ?side4 A15.out).mono ?_); (case side1 => exact cb_ HR0 HB); (case side2 => exact HC0.out); (case side3 => exact cb_ HR1 HB); (case side4 => exact HC1.out); rintro e w30 ⟨rfl, hb⟩; refine ⟨_, rfl, ?_⟩; replace HB := bs_ HB hb; have p221 : 0 ≤ ((ji20) : Int) := of_decide_eq_true am_; have q221 : (ji20) < (l1.length : Int) := of_decide_eq_true am_; obtain ⟨ad221, e221, hx221_0⟩ := Kd.vS HR1.out (ji20) p221 q221; cases e221; replace hx221_0 := (HB.out.cell (World.block_lt_of_cell? w _ hx221_0)).trans hx221_0; replace p221 := eq_true p221; replace q221 := eq_true q221) | ((with_reducible refine jL (f := 139) rfl ?_); refine jNb (some 57) rfl rfl Tryz.func139 kr_ rfl #[.int .u64 (rd l1 (ji20))] rfl (by (try simp only [List.map_toArray, List.map_cons, List.map_nil]); first | done | (simp only [hji20]; rfl) | rfl | (simp only [List.length_drop, List.length_take]; rfl)) ?_; (with_reducible refine (bits_LeadingZeros64.calls (rd l1 (ji20)) t222 _ A23.out).mono ?_); rintro e w31 ⟨rfl, hb⟩; refine ⟨_, rfl, ?_⟩; replace HB := bs_ HB hb) | ((with_reducible refine jL (f := 140) rfl ?_); refine gl_ (some 60) Tryz.func140 #[.slice A0 l0.length c0, .int .i64 t222] ?_; (with_reducible refine (jD.calls kj2 _ _ l0 t222 t223 _ ?side1 ?side2 A24.out).mono ?_); (case side1 => exact cb_ HR0 HB); (case side2 => exact HC0.out); rintro e w32 ⟨v224, rfl, ho0, hb⟩; refine ⟨_, rfl, ?_⟩; have HO225 := jA.mk (Kd.jk ho0 (jE (bb_ HB))); replace HB := bs_ HB hb) | ((with_reducible refine jl (N := 61) rfl ?_); refine Kd.jHA (Kd.int .u64) _ 56 ?hg (N := 61) ?hd (xs := ([0, 0] : List Int)) (inner := [.int .u64 0, .int .u64 0]) (ok := fun _ => True) (okp := fun _ => True) ?hr ?hp (fun _ hk => hk) trivial (Below.refl _ _) (Nat.le_refl _) (by simp) ?_; (case hd => rfl); (case hg => rfl); (case hr => exact gs_); (case hp => exact (Reps.one (show Kd.M (Kd.int .u64) _ _ _ 0 [.int .u64 0] from rfl) (Reps.one (show Kd.M (Kd.int .u64) _ _ _ 0 [.int .u64 0] from rfl) (Reps.none _ _)))); intro v227 w33 ho34 hb hg_ hnew_; clear hg_ hnew_; (first | rw [← Ny226.out] at ho34 | (simp only [Int.reduceToNat] at ho34; rw [← Ny226.out] at ho34)); have HO228 := jA.mk (Kd.jk (Kd.qD ho34 (Kd.R_lt (rR_ HO225))) (jE (bb_ HB))); replace HO225 := re_ HO225 ho34 hb; replace HB := bs_ HB hb; clear hb ho34; obtain ⟨Ao36, co36, rfl⟩ := Kd.vE HO228.out) | ((with_reducible refine zi (b := .append) (xs := #[.tmp 60, .tmp 61]) rfl ?_); at_builtin; refine Kd.jCi (Kd.int .u64) (w0 := w) w.heap.size rfl (.tmp 60) (.tmp 61) 30 56 (.int .u64 0) 8 rfl Tryz.underlying30 jAL rfl (by decide) (by omega) v224 t223 y226 _ _ _ (fun k_ => some k_ ≠ (.slice Ao36 y226.length co36 : Value).ownBlock) (fun _ => False) rfl rfl ?aO ?aR (fun _ _ h => h) (fun _ h => h.elim) ?aF ?aB ?aS ?aL ?_; (case aR => exact cc_ (Kd.jW HO228.out).2.2); (case aB => exact (bb_ HB)); (case aF => exact (fun k_ hk => Kd.fresh' (Kd.R_lt (rR_ HO228)) k_ hk)); (case aO => exact (by refine pR_ ?_; exact Kd.vB HO225.out (fun _ hk => hk.2))); (case aS => exact (jE (bb_ HB))); (case aL => have := LMc25.out; omega); intro v230 w35 ho hb hg hat; rw [← Ny229.out] at ho; replace HO228 := jA.mk (Kd.jME (ok := (fun _ => True)) (rR_ HO228) hg hat); replace HB := jA.mk (hb); have HO231 := jA.mk (ho); clear HO225 ho hb hg hat) | ((with_reducible refine jL (f := 140) rfl ?_); refine gl_ (some 65) Tryz.func140 #[.slice (some ad221) l1.length c1, .int .i64 t222] ?_; (with_reducible refine (jD.calls kj2 _ _ l1 t222 t232 _ ?side1 ?side2 A26.out).mono ?_); (case side1 => exact cb_ HR1 HB); (case side2 => exact HC1.out); rintro e w37 ⟨v233, rfl, ho0, hb⟩; refine ⟨_, rfl, ?_⟩; have HO234 := jA.mk (Kd.jk (Kd.qD (Kd.qD ho0 (Kd.R_lt (rR_ HO228))) (Kd.R_lt (rR_ HO231))) (jE (bb_ HB))); replace HO228 := re_ HO228 ho0 hb; replace HO231 := re_ HO231 ho0 hb; replace HB := bs_ HB hb; obtain ⟨Ao38, co38, rfl⟩ := Kd.vE HO231.out; obtain ⟨Ao39, co39, rfl⟩ := Kd.vE HO234.out) | ((with_reducible refine jl (N := 71) rfl ?_); refine Kd.jIt (Kd.int .u64) _ 56 rfl (N := 71) rfl 30 _ _ rfl ji27 rfl rfl Tryz.underlying30 (.int .u64 0) 8 jAL rfl (by decide) (by omega) 0 (ok := fun _ => True) (okp := fun _ => True) rfl (fun _ hk => hk) trivial (of_decide_eq_true am_) (Nat.le_trans (Nat.mul_le_mul_right _ (of_decide_eq_true am_ : ji27.toNat ≤ 35184372088832)) (by omega)) (Below.refl _ _) (Nat.le_refl _) ?_; intro v236 w40 ho41 hb hg_ hnew_; clear hg_ hnew_; (first | rw [← Ny235.out] at ho41 | (simp only [Int.reduceToNat] at ho41; rw [← Ny235.out] at ho41)); have HO237 := jA.mk (Kd.jk (Kd.qD (Kd.qD (Kd.qD ho41 (Kd.R_lt (rR_ HO228))) (Kd.R_lt (rR_ HO231))) (Kd.R_lt (rR_ HO234))) (jE (bb_ HB))); replace HO228 := re_ HO228 ho41 hb; replace HO231 := re_ HO231 ho41 hb; replace HO234 := re_ HO234 ho41 hb; replace HB := bs_ HB hb; clear hb ho41; obtain ⟨Ao42, co42, rfl⟩ := Kd.vE HO237.out))
   go_loopg [14] kj2 (fun kq v14 w' => ∃ (x11_2 x13_2 : List Int) (x14_2 : Int), v14 = .int .i64 x14_2 ∧ jA (jX.l0 kq t222 x11_2 t232 x13_2 x14_2 = some (r1, r2, r3)) ∧ jA (kq ≤ kj2) ∧ jA (Kd.R (Kd.int .u64) 56 w' w.heap.size (fun k_ => some k_ ≠ ((.slice Ao39 t232.length co39) : Value).ownBlock ∧ some k_ ≠ ((.slice Ao42 y235.length co42) : Value).ownBlock) (.slice Ao38 y229.length co38) x11_2) ∧ jA (Kd.R (Kd.int .u64) 56 w' w.heap.size (fun k_ => some k_ ≠ ((.slice Ao38 y229.length co38) : Value).ownBlock ∧ some k_ ≠ ((.slice Ao42 y235.length co42) : Value).ownBlock) (.slice Ao39 t232.length co39) t232) ∧ jA (Kd.R (Kd.int .u64) 56 w' w.heap.size (fun k_ => some k_ ≠ ((.slice Ao38 y229.length co38) : Value).ownBlock ∧ some k_ ≠ ((.slice Ao39 t232.length co39) : Value).ownBlock) (.slice Ao42 y235.length co42) x13_2) ∧ jA (Below w.heap.size w w'))
   case atStart => exact ⟨(y229), (y235), (wrap64 ((y235.length : Int) - 1)), sd_, H', ⟨Nat.le_refl _⟩, ⟨by (with_reducible repeat (first | apply Kd.qO | apply Kd.qz | apply Kd.qL)); exact Kd.vB HO231.out (fun _ hk => ⟨hk.1.2, hk.2⟩)⟩, ⟨by (with_reducible repeat (first | apply Kd.qO | apply Kd.qz | apply Kd.qL)); exact Kd.vB HO234.out (fun _ hk => ⟨hk.1.2, hk.2⟩)⟩, ⟨by (with_reducible repeat (first | apply Kd.qO | apply Kd.qz | apply Kd.qL)); exact Kd.vB HO237.out (fun _ hk => ⟨hk.1.2, hk.2⟩)⟩, ⟨(bb_ HB)⟩⟩
   case round =>
    clear H'
    try clear c1
    try clear c2
    try clear p2
    try clear q2
    try clear hx2
    try clear qi2
    try clear c5
    try clear p6
    try clear c7
    try clear c8
    try clear c8b0
    try clear c8b1
    try clear c8b2
    try clear c9
    try clear c9b0
    try clear c9b1
    try clear c10
    try clear c10b0
    try clear c10b1
    try clear c12
    try clear c13
    try clear c14
    try clear c16
    try clear c16b0
    try clear p20
    try clear q20
    try clear hx20
    try clear qi20
    try clear c21
    try clear c21b0
    try clear c22
    try clear c22b0
    try clear p22
    try clear q22
    try clear hx22
    try clear c25
    try clear c28
    try clear c28b0
    try clear c28b1
    try clear c29
    try clear c29b0
    try clear c29b1
    try clear hx208_0
    try clear hx221_0
    try clear p2
    try clear p208
    try clear p221
    try clear q208
    try clear q221
    obtain ⟨x11_2, x13_2, x14_2, rfl, HA, HK2, HO_11, HO_12, HO_13, HB⟩ := hrel
    have hl11_2 := (Kd.jW HO_11.out).1
    rw [hl11_2] at HO_11
    (try simp only [hl11_2])
    (try simp only [hl11_2] at HO_12)
    (try simp only [hl11_2] at HO_13)
    have hl13_2 := (Kd.jW HO_13.out).1
    rw [hl13_2] at HO_13
    (try simp only [hl13_2])
    (try simp only [hl13_2] at HO_11)
    (try simp only [hl13_2] at HO_12)
    cases gk with
    | zero => exact absurd HA.out (by simp [jX.l0])
    | succ k2 =>
     have H := HA.out
     clear HA
     simp only [jX.l0] at H
     by_cases c43 : x14_2 ≥ 0
     rotate_left
     ·
      rw [if_neg c43] at H
      have c43b0 := decide_eq_false c43
      clear c43
      obtain ⟨t244, A55, H⟩ := oc_ H
      try dsimp only at H
      obtain ⟨t247, A56, H⟩ := oc_ H
      try dsimp only at H
      simp only [Option.some.injEq, Prod.mk.injEq] at H
      obtain ⟨rfl, rfl, rfl⟩ := H
      go_wp2_with (first | ((with_reducible refine jL (f := 127) rfl ?_); refine gl_ (some 96) Tryz.func127 #[.slice Ao42 x13_2.length co42] ?_; (with_reducible refine (vC.calls k2 _ _ x13_2 t244 _ ?side1 ?side2 A55.out).mono ?_); (case side1 => exact cc_ (Kd.jW HO_13.out).2.2); (case side2 => exact (Kd.jW HO_13.out).2.1); rintro e w57 ⟨v245, rfl, ho0, hb⟩; refine ⟨_, rfl, ?_⟩; have HO246 := jA.mk (Kd.jk (Kd.qD (Kd.qD (Kd.qD ho0 (Kd.R_lt (rR_ HO_11))) (Kd.R_lt (rR_ HO_12))) (Kd.R_lt (rR_ HO_13))) (jE (bb_ HB))); replace HO_11 := re_ HO_11 ho0 hb; replace HO_12 := re_ HO_12 ho0 hb; replace HO_13 := re_ HO_13 ho0 hb; replace HB := bs_ HB hb) | ((with_reducible refine jL (f := 140) rfl ?_); refine gl_ (some 100) Tryz.func140 #[.slice Ao38 x11_2.length co38, .int .i64 (wrap64 (-t222))] ?_; (with_reducible refine (jD.calls k2 _ _ x11_2 (wrap64 (-t222)) t247 _ ?side1 ?side2 A56.out).mono ?_); (case side1 => exact cc_ (Kd.jW HO_11.out).2.2); (case side2 => exact (Kd.jW HO_11.out).2.1); rintro e w58 ⟨v248, rfl, ho0, hb⟩; refine ⟨_, rfl, ?_⟩; have HO249 := jA.mk (Kd.jk (Kd.qD (Kd.qD (Kd.qD (Kd.qD ho0 (Kd.R_lt (rR_ HO_11))) (Kd.R_lt (rR_ HO_12))) (Kd.R_lt (rR_ HO_13))) (Kd.R_lt (rR_ HO246))) (jE (bb_ HB))); replace HO_11 := re_ HO_11 ho0 hb; replace HO_12 := re_ HO_12 ho0 hb; replace HO_13 := re_ HO_13 ho0 hb; replace HO246 := re_ HO246 ho0 hb; replace HB := bs_ HB hb))
      go_ret3
      exact ⟨_, _, by first | rfl | (simp [vM, vL] <;> rfl) | (simp only [← hji20, ← hji27]; first | rfl | (simp [vM, vL] <;> rfl)) | (simp [*, vM, vL] <;> rfl), by refine pR_ ?_; exact Kd.vB HO246.out (fun _ hk => hk.2), by refine pR_ ?_; exact Kd.vB HO249.out (fun _ hk => hk.2), (bb_ HB)⟩
     rw [if_pos c43] at H
     have c43b0 := decide_eq_true c43
     clear c43
     obtain ⟨ji44, hji44⟩ : ∃ j_ : Int, (mn (wrap64 ((wrap64 (x14_2 + (t232.length : Int))) + 1)) (x11_2.length : Int)) = j_ := ⟨_, rfl⟩
     replace H : (if 0 ≤ x14_2 then (if x14_2 ≤ (ji44) then (if (ji44) ≤ (x11_2.length : Int) then ((jS.f k2 ((x11_2.take ((ji44) : Int).toNat).drop (x14_2 : Int).toNat) t232).bind fun t242 => (if x14_2 < (x13_2.length : Int) then (jX.l0 k2 t222 (Go.splice x11_2 (x14_2 : Int).toNat t242.2) t232 (x13_2.set (x14_2 : Int).toNat t242.1) (wrap64 (x14_2 - 1))) else (none))) else (none)) else (none)) else (none)) = some (r1, r2, r3) := by first | (rw [hji44] at H; exact H) | (simp only [hji44] at H ⊢; exact H)
     have hji44_ : (if (x11_2.length : Int) < (wrap64 ((wrap64 (x14_2 + (t232.length : Int))) + 1)) then (x11_2.length : Int) else (wrap64 ((wrap64 (x14_2 + (t232.length : Int))) + 1))) = ji44 := hji44
     by_cases c45 : 0 ≤ x14_2
     rotate_left
     ·
      rw [if_neg c45] at H
      exact absurd H (by simp)
     rw [if_pos c45] at H
     have c45b0 := eq_true c45
     have c45b1 := decide_eq_true c45
     clear c45
     by_cases c46 : x14_2 ≤ (ji44)
     rotate_left
     ·
      rw [if_neg c46] at H
      exact absurd H (by simp)
     rw [if_pos c46] at H
     have c46b0 := eq_true c46
     have c46b1 := decide_eq_true c46
     clear c46
     by_cases c47 : (ji44) ≤ (x11_2.length : Int)
     rotate_left
     ·
      rw [if_neg c47] at H
      exact absurd H (by simp)
     rw [if_pos c47] at H
     have c47b0 := eq_true c47
     have c47b1 := decide_eq_true c47
     clear c47
     obtain ⟨y238, hy238⟩ : ∃ y_ : List Int, y_ = ((x11_2.take ((ji44) : Int).toNat).drop (x14_2 : Int).toNat) := ⟨_, rfl⟩
     replace H : ((jS.f k2 y238 t232).bind fun t242 => (if x14_2 < (x13_2.length : Int) then (jX.l0 k2 t222 (Go.splice x11_2 (x14_2 : Int).toNat t242.2) t232 (x13_2.set (x14_2 : Int).toNat t242.1) (wrap64 (x14_2 - 1))) else (none))) = some (r1, r2, r3) := by first | (rw [hy238]; with_reducible exact H) | (have H2_ := (Option.bind_some _ _).symm.trans H; rw [hy238]; with_reducible exact H2_) | (with_reducible exact hs_ H) | with_reducible exact H | (rw [hy238]; exact H) | exact H
     have Ny238 := jA.mk hy238
     clear hy238
     obtain ⟨t242, A48, H⟩ := oc_ H
     try dsimp only at H
     by_cases c49 : x14_2 < (x13_2.length : Int)
     rotate_left
     ·
      rw [if_neg c49] at H
      exact absurd H (by simp)
     rw [if_pos c49] at H
     have c49b0 := decide_eq_true c49
     (try simp only [hl13_2] at c49b0)
     clear c49
     obtain ⟨y243, hy243⟩ : ∃ y_ : List Int, y_ = (x13_2.set (x14_2 : Int).toNat t242.1) := ⟨_, rfl⟩
     replace H : (jX.l0 k2 t222 (Go.splice x11_2 (x14_2 : Int).toNat t242.2) t232 y243 (wrap64 (x14_2 - 1))) = some (r1, r2, r3) := by first | (rw [hy243]; with_reducible exact H) | (have H2_ := (Option.bind_some _ _).symm.trans H; rw [hy243]; with_reducible exact H2_) | (with_reducible exact hs_ H) | with_reducible exact H | (rw [hy243]; exact H) | exact H
     have Ny243 := jA.mk hy243
     clear hy243
     have H' := jA.mk H
     clear H
     have q51 : ((ji44) : Int) ≤ ((x11_2.length : Int) : Int) := of_decide_eq_true am_
     obtain ⟨i051, hi051, _, hsz51, _⟩ := info_parts jAL
     have hroom51 : x11_2.length ≤ co38 := (Kd.jW HO_11.out).2.1
     have hC51 : Kd.C (Kd.int .u64) _ Ao38 x11_2.length x11_2 := (Kd.jW HO_11.out).2.2
     have ql51 : (x14_2 : Int) ≤ ((ji44) : Int) := of_decide_eq_true am_
     have q051 : (0 : Int) ≤ (x14_2 : Int) := of_decide_eq_true am_
     have hcut51 := jOm (P := Tryz.prog) 30 56 .i64 .i64 Tryz.underlying30 hi051 1 hsz51 Ao38 x11_2.length co38 x14_2 (ji44) q051 ql51 q51 hroom51
     have hr51 := Kd.jRn (lo := (x14_2 : Int).toNat) (hi := ((ji44) : Int).toNat) (c := co38) hC51 (by omega) (by omega) hroom51
     obtain ⟨A51, hA51⟩ : ∃ A1, A1 = (if co38 = (x14_2 : Int).toNat then Ao38 else (Ao38 : Option Addr).map (·.add ((x14_2 : Int).toNat * 1))) := ⟨_, rfl⟩
     obtain ⟨c51, hc51⟩ : ∃ c1, c1 = co38 - (x14_2 : Int).toNat := ⟨_, rfl⟩
     have hy51 : y238.length = ((ji44) : Int).toNat - (x14_2 : Int).toNat := (by rw [Ny238.out, List.length_drop, List.length_take] <;> omega)
     rw [show ((x11_2).take ((ji44) : Int).toNat).drop (x14_2 : Int).toNat = y238 from Ny238.out.symm] at hr51
     replace hr51 : Kd.C (Kd.int .u64) _ A51 y238.length y238 := (by rw [hA51]; exact hr51)
     rw [← hy51, ← hA51, ← hc51] at hcut51
     have HR241 := jA.mk hr51
     have HC241 := jA.mk (show y238.length ≤ c51 from by rw [hy51, hc51]; exact Nat.sub_le_sub_right (Nat.le_trans (by omega) hroom51) _)
     clear hr51 hC51 hroom51 hi051 hsz51 hc51
     have KY51 := jA.mk hy51
     have KA51 := jA.mk hA51
     clear hy51 hA51
     have KL51 := jA.mk (show ((ji44) : Int).toNat ≤ x11_2.length from by omega)
     have KM51 := jA.mk (show (x14_2 : Int).toNat ≤ ((ji44) : Int).toNat from by omega)
     replace q51 := eq_true q51
     obtain ⟨d_, u1_⟩ := t242
     have hdl := jS.len A48.out
     have hdu := jS.len2 A48.out
     have hx11 : 0 < x11_2.length := by have := KL51.out; have := KM51.out; have := KY51.out; omega
     obtain ⟨ga, ca, ea, hga0, hga1, -⟩ := Kd.jAg HO_11.out hx11
     injection ea with ea_ en_ ec_
     subst ea_
     clear en_
     subst ec_
     obtain ⟨cur, hcur, hcl, hspl⟩ := jMA (i := (x14_2 : Int).toNat) HO_11.out
     have hA_ : A51 = some ⟨ga, (x14_2 : Int).toNat, none⟩ := by rw [KA51.out, if_neg (by have := KL51.out; have := KM51.out; have := KY51.out; have := (Kd.jW HO_11.out).2.1; omega), Option.map_some, Nat.mul_one, add_plain]
     have hq13 : x14_2 < (x13_2.length : Int) := of_decide_eq_true am_
     have hp13 : 0 ≤ x14_2 := of_decide_eq_true am_
     obtain ⟨go_, co_, eo_, hgo0, hgo1, -⟩ := Kd.jAg HO_13.out (by omega)
     injection eo_ with ea_ en_ ec_
     subst ea_
     clear en_
     subst ec_
     have hRW := HR241.out
     rw [hA_] at hRW
     have HFX := jA.mk (show (x14_2 : Int).toNat + y238.length ≤ x11_2.length ∧ (x14_2 : Int).toNat + y238.length ≤ cur.length from by have := KL51.out; have := KM51.out; have := KY51.out; omega)
     have HCUR := jA.mk hcur
     have HSPL := jA.mk hspl
     have HRW := jA.mk hRW
     have HDU := jA.mk hdu
     have HGA := jA.mk (And.intro hga0 hgo0)
     subst hA_
     clear hcur hcl hspl hRW hdu hdl hx11 hga0 hga1 hgo0 hgo1 HR241
     replace hq13 := eq_true hq13
     replace hp13 := eq_true hp13
     go_wp2_with fail
     refine (jS.calls k2 ga (x14_2 : Int).toNat _ _ _ y238 t232 u1_ d_ cur _ HRW.out HC241.out HCUR.out HFX.out.2 (Kd.jW HO_12.out).2.2 (Kd.jW HO_12.out).2.1 A48.out).mono ?_
     rintro e w52 ⟨rfl, hg, hc⟩
     have n0_ := jA.mk (HSPL.out w52 u1_ (by rw [HDU.out]; exact HFX.out.1) hc)
     have n1_ := jA.mk (Kd.jMD HO_12.out hg (fun k_ hk_ => hk_.1))
     have n2_ := jA.mk (Kd.jMD HO_13.out hg (fun k_ hk_ => hk_.1))
     have n3_ := jA.mk (jHW HB.out hg HGA.out.1)
     clear HO_11 HO_12 HO_13 HB hg hc
     have HO_11 := n0_
     have HO_12 := n1_
     have HO_13 := n2_
     have HB := n3_
     clear n0_ n1_ n2_ n3_
     obtain ⟨hx50_0, hf50_0⟩ := Kd.qI 0 HO_13.out (x14_2 : Int) (of_decide_eq_true am_) (of_decide_eq_true am_)
     have HP := Kd.jCh HO_13.out (x14_2 : Int) d_
     have HP_ := jA.mk HP.1
     clear HP
     go_wp2
     (try simp only [← hl13_2])
     (try simp only [← hl11_2])
     go_roundg k2
     case measure => have := HJ2.out; have := HK2.out; omega
     case rel =>
      refine ⟨_, _, _, rfl, H', ⟨by have := HJ2.out; have := HK2.out; omega⟩, ⟨?_⟩, ⟨?_⟩, ⟨?_⟩, ⟨vP HB.out HGA.out.2⟩⟩
      ·
       (try simp only [hl13_2, hl11_2]); exact Kd.qU HO_11.out (fun k_ hk_ e_ => hk_.2 (by rw [e_]; rfl)) _
      ·
       (try simp only [hl13_2, hl11_2]); exact Kd.qU HO_12.out (fun k_ hk_ e_ => hk_.2 (by rw [e_]; rfl)) _
      (try simp only [hl13_2, hl11_2]); rw [Ny243.out]; exact HP_.out
mutual
def je.j0 : Nat → List Int → List Int → Bool → Option (List Int × Int)
 | 0, _, _, _ => none
 | k + 1, x0, x1, x16 => if x16 = true then (some (([] : List Int), 1)) else ((vC.f k x0).bind fun t252 => ((vC.f k x1).bind fun t255 => (je.l0 k t252 t255)))
def je.l0 : Nat → List Int → List Int → Option (List Int × Int)
 | 0, _, _ => none
 | k + 1, x0, x1 => if (x1.length : Int) > 0 then ((jX.f k x0 x1).bind fun bt258 => (je.l0 k x1 bt258.2.1)) else (some (x0, 0))
end
def je.f (k : Nat) (l0 : List Int) (l1 : List Int) : Option (List Int × Int) := (vU.f l0).bind fun t250 => (if t250 = true then ((vU.f l1).bind fun t251 => (je.j0 k l0 l1 (!t251))) else (je.j0 k l0 l1 true))
theorem je.zY : ∀ k, (∀ y0 y1 y2, LeO (je.j0 k y0 y1 y2) (je.j0 (k + 1) y0 y1 y2)) ∧ (∀ y0 y1, LeO (je.l0 k y0 y1) (je.l0 (k + 1) y0 y1))
 | 0 => ⟨fun _ _ _ r h => by simp [je.j0] at h, fun _ _ r h => by simp [je.l0] at h⟩
 | k + 1 => by
  obtain ⟨ih0, ih1⟩ := je.zY k
  refine ⟨?_, ?_⟩ <;> (intros; first | unfold je.j0 | unfold je.l0) <;> repeat' first
   | (with_reducible exact ih0 _ _ _)
   | (with_reducible exact ih1 _ _)
   | (with_reducible exact vC.mono _ _)
   | (with_reducible exact jX.mono _ _ _)
   | (with_reducible exact LeO.refl _)
   | (with_reducible exact LeO.none _)
   | (with_reducible refine LeO.ite ?_ ?_)
   | (with_reducible refine LeO.bind ?_ (fun _ => ?_))
theorem je.mono : ∀ a0 a1 k, LeO (je.f k a0 a1) (je.f (k + 1) a0 a1) := by
 intro a0 a1 k
 obtain ⟨ih0, ih1⟩ := je.zY k
 unfold je.f
 repeat' first
   | (with_reducible exact ih0 _ _ _)
   | (with_reducible exact ih1 _ _)
   | (with_reducible exact vC.mono _ _)
   | (with_reducible exact jX.mono _ _ _)
   | (with_reducible exact LeO.refl _)
   | (with_reducible exact LeO.none _)
   | (with_reducible refine LeO.ite ?_ ?_)
   | (with_reducible refine LeO.bind ?_ (fun _ => ?_))
theorem je.calls (k : Nat) (A0 : Option Addr) (c0 : Nat) (l0 : List Int) (A1 : Option Addr) (c1 : Nat) (l1 : List Int) (r1 : List Int) (r2 : Int) (w : World) (hr0 : Kd.C (Kd.int .u64) w A0 l0.length l0) (hc0 : l0.length ≤ c0) (hr1 : Kd.C (Kd.int .u64) w A1 l1.length l1) (hc1 : l1.length ≤ c1) (h : je.f k l0 l1 = some (r1, r2)) :
  Calls Tryz.prog 103 #[.slice A0 l0.length c0, .slice A1 l1.length c1] w fun e w' => ∃ v0_ : Value, e = .returned (.tuple #[v0_, .int .i64 r2]) ∧ Kd.R (Kd.int .u64) 56 w' w.heap.size (fun _ => True) v0_ r1 ∧ Below w.heap.size w w' := by
 have HR0 := jA.mk hr0
 have HC0 := jA.mk hc0
 clear hr0 hc0
 have HR1 := jA.mk hr1
 have HC1 := jA.mk hc1
 clear hr1 hc1
 have HB := jA.mk (Below.refl w.heap.size w)
 have H : ((vU.f l0).bind fun t250 => (if t250 = true then ((vU.f l1).bind fun t251 => (je.j0 k l0 l1 (!t251))) else (je.j0 k l0 l1 true))) = some (r1, r2) := h
 clear h
 have HC3 := jA.mk H
 clear H
 go_enter Tryz.func103, Tryz.ntmps103
 go_upto_region 1 with (fail)
 go_cut [16] (fun v16 wc => ∃ (kq : Nat) (x16_2 : Bool), v16 = .bool x16_2 ∧ jA (je.j0 kq l0 l1 x16_2 = some (r1, r2)) ∧ jA (kq ≤ k) ∧ jA (Below w.heap.size w wc))
 case first =>
  have H := HC3.out
  clear HC3
  obtain ⟨t250, A4, H⟩ := oc_ H
  try dsimp only at H
  by_cases c5 : t250 = true
  ·
   subst c5
   replace H := ip_ H
   obtain ⟨t251, A6, H⟩ := oc_ H
   try dsimp only at H
   have H' := jA.mk H
   clear H
   go_wp2_with (first | ((with_reducible refine jL (f := 109) rfl ?_); refine gl_ (some 10) Tryz.func109 #[.slice A0 l0.length c0] ?_; (with_reducible refine (vU.calls _ _ l0 true _ ?side1 ?side2 A4.out).mono ?_); (case side1 => exact cb_ HR0 HB); (case side2 => exact HC0.out); rintro e w' ⟨rfl, ⟨nd, rfl⟩⟩; refine ⟨_, rfl, ?_⟩) | ((with_reducible refine jl (N := 14) rfl ?_); refine jg (by first | rfl | kernel_rfl) ?_; dsimp only; (with_reducible refine jL (f := 109) rfl ?_); refine gl_ (some 14) Tryz.func109 #[.slice A1 l1.length c1] ?_; (with_reducible refine (vU.calls _ _ l1 t251 _ ?side1 ?side2 A6.out).mono ?_); (case side1 => repeat (first | exact (Kd.vQ HR1.out (bb_ HB)) | (with_reducible refine Kd.jAH ?_ _) | (with_reducible refine Kd.jBM ?_ _) | (with_reducible refine Kd.jDF ?_))); (case side2 => exact HC1.out); rintro e w' ⟨rfl, ⟨nd, rfl⟩⟩; refine ⟨_, rfl, ?_⟩))
   go_meet
   case rel => exact ⟨_, (!t251), sd_, H', ⟨by first | omega | exact Nat.le_refl _⟩, ⟨(bb_ HB)⟩⟩
  replace c5 := Bool.eq_false_iff.mpr c5
  subst c5
  replace H := in_ H
  have H' := jA.mk H
  clear H
  go_wp2_with (first | ((with_reducible refine jL (f := 109) rfl ?_); refine gl_ (some 10) Tryz.func109 #[.slice A0 l0.length c0] ?_; (with_reducible refine (vU.calls _ _ l0 false _ ?side1 ?side2 A4.out).mono ?_); (case side1 => exact cb_ HR0 HB); (case side2 => exact HC0.out); rintro e w' ⟨rfl, ⟨nd, rfl⟩⟩; refine ⟨_, rfl, ?_⟩))
  go_meet
  case rel => exact ⟨_, (true), sd_, H', ⟨by first | omega | exact Nat.le_refl _⟩, ⟨(bb_ HB)⟩⟩
 case rest =>
  clear HC3
  try clear c1
  try clear p2
  try clear c5
  obtain ⟨kq, x16_2, rfl, HA, HJ2, HB⟩ := hcut
  cases kq with
  | zero => exact absurd HA.out (by simp [je.j0])
  | succ kj2 =>
   have H := HA.out
   clear HA
   simp only [je.j0] at H
   by_cases c7 : x16_2 = true
   ·
    subst c7
    replace H := ip_ H
    simp only [Option.some.injEq, Prod.mk.injEq] at H
    obtain ⟨rfl, rfl⟩ := H
    go_wp2
    go_ret2
    exact ⟨_, ew_, nl_, (bb_ HB)⟩
   replace c7 := Bool.eq_false_iff.mpr c7
   subst c7
   replace H := in_ H
   obtain ⟨t252, A8, H⟩ := oc_ H
   try dsimp only at H
   obtain ⟨t255, A9, H⟩ := oc_ H
   try dsimp only at H
   have H' := jA.mk H
   clear H
   go_wp2_with (first | ((with_reducible refine jL (f := 127) rfl ?_); refine gl_ (some 18) Tryz.func127 #[.slice A0 l0.length c0] ?_; (with_reducible refine (vC.calls kj2 _ _ l0 t252 _ ?side1 ?side2 A8.out).mono ?_); (case side1 => exact cb_ HR0 HB); (case side2 => exact HC0.out); rintro e w10 ⟨v253, rfl, ho0, hb⟩; refine ⟨_, rfl, ?_⟩; have HO254 := jA.mk (Kd.jk ho0 (jE (bb_ HB))); replace HB := bs_ HB hb) | ((with_reducible refine jL (f := 127) rfl ?_); refine gl_ (some 20) Tryz.func127 #[.slice A1 l1.length c1] ?_; (with_reducible refine (vC.calls kj2 _ _ l1 t255 _ ?side1 ?side2 A9.out).mono ?_); (case side1 => exact cb_ HR1 HB); (case side2 => exact HC1.out); rintro e w11 ⟨v256, rfl, ho0, hb⟩; refine ⟨_, rfl, ?_⟩; have HO257 := jA.mk (Kd.jk (Kd.qD ho0 (Kd.R_lt (rR_ HO254))) (jE (bb_ HB))); replace HO254 := re_ HO254 ho0 hb; replace HB := bs_ HB hb))
   go_loopg [0, 1] kj2 (fun kq v0 v1 w' => ∃ (x0_2 : List Int) (x1_2 : List Int), jA (je.l0 kq x0_2 x1_2 = some (r1, r2)) ∧ jA (kq ≤ kj2) ∧ jA (Kd.R (Kd.int .u64) 56 w' w.heap.size (fun k_ => some k_ ≠ (v1 : Value).ownBlock) v0 x0_2) ∧ jA (Kd.R (Kd.int .u64) 56 w' w.heap.size (fun k_ => some k_ ≠ (v0 : Value).ownBlock) v1 x1_2) ∧ jA (Below w.heap.size w w'))
   case atStart => exact ⟨(t252), (t255), H', ⟨Nat.le_refl _⟩, ⟨by (with_reducible repeat (first | apply Kd.qO | apply Kd.qz | apply Kd.qL)); exact Kd.vB HO254.out (fun _ hk => hk.2)⟩, ⟨by (with_reducible repeat (first | apply Kd.qO | apply Kd.qz | apply Kd.qL)); exact Kd.vB HO257.out (fun _ hk => hk.2)⟩, ⟨(bb_ HB)⟩⟩
   case round =>
    clear H'
    try clear c1
    try clear p2
    try clear c5
    try clear c7
    try clear c10
    try clear p2
    obtain ⟨x0_2, x1_2, HA, HK2, HO_0, HO_1, HB⟩ := hrel
    cases gk with
    | zero => exact absurd HA.out (by simp [je.l0])
    | succ k2 =>
     have H := HA.out
     clear HA
     simp only [je.l0] at H
     by_cases c12 : (x1_2.length : Int) > 0
     rotate_left
     ·
      rw [if_neg c12] at H
      have c12b0 := decide_eq_false c12
      have c12b1 : decide (0 < x1_2.length) = false := decide_eq_false (by omega)
      clear c12
      simp only [Option.some.injEq, Prod.mk.injEq] at H
      obtain ⟨rfl, rfl⟩ := H
      obtain ⟨Ao17, co17, eo17⟩ := Kd.vE HO_1.out
      subst eo17
      go_wp2
      go_ret2
      exact ⟨_, ew_, by refine pR_ ?_; exact Kd.vB HO_0.out (fun _ hk => trivial), (bb_ HB)⟩
     rw [if_pos c12] at H
     have c12b0 := decide_eq_true c12
     have c12b1 : decide (0 < x1_2.length) = true := decide_eq_true (by omega)
     clear c12
     replace H := ob_ H
     obtain ⟨⟨t258, t259, t260⟩, A130, H⟩ := H
     try dsimp only at H
     have A13 := jA.mk A130
     clear A130
     have H' := jA.mk H
     clear H
     obtain ⟨Ao14, co14, eo14⟩ := Kd.vE HO_1.out
     subst eo14
     obtain ⟨Ao15, co15, eo15⟩ := Kd.vE HO_0.out
     subst eo15
     go_wp2_with (first | ((with_reducible refine jL (f := 128) rfl ?_); refine gl_ (some 27) Tryz.func128 #[.slice Ao15 x0_2.length co15, .slice Ao14 x1_2.length co14] ?_; (with_reducible refine (jX.calls k2 _ _ x0_2 _ _ x1_2 t258 t259 t260 _ ?side1 ?side2 ?side3 ?side4 A13.out).mono ?_); (case side1 => exact cc_ (Kd.jW HO_0.out).2.2); (case side2 => exact (Kd.jW HO_0.out).2.1); (case side3 => exact cc_ (Kd.jW HO_1.out).2.2); (case side4 => exact (Kd.jW HO_1.out).2.1); rintro e w16 ⟨v261, v263, rfl, ho0, ho1, hb⟩; refine ⟨_, rfl, ?_⟩; have HO262 := jA.mk (Kd.jk (Kd.qD (Kd.qD ho0 (Kd.R_lt (rR_ HO_0))) (Kd.R_lt (rR_ HO_1))) (jE (bb_ HB))); have HO264 := jA.mk (Kd.jk (Kd.qD (Kd.qD ho1 (Kd.R_lt (rR_ HO_0))) (Kd.R_lt (rR_ HO_1))) (jE (bb_ HB))); replace HO_0 := jA.mk (Kd.vB (Kd.jIs (Kd.jIs (Kd.jQx (rR_ HO_0) hb) (Kd.qM ho0)) (Kd.qM ho1)) (fun _ h_ => h_.1)); replace HO_1 := jA.mk (Kd.vB (Kd.jIs (Kd.jIs (Kd.jQx (rR_ HO_1) hb) (Kd.qM ho0)) (Kd.qM ho1)) (fun _ h_ => h_.1)); replace HB := bs_ HB hb))
     go_roundg k2
     case measure => have := HJ2.out; have := HK2.out; omega
     case rel => exact ⟨(x1_2), (t259), H', ⟨by have := HJ2.out; have := HK2.out; omega⟩, ⟨by (with_reducible repeat (first | apply Kd.qO | apply Kd.qz | apply Kd.qL)); exact Kd.vB HO_1.out (fun _ hk => hk.2)⟩, ⟨by (with_reducible repeat (first | apply Kd.qO | apply Kd.qz | apply Kd.qL)); exact Kd.vB HO264.out (fun _ hk => hk.2)⟩, ⟨(bb_ HB)⟩⟩
def ql.f (k : Nat) (l0 : List Int) (l1 : List Int) : Option (Int) := (jo.f k l0 l1).bind fun t265 => (some t265)
theorem ql.mono : ∀ a0 a1 k, LeO (ql.f k a0 a1) (ql.f (k + 1) a0 a1) := by
 intro a0 a1 k
 unfold ql.f
 repeat' first
   | (with_reducible exact jo.mono _ _ _)
   | (with_reducible exact LeO.refl _)
   | (with_reducible exact LeO.none _)
   | (with_reducible refine LeO.ite ?_ ?_)
   | (with_reducible refine LeO.bind ?_ (fun _ => ?_))
theorem ql.calls (k : Nat) (A0 : Option Addr) (c0 : Nat) (l0 : List Int) (A1 : Option Addr) (c1 : Nat) (l1 : List Int) (r : Int) (w : World) (hr0 : Kd.C (Kd.int .u64) w A0 l0.length l0) (hc0 : l0.length ≤ c0) (hr1 : Kd.C (Kd.int .u64) w A1 l1.length l1) (hc1 : l1.length ≤ c1) (h : ql.f k l0 l1 = some r) :
  Calls Tryz.prog 104 #[.slice A0 l0.length c0, .slice A1 l1.length c1] w fun e w' => e = .returned (.int .i64 r) ∧ Below w.heap.size w w' := by
 have HR0 := jA.mk hr0
 have HC0 := jA.mk hc0
 clear hr0 hc0
 have HR1 := jA.mk hr1
 have HC1 := jA.mk hc1
 clear hr1 hc1
 have HB := jA.mk (Below.refl w.heap.size w)
 have H : ((jo.f k l0 l1).bind fun t265 => (some t265)) = some r := h
 clear h
 replace H := ob_ H
 obtain ⟨t265, A30, H⟩ := H
 replace H : (some t265) = some r := H
 have A3 := jA.mk A30
 clear A30
 obtain rfl := Option.some.inj H
 go_enter Tryz.func104, Tryz.ntmps104
 go_wp2_with (first | ((with_reducible refine jL (f := 129) rfl ?_); refine gl_ (some 7) Tryz.func129 #[.slice A0 l0.length c0, .slice A1 l1.length c1] ?_; (with_reducible refine (jo.calls k _ _ l0 _ _ l1 t265 _ ?side1 ?side2 ?side3 ?side4 A3.out).mono ?_); (case side1 => exact cc_ HR0.out); (case side2 => exact HC0.out); (case side3 => exact cc_ HR1.out); (case side4 => exact HC1.out); rintro e w4 ⟨rfl, hb⟩; refine ⟨_, rfl, ?_⟩; replace HB := bs_ HB hb))
 go_ret
 exact ⟨ew_, (bb_ HB)⟩
end Go.Proofs.YtoganbmeedimiaaGreat.POPressOne
