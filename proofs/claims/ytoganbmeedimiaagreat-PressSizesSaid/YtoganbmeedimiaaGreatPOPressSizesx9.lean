-- printed (pr.py)
import Derived.Test.YtoganbmeedimiaaGreatPOPressSizesx5
import Derived.Test.YtoganbmeedimiaaGreatPOPressSizesx8
namespace Go.Proofs.YtoganbmeedimiaaGreat.POPressSizes
open Go.RowKit Go.Proofs.YtoganbmeedimiaaGreatN Go.Proofs.YtoganbmeedimiaaGreatW.PrintWords Go.Proofs.YtoganbmeedimiaaGreatW.PrintLast Go.Proofs.YtoganbmeedimiaaGreatW.PrintMore
attribute [local go_sem] zU zQ zn zm vV vU zT zP
set_option maxHeartbeats 8000000
set_option maxRecDepth 100000
set_option linter.unusedVariables false
set_option linter.unusedSimpArgs false
mutual
def jh.j0 : Nat → List Int → List Int → Bool → Option (List Int × List Int × Int)
 | 0, _, _, _ => none
 | k + 1, x0, x1, x15 => if x15 = true then (some (([] : List Int), ([] : List Int), 1)) else (if (x1.length : Int) = 0 then (some (([] : List Int), ([] : List Int), 30)) else (if (x1.length : Int) = 1 then (if 0 < (x1.length : Int) then ((vF.f k x0 (rd x1 0)).bind fun bt215 => ((jDi.f bt215.2.1).bind fun t220 => (some (bt215.1, t220, 0)))) else (none)) else ((vM.f k x0 x1).bind fun t223 => (if t223 < 0 then ((vW.f k x0).bind fun t224 => (some (([] : List Int), t224, 0))) else (if 0 ≤ (wrap64 ((x1.length : Int) - 1)) then (if (wrap64 ((x1.length : Int) - 1)) < (x1.length : Int) then ((bits_LeadingZeros64.f (rd x1 (wrap64 ((x1.length : Int) - 1)))).bind fun t228 => ((jE.f k x0 t228).bind fun t229 => ((some (([0, 0] : List Int) : List Int)).bind fun y232 => (if t229.length + y232.length < 17592186044416 then ((some (t229 ++ y232 : List Int)).bind fun y235 => ((jE.f k x1 t228).bind fun t238 => (if 0 ≤ (wrap64 ((y235.length : Int) - (t238.length : Int))) then (if (wrap64 ((y235.length : Int) - (t238.length : Int)) : Int).toNat ≤ 35184372088832 then ((some (List.replicate (wrap64 ((y235.length : Int) - (t238.length : Int)) : Int).toNat 0 : List Int)).bind fun y241 => (jh.l0 k t228 y235 t238 y241 (wrap64 ((y241.length : Int) - 1)))) else (none)) else (none)))) else (none))))) else (none)) else (none))))))
def jh.l0 : Nat → Int → List Int → List Int → List Int → Int → Option (List Int × List Int × Int)
 | 0, _, _, _, _, _ => none
 | k + 1, x10, x11, x12, x13, x14 => if x14 ≥ 0 then (if 0 ≤ x14 then (if x14 ≤ (mn (wrap64 ((wrap64 (x14 + (x12.length : Int))) + 1)) (x11.length : Int)) then (if (mn (wrap64 ((wrap64 (x14 + (x12.length : Int))) + 1)) (x11.length : Int)) ≤ (x11.length : Int) then ((jS.f k ((x11.take ((mn (wrap64 ((wrap64 (x14 + (x12.length : Int))) + 1)) (x11.length : Int)) : Int).toNat).drop (x14 : Int).toNat) x12).bind fun t248 => (if x14 < (x13.length : Int) then (jh.l0 k x10 (Go.splice x11 (x14 : Int).toNat t248.2) x12 (x13.set (x14 : Int).toNat t248.1) (wrap64 (x14 - 1))) else (none))) else (none)) else (none)) else (none)) else ((vW.f k x13).bind fun t250 => ((jE.f k x11 (wrap64 (-x10))).bind fun t253 => (some (t250, t253, 0))))
end
def jh.f (k : Nat) (l0 : List Int) (l1 : List Int) : Option (List Int × List Int × Int) := (vS.f l0).bind fun t212 => (if t212 = true then ((vS.f l1).bind fun t213 => (jh.j0 k l0 l1 (!t213))) else (jh.j0 k l0 l1 true))
theorem jh.calls (k : Nat) (A0 : Option Addr) (c0 : Nat) (l0 : List Int) (A1 : Option Addr) (c1 : Nat) (l1 : List Int) (r1 : List Int) (r2 : List Int) (r3 : Int) (w : World) (hr0 : Kd.C (Kd.int .u64) w A0 l0.length l0) (hc0 : l0.length ≤ c0) (hr1 : Kd.C (Kd.int .u64) w A1 l1.length l1) (hc1 : l1.length ≤ c1) (h : jh.f k l0 l1 = some (r1, r2, r3)) :
  Calls Tryz.prog 128 #[.slice A0 l0.length c0, .slice A1 l1.length c1] w fun e w' => ∃ v0_ v1_ : Value, e = .returned (.tuple #[v0_, v1_, .int .i64 r3]) ∧ Kd.R (Kd.int .u64) 56 w' w.heap.size (fun k_ => some k_ ≠ (v1_ : Value).ownBlock) v0_ r1 ∧ Kd.R (Kd.int .u64) 56 w' w.heap.size (fun k_ => some k_ ≠ (v0_ : Value).ownBlock) v1_ r2 ∧ Below w.heap.size w w' := by
 have HR0 := jA.mk hr0
 have HC0 := jA.mk hc0
 clear hr0 hc0
 have HR1 := jA.mk hr1
 have HC1 := jA.mk hc1
 clear hr1 hc1
 have HB := jA.mk (Below.refl w.heap.size w)
 have H : ((vS.f l0).bind fun t212 => (if t212 = true then ((vS.f l1).bind fun t213 => (jh.j0 k l0 l1 (!t213))) else (jh.j0 k l0 l1 true))) = some (r1, r2, r3) := h
 clear h
 have HC3 := jA.mk H
 clear H
 go_enter Tryz.func128, Tryz.ntmps128
 go_upto_region 1 with (fail)
 go_cut [15] (fun v15 wc => ∃ (kq : Nat) (x15_2 : Bool), v15 = .bool x15_2 ∧ jA (jh.j0 kq l0 l1 x15_2 = some (r1, r2, r3)) ∧ jA (kq ≤ k) ∧ jA (Below w.heap.size w wc))
 case first =>
  have H := HC3.out
  clear HC3
  obtain ⟨t212, A4, H⟩ := oc_ H
  try dsimp only at H
  by_cases c5 : t212 = true
  ·
   subst c5
   replace H := ip_ H
   obtain ⟨t213, A6, H⟩ := oc_ H
   try dsimp only at H
   have H' := jA.mk H
   clear H
   go_wp2_with (first | ((with_reducible refine jG (f := 109) rfl ?_); refine gl_ (some 17) Tryz.func109 #[.slice A0 l0.length c0] ?_; (with_reducible refine (vS.calls _ _ l0 true _ ?side1 ?side2 A4.out).mono ?_); (case side1 => exact cb_ HR0 HB); (case side2 => exact HC0.out); rintro e w' ⟨rfl, ⟨nd, rfl⟩⟩; refine ⟨_, rfl, ?_⟩) | ((with_reducible refine ji (N := 21) rfl ?_); refine jf (by first | rfl | kernel_rfl) ?_; dsimp only; (with_reducible refine jG (f := 109) rfl ?_); refine gl_ (some 21) Tryz.func109 #[.slice A1 l1.length c1] ?_; (with_reducible refine (vS.calls _ _ l1 t213 _ ?side1 ?side2 A6.out).mono ?_); (case side1 => repeat (first | exact (Kd.vG HR1.out (bb_ HB)) | (with_reducible refine Kd.qj ?_ _) | (with_reducible refine Kd.jAo ?_ _) | (with_reducible refine Kd.jCP ?_))); (case side2 => exact HC1.out); rintro e w' ⟨rfl, ⟨nd, rfl⟩⟩; refine ⟨_, rfl, ?_⟩))
   go_meet
   case rel => exact ⟨_, (!t213), sd_, H', ⟨by first | omega | exact Nat.le_refl _⟩, ⟨(bb_ HB)⟩⟩
  replace c5 := Bool.eq_false_iff.mpr c5
  subst c5
  replace H := in_ H
  have H' := jA.mk H
  clear H
  go_wp2_with (first | ((with_reducible refine jG (f := 109) rfl ?_); refine gl_ (some 17) Tryz.func109 #[.slice A0 l0.length c0] ?_; (with_reducible refine (vS.calls _ _ l0 false _ ?side1 ?side2 A4.out).mono ?_); (case side1 => exact cb_ HR0 HB); (case side2 => exact HC0.out); rintro e w' ⟨rfl, ⟨nd, rfl⟩⟩; refine ⟨_, rfl, ?_⟩))
  go_meet
  case rel => exact ⟨_, (true), sd_, H', ⟨by first | omega | exact Nat.le_refl _⟩, ⟨(bb_ HB)⟩⟩
 case rest =>
  clear HC3
  try clear c1
  try clear p2
  try clear c5
  obtain ⟨kq, x15_2, rfl, HA, HJ2, HB⟩ := hcut
  cases kq with
  | zero => exact absurd HA.out (by simp [jh.j0])
  | succ kj2 =>
   have H := HA.out
   clear HA
   simp only [jh.j0] at H
   by_cases c7 : x15_2 = true
   ·
    subst c7
    replace H := ip_ H
    simp only [Option.some.injEq, Prod.mk.injEq] at H
    obtain ⟨rfl, rfl, rfl⟩ := H
    go_wp2
    go_ret3
    exact ⟨_, _, ew_, nl_, nl_, (bb_ HB)⟩
   replace c7 := Bool.eq_false_iff.mpr c7
   subst c7
   replace H := in_ H
   by_cases c8 : (l1.length : Int) = 0
   ·
    rw [if_pos c8] at H
    have c8b0 := beq_iff_eq.mpr c8
    have c8b1 := bne_eq_false_iff_eq.mpr c8
    clear c8
    simp only [Option.some.injEq, Prod.mk.injEq] at H
    obtain ⟨rfl, rfl, rfl⟩ := H
    go_wp2
    go_ret3
    exact ⟨_, _, ew_, nl_, nl_, (bb_ HB)⟩
   rw [if_neg c8] at H
   have c8b0 := beq_eq_false_iff_ne.mpr c8
   have c8b1 := bne_iff_ne.mpr c8
   have c8b2 : ¬ (l1 = []) := fun h_ => c8 (by rw [h_]; rfl)
   by_cases c9 : (l1.length : Int) = 1
   ·
    rw [if_pos c9] at H
    have c9b0 := beq_iff_eq.mpr c9
    have c9b1 := bne_eq_false_iff_eq.mpr c9
    clear c9
    by_cases c10 : 0 < (l1.length : Int)
    rotate_left
    ·
     rw [if_neg c10] at H
     exact absurd H (by simp)
    rw [if_pos c10] at H
    have c10b0 := decide_eq_true c10
    have c10b1 : decide (0 < l1.length) = true := decide_eq_true (by omega)
    clear c10
    replace H := ob_ H
    obtain ⟨⟨t215, t216, t217⟩, A110, H⟩ := H
    try dsimp only at H
    have A11 := jA.mk A110
    clear A110
    obtain ⟨t220, A12, H⟩ := oc_ H
    try dsimp only at H
    simp only [Option.some.injEq, Prod.mk.injEq] at H
    obtain ⟨rfl, rfl, rfl⟩ := H
    have p214 : 0 ≤ (0 : Int) := (by omega)
    have q214 : 0 < (l1.length : Int) := of_decide_eq_true am_
    obtain ⟨ad214, e214, hx214_0⟩ := Kd.vP HR1.out 0 p214 q214
    cases e214
    have qi214 : (0 < l1.length) = True := eq_true (by omega)
    (try rw [show ((0 : Int)).toNat = 0 from rfl] at hx214_0)
    (try rw [Addr.add_zero'] at hx214_0)
    replace hx214_0 := (HB.out.cell (World.block_lt_of_cell? w _ hx214_0)).trans hx214_0
    replace p214 := eq_true p214
    replace q214 := eq_true q214
    go_wp2_with (first | ((with_reducible refine jG (f := 137) rfl ?_); refine gl_ (some 37) Tryz.func137 #[.slice A0 l0.length c0, .int .u64 (rd l1 0)] ?_; (with_reducible refine (vF.calls kj2 _ _ l0 (rd l1 0) t215 t216 t217 _ ?side1 ?side2 A11.out).mono ?_); (case side1 => exact cb_ HR0 HB); (case side2 => exact HC0.out); rintro e w13 ⟨v218, rfl, ho0, hb⟩; refine ⟨_, rfl, ?_⟩; have HO219 := jA.mk (Kd.jw ho0 (jD (bb_ HB))); replace HB := bs_ HB hb) | ((with_reducible refine jG (f := 138) rfl ?_); refine gl_ (some 43) Tryz.func138 #[.int .u64 t216] ?_; (with_reducible refine (jDi.calls t216 t220 _ A12.out).mono ?_); rintro e w14 ⟨v221, rfl, ho0, hb⟩; refine ⟨_, rfl, ?_⟩; have HO222 := jA.mk (Kd.jw (Kd.zk ho0 (Kd.R_lt (rR_ HO219))) (jD (bb_ HB))); replace HO219 := re_ HO219 ho0 hb; replace HB := bs_ HB hb))
    go_ret3
    exact ⟨_, _, ew_, by refine pR_ ?_; exact Kd.vQ HO219.out (fun _ hk => hk.2), by refine pR_ ?_; exact Kd.vQ HO222.out (fun _ hk => hk.2), (bb_ HB)⟩
   rw [if_neg c9] at H
   have c9b0 := beq_eq_false_iff_ne.mpr c9
   have c9b1 := bne_iff_ne.mpr c9
   obtain ⟨t223, A15, H⟩ := oc_ H
   try dsimp only at H
   by_cases c16 : t223 < 0
   ·
    rw [if_pos c16] at H
    have c16b0 := decide_eq_true c16
    clear c16
    obtain ⟨t224, A17, H⟩ := oc_ H
    try dsimp only at H
    simp only [Option.some.injEq, Prod.mk.injEq] at H
    obtain ⟨rfl, rfl, rfl⟩ := H
    go_wp2_with (first | ((with_reducible refine jG (f := 129) rfl ?_); refine gl_ (some 47) Tryz.func129 #[.slice A0 l0.length c0, .slice A1 l1.length c1] ?_; (with_reducible refine (vM.calls kj2 _ _ l0 _ _ l1 t223 _ ?side1 ?side2 ?side3 ?side4 A15.out).mono ?_); (case side1 => exact cb_ HR0 HB); (case side2 => exact HC0.out); (case side3 => exact cb_ HR1 HB); (case side4 => exact HC1.out); rintro e w18 ⟨rfl, hb⟩; refine ⟨_, rfl, ?_⟩; replace HB := bs_ HB hb) | ((with_reducible refine jG (f := 127) rfl ?_); refine gl_ (some 50) Tryz.func127 #[.slice A0 l0.length c0] ?_; (with_reducible refine (vW.calls kj2 _ _ l0 t224 _ ?side1 ?side2 A17.out).mono ?_); (case side1 => exact cb_ HR0 HB); (case side2 => exact HC0.out); rintro e w19 ⟨v225, rfl, ho0, hb⟩; refine ⟨_, rfl, ?_⟩; have HO226 := jA.mk (Kd.jw ho0 (jD (bb_ HB))); replace HB := bs_ HB hb))
    go_ret3
    exact ⟨_, _, ew_, nl_, by refine pR_ ?_; exact Kd.vQ HO226.out (fun _ hk => (by simp [Value.ownBlock])), (bb_ HB)⟩
   rw [if_neg c16] at H
   have c16b0 := decide_eq_false c16
   clear c16
   obtain ⟨ji20, hji20⟩ : ∃ j_ : Int, (wrap64 ((l1.length : Int) - 1)) = j_ := ⟨_, rfl⟩
   replace H : (if 0 ≤ (ji20) then (if (ji20) < (l1.length : Int) then ((bits_LeadingZeros64.f (rd l1 (ji20))).bind fun t228 => ((jE.f kj2 l0 t228).bind fun t229 => ((some (([0, 0] : List Int) : List Int)).bind fun y232 => (if t229.length + y232.length < 17592186044416 then ((some (t229 ++ y232 : List Int)).bind fun y235 => ((jE.f kj2 l1 t228).bind fun t238 => (if 0 ≤ (wrap64 ((y235.length : Int) - (t238.length : Int))) then (if (wrap64 ((y235.length : Int) - (t238.length : Int)) : Int).toNat ≤ 35184372088832 then ((some (List.replicate (wrap64 ((y235.length : Int) - (t238.length : Int)) : Int).toNat 0 : List Int)).bind fun y241 => (jh.l0 kj2 t228 y235 t238 y241 (wrap64 ((y241.length : Int) - 1)))) else (none)) else (none)))) else (none))))) else (none)) else (none)) = some (r1, r2, r3) := by first | (rw [hji20] at H; exact H) | (simp only [hji20] at H ⊢; exact H)
   (try rw [hji20] at A15)
   have hji20w : (IntKind.i64.wrap ((l1.length : Int) - 1)) = ji20 := (jv _).trans hji20
   by_cases c21 : 0 ≤ (ji20)
   rotate_left
   ·
    rw [if_neg c21] at H
    exact absurd H (by simp)
   rw [if_pos c21] at H
   have c21b0 := decide_eq_true c21
   clear c21
   by_cases c22 : (ji20) < (l1.length : Int)
   rotate_left
   ·
    rw [if_neg c22] at H
    exact absurd H (by simp)
   rw [if_pos c22] at H
   have c22b0 := decide_eq_true c22
   clear c22
   obtain ⟨t228, A23, H⟩ := oc_ H
   try dsimp only at H
   obtain ⟨t229, A24, H⟩ := oc_ H
   try dsimp only at H
   obtain ⟨y232, hy232⟩ : ∃ y_ : List Int, y_ = (([0, 0] : List Int)) := ⟨_, rfl⟩
   replace H : (if t229.length + y232.length < 17592186044416 then ((some (t229 ++ y232 : List Int)).bind fun y235 => ((jE.f kj2 l1 t228).bind fun t238 => (if 0 ≤ (wrap64 ((y235.length : Int) - (t238.length : Int))) then (if (wrap64 ((y235.length : Int) - (t238.length : Int)) : Int).toNat ≤ 35184372088832 then ((some (List.replicate (wrap64 ((y235.length : Int) - (t238.length : Int)) : Int).toNat 0 : List Int)).bind fun y241 => (jh.l0 kj2 t228 y235 t238 y241 (wrap64 ((y241.length : Int) - 1)))) else (none)) else (none)))) else (none)) = some (r1, r2, r3) := by first | (rw [hy232]; with_reducible exact H) | (have H2_ := (Option.bind_some _ _).symm.trans H; rw [hy232]; with_reducible exact H2_) | (with_reducible exact hs_ H) | with_reducible exact H | (rw [hy232]; exact H) | exact H
   have Ny232 := jA.mk hy232
   clear hy232
   by_cases c25 : t229.length + y232.length < 17592186044416
   rotate_left
   ·
    rw [if_neg c25] at H
    exact absurd H (by simp)
   rw [if_pos c25] at H
   have LMc25 := jA.mk c25
   clear c25
   obtain ⟨y235, hy235⟩ : ∃ y_ : List Int, y_ = (t229 ++ y232) := ⟨_, rfl⟩
   replace H : ((jE.f kj2 l1 t228).bind fun t238 => (if 0 ≤ (wrap64 ((y235.length : Int) - (t238.length : Int))) then (if (wrap64 ((y235.length : Int) - (t238.length : Int)) : Int).toNat ≤ 35184372088832 then ((some (List.replicate (wrap64 ((y235.length : Int) - (t238.length : Int)) : Int).toNat 0 : List Int)).bind fun y241 => (jh.l0 kj2 t228 y235 t238 y241 (wrap64 ((y241.length : Int) - 1)))) else (none)) else (none))) = some (r1, r2, r3) := by first | (rw [hy235]; with_reducible exact H) | (have H2_ := (Option.bind_some _ _).symm.trans H; rw [hy235]; with_reducible exact H2_) | (with_reducible exact hs_ H) | with_reducible exact H | (rw [hy235]; exact H) | exact H
   have Ny235 := jA.mk hy235
   clear hy235
   obtain ⟨t238, A26, H⟩ := oc_ H
   try dsimp only at H
   obtain ⟨ji27, hji27⟩ : ∃ j_ : Int, (wrap64 ((y235.length : Int) - (t238.length : Int))) = j_ := ⟨_, rfl⟩
   replace H : (if 0 ≤ (ji27) then (if (ji27 : Int).toNat ≤ 35184372088832 then ((some (List.replicate (ji27 : Int).toNat 0 : List Int)).bind fun y241 => (jh.l0 kj2 t228 y235 t238 y241 (wrap64 ((y241.length : Int) - 1)))) else (none)) else (none)) = some (r1, r2, r3) := by first | (rw [hji27] at H; exact H) | (simp only [hji27] at H ⊢; exact H)
   (try rw [hji27] at A15)
   (try rw [hji27] at A23)
   (try rw [hji27] at A24)
   (try rw [hji27] at A26)
   have hji27w : (IntKind.i64.wrap ((y235.length : Int) - (t238.length : Int))) = ji27 := (jv _).trans hji27
   by_cases c28 : 0 ≤ (ji27)
   rotate_left
   ·
    rw [if_neg c28] at H
    exact absurd H (by simp)
   rw [if_pos c28] at H
   have c28b0 := eq_true c28
   have c28b1 := decide_eq_true c28
   clear c28
   by_cases c29 : (ji27 : Int).toNat ≤ 35184372088832
   rotate_left
   ·
    rw [if_neg c29] at H
    exact absurd H (by simp)
   rw [if_pos c29] at H
   have c29b0 := eq_true c29
   have c29b1 := decide_eq_true c29
   clear c29
   obtain ⟨y241, hy241⟩ : ∃ y_ : List Int, y_ = (List.replicate (ji27 : Int).toNat 0) := ⟨_, rfl⟩
   replace H : (jh.l0 kj2 t228 y235 t238 y241 (wrap64 ((y241.length : Int) - 1))) = some (r1, r2, r3) := by first | (rw [hy241]; with_reducible exact H) | (have H2_ := (Option.bind_some _ _).symm.trans H; rw [hy241]; with_reducible exact H2_) | (with_reducible exact hs_ H) | with_reducible exact H | (rw [hy241]; exact H) | exact H
   have Ny241 := jA.mk hy241
   clear hy241
   have H' := jA.mk H
   clear H
   go_wp2_with (first | ((with_reducible refine jG (f := 129) rfl ?_); refine gl_ (some 47) Tryz.func129 #[.slice A0 l0.length c0, .slice A1 l1.length c1] ?_; (with_reducible refine (vM.calls kj2 _ _ l0 _ _ l1 t223 _ ?side1 ?side2 ?side3 ?side4 A15.out).mono ?_); (case side1 => exact cb_ HR0 HB); (case side2 => exact HC0.out); (case side3 => exact cb_ HR1 HB); (case side4 => exact HC1.out); rintro e w30 ⟨rfl, hb⟩; refine ⟨_, rfl, ?_⟩; replace HB := bs_ HB hb; have p227 : 0 ≤ ((ji20) : Int) := of_decide_eq_true am_; have q227 : (ji20) < (l1.length : Int) := of_decide_eq_true am_; obtain ⟨ad227, e227, hx227_0⟩ := Kd.vP HR1.out (ji20) p227 q227; cases e227; replace hx227_0 := (HB.out.cell (World.block_lt_of_cell? w _ hx227_0)).trans hx227_0; replace p227 := eq_true p227; replace q227 := eq_true q227) | ((with_reducible refine jG (f := 139) rfl ?_); refine jLD (some 57) rfl rfl Tryz.func139 kr_ rfl #[.int .u64 (rd l1 (ji20))] rfl (by (try simp only [List.map_toArray, List.map_cons, List.map_nil]); first | done | (simp only [hji20]; rfl) | rfl | (simp only [List.length_drop, List.length_take]; rfl)) ?_; (with_reducible refine (bits_LeadingZeros64.calls (rd l1 (ji20)) t228 _ A23.out).mono ?_); rintro e w31 ⟨rfl, hb⟩; refine ⟨_, rfl, ?_⟩; replace HB := bs_ HB hb) | ((with_reducible refine jG (f := 140) rfl ?_); refine gl_ (some 60) Tryz.func140 #[.slice A0 l0.length c0, .int .i64 t228] ?_; (with_reducible refine (jE.calls kj2 _ _ l0 t228 t229 _ ?side1 ?side2 A24.out).mono ?_); (case side1 => exact cb_ HR0 HB); (case side2 => exact HC0.out); rintro e w32 ⟨v230, rfl, ho0, hb⟩; refine ⟨_, rfl, ?_⟩; have HO231 := jA.mk (Kd.jw ho0 (jD (bb_ HB))); replace HB := bs_ HB hb) | ((with_reducible refine ji (N := 61) rfl ?_); refine Kd.jFd (Kd.int .u64) _ 56 ?hg (N := 61) ?hd (xs := ([0, 0] : List Int)) (inner := [.int .u64 0, .int .u64 0]) (ok := fun _ => True) (okp := fun _ => True) ?hr ?hp (fun _ hk => hk) trivial (Below.refl _ _) (Nat.le_refl _) (by simp) ?_; (case hd => rfl); (case hg => rfl); (case hr => exact gs_); (case hp => exact (Reps.one (show Kd.M (Kd.int .u64) _ _ _ 0 [.int .u64 0] from rfl) (Reps.one (show Kd.M (Kd.int .u64) _ _ _ 0 [.int .u64 0] from rfl) (Reps.none _ _)))); intro v233 w33 ho34 hb hg_ hnew_; clear hg_ hnew_; (first | rw [← Ny232.out] at ho34 | (simp only [Int.reduceToNat] at ho34; rw [← Ny232.out] at ho34)); have HO234 := jA.mk (Kd.jw (Kd.zk ho34 (Kd.R_lt (rR_ HO231))) (jD (bb_ HB))); replace HO231 := re_ HO231 ho34 hb; replace HB := bs_ HB hb; clear hb ho34; obtain ⟨Ao36, co36, rfl⟩ := Kd.vI HO234.out) | ((with_reducible refine qI (b := .append) (xs := #[.tmp 60, .tmp 61]) rfl ?_); at_builtin; refine Kd.jBw (Kd.int .u64) (w0 := w) w.heap.size rfl (.tmp 60) (.tmp 61) 30 56 (.int .u64 0) 8 rfl Tryz.underlying30 jAE rfl (by decide) (by omega) v230 t229 y232 _ _ _ (fun k_ => some k_ ≠ (.slice Ao36 y232.length co36 : Value).ownBlock) (fun _ => False) rfl rfl ?aO ?aR (fun _ _ h => h) (fun _ h => h.elim) ?aF ?aB ?aS ?aL ?_; (case aR => exact cc_ (Kd.jT HO234.out).2.2); (case aB => exact (bb_ HB)); (case aF => exact (fun k_ hk => Kd.fresh' (Kd.R_lt (rR_ HO234)) k_ hk)); (case aO => exact (by refine pR_ ?_; exact Kd.vQ HO231.out (fun _ hk => hk.2))); (case aS => exact (jD (bb_ HB))); (case aL => have := LMc25.out; omega); intro v236 w35 ho hb hg hat; rw [← Ny235.out] at ho; replace HO234 := jA.mk (Kd.jJh (ok := (fun _ => True)) (rR_ HO234) hg hat); replace HB := jA.mk (hb); have HO237 := jA.mk (ho); clear HO231 ho hb hg hat) | ((with_reducible refine jG (f := 140) rfl ?_); refine gl_ (some 65) Tryz.func140 #[.slice (some ad227) l1.length c1, .int .i64 t228] ?_; (with_reducible refine (jE.calls kj2 _ _ l1 t228 t238 _ ?side1 ?side2 A26.out).mono ?_); (case side1 => exact cb_ HR1 HB); (case side2 => exact HC1.out); rintro e w37 ⟨v239, rfl, ho0, hb⟩; refine ⟨_, rfl, ?_⟩; have HO240 := jA.mk (Kd.jw (Kd.zk (Kd.zk ho0 (Kd.R_lt (rR_ HO234))) (Kd.R_lt (rR_ HO237))) (jD (bb_ HB))); replace HO234 := re_ HO234 ho0 hb; replace HO237 := re_ HO237 ho0 hb; replace HB := bs_ HB hb; obtain ⟨Ao38, co38, rfl⟩ := Kd.vI HO237.out; obtain ⟨Ao39, co39, rfl⟩ := Kd.vI HO240.out) | ((with_reducible refine ji (N := 71) rfl ?_); refine Kd.jHJ (Kd.int .u64) _ 56 rfl (N := 71) rfl 30 _ _ rfl ji27 rfl rfl Tryz.underlying30 (.int .u64 0) 8 jAE rfl (by decide) (by omega) 0 (ok := fun _ => True) (okp := fun _ => True) rfl (fun _ hk => hk) trivial (of_decide_eq_true am_) (Nat.le_trans (Nat.mul_le_mul_right _ (of_decide_eq_true am_ : ji27.toNat ≤ 35184372088832)) (by omega)) (Below.refl _ _) (Nat.le_refl _) ?_; intro v242 w40 ho41 hb hg_ hnew_; clear hg_ hnew_; (first | rw [← Ny241.out] at ho41 | (simp only [Int.reduceToNat] at ho41; rw [← Ny241.out] at ho41)); have HO243 := jA.mk (Kd.jw (Kd.zk (Kd.zk (Kd.zk ho41 (Kd.R_lt (rR_ HO234))) (Kd.R_lt (rR_ HO237))) (Kd.R_lt (rR_ HO240))) (jD (bb_ HB))); replace HO234 := re_ HO234 ho41 hb; replace HO237 := re_ HO237 ho41 hb; replace HO240 := re_ HO240 ho41 hb; replace HB := bs_ HB hb; clear hb ho41; obtain ⟨Ao42, co42, rfl⟩ := Kd.vI HO243.out))
   go_loopg [14] kj2 (fun kq v14 w' => ∃ (x11_2 x13_2 : List Int) (x14_2 : Int), v14 = .int .i64 x14_2 ∧ jA (jh.l0 kq t228 x11_2 t238 x13_2 x14_2 = some (r1, r2, r3)) ∧ jA (kq ≤ kj2) ∧ jA (Kd.R (Kd.int .u64) 56 w' w.heap.size (fun k_ => some k_ ≠ ((.slice Ao39 t238.length co39) : Value).ownBlock ∧ some k_ ≠ ((.slice Ao42 y241.length co42) : Value).ownBlock) (.slice Ao38 y235.length co38) x11_2) ∧ jA (Kd.R (Kd.int .u64) 56 w' w.heap.size (fun k_ => some k_ ≠ ((.slice Ao38 y235.length co38) : Value).ownBlock ∧ some k_ ≠ ((.slice Ao42 y241.length co42) : Value).ownBlock) (.slice Ao39 t238.length co39) t238) ∧ jA (Kd.R (Kd.int .u64) 56 w' w.heap.size (fun k_ => some k_ ≠ ((.slice Ao38 y235.length co38) : Value).ownBlock ∧ some k_ ≠ ((.slice Ao39 t238.length co39) : Value).ownBlock) (.slice Ao42 y241.length co42) x13_2) ∧ jA (Below w.heap.size w w'))
   case atStart => exact ⟨(y235), (y241), (wrap64 ((y241.length : Int) - 1)), sd_, H', ⟨Nat.le_refl _⟩, ⟨by (with_reducible repeat (first | apply Kd.zx | apply Kd.qh | apply Kd.qy)); exact Kd.vQ HO237.out (fun _ hk => ⟨hk.1.2, hk.2⟩)⟩, ⟨by (with_reducible repeat (first | apply Kd.zx | apply Kd.qh | apply Kd.qy)); exact Kd.vQ HO240.out (fun _ hk => ⟨hk.1.2, hk.2⟩)⟩, ⟨by (with_reducible repeat (first | apply Kd.zx | apply Kd.qh | apply Kd.qy)); exact Kd.vQ HO243.out (fun _ hk => ⟨hk.1.2, hk.2⟩)⟩, ⟨(bb_ HB)⟩⟩
   case round =>
    clear H'
    try clear c1
    try clear c2
    try clear p2
    try clear q2
    try clear hx2
    try clear qi2
    try clear c5
    try clear p6
    try clear c7
    try clear c8
    try clear c8b0
    try clear c8b1
    try clear c8b2
    try clear c9
    try clear c9b0
    try clear c9b1
    try clear c10
    try clear c10b0
    try clear c10b1
    try clear c12
    try clear c13
    try clear c14
    try clear c16
    try clear c16b0
    try clear c21
    try clear c21b0
    try clear p21
    try clear q21
    try clear hx21
    try clear qi21
    try clear c22
    try clear c22b0
    try clear p22
    try clear q22
    try clear hx22
    try clear c25
    try clear c28
    try clear c28b0
    try clear c28b1
    try clear c29
    try clear c29b0
    try clear c29b1
    try clear hx214_0
    try clear hx227_0
    try clear p2
    try clear p214
    try clear p227
    try clear q214
    try clear q227
    obtain ⟨x11_2, x13_2, x14_2, rfl, HA, HK2, HO_11, HO_12, HO_13, HB⟩ := hrel
    have hl11_2 := (Kd.jT HO_11.out).1
    rw [hl11_2] at HO_11
    (try simp only [hl11_2])
    (try simp only [hl11_2] at HO_12)
    (try simp only [hl11_2] at HO_13)
    have hl13_2 := (Kd.jT HO_13.out).1
    rw [hl13_2] at HO_13
    (try simp only [hl13_2])
    (try simp only [hl13_2] at HO_11)
    (try simp only [hl13_2] at HO_12)
    cases gk with
    | zero => exact absurd HA.out (by simp [jh.l0])
    | succ k2 =>
     have H := HA.out
     clear HA
     simp only [jh.l0] at H
     by_cases c43 : x14_2 ≥ 0
     rotate_left
     ·
      rw [if_neg c43] at H
      have c43b0 := decide_eq_false c43
      clear c43
      obtain ⟨t250, A55, H⟩ := oc_ H
      try dsimp only at H
      obtain ⟨t253, A56, H⟩ := oc_ H
      try dsimp only at H
      simp only [Option.some.injEq, Prod.mk.injEq] at H
      obtain ⟨rfl, rfl, rfl⟩ := H
      go_wp2_with (first | ((with_reducible refine jG (f := 127) rfl ?_); refine gl_ (some 96) Tryz.func127 #[.slice Ao42 x13_2.length co42] ?_; (with_reducible refine (vW.calls k2 _ _ x13_2 t250 _ ?side1 ?side2 A55.out).mono ?_); (case side1 => exact cc_ (Kd.jT HO_13.out).2.2); (case side2 => exact (Kd.jT HO_13.out).2.1); rintro e w57 ⟨v251, rfl, ho0, hb⟩; refine ⟨_, rfl, ?_⟩; have HO252 := jA.mk (Kd.jw (Kd.zk (Kd.zk (Kd.zk ho0 (Kd.R_lt (rR_ HO_11))) (Kd.R_lt (rR_ HO_12))) (Kd.R_lt (rR_ HO_13))) (jD (bb_ HB))); replace HO_11 := re_ HO_11 ho0 hb; replace HO_12 := re_ HO_12 ho0 hb; replace HO_13 := re_ HO_13 ho0 hb; replace HB := bs_ HB hb) | ((with_reducible refine jG (f := 140) rfl ?_); refine gl_ (some 100) Tryz.func140 #[.slice Ao38 x11_2.length co38, .int .i64 (wrap64 (-t228))] ?_; (with_reducible refine (jE.calls k2 _ _ x11_2 (wrap64 (-t228)) t253 _ ?side1 ?side2 A56.out).mono ?_); (case side1 => exact cc_ (Kd.jT HO_11.out).2.2); (case side2 => exact (Kd.jT HO_11.out).2.1); rintro e w58 ⟨v254, rfl, ho0, hb⟩; refine ⟨_, rfl, ?_⟩; have HO255 := jA.mk (Kd.jw (Kd.zk (Kd.zk (Kd.zk (Kd.zk ho0 (Kd.R_lt (rR_ HO_11))) (Kd.R_lt (rR_ HO_12))) (Kd.R_lt (rR_ HO_13))) (Kd.R_lt (rR_ HO252))) (jD (bb_ HB))); replace HO_11 := re_ HO_11 ho0 hb; replace HO_12 := re_ HO_12 ho0 hb; replace HO_13 := re_ HO_13 ho0 hb; replace HO252 := re_ HO252 ho0 hb; replace HB := bs_ HB hb))
      go_ret3
      exact ⟨_, _, by first | rfl | (simp [vD, vC] <;> rfl) | (simp only [← hji20, ← hji27]; first | rfl | (simp [vD, vC] <;> rfl)) | (simp [*, vD, vC] <;> rfl), by refine pR_ ?_; exact Kd.vQ HO252.out (fun _ hk => hk.2), by refine pR_ ?_; exact Kd.vQ HO255.out (fun _ hk => hk.2), (bb_ HB)⟩
     rw [if_pos c43] at H
     have c43b0 := decide_eq_true c43
     clear c43
     obtain ⟨ji44, hji44⟩ : ∃ j_ : Int, (mn (wrap64 ((wrap64 (x14_2 + (t238.length : Int))) + 1)) (x11_2.length : Int)) = j_ := ⟨_, rfl⟩
     replace H : (if 0 ≤ x14_2 then (if x14_2 ≤ (ji44) then (if (ji44) ≤ (x11_2.length : Int) then ((jS.f k2 ((x11_2.take ((ji44) : Int).toNat).drop (x14_2 : Int).toNat) t238).bind fun t248 => (if x14_2 < (x13_2.length : Int) then (jh.l0 k2 t228 (Go.splice x11_2 (x14_2 : Int).toNat t248.2) t238 (x13_2.set (x14_2 : Int).toNat t248.1) (wrap64 (x14_2 - 1))) else (none))) else (none)) else (none)) else (none)) = some (r1, r2, r3) := by first | (rw [hji44] at H; exact H) | (simp only [hji44] at H ⊢; exact H)
     have hji44_ : (if (x11_2.length : Int) < (wrap64 ((wrap64 (x14_2 + (t238.length : Int))) + 1)) then (x11_2.length : Int) else (wrap64 ((wrap64 (x14_2 + (t238.length : Int))) + 1))) = ji44 := hji44
     by_cases c45 : 0 ≤ x14_2
     rotate_left
     ·
      rw [if_neg c45] at H
      exact absurd H (by simp)
     rw [if_pos c45] at H
     have c45b0 := eq_true c45
     have c45b1 := decide_eq_true c45
     clear c45
     by_cases c46 : x14_2 ≤ (ji44)
     rotate_left
     ·
      rw [if_neg c46] at H
      exact absurd H (by simp)
     rw [if_pos c46] at H
     have c46b0 := eq_true c46
     have c46b1 := decide_eq_true c46
     clear c46
     by_cases c47 : (ji44) ≤ (x11_2.length : Int)
     rotate_left
     ·
      rw [if_neg c47] at H
      exact absurd H (by simp)
     rw [if_pos c47] at H
     have c47b0 := eq_true c47
     have c47b1 := decide_eq_true c47
     clear c47
     obtain ⟨y244, hy244⟩ : ∃ y_ : List Int, y_ = ((x11_2.take ((ji44) : Int).toNat).drop (x14_2 : Int).toNat) := ⟨_, rfl⟩
     replace H : ((jS.f k2 y244 t238).bind fun t248 => (if x14_2 < (x13_2.length : Int) then (jh.l0 k2 t228 (Go.splice x11_2 (x14_2 : Int).toNat t248.2) t238 (x13_2.set (x14_2 : Int).toNat t248.1) (wrap64 (x14_2 - 1))) else (none))) = some (r1, r2, r3) := by first | (rw [hy244]; with_reducible exact H) | (have H2_ := (Option.bind_some _ _).symm.trans H; rw [hy244]; with_reducible exact H2_) | (with_reducible exact hs_ H) | with_reducible exact H | (rw [hy244]; exact H) | exact H
     have Ny244 := jA.mk hy244
     clear hy244
     obtain ⟨t248, A48, H⟩ := oc_ H
     try dsimp only at H
     by_cases c49 : x14_2 < (x13_2.length : Int)
     rotate_left
     ·
      rw [if_neg c49] at H
      exact absurd H (by simp)
     rw [if_pos c49] at H
     have c49b0 := decide_eq_true c49
     (try simp only [hl13_2] at c49b0)
     clear c49
     obtain ⟨y249, hy249⟩ : ∃ y_ : List Int, y_ = (x13_2.set (x14_2 : Int).toNat t248.1) := ⟨_, rfl⟩
     replace H : (jh.l0 k2 t228 (Go.splice x11_2 (x14_2 : Int).toNat t248.2) t238 y249 (wrap64 (x14_2 - 1))) = some (r1, r2, r3) := by first | (rw [hy249]; with_reducible exact H) | (have H2_ := (Option.bind_some _ _).symm.trans H; rw [hy249]; with_reducible exact H2_) | (with_reducible exact hs_ H) | with_reducible exact H | (rw [hy249]; exact H) | exact H
     have Ny249 := jA.mk hy249
     clear hy249
     have H' := jA.mk H
     clear H
     have q51 : ((ji44) : Int) ≤ ((x11_2.length : Int) : Int) := of_decide_eq_true am_
     obtain ⟨i051, hi051, _, hsz51, _⟩ := info_parts jAE
     have hroom51 : x11_2.length ≤ co38 := (Kd.jT HO_11.out).2.1
     have hC51 : Kd.C (Kd.int .u64) _ Ao38 x11_2.length x11_2 := (Kd.jT HO_11.out).2.2
     have ql51 : (x14_2 : Int) ≤ ((ji44) : Int) := of_decide_eq_true am_
     have q051 : (0 : Int) ≤ (x14_2 : Int) := of_decide_eq_true am_
     have hcut51 := jMD (P := Tryz.prog) 30 56 .i64 .i64 Tryz.underlying30 hi051 1 hsz51 Ao38 x11_2.length co38 x14_2 (ji44) q051 ql51 q51 hroom51
     have hr51 := Kd.jOb (lo := (x14_2 : Int).toNat) (hi := ((ji44) : Int).toNat) (c := co38) hC51 (by omega) (by omega) hroom51
     obtain ⟨A51, hA51⟩ : ∃ A1, A1 = (if co38 = (x14_2 : Int).toNat then Ao38 else (Ao38 : Option Addr).map (·.add ((x14_2 : Int).toNat * 1))) := ⟨_, rfl⟩
     obtain ⟨c51, hc51⟩ : ∃ c1, c1 = co38 - (x14_2 : Int).toNat := ⟨_, rfl⟩
     have hy51 : y244.length = ((ji44) : Int).toNat - (x14_2 : Int).toNat := (by rw [Ny244.out, List.length_drop, List.length_take] <;> omega)
     rw [show ((x11_2).take ((ji44) : Int).toNat).drop (x14_2 : Int).toNat = y244 from Ny244.out.symm] at hr51
     replace hr51 : Kd.C (Kd.int .u64) _ A51 y244.length y244 := (by rw [hA51]; exact hr51)
     rw [← hy51, ← hA51, ← hc51] at hcut51
     have HR247 := jA.mk hr51
     have HC247 := jA.mk (show y244.length ≤ c51 from by rw [hy51, hc51]; exact Nat.sub_le_sub_right (Nat.le_trans (by omega) hroom51) _)
     clear hr51 hC51 hroom51 hi051 hsz51 hc51
     have KY51 := jA.mk hy51
     have KA51 := jA.mk hA51
     clear hy51 hA51
     have KL51 := jA.mk (show ((ji44) : Int).toNat ≤ x11_2.length from by omega)
     have KM51 := jA.mk (show (x14_2 : Int).toNat ≤ ((ji44) : Int).toNat from by omega)
     replace q51 := eq_true q51
     obtain ⟨d_, u1_⟩ := t248
     have hdl := jS.len A48.out
     have hdu := jS.len2 A48.out
     have hx11 : 0 < x11_2.length := by have := KL51.out; have := KM51.out; have := KY51.out; omega
     obtain ⟨ga, ca, ea, hga0, hga1, -⟩ := Kd.jAU HO_11.out hx11
     injection ea with ea_ en_ ec_
     subst ea_
     clear en_
     subst ec_
     obtain ⟨cur, hcur, hcl, hspl⟩ := jJd (i := (x14_2 : Int).toNat) HO_11.out
     have hA_ : A51 = some ⟨ga, (x14_2 : Int).toNat, none⟩ := by rw [KA51.out, if_neg (by have := KL51.out; have := KM51.out; have := KY51.out; have := (Kd.jT HO_11.out).2.1; omega), Option.map_some, Nat.mul_one, add_plain]
     have hq13 : x14_2 < (x13_2.length : Int) := of_decide_eq_true am_
     have hp13 : 0 ≤ x14_2 := of_decide_eq_true am_
     obtain ⟨go_, co_, eo_, hgo0, hgo1, -⟩ := Kd.jAU HO_13.out (by omega)
     injection eo_ with ea_ en_ ec_
     subst ea_
     clear en_
     subst ec_
     have hRW := HR247.out
     rw [hA_] at hRW
     have HFX := jA.mk (show (x14_2 : Int).toNat + y244.length ≤ x11_2.length ∧ (x14_2 : Int).toNat + y244.length ≤ cur.length from by have := KL51.out; have := KM51.out; have := KY51.out; omega)
     have HCUR := jA.mk hcur
     have HSPL := jA.mk hspl
     have HRW := jA.mk hRW
     have HDU := jA.mk hdu
     have HGA := jA.mk (And.intro hga0 hgo0)
     subst hA_
     clear hcur hcl hspl hRW hdu hdl hx11 hga0 hga1 hgo0 hgo1 HR247
     replace hq13 := eq_true hq13
     replace hp13 := eq_true hp13
     go_wp2_with fail
     refine (jS.calls k2 ga (x14_2 : Int).toNat _ _ _ y244 t238 u1_ d_ cur _ HRW.out HC247.out HCUR.out HFX.out.2 (Kd.jT HO_12.out).2.2 (Kd.jT HO_12.out).2.1 A48.out).mono ?_
     rintro e w52 ⟨rfl, hg, hc⟩
     have n0_ := jA.mk (HSPL.out w52 u1_ (by rw [HDU.out]; exact HFX.out.1) hc)
     have n1_ := jA.mk (Kd.jJf HO_12.out hg (fun k_ hk_ => hk_.1))
     have n2_ := jA.mk (Kd.jJf HO_13.out hg (fun k_ hk_ => hk_.1))
     have n3_ := jA.mk (jFw HB.out hg HGA.out.1)
     clear HO_11 HO_12 HO_13 HB hg hc
     have HO_11 := n0_
     have HO_12 := n1_
     have HO_13 := n2_
     have HB := n3_
     clear n0_ n1_ n2_ n3_
     obtain ⟨hx50_0, hf50_0⟩ := Kd.qF 0 HO_13.out (x14_2 : Int) (of_decide_eq_true am_) (of_decide_eq_true am_)
     have HP := Kd.jBv HO_13.out (x14_2 : Int) d_
     have HP_ := jA.mk HP.1
     clear HP
     go_wp2
     (try simp only [← hl13_2])
     (try simp only [← hl11_2])
     go_roundg k2
     case measure => have := HJ2.out; have := HK2.out; omega
     case rel =>
      refine ⟨_, _, _, rfl, H', ⟨by have := HJ2.out; have := HK2.out; omega⟩, ⟨?_⟩, ⟨?_⟩, ⟨?_⟩, ⟨vO HB.out HGA.out.2⟩⟩
      ·
       (try simp only [hl13_2, hl11_2]); exact Kd.jJg HO_11.out (fun k_ hk_ e_ => hk_.2 (by rw [e_]; rfl)) _
      ·
       (try simp only [hl13_2, hl11_2]); exact Kd.jJg HO_12.out (fun k_ hk_ e_ => hk_.2 (by rw [e_]; rfl)) _
      (try simp only [hl13_2, hl11_2]); rw [Ny249.out]; exact HP_.out
mutual
def jr.j0 : Nat → List Int → List Int → Bool → Option (List Int × Int)
 | 0, _, _, _ => none
 | k + 1, x0, x1, x16 => if x16 = true then (some (([] : List Int), 1)) else ((vW.f k x0).bind fun t258 => ((vW.f k x1).bind fun t261 => (jr.l0 k t258 t261)))
def jr.l0 : Nat → List Int → List Int → Option (List Int × Int)
 | 0, _, _ => none
 | k + 1, x0, x1 => if (x1.length : Int) > 0 then ((jh.f k x0 x1).bind fun bt264 => (jr.l0 k x1 bt264.2.1)) else (some (x0, 0))
end
def jr.f (k : Nat) (l0 : List Int) (l1 : List Int) : Option (List Int × Int) := (vS.f l0).bind fun t256 => (if t256 = true then ((vS.f l1).bind fun t257 => (jr.j0 k l0 l1 (!t257))) else (jr.j0 k l0 l1 true))
theorem jr.calls (k : Nat) (A0 : Option Addr) (c0 : Nat) (l0 : List Int) (A1 : Option Addr) (c1 : Nat) (l1 : List Int) (r1 : List Int) (r2 : Int) (w : World) (hr0 : Kd.C (Kd.int .u64) w A0 l0.length l0) (hc0 : l0.length ≤ c0) (hr1 : Kd.C (Kd.int .u64) w A1 l1.length l1) (hc1 : l1.length ≤ c1) (h : jr.f k l0 l1 = some (r1, r2)) :
  Calls Tryz.prog 103 #[.slice A0 l0.length c0, .slice A1 l1.length c1] w fun e w' => ∃ v0_ : Value, e = .returned (.tuple #[v0_, .int .i64 r2]) ∧ Kd.R (Kd.int .u64) 56 w' w.heap.size (fun _ => True) v0_ r1 ∧ Below w.heap.size w w' := by
 have HR0 := jA.mk hr0
 have HC0 := jA.mk hc0
 clear hr0 hc0
 have HR1 := jA.mk hr1
 have HC1 := jA.mk hc1
 clear hr1 hc1
 have HB := jA.mk (Below.refl w.heap.size w)
 have H : ((vS.f l0).bind fun t256 => (if t256 = true then ((vS.f l1).bind fun t257 => (jr.j0 k l0 l1 (!t257))) else (jr.j0 k l0 l1 true))) = some (r1, r2) := h
 clear h
 have HC3 := jA.mk H
 clear H
 go_enter Tryz.func103, Tryz.ntmps103
 go_upto_region 1 with (fail)
 go_cut [16] (fun v16 wc => ∃ (kq : Nat) (x16_2 : Bool), v16 = .bool x16_2 ∧ jA (jr.j0 kq l0 l1 x16_2 = some (r1, r2)) ∧ jA (kq ≤ k) ∧ jA (Below w.heap.size w wc))
 case first =>
  have H := HC3.out
  clear HC3
  obtain ⟨t256, A4, H⟩ := oc_ H
  try dsimp only at H
  by_cases c5 : t256 = true
  ·
   subst c5
   replace H := ip_ H
   obtain ⟨t257, A6, H⟩ := oc_ H
   try dsimp only at H
   have H' := jA.mk H
   clear H
   go_wp2_with (first | ((with_reducible refine jG (f := 109) rfl ?_); refine gl_ (some 10) Tryz.func109 #[.slice A0 l0.length c0] ?_; (with_reducible refine (vS.calls _ _ l0 true _ ?side1 ?side2 A4.out).mono ?_); (case side1 => exact cb_ HR0 HB); (case side2 => exact HC0.out); rintro e w' ⟨rfl, ⟨nd, rfl⟩⟩; refine ⟨_, rfl, ?_⟩) | ((with_reducible refine ji (N := 14) rfl ?_); refine jf (by first | rfl | kernel_rfl) ?_; dsimp only; (with_reducible refine jG (f := 109) rfl ?_); refine gl_ (some 14) Tryz.func109 #[.slice A1 l1.length c1] ?_; (with_reducible refine (vS.calls _ _ l1 t257 _ ?side1 ?side2 A6.out).mono ?_); (case side1 => repeat (first | exact (Kd.vG HR1.out (bb_ HB)) | (with_reducible refine Kd.qj ?_ _) | (with_reducible refine Kd.jAo ?_ _) | (with_reducible refine Kd.jCP ?_))); (case side2 => exact HC1.out); rintro e w' ⟨rfl, ⟨nd, rfl⟩⟩; refine ⟨_, rfl, ?_⟩))
   go_meet
   case rel => exact ⟨_, (!t257), sd_, H', ⟨by first | omega | exact Nat.le_refl _⟩, ⟨(bb_ HB)⟩⟩
  replace c5 := Bool.eq_false_iff.mpr c5
  subst c5
  replace H := in_ H
  have H' := jA.mk H
  clear H
  go_wp2_with (first | ((with_reducible refine jG (f := 109) rfl ?_); refine gl_ (some 10) Tryz.func109 #[.slice A0 l0.length c0] ?_; (with_reducible refine (vS.calls _ _ l0 false _ ?side1 ?side2 A4.out).mono ?_); (case side1 => exact cb_ HR0 HB); (case side2 => exact HC0.out); rintro e w' ⟨rfl, ⟨nd, rfl⟩⟩; refine ⟨_, rfl, ?_⟩))
  go_meet
  case rel => exact ⟨_, (true), sd_, H', ⟨by first | omega | exact Nat.le_refl _⟩, ⟨(bb_ HB)⟩⟩
 case rest =>
  clear HC3
  try clear c1
  try clear p2
  try clear c5
  obtain ⟨kq, x16_2, rfl, HA, HJ2, HB⟩ := hcut
  cases kq with
  | zero => exact absurd HA.out (by simp [jr.j0])
  | succ kj2 =>
   have H := HA.out
   clear HA
   simp only [jr.j0] at H
   by_cases c7 : x16_2 = true
   ·
    subst c7
    replace H := ip_ H
    simp only [Option.some.injEq, Prod.mk.injEq] at H
    obtain ⟨rfl, rfl⟩ := H
    go_wp2
    go_ret2
    exact ⟨_, ew_, nl_, (bb_ HB)⟩
   replace c7 := Bool.eq_false_iff.mpr c7
   subst c7
   replace H := in_ H
   obtain ⟨t258, A8, H⟩ := oc_ H
   try dsimp only at H
   obtain ⟨t261, A9, H⟩ := oc_ H
   try dsimp only at H
   have H' := jA.mk H
   clear H
   go_wp2_with (first | ((with_reducible refine jG (f := 127) rfl ?_); refine gl_ (some 18) Tryz.func127 #[.slice A0 l0.length c0] ?_; (with_reducible refine (vW.calls kj2 _ _ l0 t258 _ ?side1 ?side2 A8.out).mono ?_); (case side1 => exact cb_ HR0 HB); (case side2 => exact HC0.out); rintro e w10 ⟨v259, rfl, ho0, hb⟩; refine ⟨_, rfl, ?_⟩; have HO260 := jA.mk (Kd.jw ho0 (jD (bb_ HB))); replace HB := bs_ HB hb) | ((with_reducible refine jG (f := 127) rfl ?_); refine gl_ (some 20) Tryz.func127 #[.slice A1 l1.length c1] ?_; (with_reducible refine (vW.calls kj2 _ _ l1 t261 _ ?side1 ?side2 A9.out).mono ?_); (case side1 => exact cb_ HR1 HB); (case side2 => exact HC1.out); rintro e w11 ⟨v262, rfl, ho0, hb⟩; refine ⟨_, rfl, ?_⟩; have HO263 := jA.mk (Kd.jw (Kd.zk ho0 (Kd.R_lt (rR_ HO260))) (jD (bb_ HB))); replace HO260 := re_ HO260 ho0 hb; replace HB := bs_ HB hb))
   go_loopg [0, 1] kj2 (fun kq v0 v1 w' => ∃ (x0_2 : List Int) (x1_2 : List Int), jA (jr.l0 kq x0_2 x1_2 = some (r1, r2)) ∧ jA (kq ≤ kj2) ∧ jA (Kd.R (Kd.int .u64) 56 w' w.heap.size (fun k_ => some k_ ≠ (v1 : Value).ownBlock) v0 x0_2) ∧ jA (Kd.R (Kd.int .u64) 56 w' w.heap.size (fun k_ => some k_ ≠ (v0 : Value).ownBlock) v1 x1_2) ∧ jA (Below w.heap.size w w'))
   case atStart => exact ⟨(t258), (t261), H', ⟨Nat.le_refl _⟩, ⟨by (with_reducible repeat (first | apply Kd.zx | apply Kd.qh | apply Kd.qy)); exact Kd.vQ HO260.out (fun _ hk => hk.2)⟩, ⟨by (with_reducible repeat (first | apply Kd.zx | apply Kd.qh | apply Kd.qy)); exact Kd.vQ HO263.out (fun _ hk => hk.2)⟩, ⟨(bb_ HB)⟩⟩
   case round =>
    clear H'
    try clear c1
    try clear p2
    try clear c5
    try clear c7
    try clear c10
    try clear p2
    obtain ⟨x0_2, x1_2, HA, HK2, HO_0, HO_1, HB⟩ := hrel
    cases gk with
    | zero => exact absurd HA.out (by simp [jr.l0])
    | succ k2 =>
     have H := HA.out
     clear HA
     simp only [jr.l0] at H
     by_cases c12 : (x1_2.length : Int) > 0
     rotate_left
     ·
      rw [if_neg c12] at H
      have c12b0 := decide_eq_false c12
      have c12b1 : decide (0 < x1_2.length) = false := decide_eq_false (by omega)
      clear c12
      simp only [Option.some.injEq, Prod.mk.injEq] at H
      obtain ⟨rfl, rfl⟩ := H
      obtain ⟨Ao17, co17, eo17⟩ := Kd.vI HO_1.out
      subst eo17
      go_wp2
      go_ret2
      exact ⟨_, ew_, by refine pR_ ?_; exact Kd.vQ HO_0.out (fun _ hk => trivial), (bb_ HB)⟩
     rw [if_pos c12] at H
     have c12b0 := decide_eq_true c12
     have c12b1 : decide (0 < x1_2.length) = true := decide_eq_true (by omega)
     clear c12
     replace H := ob_ H
     obtain ⟨⟨t264, t265, t266⟩, A130, H⟩ := H
     try dsimp only at H
     have A13 := jA.mk A130
     clear A130
     have H' := jA.mk H
     clear H
     obtain ⟨Ao14, co14, eo14⟩ := Kd.vI HO_1.out
     subst eo14
     obtain ⟨Ao15, co15, eo15⟩ := Kd.vI HO_0.out
     subst eo15
     go_wp2_with (first | ((with_reducible refine jG (f := 128) rfl ?_); refine gl_ (some 27) Tryz.func128 #[.slice Ao15 x0_2.length co15, .slice Ao14 x1_2.length co14] ?_; (with_reducible refine (jh.calls k2 _ _ x0_2 _ _ x1_2 t264 t265 t266 _ ?side1 ?side2 ?side3 ?side4 A13.out).mono ?_); (case side1 => exact cc_ (Kd.jT HO_0.out).2.2); (case side2 => exact (Kd.jT HO_0.out).2.1); (case side3 => exact cc_ (Kd.jT HO_1.out).2.2); (case side4 => exact (Kd.jT HO_1.out).2.1); rintro e w16 ⟨v267, v269, rfl, ho0, ho1, hb⟩; refine ⟨_, rfl, ?_⟩; have HO268 := jA.mk (Kd.jw (Kd.zk (Kd.zk ho0 (Kd.R_lt (rR_ HO_0))) (Kd.R_lt (rR_ HO_1))) (jD (bb_ HB))); have HO270 := jA.mk (Kd.jw (Kd.zk (Kd.zk ho1 (Kd.R_lt (rR_ HO_0))) (Kd.R_lt (rR_ HO_1))) (jD (bb_ HB))); replace HO_0 := jA.mk (Kd.vQ (Kd.jHH (Kd.jHH (Kd.jNs (rR_ HO_0) hb) (Kd.qJ ho0)) (Kd.qJ ho1)) (fun _ h_ => h_.1)); replace HO_1 := jA.mk (Kd.vQ (Kd.jHH (Kd.jHH (Kd.jNs (rR_ HO_1) hb) (Kd.qJ ho0)) (Kd.qJ ho1)) (fun _ h_ => h_.1)); replace HB := bs_ HB hb))
     go_roundg k2
     case measure => have := HJ2.out; have := HK2.out; omega
     case rel => exact ⟨(x1_2), (t265), H', ⟨by have := HJ2.out; have := HK2.out; omega⟩, ⟨by (with_reducible repeat (first | apply Kd.zx | apply Kd.qh | apply Kd.qy)); exact Kd.vQ HO_1.out (fun _ hk => hk.2)⟩, ⟨by (with_reducible repeat (first | apply Kd.zx | apply Kd.qh | apply Kd.qy)); exact Kd.vQ HO270.out (fun _ hk => hk.2)⟩, ⟨(bb_ HB)⟩⟩
def jAg.f (k : Nat) (l0 : List Int) (l1 : List Int) : Option (Int) := (vM.f k l0 l1).bind fun t271 => (some t271)
theorem jAg.calls (k : Nat) (A0 : Option Addr) (c0 : Nat) (l0 : List Int) (A1 : Option Addr) (c1 : Nat) (l1 : List Int) (r : Int) (w : World) (hr0 : Kd.C (Kd.int .u64) w A0 l0.length l0) (hc0 : l0.length ≤ c0) (hr1 : Kd.C (Kd.int .u64) w A1 l1.length l1) (hc1 : l1.length ≤ c1) (h : jAg.f k l0 l1 = some r) :
  Calls Tryz.prog 104 #[.slice A0 l0.length c0, .slice A1 l1.length c1] w fun e w' => e = .returned (.int .i64 r) ∧ Below w.heap.size w w' := by
 have HR0 := jA.mk hr0
 have HC0 := jA.mk hc0
 clear hr0 hc0
 have HR1 := jA.mk hr1
 have HC1 := jA.mk hc1
 clear hr1 hc1
 have HB := jA.mk (Below.refl w.heap.size w)
 have H : ((vM.f k l0 l1).bind fun t271 => (some t271)) = some r := h
 clear h
 replace H := ob_ H
 obtain ⟨t271, A30, H⟩ := H
 replace H : (some t271) = some r := H
 have A3 := jA.mk A30
 clear A30
 obtain rfl := Option.some.inj H
 go_enter Tryz.func104, Tryz.ntmps104
 go_wp2_with (first | ((with_reducible refine jG (f := 129) rfl ?_); refine gl_ (some 7) Tryz.func129 #[.slice A0 l0.length c0, .slice A1 l1.length c1] ?_; (with_reducible refine (vM.calls k _ _ l0 _ _ l1 t271 _ ?side1 ?side2 ?side3 ?side4 A3.out).mono ?_); (case side1 => exact cc_ HR0.out); (case side2 => exact HC0.out); (case side3 => exact cc_ HR1.out); (case side4 => exact HC1.out); rintro e w4 ⟨rfl, hb⟩; refine ⟨_, rfl, ?_⟩; replace HB := bs_ HB hb))
 go_ret
 exact ⟨ew_, (bb_ HB)⟩
end Go.Proofs.YtoganbmeedimiaaGreat.POPressSizes
