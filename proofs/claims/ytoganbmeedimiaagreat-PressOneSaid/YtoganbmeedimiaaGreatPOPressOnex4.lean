-- printed (pr.py)
import Derived.Test.YtoganbmeedimiaaGreatPOPressOnex2
namespace Go.Proofs.YtoganbmeedimiaaGreat.POPressOne
open Go.RowKit Go.Proofs.YtoganbmeedimiaaGreatN Go.Proofs.YtoganbmeedimiaaGreatW.PrintWords Go.Proofs.YtoganbmeedimiaaGreatW.PrintLast Go.Proofs.YtoganbmeedimiaaGreatW.PrintMore
attribute [local go_sem] zV zR qA zy vZ vY zU zQ
set_option maxHeartbeats 8000000
set_option maxRecDepth 100000
set_option linter.unusedVariables false
set_option linter.unusedSimpArgs false
mutual
def jD.j0 : Nat → List Int → Int → Bool → Option (List Int)
 | 0, _, _, _ => none
 | k + 1, x0, x1, x27 => if x27 = true then (some ([] : List Int)) else (if 0 ≤ (wrap64 (Int.tdiv x1 64)) then (if (wrap64 (Int.tdiv x1 64)) ≤ (x0.length : Int) then ((jT.f (x0.drop ((wrap64 (Int.tdiv x1 64)) : Int).toNat)).bind fun t158 => (jD.l0 k t158 (Int.tmod x1 64) (t158.length : Int) 0)) else (none)) else (none))
def jD.l0 : Nat → List Int → Int → Int → Int → Option (List Int)
 | 0, _, _, _, _ => none
 | k + 1, x5, x6, x36, x37 => if x37 < x36 then (if 0 ≤ x37 then (if x37 < (x5.length : Int) then (if 0 ≤ x6 then ((some (x5.set (x37 : Int).toNat (shr .u64 (rd x5 x37) x6) : List Int)).bind fun y162 => (if (wrap64 (x37 + 1)) < (x5.length : Int) then (if x6 > 0 then (if 0 ≤ (wrap64 (x37 + 1)) then (if 0 ≤ (wrap64 (64 - x6)) then (jD.l0 k (y162.set (x37 : Int).toNat (Go.bits .or .u64 (rd y162 x37) (shl .u64 (rd y162 (wrap64 (x37 + 1))) (wrap64 (64 - x6))))) x6 x36 (wrap64 (x37 + 1))) else (none)) else (none)) else (jD.l0 k y162 x6 x36 (wrap64 (x37 + 1)))) else (jD.l0 k y162 x6 x36 (wrap64 (x37 + 1))))) else (none)) else (none)) else (none)) else ((jJ.f k x5).bind fun t166 => (some t166))
def jD.l1 : Nat → Int → List Int → Int → List Int → Int → Int → Option (List Int)
 | 0, _, _, _, _, _, _ => none
 | k + 1, x1, x8, x9, x84, x85, x86 => if x86 < x85 then (if 0 ≤ x86 then (if x86 < (x84.length : Int) then (if 0 ≤ (Int.tmod x1 64) then (if x8.length < 17592186044416 then (if 0 ≤ (wrap64 (63 - (Int.tmod x1 64))) then (jD.l1 k x1 (x8 ++ [Go.bits .or .u64 (shl .u64 (rd x84 x86) (Int.tmod x1 64)) x9]) ((shr .u64 (rd x84 x86) (wrap64 (63 - (Int.tmod x1 64)))) / 2) x84 x85 (wrap64 (x86 + 1))) else (none)) else (none)) else (none)) else (none)) else (none)) else (if x8.length < 17592186044416 then ((jJ.f k (x8 ++ [x9])).bind fun t179 => ((jT.f t179).bind fun t182 => (some t182))) else (none))
end
def jD.f (k : Nat) (l0 : List Int) (a1 : Int) : Option (List Int) := (jJ.f k l0).bind fun t150 => (if a1 < 0 then (if (wrap64 (-(mx a1 (-100001)))) > 100000 then (jD.j0 k t150 (wrap64 (-(mx a1 (-100001)))) true) else (jD.j0 k t150 (wrap64 (-(mx a1 (-100001)))) (decide ((wrap64 (Int.tdiv (wrap64 (-(mx a1 (-100001)))) 64)) ≥ (t150.length : Int))))) else (if 0 ≤ (wrap64 (Int.tdiv (mn a1 1000) 64)) then (if (wrap64 (Int.tdiv (mn a1 1000) 64)) ≤ (wrap64 ((wrap64 ((wrap64 (Int.tdiv (mn a1 1000) 64)) + (t150.length : Int))) + 1)) then (if (wrap64 ((wrap64 ((wrap64 (Int.tdiv (mn a1 1000) 64)) + (t150.length : Int))) + 1) : Int).toNat ≤ 35184372088832 then (jD.l1 k (mn a1 1000) (List.replicate (wrap64 (Int.tdiv (mn a1 1000) 64) : Int).toNat 0) 0 t150 (t150.length : Int) 0) else (none)) else (none)) else (none)))
theorem jD.zY : ∀ k, (∀ y0 y1 y2, LeO (jD.j0 k y0 y1 y2) (jD.j0 (k + 1) y0 y1 y2)) ∧ (∀ y0 y1 y2 y3, LeO (jD.l0 k y0 y1 y2 y3) (jD.l0 (k + 1) y0 y1 y2 y3)) ∧ (∀ y0 y1 y2 y3 y4 y5, LeO (jD.l1 k y0 y1 y2 y3 y4 y5) (jD.l1 (k + 1) y0 y1 y2 y3 y4 y5))
 | 0 => ⟨fun _ _ _ r h => by simp [jD.j0] at h, fun _ _ _ _ r h => by simp [jD.l0] at h, fun _ _ _ _ _ _ r h => by simp [jD.l1] at h⟩
 | k + 1 => by
  obtain ⟨ih0, ih1, ih2⟩ := jD.zY k
  refine ⟨?_, ?_, ?_⟩ <;> (intros; first | unfold jD.j0 | unfold jD.l0 | unfold jD.l1) <;> repeat' first
   | (with_reducible exact ih0 _ _ _)
   | (with_reducible exact ih1 _ _ _ _)
   | (with_reducible exact ih2 _ _ _ _ _ _)
   | (with_reducible exact jJ.mono _ _)
   | (with_reducible exact LeO.refl _)
   | (with_reducible exact LeO.none _)
   | (with_reducible refine LeO.ite ?_ ?_)
   | (with_reducible refine LeO.bind ?_ (fun _ => ?_))
theorem jD.mono : ∀ a0 a1 k, LeO (jD.f k a0 a1) (jD.f (k + 1) a0 a1) := by
 intro a0 a1 k
 obtain ⟨ih0, ih1, ih2⟩ := jD.zY k
 unfold jD.f
 repeat' first
   | (with_reducible exact ih0 _ _ _)
   | (with_reducible exact ih1 _ _ _ _)
   | (with_reducible exact ih2 _ _ _ _ _ _)
   | (with_reducible exact jJ.mono _ _)
   | (with_reducible exact LeO.refl _)
   | (with_reducible exact LeO.none _)
   | (with_reducible refine LeO.ite ?_ ?_)
   | (with_reducible refine LeO.bind ?_ (fun _ => ?_))
def jD.T12 : Bool × List (List Nat × List Nat) := (true, [([], []), ([], []), ([0, 1], [0, 1]), ([2], [2]), ([], []), ([], []), ([5], [5]), ([4, 6], [4, 6]), ([7], [7]), ([], []), ([9], [9]), ([8, 10], [8, 10]), ([3, 11], [3, 11]), ([0, 1, 0, 1, 2, 3, 4, 5, 6, 7, 8, 9, 10, 11, 12], [0, 1]), ([13, 12, 0, 1, 2, 3, 4, 5, 6, 7, 8, 9, 10, 11, 12], [12, 13])])
def jD.B12 : List Nat := [0, 0, 3, 7, 0, 0, 32, 112, 240, 0, 512, 2032, 4095, 8191, 16383]
theorem jD.jRM : rtab .any (opsOf Tryz.f140 12) = jD.T12 := by kernel_rfl
theorem jD.jQj : jAz jD.T12.2 jD.B12 = true := by kernel_rfl
def jD.T21 : Bool × List (List Nat × List Nat) := (true, [([], []), ([], []), ([], []), ([2], [2]), ([1, 3], [1, 3]), ([], []), ([4, 5], [4, 5]), ([6], [6]), ([0, 7], [0, 7]), ([], []), ([], []), ([10], [10]), ([11], [11]), ([9, 12], [9, 12]), ([13], [13]), ([8, 8, 0, 1, 2, 3, 4, 5, 6, 7, 8], [0, 8]), ([14, 15, 0, 1, 2, 3, 4, 5, 6, 7, 8, 9, 10, 11, 12, 13, 14, 15], [5, 14])])
def jD.B21 : List Nat := [0, 0, 0, 4, 14, 0, 62, 126, 255, 0, 0, 1024, 3072, 7680, 15872, 511, 65535]
theorem jD.jRL : rtab .any (opsOf Tryz.f140 21) = jD.T21 := by kernel_rfl
theorem jD.jQi : jAz jD.T21.2 jD.B21 = true := by kernel_rfl
theorem jD.calls (k : Nat) (A0 : Option Addr) (c0 : Nat) (l0 : List Int) (a1 : Int) (r : List Int) (w : World) (hr0 : Kd.C (Kd.int .u64) w A0 l0.length l0) (hc0 : l0.length ≤ c0) (h : jD.f k l0 a1 = some r) :
  Calls Tryz.prog 140 #[.slice A0 l0.length c0, .int .i64 a1] w fun e w' => ∃ v0_ : Value, e = .returned (v0_) ∧ Kd.R (Kd.int .u64) 56 w' w.heap.size (fun _ => True) v0_ r ∧ Below w.heap.size w w' := by
 obtain ⟨P0_, hP0_⟩ : ∃ P0_ : Nat → Prop, ∀ k, P0_ k := ⟨fun _ => True, fun _ => trivial⟩
 have hs0 : Kd.V (Kd.int .u64) 56 w w.heap.size (fun k_ => P0_ k_) (.slice A0 l0.length c0) l0 := Kd.V_mk hc0 (fun W' hb => (Kd.vJ .u64).C (fun k hk => hb k (hP0_ k) hk) hr0)
 clear hr0 hc0 hP0_
 have HO0 := jA.mk (show Kd.V (Kd.int .u64) 56 w w.heap.size (fun k_ => (P0_ k_ ∨ w.heap.size ≤ k_)) (.slice A0 l0.length c0) l0 from Kd.zF hs0 (fun k_ hk => .inl hk))
 have HB := jA.mk (Below.refl w.heap.size w)
 have H : ((jJ.f k l0).bind fun t150 => (if a1 < 0 then (if (wrap64 (-(mx a1 (-100001)))) > 100000 then (jD.j0 k t150 (wrap64 (-(mx a1 (-100001)))) true) else (jD.j0 k t150 (wrap64 (-(mx a1 (-100001)))) (decide ((wrap64 (Int.tdiv (wrap64 (-(mx a1 (-100001)))) 64)) ≥ (t150.length : Int))))) else (if 0 ≤ (wrap64 (Int.tdiv (mn a1 1000) 64)) then (if (wrap64 (Int.tdiv (mn a1 1000) 64)) ≤ (wrap64 ((wrap64 ((wrap64 (Int.tdiv (mn a1 1000) 64)) + (t150.length : Int))) + 1)) then (if (wrap64 ((wrap64 ((wrap64 (Int.tdiv (mn a1 1000) 64)) + (t150.length : Int))) + 1) : Int).toNat ≤ 35184372088832 then (jD.l1 k (mn a1 1000) (List.replicate (wrap64 (Int.tdiv (mn a1 1000) 64) : Int).toNat 0) 0 t150 (t150.length : Int) 0) else (none)) else (none)) else (none)))) = some r := h
 clear h
 obtain ⟨t150, A3, H⟩ := oc_ H
 try dsimp only at H
 by_cases c4 : a1 < 0
 rotate_left
 ·
  rw [if_neg c4] at H
  have c4b0 := decide_eq_false c4
  clear c4
  obtain ⟨ji44, hji44⟩ : ∃ j_ : Int, (mn a1 1000) = j_ := ⟨_, rfl⟩
  replace H : (if 0 ≤ (wrap64 (Int.tdiv (ji44) 64)) then (if (wrap64 (Int.tdiv (ji44) 64)) ≤ (wrap64 ((wrap64 ((wrap64 (Int.tdiv (ji44) 64)) + (t150.length : Int))) + 1)) then (if (wrap64 ((wrap64 ((wrap64 (Int.tdiv (ji44) 64)) + (t150.length : Int))) + 1) : Int).toNat ≤ 35184372088832 then (jD.l1 k ji44 (List.replicate (wrap64 (Int.tdiv (ji44) 64) : Int).toNat 0) 0 t150 (t150.length : Int) 0) else (none)) else (none)) else (none)) = some r := by first | (rw [hji44] at H; exact H) | (simp only [hji44] at H ⊢; exact H)
  (try rw [hji44] at A3)
  (try (have hji44h : ji44 ≤ 1000 := by (rw [← hji44]; unfold mn; (repeat' split) <;> omega)))
  (try (have hji44g : ji44 ≤ 64 := by omega))
  have hji44_ : (if 1000 < a1 then 1000 else a1) = ji44 := hji44
  obtain ⟨ji45, hji45⟩ : ∃ j_ : Int, (wrap64 (Int.tdiv (ji44) 64)) = j_ := ⟨_, rfl⟩
  replace H : (if 0 ≤ (ji45) then (if (ji45) ≤ (wrap64 ((wrap64 ((ji45) + (t150.length : Int))) + 1)) then (if (wrap64 ((wrap64 ((ji45) + (t150.length : Int))) + 1) : Int).toNat ≤ 35184372088832 then (jD.l1 k ji44 (List.replicate (ji45 : Int).toNat 0) 0 t150 (t150.length : Int) 0) else (none)) else (none)) else (none)) = some r := by first | (rw [hji45] at H; exact H) | (simp only [hji45] at H ⊢; exact H)
  (try rw [hji45] at A3)
  have hji45w : (IntKind.i64.wrap (Int.tdiv (ji44) 64)) = ji45 := (vF _).trans hji45
  by_cases c46 : 0 ≤ (ji45)
  rotate_left
  ·
   rw [if_neg c46] at H
   exact absurd H (by simp)
  rw [if_pos c46] at H
  have c46b0 := eq_true c46
  have c46b1 := decide_eq_true c46
  clear c46
  by_cases c47 : (ji45) ≤ (wrap64 ((wrap64 ((ji45) + (t150.length : Int))) + 1))
  rotate_left
  ·
   rw [if_neg c47] at H
   exact absurd H (by simp)
  rw [if_pos c47] at H
  have c47b0 := eq_true c47
  have c47b1 := decide_eq_true c47
  by_cases c48 : (wrap64 ((wrap64 ((ji45) + (t150.length : Int))) + 1) : Int).toNat ≤ 35184372088832
  rotate_left
  ·
   rw [if_neg c48] at H
   exact absurd H (by simp)
  rw [if_pos c48] at H
  have c48b0 := eq_true c48
  have c48b1 := decide_eq_true c48
  obtain ⟨y169, hy169⟩ : ∃ y_ : List Int, y_ = (List.replicate (ji45 : Int).toNat 0) := ⟨_, rfl⟩
  replace H : (jD.l1 k ji44 y169 0 t150 (t150.length : Int) 0) = some r := by first | (rw [hy169]; with_reducible exact H) | (have H2_ := (Option.bind_some _ _).symm.trans H; rw [hy169]; with_reducible exact H2_) | (with_reducible exact hs_ H) | with_reducible exact H | (rw [hy169]; exact H) | exact H
  have Ny169 := jA.mk hy169
  clear hy169
  have H' := jA.mk H
  clear H
  go_enter Tryz.func140, Tryz.ntmps140
  go_wp2_with (first | ((with_reducible refine jL (f := 136) rfl ?_); refine gl_ (some 13) Tryz.func136 #[.slice A0 l0.length c0] ?_; (with_reducible refine (jJ.calls k (fun k_ => (P0_ k_ ∨ w.heap.size ≤ k_)) _ _ l0 t150 _ ?side1 A3.out).mono ?_); (case side1 => exact HO0.out); rintro e w49 ⟨v151, rfl, ho0, hb⟩; refine ⟨_, rfl, ?_⟩; replace HO0 := jA.mk (Kd.jAG (rV_ HO0) hb); have HO152 := jA.mk (Kd.zI (Kd.zF (ok' := fun k_ => (P0_ k_ ∨ w.heap.size ≤ k_)) ho0 (fun k_ hk_ => Or.elim hk_ (fun hs_ => hs_) (fun hn_ => (.inr (Nat.le_trans (jE (bb_ HB)) hn_))))) (jE (bb_ HB))); replace HB := bs_ HB hb; obtain ⟨Ao50, co50, rfl⟩ := Kd.vX HO152.out) | ((with_reducible refine jl (N := 83) rfl ?_); (try (refine jg (by rfl) ?_; dsimp only)); refine jJi (Kd.int .u64) _ 56 rfl (N := 83) rfl 30 _ _ rfl ji45 (wrap64 ((wrap64 ((ji45) + (t150.length : Int))) + 1)) rfl rfl Tryz.underlying30 (.int .u64 0) 8 jAL rfl (by decide) (by omega) 0 (ok := fun _ => True) (okp := fun _ => True) rfl (fun _ hk => hk) trivial (of_decide_eq_true am_) (of_decide_eq_true am_) (Nat.le_trans (Nat.mul_le_mul_right _ (of_decide_eq_true am_ : (wrap64 ((wrap64 ((ji45) + (t150.length : Int))) + 1)).toNat ≤ 35184372088832)) (by omega)) (Below.refl _ _) (Nat.le_refl _) ?_; intro v170 w51 ho52 hb hg_ hnew_; clear hg_ hnew_; (first | rw [← Ny169.out] at ho52 | (simp only [Int.reduceToNat] at ho52; rw [← Ny169.out] at ho52)); replace HO0 := jA.mk (Kd.qx (rV_ HO0) (Kd.qM ho52) hb); replace HO152 := jA.mk (Kd.qx (rV_ HO152) (Kd.qM ho52) hb); have HO171 := jA.mk (Kd.jk (Kd.jMC (M := fun k_ => (w.heap.size ≤ k_)) ho52 (jE (bb_ HB)) (fun k_ h_ => h_)) (jE (bb_ HB))); replace HB := bs_ HB hb; clear hb ho52))
  go_loopg [8, 9, 86] k (fun kq v8 v9 v86 w' => ∃ (x8_1 : List Int) (x9_1 : Int) (x86_1 : Int), v9 = .int .u64 x9_1 ∧ v86 = .int .i64 x86_1 ∧ jA (jD.l1 kq ji44 x8_1 x9_1 t150 (t150.length : Int) x86_1 = some r) ∧ jA (kq ≤ k) ∧ jA (Kd.R (Kd.int .u64) 56 w' w.heap.size (fun k_ => (w.heap.size ≤ k_)) v8 x8_1) ∧ jA (Kd.V (Kd.int .u64) 56 w' w.heap.size (fun k_ => (P0_ k_ ∨ w.heap.size ≤ k_) ∧ some k_ ≠ (v8 : Value).ownBlock) (.slice Ao50 t150.length co50) t150) ∧ jA (Below w.heap.size w w'))
  case atStart => exact ⟨(y169), (0), (0), sd_, sd_, H', ⟨Nat.le_refl _⟩, ⟨by (with_reducible repeat (first | apply Kd.qO | apply Kd.qz | apply Kd.qL)); exact Kd.vB HO171.out (fun _ hk => hk.1)⟩, ⟨(rV_ HO152)⟩, ⟨(bb_ HB)⟩⟩
  case round =>
   clear H'
   try clear c1
   try clear p1
   try clear q1
   try clear hx1
   try clear c2
   try clear p2
   try clear q2
   try clear hx2
   try clear hf2
   try clear c3
   try clear p3
   try clear q3
   try clear hx3
   try clear hf3
   try clear c4
   try clear c4b0
   try clear p6
   try clear c8
   try clear c8b0
   try clear c10
   try clear c12
   try clear c12b0
   try clear c12b1
   try clear c13
   try clear c13b0
   try clear c13b1
   try clear c14
   try clear c16
   try clear p16
   try clear q16
   try clear hx16
   try clear c20
   try clear c20b0
   try clear c21
   try clear c21b0
   try clear c22
   try clear c22b0
   try clear c23
   try clear c23b0
   try clear c23b1
   try clear p25
   try clear q25
   try clear hx25
   try clear hf25
   try clear c26
   try clear c26b0
   try clear c27
   try clear c27b0
   try clear c29
   try clear c29b0
   try clear c31
   try clear c31b0
   try clear c31b1
   try clear p33
   try clear q33
   try clear hx33
   try clear hf33
   try clear c46
   try clear c46b0
   try clear c46b1
   try clear c47
   try clear c47b0
   try clear c47b1
   try clear c48
   try clear c48b0
   try clear c48b1
   try clear hx161_0
   try clear hx163_0
   try clear hx164_0
   try clear hx25_0
   try clear hx33_0
   try clear p161
   try clear p163
   try clear p164
   try clear p2
   try clear p25
   try clear p33
   try clear p6
   try clear q016
   try clear q1
   try clear q16
   try clear q161
   try clear q163
   try clear q164
   try clear q25
   try clear q33
   obtain ⟨x8_1, x9_1, x86_1, rfl, rfl, HA, HK1, HO_8, HO_84, HB⟩ := hrel
   cases gk with
   | zero => exact absurd HA.out (by simp [jD.l1])
   | succ k1 =>
    have H := HA.out
    clear HA
    simp only [jD.l1] at H
    by_cases c53 : x86_1 < (t150.length : Int)
    rotate_left
    ·
     rw [if_neg c53] at H
     have c53b0 := decide_eq_false c53
     clear c53
     by_cases c65 : x8_1.length < 17592186044416
     rotate_left
     ·
      rw [if_neg c65] at H
      exact absurd H (by simp)
     rw [if_pos c65] at H
     have LMc65 := jA.mk c65
     clear c65
     obtain ⟨y176, hy176⟩ : ∃ y_ : List Int, y_ = (x8_1 ++ [x9_1]) := ⟨_, rfl⟩
     replace H : ((jJ.f k1 y176).bind fun t179 => ((jT.f t179).bind fun t182 => (some t182))) = some r := by first | (rw [hy176]; with_reducible exact H) | (have H2_ := (Option.bind_some _ _).symm.trans H; rw [hy176]; with_reducible exact H2_) | (with_reducible exact hs_ H) | with_reducible exact H | (rw [hy176]; exact H) | exact H
     have Ny176 := jA.mk hy176
     clear hy176
     obtain ⟨t179, A66, H⟩ := oc_ H
     try dsimp only at H
     replace H := ob_ H
     obtain ⟨t182, A670, H⟩ := H
     replace H : (some t182) = some r := H
     have A67 := jA.mk A670
     clear A670
     obtain rfl := Option.some.inj H
     go_wp2_with (first | ((with_reducible refine zi (b := .append) (xs := #[.tmp 106, .tmp 108]) rfl ?_); (try (refine jg (by rfl) ?_; dsimp only)); at_builtin; refine Kd.jBJ (Kd.int .u64) (w0 := w) w.heap.size rfl (.tmp 106) (.tmp 108) 30 56 (.int .u64 0) 8 rfl Tryz.underlying30 jAL rfl (by decide) (by omega) u8 x8_1 x9_1 [.int .u64 x9_1] (fun k_ => (w.heap.size ≤ k_)) (fun _ => False) rfl rfl ?aP (fun _ hk => hk.elim) ?aF ?aO ?aB ?aS ?aL ?_; (case aP => exact rfl); (case aB => exact (bb_ HB)); (case aF => exact (fun k_ hk => (Nat.le_trans (jE (bb_ HB)) hk))); (case aO => exact (rR_ HO_8)); (case aS => exact (jE (bb_ HB))); (case aL => have := LMc65.out; omega); intro v177 w68 ho hb hg hat; rw [← Ny176.out] at ho; replace HO_84 := jA.mk (Kd.qy (ok := (fun k_ => (P0_ k_ ∨ w.heap.size ≤ k_))) (rV_ HO_84) hg hat); replace HB := jA.mk (hb); have HO178 := jA.mk (ho); clear HO_8 ho hb hg hat; obtain ⟨Ao69, co69, rfl⟩ := Kd.vE HO178.out) | ((with_reducible refine jL (f := 136) rfl ?_); refine gl_ (some 110) Tryz.func136 #[.slice Ao69 y176.length co69] ?_; (with_reducible refine (jJ.calls k1 (fun k_ => some k_ = (.slice Ao69 y176.length co69 : Value).ownBlock) _ _ y176 t179 _ ?side1 A66.out).mono ?_); (case side1 => exact Kd.R_V (Kd.jFn rfl (HO178.out))); rintro e w70 ⟨v180, rfl, ho0, hb⟩; refine ⟨_, rfl, ?_⟩; replace HO_84 := jA.mk (Kd.jAG (rV_ HO_84) hb); have HO181 := jA.mk (Kd.zI (Kd.zF (ok' := fun k_ => (P0_ k_ ∨ w.heap.size ≤ k_)) ho0 (fun k_ hk_ => Or.elim hk_ (fun hs_ => (.inr (((HO178.out).1 k_ hs_.symm)))) (fun hn_ => (.inr (Nat.le_trans (jE (bb_ HB)) hn_))))) (jE (bb_ HB))); replace HO178 := ro_ HO178 hb; replace HB := bs_ HB hb; obtain ⟨Ao71, co71, rfl⟩ := Kd.vX HO181.out) | ((with_reducible refine jL (f := 135) rfl ?_); refine gl_ (some 111) Tryz.func135 #[.slice Ao71 t179.length co71] ?_; (with_reducible refine (jT.calls _ _ t179 t182 _ ?side1 ?side2 A67.out).mono ?_); (case side1 => repeat (first | exact (Kd.vT HO181.out).2.2 | (with_reducible refine Kd.jAH ?_ _) | (with_reducible refine Kd.jBM ?_ _) | (with_reducible refine Kd.jDF ?_))); (case side2 => exact (Kd.vT HO181.out).2.1); rintro e w72 ⟨v183, rfl, ho0, hb⟩; refine ⟨_, rfl, ?_⟩; replace HO_84 := jA.mk (Kd.qx (rV_ HO_84) (Kd.qM ho0) hb); replace HO181 := jA.mk (Kd.qx (rV_ HO181) (Kd.qM ho0) hb); have HO184 := jA.mk (Kd.jk (Kd.qD (Kd.jMC (M := fun k_ => (w.heap.size ≤ k_)) ho0 (jE (bb_ HB)) (fun k_ h_ => h_)) (Kd.R_lt (rR_ HO178))) (jE (bb_ HB))); replace HO178 := re_ HO178 ho0 hb; replace HB := bs_ HB hb))
     go_ret
     exact ⟨_, by first | rfl | (simp [vM, vL] <;> rfl) | (simp only [← hji44, ← hji45]; first | rfl | (simp [vM, vL] <;> rfl)) | (simp [*, vM, vL] <;> rfl), by refine pR_ ?_; exact Kd.vB HO184.out (fun _ _ => trivial), (bb_ HB)⟩
    rw [if_pos c53] at H
    have c53b0 := decide_eq_true c53
    clear c53
    by_cases c54 : 0 ≤ x86_1
    rotate_left
    ·
     rw [if_neg c54] at H
     exact absurd H (by simp)
    rw [if_pos c54] at H
    have c54b0 := decide_eq_true c54
    clear c54
    by_cases c55 : x86_1 < (t150.length : Int)
    rotate_left
    ·
     rw [if_neg c55] at H
     exact absurd H (by simp)
    rw [if_pos c55] at H
    have c55b0 := decide_eq_true c55
    clear c55
    obtain ⟨ji56, hji56⟩ : ∃ j_ : Int, (Int.tmod ji44 64) = j_ := ⟨_, rfl⟩
    replace H : (if 0 ≤ (ji56) then (if x8_1.length < 17592186044416 then (if 0 ≤ (wrap64 (63 - (ji56))) then (jD.l1 k1 ji44 (x8_1 ++ [Go.bits .or .u64 (shl .u64 (rd t150 x86_1) (ji56)) x9_1]) ((shr .u64 (rd t150 x86_1) (wrap64 (63 - (ji56)))) / 2) t150 (t150.length : Int) (wrap64 (x86_1 + 1))) else (none)) else (none)) else (none)) = some r := by first | (rw [hji56] at H; exact H) | (simp only [hji56] at H ⊢; exact H)
    by_cases c57 : 0 ≤ (ji56)
    rotate_left
    ·
     rw [if_neg c57] at H
     exact absurd H (by simp)
    rw [if_pos c57] at H
    have c57b0 := eq_true c57
    have c57b1 := decide_eq_true c57
    clear c57
    obtain ⟨ji58, hji58⟩ : ∃ j_ : Int, (shl .u64 (rd t150 x86_1) (ji56)) = j_ := ⟨_, rfl⟩
    replace H : (if x8_1.length < 17592186044416 then (if 0 ≤ (wrap64 (63 - (ji56))) then (jD.l1 k1 ji44 (x8_1 ++ [Go.bits .or .u64 (ji58) x9_1]) ((shr .u64 (rd t150 x86_1) (wrap64 (63 - (ji56)))) / 2) t150 (t150.length : Int) (wrap64 (x86_1 + 1))) else (none)) else (none)) = some r := by first | (rw [hji58] at H; exact H) | (simp only [hji58] at H ⊢; exact H)
    have hji58_ : (IntKind.u64.wrap ((rd t150 x86_1) * 2 ^ min (ji56).toNat 64)) = ji58 := hji58
    have hji58z : (ji56) ≤ 64 → (IntKind.u64.wrap ((rd t150 x86_1) * 2 ^ (ji56).toNat)) = ji58 := jBV hji58
    by_cases c59 : x8_1.length < 17592186044416
    rotate_left
    ·
     rw [if_neg c59] at H
     exact absurd H (by simp)
    rw [if_pos c59] at H
    have LMc59 := jA.mk c59
    clear c59
    obtain ⟨y173, hy173⟩ : ∃ y_ : List Int, y_ = (x8_1 ++ [Go.bits .or .u64 (ji58) x9_1]) := ⟨_, rfl⟩
    replace H : (if 0 ≤ (wrap64 (63 - (ji56))) then (jD.l1 k1 ji44 y173 ((shr .u64 (rd t150 x86_1) (wrap64 (63 - (ji56)))) / 2) t150 (t150.length : Int) (wrap64 (x86_1 + 1))) else (none)) = some r := by first | (rw [hy173]; with_reducible exact H) | (have H2_ := (Option.bind_some _ _).symm.trans H; rw [hy173]; with_reducible exact H2_) | (with_reducible exact hs_ H) | with_reducible exact H | (rw [hy173]; exact H) | exact H
    have Ny173 := jA.mk hy173
    clear hy173
    obtain ⟨ji60, hji60⟩ : ∃ j_ : Int, (wrap64 (63 - (ji56))) = j_ := ⟨_, rfl⟩
    replace H : (if 0 ≤ (ji60) then (jD.l1 k1 ji44 y173 ((shr .u64 (rd t150 x86_1) (ji60)) / 2) t150 (t150.length : Int) (wrap64 (x86_1 + 1))) else (none)) = some r := by first | (rw [hji60] at H; exact H) | (simp only [hji60] at H ⊢; exact H)
    have hji60w : (IntKind.i64.wrap (63 - (ji56))) = ji60 := (vF _).trans hji60
    by_cases c61 : 0 ≤ (ji60)
    rotate_left
    ·
     rw [if_neg c61] at H
     exact absurd H (by simp)
    rw [if_pos c61] at H
    have c61b0 := eq_true c61
    have c61b1 := decide_eq_true c61
    clear c61
    obtain ⟨ji62, hji62⟩ : ∃ j_ : Int, (shr .u64 (rd t150 x86_1) (ji60)) = j_ := ⟨_, rfl⟩
    replace H : (jD.l1 k1 ji44 y173 ((ji62) / 2) t150 (t150.length : Int) (wrap64 (x86_1 + 1))) = some r := by first | (rw [hji62] at H; exact H) | (simp only [hji62] at H ⊢; exact H)
    have hji62_ : ((rd t150 x86_1) / 2 ^ min (ji60).toNat 64) = ji62 := hji62
    have hji62z : (ji60) ≤ 64 → ((rd t150 x86_1) / 2 ^ (ji60).toNat) = ji62 := jAr hji62
    have H' := jA.mk H
    clear H
    have p172 : 0 ≤ (x86_1 : Int) := of_decide_eq_true am_
    have q172 : x86_1 < (t150.length : Int) := of_decide_eq_true am_
    obtain ⟨ad172, e172, hx172_0⟩ := Kd.vS (Kd.vT HO_84.out).2.2 x86_1 p172 q172
    cases e172
    replace p172 := eq_true p172
    replace q172 := eq_true q172
    try go_wp2
    have n0_ := jA.mk (Kd.qL HO_8.out)
    have n1_ := jA.mk (Kd.jGx HO_84.out)
    have n2_ := jA.mk (vk HB.out)
    clear HO_8
    clear HO_84
    clear HB
    have HO_8 := n0_
    have HO_84 := n1_
    have HB := n2_
    clear n0_ n1_ n2_
    refine zw (n := 17) (S := fun w' => True) (ds := []) #[false, false, false, false, false, false, false, false, false, false, false, false, false, false, false, false, false] kr_ rfl rfl trivial (fun hHeld => ?_); refine qd jD.jRL jD.jQi (fun HT_ HW_ => ?_)
    generalize wr.drew = w63 at HO_8 HO_84 HB hHeld ⊢
    refine pu_ 0 (some 90) (ba_ 17 1) (jR HT_.out kr_) ?_
    refine pu_ 1 (some 91) (ba_ 17 3) (jR HT_.out kr_) ?_
    refine pu_ 2 (some 92) (ba_ 17 7) (jR HT_.out kr_) ?_
    refine pu_ 3 (some 93) (ba_ 17 15) (jR HT_.out kr_) ?_
    refine pu_ 4 (some 94) (ba_ 17 31) (jR HT_.out kr_) ?_
    refine pu_ 5 (some 95) (ba_ 17 63) (jR HT_.out kr_) ?_
    refine pu_ 6 (some 96) (ba_ 17 127) (jR HT_.out kr_) ?_
    refine pu_ 9 (some 99) (ba_ 17 639) (jR HT_.out kr_) ?_
    refine pu_ 10 (some 100) (ba_ 17 1663) (jR HT_.out kr_) ?_
    refine pu_ 11 (some 101) (ba_ 17 3711) (jR HT_.out kr_) ?_
    refine pu_ 12 (some 102) (ba_ 17 7807) (jR HT_.out kr_) ?_
    refine pu_ 13 (some 103) (ba_ 17 15999) (jR HT_.out kr_) ?_
    refine pu_ 14 (some 104) (ba_ 17 32383) (jR HT_.out kr_) ?_
    refine one_ (i := 7) (N := some 97) (ba_ 17 32511) rfl rfl (qb HT_.out kr_) (by decide) (fun K hK => ?_)
    refine jCM (w1 := ?_) (v := ?_) (by rfl) rfl ?_ ?_
    rotate_left 2
    ·
     go_simp
     constructor
     ·
      rfl
     rfl
    refine hK.out _ _ trivial (fun hHeld => ?_)
    clear hK K
    refine ns_ 97 ?_
    refine one_ (i := 8) (N := some 98) (ba_ 17 32767) rfl rfl (qb HT_.out kr_) (by decide) (fun K hK => ?_)
    refine Kd.jFo (Kd.int .u64) (w0 := w) w.heap.size (by rfl) (.tmp 90) (.tmp 97) 30 56 (.int .u64 0) 8 rfl Tryz.underlying30 jAL rfl (by decide) (by omega) u8 x8_1 (Go.bits .or .u64 (ji58) x9_1) [.int .u64 (Go.bits .or .u64 (ji58) x9_1)] (fun k_ => (w.heap.size ≤ k_)) (fun _ => False) rfl rfl ?aP (fun _ hk => hk.elim) ?aF ?aO ?aB ?aS ?aL ?_
    (case aP => exact rfl)
    (case aB => exact (bb_ HB))
    (case aF => exact (fun k_ hk => (Nat.le_trans (jE (bb_ HB)) hk)))
    (case aO => exact (rR_ HO_8))
    (case aS => exact (jE (bb_ HB)))
    (case aL => have := LMc59.out; omega)
    intro v174 w64 ho hb hg hat
    rw [← Ny173.out] at ho
    have n0_ := jA.mk (Kd.qy (ok := (fun k_ => (P0_ k_ ∨ w.heap.size ≤ k_))) (rV_ HO_84) hg hat)
    have n1_ := jA.mk (hb)
    have n2_ := jA.mk (ho)
    clear HO_84
    clear HB
    clear HO_8
    have HO_84 := n0_
    have HB := n1_
    have HO175 := n2_
    clear n0_ n1_ n2_
    clear ho hb hg hat
    refine hK.out _ _ trivial (fun hHeld => ?_)
    clear hK K
    refine ns_ 98 ?_
    refine pu_ 15 (some 8) (ba_ 17 65535) (jR HT_.out kr_) ?_
    refine pu_ 16 (some 9) (ba_ 17 131071) (jR HT_.out kr_) ?_
    refine jAR (jBG HT_.out kr_) ?_
    try go_wp2
    go_roundg k1
    case measure => have := HK1.out; omega
    case rel => exact ⟨(y173), ((ji62) / 2), (wrap64 (x86_1 + 1)), (by first | rfl | (simp; done) | (simp only [← hji62] <;> (first | rfl | simp)) | (simp [*]; done)), sd_, H', ⟨by have := HK1.out; omega⟩, ⟨(rR_ HO175)⟩, ⟨(rV_ HO_84)⟩, ⟨(bb_ HB)⟩⟩
 rw [if_pos c4] at H
 have c4b0 := decide_eq_true c4
 clear c4
 obtain ⟨ji5, hji5⟩ : ∃ j_ : Int, (mx a1 (-100001)) = j_ := ⟨_, rfl⟩
 replace H : (if (wrap64 (-(ji5))) > 100000 then (jD.j0 k t150 (wrap64 (-(ji5))) true) else (jD.j0 k t150 (wrap64 (-(ji5))) (decide ((wrap64 (Int.tdiv (wrap64 (-(ji5))) 64)) ≥ (t150.length : Int))))) = some r := by first | (rw [hji5] at H; exact H) | (simp only [hji5] at H ⊢; exact H)
 (try rw [hji5] at A3)
 have hji5_ : (if a1 < (-100001) then (-100001) else a1) = ji5 := hji5
 have HC6 := jA.mk H
 clear H
 go_enter Tryz.func140, Tryz.ntmps140
 go_upto_region 4 with (first | ((with_reducible refine jL (f := 136) rfl ?_); refine gl_ (some 13) Tryz.func136 #[.slice A0 l0.length c0] ?_; (with_reducible refine (jJ.calls k (fun k_ => (P0_ k_ ∨ w.heap.size ≤ k_)) _ _ l0 t150 _ ?side1 A3.out).mono ?_); (case side1 => exact HO0.out); rintro e w7 ⟨v151, rfl, ho0, hb⟩; refine ⟨_, rfl, ?_⟩; replace HO0 := jA.mk (Kd.jAG (rV_ HO0) hb); have HO152 := jA.mk (Kd.zI (Kd.zF (ok' := fun k_ => (P0_ k_ ∨ w.heap.size ≤ k_)) ho0 (fun k_ hk_ => Or.elim hk_ (fun hs_ => hs_) (fun hn_ => (.inr (Nat.le_trans (jE (bb_ HB)) hn_))))) (jE (bb_ HB))); replace HB := bs_ HB hb))
 (try simp only [Act.put, ss_])
 go_cut [27] (fun v27 wc => ∃ (kq : Nat) (x27_5 : Bool), v27 = .bool x27_5 ∧ jA (jD.j0 kq t150 (wrap64 (-(ji5))) x27_5 = some r) ∧ jA (kq ≤ k) ∧ jA (Kd.V (Kd.int .u64) 56 wc w.heap.size (fun k_ => (P0_ k_ ∨ w.heap.size ≤ k_)) v151 t150) ∧ jA (Below w.heap.size w wc))
 case first =>
  have H := HC6.out
  clear HC6
  by_cases c8 : (wrap64 (-(ji5))) > 100000
  ·
   rw [if_pos c8] at H
   have c8b0 := decide_eq_true c8
   clear c8
   (first | rw [c8b0] | (simp only [vF, vN]; rw [c8b0]) | skip)
   have H' := jA.mk H
   clear H
   go_wp2
   go_meet
   case rel => exact ⟨_, (true), sd_, H', ⟨by first | omega | exact Nat.le_refl _⟩, ⟨(rV_ HO152)⟩, ⟨(bb_ HB)⟩⟩
  rw [if_neg c8] at H
  have c8b0 := decide_eq_false c8
  clear c8
  (first | rw [c8b0] | (simp only [vF, vN]; rw [c8b0]) | skip)
  have H' := jA.mk H
  clear H
  obtain ⟨Ao9, co9, eo9⟩ := Kd.vX HO152.out
  subst eo9
  go_wp2
  go_meet
  case rel => exact ⟨_, (decide ((wrap64 (Int.tdiv (wrap64 (-(ji5))) 64)) ≥ (t150.length : Int))), (by first | rfl | (simp; done) | (simp only [← hji5] <;> (first | rfl | simp)) | (simp [*]; done)), H', ⟨by first | omega | exact Nat.le_refl _⟩, ⟨(rV_ HO152)⟩, ⟨(bb_ HB)⟩⟩
 case rest =>
  clear HC6
  try clear c1
  try clear p2
  try clear c4
  try clear c4b0
  try clear p6
  try clear c8
  try clear c8b0
  obtain ⟨kq, x27_5, rfl, HA, HJ5, HO_0, HB⟩ := hcut
  cases kq with
  | zero => exact absurd HA.out (by simp [jD.j0])
  | succ kj5 =>
   have H := HA.out
   clear HA
   simp only [jD.j0] at H
   by_cases c10 : x27_5 = true
   ·
    subst c10
    replace H := ip_ H
    obtain rfl := Option.some.inj H
    go_wp2
    go_ret
    exact ⟨_, by first | rfl | (simp [vM, vL] <;> rfl) | (simp only [← hji5]; first | rfl | (simp [vM, vL] <;> rfl)) | (simp [*, vM, vL] <;> rfl), Kd.jAS _ _ _ _ _, (bb_ HB)⟩
   replace c10 := Bool.eq_false_iff.mpr c10
   subst c10
   replace H := in_ H
   obtain ⟨ji11, hji11⟩ : ∃ j_ : Int, (wrap64 (Int.tdiv (wrap64 (-(ji5))) 64)) = j_ := ⟨_, rfl⟩
   replace H : (if 0 ≤ (ji11) then (if (ji11) ≤ (t150.length : Int) then ((jT.f (t150.drop ((ji11) : Int).toNat)).bind fun t158 => (jD.l0 kj5 t158 (Int.tmod (wrap64 (-(ji5))) 64) (t158.length : Int) 0)) else (none)) else (none)) = some r := by first | (rw [hji11] at H; exact H) | (simp only [hji11] at H ⊢; exact H)
   have hji11w : (IntKind.i64.wrap (Int.tdiv (wrap64 (-(ji5))) 64)) = ji11 := (vF _).trans hji11
   by_cases c12 : 0 ≤ (ji11)
   rotate_left
   ·
    rw [if_neg c12] at H
    exact absurd H (by simp)
   rw [if_pos c12] at H
   have c12b0 := eq_true c12
   have c12b1 := decide_eq_true c12
   clear c12
   by_cases c13 : (ji11) ≤ (t150.length : Int)
   rotate_left
   ·
    rw [if_neg c13] at H
    exact absurd H (by simp)
   rw [if_pos c13] at H
   have c13b0 := eq_true c13
   have c13b1 := decide_eq_true c13
   clear c13
   obtain ⟨y153, hy153⟩ : ∃ y_ : List Int, y_ = (t150.drop ((ji11) : Int).toNat) := ⟨_, rfl⟩
   replace H : ((jT.f y153).bind fun t158 => (jD.l0 kj5 t158 (Int.tmod (wrap64 (-(ji5))) 64) (t158.length : Int) 0)) = some r := by first | (rw [hy153]; with_reducible exact H) | (have H2_ := (Option.bind_some _ _).symm.trans H; rw [hy153]; with_reducible exact H2_) | (with_reducible exact hs_ H) | with_reducible exact H | (rw [hy153]; exact H) | exact H
   have Ny153 := jA.mk hy153
   clear hy153
   obtain ⟨t158, A14, H⟩ := oc_ H
   try dsimp only at H
   obtain ⟨ji15, hji15⟩ : ∃ j_ : Int, (Int.tmod (wrap64 (-(ji5))) 64) = j_ := ⟨_, rfl⟩
   replace H : (jD.l0 kj5 t158 ji15 (t158.length : Int) 0) = some r := by first | (rw [hji15] at H; exact H) | (simp only [hji15] at H ⊢; exact H)
   (try rw [hji15] at A14)
   have H' := jA.mk H
   clear H
   obtain ⟨Ao17, co17, eo17⟩ := Kd.vX HO_0.out
   subst eo17
   have q16 : ((ji11) : Int) ≤ ((t150.length : Int) : Int) := of_decide_eq_true am_
   obtain ⟨i016, hi016, _, hsz16, _⟩ := info_parts jAL
   have hroom16 : t150.length ≤ co17 := (Kd.vT HO_0.out).2.1
   have hC16 : Kd.F (Kd.int .u64) _ _ Ao17 t150.length t150 := (Kd.V_at (base := w.heap.size) HO_0.out).2.2
   have q016 : (0 : Int) ≤ ((ji11) : Int) := of_decide_eq_true am_
   have hcut16 := jMy (P := Tryz.prog) 30 56 .i64 Tryz.underlying30 hi016 1 hsz16 Ao17 t150.length co17 (ji11) q016 q16
   have hr16 := Kd.jRl (m := ((ji11) : Int).toNat) (c := co17) hC16 (by omega) hroom16
   obtain ⟨A16, hA16⟩ : ∃ A1, A1 = (if co17 = ((ji11) : Int).toNat then Ao17 else (Ao17 : Option Addr).map (·.add (((ji11) : Int).toNat * 1))) := ⟨_, rfl⟩
   obtain ⟨c16, hc16⟩ : ∃ c1, c1 = co17 - ((ji11) : Int).toNat := ⟨_, rfl⟩
   have hy16 : y153.length = t150.length - ((ji11) : Int).toNat := (by rw [Ny153.out, List.length_drop] <;> omega)
   rw [show (t150).drop ((ji11) : Int).toNat = y153 from Ny153.out.symm] at hr16
   replace hr16 : Kd.F (Kd.int .u64) _ _ A16 y153.length y153 := (by rw [hA16]; exact hr16)
   rw [← hy16, ← hA16, ← hc16] at hcut16
   have HO157 := jA.mk (show Kd.V (Kd.int .u64) 56 _ w.heap.size _ (.slice A16 y153.length c16) y153 from Kd.V_mk (by rw [hy16, hc16]; exact Nat.sub_le_sub_right hroom16 _) hr16)
   have HC157 := jA.mk (show y153.length ≤ c16 from by rw [hy16, hc16]; exact Nat.sub_le_sub_right hroom16 _)
   clear hr16 hC16 hroom16 hi016 hsz16 hc16
   have KY16 := jA.mk hy16
   have KA16 := jA.mk hA16
   clear hy16 hA16
   replace q16 := eq_true q16
   go_wp2_with (first | ((with_reducible refine jL (f := 135) rfl ?_); refine gl_ (some 32) Tryz.func135 #[.slice A16 y153.length c16] ?_; (with_reducible refine (jT.calls _ _ y153 t158 _ ?side1 ?side2 A14.out).mono ?_); (case side1 => repeat (first | exact (Kd.vT HO157.out).2.2 | (with_reducible refine Kd.jAH ?_ _) | (with_reducible refine Kd.jBM ?_ _) | (with_reducible refine Kd.jDF ?_))); (case side2 => exact (Kd.vT HO157.out).2.1); rintro e w18 ⟨v159, rfl, ho0, hb⟩; refine ⟨_, rfl, ?_⟩; replace HO_0 := jA.mk (Kd.qx (rV_ HO_0) (Kd.qM ho0) hb); replace HO157 := jA.mk (Kd.qx (rV_ HO157) (Kd.qM ho0) hb); have HO160 := jA.mk (Kd.jk (Kd.jMC (M := fun k_ => (w.heap.size ≤ k_)) ho0 (jE (bb_ HB)) (fun k_ h_ => h_)) (jE (bb_ HB))); replace HB := bs_ HB hb; obtain ⟨Ao19, co19, rfl⟩ := Kd.vE HO160.out))
   go_loopg [37] kj5 (fun kq v37 w' => ∃ (x5_2 : List Int) (x37_2 : Int), v37 = .int .i64 x37_2 ∧ jA (jD.l0 kq x5_2 ji15 (t158.length : Int) x37_2 = some r) ∧ jA (kq ≤ kj5) ∧ jA (Kd.R (Kd.int .u64) 56 w' w.heap.size (fun k_ => (w.heap.size ≤ k_)) (.slice Ao19 t158.length co19) x5_2) ∧ jA (Below w.heap.size w w'))
   case atStart => exact ⟨(t158), (0), sd_, H', ⟨Nat.le_refl _⟩, ⟨by (with_reducible repeat (first | apply Kd.qO | apply Kd.qz | apply Kd.qL)); exact Kd.vB HO160.out (fun _ hk => hk.1)⟩, ⟨(bb_ HB)⟩⟩
   case round =>
    clear H'
    try clear c1
    try clear q1
    try clear p2
    try clear c4
    try clear c4b0
    try clear p6
    try clear c8
    try clear c8b0
    try clear c10
    try clear c12
    try clear c12b0
    try clear c12b1
    try clear c13
    try clear c13b0
    try clear c13b1
    try clear c14
    try clear c16
    try clear q16
    try clear p2
    try clear p6
    try clear q016
    try clear q16
    obtain ⟨x5_2, x37_2, rfl, HA, HK2, HO_5, HB⟩ := hrel
    have hl5_2 := (Kd.jW HO_5.out).1
    rw [hl5_2] at HO_5
    (try simp only [hl5_2])
    cases gk with
    | zero => exact absurd HA.out (by simp [jD.l0])
    | succ k2 =>
     have H := HA.out
     clear HA
     simp only [jD.l0] at H
     by_cases c20 : x37_2 < (t158.length : Int)
     rotate_left
     ·
      rw [if_neg c20] at H
      have c20b0 := decide_eq_false c20
      (try simp only [hl5_2] at c20b0)
      clear c20
      replace H := ob_ H
      obtain ⟨t166, A420, H⟩ := H
      replace H : (some t166) = some r := H
      have A42 := jA.mk A420
      clear A420
      obtain rfl := Option.some.inj H
      go_wp2_with fail
      refine (jJ.own k2 w.heap.size (fun k_ => w.heap.size ≤ k_) Ao19 co19 x5_2 _ _ HO_5.out A42.out).mono ?_
      rintro e w43 ⟨v157, rfl, ho0, hb⟩
      have HO158 := jA.mk ho0
      have HB2_ := jA.mk (jG HB.out hb)
      clear ho0 hb
      go_wp2
      go_ret
      exact ⟨_, rfl, Kd.vB HO158.out (fun _ _ => trivial), HB2_.out⟩
     rw [if_pos c20] at H
     have c20b0 := decide_eq_true c20
     (try simp only [hl5_2] at c20b0)
     clear c20
     by_cases c21 : 0 ≤ x37_2
     rotate_left
     ·
      rw [if_neg c21] at H
      exact absurd H (by simp)
     rw [if_pos c21] at H
     have c21b0 := decide_eq_true c21
     clear c21
     by_cases c22 : x37_2 < (x5_2.length : Int)
     rotate_left
     ·
      rw [if_neg c22] at H
      exact absurd H (by simp)
     rw [if_pos c22] at H
     have c22b0 := decide_eq_true c22
     (try simp only [hl5_2] at c22b0)
     clear c22
     by_cases c23 : 0 ≤ ji15
     rotate_left
     ·
      rw [if_neg c23] at H
      exact absurd H (by simp)
     rw [if_pos c23] at H
     have c23b0 := eq_true c23
     have c23b1 := decide_eq_true c23
     clear c23
     obtain ⟨ji24, hji24⟩ : ∃ j_ : Int, (shr .u64 (rd x5_2 x37_2) ji15) = j_ := ⟨_, rfl⟩
     replace H : ((some (x5_2.set (x37_2 : Int).toNat (ji24) : List Int)).bind fun y162 => (if (wrap64 (x37_2 + 1)) < (x5_2.length : Int) then (if ji15 > 0 then (if 0 ≤ (wrap64 (x37_2 + 1)) then (if 0 ≤ (wrap64 (64 - ji15)) then (jD.l0 k2 (y162.set (x37_2 : Int).toNat (Go.bits .or .u64 (rd y162 x37_2) (shl .u64 (rd y162 (wrap64 (x37_2 + 1))) (wrap64 (64 - ji15))))) ji15 (t158.length : Int) (wrap64 (x37_2 + 1))) else (none)) else (none)) else (jD.l0 k2 y162 ji15 (t158.length : Int) (wrap64 (x37_2 + 1)))) else (jD.l0 k2 y162 ji15 (t158.length : Int) (wrap64 (x37_2 + 1))))) = some r := by first | (rw [hji24] at H; exact H) | (simp only [hji24] at H ⊢; exact H)
     have hji24_ : ((rd x5_2 x37_2) / 2 ^ min ji15.toNat 64) = ji24 := hji24
     have hji24z : ji15 ≤ 64 → ((rd x5_2 x37_2) / 2 ^ ji15.toNat) = ji24 := jAr hji24
     obtain ⟨y162, hy162⟩ : ∃ y_ : List Int, y_ = (x5_2.set (x37_2 : Int).toNat (ji24)) := ⟨_, rfl⟩
     replace H : (if (wrap64 (x37_2 + 1)) < (x5_2.length : Int) then (if ji15 > 0 then (if 0 ≤ (wrap64 (x37_2 + 1)) then (if 0 ≤ (wrap64 (64 - ji15)) then (jD.l0 k2 (y162.set (x37_2 : Int).toNat (Go.bits .or .u64 (rd y162 x37_2) (shl .u64 (rd y162 (wrap64 (x37_2 + 1))) (wrap64 (64 - ji15))))) ji15 (t158.length : Int) (wrap64 (x37_2 + 1))) else (none)) else (none)) else (jD.l0 k2 y162 ji15 (t158.length : Int) (wrap64 (x37_2 + 1)))) else (jD.l0 k2 y162 ji15 (t158.length : Int) (wrap64 (x37_2 + 1)))) = some r := by first | (rw [hy162]; with_reducible exact H) | (have H2_ := (Option.bind_some _ _).symm.trans H; rw [hy162]; with_reducible exact H2_) | (with_reducible exact hs_ H) | with_reducible exact H | (rw [hy162]; exact H) | exact H
     have Ny162 := jA.mk hy162
     clear hy162
     by_cases c26 : (wrap64 (x37_2 + 1)) < (x5_2.length : Int)
     rotate_left
     ·
      rw [if_neg c26] at H
      have c26b0 := decide_eq_false c26
      (try simp only [hl5_2] at c26b0)
      clear c26
      have H' := jA.mk H
      clear H
      have p161 : 0 ≤ (x37_2 : Int) := of_decide_eq_true am_
      have q161 : x37_2 < (x5_2.length : Int) := of_decide_eq_true am_
      obtain ⟨ad161, e161, hx161_0⟩ := Kd.vS (Kd.jW HO_5.out).2.2 x37_2 p161 q161
      cases e161
      replace p161 := eq_true p161
      replace q161 := eq_true q161
      have p25 : 0 ≤ (x37_2 : Int) := of_decide_eq_true am_
      have q25 : (x37_2 : Int) < ((x5_2.length : Int) : Int) := of_decide_eq_true am_
      obtain ⟨go25, co25, eo25, gb25, gl25, cl25, HG25⟩ := Kd.jAg HO_5.out (by omega)
      (first | cases eo25 | (injection eo25 with ea_ en_ ec_; (first | subst ea_ | (injection ea_ with ea_; subst ea_)); subst ec_; clear en_))
      have GB25 := jA.mk gb25
      have GG25 := jA.mk HG25
      clear gb25 gl25 HG25
      (first | simp only [add_plain] at hx161_0 | skip)
      obtain ⟨hx25_0, hf25_0⟩ := Kd.qI 0 HO_5.out (x37_2 : Int) p25 q25
      replace p25 := eq_true p25
      replace q25 := eq_true q25
      have HP40 := Kd.jCh HO_5.out (x37_2 : Int) ji24
      go_wp2_with (first | ((with_reducible refine jAF (t := 56) (p := 46) rfl ?_); refine qY (t := 56) (p := 46) (v := ?vo_w41) (w1 := (wr.setCell ⟨go25, (x37_2 : Int).toNat, none⟩ (.int .u64 ji24))) ?hg ?ho ?hn ?hr ?_; (case ho => rfl); (case hg => rfl); (case hn => rfl); (case hr => exact gs_); intro w41 hw; have hg : wr.grownBy w41 (some go25) := (by rw [hw]; exact HP40.2); have hp_ : Kd.R (Kd.int .u64) 56 w41 w.heap.size (fun k_ => (w.heap.size ≤ k_)) (.slice (some ⟨go25, 0, none⟩) x5_2.length co19) y162 := (by rw [hw, Ny162.out]; exact HP40.1); clear HP40; replace HO_5 := jA.mk (hp_); replace HB := jA.mk ((by rw [hw]; exact vP (HB.out) GB25.out : Below w.heap.size w w41)); clear hg hw hp_))
      (try simp only [← hl5_2])
      go_roundg k2
      case measure => have := HJ5.out; have := HK2.out; omega
      case rel => exact ⟨(y162), (wrap64 (x37_2 + 1)), sd_, H', ⟨by have := HJ5.out; have := HK2.out; omega⟩, ⟨by (try simp only [hl5_2]); refine pR_ ?_; exact HO_5.out⟩, ⟨(bb_ HB)⟩⟩
     rw [if_pos c26] at H
     have c26b0 := decide_eq_true c26
     (try simp only [hl5_2] at c26b0)
     clear c26
     by_cases c27 : ji15 > 0
     rotate_left
     ·
      rw [if_neg c27] at H
      have c27b0 := decide_eq_false c27
      clear c27
      have H' := jA.mk H
      clear H
      have p161 : 0 ≤ (x37_2 : Int) := of_decide_eq_true am_
      have q161 : x37_2 < (x5_2.length : Int) := of_decide_eq_true am_
      obtain ⟨ad161, e161, hx161_0⟩ := Kd.vS (Kd.jW HO_5.out).2.2 x37_2 p161 q161
      cases e161
      replace p161 := eq_true p161
      replace q161 := eq_true q161
      have p25 : 0 ≤ (x37_2 : Int) := of_decide_eq_true am_
      have q25 : (x37_2 : Int) < ((x5_2.length : Int) : Int) := of_decide_eq_true am_
      obtain ⟨go25, co25, eo25, gb25, gl25, cl25, HG25⟩ := Kd.jAg HO_5.out (by omega)
      (first | cases eo25 | (injection eo25 with ea_ en_ ec_; (first | subst ea_ | (injection ea_ with ea_; subst ea_)); subst ec_; clear en_))
      have GB25 := jA.mk gb25
      have GG25 := jA.mk HG25
      clear gb25 gl25 HG25
      (first | simp only [add_plain] at hx161_0 | skip)
      obtain ⟨hx25_0, hf25_0⟩ := Kd.qI 0 HO_5.out (x37_2 : Int) p25 q25
      replace p25 := eq_true p25
      replace q25 := eq_true q25
      have HP38 := Kd.jCh HO_5.out (x37_2 : Int) ji24
      go_wp2_with (first | ((with_reducible refine jAF (t := 56) (p := 46) rfl ?_); refine qY (t := 56) (p := 46) (v := ?vo_w39) (w1 := (wr.setCell ⟨go25, (x37_2 : Int).toNat, none⟩ (.int .u64 ji24))) ?hg ?ho ?hn ?hr ?_; (case ho => rfl); (case hg => rfl); (case hn => rfl); (case hr => exact gs_); intro w39 hw; have hg : wr.grownBy w39 (some go25) := (by rw [hw]; exact HP38.2); have hp_ : Kd.R (Kd.int .u64) 56 w39 w.heap.size (fun k_ => (w.heap.size ≤ k_)) (.slice (some ⟨go25, 0, none⟩) x5_2.length co19) y162 := (by rw [hw, Ny162.out]; exact HP38.1); clear HP38; replace HO_5 := jA.mk (hp_); replace HB := jA.mk ((by rw [hw]; exact vP (HB.out) GB25.out : Below w.heap.size w w39)); clear hg hw hp_))
      (try simp only [← hl5_2])
      go_roundg k2
      case measure => have := HJ5.out; have := HK2.out; omega
      case rel => exact ⟨(y162), (wrap64 (x37_2 + 1)), sd_, H', ⟨by have := HJ5.out; have := HK2.out; omega⟩, ⟨by (try simp only [hl5_2]); refine pR_ ?_; exact HO_5.out⟩, ⟨(bb_ HB)⟩⟩
     rw [if_pos c27] at H
     have c27b0 := decide_eq_true c27
     clear c27
     obtain ⟨ji28, hji28⟩ : ∃ j_ : Int, (wrap64 (x37_2 + 1)) = j_ := ⟨_, rfl⟩
     replace H : (if 0 ≤ (ji28) then (if 0 ≤ (wrap64 (64 - ji15)) then (jD.l0 k2 (y162.set (x37_2 : Int).toNat (Go.bits .or .u64 (rd y162 x37_2) (shl .u64 (rd y162 (ji28)) (wrap64 (64 - ji15))))) ji15 (t158.length : Int) ji28) else (none)) else (none)) = some r := by first | (rw [hji28] at H; exact H) | (simp only [hji28] at H ⊢; exact H)
     (try rw [hji28] at c26b0)
     have hji28w : (IntKind.i64.wrap (x37_2 + 1)) = ji28 := (vF _).trans hji28
     by_cases c29 : 0 ≤ (ji28)
     rotate_left
     ·
      rw [if_neg c29] at H
      exact absurd H (by simp)
     rw [if_pos c29] at H
     have c29b0 := decide_eq_true c29
     clear c29
     obtain ⟨ji30, hji30⟩ : ∃ j_ : Int, (wrap64 (64 - ji15)) = j_ := ⟨_, rfl⟩
     replace H : (if 0 ≤ (ji30) then (jD.l0 k2 (y162.set (x37_2 : Int).toNat (Go.bits .or .u64 (rd y162 x37_2) (shl .u64 (rd y162 (ji28)) (ji30)))) ji15 (t158.length : Int) ji28) else (none)) = some r := by first | (rw [hji30] at H; exact H) | (simp only [hji30] at H ⊢; exact H)
     have hji30w : (IntKind.i64.wrap (64 - ji15)) = ji30 := (vF _).trans hji30
     by_cases c31 : 0 ≤ (ji30)
     rotate_left
     ·
      rw [if_neg c31] at H
      exact absurd H (by simp)
     rw [if_pos c31] at H
     have c31b0 := eq_true c31
     have c31b1 := decide_eq_true c31
     clear c31
     obtain ⟨ji32, hji32⟩ : ∃ j_ : Int, (shl .u64 (rd y162 (ji28)) (ji30)) = j_ := ⟨_, rfl⟩
     replace H : (jD.l0 k2 (y162.set (x37_2 : Int).toNat (Go.bits .or .u64 (rd y162 x37_2) (ji32))) ji15 (t158.length : Int) ji28) = some r := by first | (rw [hji32] at H; exact H) | (simp only [hji32] at H ⊢; exact H)
     have hji32_ : (IntKind.u64.wrap ((rd y162 (ji28)) * 2 ^ min (ji30).toNat 64)) = ji32 := hji32
     have hji32z : (ji30) ≤ 64 → (IntKind.u64.wrap ((rd y162 (ji28)) * 2 ^ (ji30).toNat)) = ji32 := jBV hji32
     obtain ⟨y165, hy165⟩ : ∃ y_ : List Int, y_ = (y162.set (x37_2 : Int).toNat (Go.bits .or .u64 (rd y162 x37_2) (ji32))) := ⟨_, rfl⟩
     replace H : (jD.l0 k2 y165 ji15 (t158.length : Int) ji28) = some r := by first | (rw [hy165]; with_reducible exact H) | (have H2_ := (Option.bind_some _ _).symm.trans H; rw [hy165]; with_reducible exact H2_) | (with_reducible exact hs_ H) | with_reducible exact H | (rw [hy165]; exact H) | exact H
     have Ny165 := jA.mk hy165
     clear hy165
     have H' := jA.mk H
     clear H
     have p161 : 0 ≤ (x37_2 : Int) := of_decide_eq_true am_
     have q161 : x37_2 < (x5_2.length : Int) := of_decide_eq_true am_
     obtain ⟨ad161, e161, hx161_0⟩ := Kd.vS (Kd.jW HO_5.out).2.2 x37_2 p161 q161
     cases e161
     replace p161 := eq_true p161
     replace q161 := eq_true q161
     have p25 : 0 ≤ (x37_2 : Int) := of_decide_eq_true am_
     have q25 : (x37_2 : Int) < ((x5_2.length : Int) : Int) := of_decide_eq_true am_
     obtain ⟨go25, co25, eo25, gb25, gl25, cl25, HG25⟩ := Kd.jAg HO_5.out (by omega)
     (first | cases eo25 | (injection eo25 with ea_ en_ ec_; (first | subst ea_ | (injection ea_ with ea_; subst ea_)); subst ec_; clear en_))
     have GB25 := jA.mk gb25
     have GG25 := jA.mk HG25
     clear gb25 gl25 HG25
     (first | simp only [add_plain] at hx161_0 | skip)
     obtain ⟨hx25_0, hf25_0⟩ := Kd.qI 0 HO_5.out (x37_2 : Int) p25 q25
     replace p25 := eq_true p25
     replace q25 := eq_true q25
     have HP34 := Kd.jCh HO_5.out (x37_2 : Int) ji24
     try go_wp2_with (first | ((with_reducible refine jAF (t := 56) (p := 46) rfl ?_); refine qY (t := 56) (p := 46) (v := ?vo_w35) (w1 := (wr.setCell ⟨go25, (x37_2 : Int).toNat, none⟩ (.int .u64 ji24))) ?hg ?ho ?hn ?hr ?_; (case ho => rfl); (case hg => rfl); (case hn => rfl); (case hr => exact gs_); intro w35 hw; have hg : wr.grownBy w35 (some go25) := (by rw [hw]; exact HP34.2); have hp_ : Kd.R (Kd.int .u64) 56 w35 w.heap.size (fun k_ => (w.heap.size ≤ k_)) (.slice (some ⟨go25, 0, none⟩) x5_2.length co19) y162 := (by rw [hw, Ny162.out]; exact HP34.1); clear HP34; replace HO_5 := jA.mk (hp_); replace HB := jA.mk ((by rw [hw]; exact vP (HB.out) GB25.out : Below w.heap.size w w35)); clear hg hw hp_))
     have n0_ := jA.mk (Kd.qL HO_5.out)
     have n1_ := jA.mk (vk HB.out)
     clear HO_5
     clear HB
     have HO_5 := n0_
     have HB := n1_
     clear n0_ n1_
     have p163 : 0 ≤ (x37_2 : Int) := of_decide_eq_true am_
     have q163 : x37_2 < (y162.length : Int) := (by have h_ : (x37_2 : Int) < ((x5_2.length : Int) : Int) := of_decide_eq_true am_; first | (have e_ := (Kd.jW HO_5.out).1; omega) | simpa only [Ny162.out, List.length_set] using h_)
     have ql163 : ((x37_2 : Int) < ((x5_2.length : Int) : Int)) = True := eq_true (of_decide_eq_true am_)
     obtain ⟨ad163, e163, hx163_0⟩ := Kd.vS (Kd.jW HO_5.out).2.2 x37_2 p163 q163
     obtain rfl : (⟨go25, 0, none⟩ : Addr) = ad163 := (by injection e163)
     (first | simp only [add_plain] at hx163_0 | simp only [jNi] at hx163_0 | simp only [Addr.add, Nat.zero_add] at hx163_0 | skip)
     replace p163 := eq_true p163
     replace q163 := eq_true q163
     have p164 : 0 ≤ ((ji28) : Int) := of_decide_eq_true am_
     have q164 : (ji28) < (y162.length : Int) := (by have h_ : ((ji28) : Int) < ((x5_2.length : Int) : Int) := of_decide_eq_true am_; first | (have e_ := (Kd.jW HO_5.out).1; omega) | simpa only [Ny162.out, List.length_set] using h_)
     have ql164 : (((ji28) : Int) < ((x5_2.length : Int) : Int)) = True := eq_true (of_decide_eq_true am_)
     obtain ⟨ad164, e164, hx164_0⟩ := Kd.vS (Kd.jW HO_5.out).2.2 (ji28) p164 q164
     obtain rfl : (⟨go25, 0, none⟩ : Addr) = ad164 := (by injection e164)
     (first | simp only [add_plain] at hx164_0 | simp only [jNi] at hx164_0 | simp only [Addr.add, Nat.zero_add] at hx164_0 | skip)
     replace p164 := eq_true p164
     replace q164 := eq_true q164
     have p33 : 0 ≤ (x37_2 : Int) := of_decide_eq_true am_
     have q33 : (x37_2 : Int) < ((x5_2.length : Int) : Int) := of_decide_eq_true am_
     obtain ⟨hx33_0, hf33_0⟩ := Kd.qI 0 HO_5.out (x37_2 : Int) p33 q33
     replace p33 := eq_true p33
     replace q33 := eq_true q33
     have HP37 := Kd.jMB HO_5.out (x37_2 : Int) (Go.bits .or .u64 (rd y162 x37_2) (ji32))
     rw [← Ny165.out] at HP37
     have HQ37 := jA.mk HP37
     clear HP37
     refine zw (n := 15) (S := fun w' => w'.cell? ⟨go25, (x37_2).toNat, none⟩ = some (.int .u64 (rd y162 x37_2)) ∧ w'.cell? ⟨go25, ((ji28)).toNat, none⟩ = some (.int .u64 (rd y162 (ji28)))) (ds := [14]) #[false, false, false, false, false, false, false, false, false, false, false, false, false, false, false] kr_ rfl rfl ⟨hx163_0, hx164_0⟩ (fun hHeld => ?_); refine qd jD.jRM jD.jQj (fun HT_ HW_ => ?_)
     generalize w35.drew = w36 at HO_5 HB HQ37 hf33_0 hx163_0 hx164_0 hx33_0 hHeld ⊢
     refine pu_ 0 (some 56) (ba_ 15 1) (jR HT_.out kr_) ?_
     refine pu_ 1 (some 57) (ba_ 15 3) (jR HT_.out kr_) ?_
     refine pu_ 2 (some 58) (ba_ 15 7) (jR HT_.out kr_) ?_
     refine pu_ 4 (some 60) (ba_ 15 23) (jR HT_.out kr_) ?_
     refine pu_ 5 (some 61) (ba_ 15 55) (jR HT_.out kr_) ?_
     refine pu_ 6 (some 62) (ba_ 15 119) (jR HT_.out kr_) ?_
     refine pu_ 7 (some 63) (ba_ 15 247) (jR HT_.out kr_) ?_
     refine pu_ 9 (some 65) (ba_ 15 759) (jR HT_.out kr_) ?_
     refine pu_ 10 (some 66) (ba_ 15 1783) (jR HT_.out kr_) ?_
     refine tk2_ 3 (some 59) (ba_ 15 1791) (ze HT_.out HW_.out kr_) hHeld ?_
     refine tk2_ 8 (some 64) (ba_ 15 2047) (ze HT_.out HW_.out kr_) hHeld ?_
     refine pu_ 11 (some 67) (ba_ 15 4095) (jR HT_.out kr_) ?_
     refine pu_ 12 (some 68) (ba_ 15 8191) (jR HT_.out kr_) ?_
     refine pu_ 13 (some 69) (ba_ 15 16383) (jR HT_.out kr_) ?_
     refine jAh (i := 14) (N := none) (ba_ 15 32767) rfl rfl (qb HT_.out kr_) (by decide) (fun K hK => ?_)
     refine jAq (w1 := ?_) (by rfl) rfl ?_ ?_
     rotate_left
     ·
      go_simp
      rfl
     refine hK.out _ _ ?_
     clear hK K
     refine jAR (jBG HT_.out kr_) ?_
     try go_wp2
     (try simp only [← hl5_2])
     go_roundg k2
     case measure => have := HJ5.out; have := HK2.out; omega
     case rel => exact ⟨(y165), (ji28), (by first | rfl | (simp; done) | (simp only [← hji28] <;> (first | rfl | simp)) | (simp [*]; done)), H', ⟨by have := HJ5.out; have := HK2.out; omega⟩, ⟨by (try simp only [hl5_2]); refine pR_ ?_; exact HQ37.out⟩, ⟨(bb1_ HB GB25)⟩⟩
end Go.Proofs.YtoganbmeedimiaaGreat.POPressOne
