-- Written by a program of this session (pr.py, over the kit's print.py).
import Derived.Test.YtijgeonhbmgikaaPORatioOnex0
import Derived.Test.YtijgeonhbmgikaaPORatioOnex1
namespace Go.Proofs.Ytijgeonhbmgikaa.PORatioOne
open Go.RowKit Go.Proofs.YtijgeonhbmgikaaN Go.Proofs.YtijgeonhbmgikaaW.PrintWords Go.Proofs.YtijgeonhbmgikaaW.PrintLast Go.Proofs.YtijgeonhbmgikaaW.PrintMore
attribute [local go_sem] max2_int min2_int max_two min_two max_three min_three max_four min_four   -- for this text's walks alone
set_option linter.unusedVariables false
set_option linter.unusedSimpArgs false

/-! ### syzygyref01_Mul: function 23 -/
mutual
def syzygyref01_Mul.l0 : Nat → List Int → List Int → List Int → Int → Option (List Int)
 | 0, _, _, _, _ => none
 | k + 1, x5, x6, x7, x8 => if x8 < (wrap64 ((wrap64 ((x5.length : Int) + (x6.length : Int))) + 1)) then (if x7.length < 17592186044416 then (syzygyref01_Mul.l0 k x5 x6 (x7 ++ [0]) (wrap64 (x8 + 1))) else (none)) else (syzygyref01_Mul.l1 k x5 x6 x7 0)
def syzygyref01_Mul.l1 : Nat → List Int → List Int → List Int → Int → Option (List Int)
 | 0, _, _, _, _ => none
 | k + 1, x5, x6, x7, x9 => if x9 < (x5.length : Int) then (syzygyref01_Mul.l2 k x5 x6 x7 x9 0 0) else ((syzygyref01_Whole.f k x7).bind fun t154 => (some t154))
def syzygyref01_Mul.l2 : Nat → List Int → List Int → List Int → Int → Int → Int → Option (List Int)
 | 0, _, _, _, _, _, _ => none
 | k + 1, x5, x6, x7, x9, x10, x11 => if x11 < (x6.length : Int) then (if 0 ≤ (wrap64 (x9 + x11)) then (if (wrap64 (x9 + x11)) < (x7.length : Int) then (if 0 ≤ x9 then (if x9 < (x5.length : Int) then ((syzygyref01_at.f x6 x11).bind fun t159 => (syzygyref01_Mul.l2 k x5 x6 (x7.set ((wrap64 (x9 + x11)) : Int).toNat (Int.tmod (IntKind.u64.wrap ((IntKind.u64.wrap ((rd x7 (wrap64 (x9 + x11))) + (IntKind.u64.wrap ((rd x5 x9) * t159)))) + x10)) 4294967296)) x9 (IntKind.u64.wrap (Int.tdiv (IntKind.u64.wrap ((IntKind.u64.wrap ((rd x7 (wrap64 (x9 + x11))) + (IntKind.u64.wrap ((rd x5 x9) * t159)))) + x10)) 4294967296)) (wrap64 (x11 + 1)))) else (none)) else (none)) else (none)) else (none)) else (if x10 > 0 then (if 0 ≤ (wrap64 (x9 + x11)) then (if (wrap64 (x9 + x11)) < (x7.length : Int) then (if 0 ≤ x9 then (if x9 < (x5.length : Int) then ((syzygyref01_at.f x6 x11).bind fun t163 => (syzygyref01_Mul.l2 k x5 x6 (x7.set ((wrap64 (x9 + x11)) : Int).toNat (Int.tmod (IntKind.u64.wrap ((IntKind.u64.wrap ((rd x7 (wrap64 (x9 + x11))) + (IntKind.u64.wrap ((rd x5 x9) * t163)))) + x10)) 4294967296)) x9 (IntKind.u64.wrap (Int.tdiv (IntKind.u64.wrap ((IntKind.u64.wrap ((rd x7 (wrap64 (x9 + x11))) + (IntKind.u64.wrap ((rd x5 x9) * t163)))) + x10)) 4294967296)) (wrap64 (x11 + 1)))) else (none)) else (none)) else (none)) else (none)) else (syzygyref01_Mul.l1 k x5 x6 x7 (wrap64 (x9 + 1))))
end
def syzygyref01_Mul.f (k : Nat) (l0 : List Int) (l1 : List Int) : Option (List Int) := (syzygyref01_Digits.f k l0).bind fun t142 => ((syzygyref01_Digits.f k l1).bind fun t145 => (syzygyref01_Mul.l0 k t142 t145 (([] : List Int)) 0))
theorem syzygyref01_Mul.mono_l : ∀ k, (∀ y0 y1 y2 y3, LeO (syzygyref01_Mul.l0 k y0 y1 y2 y3) (syzygyref01_Mul.l0 (k + 1) y0 y1 y2 y3)) ∧ (∀ y0 y1 y2 y3, LeO (syzygyref01_Mul.l1 k y0 y1 y2 y3) (syzygyref01_Mul.l1 (k + 1) y0 y1 y2 y3)) ∧ (∀ y0 y1 y2 y3 y4 y5, LeO (syzygyref01_Mul.l2 k y0 y1 y2 y3 y4 y5) (syzygyref01_Mul.l2 (k + 1) y0 y1 y2 y3 y4 y5))
 | 0 => ⟨fun _ _ _ _ r h => by simp [syzygyref01_Mul.l0] at h, fun _ _ _ _ r h => by simp [syzygyref01_Mul.l1] at h, fun _ _ _ _ _ _ r h => by simp [syzygyref01_Mul.l2] at h⟩
 | k + 1 => by
  obtain ⟨ih0, ih1, ih2⟩ := syzygyref01_Mul.mono_l k
  refine ⟨?_, ?_, ?_⟩
  ·
   intro y0 y1 y2 y3
   unfold syzygyref01_Mul.l0
   repeat' first
   | (with_reducible exact ih0 _ _ _ _)
   | (with_reducible exact ih1 _ _ _ _)
   | (with_reducible exact ih2 _ _ _ _ _ _)
   | (with_reducible exact syzygyref01_Digits.mono _ _)
   | (with_reducible exact syzygyref01_Whole.mono _ _)
   | (with_reducible exact LeO.refl _)
   | (with_reducible exact LeO.none _)
   | (with_reducible refine LeO.ite ?_ ?_)
   | (with_reducible refine LeO.bind ?_ (fun _ => ?_))
  ·
   intro y0 y1 y2 y3
   unfold syzygyref01_Mul.l1
   repeat' first
   | (with_reducible exact ih0 _ _ _ _)
   | (with_reducible exact ih1 _ _ _ _)
   | (with_reducible exact ih2 _ _ _ _ _ _)
   | (with_reducible exact syzygyref01_Digits.mono _ _)
   | (with_reducible exact syzygyref01_Whole.mono _ _)
   | (with_reducible exact LeO.refl _)
   | (with_reducible exact LeO.none _)
   | (with_reducible refine LeO.ite ?_ ?_)
   | (with_reducible refine LeO.bind ?_ (fun _ => ?_))
  ·
   intro y0 y1 y2 y3 y4 y5
   unfold syzygyref01_Mul.l2
   repeat' first
   | (with_reducible exact ih0 _ _ _ _)
   | (with_reducible exact ih1 _ _ _ _)
   | (with_reducible exact ih2 _ _ _ _ _ _)
   | (with_reducible exact syzygyref01_Digits.mono _ _)
   | (with_reducible exact syzygyref01_Whole.mono _ _)
   | (with_reducible exact LeO.refl _)
   | (with_reducible exact LeO.none _)
   | (with_reducible refine LeO.ite ?_ ?_)
   | (with_reducible refine LeO.bind ?_ (fun _ => ?_))
theorem syzygyref01_Mul.mono : ∀ a0 a1 k, LeO (syzygyref01_Mul.f k a0 a1) (syzygyref01_Mul.f (k + 1) a0 a1) := by
 intro a0 a1 k
 obtain ⟨ih0, ih1, ih2⟩ := syzygyref01_Mul.mono_l k
 unfold syzygyref01_Mul.f
 repeat' first
   | (with_reducible exact ih0 _ _ _ _)
   | (with_reducible exact ih1 _ _ _ _)
   | (with_reducible exact ih2 _ _ _ _ _ _)
   | (with_reducible exact syzygyref01_Digits.mono _ _)
   | (with_reducible exact syzygyref01_Whole.mono _ _)
   | (with_reducible exact LeO.refl _)
   | (with_reducible exact LeO.none _)
   | (with_reducible refine LeO.ite ?_ ?_)
   | (with_reducible refine LeO.bind ?_ (fun _ => ?_))
set_option maxHeartbeats 8000000 in
set_option maxRecDepth 100000 in
theorem syzygyref01_Mul.calls (k : Nat) (A0 : Option Addr) (c0 : Nat) (l0 : List Int) (A1 : Option Addr) (c1 : Nat) (l1 : List Int) (r : List Int) (w : World) (hr0 : Kd.C (Kd.int .u64) w A0 l0.length l0) (hc0 : l0.length ≤ c0) (hr1 : Kd.C (Kd.int .u64) w A1 l1.length l1) (hc1 : l1.length ≤ c1) (h : syzygyref01_Mul.f k l0 l1 = some r) :
  Calls Try.prog 23 #[.slice A0 l0.length c0, .slice A1 l1.length c1] w fun e w' => ∃ v0_ : Value, e = .returned (v0_) ∧ Kd.R (Kd.int .u64) 22 w' w.heap.size (fun _ => True) v0_ r ∧ Below w.heap.size w w' := by
 have HR0 := Aside0.mk hr0
 have HC0 := Aside0.mk hc0
 clear hr0 hc0
 have HR1 := Aside0.mk hr1
 have HC1 := Aside0.mk hc1
 clear hr1 hc1
 have HB := Aside0.mk (Below.refl w.heap.size w)
 have H : ((syzygyref01_Digits.f k l0).bind fun t142 => ((syzygyref01_Digits.f k l1).bind fun t145 => (syzygyref01_Mul.l0 k t142 t145 (([] : List Int)) 0))) = some r := h
 clear h
 replace H := Option.bind_eq_some_iff.mp H
 obtain ⟨t142, A30, H⟩ := H
 replace H : ((syzygyref01_Digits.f k l1).bind fun t145 => (syzygyref01_Mul.l0 k t142 t145 (([] : List Int)) 0)) = some r := H
 have A3 := Aside0.mk A30
 clear A30
 replace H := Option.bind_eq_some_iff.mp H
 obtain ⟨t145, A40, H⟩ := H
 replace H : (syzygyref01_Mul.l0 k t142 t145 (([] : List Int)) 0) = some r := H
 have A4 := Aside0.mk A40
 clear A40
 obtain ⟨y148, hy148⟩ : ∃ y_ : List Int, y_ = (([] : List Int)) := ⟨_, rfl⟩
 replace H : (syzygyref01_Mul.l0 k t142 t145 y148 0) = some r := by first | (rw [hy148]; with_reducible exact H) | (have H2_ := (Option.bind_some _ _).symm.trans H; rw [hy148]; with_reducible exact H2_) | (have H2_ := (Option.bind_some _ _).symm.trans H; with_reducible exact H2_) | with_reducible exact H | (rw [hy148]; exact H) | exact H
 have Ny148 := Aside0.mk hy148
 clear hy148
 have H' := Aside0.mk H
 clear H
 go_enter Try.func23, Try.ntmps23
 go_wp2_with (first | (go_at_call 68; (with_reducible refine (syzygyref01_Digits.calls k _ _ l0 t142 _ ?side1 ?side2 A3.out).mono ?_); (case side1 => exact cc_ HR0.out); (case side2 => exact HC0.out); rintro e w5 ⟨v143, rfl, ho0, hb⟩; have n0_ := Aside0.mk (Kd.R_lower ho0 (below_size (bb_ HB))); have n1_ := Aside0.mk (below_step (bb_ HB) hb); clear HB; have HO144 := n0_; have HB := n1_; clear n0_ n1_; (try clear hb); (try clear hb2); (try clear hk); (try clear hi); (try clear ho0)) | (go_at_call 68; (with_reducible refine (syzygyref01_Digits.calls k _ _ l1 t145 _ ?side1 ?side2 A4.out).mono ?_); (case side1 => exact cc_ (Kd.C_below HR1.out HB.out)); (case side2 => exact HC1.out); rintro e w6 ⟨v146, rfl, ho0, hb⟩; have n0_ := Aside0.mk (Kd.R_elder' (rR_ HO144) (Kd.R_base ho0) hb); have n1_ := Aside0.mk (Kd.R_lower (Kd.R_new' ho0 (Kd.R_lt (rR_ HO144))) (below_size (bb_ HB))); have n2_ := Aside0.mk (below_step (bb_ HB) hb); clear HO144; clear HB; have HO144 := n0_; have HO147 := n1_; have HB := n2_; clear n0_ n1_ n2_; (try clear hb); (try clear hb2); (try clear hk); (try clear hi); (try clear ho0)) | ((with_reducible refine gate_dst (N := 17) rfl ?_); refine Kd.R_lit (Kd.int .u64) _ 22 ?hg (N := 17) ?hd (xs := ([] : List Int)) (inner := []) (ok := fun _ => True) (okp := fun _ => True) ?hr ?hp (fun _ hk => hk) trivial (Below.refl _ _) (Nat.le_refl _) (by simp) ?_; (case hd => rfl); (case hg => rfl); (case hr => exact gs_); (case hp => exact (Reps.none _ _)); intro v149 w7 ho8 hb hg_ hnew_; clear hg_ hnew_; (first | rw [← Ny148.out] at ho8 | (simp only [Int.reduceToNat] at ho8; rw [← Ny148.out] at ho8)); have n0_ := Aside0.mk (Kd.R_elder' (rR_ HO144) (Kd.R_base ho8) hb); have n1_ := Aside0.mk (Kd.R_elder' (rR_ HO147) (Kd.R_base ho8) hb); have n2_ := Aside0.mk (Kd.R_lower (Kd.R_new' (Kd.R_new' ho8 (Kd.R_lt (rR_ HO144))) (Kd.R_lt (rR_ HO147))) (below_size (bb_ HB))); have n3_ := Aside0.mk (below_step (bb_ HB) hb); clear HO144; clear HO147; clear HB; have HO144 := n0_; have HO147 := n1_; have HO150 := n2_; have HB := n3_; clear n0_ n1_ n2_ n3_; clear hb ho8))
 repeat (go_quiet (first | (go_at_call 68; (with_reducible refine (syzygyref01_Digits.calls k _ _ l0 t142 _ ?side1 ?side2 A3.out).mono ?_); (case side1 => exact cc_ HR0.out); (case side2 => exact HC0.out); rintro e w5 ⟨v143, rfl, ho0, hb⟩; have n0_ := Aside0.mk (Kd.R_lower ho0 (below_size (bb_ HB))); have n1_ := Aside0.mk (below_step (bb_ HB) hb); clear HB; have HO144 := n0_; have HB := n1_; clear n0_ n1_; (try clear hb); (try clear hb2); (try clear hk); (try clear hi); (try clear ho0)) | (go_at_call 68; (with_reducible refine (syzygyref01_Digits.calls k _ _ l1 t145 _ ?side1 ?side2 A4.out).mono ?_); (case side1 => exact cc_ (Kd.C_below HR1.out HB.out)); (case side2 => exact HC1.out); rintro e w6 ⟨v146, rfl, ho0, hb⟩; have n0_ := Aside0.mk (Kd.R_elder' (rR_ HO144) (Kd.R_base ho0) hb); have n1_ := Aside0.mk (Kd.R_lower (Kd.R_new' ho0 (Kd.R_lt (rR_ HO144))) (below_size (bb_ HB))); have n2_ := Aside0.mk (below_step (bb_ HB) hb); clear HO144; clear HB; have HO144 := n0_; have HO147 := n1_; have HB := n2_; clear n0_ n1_ n2_; (try clear hb); (try clear hb2); (try clear hk); (try clear hi); (try clear ho0)) | ((with_reducible refine gate_dst (N := 17) rfl ?_); refine Kd.R_lit (Kd.int .u64) _ 22 ?hg (N := 17) ?hd (xs := ([] : List Int)) (inner := []) (ok := fun _ => True) (okp := fun _ => True) ?hr ?hp (fun _ hk => hk) trivial (Below.refl _ _) (Nat.le_refl _) (by simp) ?_; (case hd => rfl); (case hg => rfl); (case hr => exact gs_); (case hp => exact (Reps.none _ _)); intro v149 w7 ho8 hb hg_ hnew_; clear hg_ hnew_; (first | rw [← Ny148.out] at ho8 | (simp only [Int.reduceToNat] at ho8; rw [← Ny148.out] at ho8)); have n0_ := Aside0.mk (Kd.R_elder' (rR_ HO144) (Kd.R_base ho8) hb); have n1_ := Aside0.mk (Kd.R_elder' (rR_ HO147) (Kd.R_base ho8) hb); have n2_ := Aside0.mk (Kd.R_lower (Kd.R_new' (Kd.R_new' ho8 (Kd.R_lt (rR_ HO144))) (Kd.R_lt (rR_ HO147))) (below_size (bb_ HB))); have n3_ := Aside0.mk (below_step (bb_ HB) hb); clear HO144; clear HO147; clear HB; have HO144 := n0_; have HO147 := n1_; have HO150 := n2_; have HB := n3_; clear n0_ n1_ n2_ n3_; clear hb ho8)); try go_wp2_with (first | (go_at_call 68; (with_reducible refine (syzygyref01_Digits.calls k _ _ l0 t142 _ ?side1 ?side2 A3.out).mono ?_); (case side1 => exact cc_ HR0.out); (case side2 => exact HC0.out); rintro e w5 ⟨v143, rfl, ho0, hb⟩; have n0_ := Aside0.mk (Kd.R_lower ho0 (below_size (bb_ HB))); have n1_ := Aside0.mk (below_step (bb_ HB) hb); clear HB; have HO144 := n0_; have HB := n1_; clear n0_ n1_; (try clear hb); (try clear hb2); (try clear hk); (try clear hi); (try clear ho0)) | (go_at_call 68; (with_reducible refine (syzygyref01_Digits.calls k _ _ l1 t145 _ ?side1 ?side2 A4.out).mono ?_); (case side1 => exact cc_ (Kd.C_below HR1.out HB.out)); (case side2 => exact HC1.out); rintro e w6 ⟨v146, rfl, ho0, hb⟩; have n0_ := Aside0.mk (Kd.R_elder' (rR_ HO144) (Kd.R_base ho0) hb); have n1_ := Aside0.mk (Kd.R_lower (Kd.R_new' ho0 (Kd.R_lt (rR_ HO144))) (below_size (bb_ HB))); have n2_ := Aside0.mk (below_step (bb_ HB) hb); clear HO144; clear HB; have HO144 := n0_; have HO147 := n1_; have HB := n2_; clear n0_ n1_ n2_; (try clear hb); (try clear hb2); (try clear hk); (try clear hi); (try clear ho0)) | ((with_reducible refine gate_dst (N := 17) rfl ?_); refine Kd.R_lit (Kd.int .u64) _ 22 ?hg (N := 17) ?hd (xs := ([] : List Int)) (inner := []) (ok := fun _ => True) (okp := fun _ => True) ?hr ?hp (fun _ hk => hk) trivial (Below.refl _ _) (Nat.le_refl _) (by simp) ?_; (case hd => rfl); (case hg => rfl); (case hr => exact gs_); (case hp => exact (Reps.none _ _)); intro v149 w7 ho8 hb hg_ hnew_; clear hg_ hnew_; (first | rw [← Ny148.out] at ho8 | (simp only [Int.reduceToNat] at ho8; rw [← Ny148.out] at ho8)); have n0_ := Aside0.mk (Kd.R_elder' (rR_ HO144) (Kd.R_base ho8) hb); have n1_ := Aside0.mk (Kd.R_elder' (rR_ HO147) (Kd.R_base ho8) hb); have n2_ := Aside0.mk (Kd.R_lower (Kd.R_new' (Kd.R_new' ho8 (Kd.R_lt (rR_ HO144))) (Kd.R_lt (rR_ HO147))) (below_size (bb_ HB))); have n3_ := Aside0.mk (below_step (bb_ HB) hb); clear HO144; clear HO147; clear HB; have HO144 := n0_; have HO147 := n1_; have HO150 := n2_; have HB := n3_; clear n0_ n1_ n2_ n3_; clear hb ho8)))
 go_loopg [7, 8] k (fun kq v7 v8 w' => ∃ (x7_1 : List Int) (x8_1 : Int), v8 = .int .i64 x8_1 ∧ Aside0 (syzygyref01_Mul.l0 kq t142 t145 x7_1 x8_1 = some r) ∧ Aside0 (kq ≤ k) ∧ Aside0 (Kd.R (Kd.int .u64) 22 w' w.heap.size (fun k_ => some k_ ≠ (v146 : Value).ownBlock ∧ some k_ ≠ (v7 : Value).ownBlock) v143 t142) ∧ Aside0 (Kd.R (Kd.int .u64) 22 w' w.heap.size (fun k_ => some k_ ≠ (v143 : Value).ownBlock ∧ some k_ ≠ (v7 : Value).ownBlock) v146 t145) ∧ Aside0 (Kd.R (Kd.int .u64) 22 w' w.heap.size (fun k_ => some k_ ≠ (v143 : Value).ownBlock ∧ some k_ ≠ (v146 : Value).ownBlock) v7 x7_1) ∧ Aside0 (Below w.heap.size w w'))
 case atStart => exact ⟨(y148), (0), sd_, H', ⟨Nat.le_refl _⟩, ⟨by (with_reducible repeat (first | apply Kd.R_alloc | apply Kd.R_drewN | apply Kd.R_drew)); exact Kd.R_mono HO144.out (fun _ hk => ⟨hk.1.2, hk.2⟩)⟩, ⟨by (with_reducible repeat (first | apply Kd.R_alloc | apply Kd.R_drewN | apply Kd.R_drew)); exact Kd.R_mono HO147.out (fun _ hk => ⟨hk.1.2, hk.2⟩)⟩, ⟨by (with_reducible repeat (first | apply Kd.R_alloc | apply Kd.R_drewN | apply Kd.R_drew)); exact Kd.R_mono HO150.out (fun _ hk => ⟨hk.1.2, hk.2⟩)⟩, ⟨by repeat (first | (with_reducible first | exact HB.out | apply below_alloc | apply pw_below_drewN | apply below_drew1) | exact HB.out)⟩⟩
 case round =>
  clear H'
  try clear c1
  try clear c2
  try clear p2
  obtain ⟨x7_1, x8_1, rfl, HA, HK1, HO_5, HO_6, HO_7, HB⟩ := hrel
  cases gk with
  | zero => exact absurd HA.out (by simp [syzygyref01_Mul.l0])
  | succ k1 =>
   have H := HA.out
   clear HA
   simp only [syzygyref01_Mul.l0] at H
   by_cases c9 : x8_1 < (wrap64 ((wrap64 ((t142.length : Int) + (t145.length : Int))) + 1))
   ·
    rw [if_pos c9] at H
    have c9b0 : decide (x8_1 < (wrap64 ((wrap64 ((t142.length : Int) + (t145.length : Int))) + 1))) = true := decide_eq_true c9
    clear c9
    by_cases c10 : x7_1.length < 17592186044416
    ·
     rw [if_pos c10] at H
     have LMc10 := Aside0.mk c10
     clear c10
     obtain ⟨y151, hy151⟩ : ∃ y_ : List Int, y_ = (x7_1 ++ [0]) := ⟨_, rfl⟩
     replace H : (syzygyref01_Mul.l0 k1 t142 t145 y151 (wrap64 (x8_1 + 1))) = some r := by first | (rw [hy151]; with_reducible exact H) | (have H2_ := (Option.bind_some _ _).symm.trans H; rw [hy151]; with_reducible exact H2_) | (have H2_ := (Option.bind_some _ _).symm.trans H; with_reducible exact H2_) | with_reducible exact H | (rw [hy151]; exact H) | exact H
     have Ny151 := Aside0.mk hy151
     clear hy151
     have H' := Aside0.mk H
     clear H
     obtain ⟨Ao11, co11, eo11⟩ := Kd.R_slice HO_5.out
     subst eo11
     obtain ⟨Ao12, co12, eo12⟩ := Kd.R_slice HO_6.out
     subst eo12
     go_wp2_with (first | ((with_reducible refine gate_builtin (b := .append) (xs := #[.tmp 28, .tmp 29]) rfl ?_); at_builtin; refine Kd.R_append (Kd.int .u64) (w0 := w) w.heap.size rfl (.tmp 28) (.tmp 29) 35 22 (.int .u64 0) 8 rfl Try.underlying35 info22 rfl (by decide) (by omega) u7 x7_1 0 [.int .u64 0] (fun k_ => some k_ ≠ (.slice Ao11 t142.length co11 : Value).ownBlock ∧ some k_ ≠ (.slice Ao12 t145.length co12 : Value).ownBlock) (fun _ => False) rfl rfl ?aP (fun _ hk => hk.elim) ?aF ?aO ?aB ?aS ?aL ?_; (case aP => exact rfl); (case aB => exact (bb_ HB)); (case aF => exact (fun k_ hk => ⟨Kd.fresh' (Kd.R_lt (rR_ HO_5)) k_ hk, Kd.fresh' (Kd.R_lt (rR_ HO_6)) k_ hk⟩)); (case aO => exact (rR_ HO_7)); (case aS => exact (below_size (bb_ HB))); (case aL => have := LMc10.out; omega); intro v152 w13 ho hb hg hat; rw [← Ny151.out] at ho; have n0_ := Aside0.mk (Kd.R_after (ok := (fun k_ => some k_ ≠ (.slice Ao12 t145.length co12 : Value).ownBlock)) (rR_ HO_5) hg hat); have n1_ := Aside0.mk (Kd.R_after (ok := (fun k_ => some k_ ≠ (.slice Ao11 t142.length co11 : Value).ownBlock)) (rR_ HO_6) hg hat); have n2_ := Aside0.mk (hb); have n3_ := Aside0.mk (ho); clear HO_5; clear HO_6; clear HB; clear HO_7; have HO_5 := n0_; have HO_6 := n1_; have HB := n2_; have HO153 := n3_; clear n0_ n1_ n2_ n3_; clear ho hb hg hat))
     repeat (go_quiet (first | ((with_reducible refine gate_builtin (b := .append) (xs := #[.tmp 28, .tmp 29]) rfl ?_); at_builtin; refine Kd.R_append (Kd.int .u64) (w0 := w) w.heap.size rfl (.tmp 28) (.tmp 29) 35 22 (.int .u64 0) 8 rfl Try.underlying35 info22 rfl (by decide) (by omega) u7 x7_1 0 [.int .u64 0] (fun k_ => some k_ ≠ (.slice Ao11 t142.length co11 : Value).ownBlock ∧ some k_ ≠ (.slice Ao12 t145.length co12 : Value).ownBlock) (fun _ => False) rfl rfl ?aP (fun _ hk => hk.elim) ?aF ?aO ?aB ?aS ?aL ?_; (case aP => exact rfl); (case aB => exact (bb_ HB)); (case aF => exact (fun k_ hk => ⟨Kd.fresh' (Kd.R_lt (rR_ HO_5)) k_ hk, Kd.fresh' (Kd.R_lt (rR_ HO_6)) k_ hk⟩)); (case aO => exact (rR_ HO_7)); (case aS => exact (below_size (bb_ HB))); (case aL => have := LMc10.out; omega); intro v152 w13 ho hb hg hat; rw [← Ny151.out] at ho; have n0_ := Aside0.mk (Kd.R_after (ok := (fun k_ => some k_ ≠ (.slice Ao12 t145.length co12 : Value).ownBlock)) (rR_ HO_5) hg hat); have n1_ := Aside0.mk (Kd.R_after (ok := (fun k_ => some k_ ≠ (.slice Ao11 t142.length co11 : Value).ownBlock)) (rR_ HO_6) hg hat); have n2_ := Aside0.mk (hb); have n3_ := Aside0.mk (ho); clear HO_5; clear HO_6; clear HB; clear HO_7; have HO_5 := n0_; have HO_6 := n1_; have HB := n2_; have HO153 := n3_; clear n0_ n1_ n2_ n3_; clear ho hb hg hat)); try go_wp2_with (first | ((with_reducible refine gate_builtin (b := .append) (xs := #[.tmp 28, .tmp 29]) rfl ?_); at_builtin; refine Kd.R_append (Kd.int .u64) (w0 := w) w.heap.size rfl (.tmp 28) (.tmp 29) 35 22 (.int .u64 0) 8 rfl Try.underlying35 info22 rfl (by decide) (by omega) u7 x7_1 0 [.int .u64 0] (fun k_ => some k_ ≠ (.slice Ao11 t142.length co11 : Value).ownBlock ∧ some k_ ≠ (.slice Ao12 t145.length co12 : Value).ownBlock) (fun _ => False) rfl rfl ?aP (fun _ hk => hk.elim) ?aF ?aO ?aB ?aS ?aL ?_; (case aP => exact rfl); (case aB => exact (bb_ HB)); (case aF => exact (fun k_ hk => ⟨Kd.fresh' (Kd.R_lt (rR_ HO_5)) k_ hk, Kd.fresh' (Kd.R_lt (rR_ HO_6)) k_ hk⟩)); (case aO => exact (rR_ HO_7)); (case aS => exact (below_size (bb_ HB))); (case aL => have := LMc10.out; omega); intro v152 w13 ho hb hg hat; rw [← Ny151.out] at ho; have n0_ := Aside0.mk (Kd.R_after (ok := (fun k_ => some k_ ≠ (.slice Ao12 t145.length co12 : Value).ownBlock)) (rR_ HO_5) hg hat); have n1_ := Aside0.mk (Kd.R_after (ok := (fun k_ => some k_ ≠ (.slice Ao11 t142.length co11 : Value).ownBlock)) (rR_ HO_6) hg hat); have n2_ := Aside0.mk (hb); have n3_ := Aside0.mk (ho); clear HO_5; clear HO_6; clear HB; clear HO_7; have HO_5 := n0_; have HO_6 := n1_; have HB := n2_; have HO153 := n3_; clear n0_ n1_ n2_ n3_; clear ho hb hg hat)))
     go_roundg k1
     case measure => have := HK1.out; omega
     case rel => exact ⟨(y151), (wrap64 (x8_1 + 1)), sd_, H', ⟨by have := HK1.out; omega⟩, ⟨by (with_reducible repeat (first | apply Kd.R_alloc | apply Kd.R_drewN | apply Kd.R_drew)); exact HO_5.out⟩, ⟨by (with_reducible repeat (first | apply Kd.R_alloc | apply Kd.R_drewN | apply Kd.R_drew)); exact HO_6.out⟩, ⟨by (with_reducible repeat (first | apply Kd.R_alloc | apply Kd.R_drewN | apply Kd.R_drew)); exact HO153.out⟩, ⟨by repeat (first | (with_reducible first | exact HB.out | apply below_alloc | apply pw_below_drewN | apply below_drew1) | exact HB.out)⟩⟩
    ·
     rw [if_neg c10] at H
     exact absurd H (by simp)
   ·
    rw [if_neg c9] at H
    have c9b0 : decide (x8_1 < (wrap64 ((wrap64 ((t142.length : Int) + (t145.length : Int))) + 1))) = false := decide_eq_false c9
    clear c9
    have H' := Aside0.mk H
    clear H
    obtain ⟨Ao14, co14, eo14⟩ := Kd.R_slice HO_5.out
    subst eo14
    obtain ⟨Ao15, co15, eo15⟩ := Kd.R_slice HO_6.out
    subst eo15
    go_wp2
    repeat (go_quiet (fail); try go_wp2)
    go_loopg [9] k1 (fun kq v9 w' => ∃ (x7_2 : List Int) (x9_2 : Int), v9 = .int .i64 x9_2 ∧ Aside0 (syzygyref01_Mul.l1 kq t142 t145 x7_2 x9_2 = some r) ∧ Aside0 (kq ≤ k1) ∧ Aside0 (Kd.R (Kd.int .u64) 22 w' w.heap.size (fun k_ => some k_ ≠ ((.slice Ao15 t145.length co15) : Value).ownBlock ∧ some k_ ≠ (u7 : Value).ownBlock) (.slice Ao14 t142.length co14) t142) ∧ Aside0 (Kd.R (Kd.int .u64) 22 w' w.heap.size (fun k_ => some k_ ≠ ((.slice Ao14 t142.length co14) : Value).ownBlock ∧ some k_ ≠ (u7 : Value).ownBlock) (.slice Ao15 t145.length co15) t145) ∧ Aside0 (Kd.R (Kd.int .u64) 22 w' w.heap.size (fun k_ => some k_ ≠ ((.slice Ao14 t142.length co14) : Value).ownBlock ∧ some k_ ≠ ((.slice Ao15 t145.length co15) : Value).ownBlock) u7 x7_2) ∧ Aside0 (Below w.heap.size w w'))
    case atStart => exact ⟨(x7_1), (0), sd_, H', ⟨Nat.le_refl _⟩, ⟨by (with_reducible repeat (first | apply Kd.R_alloc | apply Kd.R_drewN | apply Kd.R_drew)); exact HO_5.out⟩, ⟨by (with_reducible repeat (first | apply Kd.R_alloc | apply Kd.R_drewN | apply Kd.R_drew)); exact HO_6.out⟩, ⟨by (with_reducible repeat (first | apply Kd.R_alloc | apply Kd.R_drewN | apply Kd.R_drew)); exact HO_7.out⟩, ⟨by repeat (first | (with_reducible first | exact HB.out | apply below_alloc | apply pw_below_drewN | apply below_drew1) | exact HB.out)⟩⟩
    case round =>
     clear H'
     try clear c1
     try clear c2
     try clear p2
     try clear p6
     try clear c9
     try clear c9b0
     try clear c10
     try clear p2
     obtain ⟨x7_2, x9_2, rfl, HA, HK2, HO_5, HO_6, HO_7, HB⟩ := hrel
     cases gk with
     | zero => exact absurd HA.out (by simp [syzygyref01_Mul.l1])
     | succ k2 =>
      have H := HA.out
      clear HA
      simp only [syzygyref01_Mul.l1] at H
      by_cases c16 : x9_2 < (t142.length : Int)
      ·
       rw [if_pos c16] at H
       have c16b0 : decide (x9_2 < (t142.length : Int)) = true := decide_eq_true c16
       clear c16
       have H' := Aside0.mk H
       clear H
       go_wp2
       repeat (go_quiet (fail); try go_wp2)
       go_loopg [10, 11] k2 (fun kq v10 v11 w' => ∃ (x7_3 : List Int) (x10_3 : Int) (x11_3 : Int), v10 = .int .u64 x10_3 ∧ v11 = .int .i64 x11_3 ∧ Aside0 (syzygyref01_Mul.l2 kq t142 t145 x7_3 x9_2 x10_3 x11_3 = some r) ∧ Aside0 (kq ≤ k2) ∧ Aside0 (Kd.R (Kd.int .u64) 22 w' w.heap.size (fun k_ => some k_ ≠ ((.slice Ao15 t145.length co15) : Value).ownBlock ∧ some k_ ≠ (u7 : Value).ownBlock) (.slice Ao14 t142.length co14) t142) ∧ Aside0 (Kd.R (Kd.int .u64) 22 w' w.heap.size (fun k_ => some k_ ≠ ((.slice Ao14 t142.length co14) : Value).ownBlock ∧ some k_ ≠ (u7 : Value).ownBlock) (.slice Ao15 t145.length co15) t145) ∧ Aside0 (Kd.R (Kd.int .u64) 22 w' w.heap.size (fun k_ => some k_ ≠ ((.slice Ao14 t142.length co14) : Value).ownBlock ∧ some k_ ≠ ((.slice Ao15 t145.length co15) : Value).ownBlock) u7 x7_3) ∧ Aside0 (Below w.heap.size w w'))
       case atStart => exact ⟨(x7_2), (0), (0), sd_, sd_, H', ⟨Nat.le_refl _⟩, ⟨by (with_reducible repeat (first | apply Kd.R_alloc | apply Kd.R_drewN | apply Kd.R_drew)); exact HO_5.out⟩, ⟨by (with_reducible repeat (first | apply Kd.R_alloc | apply Kd.R_drewN | apply Kd.R_drew)); exact HO_6.out⟩, ⟨by (with_reducible repeat (first | apply Kd.R_alloc | apply Kd.R_drewN | apply Kd.R_drew)); exact HO_7.out⟩, ⟨by repeat (first | (with_reducible first | exact HB.out | apply below_alloc | apply pw_below_drewN | apply below_drew1) | exact HB.out)⟩⟩
       case round =>
        clear H'
        try clear c1
        try clear c2
        try clear p2
        try clear p6
        try clear c9
        try clear c9b0
        try clear c10
        try clear c16
        try clear c16b0
        try clear p2
        try clear p6
        obtain ⟨x7_3, x10_3, x11_3, rfl, rfl, HA, HK3, HO_5, HO_6, HO_7, HB⟩ := hrel
        cases gk with
        | zero => exact absurd HA.out (by simp [syzygyref01_Mul.l2])
        | succ k3 =>
         have H := HA.out
         clear HA
         simp only [syzygyref01_Mul.l2] at H
         by_cases c17 : x11_3 < (t145.length : Int)
         ·
          rw [if_pos c17] at H
          have c17b0 : decide (x11_3 < (t145.length : Int)) = true := decide_eq_true c17
          clear c17
          obtain ⟨ji18, hji18⟩ : ∃ j_ : Int, (wrap64 (x9_2 + x11_3)) = j_ := ⟨_, rfl⟩
          replace H : (if 0 ≤ (ji18) then (if (ji18) < (x7_3.length : Int) then (if 0 ≤ x9_2 then (if x9_2 < (t142.length : Int) then ((syzygyref01_at.f t145 x11_3).bind fun t159 => (syzygyref01_Mul.l2 k3 t142 t145 (x7_3.set ((ji18) : Int).toNat (Int.tmod (IntKind.u64.wrap ((IntKind.u64.wrap ((rd x7_3 (ji18)) + (IntKind.u64.wrap ((rd t142 x9_2) * t159)))) + x10_3)) 4294967296)) x9_2 (IntKind.u64.wrap (Int.tdiv (IntKind.u64.wrap ((IntKind.u64.wrap ((rd x7_3 (ji18)) + (IntKind.u64.wrap ((rd t142 x9_2) * t159)))) + x10_3)) 4294967296)) (wrap64 (x11_3 + 1)))) else (none)) else (none)) else (none)) else (none)) = some r := by first | (rw [hji18] at H; exact H) | (simp only [hji18] at H ⊢; exact H)
          have hji18w : (IntKind.i64.wrap (x9_2 + x11_3)) = ji18 := (i64_w _).trans hji18
          by_cases c19 : 0 ≤ (ji18)
          ·
           rw [if_pos c19] at H
           have c19b0 : decide (0 ≤ (ji18)) = true := decide_eq_true c19
           clear c19
           by_cases c20 : (ji18) < (x7_3.length : Int)
           ·
            rw [if_pos c20] at H
            have c20b0 : decide ((ji18) < (x7_3.length : Int)) = true := decide_eq_true c20
            clear c20
            by_cases c21 : 0 ≤ x9_2
            ·
             rw [if_pos c21] at H
             have c21b0 : decide (0 ≤ x9_2) = true := decide_eq_true c21
             clear c21
             by_cases c22 : x9_2 < (t142.length : Int)
             ·
              rw [if_pos c22] at H
              have c22b0 : decide (x9_2 < (t142.length : Int)) = true := decide_eq_true c22
              clear c22
              replace H := Option.bind_eq_some_iff.mp H
              obtain ⟨t159, A230, H⟩ := H
              replace H : (syzygyref01_Mul.l2 k3 t142 t145 (x7_3.set ((ji18) : Int).toNat (Int.tmod (IntKind.u64.wrap ((IntKind.u64.wrap ((rd x7_3 (ji18)) + (IntKind.u64.wrap ((rd t142 x9_2) * t159)))) + x10_3)) 4294967296)) x9_2 (IntKind.u64.wrap (Int.tdiv (IntKind.u64.wrap ((IntKind.u64.wrap ((rd x7_3 (ji18)) + (IntKind.u64.wrap ((rd t142 x9_2) * t159)))) + x10_3)) 4294967296)) (wrap64 (x11_3 + 1))) = some r := H
              have A23 := Aside0.mk A230
              clear A230
              obtain ⟨ji24, hji24⟩ : ∃ j_ : Int, (Int.tmod (IntKind.u64.wrap ((IntKind.u64.wrap ((rd x7_3 (ji18)) + (IntKind.u64.wrap ((rd t142 x9_2) * t159)))) + x10_3)) 4294967296) = j_ := ⟨_, rfl⟩
              replace H : (syzygyref01_Mul.l2 k3 t142 t145 (x7_3.set ((ji18) : Int).toNat (ji24)) x9_2 (IntKind.u64.wrap (Int.tdiv (IntKind.u64.wrap ((IntKind.u64.wrap ((rd x7_3 (ji18)) + (IntKind.u64.wrap ((rd t142 x9_2) * t159)))) + x10_3)) 4294967296)) (wrap64 (x11_3 + 1))) = some r := by first | (rw [hji24] at H; exact H) | (simp only [hji24] at H ⊢; exact H)
              (try rw [hji24] at A23)
              obtain ⟨y160, hy160⟩ : ∃ y_ : List Int, y_ = (x7_3.set ((ji18) : Int).toNat (ji24)) := ⟨_, rfl⟩
              replace H : (syzygyref01_Mul.l2 k3 t142 t145 y160 x9_2 (IntKind.u64.wrap (Int.tdiv (IntKind.u64.wrap ((IntKind.u64.wrap ((rd x7_3 (ji18)) + (IntKind.u64.wrap ((rd t142 x9_2) * t159)))) + x10_3)) 4294967296)) (wrap64 (x11_3 + 1))) = some r := by first | (rw [hy160]; with_reducible exact H) | (have H2_ := (Option.bind_some _ _).symm.trans H; rw [hy160]; with_reducible exact H2_) | (have H2_ := (Option.bind_some _ _).symm.trans H; with_reducible exact H2_) | with_reducible exact H | (rw [hy160]; exact H) | exact H
              have Ny160 := Aside0.mk hy160
              clear hy160
              have H' := Aside0.mk H
              clear H
              obtain ⟨Ao26, co26, eo26⟩ := Kd.R_slice HO_7.out
              subst eo26
              have p157 : 0 ≤ ((ji18) : Int) := of_decide_eq_true am_
              have q157 : (ji18) < (x7_3.length : Int) := of_decide_eq_true am_
              obtain ⟨ad157, e157, hx157_0⟩ := Kd.at_int (Kd.R_reads' HO_7.out).2.2 (ji18) p157 q157
              cases e157
              replace p157 := eq_true p157
              replace q157 := eq_true q157
              have p158 : 0 ≤ (x9_2 : Int) := of_decide_eq_true am_
              have q158 : x9_2 < (t142.length : Int) := of_decide_eq_true am_
              obtain ⟨ad158, e158, hx158_0⟩ := Kd.at_int (Kd.R_reads' HO_5.out).2.2 x9_2 p158 q158
              cases e158
              replace p158 := eq_true p158
              replace q158 := eq_true q158
              go_wp2_with (first | (go_at_call 69; (with_reducible refine (syzygyref01_at.calls _ _ t145 x11_3 t159 _ ?side1 ?side2 A23.out).mono ?_); (case side1 => exact cc_ (Kd.R_reads' HO_6.out).2.2); (case side2 => exact (Kd.R_reads' HO_6.out).2.1); rintro e w' ⟨rfl, ⟨nd, rfl⟩⟩; (try first | exact ⟨rfl, _, World.drewN_drewN _ _ _⟩ | exact ⟨rfl, _, Eq.trans (World.drewN_drewN _ _ _) (congrArg (World.drewN _) (Nat.add_assoc _ _ _))⟩); have p25 : 0 ≤ ((ji18) : Int) := of_decide_eq_true am_; have q25 : ((ji18) : Int) < ((x7_3.length : Int) : Int) := of_decide_eq_true am_; obtain ⟨go25, co25, eo25, gb25, gl25, cl25, HG25⟩ := Kd.R_form HO_7.out (by omega); (first | cases eo25 | (injection eo25 with ea_ en_ ec_; (first | subst ea_ | (injection ea_ with ea_; subst ea_)); subst ec_; clear en_)); have GB25 := Aside0.mk gb25; have GG25 := Aside0.mk HG25; clear gb25 gl25 HG25; (first | simp only [add_plain] at hx157_0 | skip); obtain ⟨hx25_0, hf25_0⟩ := Kd.R_celln 0 HO_7.out ((ji18) : Int) p25 q25; replace p25 := eq_true p25; replace q25 := eq_true q25; obtain ⟨hy27_, hz27_⟩ := Kd.R_celln 0 HO_7.out ((ji18) : Int) (of_decide_eq_true am_) (of_decide_eq_true am_); have HP27 := Kd.R_putg HO_7.out ((ji18) : Int) ji24) | ((with_reducible refine gate_store (t := 22) (p := 70) rfl ?_); (try (rw [drewN_self wr]; generalize hq_ : World.drewN wr _ = wr; have n0_ := Aside0.mk (Kd.R_at hq_ HO_5.out); have n1_ := Aside0.mk (Kd.R_at hq_ HO_6.out); have n2_ := Aside0.mk (Kd.R_at hq_ HO_7.out); have n3_ := Aside0.mk (below_at hq_ HB.out); clear hq_ HO_5 HO_6 HO_7 HB; have HO_5 := n0_; have HO_6 := n1_; have HO_7 := n2_; have HB := n3_; clear n0_ n1_ n2_ n3_; (try (obtain ⟨hy27_, hz27_⟩ := Kd.R_celln 0 HO_7.out ((ji18) : Int) (of_decide_eq_true am_) (of_decide_eq_true am_))); (try (have HP27 := Kd.R_putg HO_7.out ((ji18) : Int) ji24)))); refine store_event (t := 22) (p := 70) (v := ?vo_w28) (w1 := (wr.setCell ⟨go25, ((ji18) : Int).toNat, none⟩ (.int .u64 ji24))) ?hg ?ho ?hn ?hr ?_; (case ho => rfl); (case hg => rfl); (case hn => rfl); (case hr => exact gs_); intro w28 hw; have hg : wr.grownBy w28 (some go25) := (by rw [hw]; exact HP27.2); have hp_ : Kd.R (Kd.int .u64) 22 w28 w.heap.size (fun k_ => some k_ ≠ (.slice (some ad158) t142.length co14 : Value).ownBlock ∧ some k_ ≠ (.slice Ao15 t145.length co15 : Value).ownBlock) (.slice (some ⟨go25, 0, none⟩) x7_3.length co26) y160 := (by rw [hw, Ny160.out]; exact HP27.1); clear HP27; have n0_ := Aside0.mk (Kd.R_after (v := (.slice (some ⟨go25, 0, none⟩) x7_3.length co26)) (v1 := (.slice (some ⟨go25, 0, none⟩) x7_3.length co26)) (ok := (fun k_ => some k_ ≠ (.slice Ao15 t145.length co15 : Value).ownBlock)) (rR_ HO_5) hg (.inl rfl)); have n1_ := Aside0.mk (Kd.R_after (v := (.slice (some ⟨go25, 0, none⟩) x7_3.length co26)) (v1 := (.slice (some ⟨go25, 0, none⟩) x7_3.length co26)) (ok := (fun k_ => some k_ ≠ (.slice (some ad158) t142.length co14 : Value).ownBlock)) (rR_ HO_6) hg (.inl rfl)); have n2_ := Aside0.mk (hp_); have n3_ := Aside0.mk ((by rw [hw]; exact below_set (HB.out) GB25.out : Below w.heap.size w w28)); clear HO_5; clear HO_6; clear HO_7; clear HB; have HO_5 := n0_; have HO_6 := n1_; have HO_7 := n2_; have HB := n3_; clear n0_ n1_ n2_ n3_; clear hg hw hp_))
              repeat (go_quiet (first | (go_at_call 69; (with_reducible refine (syzygyref01_at.calls _ _ t145 x11_3 t159 _ ?side1 ?side2 A23.out).mono ?_); (case side1 => exact cc_ (Kd.R_reads' HO_6.out).2.2); (case side2 => exact (Kd.R_reads' HO_6.out).2.1); rintro e w' ⟨rfl, ⟨nd, rfl⟩⟩; (try first | exact ⟨rfl, _, World.drewN_drewN _ _ _⟩ | exact ⟨rfl, _, Eq.trans (World.drewN_drewN _ _ _) (congrArg (World.drewN _) (Nat.add_assoc _ _ _))⟩); have p25 : 0 ≤ ((ji18) : Int) := of_decide_eq_true am_; have q25 : ((ji18) : Int) < ((x7_3.length : Int) : Int) := of_decide_eq_true am_; obtain ⟨go25, co25, eo25, gb25, gl25, cl25, HG25⟩ := Kd.R_form HO_7.out (by omega); (first | cases eo25 | (injection eo25 with ea_ en_ ec_; (first | subst ea_ | (injection ea_ with ea_; subst ea_)); subst ec_; clear en_)); have GB25 := Aside0.mk gb25; have GG25 := Aside0.mk HG25; clear gb25 gl25 HG25; (first | simp only [add_plain] at hx157_0 | skip); obtain ⟨hx25_0, hf25_0⟩ := Kd.R_celln 0 HO_7.out ((ji18) : Int) p25 q25; replace p25 := eq_true p25; replace q25 := eq_true q25; obtain ⟨hy27_, hz27_⟩ := Kd.R_celln 0 HO_7.out ((ji18) : Int) (of_decide_eq_true am_) (of_decide_eq_true am_); have HP27 := Kd.R_putg HO_7.out ((ji18) : Int) ji24) | ((with_reducible refine gate_store (t := 22) (p := 70) rfl ?_); (try (rw [drewN_self wr]; generalize hq_ : World.drewN wr _ = wr; have n0_ := Aside0.mk (Kd.R_at hq_ HO_5.out); have n1_ := Aside0.mk (Kd.R_at hq_ HO_6.out); have n2_ := Aside0.mk (Kd.R_at hq_ HO_7.out); have n3_ := Aside0.mk (below_at hq_ HB.out); clear hq_ HO_5 HO_6 HO_7 HB; have HO_5 := n0_; have HO_6 := n1_; have HO_7 := n2_; have HB := n3_; clear n0_ n1_ n2_ n3_; (try (obtain ⟨hy27_, hz27_⟩ := Kd.R_celln 0 HO_7.out ((ji18) : Int) (of_decide_eq_true am_) (of_decide_eq_true am_))); (try (have HP27 := Kd.R_putg HO_7.out ((ji18) : Int) ji24)))); refine store_event (t := 22) (p := 70) (v := ?vo_w28) (w1 := (wr.setCell ⟨go25, ((ji18) : Int).toNat, none⟩ (.int .u64 ji24))) ?hg ?ho ?hn ?hr ?_; (case ho => rfl); (case hg => rfl); (case hn => rfl); (case hr => exact gs_); intro w28 hw; have hg : wr.grownBy w28 (some go25) := (by rw [hw]; exact HP27.2); have hp_ : Kd.R (Kd.int .u64) 22 w28 w.heap.size (fun k_ => some k_ ≠ (.slice (some ad158) t142.length co14 : Value).ownBlock ∧ some k_ ≠ (.slice Ao15 t145.length co15 : Value).ownBlock) (.slice (some ⟨go25, 0, none⟩) x7_3.length co26) y160 := (by rw [hw, Ny160.out]; exact HP27.1); clear HP27; have n0_ := Aside0.mk (Kd.R_after (v := (.slice (some ⟨go25, 0, none⟩) x7_3.length co26)) (v1 := (.slice (some ⟨go25, 0, none⟩) x7_3.length co26)) (ok := (fun k_ => some k_ ≠ (.slice Ao15 t145.length co15 : Value).ownBlock)) (rR_ HO_5) hg (.inl rfl)); have n1_ := Aside0.mk (Kd.R_after (v := (.slice (some ⟨go25, 0, none⟩) x7_3.length co26)) (v1 := (.slice (some ⟨go25, 0, none⟩) x7_3.length co26)) (ok := (fun k_ => some k_ ≠ (.slice (some ad158) t142.length co14 : Value).ownBlock)) (rR_ HO_6) hg (.inl rfl)); have n2_ := Aside0.mk (hp_); have n3_ := Aside0.mk ((by rw [hw]; exact below_set (HB.out) GB25.out : Below w.heap.size w w28)); clear HO_5; clear HO_6; clear HO_7; clear HB; have HO_5 := n0_; have HO_6 := n1_; have HO_7 := n2_; have HB := n3_; clear n0_ n1_ n2_ n3_; clear hg hw hp_)); try go_wp2_with (first | (go_at_call 69; (with_reducible refine (syzygyref01_at.calls _ _ t145 x11_3 t159 _ ?side1 ?side2 A23.out).mono ?_); (case side1 => exact cc_ (Kd.R_reads' HO_6.out).2.2); (case side2 => exact (Kd.R_reads' HO_6.out).2.1); rintro e w' ⟨rfl, ⟨nd, rfl⟩⟩; (try first | exact ⟨rfl, _, World.drewN_drewN _ _ _⟩ | exact ⟨rfl, _, Eq.trans (World.drewN_drewN _ _ _) (congrArg (World.drewN _) (Nat.add_assoc _ _ _))⟩); have p25 : 0 ≤ ((ji18) : Int) := of_decide_eq_true am_; have q25 : ((ji18) : Int) < ((x7_3.length : Int) : Int) := of_decide_eq_true am_; obtain ⟨go25, co25, eo25, gb25, gl25, cl25, HG25⟩ := Kd.R_form HO_7.out (by omega); (first | cases eo25 | (injection eo25 with ea_ en_ ec_; (first | subst ea_ | (injection ea_ with ea_; subst ea_)); subst ec_; clear en_)); have GB25 := Aside0.mk gb25; have GG25 := Aside0.mk HG25; clear gb25 gl25 HG25; (first | simp only [add_plain] at hx157_0 | skip); obtain ⟨hx25_0, hf25_0⟩ := Kd.R_celln 0 HO_7.out ((ji18) : Int) p25 q25; replace p25 := eq_true p25; replace q25 := eq_true q25; obtain ⟨hy27_, hz27_⟩ := Kd.R_celln 0 HO_7.out ((ji18) : Int) (of_decide_eq_true am_) (of_decide_eq_true am_); have HP27 := Kd.R_putg HO_7.out ((ji18) : Int) ji24) | ((with_reducible refine gate_store (t := 22) (p := 70) rfl ?_); (try (rw [drewN_self wr]; generalize hq_ : World.drewN wr _ = wr; have n0_ := Aside0.mk (Kd.R_at hq_ HO_5.out); have n1_ := Aside0.mk (Kd.R_at hq_ HO_6.out); have n2_ := Aside0.mk (Kd.R_at hq_ HO_7.out); have n3_ := Aside0.mk (below_at hq_ HB.out); clear hq_ HO_5 HO_6 HO_7 HB; have HO_5 := n0_; have HO_6 := n1_; have HO_7 := n2_; have HB := n3_; clear n0_ n1_ n2_ n3_; (try (obtain ⟨hy27_, hz27_⟩ := Kd.R_celln 0 HO_7.out ((ji18) : Int) (of_decide_eq_true am_) (of_decide_eq_true am_))); (try (have HP27 := Kd.R_putg HO_7.out ((ji18) : Int) ji24)))); refine store_event (t := 22) (p := 70) (v := ?vo_w28) (w1 := (wr.setCell ⟨go25, ((ji18) : Int).toNat, none⟩ (.int .u64 ji24))) ?hg ?ho ?hn ?hr ?_; (case ho => rfl); (case hg => rfl); (case hn => rfl); (case hr => exact gs_); intro w28 hw; have hg : wr.grownBy w28 (some go25) := (by rw [hw]; exact HP27.2); have hp_ : Kd.R (Kd.int .u64) 22 w28 w.heap.size (fun k_ => some k_ ≠ (.slice (some ad158) t142.length co14 : Value).ownBlock ∧ some k_ ≠ (.slice Ao15 t145.length co15 : Value).ownBlock) (.slice (some ⟨go25, 0, none⟩) x7_3.length co26) y160 := (by rw [hw, Ny160.out]; exact HP27.1); clear HP27; have n0_ := Aside0.mk (Kd.R_after (v := (.slice (some ⟨go25, 0, none⟩) x7_3.length co26)) (v1 := (.slice (some ⟨go25, 0, none⟩) x7_3.length co26)) (ok := (fun k_ => some k_ ≠ (.slice Ao15 t145.length co15 : Value).ownBlock)) (rR_ HO_5) hg (.inl rfl)); have n1_ := Aside0.mk (Kd.R_after (v := (.slice (some ⟨go25, 0, none⟩) x7_3.length co26)) (v1 := (.slice (some ⟨go25, 0, none⟩) x7_3.length co26)) (ok := (fun k_ => some k_ ≠ (.slice (some ad158) t142.length co14 : Value).ownBlock)) (rR_ HO_6) hg (.inl rfl)); have n2_ := Aside0.mk (hp_); have n3_ := Aside0.mk ((by rw [hw]; exact below_set (HB.out) GB25.out : Below w.heap.size w w28)); clear HO_5; clear HO_6; clear HO_7; clear HB; have HO_5 := n0_; have HO_6 := n1_; have HO_7 := n2_; have HB := n3_; clear n0_ n1_ n2_ n3_; clear hg hw hp_)))
              go_roundg k3
              case measure => have := HK1.out; have := HK2.out; have := HK3.out; omega
              case rel => exact ⟨(y160), (IntKind.u64.wrap (Int.tdiv (IntKind.u64.wrap ((IntKind.u64.wrap ((rd x7_3 (ji18)) + (IntKind.u64.wrap ((rd t142 x9_2) * t159)))) + x10_3)) 4294967296)), (wrap64 (x11_3 + 1)), (by first | rfl | (simp; done) | (simp only [← hji18] <;> (first | rfl | simp)) | (simp [*]; done)), sd_, H', ⟨by have := HK1.out; have := HK2.out; have := HK3.out; omega⟩, ⟨by (with_reducible repeat (first | apply Kd.R_alloc | apply Kd.R_drewN | apply Kd.R_drew)); exact HO_5.out⟩, ⟨by (with_reducible repeat (first | apply Kd.R_alloc | apply Kd.R_drewN | apply Kd.R_drew)); exact HO_6.out⟩, ⟨by (with_reducible repeat (first | apply Kd.R_alloc | apply Kd.R_drewN | apply Kd.R_drew)); exact HO_7.out⟩, ⟨by repeat (first | (with_reducible first | exact HB.out | apply below_alloc | apply pw_below_drewN | apply below_drew1) | exact HB.out)⟩⟩
             ·
              rw [if_neg c22] at H
              exact absurd H (by simp)
            ·
             rw [if_neg c21] at H
             exact absurd H (by simp)
           ·
            rw [if_neg c20] at H
            exact absurd H (by simp)
          ·
           rw [if_neg c19] at H
           exact absurd H (by simp)
         ·
          rw [if_neg c17] at H
          have c17b0 : decide (x11_3 < (t145.length : Int)) = false := decide_eq_false c17
          clear c17
          by_cases c29 : x10_3 > 0
          ·
           rw [if_pos c29] at H
           have c29b0 : decide (0 < x10_3) = true := decide_eq_true c29
           clear c29
           obtain ⟨ji30, hji30⟩ : ∃ j_ : Int, (wrap64 (x9_2 + x11_3)) = j_ := ⟨_, rfl⟩
           replace H : (if 0 ≤ (ji30) then (if (ji30) < (x7_3.length : Int) then (if 0 ≤ x9_2 then (if x9_2 < (t142.length : Int) then ((syzygyref01_at.f t145 x11_3).bind fun t163 => (syzygyref01_Mul.l2 k3 t142 t145 (x7_3.set ((ji30) : Int).toNat (Int.tmod (IntKind.u64.wrap ((IntKind.u64.wrap ((rd x7_3 (ji30)) + (IntKind.u64.wrap ((rd t142 x9_2) * t163)))) + x10_3)) 4294967296)) x9_2 (IntKind.u64.wrap (Int.tdiv (IntKind.u64.wrap ((IntKind.u64.wrap ((rd x7_3 (ji30)) + (IntKind.u64.wrap ((rd t142 x9_2) * t163)))) + x10_3)) 4294967296)) (wrap64 (x11_3 + 1)))) else (none)) else (none)) else (none)) else (none)) = some r := by first | (rw [hji30] at H; exact H) | (simp only [hji30] at H ⊢; exact H)
           have hji30w : (IntKind.i64.wrap (x9_2 + x11_3)) = ji30 := (i64_w _).trans hji30
           by_cases c31 : 0 ≤ (ji30)
           ·
            rw [if_pos c31] at H
            have c31b0 : decide (0 ≤ (ji30)) = true := decide_eq_true c31
            clear c31
            by_cases c32 : (ji30) < (x7_3.length : Int)
            ·
             rw [if_pos c32] at H
             have c32b0 : decide ((ji30) < (x7_3.length : Int)) = true := decide_eq_true c32
             clear c32
             by_cases c33 : 0 ≤ x9_2
             ·
              rw [if_pos c33] at H
              have c33b0 : decide (0 ≤ x9_2) = true := decide_eq_true c33
              clear c33
              by_cases c34 : x9_2 < (t142.length : Int)
              ·
               rw [if_pos c34] at H
               have c34b0 : decide (x9_2 < (t142.length : Int)) = true := decide_eq_true c34
               clear c34
               replace H := Option.bind_eq_some_iff.mp H
               obtain ⟨t163, A350, H⟩ := H
               replace H : (syzygyref01_Mul.l2 k3 t142 t145 (x7_3.set ((ji30) : Int).toNat (Int.tmod (IntKind.u64.wrap ((IntKind.u64.wrap ((rd x7_3 (ji30)) + (IntKind.u64.wrap ((rd t142 x9_2) * t163)))) + x10_3)) 4294967296)) x9_2 (IntKind.u64.wrap (Int.tdiv (IntKind.u64.wrap ((IntKind.u64.wrap ((rd x7_3 (ji30)) + (IntKind.u64.wrap ((rd t142 x9_2) * t163)))) + x10_3)) 4294967296)) (wrap64 (x11_3 + 1))) = some r := H
               have A35 := Aside0.mk A350
               clear A350
               obtain ⟨ji36, hji36⟩ : ∃ j_ : Int, (Int.tmod (IntKind.u64.wrap ((IntKind.u64.wrap ((rd x7_3 (ji30)) + (IntKind.u64.wrap ((rd t142 x9_2) * t163)))) + x10_3)) 4294967296) = j_ := ⟨_, rfl⟩
               replace H : (syzygyref01_Mul.l2 k3 t142 t145 (x7_3.set ((ji30) : Int).toNat (ji36)) x9_2 (IntKind.u64.wrap (Int.tdiv (IntKind.u64.wrap ((IntKind.u64.wrap ((rd x7_3 (ji30)) + (IntKind.u64.wrap ((rd t142 x9_2) * t163)))) + x10_3)) 4294967296)) (wrap64 (x11_3 + 1))) = some r := by first | (rw [hji36] at H; exact H) | (simp only [hji36] at H ⊢; exact H)
               (try rw [hji36] at A35)
               obtain ⟨y164, hy164⟩ : ∃ y_ : List Int, y_ = (x7_3.set ((ji30) : Int).toNat (ji36)) := ⟨_, rfl⟩
               replace H : (syzygyref01_Mul.l2 k3 t142 t145 y164 x9_2 (IntKind.u64.wrap (Int.tdiv (IntKind.u64.wrap ((IntKind.u64.wrap ((rd x7_3 (ji30)) + (IntKind.u64.wrap ((rd t142 x9_2) * t163)))) + x10_3)) 4294967296)) (wrap64 (x11_3 + 1))) = some r := by first | (rw [hy164]; with_reducible exact H) | (have H2_ := (Option.bind_some _ _).symm.trans H; rw [hy164]; with_reducible exact H2_) | (have H2_ := (Option.bind_some _ _).symm.trans H; with_reducible exact H2_) | with_reducible exact H | (rw [hy164]; exact H) | exact H
               have Ny164 := Aside0.mk hy164
               clear hy164
               have H' := Aside0.mk H
               clear H
               obtain ⟨Ao38, co38, eo38⟩ := Kd.R_slice HO_7.out
               subst eo38
               have p161 : 0 ≤ ((ji30) : Int) := of_decide_eq_true am_
               have q161 : (ji30) < (x7_3.length : Int) := of_decide_eq_true am_
               obtain ⟨ad161, e161, hx161_0⟩ := Kd.at_int (Kd.R_reads' HO_7.out).2.2 (ji30) p161 q161
               cases e161
               replace p161 := eq_true p161
               replace q161 := eq_true q161
               have p162 : 0 ≤ (x9_2 : Int) := of_decide_eq_true am_
               have q162 : x9_2 < (t142.length : Int) := of_decide_eq_true am_
               obtain ⟨ad162, e162, hx162_0⟩ := Kd.at_int (Kd.R_reads' HO_5.out).2.2 x9_2 p162 q162
               cases e162
               replace p162 := eq_true p162
               replace q162 := eq_true q162
               go_wp2_with (first | (go_at_call 69; (with_reducible refine (syzygyref01_at.calls _ _ t145 x11_3 t163 _ ?side1 ?side2 A35.out).mono ?_); (case side1 => exact cc_ (Kd.R_reads' HO_6.out).2.2); (case side2 => exact (Kd.R_reads' HO_6.out).2.1); rintro e w' ⟨rfl, ⟨nd, rfl⟩⟩; (try first | exact ⟨rfl, _, World.drewN_drewN _ _ _⟩ | exact ⟨rfl, _, Eq.trans (World.drewN_drewN _ _ _) (congrArg (World.drewN _) (Nat.add_assoc _ _ _))⟩); have p37 : 0 ≤ ((ji30) : Int) := of_decide_eq_true am_; have q37 : ((ji30) : Int) < ((x7_3.length : Int) : Int) := of_decide_eq_true am_; obtain ⟨go37, co37, eo37, gb37, gl37, cl37, HG37⟩ := Kd.R_form HO_7.out (by omega); (first | cases eo37 | (injection eo37 with ea_ en_ ec_; (first | subst ea_ | (injection ea_ with ea_; subst ea_)); subst ec_; clear en_)); have GB37 := Aside0.mk gb37; have GG37 := Aside0.mk HG37; clear gb37 gl37 HG37; (first | simp only [add_plain] at hx161_0 | skip); obtain ⟨hx37_0, hf37_0⟩ := Kd.R_celln 0 HO_7.out ((ji30) : Int) p37 q37; replace p37 := eq_true p37; replace q37 := eq_true q37; obtain ⟨hy39_, hz39_⟩ := Kd.R_celln 0 HO_7.out ((ji30) : Int) (of_decide_eq_true am_) (of_decide_eq_true am_); have HP39 := Kd.R_putg HO_7.out ((ji30) : Int) ji36) | ((with_reducible refine gate_store (t := 22) (p := 70) rfl ?_); (try (rw [drewN_self wr]; generalize hq_ : World.drewN wr _ = wr; have n0_ := Aside0.mk (Kd.R_at hq_ HO_5.out); have n1_ := Aside0.mk (Kd.R_at hq_ HO_6.out); have n2_ := Aside0.mk (Kd.R_at hq_ HO_7.out); have n3_ := Aside0.mk (below_at hq_ HB.out); clear hq_ HO_5 HO_6 HO_7 HB; have HO_5 := n0_; have HO_6 := n1_; have HO_7 := n2_; have HB := n3_; clear n0_ n1_ n2_ n3_; (try (obtain ⟨hy39_, hz39_⟩ := Kd.R_celln 0 HO_7.out ((ji30) : Int) (of_decide_eq_true am_) (of_decide_eq_true am_))); (try (have HP39 := Kd.R_putg HO_7.out ((ji30) : Int) ji36)))); refine store_event (t := 22) (p := 70) (v := ?vo_w40) (w1 := (wr.setCell ⟨go37, ((ji30) : Int).toNat, none⟩ (.int .u64 ji36))) ?hg ?ho ?hn ?hr ?_; (case ho => rfl); (case hg => rfl); (case hn => rfl); (case hr => exact gs_); intro w40 hw; have hg : wr.grownBy w40 (some go37) := (by rw [hw]; exact HP39.2); have hp_ : Kd.R (Kd.int .u64) 22 w40 w.heap.size (fun k_ => some k_ ≠ (.slice (some ad162) t142.length co14 : Value).ownBlock ∧ some k_ ≠ (.slice Ao15 t145.length co15 : Value).ownBlock) (.slice (some ⟨go37, 0, none⟩) x7_3.length co38) y164 := (by rw [hw, Ny164.out]; exact HP39.1); clear HP39; have n0_ := Aside0.mk (Kd.R_after (v := (.slice (some ⟨go37, 0, none⟩) x7_3.length co38)) (v1 := (.slice (some ⟨go37, 0, none⟩) x7_3.length co38)) (ok := (fun k_ => some k_ ≠ (.slice Ao15 t145.length co15 : Value).ownBlock)) (rR_ HO_5) hg (.inl rfl)); have n1_ := Aside0.mk (Kd.R_after (v := (.slice (some ⟨go37, 0, none⟩) x7_3.length co38)) (v1 := (.slice (some ⟨go37, 0, none⟩) x7_3.length co38)) (ok := (fun k_ => some k_ ≠ (.slice (some ad162) t142.length co14 : Value).ownBlock)) (rR_ HO_6) hg (.inl rfl)); have n2_ := Aside0.mk (hp_); have n3_ := Aside0.mk ((by rw [hw]; exact below_set (HB.out) GB37.out : Below w.heap.size w w40)); clear HO_5; clear HO_6; clear HO_7; clear HB; have HO_5 := n0_; have HO_6 := n1_; have HO_7 := n2_; have HB := n3_; clear n0_ n1_ n2_ n3_; clear hg hw hp_))
               repeat (go_quiet (first | (go_at_call 69; (with_reducible refine (syzygyref01_at.calls _ _ t145 x11_3 t163 _ ?side1 ?side2 A35.out).mono ?_); (case side1 => exact cc_ (Kd.R_reads' HO_6.out).2.2); (case side2 => exact (Kd.R_reads' HO_6.out).2.1); rintro e w' ⟨rfl, ⟨nd, rfl⟩⟩; (try first | exact ⟨rfl, _, World.drewN_drewN _ _ _⟩ | exact ⟨rfl, _, Eq.trans (World.drewN_drewN _ _ _) (congrArg (World.drewN _) (Nat.add_assoc _ _ _))⟩); have p37 : 0 ≤ ((ji30) : Int) := of_decide_eq_true am_; have q37 : ((ji30) : Int) < ((x7_3.length : Int) : Int) := of_decide_eq_true am_; obtain ⟨go37, co37, eo37, gb37, gl37, cl37, HG37⟩ := Kd.R_form HO_7.out (by omega); (first | cases eo37 | (injection eo37 with ea_ en_ ec_; (first | subst ea_ | (injection ea_ with ea_; subst ea_)); subst ec_; clear en_)); have GB37 := Aside0.mk gb37; have GG37 := Aside0.mk HG37; clear gb37 gl37 HG37; (first | simp only [add_plain] at hx161_0 | skip); obtain ⟨hx37_0, hf37_0⟩ := Kd.R_celln 0 HO_7.out ((ji30) : Int) p37 q37; replace p37 := eq_true p37; replace q37 := eq_true q37; obtain ⟨hy39_, hz39_⟩ := Kd.R_celln 0 HO_7.out ((ji30) : Int) (of_decide_eq_true am_) (of_decide_eq_true am_); have HP39 := Kd.R_putg HO_7.out ((ji30) : Int) ji36) | ((with_reducible refine gate_store (t := 22) (p := 70) rfl ?_); (try (rw [drewN_self wr]; generalize hq_ : World.drewN wr _ = wr; have n0_ := Aside0.mk (Kd.R_at hq_ HO_5.out); have n1_ := Aside0.mk (Kd.R_at hq_ HO_6.out); have n2_ := Aside0.mk (Kd.R_at hq_ HO_7.out); have n3_ := Aside0.mk (below_at hq_ HB.out); clear hq_ HO_5 HO_6 HO_7 HB; have HO_5 := n0_; have HO_6 := n1_; have HO_7 := n2_; have HB := n3_; clear n0_ n1_ n2_ n3_; (try (obtain ⟨hy39_, hz39_⟩ := Kd.R_celln 0 HO_7.out ((ji30) : Int) (of_decide_eq_true am_) (of_decide_eq_true am_))); (try (have HP39 := Kd.R_putg HO_7.out ((ji30) : Int) ji36)))); refine store_event (t := 22) (p := 70) (v := ?vo_w40) (w1 := (wr.setCell ⟨go37, ((ji30) : Int).toNat, none⟩ (.int .u64 ji36))) ?hg ?ho ?hn ?hr ?_; (case ho => rfl); (case hg => rfl); (case hn => rfl); (case hr => exact gs_); intro w40 hw; have hg : wr.grownBy w40 (some go37) := (by rw [hw]; exact HP39.2); have hp_ : Kd.R (Kd.int .u64) 22 w40 w.heap.size (fun k_ => some k_ ≠ (.slice (some ad162) t142.length co14 : Value).ownBlock ∧ some k_ ≠ (.slice Ao15 t145.length co15 : Value).ownBlock) (.slice (some ⟨go37, 0, none⟩) x7_3.length co38) y164 := (by rw [hw, Ny164.out]; exact HP39.1); clear HP39; have n0_ := Aside0.mk (Kd.R_after (v := (.slice (some ⟨go37, 0, none⟩) x7_3.length co38)) (v1 := (.slice (some ⟨go37, 0, none⟩) x7_3.length co38)) (ok := (fun k_ => some k_ ≠ (.slice Ao15 t145.length co15 : Value).ownBlock)) (rR_ HO_5) hg (.inl rfl)); have n1_ := Aside0.mk (Kd.R_after (v := (.slice (some ⟨go37, 0, none⟩) x7_3.length co38)) (v1 := (.slice (some ⟨go37, 0, none⟩) x7_3.length co38)) (ok := (fun k_ => some k_ ≠ (.slice (some ad162) t142.length co14 : Value).ownBlock)) (rR_ HO_6) hg (.inl rfl)); have n2_ := Aside0.mk (hp_); have n3_ := Aside0.mk ((by rw [hw]; exact below_set (HB.out) GB37.out : Below w.heap.size w w40)); clear HO_5; clear HO_6; clear HO_7; clear HB; have HO_5 := n0_; have HO_6 := n1_; have HO_7 := n2_; have HB := n3_; clear n0_ n1_ n2_ n3_; clear hg hw hp_)); try go_wp2_with (first | (go_at_call 69; (with_reducible refine (syzygyref01_at.calls _ _ t145 x11_3 t163 _ ?side1 ?side2 A35.out).mono ?_); (case side1 => exact cc_ (Kd.R_reads' HO_6.out).2.2); (case side2 => exact (Kd.R_reads' HO_6.out).2.1); rintro e w' ⟨rfl, ⟨nd, rfl⟩⟩; (try first | exact ⟨rfl, _, World.drewN_drewN _ _ _⟩ | exact ⟨rfl, _, Eq.trans (World.drewN_drewN _ _ _) (congrArg (World.drewN _) (Nat.add_assoc _ _ _))⟩); have p37 : 0 ≤ ((ji30) : Int) := of_decide_eq_true am_; have q37 : ((ji30) : Int) < ((x7_3.length : Int) : Int) := of_decide_eq_true am_; obtain ⟨go37, co37, eo37, gb37, gl37, cl37, HG37⟩ := Kd.R_form HO_7.out (by omega); (first | cases eo37 | (injection eo37 with ea_ en_ ec_; (first | subst ea_ | (injection ea_ with ea_; subst ea_)); subst ec_; clear en_)); have GB37 := Aside0.mk gb37; have GG37 := Aside0.mk HG37; clear gb37 gl37 HG37; (first | simp only [add_plain] at hx161_0 | skip); obtain ⟨hx37_0, hf37_0⟩ := Kd.R_celln 0 HO_7.out ((ji30) : Int) p37 q37; replace p37 := eq_true p37; replace q37 := eq_true q37; obtain ⟨hy39_, hz39_⟩ := Kd.R_celln 0 HO_7.out ((ji30) : Int) (of_decide_eq_true am_) (of_decide_eq_true am_); have HP39 := Kd.R_putg HO_7.out ((ji30) : Int) ji36) | ((with_reducible refine gate_store (t := 22) (p := 70) rfl ?_); (try (rw [drewN_self wr]; generalize hq_ : World.drewN wr _ = wr; have n0_ := Aside0.mk (Kd.R_at hq_ HO_5.out); have n1_ := Aside0.mk (Kd.R_at hq_ HO_6.out); have n2_ := Aside0.mk (Kd.R_at hq_ HO_7.out); have n3_ := Aside0.mk (below_at hq_ HB.out); clear hq_ HO_5 HO_6 HO_7 HB; have HO_5 := n0_; have HO_6 := n1_; have HO_7 := n2_; have HB := n3_; clear n0_ n1_ n2_ n3_; (try (obtain ⟨hy39_, hz39_⟩ := Kd.R_celln 0 HO_7.out ((ji30) : Int) (of_decide_eq_true am_) (of_decide_eq_true am_))); (try (have HP39 := Kd.R_putg HO_7.out ((ji30) : Int) ji36)))); refine store_event (t := 22) (p := 70) (v := ?vo_w40) (w1 := (wr.setCell ⟨go37, ((ji30) : Int).toNat, none⟩ (.int .u64 ji36))) ?hg ?ho ?hn ?hr ?_; (case ho => rfl); (case hg => rfl); (case hn => rfl); (case hr => exact gs_); intro w40 hw; have hg : wr.grownBy w40 (some go37) := (by rw [hw]; exact HP39.2); have hp_ : Kd.R (Kd.int .u64) 22 w40 w.heap.size (fun k_ => some k_ ≠ (.slice (some ad162) t142.length co14 : Value).ownBlock ∧ some k_ ≠ (.slice Ao15 t145.length co15 : Value).ownBlock) (.slice (some ⟨go37, 0, none⟩) x7_3.length co38) y164 := (by rw [hw, Ny164.out]; exact HP39.1); clear HP39; have n0_ := Aside0.mk (Kd.R_after (v := (.slice (some ⟨go37, 0, none⟩) x7_3.length co38)) (v1 := (.slice (some ⟨go37, 0, none⟩) x7_3.length co38)) (ok := (fun k_ => some k_ ≠ (.slice Ao15 t145.length co15 : Value).ownBlock)) (rR_ HO_5) hg (.inl rfl)); have n1_ := Aside0.mk (Kd.R_after (v := (.slice (some ⟨go37, 0, none⟩) x7_3.length co38)) (v1 := (.slice (some ⟨go37, 0, none⟩) x7_3.length co38)) (ok := (fun k_ => some k_ ≠ (.slice (some ad162) t142.length co14 : Value).ownBlock)) (rR_ HO_6) hg (.inl rfl)); have n2_ := Aside0.mk (hp_); have n3_ := Aside0.mk ((by rw [hw]; exact below_set (HB.out) GB37.out : Below w.heap.size w w40)); clear HO_5; clear HO_6; clear HO_7; clear HB; have HO_5 := n0_; have HO_6 := n1_; have HO_7 := n2_; have HB := n3_; clear n0_ n1_ n2_ n3_; clear hg hw hp_)))
               go_roundg k3
               case measure => have := HK1.out; have := HK2.out; have := HK3.out; omega
               case rel => exact ⟨(y164), (IntKind.u64.wrap (Int.tdiv (IntKind.u64.wrap ((IntKind.u64.wrap ((rd x7_3 (ji30)) + (IntKind.u64.wrap ((rd t142 x9_2) * t163)))) + x10_3)) 4294967296)), (wrap64 (x11_3 + 1)), (by first | rfl | (simp; done) | (simp only [← hji30] <;> (first | rfl | simp)) | (simp [*]; done)), sd_, H', ⟨by have := HK1.out; have := HK2.out; have := HK3.out; omega⟩, ⟨by (with_reducible repeat (first | apply Kd.R_alloc | apply Kd.R_drewN | apply Kd.R_drew)); exact HO_5.out⟩, ⟨by (with_reducible repeat (first | apply Kd.R_alloc | apply Kd.R_drewN | apply Kd.R_drew)); exact HO_6.out⟩, ⟨by (with_reducible repeat (first | apply Kd.R_alloc | apply Kd.R_drewN | apply Kd.R_drew)); exact HO_7.out⟩, ⟨by repeat (first | (with_reducible first | exact HB.out | apply below_alloc | apply pw_below_drewN | apply below_drew1) | exact HB.out)⟩⟩
              ·
               rw [if_neg c34] at H
               exact absurd H (by simp)
             ·
              rw [if_neg c33] at H
              exact absurd H (by simp)
            ·
             rw [if_neg c32] at H
             exact absurd H (by simp)
           ·
            rw [if_neg c31] at H
            exact absurd H (by simp)
          ·
           rw [if_neg c29] at H
           have c29b0 : decide (0 < x10_3) = false := decide_eq_false c29
           clear c29
           have H' := Aside0.mk H
           clear H
           go_wp2
           repeat (go_quiet (fail); try go_wp2)
           go_roundg k3
           case measure => have := HK1.out; have := HK2.out; have := HK3.out; omega
           case rel => exact ⟨(x7_3), (wrap64 (x9_2 + 1)), sd_, H', ⟨by have := HK1.out; have := HK2.out; have := HK3.out; omega⟩, ⟨by (with_reducible repeat (first | apply Kd.R_alloc | apply Kd.R_drewN | apply Kd.R_drew)); exact HO_5.out⟩, ⟨by (with_reducible repeat (first | apply Kd.R_alloc | apply Kd.R_drewN | apply Kd.R_drew)); exact HO_6.out⟩, ⟨by (with_reducible repeat (first | apply Kd.R_alloc | apply Kd.R_drewN | apply Kd.R_drew)); exact HO_7.out⟩, ⟨by repeat (first | (with_reducible first | exact HB.out | apply below_alloc | apply pw_below_drewN | apply below_drew1) | exact HB.out)⟩⟩
      ·
       rw [if_neg c16] at H
       have c16b0 : decide (x9_2 < (t142.length : Int)) = false := decide_eq_false c16
       clear c16
       replace H := Option.bind_eq_some_iff.mp H
       obtain ⟨t154, A410, H⟩ := H
       replace H : (some t154) = some r := H
       have A41 := Aside0.mk A410
       clear A410
       obtain rfl := Option.some.inj H
       obtain ⟨Ao42, co42, eo42⟩ := Kd.R_slice HO_7.out
       subst eo42
       go_wp2_with (first | (go_at_call 70; (with_reducible refine (syzygyref01_Whole.calls k2 _ _ x7_2 t154 _ ?side1 ?side2 A41.out).mono ?_); (case side1 => exact cc_ (Kd.R_reads' HO_7.out).2.2); (case side2 => exact (Kd.R_reads' HO_7.out).2.1); rintro e w43 ⟨v155, rfl, ho0, hb⟩; have n0_ := Aside0.mk (Kd.R_elder' (rR_ HO_5) (Kd.R_base ho0) hb); have n1_ := Aside0.mk (Kd.R_elder' (rR_ HO_6) (Kd.R_base ho0) hb); have n2_ := Aside0.mk (Kd.R_elder' (rR_ HO_7) (Kd.R_base ho0) hb); have n3_ := Aside0.mk (Kd.R_lower (Kd.R_new' (Kd.R_new' (Kd.R_new' ho0 (Kd.R_lt (rR_ HO_5))) (Kd.R_lt (rR_ HO_6))) (Kd.R_lt (rR_ HO_7))) (below_size (bb_ HB))); have n4_ := Aside0.mk (below_step (bb_ HB) hb); clear HO_5; clear HO_6; clear HO_7; clear HB; have HO_5 := n0_; have HO_6 := n1_; have HO_7 := n2_; have HO156 := n3_; have HB := n4_; clear n0_ n1_ n2_ n3_ n4_; (try clear hb); (try clear hb2); (try clear hk); (try clear hi); (try clear ho0)))
       repeat (go_quiet (first | (go_at_call 70; (with_reducible refine (syzygyref01_Whole.calls k2 _ _ x7_2 t154 _ ?side1 ?side2 A41.out).mono ?_); (case side1 => exact cc_ (Kd.R_reads' HO_7.out).2.2); (case side2 => exact (Kd.R_reads' HO_7.out).2.1); rintro e w43 ⟨v155, rfl, ho0, hb⟩; have n0_ := Aside0.mk (Kd.R_elder' (rR_ HO_5) (Kd.R_base ho0) hb); have n1_ := Aside0.mk (Kd.R_elder' (rR_ HO_6) (Kd.R_base ho0) hb); have n2_ := Aside0.mk (Kd.R_elder' (rR_ HO_7) (Kd.R_base ho0) hb); have n3_ := Aside0.mk (Kd.R_lower (Kd.R_new' (Kd.R_new' (Kd.R_new' ho0 (Kd.R_lt (rR_ HO_5))) (Kd.R_lt (rR_ HO_6))) (Kd.R_lt (rR_ HO_7))) (below_size (bb_ HB))); have n4_ := Aside0.mk (below_step (bb_ HB) hb); clear HO_5; clear HO_6; clear HO_7; clear HB; have HO_5 := n0_; have HO_6 := n1_; have HO_7 := n2_; have HO156 := n3_; have HB := n4_; clear n0_ n1_ n2_ n3_ n4_; (try clear hb); (try clear hb2); (try clear hk); (try clear hi); (try clear ho0))); try go_wp2_with (first | (go_at_call 70; (with_reducible refine (syzygyref01_Whole.calls k2 _ _ x7_2 t154 _ ?side1 ?side2 A41.out).mono ?_); (case side1 => exact cc_ (Kd.R_reads' HO_7.out).2.2); (case side2 => exact (Kd.R_reads' HO_7.out).2.1); rintro e w43 ⟨v155, rfl, ho0, hb⟩; have n0_ := Aside0.mk (Kd.R_elder' (rR_ HO_5) (Kd.R_base ho0) hb); have n1_ := Aside0.mk (Kd.R_elder' (rR_ HO_6) (Kd.R_base ho0) hb); have n2_ := Aside0.mk (Kd.R_elder' (rR_ HO_7) (Kd.R_base ho0) hb); have n3_ := Aside0.mk (Kd.R_lower (Kd.R_new' (Kd.R_new' (Kd.R_new' ho0 (Kd.R_lt (rR_ HO_5))) (Kd.R_lt (rR_ HO_6))) (Kd.R_lt (rR_ HO_7))) (below_size (bb_ HB))); have n4_ := Aside0.mk (below_step (bb_ HB) hb); clear HO_5; clear HO_6; clear HO_7; clear HB; have HO_5 := n0_; have HO_6 := n1_; have HO_7 := n2_; have HO156 := n3_; have HB := n4_; clear n0_ n1_ n2_ n3_ n4_; (try clear hb); (try clear hb2); (try clear hk); (try clear hi); (try clear ho0))))
       go_ret
       exact ⟨_, by first | rfl | (simp [errW_none, errW_some] <;> rfl) | (simp [*, errW_none, errW_some] <;> rfl), by (with_reducible repeat (first | apply Kd.R_alloc | apply Kd.R_drewN | apply Kd.R_drew)); exact Kd.R_mono HO156.out (fun _ hk => trivial), by repeat (first | (with_reducible first | exact HB.out | apply below_alloc | apply pw_below_drewN | apply below_drew1) | exact HB.out)⟩

/-! ### ratio_Zero: function 54 -/
def ratio_Zero.f (a0_0 : Bool) (l0_1 : List Int) (l0_2 : List Int) : Option (Bool) := some ((l0_1.length : Int) == 0)
set_option maxHeartbeats 8000000 in
set_option maxRecDepth 100000 in
theorem ratio_Zero.calls (a0_0 : Bool) (A0_1 : Option Addr) (c0_1 : Nat) (l0_1 : List Int) (A0_2 : Option Addr) (c0_2 : Nat) (l0_2 : List Int) (r : Bool) (w : World) (hr0_1 : Kd.C (Kd.int .u64) w A0_1 l0_1.length l0_1) (hc0_1 : l0_1.length ≤ c0_1) (hr0_2 : Kd.C (Kd.int .u64) w A0_2 l0_2.length l0_2) (hc0_2 : l0_2.length ≤ c0_2) (h : ratio_Zero.f a0_0 l0_1 l0_2 = some r) :
  Calls Try.prog 54 #[.agg #[.bool a0_0, .slice A0_1 l0_1.length c0_1, .slice A0_2 l0_2.length c0_2]] w fun e w' => e = .returned (.bool r) ∧ Below w.heap.size w w' := by
 have hu44 := Try.underlying44
 have HR0_1 := Aside0.mk hr0_1
 have HC0_1 := Aside0.mk hc0_1
 clear hr0_1 hc0_1
 have HR0_2 := Aside0.mk hr0_2
 have HC0_2 := Aside0.mk hc0_2
 clear hr0_2 hc0_2
 have HB := Aside0.mk (Below.refl w.heap.size w)
 have H : (some ((l0_1.length : Int) == 0)) = some r := h
 clear h
 obtain rfl := Option.some.inj H
 go_enter Try.func54, Try.ntmps54
 go_wp2_with (first | ((with_reducible refine gate_dst (N := 1) rfl ?_); refine box_event ?hg (N := 1) ?hd (cs := #[.bool a0_0, .slice A0_1 l0_1.length c0_1, .slice A0_2 l0_2.length c0_2]) (t := 44) ?hr ?_; (case hd => rfl); (case hg => rfl); (case hr => exact gs_); intro gb165 hg w2 hbox hb; have n0_ := Aside0.mk (below_step (bb_ HB) hb); have n1_ := Aside0.mk (hbox); have n2_ := Aside0.mk ((by rw [hg]; exact (below_size (bb_ HB)) : w.heap.size ≤ gb165)); have n3_ := Aside0.mk ((by rw [hg]; exact (below_size (bb_ HB)) : w.heap.size ≤ gb165)); clear HB; have HB := n0_; have BK165 := n1_; have GW165 := n2_; have GE165 := n3_; clear n0_ n1_ n2_ n3_; clear hb hbox hg; have hcz3_0 : w2.cell? ⟨gb165, 0, none⟩ = some (.bool a0_0) := (blk_cell BK165.out 0).trans rfl; have hcz3_1 : w2.cell? ⟨gb165, 1, none⟩ = some (.slice A0_1 l0_1.length c0_1) := (blk_cell BK165.out 1).trans rfl; have hcz3_2 : w2.cell? ⟨gb165, 2, none⟩ = some (.slice A0_2 l0_2.length c0_2) := (blk_cell BK165.out 2).trans rfl; have hfz3_0 := blk_frozen BK165.out 0; have hfz3_1 := blk_frozen BK165.out 1; have hfz3_2 := blk_frozen BK165.out 2))
 go_ret
 exact ⟨by first | rfl | (simp [errW_none, errW_some] <;> rfl) | (simp [*, errW_none, errW_some] <;> rfl), by repeat (first | (with_reducible first | exact HB.out | apply below_alloc | apply pw_below_drewN | apply below_drew1 | refine below_set ?_ GE165.out) | exact HB.out)⟩

/-! ### nat_May: function 64 -/
def nat_May.f (l0 : List Int) : Option (Bool) := if (l0.length : Int) ≤ 8 then (if (l0.length : Int) = 0 then (some true) else (if 0 ≤ (wrap64 ((l0.length : Int) - 1)) then (if (wrap64 ((l0.length : Int) - 1)) < (l0.length : Int) then (some ((rd l0 (wrap64 ((l0.length : Int) - 1))) != 0)) else (none)) else (none))) else (some false)
set_option maxHeartbeats 8000000 in
set_option maxRecDepth 100000 in
theorem nat_May.calls (A0 : Option Addr) (c0 : Nat) (l0 : List Int) (r : Bool) (w : World) (hr0 : Kd.C (Kd.int .u64) w A0 l0.length l0) (hc0 : l0.length ≤ c0) (h : nat_May.f l0 = some r) :
  Calls Try.prog 64 #[.slice A0 l0.length c0] w fun e w' => e = .returned (.bool r) ∧ Drawn0 w w' := by
 have HR0 := Aside0.mk hr0
 have HC0 := Aside0.mk hc0
 clear hr0 hc0
 have H : (if (l0.length : Int) ≤ 8 then (if (l0.length : Int) = 0 then (some true) else (if 0 ≤ (wrap64 ((l0.length : Int) - 1)) then (if (wrap64 ((l0.length : Int) - 1)) < (l0.length : Int) then (some ((rd l0 (wrap64 ((l0.length : Int) - 1))) != 0)) else (none)) else (none))) else (some false)) = some r := h
 clear h
 by_cases c2 : (l0.length : Int) ≤ 8
 ·
  rw [if_pos c2] at H
  have c2b0 : decide ((l0.length : Int) ≤ 8) = true := decide_eq_true c2
  have c2b1 : decide (l0.length ≤ 8) = true := decide_eq_true (by omega)
  clear c2
  by_cases c3 : (l0.length : Int) = 0
  ·
   rw [if_pos c3] at H
   have c3b0 : ((l0.length : Int) == 0) = true := beq_iff_eq.mpr c3
   have c3b1 : ((l0.length : Int) != 0) = false := bne_eq_false_iff_eq.mpr c3
   clear c3
   obtain rfl := Option.some.inj H
   go_enter Try.func64, Try.ntmps64
   go_wp2
   go_ret
   exact ⟨by first | rfl | (simp; done) | (simp [*]; done), by repeat (first | exact Drawn0.refl _ | apply Drawn0.step)⟩
  ·
   rw [if_neg c3] at H
   have c3b0 : ((l0.length : Int) == 0) = false := beq_eq_false_iff_ne.mpr c3
   have c3b1 : ((l0.length : Int) != 0) = true := bne_iff_ne.mpr c3
   have c3b2 : ¬ (l0 = []) := fun h_ => c3 (by rw [h_]; rfl)
   obtain ⟨ji4, hji4⟩ : ∃ j_ : Int, (wrap64 ((l0.length : Int) - 1)) = j_ := ⟨_, rfl⟩
   replace H : (if 0 ≤ (ji4) then (if (ji4) < (l0.length : Int) then (some ((rd l0 (ji4)) != 0)) else (none)) else (none)) = some r := by first | (rw [hji4] at H; exact H) | (simp only [hji4] at H ⊢; exact H)
   have hji4w : (IntKind.i64.wrap ((l0.length : Int) - 1)) = ji4 := (i64_w _).trans hji4
   by_cases c5 : 0 ≤ (ji4)
   ·
    rw [if_pos c5] at H
    have c5b0 : decide (0 ≤ (ji4)) = true := decide_eq_true c5
    clear c5
    by_cases c6 : (ji4) < (l0.length : Int)
    ·
     rw [if_pos c6] at H
     have c6b0 : decide ((ji4) < (l0.length : Int)) = true := decide_eq_true c6
     clear c6
     obtain rfl := Option.some.inj H
     have p166 : 0 ≤ ((ji4) : Int) := of_decide_eq_true am_
     have q166 : (ji4) < (l0.length : Int) := of_decide_eq_true am_
     obtain ⟨ad166, e166, hx166_0⟩ := Kd.at_int HR0.out (ji4) p166 q166
     cases e166
     replace p166 := eq_true p166
     replace q166 := eq_true q166
     go_enter Try.func64, Try.ntmps64
     go_wp2
     go_ret
     exact ⟨by first | rfl | (simp; done) | (simp only [← hji4] <;> (first | rfl | simp)) | (simp [*]; done), by repeat (first | exact Drawn0.refl _ | apply Drawn0.step)⟩
    ·
     rw [if_neg c6] at H
     exact absurd H (by simp)
   ·
    rw [if_neg c5] at H
    exact absurd H (by simp)
 ·
  rw [if_neg c2] at H
  have c2b0 : decide ((l0.length : Int) ≤ 8) = false := decide_eq_false c2
  have c2b1 : decide (l0.length ≤ 8) = false := decide_eq_false (by omega)
  clear c2
  obtain rfl := Option.some.inj H
  go_enter Try.func64, Try.ntmps64
  go_wp2
  go_ret
  exact ⟨by first | rfl | (simp; done) | (simp [*]; done), by repeat (first | exact Drawn0.refl _ | apply Drawn0.step)⟩

/-! ### nat_Of: function 81 -/
def nat_Of.f (a0 : Int) : Option (List Int) := if a0 = 0 then (some ([] : List Int)) else (some (([a0] : List Int)))
set_option maxHeartbeats 8000000 in
set_option maxRecDepth 100000 in
theorem nat_Of.calls (a0 : Int) (r : List Int) (w : World) (h : nat_Of.f a0 = some r) :
  Calls Try.prog 81 #[.int .u64 a0] w fun e w' => ∃ v0_ : Value, e = .returned (v0_) ∧ Kd.R (Kd.int .u64) 22 w' w.heap.size (fun _ => True) v0_ r ∧ Below w.heap.size w w' := by
 have HB := Aside0.mk (Below.refl w.heap.size w)
 have H : (if a0 = 0 then (some ([] : List Int)) else (some (([a0] : List Int)))) = some r := h
 clear h
 by_cases c2 : a0 = 0
 ·
  rw [if_pos c2] at H
  have c2b0 : (a0 == 0) = true := beq_iff_eq.mpr c2
  have c2b1 : (a0 != 0) = false := bne_eq_false_iff_eq.mpr c2
  clear c2
  obtain rfl := Option.some.inj H
  go_enter Try.func81, Try.ntmps81
  go_wp2
  go_ret
  exact ⟨_, by first | rfl | (simp [errW_none, errW_some] <;> rfl) | (simp [*, errW_none, errW_some] <;> rfl), by first | exact Kd.R_nil _ _ _ _ _ | exact Kd.N_nil _ _ _ _ _ | exact Kd.V_nil _ _ _ _ _ | exact Kd.Q_nil _ _ _ _ _ | exact Kd.S_nil _ _ _ _ _, by repeat (first | (with_reducible first | exact HB.out | apply below_alloc | apply pw_below_drewN | apply below_drew1) | exact HB.out)⟩
 ·
  rw [if_neg c2] at H
  have c2b0 : (a0 == 0) = false := beq_eq_false_iff_ne.mpr c2
  have c2b1 : (a0 != 0) = true := bne_iff_ne.mpr c2
  obtain ⟨y167, hy167⟩ : ∃ y_ : List Int, y_ = (([a0] : List Int)) := ⟨_, rfl⟩
  replace H : (some y167) = some r := by first | (rw [hy167]; with_reducible exact H) | (have H2_ := (Option.bind_some _ _).symm.trans H; rw [hy167]; with_reducible exact H2_) | (have H2_ := (Option.bind_some _ _).symm.trans H; with_reducible exact H2_) | with_reducible exact H | (rw [hy167]; exact H) | exact H
  have Ny167 := Aside0.mk hy167
  clear hy167
  obtain rfl := Option.some.inj H
  go_enter Try.func81, Try.ntmps81
  go_wp2_with (first | ((with_reducible refine gate_dst (N := 6) rfl ?_); refine Kd.R_lit (Kd.int .u64) _ 22 ?hg (N := 6) ?hd (xs := ([a0] : List Int)) (inner := [.int .u64 a0]) (ok := fun _ => True) (okp := fun _ => True) ?hr ?hp (fun _ hk => hk) trivial (Below.refl _ _) (Nat.le_refl _) (by simp) ?_; (case hd => rfl); (case hg => rfl); (case hr => exact gs_); (case hp => exact (Reps.one (show Kd.M (Kd.int .u64) _ _ _ a0 [.int .u64 a0] from rfl) (Reps.none _ _))); intro v168 w3 ho4 hb hg_ hnew_; clear hg_ hnew_; (first | rw [← Ny167.out] at ho4 | (simp only [Int.reduceToNat] at ho4; rw [← Ny167.out] at ho4)); have n0_ := Aside0.mk (Kd.R_lower ho4 (below_size (bb_ HB))); have n1_ := Aside0.mk (below_step (bb_ HB) hb); clear HB; have HO169 := n0_; have HB := n1_; clear n0_ n1_; clear hb ho4))
  go_ret
  exact ⟨_, by first | rfl | (simp [errW_none, errW_some] <;> rfl) | (simp [*, errW_none, errW_some] <;> rfl), by (with_reducible repeat (first | apply Kd.R_alloc | apply Kd.R_drewN | apply Kd.R_drew)); exact HO169.out, by repeat (first | (with_reducible first | exact HB.out | apply below_alloc | apply pw_below_drewN | apply below_drew1) | exact HB.out)⟩

/-! ### limb_trim: function 110 -/
def limb_trim.l0 : Nat → List Int → Option (List Int)
 | 0, _ => none
 | k + 1, x0 => if (x0.length : Int) > 0 then (if 0 ≤ (wrap64 ((x0.length : Int) - 1)) then (if (wrap64 ((x0.length : Int) - 1)) < (x0.length : Int) then (if (rd x0 (wrap64 ((x0.length : Int) - 1))) = 0 then (if (wrap64 ((x0.length : Int) - 1)) ≤ (x0.length : Int) then (limb_trim.l0 k (x0.take ((wrap64 ((x0.length : Int) - 1)) : Int).toNat)) else (none)) else (some x0)) else (none)) else (none)) else (some x0)
def limb_trim.f (k : Nat) (l0 : List Int) : Option (List Int) := limb_trim.l0 k l0
theorem limb_trim.mono_l : ∀ k, (∀ y0, LeO (limb_trim.l0 k y0) (limb_trim.l0 (k + 1) y0))
 | 0 => fun _ r h => by simp [limb_trim.l0] at h
 | k + 1 => by
  have ih0 := limb_trim.mono_l k
  ·
   intro y0
   unfold limb_trim.l0
   repeat' first
   | (with_reducible exact ih0 _)
   | (with_reducible exact LeO.refl _)
   | (with_reducible exact LeO.none _)
   | (with_reducible refine LeO.ite ?_ ?_)
   | (with_reducible refine LeO.bind ?_ (fun _ => ?_))
theorem limb_trim.mono : ∀ a0 k, LeO (limb_trim.f k a0) (limb_trim.f (k + 1) a0) := by
 intro a0 k
 have ih0 := limb_trim.mono_l k
 unfold limb_trim.f
 repeat' first
   | (with_reducible exact ih0 _)
   | (with_reducible exact LeO.refl _)
   | (with_reducible exact LeO.none _)
   | (with_reducible refine LeO.ite ?_ ?_)
   | (with_reducible refine LeO.bind ?_ (fun _ => ?_))
set_option maxHeartbeats 8000000 in
set_option maxRecDepth 100000 in
theorem limb_trim.calls (k : Nat) (P0_ : Nat → Prop) (A0 : Option Addr) (c0 : Nat) (l0 : List Int) (r : List Int) (w : World) (hs0 : Kd.V (Kd.int .u64) 22 w w.heap.size (fun k_ => P0_ k_) (.slice A0 l0.length c0) l0) (h : limb_trim.f k l0 = some r) :
  Calls Try.prog 110 #[.slice A0 l0.length c0] w fun e w' => ∃ v0_ : Value, e = .returned (v0_) ∧ Kd.V (Kd.int .u64) 22 w' w.heap.size (fun k_ => (P0_ k_ ∨ w.heap.size ≤ k_)) v0_ r ∧ Below w.heap.size w w' := by
 have HO0 := Aside0.mk (show Kd.V (Kd.int .u64) 22 w w.heap.size (fun k_ => (P0_ k_ ∨ w.heap.size ≤ k_)) (.slice A0 l0.length c0) l0 from Kd.V_mono hs0 (fun k_ hk => .inl hk))
 have HB := Aside0.mk (Below.refl w.heap.size w)
 have H : (limb_trim.l0 k l0) = some r := h
 clear h
 have H' := Aside0.mk H
 clear H
 go_enter Try.func110, Try.ntmps110
 go_wp2
 go_loopg [0] k (fun kq v0 w' => ∃ (x0_1 : List Int), Aside0 (limb_trim.l0 kq x0_1 = some r) ∧ Aside0 (kq ≤ k) ∧ Aside0 (Kd.V (Kd.int .u64) 22 w' w.heap.size (fun k_ => (P0_ k_ ∨ w.heap.size ≤ k_)) v0 x0_1) ∧ Aside0 (Below w.heap.size w w'))
 case atStart => exact ⟨(l0), H', ⟨Nat.le_refl _⟩, ⟨by (with_reducible repeat (first | apply Kd.V_alloc | apply Kd.V_drewN | apply Kd.V_drew)); exact HO0.out⟩, ⟨by repeat (first | (with_reducible first | exact HB.out | apply below_alloc | apply pw_below_drewN | apply below_drew1) | exact HB.out)⟩⟩
 case round =>
  clear H'
  try clear c1
  obtain ⟨x0_1, HA, HK1, HO_0, HB⟩ := hrel
  cases gk with
  | zero => exact absurd HA.out (by simp [limb_trim.l0])
  | succ k1 =>
   have H := HA.out
   clear HA
   simp only [limb_trim.l0] at H
   by_cases c2 : (x0_1.length : Int) > 0
   ·
    rw [if_pos c2] at H
    have c2b0 : decide (0 < (x0_1.length : Int)) = true := decide_eq_true c2
    have c2b1 : decide (0 < x0_1.length) = true := decide_eq_true (by omega)
    clear c2
    obtain ⟨ji3, hji3⟩ : ∃ j_ : Int, (wrap64 ((x0_1.length : Int) - 1)) = j_ := ⟨_, rfl⟩
    replace H : (if 0 ≤ (ji3) then (if (ji3) < (x0_1.length : Int) then (if (rd x0_1 (ji3)) = 0 then (if (ji3) ≤ (x0_1.length : Int) then (limb_trim.l0 k1 (x0_1.take ((ji3) : Int).toNat)) else (none)) else (some x0_1)) else (none)) else (none)) = some r := by first | (rw [hji3] at H; exact H) | (simp only [hji3] at H ⊢; exact H)
    have hji3w : (IntKind.i64.wrap ((x0_1.length : Int) - 1)) = ji3 := (i64_w _).trans hji3
    by_cases c4 : 0 ≤ (ji3)
    ·
     rw [if_pos c4] at H
     have c4b0 : decide (0 ≤ (ji3)) = true := decide_eq_true c4
     clear c4
     by_cases c5 : (ji3) < (x0_1.length : Int)
     ·
      rw [if_pos c5] at H
      have c5b0 : decide ((ji3) < (x0_1.length : Int)) = true := decide_eq_true c5
      clear c5
      by_cases c6 : (rd x0_1 (ji3)) = 0
      ·
       rw [if_pos c6] at H
       have c6b0 : ((rd x0_1 (ji3)) == 0) = true := beq_iff_eq.mpr c6
       have c6b1 : ((rd x0_1 (ji3)) != 0) = false := bne_eq_false_iff_eq.mpr c6
       clear c6
       have c7b0 := eq_true (of_decide_eq_true am_ : 0 ≤ (ji3))
       by_cases c8 : (ji3) ≤ (x0_1.length : Int)
       ·
        rw [if_pos c8] at H
        have c8b0 := eq_true c8
        have c8b1 : decide ((ji3) ≤ (x0_1.length : Int)) = true := decide_eq_true c8
        clear c8
        obtain ⟨y171, hy171⟩ : ∃ y_ : List Int, y_ = (x0_1.take ((ji3) : Int).toNat) := ⟨_, rfl⟩
        replace H : (limb_trim.l0 k1 y171) = some r := by first | (rw [hy171]; with_reducible exact H) | (have H2_ := (Option.bind_some _ _).symm.trans H; rw [hy171]; with_reducible exact H2_) | (have H2_ := (Option.bind_some _ _).symm.trans H; with_reducible exact H2_) | with_reducible exact H | (rw [hy171]; exact H) | exact H
        have Ny171 := Aside0.mk hy171
        clear hy171
        have H' := Aside0.mk H
        clear H
        obtain ⟨Ao9, co9, eo9⟩ := Kd.V_slice HO_0.out
        subst eo9
        have p170 : 0 ≤ ((ji3) : Int) := of_decide_eq_true am_
        have q170 : (ji3) < (x0_1.length : Int) := of_decide_eq_true am_
        obtain ⟨ad170, e170, hx170_0⟩ := Kd.at_int (Kd.V_reads' HO_0.out).2.2 (ji3) p170 q170
        cases e170
        replace p170 := eq_true p170
        replace q170 := eq_true q170
        have q10 : ((ji3) : Int) ≤ ((x0_1.length : Int) : Int) := of_decide_eq_true am_
        obtain ⟨i010, hi010, _, hsz10, _⟩ := info_parts info22
        have hroom10 : x0_1.length ≤ co9 := (Kd.V_reads' HO_0.out).2.1
        have hC10 : Kd.F (Kd.int .u64) _ _ (some ad170) x0_1.length x0_1 := (Kd.V_at (base := w.heap.size) HO_0.out).2.2
        have hcut10 := cut_to (P := Try.prog) 35 22 .i64 Try.underlying35 hi010 (some ad170) x0_1.length co9 (ji3) (of_decide_eq_true am_) q10 hroom10
        have hr10 := Kd.F_take (m := ((ji3) : Int).toNat) hC10 (by omega)
        have hy10 : y171.length = ((ji3) : Int).toNat := (by rw [Ny171.out, List.length_take]; omega)
        rw [← Ny171.out] at hr10
        rw [← hy10] at hcut10
        have HO175 := Aside0.mk (show Kd.V (Kd.int .u64) 22 _ w.heap.size _ (.slice (some ad170) y171.length co9) y171 from Kd.V_mk (by omega) hr10)
        have HC175 := Aside0.mk (show y171.length ≤ co9 from by omega)
        clear hr10 hC10 hroom10 hi010 hsz10
        have KY10 := Aside0.mk hy10
        clear hy10
        replace q10 := eq_true q10
        go_wp2
        go_roundg k1
        case measure => have := HK1.out; omega
        case rel => exact ⟨(y171), H', ⟨by have := HK1.out; omega⟩, ⟨by (with_reducible repeat (first | apply Kd.V_alloc | apply Kd.V_drewN | apply Kd.V_drew)); exact HO175.out⟩, ⟨by repeat (first | (with_reducible first | exact HB.out | apply below_alloc | apply pw_below_drewN | apply below_drew1) | exact HB.out)⟩⟩
       ·
        rw [if_neg c8] at H
        exact absurd H (by simp)
      ·
       rw [if_neg c6] at H
       have c6b0 : ((rd x0_1 (ji3)) == 0) = false := beq_eq_false_iff_ne.mpr c6
       have c6b1 : ((rd x0_1 (ji3)) != 0) = true := bne_iff_ne.mpr c6
       obtain rfl := Option.some.inj H
       obtain ⟨Ao11, co11, eo11⟩ := Kd.V_slice HO_0.out
       subst eo11
       have p170 : 0 ≤ ((ji3) : Int) := of_decide_eq_true am_
       have q170 : (ji3) < (x0_1.length : Int) := of_decide_eq_true am_
       obtain ⟨ad170, e170, hx170_0⟩ := Kd.at_int (Kd.V_reads' HO_0.out).2.2 (ji3) p170 q170
       cases e170
       replace p170 := eq_true p170
       replace q170 := eq_true q170
       go_wp2
       go_ret
       exact ⟨_, by first | rfl | (simp [errW_none, errW_some] <;> rfl) | (simp only [← hji3]; first | rfl | (simp [errW_none, errW_some] <;> rfl)) | (simp [*, errW_none, errW_some] <;> rfl), by (with_reducible repeat (first | apply Kd.V_alloc | apply Kd.V_drewN | apply Kd.V_drew)); exact HO_0.out, by repeat (first | (with_reducible first | exact HB.out | apply below_alloc | apply pw_below_drewN | apply below_drew1) | exact HB.out)⟩
     ·
      rw [if_neg c5] at H
      exact absurd H (by simp)
    ·
     rw [if_neg c4] at H
     exact absurd H (by simp)
   ·
    rw [if_neg c2] at H
    have c2b0 : decide (0 < (x0_1.length : Int)) = false := decide_eq_false c2
    have c2b1 : decide (0 < x0_1.length) = false := decide_eq_false (by omega)
    clear c2
    obtain rfl := Option.some.inj H
    obtain ⟨Ao12, co12, eo12⟩ := Kd.V_slice HO_0.out
    subst eo12
    go_wp2
    go_ret
    exact ⟨_, by first | rfl | (simp [errW_none, errW_some] <;> rfl) | (simp [*, errW_none, errW_some] <;> rfl), by (with_reducible repeat (first | apply Kd.V_alloc | apply Kd.V_drewN | apply Kd.V_drew)); exact HO_0.out, by repeat (first | (with_reducible first | exact HB.out | apply below_alloc | apply pw_below_drewN | apply below_drew1) | exact HB.out)⟩

/-- What two stores, into the row and into the carry's block, leave. -/
theorem box_step {w wr : World} {gx gc ga i n cx base : Nat} {vx : Value} {xs : List Int} {c s c' : Int} {ok : Nat → Prop} (h1 : wr.heap[gx]? = some (.cells #[vx] 35 (0, 0))) (h2 : wr.heap[gc]? = some (.cells #[.int .u64 c] 22 (0, 0)))
  (h3 : Kd.R (Kd.int .u64) 22 wr base ok (.slice (some ⟨ga, 0, none⟩) n cx) xs) (h4 : Below w.heap.size w wr) (n1 : gx ≠ ga) (n2 : gc ≠ ga) (n3 : gx ≠ gc) (n4 : w.heap.size ≤ ga) (n5 : w.heap.size ≤ gc) (hok : ∀ k, ok k → k ≠ gc) :
  ((wr.setCell ⟨ga, i, none⟩ (.int .u64 s)).setCell ⟨gc, 0, none⟩ (.int .u64 c')).drew.heap[gx]? = some (.cells #[vx] 35 (0, 0)) ∧ ((wr.setCell ⟨ga, i, none⟩ (.int .u64 s)).setCell ⟨gc, 0, none⟩ (.int .u64 c')).drew.heap[gc]? = some (.cells #[.int .u64 c'] 22 (0, 0)) ∧
  Kd.R (Kd.int .u64) 22 ((wr.setCell ⟨ga, i, none⟩ (.int .u64 s)).setCell ⟨gc, 0, none⟩ (.int .u64 c')).drew base ok (.slice (some ⟨ga, 0, none⟩) n cx) (xs.set i s) ∧ Below w.heap.size w ((wr.setCell ⟨ga, i, none⟩ (.int .u64 s)).setCell ⟨gc, 0, none⟩ (.int .u64 c')).drew := by
 refine ⟨blk_drew (blk_far (blk_far h1 n1 _) n3 _), blk_drew (blk_put (blk_far h2 n2 _) 0 _ rfl), ?_, below_drew (below_set (below_set h4 n4) n5)⟩
 have hp := (Kd.R_putg h3 (i : Int) s).1
 rw [Int.toNat_natCast] at hp
 exact Kd.R_drew (Kd.R_far hp hok _)
set_option maxHeartbeats 8000000 in
set_option maxRecDepth 100000 in
/-- trim of a row of the caller's own: it stays one. -/
theorem limb_trim.own (k : Nat) (base : Nat) (ok : Nat → Prop) (A0 : Option Addr) (c0 : Nat) (l0 : List Int) (r : List Int) (w : World) (ho : Kd.R (Kd.int .u64) 22 w base ok (.slice A0 l0.length c0) l0) (h : limb_trim.f k l0 = some r) :
  Calls Try.prog 110 #[.slice A0 l0.length c0] w fun e w' => ∃ v0_ : Value, e = .returned (v0_) ∧ Kd.R (Kd.int .u64) 22 w' base ok v0_ r ∧ Below w.heap.size w w' := by
 have HO0 := Aside0.mk ho
 clear ho
 have HB := Aside0.mk (Below.refl w.heap.size w)
 have H' := Aside0.mk (show (limb_trim.l0 k l0) = some r from h)
 clear h
 go_enter Try.func110, Try.ntmps110
 go_wp2
 go_loopg [0] k (fun kq v0 w' => ∃ (x0_1 : List Int), Aside0 (limb_trim.l0 kq x0_1 = some r) ∧ Aside0 (Kd.R (Kd.int .u64) 22 w' base ok v0 x0_1) ∧ Aside0 (Below w.heap.size w w'))
 case atStart => exact ⟨l0, H', HO0, HB⟩
 case round =>
  clear H'
  obtain ⟨x0_1, HA, HO_0, HB⟩ := hrel
  obtain ⟨Ao9, co9, eo9⟩ := Kd.R_slice HO_0.out
  subst eo9
  cases gk with
  | zero => exact absurd HA.out (by simp [limb_trim.l0])
  | succ k1 =>
   have H := HA.out
   clear HA
   simp only [limb_trim.l0] at H
   by_cases c2 : (x0_1.length : Int) > 0
   ·
    rw [if_pos c2] at H
    have c2b0 : decide (0 < (x0_1.length : Int)) = true := decide_eq_true c2
    have c2b1 : decide (0 < x0_1.length) = true := decide_eq_true (by omega)
    clear c2
    obtain ⟨ji3, hji3⟩ : ∃ j_ : Int, (wrap64 ((x0_1.length : Int) - 1)) = j_ := ⟨_, rfl⟩
    rw [hji3] at H
    have hji3w : (IntKind.i64.wrap ((x0_1.length : Int) - 1)) = ji3 := (i64_w _).trans hji3
    by_cases c4 : 0 ≤ (ji3)
    ·
     rw [if_pos c4] at H
     have c4b0 : decide (0 ≤ (ji3)) = true := decide_eq_true c4
     clear c4
     by_cases c5 : (ji3) < (x0_1.length : Int)
     ·
      rw [if_pos c5] at H
      have c5b0 : decide ((ji3) < (x0_1.length : Int)) = true := decide_eq_true c5
      clear c5
      have p103 : 0 ≤ ((ji3) : Int) := of_decide_eq_true am_
      have q103 : (ji3) < (x0_1.length : Int) := of_decide_eq_true am_
      obtain ⟨ad103, e103, hx103_0⟩ := Kd.at_int (Kd.R_reads' HO_0.out).2.2 (ji3) p103 q103
      cases e103
      replace p103 := eq_true p103
      replace q103 := eq_true q103
      by_cases c6 : (rd x0_1 (ji3)) = 0
      ·
       rw [if_pos c6] at H
       have c6b0 : ((rd x0_1 (ji3)) == 0) = true := beq_iff_eq.mpr c6
       have c6b1 : ((rd x0_1 (ji3)) != 0) = false := bne_eq_false_iff_eq.mpr c6
       clear c6
       have c7b0 := eq_true (of_decide_eq_true am_ : 0 ≤ (ji3))
       by_cases c8 : (ji3) ≤ (x0_1.length : Int)
       ·
        rw [if_pos c8] at H
        have c8b0 := eq_true c8
        have c8b1 : decide ((ji3) ≤ (x0_1.length : Int)) = true := decide_eq_true c8
        clear c8
        obtain ⟨y104, hy104⟩ : ∃ y_ : List Int, y_ = (x0_1.take ((ji3) : Int).toNat) := ⟨_, rfl⟩
        rw [← hy104] at H
        have H' := Aside0.mk H
        clear H
        have q10 : ((ji3) : Int) ≤ ((x0_1.length : Int) : Int) := of_decide_eq_true am_
        obtain ⟨i010, hi010, _, hsz10, _⟩ := info_parts info22
        have hroom10 : x0_1.length ≤ co9 := (Kd.R_reads' HO_0.out).2.1
        have hcut10 := cut_to (P := Try.prog) 35 22 .i64 Try.underlying35 hi010 (some ad103) x0_1.length co9 (ji3) (of_decide_eq_true am_) q10 hroom10
        have hr10 := Kd.R_take (m := ((ji3) : Int).toNat) HO_0.out (by omega)
        have hy10 : y104.length = ((ji3) : Int).toNat := (by rw [hy104, List.length_take]; omega)
        rw [← hy104, ← hy10] at hr10
        rw [← hy10] at hcut10
        have HO108 := Aside0.mk hr10
        clear hr10 hroom10 hi010 hsz10 hy104
        have KY10 := Aside0.mk hy10
        clear hy10
        replace q10 := eq_true q10
        go_wp2
        go_roundg k1
        case measure => omega
        case rel => exact ⟨(y104), H', HO108, HB⟩
       ·
        rw [if_neg c8] at H
        exact absurd H (by simp)
      ·
       rw [if_neg c6] at H
       have c6b0 : ((rd x0_1 (ji3)) == 0) = false := beq_eq_false_iff_ne.mpr c6
       have c6b1 : ((rd x0_1 (ji3)) != 0) = true := bne_iff_ne.mpr c6
       obtain rfl := Option.some.inj H
       go_wp2
       go_ret
       exact ⟨_, rfl, HO_0.out, HB.out⟩
     ·
      rw [if_neg c5] at H
      exact absurd H (by simp)
    ·
     rw [if_neg c4] at H
     exact absurd H (by simp)
   ·
    rw [if_neg c2] at H
    have c2b0 : decide (0 < (x0_1.length : Int)) = false := decide_eq_false c2
    have c2b1 : decide (0 < x0_1.length) = false := decide_eq_false (by omega)
    clear c2
    obtain rfl := Option.some.inj H
    go_wp2
    go_ret
    exact ⟨_, rfl, HO_0.out, HB.out⟩

set_option maxHeartbeats 8000000 in
set_option maxRecDepth 100000 in
/-- trim of a row that is only read: its beginning. -/
theorem limb_trim.read (k : Nat) (A0 : Option Addr) (c0 : Nat) (l0 : List Int) (r : List Int) (w : World) (hr : Kd.C (Kd.int .u64) w A0 l0.length l0) (hc : l0.length ≤ c0) (h : limb_trim.f k l0 = some r) :
  Calls Try.prog 110 #[.slice A0 l0.length c0] w fun e w' => e = .returned (.slice A0 r.length c0) ∧ r = l0.take r.length ∧ w' = w := by
 have HR0 := Aside0.mk hr
 have HC0 := Aside0.mk hc
 clear hr hc
 have H' := Aside0.mk (show (limb_trim.l0 k (l0.take l0.length)) = some r from by rw [List.take_length]; exact h)
 clear h
 go_enter Try.func110, Try.ntmps110
 go_wp2
 go_loopg [0] k (fun kq v0 w' => ∃ (m : Nat), v0 = .slice A0 m c0 ∧ m ≤ l0.length ∧ Aside0 (limb_trim.l0 kq (l0.take m) = some r) ∧ w = w')
 case atStart => exact ⟨_, rfl, Nat.le_refl _, H', rfl⟩
 case round =>
  clear H'
  obtain ⟨m, rfl, hm, HA, rfl⟩ := hrel
  have hlen : (l0.take m).length = m := by rw [List.length_take]; omega
  cases gk with
  | zero => exact absurd HA.out (by simp [limb_trim.l0])
  | succ k1 =>
   have H := HA.out
   clear HA
   simp only [limb_trim.l0, hlen] at H
   have HM := Aside0.mk hm
   have HL := Aside0.mk hlen
   clear hlen
   by_cases c2 : (m : Int) > 0
   ·
    rw [if_pos c2] at H
    have c2b0 : decide (0 < (m : Int)) = true := decide_eq_true c2
    have c2b1 : decide (0 < m) = true := decide_eq_true (by omega)
    have hmb : (m : Int) ≤ 9223372036854775807 := by have := HR0.out.2.1; omega
    obtain ⟨ji3, hji3⟩ : ∃ j_ : Int, (wrap64 ((m : Int) - 1)) = j_ := ⟨_, rfl⟩
    rw [hji3] at H
    have hjm : ji3 = (m : Int) - 1 := by rw [← hji3]; unfold wrap64; omega
    have hji3w : (IntKind.i64.wrap ((m : Int) - 1)) = ji3 := (i64_w _).trans hji3
    rw [if_pos (by omega), if_pos (by omega)] at H
    have hrd : rd (l0.take m) ji3 = rd l0 ji3 := by
     unfold rd
     rw [List.getD_eq_getElem?_getD, List.getD_eq_getElem?_getD, List.getElem?_take_of_lt (by omega)]
    rw [hrd] at H
    have p103 : 0 ≤ ji3 := by omega
    have q103 : ji3 < (m : Int) := by omega
    obtain ⟨ad103, e103, hx103_0⟩ := Kd.at_int HR0.out ji3 p103 (by omega)
    cases e103
    have HJ := Aside0.mk hjm
    clear hjm hrd hm c2
    by_cases c6 : (rd l0 ji3) = 0
    ·
     rw [if_pos c6, if_pos (by omega)] at H
     have c6b0 : ((rd l0 ji3) == 0) = true := beq_iff_eq.mpr c6
     have c6b1 : ((rd l0 ji3) != 0) = false := bne_eq_false_iff_eq.mpr c6
     clear c6
     obtain ⟨i010, hi010, _, hsz10, _⟩ := info_parts info22
     have hcut10 := cut_to (P := Try.prog) 35 22 .i64 Try.underlying35 hi010 (some ad103) m c0 ji3 p103 (by omega) (by have := HM.out; have := HC0.out; omega)
     have H' := Aside0.mk (show limb_trim.l0 k1 (l0.take ji3.toNat) = some r from by rw [List.take_take, Nat.min_eq_left (by omega)] at H; exact H)
     clear H hi010 hsz10 hmb
     replace p103 := eq_true p103
     replace q103 := eq_true q103
     go_wp2
     go_roundg k1
     case measure => omega
     case rel => exact ⟨ji3.toNat, rfl, by have := HJ.out; have := HM.out; omega, H', rfl⟩
    ·
     rw [if_neg c6] at H
     have c6b0 : ((rd l0 ji3) == 0) = false := beq_eq_false_iff_ne.mpr c6
     have c6b1 : ((rd l0 ji3) != 0) = true := bne_iff_ne.mpr c6
     have HE := Aside0.mk (Option.some.inj H)
     clear H hmb
     replace p103 := eq_true p103
     replace q103 := eq_true q103
     go_wp2
     go_ret
     refine ⟨?_, ?_, rfl⟩
     ·
      rw [← HE.out, HL.out]; rfl
     ·
      rw [← HE.out, HL.out]
   ·
    rw [if_neg c2] at H
    have c2b0 : decide (0 < (m : Int)) = false := decide_eq_false c2
    have c2b1 : decide (0 < m) = false := decide_eq_false (by omega)
    have HE := Aside0.mk (Option.some.inj H)
    clear c2 H hm
    go_wp2
    go_ret
    refine ⟨?_, ?_, rfl⟩
    ·
     rw [← HE.out, HL.out]; rfl
    ·
     rw [← HE.out, HL.out]

/-! ### slices_Clone_uint64_uint64: function 116 -/

def slices_Clone_uint64_uint64.f (l0 : List Int) : Option (List Int) := if l0.length < 17592186044416 then some l0 else none
set_option maxHeartbeats 8000000 in
set_option maxRecDepth 100000 in
theorem slices_Clone_uint64_uint64.calls (A0 : Option Addr) (c0 : Nat) (l0 : List Int) (r : List Int) (w : World) (hr0 : Kd.C (Kd.int .u64) w A0 l0.length l0) (hc0 : l0.length ≤ c0) (h : slices_Clone_uint64_uint64.f l0 = some r) :
  Calls Try.prog 116 #[.slice A0 l0.length c0] w fun e w' => ∃ v0_ : Value, e = .returned (v0_) ∧ Kd.R (Kd.int .u64) 22 w' w.heap.size (fun _ => True) v0_ r ∧ Below w.heap.size w w' := by
 have HR0 := Aside0.mk hr0
 have HC0 := Aside0.mk hc0
 clear hr0 hc0
 unfold slices_Clone_uint64_uint64.f at h
 by_cases hl : l0.length < 17592186044416
 ·
  rw [if_pos hl] at h
  obtain rfl := Option.some.inj h
  clear h
  have HL := Aside0.mk hl
  clear hl
  have qq : ∀ (w : World) (a : Option Addr) (n c n' c' : Nat), (binOp .eql 35 (.slice a n c) (.slice none n' c')).run Try.prog w = .ok (.bool a.isNone) w := fun w a n c n' c' => Lib.run_eql_slice_nil w _ _ a n c n' c' Try.underlying35
  cases A0 with
  | none =>
   have hlen : l0 = [] := by
    by_cases hp : 0 < l0.length
    ·
     obtain ⟨ad, e, _⟩ := HR0.out.2.2 hp
     cases e
    ·
     exact List.eq_nil_of_length_eq_zero (by omega)
   subst hlen
   go_enter Try.func116, Try.ntmps116
   go_wp2
   go_ret
   exact ⟨_, rfl, Kd.R_nil _ _ _ _ _, Below.refl _ _⟩
  | some ad =>
   have HO : Aside0 (∀ W : World, Kd.R (Kd.int .u64) 22 (W.alloc (.cells #[] 22)) W.heap.size (fun _ => True) (.slice (some ⟨W.heap.size, 0, none⟩) 0 0) []) := ⟨fun W => Kd.R_of_own (World.ownsRow_made W #[] 0 (Nat.le_refl _) (Nat.zero_le _) rfl) (fun _ _ => trivial)⟩
   go_enter Try.func116, Try.ntmps116
   go_wp2_with ((with_reducible refine gate_builtin (b := .append) (xs := #[.tmp 5, .tmp 6]) rfl ?_); at_builtin; refine Kd.R_append_rows (Kd.int .u64) (w0 := w) w.heap.size rfl (.tmp 5) (.tmp 6) 35 22 (.int .u64 0) 8 rfl Try.underlying35 info22 rfl (by decide) (by omega) _ [] l0 _ _ _ (fun _ => True) (fun _ => False) rfl rfl ?aO ?aR (fun _ _ h => h) (fun _ h => h.elim) ?aF ?aB ?aS ?aL ?_)
   case aO => exact HO.out w
   case aR => exact Kd.C_alloc HR0.out _
   case aF => exact fun _ _ => trivial
   case aB => exact below_alloc (Below.refl _ _) _
   case aS => simp
   case aL => have := HL.out; simp; omega
   intro v1 w1 ho hb hg hat
   clear hg hat
   have HO1 := Aside0.mk ho
   have HB := Aside0.mk hb
   clear ho hb
   go_wp2
   go_ret
   exact ⟨_, rfl, by simpa using HO1.out, HB.out⟩
 ·
  rw [if_neg hl] at h
  exact absurd h (by simp)

end Go.Proofs.Ytijgeonhbmgikaa.PORatioOne
