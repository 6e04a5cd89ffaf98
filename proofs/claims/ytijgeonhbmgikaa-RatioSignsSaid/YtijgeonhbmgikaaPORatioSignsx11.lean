-- printed (pr.py)
import Derived.Test.YtijgeonhbmgikaaPORatioSignsx0
import Derived.Test.YtijgeonhbmgikaaPORatioSignsx1
import Derived.Test.YtijgeonhbmgikaaPORatioSignsx9
import Derived.Test.YtijgeonhbmgikaaPORatioSignsx10
namespace Go.Proofs.Ytijgeonhbmgikaa.PORatioSigns
open Go.RowKit Go.Proofs.YtijgeonhbmgikaaN Go.Proofs.YtijgeonhbmgikaaW.PrintWords Go.Proofs.YtijgeonhbmgikaaW.PrintLast Go.Proofs.YtijgeonhbmgikaaW.PrintMore
attribute [local go_sem] qG qE qg qd zl zk qF qD
set_option maxHeartbeats 8000000
set_option maxRecDepth 100000
set_option linter.unusedVariables false
set_option linter.unusedSimpArgs false

/-! ### jW: function 25 -/
def jW.l0 : Nat → List Int → Int → Option (List Int)
 | 0, _, _ => none
 | k + 1, x0, x3 => if x3 > 0 then (if 0 ≤ (wrap64 (x3 - 1)) then (if (wrap64 (x3 - 1)) < (x0.length : Int) then (if (rd x0 (wrap64 (x3 - 1))) = 0 then (jW.l0 k x0 (wrap64 (x3 - 1))) else ((some (([] : List Int) : List Int)).bind fun y398 => (if 0 ≤ x3 then (if x3 ≤ (x0.length : Int) then (if y398.length + (x0.take (x3 : Int).toNat).length < 17592186044416 then (some (y398 ++ (x0.take (x3 : Int).toNat))) else (none)) else (none)) else (none)))) else (none)) else (none)) else ((some (([] : List Int) : List Int)).bind fun y405 => (if 0 ≤ x3 then (if x3 ≤ (x0.length : Int) then (if y405.length + (x0.take (x3 : Int).toNat).length < 17592186044416 then (some (y405 ++ (x0.take (x3 : Int).toNat))) else (none)) else (none)) else (none)))
def jW.f (k : Nat) (l0 : List Int) : Option (List Int) := jW.l0 k l0 (l0.length : Int)
theorem jW.zF : ∀ k, (∀ y0 y1, LeO (jW.l0 k y0 y1) (jW.l0 (k + 1) y0 y1))
 | 0 => fun _ _ r h => by simp [jW.l0] at h
 | k + 1 => by
  have ih0 := jW.zF k
  ·
   intro y0 y1
   unfold jW.l0
   repeat' first
   | (with_reducible exact ih0 _ _)
   | (with_reducible exact LeO.refl _)
   | (with_reducible exact LeO.none _)
   | (with_reducible refine LeO.ite ?_ ?_)
   | (with_reducible refine LeO.bind ?_ (fun _ => ?_))
theorem jW.mono : ∀ a0 k, LeO (jW.f k a0) (jW.f (k + 1) a0) := by
 intro a0 k
 have ih0 := jW.zF k
 unfold jW.f
 repeat' first
   | (with_reducible exact ih0 _ _)
   | (with_reducible exact LeO.refl _)
   | (with_reducible exact LeO.none _)
   | (with_reducible refine LeO.ite ?_ ?_)
   | (with_reducible refine LeO.bind ?_ (fun _ => ?_))
theorem jW.calls (k : Nat) (A0 : Option Addr) (c0 : Nat) (l0 : List Int) (r : List Int) (w : World) (hr0 : Kd.C (Kd.int .u64) w A0 l0.length l0) (hc0 : l0.length ≤ c0) (h : jW.f k l0 = some r) :
  Calls Try.prog 25 #[.slice A0 l0.length c0] w fun e w' => ∃ v0_ : Value, e = .returned (v0_) ∧ Kd.R (Kd.int .u64) 22 w' w.heap.size (fun _ => True) v0_ r ∧ Below w.heap.size w w' := by
 have HR0 := jA.mk hr0
 have HC0 := jA.mk hc0
 clear hr0 hc0
 have HB := jA.mk (Below.refl w.heap.size w)
 have H : (jW.l0 k l0 (l0.length : Int)) = some r := h
 clear h
 have H' := jA.mk H
 clear H
 go_enter Try.func25, Try.ntmps25
 go_wp2
 go_loopg [3] k (fun kq v3 w' => ∃ (x3_1 : Int), v3 = .int .i64 x3_1 ∧ jA (jW.l0 kq l0 x3_1 = some r) ∧ jA (kq ≤ k) ∧ jA (Below w.heap.size w w'))
 case atStart => exact ⟨((l0.length : Int)), sd_, H', ⟨Nat.le_refl _⟩, ⟨(bb_ HB)⟩⟩
 case round =>
  clear H'
  obtain ⟨x3_1, rfl, HA, HK1, HB⟩ := hrel
  cases gk with
  | zero => exact absurd HA.out (by simp [jW.l0])
  | succ k1 =>
   have H := HA.out
   clear HA
   simp only [jW.l0] at H
   by_cases c2 : x3_1 > 0
   ·
    rw [if_pos c2] at H
    have c2b0 : decide (0 < x3_1) = true := decide_eq_true c2
    clear c2
    obtain ⟨ji3, hji3⟩ : ∃ j_ : Int, (wrap64 (x3_1 - 1)) = j_ := ⟨_, rfl⟩
    replace H : (if 0 ≤ (ji3) then (if (ji3) < (l0.length : Int) then (if (rd l0 (ji3)) = 0 then (jW.l0 k1 l0 ji3) else ((some (([] : List Int) : List Int)).bind fun y398 => (if 0 ≤ x3_1 then (if x3_1 ≤ (l0.length : Int) then (if y398.length + (l0.take (x3_1 : Int).toNat).length < 17592186044416 then (some (y398 ++ (l0.take (x3_1 : Int).toNat))) else (none)) else (none)) else (none)))) else (none)) else (none)) = some r := by first | (rw [hji3] at H; exact H) | (simp only [hji3] at H ⊢; exact H)
    have hji3w : (IntKind.i64.wrap (x3_1 - 1)) = ji3 := (jc _).trans hji3
    by_cases c4 : 0 ≤ (ji3)
    ·
     rw [if_pos c4] at H
     have c4b0 : decide (0 ≤ (ji3)) = true := decide_eq_true c4
     clear c4
     by_cases c5 : (ji3) < (l0.length : Int)
     ·
      rw [if_pos c5] at H
      have c5b0 : decide ((ji3) < (l0.length : Int)) = true := decide_eq_true c5
      clear c5
      by_cases c6 : (rd l0 (ji3)) = 0
      ·
       rw [if_pos c6] at H
       have c6b0 : ((rd l0 (ji3)) == 0) = true := beq_iff_eq.mpr c6
       have c6b1 : ((rd l0 (ji3)) != 0) = false := bne_eq_false_iff_eq.mpr c6
       clear c6
       have H' := jA.mk H
       clear H
       have p397 : 0 ≤ ((ji3) : Int) := of_decide_eq_true am_
       have q397 : (ji3) < (l0.length : Int) := of_decide_eq_true am_
       obtain ⟨ad397, e397, hx397_0⟩ := Kd.zG HR0.out (ji3) p397 q397
       cases e397
       replace hx397_0 := (HB.out.cell (World.block_lt_of_cell? w _ hx397_0)).trans hx397_0
       replace p397 := eq_true p397
       replace q397 := eq_true q397
       go_wp2
       go_roundg k1
       case measure => have := HK1.out; omega
       case rel => exact ⟨(ji3), (by first | rfl | (simp; done) | (simp only [← hji3] <;> (first | rfl | simp)) | (simp [*]; done)), H', ⟨by have := HK1.out; omega⟩, ⟨(bb_ HB)⟩⟩
      ·
       rw [if_neg c6] at H
       have c6b0 : ((rd l0 (ji3)) == 0) = false := beq_eq_false_iff_ne.mpr c6
       have c6b1 : ((rd l0 (ji3)) != 0) = true := bne_iff_ne.mpr c6
       obtain ⟨y398, hy398⟩ : ∃ y_ : List Int, y_ = (([] : List Int)) := ⟨_, rfl⟩
       replace H : (if 0 ≤ x3_1 then (if x3_1 ≤ (l0.length : Int) then (if y398.length + (l0.take (x3_1 : Int).toNat).length < 17592186044416 then (some (y398 ++ (l0.take (x3_1 : Int).toNat))) else (none)) else (none)) else (none)) = some r := by first | (rw [hy398]; with_reducible exact H) | (have H2_ := (Option.bind_some _ _).symm.trans H; rw [hy398]; with_reducible exact H2_) | (with_reducible exact hs_ H) | with_reducible exact H | (rw [hy398]; exact H) | exact H
       have Ny398 := jA.mk hy398
       clear hy398
       by_cases c7 : 0 ≤ x3_1
       ·
        rw [if_pos c7] at H
        have c7b0 := eq_true c7
        have c7b1 : decide (0 ≤ x3_1) = true := decide_eq_true c7
        clear c7
        by_cases c8 : x3_1 ≤ (l0.length : Int)
        ·
         rw [if_pos c8] at H
         have c8b0 := eq_true c8
         have c8b1 : decide (x3_1 ≤ (l0.length : Int)) = true := decide_eq_true c8
         clear c8
         by_cases c9 : y398.length + (l0.take (x3_1 : Int).toNat).length < 17592186044416
         ·
          rw [if_pos c9] at H
          have LMc9 := jA.mk c9
          clear c9
          obtain ⟨y402, hy402⟩ : ∃ y_ : List Int, y_ = (y398 ++ (l0.take (x3_1 : Int).toNat)) := ⟨_, rfl⟩
          replace H : (some y402) = some r := by first | (rw [hy402]; with_reducible exact H) | (have H2_ := (Option.bind_some _ _).symm.trans H; rw [hy402]; with_reducible exact H2_) | (with_reducible exact hs_ H) | with_reducible exact H | (rw [hy402]; exact H) | exact H
          have Ny402 := jA.mk hy402
          clear hy402
          obtain rfl := Option.some.inj H
          have p397 : 0 ≤ ((ji3) : Int) := of_decide_eq_true am_
          have q397 : (ji3) < (l0.length : Int) := of_decide_eq_true am_
          obtain ⟨ad397, e397, hx397_0⟩ := Kd.zG HR0.out (ji3) p397 q397
          cases e397
          replace hx397_0 := (HB.out.cell (World.block_lt_of_cell? w _ hx397_0)).trans hx397_0
          replace p397 := eq_true p397
          replace q397 := eq_true q397
          go_wp2_with (first | ((with_reducible refine jd (N := 19) rfl ?_); refine Kd.jAJ (Kd.int .u64) _ 22 ?hg (N := 19) ?hd (xs := ([] : List Int)) (inner := []) (ok := fun _ => True) (okp := fun _ => True) ?hr ?hp (fun _ hk => hk) trivial (Below.refl _ _) (Nat.le_refl _) (by simp) ?_; (case hd => rfl); (case hg => rfl); (case hr => exact gs_); (case hp => exact (Reps.none _ _)); intro v399 w10 ho11 hb hg_ hnew_; clear hg_ hnew_; (first | rw [← Ny398.out] at ho11 | (simp only [Int.reduceToNat] at ho11; rw [← Ny398.out] at ho11)); have n0_ := jA.mk (Kd.jV ho11 (jC (bb_ HB))); have n1_ := jA.mk (jE (bb_ HB) hb); clear HB; have HO400 := n0_; have HB := n1_; clear n0_ n1_ hb ho11; obtain ⟨i012, hi012, _, hsz12, _⟩ := info_parts qR; obtain ⟨hcut12, hA12, hC12⟩ := jAs (P := Try.prog) (Value.int .u64) 0 35 22 .i64 Try.underlying35 hi012 hsz12 (some ad397) c0 l0 x3_1 (of_decide_eq_true am_) (of_decide_eq_true am_) HC0.out; have HR401 := jA.mk (Kd.jBv (h1 := fun _ => rfl) (hA12 _ (Kd.jAx HR0.out))); have HC401 := jA.mk hC12; clear hA12 hC12 hi012 hsz12) | ((with_reducible refine zW (b := .append) (xs := #[.tmp 20, .tmp 23]) rfl ?_); at_builtin; refine Kd.qp (Kd.int .u64) (w0 := w) w.heap.size rfl (.tmp 20) (.tmp 23) 35 22 (.int .u64 0) 8 rfl Try.underlying35 qR rfl (by decide) (by omega) v399 y398 (l0.take (x3_1 : Int).toNat) _ _ _ (fun _ => True) (fun _ => False) rfl rfl ?aO ?aR (fun _ _ h => h) (fun _ h => h.elim) ?aF ?aB ?aS ?aL ?_; (case aR => first | (refine jBE (show (l0.take (x3_1 : Int).toNat).length = x3_1.toNat from (by rw [List.length_take]; have h_ : (x3_1 : Int) ≤ (l0.length : Int) := of_decide_eq_true am_; omega)) ?_; exact cc_ (Kd.jR HR401.out HB.out)) | (exact cc_ (Kd.jR HR401.out HB.out))); (case aB => exact (bb_ HB)); (case aF => exact (fun _ _ => trivial)); (case aO => exact (rR_ HO400)); (case aS => exact (jC (bb_ HB))); (case aL => have := LMc9.out; have hlx_ := (show (l0.take (x3_1 : Int).toNat).length = x3_1.toNat from (by rw [List.length_take]; have h_ : (x3_1 : Int) ≤ (l0.length : Int) := of_decide_eq_true am_; omega)); omega); intro v403 w13 ho hb hg hat; rw [← Ny402.out] at ho; have n0_ := jA.mk (hb); have n1_ := jA.mk (ho); clear HB HO400; have HB := n0_; have HO404 := n1_; clear n0_ n1_ ho hb hg hat))
          go_ret
          exact ⟨_, by first | rfl | (simp [zA, vw] <;> rfl) | (simp only [← hji3]; first | rfl | (simp [zA, vw] <;> rfl)) | (simp [*, zA, vw] <;> rfl), (rR_ HO404), (bb_ HB)⟩
         ·
          rw [if_neg c9] at H
          exact absurd H (by simp)
        ·
         rw [if_neg c8] at H
         exact absurd H (by simp)
       ·
        rw [if_neg c7] at H
        exact absurd H (by simp)
     ·
      rw [if_neg c5] at H
      exact absurd H (by simp)
    ·
     rw [if_neg c4] at H
     exact absurd H (by simp)
   ·
    rw [if_neg c2] at H
    have c2b0 : decide (0 < x3_1) = false := decide_eq_false c2
    clear c2
    obtain ⟨y405, hy405⟩ : ∃ y_ : List Int, y_ = (([] : List Int)) := ⟨_, rfl⟩
    replace H : (if 0 ≤ x3_1 then (if x3_1 ≤ (l0.length : Int) then (if y405.length + (l0.take (x3_1 : Int).toNat).length < 17592186044416 then (some (y405 ++ (l0.take (x3_1 : Int).toNat))) else (none)) else (none)) else (none)) = some r := by first | (rw [hy405]; with_reducible exact H) | (have H2_ := (Option.bind_some _ _).symm.trans H; rw [hy405]; with_reducible exact H2_) | (with_reducible exact hs_ H) | with_reducible exact H | (rw [hy405]; exact H) | exact H
    have Ny405 := jA.mk hy405
    clear hy405
    by_cases c14 : 0 ≤ x3_1
    ·
     rw [if_pos c14] at H
     have c14b0 := eq_true c14
     have c14b1 : decide (0 ≤ x3_1) = true := decide_eq_true c14
     clear c14
     by_cases c15 : x3_1 ≤ (l0.length : Int)
     ·
      rw [if_pos c15] at H
      have c15b0 := eq_true c15
      have c15b1 : decide (x3_1 ≤ (l0.length : Int)) = true := decide_eq_true c15
      clear c15
      by_cases c16 : y405.length + (l0.take (x3_1 : Int).toNat).length < 17592186044416
      ·
       rw [if_pos c16] at H
       have LMc16 := jA.mk c16
       clear c16
       obtain ⟨y409, hy409⟩ : ∃ y_ : List Int, y_ = (y405 ++ (l0.take (x3_1 : Int).toNat)) := ⟨_, rfl⟩
       replace H : (some y409) = some r := by first | (rw [hy409]; with_reducible exact H) | (have H2_ := (Option.bind_some _ _).symm.trans H; rw [hy409]; with_reducible exact H2_) | (with_reducible exact hs_ H) | with_reducible exact H | (rw [hy409]; exact H) | exact H
       have Ny409 := jA.mk hy409
       clear hy409
       obtain rfl := Option.some.inj H
       go_wp2_with (first | ((with_reducible refine jd (N := 19) rfl ?_); refine Kd.jAJ (Kd.int .u64) _ 22 ?hg (N := 19) ?hd (xs := ([] : List Int)) (inner := []) (ok := fun _ => True) (okp := fun _ => True) ?hr ?hp (fun _ hk => hk) trivial (Below.refl _ _) (Nat.le_refl _) (by simp) ?_; (case hd => rfl); (case hg => rfl); (case hr => exact gs_); (case hp => exact (Reps.none _ _)); intro v406 w17 ho18 hb hg_ hnew_; clear hg_ hnew_; (first | rw [← Ny405.out] at ho18 | (simp only [Int.reduceToNat] at ho18; rw [← Ny405.out] at ho18)); have n0_ := jA.mk (Kd.jV ho18 (jC (bb_ HB))); have n1_ := jA.mk (jE (bb_ HB) hb); clear HB; have HO407 := n0_; have HB := n1_; clear n0_ n1_ hb ho18; obtain ⟨i019, hi019, _, hsz19, _⟩ := info_parts qR; obtain ⟨hcut19, hA19, hC19⟩ := jAs (P := Try.prog) (Value.int .u64) 0 35 22 .i64 Try.underlying35 hi019 hsz19 A0 c0 l0 x3_1 (of_decide_eq_true am_) (of_decide_eq_true am_) HC0.out; have HR408 := jA.mk (Kd.jBv (h1 := fun _ => rfl) (hA19 _ (Kd.jAx HR0.out))); have HC408 := jA.mk hC19; clear hA19 hC19 hi019 hsz19) | ((with_reducible refine zW (b := .append) (xs := #[.tmp 20, .tmp 23]) rfl ?_); at_builtin; refine Kd.qp (Kd.int .u64) (w0 := w) w.heap.size rfl (.tmp 20) (.tmp 23) 35 22 (.int .u64 0) 8 rfl Try.underlying35 qR rfl (by decide) (by omega) v406 y405 (l0.take (x3_1 : Int).toNat) _ _ _ (fun _ => True) (fun _ => False) rfl rfl ?aO ?aR (fun _ _ h => h) (fun _ h => h.elim) ?aF ?aB ?aS ?aL ?_; (case aR => first | (refine jBE (show (l0.take (x3_1 : Int).toNat).length = x3_1.toNat from (by rw [List.length_take]; have h_ : (x3_1 : Int) ≤ (l0.length : Int) := of_decide_eq_true am_; omega)) ?_; exact cc_ (Kd.jR HR408.out HB.out)) | (exact cc_ (Kd.jR HR408.out HB.out))); (case aB => exact (bb_ HB)); (case aF => exact (fun _ _ => trivial)); (case aO => exact (rR_ HO407)); (case aS => exact (jC (bb_ HB))); (case aL => have := LMc16.out; have hlx_ := (show (l0.take (x3_1 : Int).toNat).length = x3_1.toNat from (by rw [List.length_take]; have h_ : (x3_1 : Int) ≤ (l0.length : Int) := of_decide_eq_true am_; omega)); omega); intro v410 w20 ho hb hg hat; rw [← Ny409.out] at ho; have n0_ := jA.mk (hb); have n1_ := jA.mk (ho); clear HB HO407; have HB := n0_; have HO411 := n1_; clear n0_ n1_ ho hb hg hat))
       go_ret
       exact ⟨_, ew_, (rR_ HO411), (bb_ HB)⟩
      ·
       rw [if_neg c16] at H
       exact absurd H (by simp)
     ·
      rw [if_neg c15] at H
      exact absurd H (by simp)
    ·
     rw [if_neg c14] at H
     exact absurd H (by simp)

/-! ### vX: function 21 -/
def vX.f (k : Nat) (a0 : Int) : Option (List Int) := (jW.f k (([a0] : List Int))).bind fun t415 => (some t415)
theorem vX.mono : ∀ a0 k, LeO (vX.f k a0) (vX.f (k + 1) a0) := by
 intro a0 k
 unfold vX.f
 repeat' first
   | (with_reducible exact jW.mono _ _)
   | (with_reducible exact LeO.refl _)
   | (with_reducible exact LeO.none _)
   | (with_reducible refine LeO.ite ?_ ?_)
   | (with_reducible refine LeO.bind ?_ (fun _ => ?_))
theorem vX.calls (k : Nat) (a0 : Int) (r : List Int) (w : World) (h : vX.f k a0 = some r) :
  Calls Try.prog 21 #[.int .u64 a0] w fun e w' => ∃ v0_ : Value, e = .returned (v0_) ∧ Kd.R (Kd.int .u64) 22 w' w.heap.size (fun _ => True) v0_ r ∧ Below w.heap.size w w' := by
 have HB := jA.mk (Below.refl w.heap.size w)
 have H : ((jW.f k (([a0] : List Int))).bind fun t415 => (some t415)) = some r := h
 clear h
 obtain ⟨y412, hy412⟩ : ∃ y_ : List Int, y_ = (([a0] : List Int)) := ⟨_, rfl⟩
 replace H : ((jW.f k y412).bind fun t415 => (some t415)) = some r := by first | (rw [hy412]; with_reducible exact H) | (have H2_ := (Option.bind_some _ _).symm.trans H; rw [hy412]; with_reducible exact H2_) | (with_reducible exact hs_ H) | with_reducible exact H | (rw [hy412]; exact H) | exact H
 have Ny412 := jA.mk hy412
 clear hy412
 replace H := Option.bind_eq_some_iff.mp H
 obtain ⟨t415, A20, H⟩ := H
 replace H : (some t415) = some r := H
 have A2 := jA.mk A20
 clear A20
 obtain rfl := Option.some.inj H
 go_enter Try.func21, Try.ntmps21
 go_wp2_with (first | ((with_reducible refine jd (N := 4) rfl ?_); refine Kd.jAJ (Kd.int .u64) _ 22 ?hg (N := 4) ?hd (xs := ([a0] : List Int)) (inner := [.int .u64 a0]) (ok := fun _ => True) (okp := fun _ => True) ?hr ?hp (fun _ hk => hk) trivial (Below.refl _ _) (Nat.le_refl _) (by simp) ?_; (case hd => rfl); (case hg => rfl); (case hr => exact gs_); (case hp => exact (Reps.one (show Kd.M (Kd.int .u64) _ _ _ a0 [.int .u64 a0] from rfl) (Reps.none _ _))); intro v413 w3 ho4 hb hg_ hnew_; clear hg_ hnew_; (first | rw [← Ny412.out] at ho4 | (simp only [Int.reduceToNat] at ho4; rw [← Ny412.out] at ho4)); have n0_ := jA.mk (Kd.jV ho4 (jC (bb_ HB))); have n1_ := jA.mk (jE (bb_ HB) hb); clear HB; have HO414 := n0_; have HB := n1_; clear n0_ n1_ hb ho4; obtain ⟨Ao5, co5, eo5⟩ := Kd.jf HO414.out; subst eo5) | ((with_reducible refine jH (f := 25) rfl ?_); refine jq (some 5) rfl rfl Try.func25 kr_ rfl #[.slice Ao5 y412.length co5] rfl mt_ ?_; (with_reducible refine (jW.calls k _ _ y412 t415 _ ?side1 ?side2 A2.out).mono ?_); (case side1 => exact cc_ (Kd.jG HO414.out).2.2); (case side2 => exact (Kd.jG HO414.out).2.1); rintro e w6 ⟨v416, rfl, ho0, hb⟩; refine ⟨_, rfl, ?_⟩; have n0_ := jA.mk (Kd.jr (rR_ HO414) (Kd.jS ho0) hb); have n1_ := jA.mk (Kd.jV (Kd.jY ho0 (Kd.R_lt (rR_ HO414))) (jC (bb_ HB))); have n2_ := jA.mk (jE (bb_ HB) hb); clear HO414 HB; have HO414 := n0_; have HO417 := n1_; have HB := n2_; clear n0_ n1_ n2_))
 go_ret
 exact ⟨_, ew_, by refine pR_ ?_; exact Kd.jM HO417.out (fun _ hk => trivial), (bb_ HB)⟩

/-! ### vB: function 40 -/
def vB.f (k : Nat) (a0 : Int) : Option (Bool × List Int × List Int) := if a0 < 0 then ((vX.f k (IntKind.u64.wrap (-(IntKind.u64.wrap (a0))))).bind fun t419 => (some (decide (a0 < 0), t419, (([1] : List Int))))) else ((vX.f k (IntKind.u64.wrap (a0))).bind fun t425 => (some (decide (a0 < 0), t425, (([1] : List Int)))))
theorem vB.mono : ∀ a0 k, LeO (vB.f k a0) (vB.f (k + 1) a0) := by
 intro a0 k
 unfold vB.f
 repeat' first
   | (with_reducible exact vX.mono _ _)
   | (with_reducible exact LeO.refl _)
   | (with_reducible exact LeO.none _)
   | (with_reducible refine LeO.ite ?_ ?_)
   | (with_reducible refine LeO.bind ?_ (fun _ => ?_))
theorem vB.calls (k : Nat) (a0 : Int) (r1 : Bool) (r2 : List Int) (r3 : List Int) (w : World) (h : vB.f k a0 = some (r1, r2, r3)) :
  Calls Try.prog 40 #[.int .i64 a0] w fun e w' => ∃ v1_ v2_ : Value, e = .returned (.agg #[.bool r1, v1_, v2_]) ∧ Kd.R (Kd.int .u64) 22 w' w.heap.size (fun k_ => some k_ ≠ (v2_ : Value).ownBlock) v1_ r2 ∧ Kd.R (Kd.int .u64) 22 w' w.heap.size (fun k_ => some k_ ≠ (v1_ : Value).ownBlock) v2_ r3 ∧ Below w.heap.size w w' := by
 have hu44 := Try.underlying44
 have HB := jA.mk (Below.refl w.heap.size w)
 have H : (if a0 < 0 then ((vX.f k (IntKind.u64.wrap (-(IntKind.u64.wrap (a0))))).bind fun t419 => (some (decide (a0 < 0), t419, (([1] : List Int))))) else ((vX.f k (IntKind.u64.wrap (a0))).bind fun t425 => (some (decide (a0 < 0), t425, (([1] : List Int)))))) = some (r1, r2, r3) := h
 clear h
 by_cases c2 : a0 < 0
 ·
  rw [if_pos c2] at H
  have c2b0 : decide (a0 < 0) = true := decide_eq_true c2
  clear c2
  replace H := Option.bind_eq_some_iff.mp H
  obtain ⟨t419, A30, H⟩ := H
  replace H : (some (decide (a0 < 0), t419, (([1] : List Int)))) = some (r1, r2, r3) := H
  have A3 := jA.mk A30
  clear A30
  obtain ⟨y422, hy422⟩ : ∃ y_ : List Int, y_ = (([1] : List Int)) := ⟨_, rfl⟩
  replace H : (some (decide (a0 < 0), t419, y422)) = some (r1, r2, r3) := by first | (rw [hy422]; with_reducible exact H) | (have H2_ := (Option.bind_some _ _).symm.trans H; rw [hy422]; with_reducible exact H2_) | (with_reducible exact hs_ H) | with_reducible exact H | (rw [hy422]; exact H) | exact H
  have Ny422 := jA.mk hy422
  clear hy422
  simp only [Option.some.injEq, Prod.mk.injEq] at H
  obtain ⟨rfl, rfl, rfl⟩ := H
  go_enter Try.func40, Try.ntmps40
  go_wp2_with (first | ((with_reducible refine jd (N := 2) rfl ?_); refine vK ?hg (N := 2) ?hd (cs := #[.bool false, .slice none 0 0, .slice none 0 0]) (t := 44) ?hr ?_; (case hd => rfl); (case hg => rfl); (case hr => exact gs_); intro gb418 hg w4 hbox hb; have n0_ := jA.mk (jE (bb_ HB) hb); have n1_ := jA.mk (hbox); have n2_ := jA.mk ((by rw [hg]; exact (jC (bb_ HB)) : w.heap.size ≤ gb418)); have n3_ := jA.mk ((by rw [hg]; exact (jC (bb_ HB)) : w.heap.size ≤ gb418)); clear HB; have HB := n0_; have BK418 := n1_; have GW418 := n2_; have GE418 := n3_; clear n0_ n1_ n2_ n3_ hb hbox hg) | ((with_reducible refine jH (f := 21) rfl ?_); refine jq (some 13) rfl rfl Try.func21 kr_ rfl #[.int .u64 (IntKind.u64.wrap (-(IntKind.u64.wrap (a0))))] rfl mt_ ?_; (with_reducible refine (vX.calls k (IntKind.u64.wrap (-(IntKind.u64.wrap (a0)))) t419 _ A3.out).mono ?_); rintro e w5 ⟨v420, rfl, ho0, hb⟩; refine ⟨_, rfl, ?_⟩; have n0_ := jA.mk (Kd.jV ho0 (jC (bb1_ HB GE418))); have n1_ := jA.mk (bl_ BK418 hb); have n2_ := jA.mk (jE (bb1_ HB GE418) hb); clear BK418 HB; have HO421 := n0_; have BK418 := n1_; have HB := n2_; clear n0_ n1_ n2_) | ((with_reducible refine jd (N := 14) rfl ?_); refine Kd.jAJ (Kd.int .u64) _ 22 ?hg (N := 14) ?hd (xs := ([1] : List Int)) (inner := [.int .u64 1]) (ok := fun _ => True) (okp := fun _ => True) ?hr ?hp (fun _ hk => hk) trivial (Below.refl _ _) (Nat.le_refl _) (by simp) ?_; (case hd => rfl); (case hg => rfl); (case hr => exact gs_); (case hp => exact (Reps.one (show Kd.M (Kd.int .u64) _ _ _ 1 [.int .u64 1] from rfl) (Reps.none _ _))); intro v423 w6 ho7 hb hg_ hnew_; clear hg_ hnew_; (first | rw [← Ny422.out] at ho7 | (simp only [Int.reduceToNat] at ho7; rw [← Ny422.out] at ho7)); have n0_ := jA.mk (Kd.jr (rR_ HO421) (Kd.jS ho7) hb); have n1_ := jA.mk (Kd.jV (Kd.jY ho7 (Kd.R_lt (rR_ HO421))) (jC (bb1_ HB GE418))); have n2_ := jA.mk (bl_ BK418 hb); have n3_ := jA.mk (jE (bb1_ HB GE418) hb); clear HO421 BK418 HB; have HO421 := n0_; have HO424 := n1_; have BK418 := n2_; have HB := n3_; clear n0_ n1_ n2_ n3_ hb ho7; obtain ⟨Ao8, co8, eo8⟩ := Kd.jf HO424.out; subst eo8; obtain ⟨Ao9, co9, eo9⟩ := Kd.jf HO421.out; subst eo9; have hcz10_0 : w6.cell? ⟨gb418, 0, none⟩ = some (.bool false) := (jB BK418.out 0).trans rfl; have hcz10_1 : w6.cell? ⟨gb418, 1, none⟩ = some (.slice none 0 0) := (jB BK418.out 1).trans rfl; have hcz10_2 : w6.cell? ⟨gb418, 2, none⟩ = some (.slice none 0 0) := (jB BK418.out 2).trans rfl; have hfz10_0 := jD BK418.out 0; have hfz10_1 := jD BK418.out 1; have hfz10_2 := jD BK418.out 2))
  refine bodyPost_ret (results_cell_row rfl _ _ gb418 44 #[.bool true, .slice Ao9 t419.length co9, .slice Ao8 y422.length co8] (0, 0) _ rfl (by refine pk_ ?_; refine jw (cs := #[.bool true, .slice Ao9 t419.length co9, .slice none 0 0]) ?_ 2 _ rs_; refine pk_ ?_; refine jw (cs := #[.bool true, .slice none 0 0, .slice none 0 0]) ?_ 1 _ rs_; refine pk_ ?_; refine jw (cs := #[.bool false, .slice none 0 0, .slice none 0 0]) ?_ 0 _ rs_; refine pk_ ?_; exact BK418.out) Try.underlying44 rfl kr_) rfl ?_
  exact ⟨.slice Ao9 t419.length co9, .slice Ao8 y422.length co8, by rw [c2b0], by refine pR_ ?_; exact Kd.jM (Kd.jU (p := ⟨gb418, 2, none⟩) (Kd.jU (p := ⟨gb418, 1, none⟩) (Kd.jU (p := ⟨gb418, 0, none⟩) (Kd.jI HO421.out BK418.out (by decide)) (fun _ hk => hk.2) (.bool true)) (fun _ hk => hk.2) (.slice Ao9 t419.length co9)) (fun _ hk => hk.2) (.slice Ao8 y422.length co8)) (fun _ hk => hk.1.2), by refine pR_ ?_; exact Kd.jM (Kd.jU (p := ⟨gb418, 2, none⟩) (Kd.jU (p := ⟨gb418, 1, none⟩) (Kd.jU (p := ⟨gb418, 0, none⟩) (Kd.jI HO424.out BK418.out (by decide)) (fun _ hk => hk.2) (.bool true)) (fun _ hk => hk.2) (.slice Ao9 t419.length co9)) (fun _ hk => hk.2) (.slice Ao8 y422.length co8)) (fun _ hk => hk.1.2), (bb1_ HB GE418)⟩
 ·
  rw [if_neg c2] at H
  have c2b0 : decide (a0 < 0) = false := decide_eq_false c2
  clear c2
  replace H := Option.bind_eq_some_iff.mp H
  obtain ⟨t425, A110, H⟩ := H
  replace H : (some (decide (a0 < 0), t425, (([1] : List Int)))) = some (r1, r2, r3) := H
  have A11 := jA.mk A110
  clear A110
  obtain ⟨y428, hy428⟩ : ∃ y_ : List Int, y_ = (([1] : List Int)) := ⟨_, rfl⟩
  replace H : (some (decide (a0 < 0), t425, y428)) = some (r1, r2, r3) := by first | (rw [hy428]; with_reducible exact H) | (have H2_ := (Option.bind_some _ _).symm.trans H; rw [hy428]; with_reducible exact H2_) | (with_reducible exact hs_ H) | with_reducible exact H | (rw [hy428]; exact H) | exact H
  have Ny428 := jA.mk hy428
  clear hy428
  simp only [Option.some.injEq, Prod.mk.injEq] at H
  obtain ⟨rfl, rfl, rfl⟩ := H
  go_enter Try.func40, Try.ntmps40
  go_wp2_with (first | ((with_reducible refine jd (N := 2) rfl ?_); refine vK ?hg (N := 2) ?hd (cs := #[.bool false, .slice none 0 0, .slice none 0 0]) (t := 44) ?hr ?_; (case hd => rfl); (case hg => rfl); (case hr => exact gs_); intro gb418 hg w12 hbox hb; have n0_ := jA.mk (jE (bb_ HB) hb); have n1_ := jA.mk (hbox); have n2_ := jA.mk ((by rw [hg]; exact (jC (bb_ HB)) : w.heap.size ≤ gb418)); have n3_ := jA.mk ((by rw [hg]; exact (jC (bb_ HB)) : w.heap.size ≤ gb418)); clear HB; have HB := n0_; have BK418 := n1_; have GW418 := n2_; have GE418 := n3_; clear n0_ n1_ n2_ n3_ hb hbox hg) | ((with_reducible refine jH (f := 21) rfl ?_); refine jq (some 13) rfl rfl Try.func21 kr_ rfl #[.int .u64 (IntKind.u64.wrap (a0))] rfl mt_ ?_; (with_reducible refine (vX.calls k (IntKind.u64.wrap (a0)) t425 _ A11.out).mono ?_); rintro e w13 ⟨v426, rfl, ho0, hb⟩; refine ⟨_, rfl, ?_⟩; have n0_ := jA.mk (Kd.jV ho0 (jC (bb1_ HB GE418))); have n1_ := jA.mk (bl_ BK418 hb); have n2_ := jA.mk (jE (bb1_ HB GE418) hb); clear BK418 HB; have HO427 := n0_; have BK418 := n1_; have HB := n2_; clear n0_ n1_ n2_) | ((with_reducible refine jd (N := 14) rfl ?_); refine Kd.jAJ (Kd.int .u64) _ 22 ?hg (N := 14) ?hd (xs := ([1] : List Int)) (inner := [.int .u64 1]) (ok := fun _ => True) (okp := fun _ => True) ?hr ?hp (fun _ hk => hk) trivial (Below.refl _ _) (Nat.le_refl _) (by simp) ?_; (case hd => rfl); (case hg => rfl); (case hr => exact gs_); (case hp => exact (Reps.one (show Kd.M (Kd.int .u64) _ _ _ 1 [.int .u64 1] from rfl) (Reps.none _ _))); intro v429 w14 ho15 hb hg_ hnew_; clear hg_ hnew_; (first | rw [← Ny428.out] at ho15 | (simp only [Int.reduceToNat] at ho15; rw [← Ny428.out] at ho15)); have n0_ := jA.mk (Kd.jr (rR_ HO427) (Kd.jS ho15) hb); have n1_ := jA.mk (Kd.jV (Kd.jY ho15 (Kd.R_lt (rR_ HO427))) (jC (bb1_ HB GE418))); have n2_ := jA.mk (bl_ BK418 hb); have n3_ := jA.mk (jE (bb1_ HB GE418) hb); clear HO427 BK418 HB; have HO427 := n0_; have HO430 := n1_; have BK418 := n2_; have HB := n3_; clear n0_ n1_ n2_ n3_ hb ho15; obtain ⟨Ao16, co16, eo16⟩ := Kd.jf HO430.out; subst eo16; obtain ⟨Ao17, co17, eo17⟩ := Kd.jf HO427.out; subst eo17; have hcz18_0 : w14.cell? ⟨gb418, 0, none⟩ = some (.bool false) := (jB BK418.out 0).trans rfl; have hcz18_1 : w14.cell? ⟨gb418, 1, none⟩ = some (.slice none 0 0) := (jB BK418.out 1).trans rfl; have hcz18_2 : w14.cell? ⟨gb418, 2, none⟩ = some (.slice none 0 0) := (jB BK418.out 2).trans rfl; have hfz18_0 := jD BK418.out 0; have hfz18_1 := jD BK418.out 1; have hfz18_2 := jD BK418.out 2))
  refine bodyPost_ret (results_cell_row rfl _ _ gb418 44 #[.bool false, .slice Ao17 t425.length co17, .slice Ao16 y428.length co16] (0, 0) _ rfl (by refine pk_ ?_; refine jw (cs := #[.bool false, .slice Ao17 t425.length co17, .slice none 0 0]) ?_ 2 _ rs_; refine pk_ ?_; refine jw (cs := #[.bool false, .slice none 0 0, .slice none 0 0]) ?_ 1 _ rs_; refine pk_ ?_; refine jw (cs := #[.bool false, .slice none 0 0, .slice none 0 0]) ?_ 0 _ rs_; refine pk_ ?_; exact BK418.out) Try.underlying44 rfl kr_) rfl ?_
  exact ⟨.slice Ao17 t425.length co17, .slice Ao16 y428.length co16, by rw [c2b0], by refine pR_ ?_; exact Kd.jM (Kd.jU (p := ⟨gb418, 2, none⟩) (Kd.jU (p := ⟨gb418, 1, none⟩) (Kd.jU (p := ⟨gb418, 0, none⟩) (Kd.jI HO427.out BK418.out (by decide)) (fun _ hk => hk.2) (.bool false)) (fun _ hk => hk.2) (.slice Ao17 t425.length co17)) (fun _ hk => hk.2) (.slice Ao16 y428.length co16)) (fun _ hk => hk.1.2), by refine pR_ ?_; exact Kd.jM (Kd.jU (p := ⟨gb418, 2, none⟩) (Kd.jU (p := ⟨gb418, 1, none⟩) (Kd.jU (p := ⟨gb418, 0, none⟩) (Kd.jI HO430.out BK418.out (by decide)) (fun _ hk => hk.2) (.bool false)) (fun _ hk => hk.2) (.slice Ao17 t425.length co17)) (fun _ hk => hk.2) (.slice Ao16 y428.length co16)) (fun _ hk => hk.1.2), (bb1_ HB GE418)⟩

/-! ### vP: function 90 -/

def vP.f (l0 : List Int) : Option (List Int) := if l0.length < 17592186044416 then some l0 else none
theorem vP.calls (A0 : Option Addr) (c0 : Nat) (l0 : List Int) (r : List Int) (w : World) (hr0 : Kd.C (Kd.int .u64) w A0 l0.length l0) (hc0 : l0.length ≤ c0) (h : vP.f l0 = some r) :
  Calls Try.prog 90 #[.slice A0 l0.length c0] w fun e w' => ∃ v0_ : Value, e = .returned (v0_) ∧ Kd.R (Kd.int .u64) 22 w' w.heap.size (fun _ => True) v0_ r ∧ Below w.heap.size w w' := by
 have HR0 := jA.mk hr0
 have HC0 := jA.mk hc0
 clear hr0 hc0
 unfold vP.f at h
 by_cases hl : l0.length < 17592186044416
 ·
  rw [if_pos hl] at h
  obtain rfl := Option.some.inj h
  clear h
  have HL := jA.mk hl
  clear hl
  have qq : ∀ (w : World) (a : Option Addr) (n c n' c' : Nat), (binOp .eql 36 (.slice a n c) (.slice none n' c')).run Try.prog w = .ok (.bool a.isNone) w := fun w a n c n' c' => Lib.run_eql_slice_nil w _ _ a n c n' c' Try.underlying36
  cases A0 with
  | none =>
   have hlen : l0 = [] := by
    by_cases hp : 0 < l0.length
    ·
     obtain ⟨ad, e, _⟩ := HR0.out.2.2 hp
     cases e
    ·
     exact List.eq_nil_of_length_eq_zero (by omega)
   subst hlen
   go_enter Try.func90, Try.ntmps90
   go_wp2
   go_ret
   exact ⟨_, rfl, Kd.jBo _ _ _ _ _, Below.refl _ _⟩
  | some ad =>
   have HO : jA (∀ W : World, Kd.R (Kd.int .u64) 22 (W.alloc (.cells #[] 22)) W.heap.size (fun _ => True) (.slice (some ⟨W.heap.size, 0, none⟩) 0 0) []) := ⟨fun W => Kd.jAh (World.ownsRow_made W #[] 0 (Nat.le_refl _) (Nat.zero_le _) rfl) (fun _ _ => trivial)⟩
   go_enter Try.func90, Try.ntmps90
   go_wp2_with ((with_reducible refine zW (b := .append) (xs := #[.tmp 5, .tmp 6]) rfl ?_); at_builtin; refine Kd.qp (Kd.int .u64) (w0 := w) w.heap.size rfl (.tmp 5) (.tmp 6) 36 22 (.int .u64 0) 8 rfl Try.underlying36 qR rfl (by decide) (by omega) _ [] l0 _ _ _ (fun _ => True) (fun _ => False) rfl rfl ?aO ?aR (fun _ _ h => h) (fun _ h => h.elim) ?aF ?aB ?aS ?aL ?_)
   case aO => exact HO.out w
   case aR => exact Kd.zm HR0.out _
   case aF => exact fun _ _ => trivial
   case aB => exact vE (Below.refl _ _) _
   case aS => simp
   case aL => have := HL.out; simp; omega
   intro v1 w1 ho hb hg hat
   clear hg hat
   have HO1 := jA.mk ho
   have HB := jA.mk hb
   clear ho hb
   go_wp2
   go_ret
   exact ⟨_, rfl, by simpa using HO1.out, HB.out⟩
 ·
  rw [if_neg hl] at h
  exact absurd h (by simp)

/-! ### zJ: function 52 -/
def zJ.f (a0_0 : Bool) (l0_1 : List Int) (l0_2 : List Int) : Option (Bool × List Int × List Int) := (jy.f a0_0 l0_1 l0_2).bind fun t433 => ((vP.f l0_1).bind fun t434 => ((vP.f l0_2).bind fun t437 => (some ((a0_0 != (!t433)), t434, t437))))
def zJ.T1 : Bool × List (List Nat × List Nat) := (true, [([], []), ([0], [0]), ([], []), ([2], [2]), ([3], [3]), ([1, 4], [1, 4]), ([], []), ([6], [6]), ([7, 3], [7]), ([], []), ([9], [9]), ([10, 8], [10]), ([5, 8, 11], [5, 8, 11]), ([12, 11, 0, 1, 2, 3, 4, 5, 6, 7, 8, 9, 10, 11, 12], [12])])
def zJ.B1 : List Nat := [0, 1, 0, 4, 12, 31, 0, 64, 204, 0, 512, 1996, 4095, 8191]
theorem zJ.tab1 : rtab .any (opsOf Try.f52 1) = zJ.T1 := by kernel_rfl
theorem zJ.jGZ : jAN zJ.T1.2 zJ.B1 = true := by kernel_rfl
theorem zJ.calls (a0_0 : Bool) (A0_1 : Option Addr) (c0_1 : Nat) (l0_1 : List Int) (A0_2 : Option Addr) (c0_2 : Nat) (l0_2 : List Int) (r1 : Bool) (r2 : List Int) (r3 : List Int) (w : World) (hr0_1 : Kd.C (Kd.int .u64) w A0_1 l0_1.length l0_1) (hc0_1 : l0_1.length ≤ c0_1) (hr0_2 : Kd.C (Kd.int .u64) w A0_2 l0_2.length l0_2) (hc0_2 : l0_2.length ≤ c0_2) (h : zJ.f a0_0 l0_1 l0_2 = some (r1, r2, r3)) :
  Calls Try.prog 52 #[.agg #[.bool a0_0, .slice A0_1 l0_1.length c0_1, .slice A0_2 l0_2.length c0_2]] w fun e w' => ∃ v1_ v2_ : Value, e = .returned (.agg #[.bool r1, v1_, v2_]) ∧ Kd.R (Kd.int .u64) 22 w' w.heap.size (fun k_ => some k_ ≠ (v2_ : Value).ownBlock) v1_ r2 ∧ Kd.R (Kd.int .u64) 22 w' w.heap.size (fun k_ => some k_ ≠ (v1_ : Value).ownBlock) v2_ r3 ∧ Below w.heap.size w w' := by
 have hu44 := Try.underlying44
 have HR0_1 := jA.mk hr0_1
 have HC0_1 := jA.mk hc0_1
 clear hr0_1 hc0_1
 have HR0_2 := jA.mk hr0_2
 have HC0_2 := jA.mk hc0_2
 clear hr0_2 hc0_2
 have HB := jA.mk (Below.refl w.heap.size w)
 have H : ((jy.f a0_0 l0_1 l0_2).bind fun t433 => ((vP.f l0_1).bind fun t434 => ((vP.f l0_2).bind fun t437 => (some ((a0_0 != (!t433)), t434, t437))))) = some (r1, r2, r3) := h
 clear h
 replace H := Option.bind_eq_some_iff.mp H
 obtain ⟨t433, A20, H⟩ := H
 replace H : ((vP.f l0_1).bind fun t434 => ((vP.f l0_2).bind fun t437 => (some ((a0_0 != (!t433)), t434, t437)))) = some (r1, r2, r3) := H
 have A2 := jA.mk A20
 clear A20
 replace H := Option.bind_eq_some_iff.mp H
 obtain ⟨t434, A30, H⟩ := H
 replace H : ((vP.f l0_2).bind fun t437 => (some ((a0_0 != (!t433)), t434, t437))) = some (r1, r2, r3) := H
 have A3 := jA.mk A30
 clear A30
 replace H := Option.bind_eq_some_iff.mp H
 obtain ⟨t437, A40, H⟩ := H
 replace H : (some ((a0_0 != (!t433)), t434, t437)) = some (r1, r2, r3) := H
 have A4 := jA.mk A40
 clear A40
 simp only [Option.some.injEq, Prod.mk.injEq] at H
 obtain ⟨rfl, rfl, rfl⟩ := H
 go_enter Try.func52, Try.ntmps52
 try go_wp2_with (first | ((with_reducible refine jd (N := 1) rfl ?_); refine vK ?hg (N := 1) ?hd (cs := #[.bool a0_0, .slice A0_1 l0_1.length c0_1, .slice A0_2 l0_2.length c0_2]) (t := 44) ?hr ?_; (case hd => rfl); (case hg => rfl); (case hr => exact gs_); intro gb431 hg w5 hbox hb; have n0_ := jA.mk (jE (bb_ HB) hb); have n1_ := jA.mk (hbox); have n2_ := jA.mk ((by rw [hg]; exact (jC (bb_ HB)) : w.heap.size ≤ gb431)); have n3_ := jA.mk ((by rw [hg]; exact (jC (bb_ HB)) : w.heap.size ≤ gb431)); clear HB; have HB := n0_; have BK431 := n1_; have GW431 := n2_; have GE431 := n3_; clear n0_ n1_ n2_ n3_ hb hbox hg) | ((with_reducible refine jd (N := 2) rfl ?_); refine vK ?hg (N := 2) ?hd (cs := #[.bool false, .slice none 0 0, .slice none 0 0]) (t := 44) ?hr ?_; (case hd => rfl); (case hg => rfl); (case hr => exact gs_); intro gb432 hg w6 hbox hb; have n0_ := jA.mk (bl_ BK431 hb); have n1_ := jA.mk (jE (bb1_ HB GE431) hb); have n2_ := jA.mk (hbox); have n3_ := jA.mk ((by rw [hg]; exact (jC (bb1_ HB GE431)) : w.heap.size ≤ gb432)); have n4_ := jA.mk ((by rw [hg]; exact (jC (bb1_ HB GE431)) : w.heap.size ≤ gb432)); have n5_ := jA.mk ((by rw [hg]; exact Nat.ne_of_lt (zK (g := gb431) (o := .cells #[.bool a0_0, .slice A0_1 l0_1.length c0_1, .slice A0_2 l0_2.length c0_2] 44 (0, 0)) (kb_ BK431)) : gb431 ≠ gb432)); have n6_ := jA.mk ((by rw [hg]; exact Nat.ne_of_gt (zK (g := gb431) (o := .cells #[.bool a0_0, .slice A0_1 l0_1.length c0_1, .slice A0_2 l0_2.length c0_2] 44 (0, 0)) (kb_ BK431)) : gb432 ≠ gb431)); clear BK431 HB; have BK431 := n0_; have HB := n1_; have BK432 := n2_; have GW432 := n3_; have GE432 := n4_; have NB431_432 := n5_; have NB432_431 := n6_; clear n0_ n1_ n2_ n3_ n4_ n5_ n6_ hb hbox hg))
 have n0_ := jA.mk (vH BK431.out)
 have n1_ := jA.mk (vH BK432.out)
 have n2_ := jA.mk (qH HB.out)
 clear BK431
 clear BK432
 clear HB
 have BK431 := n0_
 have BK432 := n1_
 have HB := n2_
 clear n0_ n1_ n2_
 refine jAj (n := 14) (S := fun w' => w'.cell? ⟨gb431, 0, none⟩ = some (.bool a0_0) ∧ w'.cell? ⟨gb431, 1, none⟩ = some (.slice A0_1 l0_1.length c0_1) ∧ w'.cell? ⟨gb431, 2, none⟩ = some (.slice A0_2 l0_2.length c0_2)) (ds := []) #[false, false, false, false, false, false, false, false, false, false, false, false, false, false] kr_ rfl rfl ⟨(jB BK431.out 0).trans rfl, (jB BK431.out 1).trans rfl, (jB BK431.out 2).trans rfl⟩ (fun hHeld => ?_); refine jAX zJ.tab1 zJ.jGZ (fun HT_ HW_ => ?_)
 generalize w6.drew = w7 at BK431 BK432 HB hHeld ⊢
 refine vQ (i := 0) (N := some 3) (v := ?_) (a' := ?_) #[true, false, false, false, false, false, false, false, false, false, false, false, false, false] rfl rfl (vT HT_.out kr_) (fun _ _ _ h => h) (Or.inl ⟨by rfl, ?_⟩) ?_ ?_
 rotate_left
 ·
  intro w'
  go_simp
  with_reducible rfl
 rotate_left
 ·
  simp only [Act.put, ss_, jc, ji]
  rfl
 refine vQ (i := 6) (N := some 9) (v := ?_) (a' := ?_) #[true, false, false, false, false, false, true, false, false, false, false, false, false, false] rfl rfl (vT HT_.out kr_) (fun _ _ _ h => h) (Or.inl ⟨by rfl, ?_⟩) ?_ ?_
 rotate_left
 ·
  intro w'
  go_simp
  with_reducible rfl
 rotate_left
 ·
  simp only [Act.put, ss_, jc, ji]
  rfl
 refine vQ (i := 9) (N := some 12) (v := ?_) (a' := ?_) #[true, false, false, false, false, false, true, false, false, true, false, false, false, false] rfl rfl (vT HT_.out kr_) (fun _ _ _ h => h) (Or.inl ⟨by rfl, ?_⟩) ?_ ?_
 rotate_left
 ·
  intro w'
  go_simp
  with_reducible rfl
 rotate_left
 ·
  simp only [Act.put, ss_, jc, ji]
  rfl
 refine qA (i := 1) (N := some 4) (v := ?_) (a' := ?_) #[true, true, false, false, false, false, true, false, false, true, false, false, false, false] rfl rfl (zX HT_.out HW_.out kr_) (fun _ _ _ h => h) (Or.inl ⟨by rfl, ?_⟩) hHeld ?_ ?_
 rotate_left
 ·
  rintro w' ⟨s0, s1, s2⟩
  go_simp
  with_reducible rfl
 rotate_left
 ·
  simp only [Act.put, ss_, jc, ji]
  rfl
 refine qA (i := 2) (N := some 5) (v := ?_) (a' := ?_) #[true, true, true, false, false, false, true, false, false, true, false, false, false, false] rfl rfl (zX HT_.out HW_.out kr_) (fun _ _ _ h => h) (Or.inl ⟨by rfl, ?_⟩) hHeld ?_ ?_
 rotate_left
 ·
  rintro w' ⟨s0, s1, s2⟩
  go_simp
  with_reducible rfl
 rotate_left
 ·
  simp only [Act.put, ss_, jc, ji]
  rfl
 refine qA (i := 7) (N := some 10) (v := ?_) (a' := ?_) #[true, true, true, false, false, false, true, true, false, true, false, false, false, false] rfl rfl (zX HT_.out HW_.out kr_) (fun _ _ _ h => h) (Or.inl ⟨by rfl, ?_⟩) hHeld ?_ ?_
 rotate_left
 ·
  rintro w' ⟨s0, s1, s2⟩
  go_simp
  with_reducible rfl
 rotate_left
 ·
  simp only [Act.put, ss_, jc, ji]
  rfl
 refine qA (i := 10) (N := some 13) (v := ?_) (a' := ?_) #[true, true, true, false, false, false, true, true, false, true, true, false, false, false] rfl rfl (zX HT_.out HW_.out kr_) (fun _ _ _ h => h) (Or.inl ⟨by rfl, ?_⟩) hHeld ?_ ?_
 rotate_left
 ·
  rintro w' ⟨s0, s1, s2⟩
  go_simp
  with_reducible rfl
 rotate_left
 ·
  simp only [Act.put, ss_, jc, ji]
  rfl
 refine one_ (i := 3) (N := some 6) #[true, true, true, true, false, false, true, true, false, true, true, false, false, false] rfl rfl (qm HT_.out kr_) (by decide) (fun K hK => ?_)
 refine jAR Try.func54 kr_ rfl #[.agg #[.bool a0_0, .slice A0_1 l0_1.length c0_1, .slice A0_2 l0_2.length c0_2]] (by rfl) rfl rfl (by (try simp only [List.map_toArray, List.map_cons, List.map_nil]); first | done | rfl | (simp only [List.length_drop, List.length_take]; rfl)) ?_
 with_reducible refine (jy.calls a0_0 _ _ l0_1 _ _ l0_2 t433 _ ?side1 ?side2 ?side3 ?side4 A2.out).mono ?_
 (case side1 => exact cc_ (Kd.jR HR0_1.out HB.out))
 (case side2 => exact HC0_1.out)
 (case side3 => exact cc_ (Kd.jR HR0_2.out HB.out))
 (case side4 => exact HC0_2.out)
 rintro e w8 ⟨rfl, hb⟩
 refine ⟨_, rfl, ?_⟩
 have n0_ := jA.mk (bl_ BK431 hb)
 have n1_ := jA.mk (bl_ BK432 hb)
 have n2_ := jA.mk (jE (bb2_ HB GE431 GE432) hb)
 clear BK431
 clear BK432
 clear HB
 have BK431 := n0_
 have BK432 := n1_
 have HB := n2_
 clear n0_ n1_ n2_
 (try clear hb)
 (try clear hb2)
 (try clear hk)
 (try clear hi)
 refine hK.out _ _ ⟨(jB BK431.out 0).trans rfl, (jB BK431.out 1).trans rfl, (jB BK431.out 2).trans rfl⟩ (fun hHeld => ?_)
 clear hK K
 refine qx (a' := ?_) ?_ ?_
 rotate_left
 ·
  show Act.put _ (some 6) _ = _
  simp only [Act.put, ss_, jc, ji]
  rfl
 refine vQ (i := 4) (N := some 7) (v := ?_) (a' := ?_) #[true, true, true, true, true, false, true, true, false, true, true, false, false, false] rfl rfl (vT HT_.out kr_) (fun _ _ _ h => h) (Or.inl ⟨by rfl, ?_⟩) ?_ ?_
 rotate_left
 ·
  intro w'
  go_simp
  with_reducible rfl
 rotate_left
 ·
  simp only [Act.put, ss_, jc, ji]
  rfl
 refine vQ (i := 5) (N := some 8) (v := ?_) (a' := ?_) #[true, true, true, true, true, true, true, true, false, true, true, false, false, false] rfl rfl (vT HT_.out kr_) (fun _ _ _ h => h) (Or.inl ⟨by rfl, ?_⟩) ?_ ?_
 rotate_left
 ·
  intro w'
  go_simp
  with_reducible rfl
 rotate_left
 ·
  simp only [Act.put, ss_, jc, ji]
  rfl
 refine one_ (i := 8) (N := some 11) #[true, true, true, true, true, true, true, true, true, true, true, false, false, false] rfl rfl (qm HT_.out kr_) (by decide) (fun K hK => ?_)
 refine jAR Try.func90 kr_ rfl #[.slice A0_1 l0_1.length c0_1] (by rfl) rfl rfl (by (try simp only [List.map_toArray, List.map_cons, List.map_nil]); first | done | rfl | (simp only [List.length_drop, List.length_take]; rfl)) ?_
 with_reducible refine (vP.calls _ _ l0_1 t434 _ ?side1 ?side2 A3.out).mono ?_
 (case side1 => exact cc_ (Kd.jR HR0_1.out HB.out))
 (case side2 => exact HC0_1.out)
 rintro e w9 ⟨v435, rfl, ho0, hb⟩
 refine ⟨_, rfl, ?_⟩
 have n0_ := jA.mk (Kd.jV ho0 (jC (bb2_ HB GE431 GE432)))
 have n1_ := jA.mk (bl_ BK431 hb)
 have n2_ := jA.mk (bl_ BK432 hb)
 have n3_ := jA.mk (jE (bb2_ HB GE431 GE432) hb)
 clear BK431
 clear BK432
 clear HB
 have HO436 := n0_
 have BK431 := n1_
 have BK432 := n2_
 have HB := n3_
 clear n0_ n1_ n2_ n3_
 (try clear hb)
 (try clear hb2)
 (try clear hk)
 (try clear hi)
 (try clear ho0)
 refine hK.out _ _ ⟨(jB BK431.out 0).trans rfl, (jB BK431.out 1).trans rfl, (jB BK431.out 2).trans rfl⟩ (fun hHeld => ?_)
 clear hK K
 refine qx (a' := ?_) ?_ ?_
 rotate_left
 ·
  show Act.put _ (some 11) _ = _
  simp only [Act.put, ss_, jc, ji]
  rfl
 refine one_ (i := 11) (N := some 14) #[true, true, true, true, true, true, true, true, true, true, true, true, false, false] rfl rfl (qm HT_.out kr_) (by decide) (fun K hK => ?_)
 refine jAR Try.func90 kr_ rfl #[.slice A0_2 l0_2.length c0_2] (by rfl) rfl rfl (by (try simp only [List.map_toArray, List.map_cons, List.map_nil]); first | done | rfl | (simp only [List.length_drop, List.length_take]; rfl)) ?_
 with_reducible refine (vP.calls _ _ l0_2 t437 _ ?side1 ?side2 A4.out).mono ?_
 (case side1 => exact cc_ (Kd.jR HR0_2.out HB.out))
 (case side2 => exact HC0_2.out)
 rintro e w10 ⟨v438, rfl, ho0, hb⟩
 refine ⟨_, rfl, ?_⟩
 have n0_ := jA.mk (Kd.jr (rR_ HO436) (Kd.jS ho0) hb)
 have n1_ := jA.mk (Kd.jV (Kd.jY ho0 (Kd.R_lt (rR_ HO436))) (jC (bb2_ HB GE431 GE432)))
 have n2_ := jA.mk (bl_ BK431 hb)
 have n3_ := jA.mk (bl_ BK432 hb)
 have n4_ := jA.mk (jE (bb2_ HB GE431 GE432) hb)
 clear HO436
 clear BK431
 clear BK432
 clear HB
 have HO436 := n0_
 have HO439 := n1_
 have BK431 := n2_
 have BK432 := n3_
 have HB := n4_
 clear n0_ n1_ n2_ n3_ n4_
 (try clear hb)
 (try clear hb2)
 (try clear hk)
 (try clear hi)
 (try clear ho0)
 obtain ⟨Ao11, co11, eo11⟩ := Kd.jf HO439.out
 (first | subst eo11 | (injection eo11 with f1_ f2_ f3_; have f4_ := f1_.symm; have f5_ := f3_.symm; clear f1_ f2_ f3_; subst f4_; subst f5_))
 obtain ⟨Ao12, co12, eo12⟩ := Kd.jf HO436.out
 (first | subst eo12 | (injection eo12 with f1_ f2_ f3_; have f4_ := f1_.symm; have f5_ := f3_.symm; clear f1_ f2_ f3_; subst f4_; subst f5_))
 refine hK.out _ _ ⟨(jB BK431.out 0).trans rfl, (jB BK431.out 1).trans rfl, (jB BK431.out 2).trans rfl⟩ (fun hHeld => ?_)
 clear hK K
 refine qx (a' := ?_) ?_ ?_
 rotate_left
 ·
  show Act.put _ (some 14) _ = _
  simp only [Act.put, ss_, jc, ji]
  rfl
 refine vQ (i := 12) (N := some 15) (v := ?_) (a' := ?_) #[true, true, true, true, true, true, true, true, true, true, true, true, true, false] rfl rfl (vT HT_.out kr_) (fun _ _ _ h => h) (Or.inl ⟨by rfl, ?_⟩) ?_ ?_
 rotate_left
 ·
  intro w'
  go_simp
  with_reducible rfl
 rotate_left
 ·
  simp only [Act.put, ss_, jc, ji]
  rfl
 refine one_ (i := 13) (N := none) #[true, true, true, true, true, true, true, true, true, true, true, true, true, true] rfl rfl (qm HT_.out kr_) (by decide) (fun K hK => ?_)
 have hs13 : w10.cell? ⟨gb432, 0, none⟩ = some (.bool false) := (jB BK432.out 0).trans rfl
 have hfs13 := jD BK432.out 0
 have hns13_0 := NB431_432.out
 have hms13_0 := NB432_431.out
 have hs14 : w10.cell? ⟨gb432, 1, none⟩ = some (.slice none 0 0) := (jB BK432.out 1).trans rfl
 have hfs14 := jD BK432.out 1
 have hns14_0 := NB431_432.out
 have hms14_0 := NB432_431.out
 have hs15 : w10.cell? ⟨gb432, 2, none⟩ = some (.slice none 0 0) := (jB BK432.out 2).trans rfl
 have hfs15 := jD BK432.out 2
 have hns15_0 := NB431_432.out
 have hms15_0 := NB432_431.out
 refine jBk (w1 := ?_) (by rfl) rfl ?_ ?_
 rotate_left
 ·
  go_simp
  rfl
 refine hK.out _ _ ⟨((cell_far (p := ⟨gb432, _, none⟩) NB431_432.out _).trans (((cell_far (p := ⟨gb432, _, none⟩) NB431_432.out _).trans (((cell_far (p := ⟨gb432, _, none⟩) NB431_432.out _).trans (hHeld.1)))))), ((cell_far (p := ⟨gb432, _, none⟩) NB431_432.out _).trans (((cell_far (p := ⟨gb432, _, none⟩) NB431_432.out _).trans (((cell_far (p := ⟨gb432, _, none⟩) NB431_432.out _).trans (hHeld.2.1)))))), ((cell_far (p := ⟨gb432, _, none⟩) NB431_432.out _).trans (((cell_far (p := ⟨gb432, _, none⟩) NB431_432.out _).trans (((cell_far (p := ⟨gb432, _, none⟩) NB431_432.out _).trans (hHeld.2.2))))))⟩ (fun hHeld => ?_)
 clear hK K
 refine jBI (jBc HT_.out kr_) ?_
 try go_wp2
 refine bodyPost_ret (results_cell_row rfl _ _ gb432 44 #[.bool (a0_0 != (!t433)), .slice Ao12 t434.length co12, .slice Ao11 t437.length co11] (0, 0) _ rfl (by refine pk_ ?_; refine jw (cs := #[.bool (a0_0 != (!t433)), .slice Ao12 t434.length co12, .slice none 0 0]) ?_ 2 _ rs_; refine pk_ ?_; refine jw (cs := #[.bool (a0_0 != (!t433)), .slice none 0 0, .slice none 0 0]) ?_ 1 _ rs_; refine pk_ ?_; refine jw (cs := #[.bool false, .slice none 0 0, .slice none 0 0]) ?_ 0 _ rs_; refine pk_ ?_; exact BK432.out) Try.underlying44 rfl kr_) rfl ?_
 exact ⟨_, _, ew_, by refine pR_ ?_; exact Kd.jM (Kd.jU (p := ⟨gb432, 2, none⟩) (Kd.jU (p := ⟨gb432, 1, none⟩) (Kd.jU (p := ⟨gb432, 0, none⟩) (Kd.jI HO436.out BK432.out (by decide)) (fun _ hk => hk.2) (.bool (a0_0 != (!t433)))) (fun _ hk => hk.2) (.slice Ao12 t434.length co12)) (fun _ hk => hk.2) (.slice Ao11 t437.length co11)) (fun _ hk => hk.1.2), by refine pR_ ?_; exact Kd.jM (Kd.jU (p := ⟨gb432, 2, none⟩) (Kd.jU (p := ⟨gb432, 1, none⟩) (Kd.jU (p := ⟨gb432, 0, none⟩) (Kd.jI HO439.out BK432.out (by decide)) (fun _ hk => hk.2) (.bool (a0_0 != (!t433)))) (fun _ hk => hk.2) (.slice Ao12 t434.length co12)) (fun _ hk => hk.2) (.slice Ao11 t437.length co11)) (fun _ hk => hk.1.2), (bb2_ HB GE431 GE432)⟩

/-! ### vM: function 55 -/
def vM.j0 : Nat → Bool → Bool → List Int → List Int → Bool → List Int → List Int → Option (Int)
 | 0, _, _, _, _, _, _, _ => none
 | k + 1, x16, x441000, x441001, x441002, x442000, x442001, x442002 => if x16 = true then (some 0) else ((jl.f k x441000 x441001 x441002 x442000 x442001 x442002).bind fun bt444 => ((vY.f k x441000 bt444.1 (!x442000) bt444.2).bind fun bt450 => (if (bt450.2.length : Int) = 0 then (some 0) else (if bt450.1 = true then (some (-1)) else (some 1)))))
def vM.f (k : Nat) (a0_0 : Bool) (l0_1 : List Int) (l0_2 : List Int) (a1_0 : Bool) (l1_1 : List Int) (l1_2 : List Int) : Option (Int) := (jm.f k a0_0 l0_1 l0_2).bind fun t442 => (if t442 = true then ((jm.f k a1_0 l1_1 l1_2).bind fun t443 => (vM.j0 k (!t443) a0_0 l0_1 l0_2 a1_0 l1_1 l1_2)) else (vM.j0 k true a0_0 l0_1 l0_2 a1_0 l1_1 l1_2))
theorem vM.zF : ∀ k, (∀ y0 y1 y2 y3 y4 y5 y6, LeO (vM.j0 k y0 y1 y2 y3 y4 y5 y6) (vM.j0 (k + 1) y0 y1 y2 y3 y4 y5 y6))
 | 0 => fun _ _ _ _ _ _ _ r h => by simp [vM.j0] at h
 | k + 1 => by
  have ih0 := vM.zF k
  ·
   intro y0 y1 y2 y3 y4 y5 y6
   unfold vM.j0
   repeat' first
   | (with_reducible exact ih0 _ _ _ _ _ _ _)
   | (with_reducible exact jm.mono _ _ _ _)
   | (with_reducible exact jl.mono _ _ _ _ _ _ _)
   | (with_reducible exact vY.mono _ _ _ _ _)
   | (with_reducible exact LeO.refl _)
   | (with_reducible exact LeO.none _)
   | (with_reducible refine LeO.ite ?_ ?_)
   | (with_reducible refine LeO.bind ?_ (fun _ => ?_))
theorem vM.mono : ∀ a0 a1 a2 a3 a4 a5 k, LeO (vM.f k a0 a1 a2 a3 a4 a5) (vM.f (k + 1) a0 a1 a2 a3 a4 a5) := by
 intro a0 a1 a2 a3 a4 a5 k
 have ih0 := vM.zF k
 unfold vM.f
 repeat' first
   | (with_reducible exact ih0 _ _ _ _ _ _ _)
   | (with_reducible exact jm.mono _ _ _ _)
   | (with_reducible exact jl.mono _ _ _ _ _ _ _)
   | (with_reducible exact vY.mono _ _ _ _ _)
   | (with_reducible exact LeO.refl _)
   | (with_reducible exact LeO.none _)
   | (with_reducible refine LeO.ite ?_ ?_)
   | (with_reducible refine LeO.bind ?_ (fun _ => ?_))
theorem vM.calls (k : Nat) (a0_0 : Bool) (A0_1 : Option Addr) (c0_1 : Nat) (l0_1 : List Int) (A0_2 : Option Addr) (c0_2 : Nat) (l0_2 : List Int) (a1_0 : Bool) (A1_1 : Option Addr) (c1_1 : Nat) (l1_1 : List Int) (A1_2 : Option Addr) (c1_2 : Nat) (l1_2 : List Int) (r : Int) (w : World) (hr0_1 : Kd.C (Kd.int .u64) w A0_1 l0_1.length l0_1) (hc0_1 : l0_1.length ≤ c0_1) (hr0_2 : Kd.C (Kd.int .u64) w A0_2 l0_2.length l0_2) (hc0_2 : l0_2.length ≤ c0_2) (hr1_1 : Kd.C (Kd.int .u64) w A1_1 l1_1.length l1_1) (hc1_1 : l1_1.length ≤ c1_1) (hr1_2 : Kd.C (Kd.int .u64) w A1_2 l1_2.length l1_2) (hc1_2 : l1_2.length ≤ c1_2) (h : vM.f k a0_0 l0_1 l0_2 a1_0 l1_1 l1_2 = some r) :
  Calls Try.prog 55 #[.agg #[.bool a0_0, .slice A0_1 l0_1.length c0_1, .slice A0_2 l0_2.length c0_2], .agg #[.bool a1_0, .slice A1_1 l1_1.length c1_1, .slice A1_2 l1_2.length c1_2]] w fun e w' => e = .returned (.int .i64 r) ∧ Below w.heap.size w w' := by
 have hu44 := Try.underlying44
 have HR0_1 := jA.mk hr0_1
 have HC0_1 := jA.mk hc0_1
 clear hr0_1 hc0_1
 have HR0_2 := jA.mk hr0_2
 have HC0_2 := jA.mk hc0_2
 clear hr0_2 hc0_2
 have HR1_1 := jA.mk hr1_1
 have HC1_1 := jA.mk hc1_1
 clear hr1_1 hc1_1
 have HR1_2 := jA.mk hr1_2
 have HC1_2 := jA.mk hc1_2
 clear hr1_2 hc1_2
 have HB := jA.mk (Below.refl w.heap.size w)
 have H : ((jm.f k a0_0 l0_1 l0_2).bind fun t442 => (if t442 = true then ((jm.f k a1_0 l1_1 l1_2).bind fun t443 => (vM.j0 k (!t443) a0_0 l0_1 l0_2 a1_0 l1_1 l1_2)) else (vM.j0 k true a0_0 l0_1 l0_2 a1_0 l1_1 l1_2))) = some r := h
 clear h
 have HC3 := jA.mk H
 clear H
 go_enter Try.func55, Try.ntmps55
 go_upto_region 1 with (first | ((with_reducible refine jd (N := 2) rfl ?_); refine vK ?hg (N := 2) ?hd (cs := #[.bool a0_0, .slice A0_1 l0_1.length c0_1, .slice A0_2 l0_2.length c0_2]) (t := 44) ?hr ?_; (case hd => rfl); (case hg => rfl); (case hr => exact gs_); intro gb440 hg w4 hbox hb; have n0_ := jA.mk (jE (bb_ HB) hb); have n1_ := jA.mk (hbox); have n2_ := jA.mk ((by rw [hg]; exact (jC (bb_ HB)) : w.heap.size ≤ gb440)); have n3_ := jA.mk ((by rw [hg]; exact (jC (bb_ HB)) : w.heap.size ≤ gb440)); clear HB; have HB := n0_; have BK440 := n1_; have GW440 := n2_; have GE440 := n3_; clear n0_ n1_ n2_ n3_ hb hbox hg) | ((with_reducible refine jd (N := 3) rfl ?_); refine vK ?hg (N := 3) ?hd (cs := #[.bool a1_0, .slice A1_1 l1_1.length c1_1, .slice A1_2 l1_2.length c1_2]) (t := 44) ?hr ?_; (case hd => rfl); (case hg => rfl); (case hr => exact gs_); intro gb441 hg w5 hbox hb; have n0_ := jA.mk (bl_ BK440 hb); have n1_ := jA.mk (jE (bb1_ HB GE440) hb); have n2_ := jA.mk (hbox); have n3_ := jA.mk ((by rw [hg]; exact (jC (bb1_ HB GE440)) : w.heap.size ≤ gb441)); have n4_ := jA.mk ((by rw [hg]; exact (jC (bb1_ HB GE440)) : w.heap.size ≤ gb441)); have n5_ := jA.mk ((by rw [hg]; exact Nat.ne_of_lt (zK (g := gb440) (o := .cells #[.bool a0_0, .slice A0_1 l0_1.length c0_1, .slice A0_2 l0_2.length c0_2] 44 (0, 0)) (kb_ BK440)) : gb440 ≠ gb441)); have n6_ := jA.mk ((by rw [hg]; exact Nat.ne_of_gt (zK (g := gb440) (o := .cells #[.bool a0_0, .slice A0_1 l0_1.length c0_1, .slice A0_2 l0_2.length c0_2] 44 (0, 0)) (kb_ BK440)) : gb441 ≠ gb440)); clear BK440 HB; have BK440 := n0_; have HB := n1_; have BK441 := n2_; have GW441 := n3_; have GE441 := n4_; have NB440_441 := n5_; have NB441_440 := n6_; clear n0_ n1_ n2_ n3_ n4_ n5_ n6_ hb hbox hg))
 (try simp only [Act.put, ss_])
 go_cut [16] (fun v16 wc => ∃ (kq : Nat) (x16_2 : Bool), v16 = .bool x16_2 ∧ jA (vM.j0 kq x16_2 a0_0 l0_1 l0_2 a1_0 l1_1 l1_2 = some r) ∧ jA (kq ≤ k) ∧ jA (wc.heap[gb440]? = some (.cells #[.bool a0_0, (.slice A0_1 l0_1.length c0_1), (.slice A0_2 l0_2.length c0_2)] 44 (0, 0))) ∧ jA (wc.heap[gb441]? = some (.cells #[.bool a1_0, (.slice A1_1 l1_1.length c1_1), (.slice A1_2 l1_2.length c1_2)] 44 (0, 0))) ∧ jA (Below w.heap.size w wc))
 case first =>
  have H := HC3.out
  clear HC3
  replace H := Option.bind_eq_some_iff.mp H
  obtain ⟨t442, A60, H⟩ := H
  replace H : (if t442 = true then ((jm.f k a1_0 l1_1 l1_2).bind fun t443 => (vM.j0 k (!t443) a0_0 l0_1 l0_2 a1_0 l1_1 l1_2)) else (vM.j0 k true a0_0 l0_1 l0_2 a1_0 l1_1 l1_2)) = some r := H
  have A6 := jA.mk A60
  clear A60
  by_cases c7 : t442 = true
  ·
   subst c7
   have H1 : ((jm.f k a1_0 l1_1 l1_2).bind fun t443 => (vM.j0 k (!t443) a0_0 l0_1 l0_2 a1_0 l1_1 l1_2)) = some r := by rw [if_pos rfl] at H; exact H
   clear H
   have H := H1
   clear H1
   replace H := Option.bind_eq_some_iff.mp H
   obtain ⟨t443, A80, H⟩ := H
   replace H : (vM.j0 k (!t443) a0_0 l0_1 l0_2 a1_0 l1_1 l1_2) = some r := H
   have A8 := jA.mk A80
   clear A80
   have H' := jA.mk H
   clear H
   have hnb9 := NB440_441.out
   have hnc9 := NB441_440.out
   have hcz10_0 : w5.cell? ⟨gb440, 0, none⟩ = some (.bool a0_0) := (jB BK440.out 0).trans rfl
   have hcz10_1 : w5.cell? ⟨gb440, 1, none⟩ = some (.slice A0_1 l0_1.length c0_1) := (jB BK440.out 1).trans rfl
   have hcz10_2 : w5.cell? ⟨gb440, 2, none⟩ = some (.slice A0_2 l0_2.length c0_2) := (jB BK440.out 2).trans rfl
   have hfz10_0 := jD BK440.out 0
   have hfz10_1 := jD BK440.out 1
   have hfz10_2 := jD BK440.out 2
   go_wp2_with (first | ((with_reducible refine jH (f := 27) rfl ?_); refine jq (some 10) rfl rfl Try.func27 kr_ rfl #[.agg #[.bool a0_0, .slice A0_1 l0_1.length c0_1, .slice A0_2 l0_2.length c0_2]] rfl mt_ ?_; (with_reducible refine (jm.calls k a0_0 _ _ l0_1 _ _ l0_2 true _ ?side1 ?side2 ?side3 ?side4 A6.out).mono ?_); (case side1 => exact cc_ (Kd.jR HR0_1.out HB.out)); (case side2 => exact HC0_1.out); (case side3 => exact cc_ (Kd.jR HR0_2.out HB.out)); (case side4 => exact HC0_2.out); rintro e w11 ⟨rfl, hb⟩; refine ⟨_, rfl, ?_⟩; have n0_ := jA.mk (bl_ BK440 hb); have n1_ := jA.mk (bl_ BK441 hb); have n2_ := jA.mk (jE (bb2_ HB GE440 GE441) hb); clear BK440 BK441 HB; have BK440 := n0_; have BK441 := n1_; have HB := n2_; clear n0_ n1_ n2_; have hcz12_0 : w11.cell? ⟨gb441, 0, none⟩ = some (.bool a1_0) := (jB BK441.out 0).trans rfl; have hcz12_1 : w11.cell? ⟨gb441, 1, none⟩ = some (.slice A1_1 l1_1.length c1_1) := (jB BK441.out 1).trans rfl; have hcz12_2 : w11.cell? ⟨gb441, 2, none⟩ = some (.slice A1_2 l1_2.length c1_2) := (jB BK441.out 2).trans rfl; have hfz12_0 := jD BK441.out 0; have hfz12_1 := jD BK441.out 1; have hfz12_2 := jD BK441.out 2) | (go_at_call 27; (with_reducible refine (jm.calls k a1_0 _ _ l1_1 _ _ l1_2 t443 _ ?side1 ?side2 ?side3 ?side4 A8.out).mono ?_); (case side1 => exact cc_ (Kd.jR HR1_1.out HB.out)); (case side2 => exact HC1_1.out); (case side3 => exact cc_ (Kd.jR HR1_2.out HB.out)); (case side4 => exact HC1_2.out); rintro e w13 ⟨rfl, hb⟩; have n0_ := jA.mk (bl_ BK440 hb); have n1_ := jA.mk (bl_ BK441 hb); have n2_ := jA.mk (jE (bb2_ HB GE440 GE441) hb); clear BK440 BK441 HB; have BK440 := n0_; have BK441 := n1_; have HB := n2_; clear n0_ n1_ n2_))
   go_meet
   case rel => exact ⟨_, (!t443), sd_, H', ⟨by first | omega | exact Nat.le_refl _⟩, ⟨by (with_reducible repeat (first | refine zC ?_ _ | refine vH ?_ | refine vN ?_ _)); exact BK440.out⟩, ⟨by (with_reducible repeat (first | refine zC ?_ _ | refine vH ?_ | refine vN ?_ _)); exact BK441.out⟩, ⟨(bb2_ HB GE440 GE441)⟩⟩
  ·
   replace c7 := Bool.eq_false_iff.mpr c7
   subst c7
   have H1 : (vM.j0 k true a0_0 l0_1 l0_2 a1_0 l1_1 l1_2) = some r := by rw [if_neg (show ¬ (false = true) by decide)] at H; exact H
   clear H
   have H := H1
   clear H1
   have H' := jA.mk H
   clear H
   have hnb14 := NB440_441.out
   have hnc14 := NB441_440.out
   have hcz15_0 : w5.cell? ⟨gb440, 0, none⟩ = some (.bool a0_0) := (jB BK440.out 0).trans rfl
   have hcz15_1 : w5.cell? ⟨gb440, 1, none⟩ = some (.slice A0_1 l0_1.length c0_1) := (jB BK440.out 1).trans rfl
   have hcz15_2 : w5.cell? ⟨gb440, 2, none⟩ = some (.slice A0_2 l0_2.length c0_2) := (jB BK440.out 2).trans rfl
   have hfz15_0 := jD BK440.out 0
   have hfz15_1 := jD BK440.out 1
   have hfz15_2 := jD BK440.out 2
   go_wp2_with (first | ((with_reducible refine jH (f := 27) rfl ?_); refine jq (some 10) rfl rfl Try.func27 kr_ rfl #[.agg #[.bool a0_0, .slice A0_1 l0_1.length c0_1, .slice A0_2 l0_2.length c0_2]] rfl mt_ ?_; (with_reducible refine (jm.calls k a0_0 _ _ l0_1 _ _ l0_2 false _ ?side1 ?side2 ?side3 ?side4 A6.out).mono ?_); (case side1 => exact cc_ (Kd.jR HR0_1.out HB.out)); (case side2 => exact HC0_1.out); (case side3 => exact cc_ (Kd.jR HR0_2.out HB.out)); (case side4 => exact HC0_2.out); rintro e w16 ⟨rfl, hb⟩; refine ⟨_, rfl, ?_⟩; have n0_ := jA.mk (bl_ BK440 hb); have n1_ := jA.mk (bl_ BK441 hb); have n2_ := jA.mk (jE (bb2_ HB GE440 GE441) hb); clear BK440 BK441 HB; have BK440 := n0_; have BK441 := n1_; have HB := n2_; clear n0_ n1_ n2_))
   go_meet
   case rel => exact ⟨_, (true), sd_, H', ⟨by first | omega | exact Nat.le_refl _⟩, ⟨by (with_reducible repeat (first | refine zC ?_ _ | refine vH ?_ | refine vN ?_ _)); exact BK440.out⟩, ⟨by (with_reducible repeat (first | refine zC ?_ _ | refine vH ?_ | refine vN ?_ _)); exact BK441.out⟩, ⟨(bb2_ HB GE440 GE441)⟩⟩
 case rest =>
  clear HC3
  try clear c1
  try clear c2
  try clear p2
  try clear c5
  try clear c7
  try clear c9
  try clear c14
  try clear hcz10_0
  try clear hcz10_1
  try clear hcz10_2
  try clear hcz12_0
  try clear hcz12_1
  try clear hcz12_2
  try clear hcz15_0
  try clear hcz15_1
  try clear hcz15_2
  try clear hfz10_0
  try clear hfz10_1
  try clear hfz10_2
  try clear hfz12_0
  try clear hfz12_1
  try clear hfz12_2
  try clear hfz15_0
  try clear hfz15_1
  try clear hfz15_2
  obtain ⟨kq, x16_2, rfl, HA, HJ2, BK440, BK441, HB⟩ := hcut
  cases kq with
  | zero => exact absurd HA.out (by simp [vM.j0])
  | succ kj2 =>
   have H := HA.out
   clear HA
   simp only [vM.j0] at H
   by_cases c17 : x16_2 = true
   ·
    subst c17
    have H1 : (some 0) = some r := by rw [if_pos rfl] at H; exact H
    clear H
    have H := H1
    clear H1
    obtain rfl := Option.some.inj H
    go_wp2
    go_ret
    exact ⟨ew_, (bb2_ HB GE440 GE441)⟩
   ·
    replace c17 := Bool.eq_false_iff.mpr c17
    subst c17
    have H1 : ((jl.f kj2 a0_0 l0_1 l0_2 a1_0 l1_1 l1_2).bind fun bt444 => ((vY.f kj2 a0_0 bt444.1 (!a1_0) bt444.2).bind fun bt450 => (if (bt450.2.length : Int) = 0 then (some 0) else (if bt450.1 = true then (some (-1)) else (some 1))))) = some r := by rw [if_neg (show ¬ (false = true) by decide)] at H; exact H
    clear H
    have H := H1
    clear H1
    replace H := Option.bind_eq_some_iff.mp H
    obtain ⟨⟨t444, t447⟩, A180, H⟩ := H
    replace H : ((vY.f kj2 a0_0 t444 (!a1_0) t447).bind fun bt450 => (if (bt450.2.length : Int) = 0 then (some 0) else (if bt450.1 = true then (some (-1)) else (some 1)))) = some r := H
    have A18 := jA.mk A180
    clear A180
    replace H := Option.bind_eq_some_iff.mp H
    obtain ⟨⟨t450, t451⟩, A190, H⟩ := H
    replace H : (if (t451.length : Int) = 0 then (some 0) else (if t450 = true then (some (-1)) else (some 1))) = some r := H
    have A19 := jA.mk A190
    clear A190
    by_cases c20 : (t451.length : Int) = 0
    ·
     rw [if_pos c20] at H
     have c20b0 : ((t451.length : Int) == 0) = true := beq_iff_eq.mpr c20
     have c20b1 : ((t451.length : Int) != 0) = false := bne_eq_false_iff_eq.mpr c20
     clear c20
     obtain rfl := Option.some.inj H
     have hnb21 := NB440_441.out
     have hnc21 := NB441_440.out
     have hcz22_0 : wc.cell? ⟨gb440, 0, none⟩ = some (.bool a0_0) := (jB BK440.out 0).trans rfl
     have hcz22_1 : wc.cell? ⟨gb440, 1, none⟩ = some (.slice A0_1 l0_1.length c0_1) := (jB BK440.out 1).trans rfl
     have hcz22_2 : wc.cell? ⟨gb440, 2, none⟩ = some (.slice A0_2 l0_2.length c0_2) := (jB BK440.out 2).trans rfl
     have hfz22_0 := jD BK440.out 0
     have hfz22_1 := jD BK440.out 1
     have hfz22_2 := jD BK440.out 2
     have hcz23_0 : wc.cell? ⟨gb441, 0, none⟩ = some (.bool a1_0) := (jB BK441.out 0).trans rfl
     have hcz23_1 : wc.cell? ⟨gb441, 1, none⟩ = some (.slice A1_1 l1_1.length c1_1) := (jB BK441.out 1).trans rfl
     have hcz23_2 : wc.cell? ⟨gb441, 2, none⟩ = some (.slice A1_2 l1_2.length c1_2) := (jB BK441.out 2).trans rfl
     have hfz23_0 := jD BK441.out 0
     have hfz23_1 := jD BK441.out 1
     have hfz23_2 := jD BK441.out 2
     go_wp2_with (first | ((with_reducible refine jH (f := 86) rfl ?_); refine jq (some 20) rfl rfl Try.func86 kr_ rfl #[.agg #[.bool a0_0, .slice A0_1 l0_1.length c0_1, .slice A0_2 l0_2.length c0_2], .agg #[.bool a1_0, .slice A1_1 l1_1.length c1_1, .slice A1_2 l1_2.length c1_2]] rfl mt_ ?_; (with_reducible refine (jl.calls kj2 a0_0 _ _ l0_1 _ _ l0_2 a1_0 _ _ l1_1 _ _ l1_2 t444 t447 _ ?side1 ?side2 ?side3 ?side4 ?side5 ?side6 ?side7 ?side8 A18.out).mono ?_); (case side1 => exact cc_ (Kd.jR HR0_1.out HB.out)); (case side2 => exact HC0_1.out); (case side3 => exact cc_ (Kd.jR HR0_2.out HB.out)); (case side4 => exact HC0_2.out); (case side5 => exact cc_ (Kd.jR HR1_1.out HB.out)); (case side6 => exact HC1_1.out); (case side7 => exact cc_ (Kd.jR HR1_2.out HB.out)); (case side8 => exact HC1_2.out); rintro e w24 ⟨v445, v448, rfl, ho0, ho1, hb⟩; refine ⟨_, rfl, ?_⟩; have n0_ := jA.mk (Kd.jV ho0 (jC (bb2_ HB GE440 GE441))); have n1_ := jA.mk (Kd.jV ho1 (jC (bb2_ HB GE440 GE441))); have n2_ := jA.mk (bl_ BK440 hb); have n3_ := jA.mk (bl_ BK441 hb); have n4_ := jA.mk (jE (bb2_ HB GE440 GE441) hb); clear BK440 BK441 HB; have HO446 := n0_; have HO449 := n1_; have BK440 := n2_; have BK441 := n3_; have HB := n4_; clear n0_ n1_ n2_ n3_ n4_; have hcz25_0 : w24.cell? ⟨gb440, 0, none⟩ = some (.bool a0_0) := (jB BK440.out 0).trans rfl; have hcz25_1 : w24.cell? ⟨gb440, 1, none⟩ = some (.slice A0_1 l0_1.length c0_1) := (jB BK440.out 1).trans rfl; have hcz25_2 : w24.cell? ⟨gb440, 2, none⟩ = some (.slice A0_2 l0_2.length c0_2) := (jB BK440.out 2).trans rfl; have hfz25_0 := jD BK440.out 0; have hfz25_1 := jD BK440.out 1; have hfz25_2 := jD BK440.out 2; have hcz26_0 : w24.cell? ⟨gb441, 0, none⟩ = some (.bool a1_0) := (jB BK441.out 0).trans rfl; have hcz26_1 : w24.cell? ⟨gb441, 1, none⟩ = some (.slice A1_1 l1_1.length c1_1) := (jB BK441.out 1).trans rfl; have hcz26_2 : w24.cell? ⟨gb441, 2, none⟩ = some (.slice A1_2 l1_2.length c1_2) := (jB BK441.out 2).trans rfl; have hfz26_0 := jD BK441.out 0; have hfz26_1 := jD BK441.out 1; have hfz26_2 := jD BK441.out 2; obtain ⟨Ao27, co27, eo27⟩ := Kd.jf HO446.out; subst eo27; obtain ⟨Ao28, co28, eo28⟩ := Kd.jf HO449.out; subst eo28) | ((with_reducible refine jH (f := 87) rfl ?_); refine jq (some 31) rfl rfl Try.func87 kr_ rfl #[.bool a0_0, .slice Ao27 t444.length co27, .bool (!a1_0), .slice Ao28 t447.length co28] rfl mt_ ?_; (with_reducible refine (vY.calls kj2 a0_0 (fun k_ => some k_ = (.slice Ao27 t444.length co27 : Value).ownBlock) _ _ t444 (!a1_0) _ _ t447 t450 t451 _ ?side1 ?side2 ?side3 A19.out).mono ?_); (case side1 => exact Kd.R_V (Kd.jAS rfl (Kd.jI (Kd.jI (HO446.out) BK440.out (by decide)) BK441.out (by decide)))); (case side2 => exact cc_ (Kd.jG HO449.out).2.2); (case side3 => exact (Kd.jG HO449.out).2.1); rintro e w29 ⟨v452, rfl, ho0, hb⟩; refine ⟨_, rfl, ?_⟩; have n0_ := jA.mk (Kd.jO (rR_ HO446) hb); have n1_ := jA.mk (Kd.jO (rR_ HO449) hb); have n2_ := jA.mk (Kd.zM (Kd.vk (ok' := fun k_ => some k_ ≠ (.slice Ao28 t447.length co28 : Value).ownBlock ∧ k_ ≠ gb440 ∧ k_ ≠ gb441) ho0 (fun k_ hk_ => ⟨Or.elim hk_ (fun hs_ => ((Kd.jI (Kd.jI (HO446.out) BK440.out (by decide)) BK441.out (by decide)).1 k_ hs_.symm).1.1) (fun hn_ => (Kd.fresh' (Kd.R_lt (rR_ HO449)) k_ hn_)), Or.elim hk_ (fun hs_ => ((Kd.jI (Kd.jI (HO446.out) BK440.out (by decide)) BK441.out (by decide)).1 k_ hs_.symm).1.2) (fun hn_ => (Kd.qz (g := gb440) (o := .cells #[.bool a0_0, .slice A0_1 l0_1.length c0_1, .slice A0_2 l0_2.length c0_2] 44 (0, 0)) (kb_ BK440) k_ hn_)), Or.elim hk_ (fun hs_ => ((Kd.jI (Kd.jI (HO446.out) BK440.out (by decide)) BK441.out (by decide)).1 k_ hs_.symm).2) (fun hn_ => (Kd.qz (g := gb441) (o := .cells #[.bool a1_0, .slice A1_1 l1_1.length c1_1, .slice A1_2 l1_2.length c1_2] 44 (0, 0)) (kb_ BK441) k_ hn_))⟩)) (jC (bb2_ HB GE440 GE441))); have n3_ := jA.mk (bl_ BK440 hb); have n4_ := jA.mk (bl_ BK441 hb); have n5_ := jA.mk (jE (bb2_ HB GE440 GE441) hb); clear HO446 HO449 BK440 BK441 HB; have HO446 := n0_; have HO449 := n1_; have HO453 := n2_; have BK440 := n3_; have BK441 := n4_; have HB := n5_; clear n0_ n1_ n2_ n3_ n4_ n5_; obtain ⟨Ao30, co30, eo30⟩ := Kd.zH HO453.out; subst eo30))
     go_ret
     exact ⟨ew_, (bb2_ HB GE440 GE441)⟩
    ·
     rw [if_neg c20] at H
     have c20b0 : ((t451.length : Int) == 0) = false := beq_eq_false_iff_ne.mpr c20
     have c20b1 : ((t451.length : Int) != 0) = true := bne_iff_ne.mpr c20
     have c20b2 : ¬ (t451 = []) := fun h_ => c20 (by rw [h_]; rfl)
     by_cases c31 : t450 = true
     ·
      subst c31
      have H1 : (some (-1)) = some r := by rw [if_pos rfl] at H; exact H
      clear H
      have H := H1
      clear H1
      obtain rfl := Option.some.inj H
      have hnb32 := NB440_441.out
      have hnc32 := NB441_440.out
      have hcz33_0 : wc.cell? ⟨gb440, 0, none⟩ = some (.bool a0_0) := (jB BK440.out 0).trans rfl
      have hcz33_1 : wc.cell? ⟨gb440, 1, none⟩ = some (.slice A0_1 l0_1.length c0_1) := (jB BK440.out 1).trans rfl
      have hcz33_2 : wc.cell? ⟨gb440, 2, none⟩ = some (.slice A0_2 l0_2.length c0_2) := (jB BK440.out 2).trans rfl
      have hfz33_0 := jD BK440.out 0
      have hfz33_1 := jD BK440.out 1
      have hfz33_2 := jD BK440.out 2
      have hcz34_0 : wc.cell? ⟨gb441, 0, none⟩ = some (.bool a1_0) := (jB BK441.out 0).trans rfl
      have hcz34_1 : wc.cell? ⟨gb441, 1, none⟩ = some (.slice A1_1 l1_1.length c1_1) := (jB BK441.out 1).trans rfl
      have hcz34_2 : wc.cell? ⟨gb441, 2, none⟩ = some (.slice A1_2 l1_2.length c1_2) := (jB BK441.out 2).trans rfl
      have hfz34_0 := jD BK441.out 0
      have hfz34_1 := jD BK441.out 1
      have hfz34_2 := jD BK441.out 2
      go_wp2_with (first | ((with_reducible refine jH (f := 86) rfl ?_); refine jq (some 20) rfl rfl Try.func86 kr_ rfl #[.agg #[.bool a0_0, .slice A0_1 l0_1.length c0_1, .slice A0_2 l0_2.length c0_2], .agg #[.bool a1_0, .slice A1_1 l1_1.length c1_1, .slice A1_2 l1_2.length c1_2]] rfl mt_ ?_; (with_reducible refine (jl.calls kj2 a0_0 _ _ l0_1 _ _ l0_2 a1_0 _ _ l1_1 _ _ l1_2 t444 t447 _ ?side1 ?side2 ?side3 ?side4 ?side5 ?side6 ?side7 ?side8 A18.out).mono ?_); (case side1 => exact cc_ (Kd.jR HR0_1.out HB.out)); (case side2 => exact HC0_1.out); (case side3 => exact cc_ (Kd.jR HR0_2.out HB.out)); (case side4 => exact HC0_2.out); (case side5 => exact cc_ (Kd.jR HR1_1.out HB.out)); (case side6 => exact HC1_1.out); (case side7 => exact cc_ (Kd.jR HR1_2.out HB.out)); (case side8 => exact HC1_2.out); rintro e w35 ⟨v445, v448, rfl, ho0, ho1, hb⟩; refine ⟨_, rfl, ?_⟩; have n0_ := jA.mk (Kd.jV ho0 (jC (bb2_ HB GE440 GE441))); have n1_ := jA.mk (Kd.jV ho1 (jC (bb2_ HB GE440 GE441))); have n2_ := jA.mk (bl_ BK440 hb); have n3_ := jA.mk (bl_ BK441 hb); have n4_ := jA.mk (jE (bb2_ HB GE440 GE441) hb); clear BK440 BK441 HB; have HO446 := n0_; have HO449 := n1_; have BK440 := n2_; have BK441 := n3_; have HB := n4_; clear n0_ n1_ n2_ n3_ n4_; have hcz36_0 : w35.cell? ⟨gb440, 0, none⟩ = some (.bool a0_0) := (jB BK440.out 0).trans rfl; have hcz36_1 : w35.cell? ⟨gb440, 1, none⟩ = some (.slice A0_1 l0_1.length c0_1) := (jB BK440.out 1).trans rfl; have hcz36_2 : w35.cell? ⟨gb440, 2, none⟩ = some (.slice A0_2 l0_2.length c0_2) := (jB BK440.out 2).trans rfl; have hfz36_0 := jD BK440.out 0; have hfz36_1 := jD BK440.out 1; have hfz36_2 := jD BK440.out 2; have hcz37_0 : w35.cell? ⟨gb441, 0, none⟩ = some (.bool a1_0) := (jB BK441.out 0).trans rfl; have hcz37_1 : w35.cell? ⟨gb441, 1, none⟩ = some (.slice A1_1 l1_1.length c1_1) := (jB BK441.out 1).trans rfl; have hcz37_2 : w35.cell? ⟨gb441, 2, none⟩ = some (.slice A1_2 l1_2.length c1_2) := (jB BK441.out 2).trans rfl; have hfz37_0 := jD BK441.out 0; have hfz37_1 := jD BK441.out 1; have hfz37_2 := jD BK441.out 2; obtain ⟨Ao38, co38, eo38⟩ := Kd.jf HO446.out; subst eo38; obtain ⟨Ao39, co39, eo39⟩ := Kd.jf HO449.out; subst eo39) | ((with_reducible refine jH (f := 87) rfl ?_); refine jq (some 31) rfl rfl Try.func87 kr_ rfl #[.bool a0_0, .slice Ao38 t444.length co38, .bool (!a1_0), .slice Ao39 t447.length co39] rfl mt_ ?_; (with_reducible refine (vY.calls kj2 a0_0 (fun k_ => some k_ = (.slice Ao38 t444.length co38 : Value).ownBlock) _ _ t444 (!a1_0) _ _ t447 true t451 _ ?side1 ?side2 ?side3 A19.out).mono ?_); (case side1 => exact Kd.R_V (Kd.jAS rfl (Kd.jI (Kd.jI (HO446.out) BK440.out (by decide)) BK441.out (by decide)))); (case side2 => exact cc_ (Kd.jG HO449.out).2.2); (case side3 => exact (Kd.jG HO449.out).2.1); rintro e w40 ⟨v452, rfl, ho0, hb⟩; refine ⟨_, rfl, ?_⟩; have n0_ := jA.mk (Kd.jO (rR_ HO446) hb); have n1_ := jA.mk (Kd.jO (rR_ HO449) hb); have n2_ := jA.mk (Kd.zM (Kd.vk (ok' := fun k_ => some k_ ≠ (.slice Ao39 t447.length co39 : Value).ownBlock ∧ k_ ≠ gb440 ∧ k_ ≠ gb441) ho0 (fun k_ hk_ => ⟨Or.elim hk_ (fun hs_ => ((Kd.jI (Kd.jI (HO446.out) BK440.out (by decide)) BK441.out (by decide)).1 k_ hs_.symm).1.1) (fun hn_ => (Kd.fresh' (Kd.R_lt (rR_ HO449)) k_ hn_)), Or.elim hk_ (fun hs_ => ((Kd.jI (Kd.jI (HO446.out) BK440.out (by decide)) BK441.out (by decide)).1 k_ hs_.symm).1.2) (fun hn_ => (Kd.qz (g := gb440) (o := .cells #[.bool a0_0, .slice A0_1 l0_1.length c0_1, .slice A0_2 l0_2.length c0_2] 44 (0, 0)) (kb_ BK440) k_ hn_)), Or.elim hk_ (fun hs_ => ((Kd.jI (Kd.jI (HO446.out) BK440.out (by decide)) BK441.out (by decide)).1 k_ hs_.symm).2) (fun hn_ => (Kd.qz (g := gb441) (o := .cells #[.bool a1_0, .slice A1_1 l1_1.length c1_1, .slice A1_2 l1_2.length c1_2] 44 (0, 0)) (kb_ BK441) k_ hn_))⟩)) (jC (bb2_ HB GE440 GE441))); have n3_ := jA.mk (bl_ BK440 hb); have n4_ := jA.mk (bl_ BK441 hb); have n5_ := jA.mk (jE (bb2_ HB GE440 GE441) hb); clear HO446 HO449 BK440 BK441 HB; have HO446 := n0_; have HO449 := n1_; have HO453 := n2_; have BK440 := n3_; have BK441 := n4_; have HB := n5_; clear n0_ n1_ n2_ n3_ n4_ n5_; obtain ⟨Ao41, co41, eo41⟩ := Kd.zH HO453.out; subst eo41))
      go_ret
      exact ⟨ew_, (bb2_ HB GE440 GE441)⟩
     ·
      replace c31 := Bool.eq_false_iff.mpr c31
      subst c31
      have H1 : (some 1) = some r := by rw [if_neg (show ¬ (false = true) by decide)] at H; exact H
      clear H
      have H := H1
      clear H1
      obtain rfl := Option.some.inj H
      have hnb42 := NB440_441.out
      have hnc42 := NB441_440.out
      have hcz43_0 : wc.cell? ⟨gb440, 0, none⟩ = some (.bool a0_0) := (jB BK440.out 0).trans rfl
      have hcz43_1 : wc.cell? ⟨gb440, 1, none⟩ = some (.slice A0_1 l0_1.length c0_1) := (jB BK440.out 1).trans rfl
      have hcz43_2 : wc.cell? ⟨gb440, 2, none⟩ = some (.slice A0_2 l0_2.length c0_2) := (jB BK440.out 2).trans rfl
      have hfz43_0 := jD BK440.out 0
      have hfz43_1 := jD BK440.out 1
      have hfz43_2 := jD BK440.out 2
      have hcz44_0 : wc.cell? ⟨gb441, 0, none⟩ = some (.bool a1_0) := (jB BK441.out 0).trans rfl
      have hcz44_1 : wc.cell? ⟨gb441, 1, none⟩ = some (.slice A1_1 l1_1.length c1_1) := (jB BK441.out 1).trans rfl
      have hcz44_2 : wc.cell? ⟨gb441, 2, none⟩ = some (.slice A1_2 l1_2.length c1_2) := (jB BK441.out 2).trans rfl
      have hfz44_0 := jD BK441.out 0
      have hfz44_1 := jD BK441.out 1
      have hfz44_2 := jD BK441.out 2
      go_wp2_with (first | ((with_reducible refine jH (f := 86) rfl ?_); refine jq (some 20) rfl rfl Try.func86 kr_ rfl #[.agg #[.bool a0_0, .slice A0_1 l0_1.length c0_1, .slice A0_2 l0_2.length c0_2], .agg #[.bool a1_0, .slice A1_1 l1_1.length c1_1, .slice A1_2 l1_2.length c1_2]] rfl mt_ ?_; (with_reducible refine (jl.calls kj2 a0_0 _ _ l0_1 _ _ l0_2 a1_0 _ _ l1_1 _ _ l1_2 t444 t447 _ ?side1 ?side2 ?side3 ?side4 ?side5 ?side6 ?side7 ?side8 A18.out).mono ?_); (case side1 => exact cc_ (Kd.jR HR0_1.out HB.out)); (case side2 => exact HC0_1.out); (case side3 => exact cc_ (Kd.jR HR0_2.out HB.out)); (case side4 => exact HC0_2.out); (case side5 => exact cc_ (Kd.jR HR1_1.out HB.out)); (case side6 => exact HC1_1.out); (case side7 => exact cc_ (Kd.jR HR1_2.out HB.out)); (case side8 => exact HC1_2.out); rintro e w45 ⟨v445, v448, rfl, ho0, ho1, hb⟩; refine ⟨_, rfl, ?_⟩; have n0_ := jA.mk (Kd.jV ho0 (jC (bb2_ HB GE440 GE441))); have n1_ := jA.mk (Kd.jV ho1 (jC (bb2_ HB GE440 GE441))); have n2_ := jA.mk (bl_ BK440 hb); have n3_ := jA.mk (bl_ BK441 hb); have n4_ := jA.mk (jE (bb2_ HB GE440 GE441) hb); clear BK440 BK441 HB; have HO446 := n0_; have HO449 := n1_; have BK440 := n2_; have BK441 := n3_; have HB := n4_; clear n0_ n1_ n2_ n3_ n4_; have hcz46_0 : w45.cell? ⟨gb440, 0, none⟩ = some (.bool a0_0) := (jB BK440.out 0).trans rfl; have hcz46_1 : w45.cell? ⟨gb440, 1, none⟩ = some (.slice A0_1 l0_1.length c0_1) := (jB BK440.out 1).trans rfl; have hcz46_2 : w45.cell? ⟨gb440, 2, none⟩ = some (.slice A0_2 l0_2.length c0_2) := (jB BK440.out 2).trans rfl; have hfz46_0 := jD BK440.out 0; have hfz46_1 := jD BK440.out 1; have hfz46_2 := jD BK440.out 2; have hcz47_0 : w45.cell? ⟨gb441, 0, none⟩ = some (.bool a1_0) := (jB BK441.out 0).trans rfl; have hcz47_1 : w45.cell? ⟨gb441, 1, none⟩ = some (.slice A1_1 l1_1.length c1_1) := (jB BK441.out 1).trans rfl; have hcz47_2 : w45.cell? ⟨gb441, 2, none⟩ = some (.slice A1_2 l1_2.length c1_2) := (jB BK441.out 2).trans rfl; have hfz47_0 := jD BK441.out 0; have hfz47_1 := jD BK441.out 1; have hfz47_2 := jD BK441.out 2; obtain ⟨Ao48, co48, eo48⟩ := Kd.jf HO446.out; subst eo48; obtain ⟨Ao49, co49, eo49⟩ := Kd.jf HO449.out; subst eo49) | ((with_reducible refine jH (f := 87) rfl ?_); refine jq (some 31) rfl rfl Try.func87 kr_ rfl #[.bool a0_0, .slice Ao48 t444.length co48, .bool (!a1_0), .slice Ao49 t447.length co49] rfl mt_ ?_; (with_reducible refine (vY.calls kj2 a0_0 (fun k_ => some k_ = (.slice Ao48 t444.length co48 : Value).ownBlock) _ _ t444 (!a1_0) _ _ t447 false t451 _ ?side1 ?side2 ?side3 A19.out).mono ?_); (case side1 => exact Kd.R_V (Kd.jAS rfl (Kd.jI (Kd.jI (HO446.out) BK440.out (by decide)) BK441.out (by decide)))); (case side2 => exact cc_ (Kd.jG HO449.out).2.2); (case side3 => exact (Kd.jG HO449.out).2.1); rintro e w50 ⟨v452, rfl, ho0, hb⟩; refine ⟨_, rfl, ?_⟩; have n0_ := jA.mk (Kd.jO (rR_ HO446) hb); have n1_ := jA.mk (Kd.jO (rR_ HO449) hb); have n2_ := jA.mk (Kd.zM (Kd.vk (ok' := fun k_ => some k_ ≠ (.slice Ao49 t447.length co49 : Value).ownBlock ∧ k_ ≠ gb440 ∧ k_ ≠ gb441) ho0 (fun k_ hk_ => ⟨Or.elim hk_ (fun hs_ => ((Kd.jI (Kd.jI (HO446.out) BK440.out (by decide)) BK441.out (by decide)).1 k_ hs_.symm).1.1) (fun hn_ => (Kd.fresh' (Kd.R_lt (rR_ HO449)) k_ hn_)), Or.elim hk_ (fun hs_ => ((Kd.jI (Kd.jI (HO446.out) BK440.out (by decide)) BK441.out (by decide)).1 k_ hs_.symm).1.2) (fun hn_ => (Kd.qz (g := gb440) (o := .cells #[.bool a0_0, .slice A0_1 l0_1.length c0_1, .slice A0_2 l0_2.length c0_2] 44 (0, 0)) (kb_ BK440) k_ hn_)), Or.elim hk_ (fun hs_ => ((Kd.jI (Kd.jI (HO446.out) BK440.out (by decide)) BK441.out (by decide)).1 k_ hs_.symm).2) (fun hn_ => (Kd.qz (g := gb441) (o := .cells #[.bool a1_0, .slice A1_1 l1_1.length c1_1, .slice A1_2 l1_2.length c1_2] 44 (0, 0)) (kb_ BK441) k_ hn_))⟩)) (jC (bb2_ HB GE440 GE441))); have n3_ := jA.mk (bl_ BK440 hb); have n4_ := jA.mk (bl_ BK441 hb); have n5_ := jA.mk (jE (bb2_ HB GE440 GE441) hb); clear HO446 HO449 BK440 BK441 HB; have HO446 := n0_; have HO449 := n1_; have HO453 := n2_; have BK440 := n3_; have BK441 := n4_; have HB := n5_; clear n0_ n1_ n2_ n3_ n4_ n5_; obtain ⟨Ao51, co51, eo51⟩ := Kd.zH HO453.out; subst eo51))
      go_ret
      exact ⟨ew_, (bb2_ HB GE440 GE441)⟩

end Go.Proofs.Ytijgeonhbmgikaa.PORatioSigns
