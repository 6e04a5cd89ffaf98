-- printed (pr.py)
import Derived.Test.YtijgeonhbmgikaaPORatioFieldx0
namespace Go.Proofs.Ytijgeonhbmgikaa.PORatioField
open Go.RowKit Go.Proofs.YtijgeonhbmgikaaN Go.Proofs.YtijgeonhbmgikaaW.PrintWords Go.Proofs.YtijgeonhbmgikaaW.PrintLast Go.Proofs.YtijgeonhbmgikaaW.PrintMore
attribute [local go_sem] qH qF qg qd zq zo qG qE
set_option maxHeartbeats 8000000
set_option maxRecDepth 100000
set_option linter.unusedVariables false
set_option linter.unusedSimpArgs false
def jW.l0 : Nat → List Int → Int → Option (List Int)
 | 0, _, _ => none
 | k + 1, x0, x3 => if x3 > 0 then (if 0 ≤ (wrap64 (x3 - 1)) then (if (wrap64 (x3 - 1)) < (x0.length : Int) then (if (rd x0 (wrap64 (x3 - 1))) = 0 then (jW.l0 k x0 (wrap64 (x3 - 1))) else ((some (([] : List Int) : List Int)).bind fun y398 => (if 0 ≤ x3 then (if x3 ≤ (x0.length : Int) then (if y398.length + (x0.take (x3 : Int).toNat).length < 17592186044416 then (some (y398 ++ (x0.take (x3 : Int).toNat))) else (none)) else (none)) else (none)))) else (none)) else (none)) else ((some (([] : List Int) : List Int)).bind fun y405 => (if 0 ≤ x3 then (if x3 ≤ (x0.length : Int) then (if y405.length + (x0.take (x3 : Int).toNat).length < 17592186044416 then (some (y405 ++ (x0.take (x3 : Int).toNat))) else (none)) else (none)) else (none)))
def jW.f (k : Nat) (l0 : List Int) : Option (List Int) := jW.l0 k l0 (l0.length : Int)
theorem jW.vS : ∀ k, (∀ y0 y1, LeO (jW.l0 k y0 y1) (jW.l0 (k + 1) y0 y1))
 | 0 => fun _ _ r h => by simp [jW.l0] at h
 | k + 1 => by
  have ih0 := jW.vS k
  ·
   intro y0 y1
   unfold jW.l0
   repeat' first
   | (with_reducible exact ih0 _ _)
   | (with_reducible exact LeO.refl _)
   | (with_reducible exact LeO.none _)
   | (with_reducible refine LeO.ite ?_ ?_)
   | (with_reducible refine LeO.bind ?_ (fun _ => ?_))
theorem jW.mono : ∀ a0 k, LeO (jW.f k a0) (jW.f (k + 1) a0) := by
 intro a0 k
 have ih0 := jW.vS k
 unfold jW.f
 repeat' first
   | (with_reducible exact ih0 _ _)
   | (with_reducible exact LeO.refl _)
   | (with_reducible exact LeO.none _)
   | (with_reducible refine LeO.ite ?_ ?_)
   | (with_reducible refine LeO.bind ?_ (fun _ => ?_))
theorem jW.calls (k : Nat) (A0 : Option Addr) (c0 : Nat) (l0 : List Int) (r : List Int) (w : World) (hr0 : Kd.C (Kd.int .u64) w A0 l0.length l0) (hc0 : l0.length ≤ c0) (h : jW.f k l0 = some r) :
  Calls Try.prog 25 #[.slice A0 l0.length c0] w fun e w' => ∃ v0_ : Value, e = .returned (v0_) ∧ Kd.R (Kd.int .u64) 22 w' w.heap.size (fun _ => True) v0_ r ∧ Below w.heap.size w w' := by
 have HR0 := jA.mk hr0
 have HC0 := jA.mk hc0
 clear hr0 hc0
 have HB := jA.mk (Below.refl w.heap.size w)
 have H : (jW.l0 k l0 (l0.length : Int)) = some r := h
 clear h
 have H' := jA.mk H
 clear H
 go_enter Try.func25, Try.ntmps25
 go_wp2
 go_loopg [3] k (fun kq v3 w' => ∃ (x3_1 : Int), v3 = .int .i64 x3_1 ∧ jA (jW.l0 kq l0 x3_1 = some r) ∧ jA (kq ≤ k) ∧ jA (Below w.heap.size w w'))
 case atStart => exact ⟨((l0.length : Int)), sd_, H', ⟨Nat.le_refl _⟩, ⟨(bb_ HB)⟩⟩
 case round =>
  clear H'
  obtain ⟨x3_1, rfl, HA, HK1, HB⟩ := hrel
  cases gk with
  | zero => exact absurd HA.out (by simp [jW.l0])
  | succ k1 =>
   have H := HA.out
   clear HA
   simp only [jW.l0] at H
   by_cases c2 : x3_1 > 0
   ·
    rw [if_pos c2] at H
    have c2b0 := decide_eq_true c2
    clear c2
    obtain ⟨ji3, hji3⟩ : ∃ j_ : Int, (wrap64 (x3_1 - 1)) = j_ := ⟨_, rfl⟩
    replace H : (if 0 ≤ (ji3) then (if (ji3) < (l0.length : Int) then (if (rd l0 (ji3)) = 0 then (jW.l0 k1 l0 ji3) else ((some (([] : List Int) : List Int)).bind fun y398 => (if 0 ≤ x3_1 then (if x3_1 ≤ (l0.length : Int) then (if y398.length + (l0.take (x3_1 : Int).toNat).length < 17592186044416 then (some (y398 ++ (l0.take (x3_1 : Int).toNat))) else (none)) else (none)) else (none)))) else (none)) else (none)) = some r := by first | (rw [hji3] at H; exact H) | (simp only [hji3] at H ⊢; exact H)
    have hji3w : (IntKind.i64.wrap (x3_1 - 1)) = ji3 := (qZ _).trans hji3
    by_cases c4 : 0 ≤ (ji3)
    ·
     rw [if_pos c4] at H
     have c4b0 := decide_eq_true c4
     clear c4
     by_cases c5 : (ji3) < (l0.length : Int)
     ·
      rw [if_pos c5] at H
      have c5b0 := decide_eq_true c5
      clear c5
      by_cases c6 : (rd l0 (ji3)) = 0
      ·
       rw [if_pos c6] at H
       have c6b0 := beq_iff_eq.mpr c6
       have c6b1 := bne_eq_false_iff_eq.mpr c6
       clear c6
       have H' := jA.mk H
       clear H
       have p397 : 0 ≤ ((ji3) : Int) := of_decide_eq_true am_
       have q397 : (ji3) < (l0.length : Int) := of_decide_eq_true am_
       obtain ⟨ad397, e397, hx397_0⟩ := Kd.vw HR0.out (ji3) p397 q397
       cases e397
       replace hx397_0 := (HB.out.cell (World.block_lt_of_cell? w _ hx397_0)).trans hx397_0
       replace p397 := eq_true p397
       replace q397 := eq_true q397
       go_wp2
       go_roundg k1
       case measure => have := HK1.out; omega
       case rel => exact ⟨(ji3), (by first | rfl | (simp; done) | (simp only [← hji3] <;> (first | rfl | simp)) | (simp [*]; done)), H', ⟨by have := HK1.out; omega⟩, ⟨(bb_ HB)⟩⟩
      ·
       rw [if_neg c6] at H
       have c6b0 := beq_eq_false_iff_ne.mpr c6
       have c6b1 := bne_iff_ne.mpr c6
       obtain ⟨y398, hy398⟩ : ∃ y_ : List Int, y_ = (([] : List Int)) := ⟨_, rfl⟩
       replace H : (if 0 ≤ x3_1 then (if x3_1 ≤ (l0.length : Int) then (if y398.length + (l0.take (x3_1 : Int).toNat).length < 17592186044416 then (some (y398 ++ (l0.take (x3_1 : Int).toNat))) else (none)) else (none)) else (none)) = some r := by first | (rw [hy398]; with_reducible exact H) | (have H2_ := (Option.bind_some _ _).symm.trans H; rw [hy398]; with_reducible exact H2_) | (with_reducible exact hs_ H) | with_reducible exact H | (rw [hy398]; exact H) | exact H
       have Ny398 := jA.mk hy398
       clear hy398
       by_cases c7 : 0 ≤ x3_1
       ·
        rw [if_pos c7] at H
        have c7b0 := eq_true c7
        have c7b1 := decide_eq_true c7
        clear c7
        by_cases c8 : x3_1 ≤ (l0.length : Int)
        ·
         rw [if_pos c8] at H
         have c8b0 := eq_true c8
         have c8b1 := decide_eq_true c8
         clear c8
         by_cases c9 : y398.length + (l0.take (x3_1 : Int).toNat).length < 17592186044416
         ·
          rw [if_pos c9] at H
          have LMc9 := jA.mk c9
          clear c9
          obtain ⟨y402, hy402⟩ : ∃ y_ : List Int, y_ = (y398 ++ (l0.take (x3_1 : Int).toNat)) := ⟨_, rfl⟩
          replace H : (some y402) = some r := by first | (rw [hy402]; with_reducible exact H) | (have H2_ := (Option.bind_some _ _).symm.trans H; rw [hy402]; with_reducible exact H2_) | (with_reducible exact hs_ H) | with_reducible exact H | (rw [hy402]; exact H) | exact H
          have Ny402 := jA.mk hy402
          clear hy402
          obtain rfl := Option.some.inj H
          have p397 : 0 ≤ ((ji3) : Int) := of_decide_eq_true am_
          have q397 : (ji3) < (l0.length : Int) := of_decide_eq_true am_
          obtain ⟨ad397, e397, hx397_0⟩ := Kd.vw HR0.out (ji3) p397 q397
          cases e397
          replace hx397_0 := (HB.out.cell (World.block_lt_of_cell? w _ hx397_0)).trans hx397_0
          replace p397 := eq_true p397
          replace q397 := eq_true q397
          go_wp2_with (first | ((with_reducible refine jX (N := 19) rfl ?_); refine Kd.jAC (Kd.int .u64) _ 22 ?hg (N := 19) ?hd (xs := ([] : List Int)) (inner := []) (ok := fun _ => True) (okp := fun _ => True) ?hr ?hp (fun _ hk => hk) trivial (Below.refl _ _) (Nat.le_refl _) (by simp) ?_; (case hd => rfl); (case hg => rfl); (case hr => exact gs_); (case hp => exact (Reps.none _ _)); intro v399 w10 ho11 hb hg_ hnew_; clear hg_ hnew_; (first | rw [← Ny398.out] at ho11 | (simp only [Int.reduceToNat] at ho11; rw [← Ny398.out] at ho11)); have HO400 := jA.mk (Kd.jN ho11 (jC (bb_ HB))); replace HB := bs_ HB hb; clear hb ho11; obtain ⟨i012, hi012, _, hsz12, _⟩ := info_parts qI; obtain ⟨hcut12, hA12, hC12⟩ := jBj (P := Try.prog) (Value.int .u64) 0 35 22 .i64 Try.underlying35 hi012 hsz12 (some ad397) c0 l0 x3_1 (of_decide_eq_true am_) (of_decide_eq_true am_) HC0.out; have HR401 := jA.mk (Kd.jDF (h1 := fun _ => rfl) (hA12 _ (Kd.jBr HR0.out))); have HC401 := jA.mk hC12; clear hA12 hC12 hi012 hsz12) | ((with_reducible refine vW (b := .append) (xs := #[.tmp 20, .tmp 23]) rfl ?_); at_builtin; refine Kd.jAT (Kd.int .u64) (w0 := w) w.heap.size rfl (.tmp 20) (.tmp 23) 35 22 (.int .u64 0) 8 rfl Try.underlying35 qI rfl (by decide) (by omega) v399 y398 (l0.take (x3_1 : Int).toNat) _ _ _ (fun _ => True) (fun _ => False) rfl rfl ?aO ?aR (fun _ _ h => h) (fun _ h => h.elim) ?aF ?aB ?aS ?aL ?_; (case aR => first | (refine jBz (show (l0.take (x3_1 : Int).toNat).length = x3_1.toNat from (by rw [List.length_take]; have h_ : (x3_1 : Int) ≤ (l0.length : Int) := of_decide_eq_true am_; omega)) ?_; exact cb_ HR401 HB) | (exact cb_ HR401 HB)); (case aB => exact (bb_ HB)); (case aF => exact (fun _ _ => trivial)); (case aO => exact (rR_ HO400)); (case aS => exact (jC (bb_ HB))); (case aL => have := LMc9.out; have hlx_ := (show (l0.take (x3_1 : Int).toNat).length = x3_1.toNat from (by rw [List.length_take]; have h_ : (x3_1 : Int) ≤ (l0.length : Int) := of_decide_eq_true am_; omega)); omega); intro v403 w13 ho hb hg hat; rw [← Ny402.out] at ho; replace HB := jA.mk (hb); have HO404 := jA.mk (ho); clear HO400 ho hb hg hat))
          go_ret
          exact ⟨_, by first | rfl | (simp [vY, vX] <;> rfl) | (simp only [← hji3]; first | rfl | (simp [vY, vX] <;> rfl)) | (simp [*, vY, vX] <;> rfl), (rR_ HO404), (bb_ HB)⟩
         ·
          rw [if_neg c9] at H
          exact absurd H (by simp)
        ·
         rw [if_neg c8] at H
         exact absurd H (by simp)
       ·
        rw [if_neg c7] at H
        exact absurd H (by simp)
     ·
      rw [if_neg c5] at H
      exact absurd H (by simp)
    ·
     rw [if_neg c4] at H
     exact absurd H (by simp)
   ·
    rw [if_neg c2] at H
    have c2b0 := decide_eq_false c2
    clear c2
    obtain ⟨y405, hy405⟩ : ∃ y_ : List Int, y_ = (([] : List Int)) := ⟨_, rfl⟩
    replace H : (if 0 ≤ x3_1 then (if x3_1 ≤ (l0.length : Int) then (if y405.length + (l0.take (x3_1 : Int).toNat).length < 17592186044416 then (some (y405 ++ (l0.take (x3_1 : Int).toNat))) else (none)) else (none)) else (none)) = some r := by first | (rw [hy405]; with_reducible exact H) | (have H2_ := (Option.bind_some _ _).symm.trans H; rw [hy405]; with_reducible exact H2_) | (with_reducible exact hs_ H) | with_reducible exact H | (rw [hy405]; exact H) | exact H
    have Ny405 := jA.mk hy405
    clear hy405
    by_cases c14 : 0 ≤ x3_1
    ·
     rw [if_pos c14] at H
     have c14b0 := eq_true c14
     have c14b1 := decide_eq_true c14
     clear c14
     by_cases c15 : x3_1 ≤ (l0.length : Int)
     ·
      rw [if_pos c15] at H
      have c15b0 := eq_true c15
      have c15b1 := decide_eq_true c15
      clear c15
      by_cases c16 : y405.length + (l0.take (x3_1 : Int).toNat).length < 17592186044416
      ·
       rw [if_pos c16] at H
       have LMc16 := jA.mk c16
       clear c16
       obtain ⟨y409, hy409⟩ : ∃ y_ : List Int, y_ = (y405 ++ (l0.take (x3_1 : Int).toNat)) := ⟨_, rfl⟩
       replace H : (some y409) = some r := by first | (rw [hy409]; with_reducible exact H) | (have H2_ := (Option.bind_some _ _).symm.trans H; rw [hy409]; with_reducible exact H2_) | (with_reducible exact hs_ H) | with_reducible exact H | (rw [hy409]; exact H) | exact H
       have Ny409 := jA.mk hy409
       clear hy409
       obtain rfl := Option.some.inj H
       go_wp2_with (first | ((with_reducible refine jX (N := 19) rfl ?_); refine Kd.jAC (Kd.int .u64) _ 22 ?hg (N := 19) ?hd (xs := ([] : List Int)) (inner := []) (ok := fun _ => True) (okp := fun _ => True) ?hr ?hp (fun _ hk => hk) trivial (Below.refl _ _) (Nat.le_refl _) (by simp) ?_; (case hd => rfl); (case hg => rfl); (case hr => exact gs_); (case hp => exact (Reps.none _ _)); intro v406 w17 ho18 hb hg_ hnew_; clear hg_ hnew_; (first | rw [← Ny405.out] at ho18 | (simp only [Int.reduceToNat] at ho18; rw [← Ny405.out] at ho18)); have HO407 := jA.mk (Kd.jN ho18 (jC (bb_ HB))); replace HB := bs_ HB hb; clear hb ho18; obtain ⟨i019, hi019, _, hsz19, _⟩ := info_parts qI; obtain ⟨hcut19, hA19, hC19⟩ := jBj (P := Try.prog) (Value.int .u64) 0 35 22 .i64 Try.underlying35 hi019 hsz19 A0 c0 l0 x3_1 (of_decide_eq_true am_) (of_decide_eq_true am_) HC0.out; have HR408 := jA.mk (Kd.jDF (h1 := fun _ => rfl) (hA19 _ (Kd.jBr HR0.out))); have HC408 := jA.mk hC19; clear hA19 hC19 hi019 hsz19) | ((with_reducible refine vW (b := .append) (xs := #[.tmp 20, .tmp 23]) rfl ?_); at_builtin; refine Kd.jAT (Kd.int .u64) (w0 := w) w.heap.size rfl (.tmp 20) (.tmp 23) 35 22 (.int .u64 0) 8 rfl Try.underlying35 qI rfl (by decide) (by omega) v406 y405 (l0.take (x3_1 : Int).toNat) _ _ _ (fun _ => True) (fun _ => False) rfl rfl ?aO ?aR (fun _ _ h => h) (fun _ h => h.elim) ?aF ?aB ?aS ?aL ?_; (case aR => first | (refine jBz (show (l0.take (x3_1 : Int).toNat).length = x3_1.toNat from (by rw [List.length_take]; have h_ : (x3_1 : Int) ≤ (l0.length : Int) := of_decide_eq_true am_; omega)) ?_; exact cb_ HR408 HB) | (exact cb_ HR408 HB)); (case aB => exact (bb_ HB)); (case aF => exact (fun _ _ => trivial)); (case aO => exact (rR_ HO407)); (case aS => exact (jC (bb_ HB))); (case aL => have := LMc16.out; have hlx_ := (show (l0.take (x3_1 : Int).toNat).length = x3_1.toNat from (by rw [List.length_take]; have h_ : (x3_1 : Int) ≤ (l0.length : Int) := of_decide_eq_true am_; omega)); omega); intro v410 w20 ho hb hg hat; rw [← Ny409.out] at ho; replace HB := jA.mk (hb); have HO411 := jA.mk (ho); clear HO407 ho hb hg hat))
       go_ret
       exact ⟨_, ew_, (rR_ HO411), (bb_ HB)⟩
      ·
       rw [if_neg c16] at H
       exact absurd H (by simp)
     ·
      rw [if_neg c15] at H
      exact absurd H (by simp)
    ·
     rw [if_neg c14] at H
     exact absurd H (by simp)
def vK.f (l0 : List Int) : Option (Bool) := if (l0.length : Int) ≤ 8 then (if (l0.length : Int) = 0 then (some true) else (if 0 ≤ (wrap64 ((l0.length : Int) - 1)) then (if (wrap64 ((l0.length : Int) - 1)) < (l0.length : Int) then (some ((rd l0 (wrap64 ((l0.length : Int) - 1))) != 0)) else (none)) else (none))) else (some false)
theorem vK.calls (A0 : Option Addr) (c0 : Nat) (l0 : List Int) (r : Bool) (w : World) (hr0 : Kd.C (Kd.int .u64) w A0 l0.length l0) (hc0 : l0.length ≤ c0) (h : vK.f l0 = some r) :
  Calls Try.prog 74 #[.slice A0 l0.length c0] w fun e w' => e = .returned (.bool r) ∧ za w w' := by
 have HR0 := jA.mk hr0
 have HC0 := jA.mk hc0
 clear hr0 hc0
 have H : (if (l0.length : Int) ≤ 8 then (if (l0.length : Int) = 0 then (some true) else (if 0 ≤ (wrap64 ((l0.length : Int) - 1)) then (if (wrap64 ((l0.length : Int) - 1)) < (l0.length : Int) then (some ((rd l0 (wrap64 ((l0.length : Int) - 1))) != 0)) else (none)) else (none))) else (some false)) = some r := h
 clear h
 by_cases c2 : (l0.length : Int) ≤ 8
 ·
  rw [if_pos c2] at H
  have c2b0 := decide_eq_true c2
  have c2b1 : decide (l0.length ≤ 8) = true := decide_eq_true (by omega)
  clear c2
  by_cases c3 : (l0.length : Int) = 0
  ·
   rw [if_pos c3] at H
   have c3b0 := beq_iff_eq.mpr c3
   have c3b1 := bne_eq_false_iff_eq.mpr c3
   clear c3
   obtain rfl := Option.some.inj H
   go_enter Try.func74, Try.ntmps74
   go_wp2
   go_ret
   exact ⟨by first | rfl | (simp; done) | (simp [*]; done), by repeat (first | exact za.refl _ | apply za.step)⟩
  ·
   rw [if_neg c3] at H
   have c3b0 := beq_eq_false_iff_ne.mpr c3
   have c3b1 := bne_iff_ne.mpr c3
   have c3b2 : ¬ (l0 = []) := fun h_ => c3 (by rw [h_]; rfl)
   obtain ⟨ji4, hji4⟩ : ∃ j_ : Int, (wrap64 ((l0.length : Int) - 1)) = j_ := ⟨_, rfl⟩
   replace H : (if 0 ≤ (ji4) then (if (ji4) < (l0.length : Int) then (some ((rd l0 (ji4)) != 0)) else (none)) else (none)) = some r := by first | (rw [hji4] at H; exact H) | (simp only [hji4] at H ⊢; exact H)
   have hji4w : (IntKind.i64.wrap ((l0.length : Int) - 1)) = ji4 := (qZ _).trans hji4
   by_cases c5 : 0 ≤ (ji4)
   ·
    rw [if_pos c5] at H
    have c5b0 := decide_eq_true c5
    clear c5
    by_cases c6 : (ji4) < (l0.length : Int)
    ·
     rw [if_pos c6] at H
     have c6b0 := decide_eq_true c6
     clear c6
     obtain rfl := Option.some.inj H
     have p412 : 0 ≤ ((ji4) : Int) := of_decide_eq_true am_
     have q412 : (ji4) < (l0.length : Int) := of_decide_eq_true am_
     obtain ⟨ad412, e412, hx412_0⟩ := Kd.vw HR0.out (ji4) p412 q412
     cases e412
     replace p412 := eq_true p412
     replace q412 := eq_true q412
     go_enter Try.func74, Try.ntmps74
     go_wp2
     go_ret
     exact ⟨by first | rfl | (simp; done) | (simp only [← hji4] <;> (first | rfl | simp)) | (simp [*]; done), by repeat (first | exact za.refl _ | apply za.step)⟩
    ·
     rw [if_neg c6] at H
     exact absurd H (by simp)
   ·
    rw [if_neg c5] at H
    exact absurd H (by simp)
 ·
  rw [if_neg c2] at H
  have c2b0 := decide_eq_false c2
  have c2b1 : decide (l0.length ≤ 8) = false := decide_eq_false (by omega)
  clear c2
  obtain rfl := Option.some.inj H
  go_enter Try.func74, Try.ntmps74
  go_wp2
  go_ret
  exact ⟨by first | rfl | (simp; done) | (simp [*]; done), by repeat (first | exact za.refl _ | apply za.step)⟩
def zN.f (k : Nat) (a0 : Int) : Option (List Int) := (jW.f k (([a0] : List Int))).bind fun t416 => (some t416)
theorem zN.mono : ∀ a0 k, LeO (zN.f k a0) (zN.f (k + 1) a0) := by
 intro a0 k
 unfold zN.f
 repeat' first
   | (with_reducible exact jW.mono _ _)
   | (with_reducible exact LeO.refl _)
   | (with_reducible exact LeO.none _)
   | (with_reducible refine LeO.ite ?_ ?_)
   | (with_reducible refine LeO.bind ?_ (fun _ => ?_))
theorem zN.calls (k : Nat) (a0 : Int) (r : List Int) (w : World) (h : zN.f k a0 = some r) :
  Calls Try.prog 21 #[.int .u64 a0] w fun e w' => ∃ v0_ : Value, e = .returned (v0_) ∧ Kd.R (Kd.int .u64) 22 w' w.heap.size (fun _ => True) v0_ r ∧ Below w.heap.size w w' := by
 have HB := jA.mk (Below.refl w.heap.size w)
 have H : ((jW.f k (([a0] : List Int))).bind fun t416 => (some t416)) = some r := h
 clear h
 obtain ⟨y413, hy413⟩ : ∃ y_ : List Int, y_ = (([a0] : List Int)) := ⟨_, rfl⟩
 replace H : ((jW.f k y413).bind fun t416 => (some t416)) = some r := by first | (rw [hy413]; with_reducible exact H) | (have H2_ := (Option.bind_some _ _).symm.trans H; rw [hy413]; with_reducible exact H2_) | (with_reducible exact hs_ H) | with_reducible exact H | (rw [hy413]; exact H) | exact H
 have Ny413 := jA.mk hy413
 clear hy413
 replace H := ob_ H
 obtain ⟨t416, A20, H⟩ := H
 replace H : (some t416) = some r := H
 have A2 := jA.mk A20
 clear A20
 obtain rfl := Option.some.inj H
 go_enter Try.func21, Try.ntmps21
 go_wp2_with (first | ((with_reducible refine jX (N := 4) rfl ?_); refine Kd.jAC (Kd.int .u64) _ 22 ?hg (N := 4) ?hd (xs := ([a0] : List Int)) (inner := [.int .u64 a0]) (ok := fun _ => True) (okp := fun _ => True) ?hr ?hp (fun _ hk => hk) trivial (Below.refl _ _) (Nat.le_refl _) (by simp) ?_; (case hd => rfl); (case hg => rfl); (case hr => exact gs_); (case hp => exact (Reps.one (show Kd.M (Kd.int .u64) _ _ _ a0 [.int .u64 a0] from rfl) (Reps.none _ _))); intro v414 w3 ho4 hb hg_ hnew_; clear hg_ hnew_; (first | rw [← Ny413.out] at ho4 | (simp only [Int.reduceToNat] at ho4; rw [← Ny413.out] at ho4)); have HO415 := jA.mk (Kd.jN ho4 (jC (bb_ HB))); replace HB := bs_ HB hb; clear hb ho4; obtain ⟨Ao5, co5, rfl⟩ := Kd.jV HO415.out) | ((with_reducible refine jH (f := 25) rfl ?_); refine gl_ (some 5) Try.func25 #[.slice Ao5 y413.length co5] ?_; (with_reducible refine (jW.calls k _ _ y413 t416 _ ?side1 ?side2 A2.out).mono ?_); (case side1 => exact cc_ (Kd.jE HO415.out).2.2); (case side2 => exact (Kd.jE HO415.out).2.1); rintro e w6 ⟨v417, rfl, ho0, hb⟩; refine ⟨_, rfl, ?_⟩; have HO418 := jA.mk (Kd.jN (Kd.jL ho0 (Kd.R_lt (rR_ HO415))) (jC (bb_ HB))); replace HO415 := re_ HO415 ho0 hb; replace HB := bs_ HB hb))
 go_ret
 exact ⟨_, ew_, by refine pR_ ?_; exact Kd.jT HO418.out (fun _ hk => trivial), (bb_ HB)⟩
def jG.l0 : Nat → List Int → List Int → Int → Option (List Int)
 | 0, _, _, _ => none
 | k + 1, x0, x3, x4 => if x4 < (x0.length : Int) then (if 0 ≤ x4 then ((some (([Int.tmod (rd x0 x4) 4294967296, IntKind.u64.wrap (Int.tdiv (rd x0 x4) 4294967296)] : List Int) : List Int)).bind fun y424 => (if x3.length + y424.length < 17592186044416 then (jG.l0 k x0 (x3 ++ y424) (wrap64 (x4 + 1))) else (none))) else (none)) else (some x3)
def jG.f (k : Nat) (l0 : List Int) : Option (List Int) := jG.l0 k l0 (([] : List Int)) 0
theorem jG.vS : ∀ k, (∀ y0 y1 y2, LeO (jG.l0 k y0 y1 y2) (jG.l0 (k + 1) y0 y1 y2))
 | 0 => fun _ _ _ r h => by simp [jG.l0] at h
 | k + 1 => by
  have ih0 := jG.vS k
  ·
   intro y0 y1 y2
   unfold jG.l0
   repeat' first
   | (with_reducible exact ih0 _ _ _)
   | (with_reducible exact LeO.refl _)
   | (with_reducible exact LeO.none _)
   | (with_reducible refine LeO.ite ?_ ?_)
   | (with_reducible refine LeO.bind ?_ (fun _ => ?_))
theorem jG.mono : ∀ a0 k, LeO (jG.f k a0) (jG.f (k + 1) a0) := by
 intro a0 k
 have ih0 := jG.vS k
 unfold jG.f
 repeat' first
   | (with_reducible exact ih0 _ _ _)
   | (with_reducible exact LeO.refl _)
   | (with_reducible exact LeO.none _)
   | (with_reducible refine LeO.ite ?_ ?_)
   | (with_reducible refine LeO.bind ?_ (fun _ => ?_))
def jG.T5 : Bool × List (List Nat × List Nat) := (true, [([], []), ([], []), ([], []), ([1, 2], [1, 2]), ([3], [3]), ([4], [4]), ([], []), ([], []), ([6, 7], [6, 7]), ([8], [8]), ([9], [9]), ([5, 10], [5, 10]), ([0, 11], [0, 11]), ([12, 12, 0, 1, 2, 3, 4, 5, 6, 7, 8, 9, 10, 11, 12], [0, 12])])
def jG.B5 : List Nat := [0, 0, 0, 6, 14, 30, 0, 0, 192, 448, 960, 2046, 4095, 8191]
theorem jG.tab5 : rtab .any (opsOf Try.f68 5) = jG.T5 := by kernel_rfl
theorem jG.jIt : jAL jG.T5.2 jG.B5 = true := by kernel_rfl
theorem jG.calls (k : Nat) (A0 : Option Addr) (c0 : Nat) (l0 : List Int) (r : List Int) (w : World) (hr0 : Kd.C (Kd.int .u64) w A0 l0.length l0) (hc0 : l0.length ≤ c0) (h : jG.f k l0 = some r) :
  Calls Try.prog 68 #[.slice A0 l0.length c0] w fun e w' => ∃ v0_ : Value, e = .returned (v0_) ∧ Kd.R (Kd.int .u64) 22 w' w.heap.size (fun _ => True) v0_ r ∧ Below w.heap.size w w' := by
 have HR0 := jA.mk hr0
 have HC0 := jA.mk hc0
 clear hr0 hc0
 have HB := jA.mk (Below.refl w.heap.size w)
 have H : (jG.l0 k l0 (([] : List Int)) 0) = some r := h
 clear h
 obtain ⟨y419, hy419⟩ : ∃ y_ : List Int, y_ = (([] : List Int)) := ⟨_, rfl⟩
 replace H : (jG.l0 k l0 y419 0) = some r := by first | (rw [hy419]; with_reducible exact H) | (have H2_ := (Option.bind_some _ _).symm.trans H; rw [hy419]; with_reducible exact H2_) | (with_reducible exact hs_ H) | with_reducible exact H | (rw [hy419]; exact H) | exact H
 have Ny419 := jA.mk hy419
 clear hy419
 have H' := jA.mk H
 clear H
 go_enter Try.func68, Try.ntmps68
 go_wp2_with (first | ((with_reducible refine jX (N := 5) rfl ?_); refine Kd.jAC (Kd.int .u64) _ 22 ?hg (N := 5) ?hd (xs := ([] : List Int)) (inner := []) (ok := fun _ => True) (okp := fun _ => True) ?hr ?hp (fun _ hk => hk) trivial (Below.refl _ _) (Nat.le_refl _) (by simp) ?_; (case hd => rfl); (case hg => rfl); (case hr => exact gs_); (case hp => exact (Reps.none _ _)); intro v420 w2 ho3 hb hg_ hnew_; clear hg_ hnew_; (first | rw [← Ny419.out] at ho3 | (simp only [Int.reduceToNat] at ho3; rw [← Ny419.out] at ho3)); have HO421 := jA.mk (Kd.jN ho3 (jC (bb_ HB))); replace HB := bs_ HB hb; clear hb ho3))
 go_loopg [3, 4] k (fun kq v3 v4 w' => ∃ (x3_1 : List Int) (x4_1 : Int), v4 = .int .i64 x4_1 ∧ jA (jG.l0 kq l0 x3_1 x4_1 = some r) ∧ jA (kq ≤ k) ∧ jA (Kd.R (Kd.int .u64) 22 w' w.heap.size (fun _ => True) v3 x3_1) ∧ jA (Below w.heap.size w w'))
 case atStart => exact ⟨(y419), (0), sd_, H', ⟨Nat.le_refl _⟩, ⟨(rR_ HO421)⟩, ⟨(bb_ HB)⟩⟩
 case round =>
  clear H'
  try clear p2
  obtain ⟨x3_1, x4_1, rfl, HA, HK1, HO_3, HB⟩ := hrel
  cases gk with
  | zero => exact absurd HA.out (by simp [jG.l0])
  | succ k1 =>
   have H := HA.out
   clear HA
   simp only [jG.l0] at H
   by_cases c4 : x4_1 < (l0.length : Int)
   ·
    rw [if_pos c4] at H
    have c4b0 := decide_eq_true c4
    clear c4
    by_cases c5 : 0 ≤ x4_1
    ·
     rw [if_pos c5] at H
     have c5b0 := decide_eq_true c5
     clear c5
     obtain ⟨ji6, hji6⟩ : ∃ j_ : Int, (Int.tmod (rd l0 x4_1) 4294967296) = j_ := ⟨_, rfl⟩
     replace H : ((some (([ji6, IntKind.u64.wrap (Int.tdiv (rd l0 x4_1) 4294967296)] : List Int) : List Int)).bind fun y424 => (if x3_1.length + y424.length < 17592186044416 then (jG.l0 k1 l0 (x3_1 ++ y424) (wrap64 (x4_1 + 1))) else (none))) = some r := by first | (rw [hji6] at H; exact H) | (simp only [hji6] at H ⊢; exact H)
     obtain ⟨y424, hy424⟩ : ∃ y_ : List Int, y_ = (([ji6, IntKind.u64.wrap (Int.tdiv (rd l0 x4_1) 4294967296)] : List Int)) := ⟨_, rfl⟩
     replace H : (if x3_1.length + y424.length < 17592186044416 then (jG.l0 k1 l0 (x3_1 ++ y424) (wrap64 (x4_1 + 1))) else (none)) = some r := by first | (rw [hy424]; with_reducible exact H) | (have H2_ := (Option.bind_some _ _).symm.trans H; rw [hy424]; with_reducible exact H2_) | (with_reducible exact hs_ H) | with_reducible exact H | (rw [hy424]; exact H) | exact H
     have Ny424 := jA.mk hy424
     clear hy424
     by_cases c7 : x3_1.length + y424.length < 17592186044416
     ·
      rw [if_pos c7] at H
      have LMc7 := jA.mk c7
      clear c7
      obtain ⟨y427, hy427⟩ : ∃ y_ : List Int, y_ = (x3_1 ++ y424) := ⟨_, rfl⟩
      replace H : (jG.l0 k1 l0 y427 (wrap64 (x4_1 + 1))) = some r := by first | (rw [hy427]; with_reducible exact H) | (have H2_ := (Option.bind_some _ _).symm.trans H; rw [hy427]; with_reducible exact H2_) | (with_reducible exact hs_ H) | with_reducible exact H | (rw [hy427]; exact H) | exact H
      have Ny427 := jA.mk hy427
      clear hy427
      have H' := jA.mk H
      clear H
      try go_wp2
      have n0_ := jA.mk (Kd.zZ HO_3.out)
      have n1_ := jA.mk (zY HB.out)
      clear HO_3
      clear HB
      have HO_3 := n0_
      have HB := n1_
      clear n0_ n1_
      have p422 : 0 ≤ (x4_1 : Int) := of_decide_eq_true am_
      have q422 : x4_1 < (l0.length : Int) := of_decide_eq_true am_
      obtain ⟨ad422, e422, hx422_0⟩ := Kd.vw HR0.out x4_1 p422 q422
      have hw422_0 := hx422_0
      cases e422
      replace hx422_0 := (HB.out.cell (World.block_lt_of_cell? w _ hx422_0)).trans hx422_0
      replace p422 := eq_true p422
      replace q422 := eq_true q422
      have p423 : 0 ≤ (x4_1 : Int) := of_decide_eq_true am_
      have q423 : x4_1 < (l0.length : Int) := of_decide_eq_true am_
      obtain ⟨ad423, e423, hx423_0⟩ := Kd.vw HR0.out x4_1 p423 q423
      have hw423_0 := hx423_0
      obtain rfl : ad422 = ad423 := (by injection e423)
      replace hx423_0 := (HB.out.cell (World.block_lt_of_cell? w _ hx423_0)).trans hx423_0
      replace p423 := eq_true p423
      replace q423 := eq_true q423
      refine jAU (n := 14) (S := fun w' => w'.cell? (ad422.add (x4_1).toNat) = some (.int .u64 (rd l0 x4_1)) ∧ w'.cell? (ad422.add (x4_1).toNat) = some (.int .u64 (rd l0 x4_1))) (ds := []) #[false, false, false, false, false, false, false, false, false, false, false, false, false, false] kr_ rfl rfl ⟨((HB.out.cell (World.block_lt_of_cell? w _ hw422_0)).trans hw422_0), ((HB.out.cell (World.block_lt_of_cell? w _ hw423_0)).trans hw423_0)⟩ (fun hHeld => ?_); refine qc jG.tab5 jG.jIt (fun HT_ HW_ => ?_)
      generalize wr.drew = w8 at HO_3 HB hx422_0 hx423_0 hHeld ⊢
      refine pu_ 0 (some 12) (ba_ 14 1) (jd HT_.out kr_) ?_
      refine pu_ 1 (some 13) (ba_ 14 3) (jd HT_.out kr_) ?_
      refine pu_ 2 (some 14) (ba_ 14 7) (jd HT_.out kr_) ?_
      refine pu_ 3 (some 15) (ba_ 14 15) (jd HT_.out kr_) ?_
      refine pu_ 6 (some 18) (ba_ 14 79) (jd HT_.out kr_) ?_
      refine pu_ 7 (some 19) (ba_ 14 207) (jd HT_.out kr_) ?_
      refine pu_ 8 (some 20) (ba_ 14 463) (jd HT_.out kr_) ?_
      refine tk2_ 4 (some 16) (ba_ 14 479) (jv HT_.out HW_.out kr_) hHeld ?_
      refine pu_ 5 (some 17) (ba_ 14 511) (jd HT_.out kr_) ?_
      refine tk2_ 9 (some 21) (ba_ 14 1023) (jv HT_.out HW_.out kr_) hHeld ?_
      refine pu_ 10 (some 22) (ba_ 14 2047) (jd HT_.out kr_) ?_
      refine one_ (i := 11) (N := some 23) (ba_ 14 4095) rfl rfl (vv HT_.out kr_) (by decide) (fun K hK => ?_)
      refine Kd.qj (Kd.int .u64) _ 22 ?hg (N := 23) ?hd (xs := ([ji6, IntKind.u64.wrap (Int.tdiv (rd l0 x4_1) 4294967296)] : List Int)) (inner := [.int .u64 ji6, .int .u64 (IntKind.u64.wrap (Int.tdiv (rd l0 x4_1) 4294967296))]) (ok := fun _ => True) (okp := fun _ => True) ?hr ?hp (fun _ hk => hk) trivial (Below.refl _ _) (Nat.le_refl _) (by simp) ?_; (case hd => rfl); (case hg => rfl); (case hr => exact gs_); (case hp => exact (Reps.one (show Kd.M (Kd.int .u64) _ _ _ ji6 [.int .u64 ji6] from rfl) (Reps.one (show Kd.M (Kd.int .u64) _ _ _ (IntKind.u64.wrap (Int.tdiv (rd l0 x4_1) 4294967296)) [.int .u64 (IntKind.u64.wrap (Int.tdiv (rd l0 x4_1) 4294967296))] from rfl) (Reps.none _ _))))
      intro v425 w9 ho10 hb hg_ hnew_
      clear hg_ hnew_
      (first | rw [← Ny424.out] at ho10 | (simp only [Int.reduceToNat] at ho10; rw [← Ny424.out] at ho10))
      have n0_ := re_ HO_3 ho10 hb
      have n1_ := jA.mk (Kd.jN (Kd.jL ho10 (Kd.R_lt (rR_ HO_3))) (jC (bb_ HB)))
      have n2_ := bs_ HB hb
      clear HO_3
      clear HB
      have HO_3 := n0_
      have HO426 := n1_
      have HB := n2_
      clear n0_ n1_ n2_
      clear hb ho10
      obtain ⟨Ao12, co12, eo12⟩ := Kd.jV HO426.out
      (first | subst eo12 | (injection eo12 with f1_ f2_ f3_; have f4_ := f1_.symm; have f5_ := f3_.symm; clear f1_ f2_ f3_; subst f4_; subst f5_))
      refine hK.out _ _ ⟨((HB.out.cell (World.block_lt_of_cell? w _ hw422_0)).trans hw422_0), ((HB.out.cell (World.block_lt_of_cell? w _ hw423_0)).trans hw423_0)⟩ (fun hHeld => ?_)
      clear hK K
      refine ns_ 23 ?_
      refine one_ (i := 12) (N := some 24) (ba_ 14 8191) rfl rfl (vv HT_.out kr_) (by decide) (fun K hK => ?_)
      refine Kd.jBn (Kd.int .u64) (w0 := w) w.heap.size (by rfl) (.tmp 12) (.tmp 23) 35 22 (.int .u64 0) 8 rfl Try.underlying35 qI rfl (by decide) (by omega) u3 x3_1 y424 _ _ _ (fun k_ => some k_ ≠ (.slice Ao12 y424.length co12 : Value).ownBlock) (fun _ => False) rfl rfl ?aO ?aR (fun _ _ h => h) (fun _ h => h.elim) ?aF ?aB ?aS ?aL ?_
      (case aR => exact cc_ (Kd.jE HO426.out).2.2)
      (case aB => exact (bb_ HB))
      (case aF => exact (fun k_ hk => Kd.fresh' (Kd.R_lt (rR_ HO426)) k_ hk))
      (case aO => exact (by refine pR_ ?_; exact Kd.jT HO_3.out (fun _ hk => hk.2)))
      (case aS => exact (jC (bb_ HB)))
      (case aL => have := LMc7.out; omega)
      intro v428 w11 ho hb hg hat
      rw [← Ny427.out] at ho
      have n0_ := jA.mk (Kd.zW (ok := (fun _ => True)) (rR_ HO426) hg hat)
      have n1_ := jA.mk (hb)
      have n2_ := jA.mk (ho)
      clear HO426
      clear HB
      clear HO_3
      have HO426 := n0_
      have HB := n1_
      have HO429 := n2_
      clear n0_ n1_ n2_
      clear ho hb hg hat
      refine hK.out _ _ ⟨((HB.out.cell (World.block_lt_of_cell? w _ hw422_0)).trans hw422_0), ((HB.out.cell (World.block_lt_of_cell? w _ hw423_0)).trans hw423_0)⟩ (fun hHeld => ?_)
      clear hK K
      refine ns_ 24 ?_
      refine pu_ 13 (some 3) (ba_ 14 16383) (jd HT_.out kr_) ?_
      refine jAv (jAn HT_.out kr_) ?_
      try go_wp2
      go_roundg k1
      case measure => have := HK1.out; omega
      case rel => exact ⟨(y427), (wrap64 (x4_1 + 1)), sd_, H', ⟨by have := HK1.out; omega⟩, ⟨by (with_reducible repeat (first | apply Kd.zM | apply Kd.zT | apply Kd.zZ)); exact Kd.jT HO429.out (fun _ hk => trivial)⟩, ⟨(bb_ HB)⟩⟩
     ·
      rw [if_neg c7] at H
      exact absurd H (by simp)
    ·
     rw [if_neg c5] at H
     exact absurd H (by simp)
   ·
    rw [if_neg c4] at H
    have c4b0 := decide_eq_false c4
    clear c4
    obtain rfl := Option.some.inj H
    go_wp2
    go_ret
    exact ⟨_, ew_, (rR_ HO_3), (bb_ HB)⟩
def jh.f (l0 : List Int) (a1 : Int) : Option (Int) := if a1 < (l0.length : Int) then (if 0 ≤ a1 then (some (rd l0 a1)) else (none)) else (some 0)
theorem jh.calls (A0 : Option Addr) (c0 : Nat) (l0 : List Int) (a1 : Int) (r : Int) (w : World) (hr0 : Kd.C (Kd.int .u64) w A0 l0.length l0) (hc0 : l0.length ≤ c0) (h : jh.f l0 a1 = some r) :
  Calls Try.prog 69 #[.slice A0 l0.length c0, .int .i64 a1] w fun e w' => e = .returned (.int .u64 r) ∧ za w w' := by
 have HR0 := jA.mk hr0
 have HC0 := jA.mk hc0
 clear hr0 hc0
 have H : (if a1 < (l0.length : Int) then (if 0 ≤ a1 then (some (rd l0 a1)) else (none)) else (some 0)) = some r := h
 clear h
 by_cases c3 : a1 < (l0.length : Int)
 ·
  rw [if_pos c3] at H
  have c3b0 := decide_eq_true c3
  clear c3
  by_cases c4 : 0 ≤ a1
  ·
   rw [if_pos c4] at H
   have c4b0 := decide_eq_true c4
   clear c4
   obtain rfl := Option.some.inj H
   have p430 : 0 ≤ (a1 : Int) := of_decide_eq_true am_
   have q430 : a1 < (l0.length : Int) := of_decide_eq_true am_
   obtain ⟨ad430, e430, hx430_0⟩ := Kd.vw HR0.out a1 p430 q430
   cases e430
   replace p430 := eq_true p430
   replace q430 := eq_true q430
   go_enter Try.func69, Try.ntmps69
   go_wp2
   go_ret
   exact ⟨by first | rfl | (simp; done) | (simp [*]; done), by repeat (first | exact za.refl _ | apply za.step)⟩
  ·
   rw [if_neg c4] at H
   exact absurd H (by simp)
 ·
  rw [if_neg c3] at H
  have c3b0 := decide_eq_false c3
  clear c3
  obtain rfl := Option.some.inj H
  go_enter Try.func69, Try.ntmps69
  go_wp2
  go_ret
  exact ⟨by first | rfl | (simp; done) | (simp [*]; done), by repeat (first | exact za.refl _ | apply za.step)⟩
def jM.l0 : Nat → List Int → List Int → Int → Option (List Int)
 | 0, _, _, _ => none
 | k + 1, x0, x3, x4 => if x4 < (x0.length : Int) then (if 0 ≤ x4 then (if (wrap64 (x4 + 1)) < (x0.length : Int) then (if 0 ≤ (wrap64 (x4 + 1)) then (if x3.length < 17592186044416 then (jM.l0 k x0 (x3 ++ [IntKind.u64.wrap ((rd x0 x4) + (IntKind.u64.wrap ((rd x0 (wrap64 (x4 + 1))) * 4294967296)))]) (wrap64 (x4 + 2))) else (none)) else (none)) else (if x3.length < 17592186044416 then (jM.l0 k x0 (x3 ++ [rd x0 x4]) (wrap64 (x4 + 2))) else (none))) else (none)) else ((jW.f k x3).bind fun t442 => (some t442))
def jM.f (k : Nat) (l0 : List Int) : Option (List Int) := jM.l0 k l0 (([] : List Int)) 0
theorem jM.vS : ∀ k, (∀ y0 y1 y2, LeO (jM.l0 k y0 y1 y2) (jM.l0 (k + 1) y0 y1 y2))
 | 0 => fun _ _ _ r h => by simp [jM.l0] at h
 | k + 1 => by
  have ih0 := jM.vS k
  ·
   intro y0 y1 y2
   unfold jM.l0
   repeat' first
   | (with_reducible exact ih0 _ _ _)
   | (with_reducible exact jW.mono _ _)
   | (with_reducible exact LeO.refl _)
   | (with_reducible exact LeO.none _)
   | (with_reducible refine LeO.ite ?_ ?_)
   | (with_reducible refine LeO.bind ?_ (fun _ => ?_))
theorem jM.mono : ∀ a0 k, LeO (jM.f k a0) (jM.f (k + 1) a0) := by
 intro a0 k
 have ih0 := jM.vS k
 unfold jM.f
 repeat' first
   | (with_reducible exact ih0 _ _ _)
   | (with_reducible exact jW.mono _ _)
   | (with_reducible exact LeO.refl _)
   | (with_reducible exact LeO.none _)
   | (with_reducible refine LeO.ite ?_ ?_)
   | (with_reducible refine LeO.bind ?_ (fun _ => ?_))
theorem jM.calls (k : Nat) (A0 : Option Addr) (c0 : Nat) (l0 : List Int) (r : List Int) (w : World) (hr0 : Kd.C (Kd.int .u64) w A0 l0.length l0) (hc0 : l0.length ≤ c0) (h : jM.f k l0 = some r) :
  Calls Try.prog 70 #[.slice A0 l0.length c0] w fun e w' => ∃ v0_ : Value, e = .returned (v0_) ∧ Kd.R (Kd.int .u64) 22 w' w.heap.size (fun _ => True) v0_ r ∧ Below w.heap.size w w' := by
 have HR0 := jA.mk hr0
 have HC0 := jA.mk hc0
 clear hr0 hc0
 have HB := jA.mk (Below.refl w.heap.size w)
 have H : (jM.l0 k l0 (([] : List Int)) 0) = some r := h
 clear h
 obtain ⟨y431, hy431⟩ : ∃ y_ : List Int, y_ = (([] : List Int)) := ⟨_, rfl⟩
 replace H : (jM.l0 k l0 y431 0) = some r := by first | (rw [hy431]; with_reducible exact H) | (have H2_ := (Option.bind_some _ _).symm.trans H; rw [hy431]; with_reducible exact H2_) | (with_reducible exact hs_ H) | with_reducible exact H | (rw [hy431]; exact H) | exact H
 have Ny431 := jA.mk hy431
 clear hy431
 have H' := jA.mk H
 clear H
 go_enter Try.func70, Try.ntmps70
 go_wp2_with (first | ((with_reducible refine jX (N := 6) rfl ?_); refine Kd.jAC (Kd.int .u64) _ 22 ?hg (N := 6) ?hd (xs := ([] : List Int)) (inner := []) (ok := fun _ => True) (okp := fun _ => True) ?hr ?hp (fun _ hk => hk) trivial (Below.refl _ _) (Nat.le_refl _) (by simp) ?_; (case hd => rfl); (case hg => rfl); (case hr => exact gs_); (case hp => exact (Reps.none _ _)); intro v432 w2 ho3 hb hg_ hnew_; clear hg_ hnew_; (first | rw [← Ny431.out] at ho3 | (simp only [Int.reduceToNat] at ho3; rw [← Ny431.out] at ho3)); have HO433 := jA.mk (Kd.jN ho3 (jC (bb_ HB))); replace HB := bs_ HB hb; clear hb ho3))
 go_loopg [3, 4] k (fun kq v3 v4 w' => ∃ (x3_1 : List Int) (x4_1 : Int), v4 = .int .i64 x4_1 ∧ jA (jM.l0 kq l0 x3_1 x4_1 = some r) ∧ jA (kq ≤ k) ∧ jA (Kd.R (Kd.int .u64) 22 w' w.heap.size (fun _ => True) v3 x3_1) ∧ jA (Below w.heap.size w w'))
 case atStart => exact ⟨(y431), (0), sd_, H', ⟨Nat.le_refl _⟩, ⟨(rR_ HO433)⟩, ⟨(bb_ HB)⟩⟩
 case round =>
  clear H'
  try clear p2
  obtain ⟨x3_1, x4_1, rfl, HA, HK1, HO_3, HB⟩ := hrel
  cases gk with
  | zero => exact absurd HA.out (by simp [jM.l0])
  | succ k1 =>
   have H := HA.out
   clear HA
   simp only [jM.l0] at H
   by_cases c4 : x4_1 < (l0.length : Int)
   ·
    rw [if_pos c4] at H
    have c4b0 := decide_eq_true c4
    clear c4
    by_cases c5 : 0 ≤ x4_1
    ·
     rw [if_pos c5] at H
     have c5b0 := decide_eq_true c5
     clear c5
     by_cases c6 : (wrap64 (x4_1 + 1)) < (l0.length : Int)
     ·
      rw [if_pos c6] at H
      have c6b0 := decide_eq_true c6
      clear c6
      obtain ⟨ji7, hji7⟩ : ∃ j_ : Int, (wrap64 (x4_1 + 1)) = j_ := ⟨_, rfl⟩
      replace H : (if 0 ≤ (ji7) then (if x3_1.length < 17592186044416 then (jM.l0 k1 l0 (x3_1 ++ [IntKind.u64.wrap ((rd l0 x4_1) + (IntKind.u64.wrap ((rd l0 (ji7)) * 4294967296)))]) (wrap64 (x4_1 + 2))) else (none)) else (none)) = some r := by first | (rw [hji7] at H; exact H) | (simp only [hji7] at H ⊢; exact H)
      (try rw [hji7] at c6b0)
      have hji7w : (IntKind.i64.wrap (x4_1 + 1)) = ji7 := (qZ _).trans hji7
      by_cases c8 : 0 ≤ (ji7)
      ·
       rw [if_pos c8] at H
       have c8b0 := decide_eq_true c8
       clear c8
       by_cases c9 : x3_1.length < 17592186044416
       ·
        rw [if_pos c9] at H
        have LMc9 := jA.mk c9
        clear c9
        obtain ⟨y436, hy436⟩ : ∃ y_ : List Int, y_ = (x3_1 ++ [IntKind.u64.wrap ((rd l0 x4_1) + (IntKind.u64.wrap ((rd l0 (ji7)) * 4294967296)))]) := ⟨_, rfl⟩
        replace H : (jM.l0 k1 l0 y436 (wrap64 (x4_1 + 2))) = some r := by first | (rw [hy436]; with_reducible exact H) | (have H2_ := (Option.bind_some _ _).symm.trans H; rw [hy436]; with_reducible exact H2_) | (with_reducible exact hs_ H) | with_reducible exact H | (rw [hy436]; exact H) | exact H
        have Ny436 := jA.mk hy436
        clear hy436
        have H' := jA.mk H
        clear H
        have p434 : 0 ≤ (x4_1 : Int) := of_decide_eq_true am_
        have q434 : x4_1 < (l0.length : Int) := of_decide_eq_true am_
        obtain ⟨ad434, e434, hx434_0⟩ := Kd.vw HR0.out x4_1 p434 q434
        cases e434
        replace hx434_0 := (HB.out.cell (World.block_lt_of_cell? w _ hx434_0)).trans hx434_0
        replace p434 := eq_true p434
        replace q434 := eq_true q434
        have p435 : 0 ≤ ((ji7) : Int) := of_decide_eq_true am_
        have q435 : (ji7) < (l0.length : Int) := of_decide_eq_true am_
        obtain ⟨ad435, e435, hx435_0⟩ := Kd.vw HR0.out (ji7) p435 q435
        obtain rfl : ad434 = ad435 := (by injection e435)
        replace hx435_0 := (HB.out.cell (World.block_lt_of_cell? w _ hx435_0)).trans hx435_0
        replace p435 := eq_true p435
        replace q435 := eq_true q435
        go_wp2_with (first | ((with_reducible refine vW (b := .append) (xs := #[.tmp 30, .tmp 32]) rfl ?_); at_builtin; refine Kd.qb (Kd.int .u64) (w0 := w) w.heap.size rfl (.tmp 30) (.tmp 32) 35 22 (.int .u64 0) 8 rfl Try.underlying35 qI rfl (by decide) (by omega) u3 x3_1 (IntKind.u64.wrap ((rd l0 x4_1) + (IntKind.u64.wrap ((rd l0 (ji7)) * 4294967296)))) [.int .u64 (IntKind.u64.wrap ((rd l0 x4_1) + (IntKind.u64.wrap ((rd l0 (ji7)) * 4294967296))))] (fun _ => True) (fun _ => False) rfl rfl ?aP (fun _ hk => hk.elim) ?aF ?aO ?aB ?aS ?aL ?_; (case aP => exact rfl); (case aB => exact (bb_ HB)); (case aF => exact (fun _ _ => trivial)); (case aO => exact (rR_ HO_3)); (case aS => exact (jC (bb_ HB))); (case aL => have := LMc9.out; omega); intro v437 w10 ho hb hg hat; rw [← Ny436.out] at ho; replace HB := jA.mk (hb); have HO438 := jA.mk (ho); clear HO_3 ho hb hg hat))
        go_roundg k1
        case measure => have := HK1.out; omega
        case rel => exact ⟨(y436), (wrap64 (x4_1 + 2)), sd_, H', ⟨by have := HK1.out; omega⟩, ⟨(rR_ HO438)⟩, ⟨(bb_ HB)⟩⟩
       ·
        rw [if_neg c9] at H
        exact absurd H (by simp)
      ·
       rw [if_neg c8] at H
       exact absurd H (by simp)
     ·
      rw [if_neg c6] at H
      have c6b0 := decide_eq_false c6
      clear c6
      by_cases c11 : x3_1.length < 17592186044416
      ·
       rw [if_pos c11] at H
       have LMc11 := jA.mk c11
       clear c11
       obtain ⟨y439, hy439⟩ : ∃ y_ : List Int, y_ = (x3_1 ++ [rd l0 x4_1]) := ⟨_, rfl⟩
       replace H : (jM.l0 k1 l0 y439 (wrap64 (x4_1 + 2))) = some r := by first | (rw [hy439]; with_reducible exact H) | (have H2_ := (Option.bind_some _ _).symm.trans H; rw [hy439]; with_reducible exact H2_) | (with_reducible exact hs_ H) | with_reducible exact H | (rw [hy439]; exact H) | exact H
       have Ny439 := jA.mk hy439
       clear hy439
       have H' := jA.mk H
       clear H
       have p434 : 0 ≤ (x4_1 : Int) := of_decide_eq_true am_
       have q434 : x4_1 < (l0.length : Int) := of_decide_eq_true am_
       obtain ⟨ad434, e434, hx434_0⟩ := Kd.vw HR0.out x4_1 p434 q434
       cases e434
       replace hx434_0 := (HB.out.cell (World.block_lt_of_cell? w _ hx434_0)).trans hx434_0
       replace p434 := eq_true p434
       replace q434 := eq_true q434
       go_wp2_with (first | ((with_reducible refine vW (b := .append) (xs := #[.tmp 30, .tmp 32]) rfl ?_); at_builtin; refine Kd.qb (Kd.int .u64) (w0 := w) w.heap.size rfl (.tmp 30) (.tmp 32) 35 22 (.int .u64 0) 8 rfl Try.underlying35 qI rfl (by decide) (by omega) u3 x3_1 (rd l0 x4_1) [.int .u64 (rd l0 x4_1)] (fun _ => True) (fun _ => False) rfl rfl ?aP (fun _ hk => hk.elim) ?aF ?aO ?aB ?aS ?aL ?_; (case aP => exact rfl); (case aB => exact (bb_ HB)); (case aF => exact (fun _ _ => trivial)); (case aO => exact (rR_ HO_3)); (case aS => exact (jC (bb_ HB))); (case aL => have := LMc11.out; omega); intro v440 w12 ho hb hg hat; rw [← Ny439.out] at ho; replace HB := jA.mk (hb); have HO441 := jA.mk (ho); clear HO_3 ho hb hg hat))
       go_roundg k1
       case measure => have := HK1.out; omega
       case rel => exact ⟨(y439), (wrap64 (x4_1 + 2)), sd_, H', ⟨by have := HK1.out; omega⟩, ⟨(rR_ HO441)⟩, ⟨(bb_ HB)⟩⟩
      ·
       rw [if_neg c11] at H
       exact absurd H (by simp)
    ·
     rw [if_neg c5] at H
     exact absurd H (by simp)
   ·
    rw [if_neg c4] at H
    have c4b0 := decide_eq_false c4
    clear c4
    replace H := ob_ H
    obtain ⟨t442, A130, H⟩ := H
    replace H : (some t442) = some r := H
    have A13 := jA.mk A130
    clear A130
    obtain rfl := Option.some.inj H
    obtain ⟨Ao14, co14, eo14⟩ := Kd.jV HO_3.out
    subst eo14
    go_wp2_with (first | ((with_reducible refine jH (f := 25) rfl ?_); refine gl_ (some 35) Try.func25 #[.slice Ao14 x3_1.length co14] ?_; (with_reducible refine (jW.calls k1 _ _ x3_1 t442 _ ?side1 ?side2 A13.out).mono ?_); (case side1 => exact cc_ (Kd.jE HO_3.out).2.2); (case side2 => exact (Kd.jE HO_3.out).2.1); rintro e w15 ⟨v443, rfl, ho0, hb⟩; refine ⟨_, rfl, ?_⟩; have HO444 := jA.mk (Kd.jN (Kd.jL ho0 (Kd.R_lt (rR_ HO_3))) (jC (bb_ HB))); replace HO_3 := re_ HO_3 ho0 hb; replace HB := bs_ HB hb))
    go_ret
    exact ⟨_, ew_, by refine pR_ ?_; exact Kd.jT HO444.out (fun _ hk => trivial), (bb_ HB)⟩
end Go.Proofs.Ytijgeonhbmgikaa.PORatioField
