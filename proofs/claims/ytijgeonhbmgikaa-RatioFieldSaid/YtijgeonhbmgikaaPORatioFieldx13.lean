-- printed (pr.py)
import Derived.Test.YtijgeonhbmgikaaPORatioFieldx12
namespace Go.Proofs.Ytijgeonhbmgikaa.PORatioField
open Go.RowKit Go.Proofs.YtijgeonhbmgikaaN Go.Proofs.YtijgeonhbmgikaaW.PrintWords Go.Proofs.YtijgeonhbmgikaaW.PrintLast Go.Proofs.YtijgeonhbmgikaaW.PrintMore
attribute [local go_sem] qH qF qg qd zq zo qG qE
set_option maxHeartbeats 8000000
set_option maxRecDepth 100000
set_option linter.unusedVariables false
set_option linter.unusedSimpArgs false
def jc.l0 : Nat → List Int → List Int → List Int → Int → Int → Option (List Int × Bool)
 | 0, _, _, _, _, _ => none
 | k + 1, x6, x7, x8, x9, x10 => if x10 < (x6.length : Int) then (if 0 ≤ x10 then ((jh.f x7 x10).bind fun t507 => (if x8.length < 17592186044416 then (jc.l0 k x6 x7 (x8 ++ [Int.tmod (IntKind.u64.wrap ((IntKind.u64.wrap ((IntKind.u64.wrap ((rd x6 x10) + 4294967296)) - t507)) - x9)) 4294967296]) (IntKind.u64.wrap (1 - (IntKind.u64.wrap (Int.tdiv (IntKind.u64.wrap ((IntKind.u64.wrap ((IntKind.u64.wrap ((rd x6 x10) + 4294967296)) - t507)) - x9)) 4294967296)))) (wrap64 (x10 + 1))) else (none))) else (none)) else ((jM.f k x8).bind fun t511 => (some (t511, true)))
def jc.f (k : Nat) (l0 : List Int) (l1 : List Int) : Option (List Int × Bool) := (jR.f k l0 l1).bind fun t496 => (if t496 < 0 then (some (([] : List Int), false)) else ((jG.f k l0).bind fun t497 => ((jG.f k l1).bind fun t500 => (jc.l0 k t497 t500 (([] : List Int)) 0 0))))
theorem jc.vS : ∀ k, (∀ y0 y1 y2 y3 y4, LeO (jc.l0 k y0 y1 y2 y3 y4) (jc.l0 (k + 1) y0 y1 y2 y3 y4))
 | 0 => fun _ _ _ _ _ r h => by simp [jc.l0] at h
 | k + 1 => by
  have ih0 := jc.vS k
  ·
   intro y0 y1 y2 y3 y4
   unfold jc.l0
   repeat' first
   | (with_reducible exact ih0 _ _ _ _ _)
   | (with_reducible exact jR.mono _ _ _)
   | (with_reducible exact jG.mono _ _)
   | (with_reducible exact jM.mono _ _)
   | (with_reducible exact LeO.refl _)
   | (with_reducible exact LeO.none _)
   | (with_reducible refine LeO.ite ?_ ?_)
   | (with_reducible refine LeO.bind ?_ (fun _ => ?_))
theorem jc.mono : ∀ a0 a1 k, LeO (jc.f k a0 a1) (jc.f (k + 1) a0 a1) := by
 intro a0 a1 k
 have ih0 := jc.vS k
 unfold jc.f
 repeat' first
   | (with_reducible exact ih0 _ _ _ _ _)
   | (with_reducible exact jR.mono _ _ _)
   | (with_reducible exact jG.mono _ _)
   | (with_reducible exact jM.mono _ _)
   | (with_reducible exact LeO.refl _)
   | (with_reducible exact LeO.none _)
   | (with_reducible refine LeO.ite ?_ ?_)
   | (with_reducible refine LeO.bind ?_ (fun _ => ?_))
theorem jc.calls (k : Nat) (A0 : Option Addr) (c0 : Nat) (l0 : List Int) (A1 : Option Addr) (c1 : Nat) (l1 : List Int) (r1 : List Int) (r2 : Bool) (w : World) (hr0 : Kd.C (Kd.int .u64) w A0 l0.length l0) (hc0 : l0.length ≤ c0) (hr1 : Kd.C (Kd.int .u64) w A1 l1.length l1) (hc1 : l1.length ≤ c1) (h : jc.f k l0 l1 = some (r1, r2)) :
  Calls Try.prog 105 #[.slice A0 l0.length c0, .slice A1 l1.length c1] w fun e w' => ∃ v0_ : Value, e = .returned (.tuple #[v0_, .bool r2]) ∧ Kd.R (Kd.int .u64) 22 w' w.heap.size (fun _ => True) v0_ r1 ∧ Below w.heap.size w w' := by
 have HR0 := jA.mk hr0
 have HC0 := jA.mk hc0
 clear hr0 hc0
 have HR1 := jA.mk hr1
 have HC1 := jA.mk hc1
 clear hr1 hc1
 have HB := jA.mk (Below.refl w.heap.size w)
 have H : ((jR.f k l0 l1).bind fun t496 => (if t496 < 0 then (some (([] : List Int), false)) else ((jG.f k l0).bind fun t497 => ((jG.f k l1).bind fun t500 => (jc.l0 k t497 t500 (([] : List Int)) 0 0))))) = some (r1, r2) := h
 clear h
 obtain ⟨t496, A3, H⟩ := oc_ H
 try dsimp only at H
 by_cases c4 : t496 < 0
 ·
  rw [if_pos c4] at H
  have c4b0 := decide_eq_true c4
  clear c4
  simp only [Option.some.injEq, Prod.mk.injEq] at H
  obtain ⟨rfl, rfl⟩ := H
  go_enter Try.func105, Try.ntmps105
  go_wp2_with (first | (go_at_call 103; (with_reducible refine (jR.calls k _ _ l0 _ _ l1 t496 _ ?side1 ?side2 ?side3 ?side4 A3.out).mono ?_); (case side1 => exact cc_ HR0.out); (case side2 => exact HC0.out); (case side3 => exact cc_ HR1.out); (case side4 => exact HC1.out); rintro e w5 ⟨rfl, hb⟩; replace HB := bs_ HB hb))
  repeat (go_quiet (first | (go_at_call 103; (with_reducible refine (jR.calls k _ _ l0 _ _ l1 t496 _ ?side1 ?side2 ?side3 ?side4 A3.out).mono ?_); (case side1 => exact cc_ HR0.out); (case side2 => exact HC0.out); (case side3 => exact cc_ HR1.out); (case side4 => exact HC1.out); rintro e w5 ⟨rfl, hb⟩; replace HB := bs_ HB hb)); try go_wp2_with (first | (go_at_call 103; (with_reducible refine (jR.calls k _ _ l0 _ _ l1 t496 _ ?side1 ?side2 ?side3 ?side4 A3.out).mono ?_); (case side1 => exact cc_ HR0.out); (case side2 => exact HC0.out); (case side3 => exact cc_ HR1.out); (case side4 => exact HC1.out); rintro e w5 ⟨rfl, hb⟩; replace HB := bs_ HB hb)))
  go_ret2
  exact ⟨_, ew_, nl_, (bb_ HB)⟩
 ·
  rw [if_neg c4] at H
  have c4b0 := decide_eq_false c4
  clear c4
  obtain ⟨t497, A6, H⟩ := oc_ H
  try dsimp only at H
  obtain ⟨t500, A7, H⟩ := oc_ H
  try dsimp only at H
  obtain ⟨y503, hy503⟩ : ∃ y_ : List Int, y_ = (([] : List Int)) := ⟨_, rfl⟩
  replace H : (jc.l0 k t497 t500 y503 0 0) = some (r1, r2) := by first | (rw [hy503]; with_reducible exact H) | (have H2_ := (Option.bind_some _ _).symm.trans H; rw [hy503]; with_reducible exact H2_) | (with_reducible exact hs_ H) | with_reducible exact H | (rw [hy503]; exact H) | exact H
  have Ny503 := jA.mk hy503
  clear hy503
  have H' := jA.mk H
  clear H
  go_enter Try.func105, Try.ntmps105
  go_wp2_with (first | (go_at_call 103; (with_reducible refine (jR.calls k _ _ l0 _ _ l1 t496 _ ?side1 ?side2 ?side3 ?side4 A3.out).mono ?_); (case side1 => exact cc_ HR0.out); (case side2 => exact HC0.out); (case side3 => exact cc_ HR1.out); (case side4 => exact HC1.out); rintro e w8 ⟨rfl, hb⟩; replace HB := bs_ HB hb) | (go_at_call 68; (with_reducible refine (jG.calls k _ _ l0 t497 _ ?side1 ?side2 A6.out).mono ?_); (case side1 => exact cb_ HR0 HB); (case side2 => exact HC0.out); rintro e w9 ⟨v498, rfl, ho0, hb⟩; have HO499 := jA.mk (Kd.jN ho0 (jC (bb_ HB))); replace HB := bs_ HB hb) | (go_at_call 68; (with_reducible refine (jG.calls k _ _ l1 t500 _ ?side1 ?side2 A7.out).mono ?_); (case side1 => exact cb_ HR1 HB); (case side2 => exact HC1.out); rintro e w10 ⟨v501, rfl, ho0, hb⟩; have HO502 := jA.mk (Kd.jN (Kd.jL ho0 (Kd.R_lt (rR_ HO499))) (jC (bb_ HB))); replace HO499 := re_ HO499 ho0 hb; replace HB := bs_ HB hb) | ((with_reducible refine jX (N := 20) rfl ?_); refine Kd.jAC (Kd.int .u64) _ 22 ?hg (N := 20) ?hd (xs := ([] : List Int)) (inner := []) (ok := fun _ => True) (okp := fun _ => True) ?hr ?hp (fun _ hk => hk) trivial (Below.refl _ _) (Nat.le_refl _) (by simp) ?_; (case hd => rfl); (case hg => rfl); (case hr => exact gs_); (case hp => exact (Reps.none _ _)); intro v504 w11 ho12 hb hg_ hnew_; clear hg_ hnew_; (first | rw [← Ny503.out] at ho12 | (simp only [Int.reduceToNat] at ho12; rw [← Ny503.out] at ho12)); have HO505 := jA.mk (Kd.jN (Kd.jL (Kd.jL ho12 (Kd.R_lt (rR_ HO499))) (Kd.R_lt (rR_ HO502))) (jC (bb_ HB))); replace HO499 := re_ HO499 ho12 hb; replace HO502 := re_ HO502 ho12 hb; replace HB := bs_ HB hb; clear hb ho12))
  repeat (go_quiet (first | (go_at_call 103; (with_reducible refine (jR.calls k _ _ l0 _ _ l1 t496 _ ?side1 ?side2 ?side3 ?side4 A3.out).mono ?_); (case side1 => exact cc_ HR0.out); (case side2 => exact HC0.out); (case side3 => exact cc_ HR1.out); (case side4 => exact HC1.out); rintro e w8 ⟨rfl, hb⟩; replace HB := bs_ HB hb) | (go_at_call 68; (with_reducible refine (jG.calls k _ _ l0 t497 _ ?side1 ?side2 A6.out).mono ?_); (case side1 => exact cb_ HR0 HB); (case side2 => exact HC0.out); rintro e w9 ⟨v498, rfl, ho0, hb⟩; have HO499 := jA.mk (Kd.jN ho0 (jC (bb_ HB))); replace HB := bs_ HB hb) | (go_at_call 68; (with_reducible refine (jG.calls k _ _ l1 t500 _ ?side1 ?side2 A7.out).mono ?_); (case side1 => exact cb_ HR1 HB); (case side2 => exact HC1.out); rintro e w10 ⟨v501, rfl, ho0, hb⟩; have HO502 := jA.mk (Kd.jN (Kd.jL ho0 (Kd.R_lt (rR_ HO499))) (jC (bb_ HB))); replace HO499 := re_ HO499 ho0 hb; replace HB := bs_ HB hb) | ((with_reducible refine jX (N := 20) rfl ?_); refine Kd.jAC (Kd.int .u64) _ 22 ?hg (N := 20) ?hd (xs := ([] : List Int)) (inner := []) (ok := fun _ => True) (okp := fun _ => True) ?hr ?hp (fun _ hk => hk) trivial (Below.refl _ _) (Nat.le_refl _) (by simp) ?_; (case hd => rfl); (case hg => rfl); (case hr => exact gs_); (case hp => exact (Reps.none _ _)); intro v504 w11 ho12 hb hg_ hnew_; clear hg_ hnew_; (first | rw [← Ny503.out] at ho12 | (simp only [Int.reduceToNat] at ho12; rw [← Ny503.out] at ho12)); have HO505 := jA.mk (Kd.jN (Kd.jL (Kd.jL ho12 (Kd.R_lt (rR_ HO499))) (Kd.R_lt (rR_ HO502))) (jC (bb_ HB))); replace HO499 := re_ HO499 ho12 hb; replace HO502 := re_ HO502 ho12 hb; replace HB := bs_ HB hb; clear hb ho12)); try go_wp2_with (first | (go_at_call 103; (with_reducible refine (jR.calls k _ _ l0 _ _ l1 t496 _ ?side1 ?side2 ?side3 ?side4 A3.out).mono ?_); (case side1 => exact cc_ HR0.out); (case side2 => exact HC0.out); (case side3 => exact cc_ HR1.out); (case side4 => exact HC1.out); rintro e w8 ⟨rfl, hb⟩; replace HB := bs_ HB hb) | (go_at_call 68; (with_reducible refine (jG.calls k _ _ l0 t497 _ ?side1 ?side2 A6.out).mono ?_); (case side1 => exact cb_ HR0 HB); (case side2 => exact HC0.out); rintro e w9 ⟨v498, rfl, ho0, hb⟩; have HO499 := jA.mk (Kd.jN ho0 (jC (bb_ HB))); replace HB := bs_ HB hb) | (go_at_call 68; (with_reducible refine (jG.calls k _ _ l1 t500 _ ?side1 ?side2 A7.out).mono ?_); (case side1 => exact cb_ HR1 HB); (case side2 => exact HC1.out); rintro e w10 ⟨v501, rfl, ho0, hb⟩; have HO502 := jA.mk (Kd.jN (Kd.jL ho0 (Kd.R_lt (rR_ HO499))) (jC (bb_ HB))); replace HO499 := re_ HO499 ho0 hb; replace HB := bs_ HB hb) | ((with_reducible refine jX (N := 20) rfl ?_); refine Kd.jAC (Kd.int .u64) _ 22 ?hg (N := 20) ?hd (xs := ([] : List Int)) (inner := []) (ok := fun _ => True) (okp := fun _ => True) ?hr ?hp (fun _ hk => hk) trivial (Below.refl _ _) (Nat.le_refl _) (by simp) ?_; (case hd => rfl); (case hg => rfl); (case hr => exact gs_); (case hp => exact (Reps.none _ _)); intro v504 w11 ho12 hb hg_ hnew_; clear hg_ hnew_; (first | rw [← Ny503.out] at ho12 | (simp only [Int.reduceToNat] at ho12; rw [← Ny503.out] at ho12)); have HO505 := jA.mk (Kd.jN (Kd.jL (Kd.jL ho12 (Kd.R_lt (rR_ HO499))) (Kd.R_lt (rR_ HO502))) (jC (bb_ HB))); replace HO499 := re_ HO499 ho12 hb; replace HO502 := re_ HO502 ho12 hb; replace HB := bs_ HB hb; clear hb ho12)))
  go_loopg [8, 9, 10] k (fun kq v8 v9 v10 w' => ∃ (x8_1 : List Int) (x9_1 : Int) (x10_1 : Int), v9 = .int .u64 x9_1 ∧ v10 = .int .i64 x10_1 ∧ jA (jc.l0 kq t497 t500 x8_1 x9_1 x10_1 = some (r1, r2)) ∧ jA (kq ≤ k) ∧ jA (Kd.R (Kd.int .u64) 22 w' w.heap.size (fun k_ => some k_ ≠ (v501 : Value).ownBlock ∧ some k_ ≠ (v8 : Value).ownBlock) v498 t497) ∧ jA (Kd.R (Kd.int .u64) 22 w' w.heap.size (fun k_ => some k_ ≠ (v498 : Value).ownBlock ∧ some k_ ≠ (v8 : Value).ownBlock) v501 t500) ∧ jA (Kd.R (Kd.int .u64) 22 w' w.heap.size (fun k_ => some k_ ≠ (v498 : Value).ownBlock ∧ some k_ ≠ (v501 : Value).ownBlock) v8 x8_1) ∧ jA (Below w.heap.size w w'))
  case atStart => exact ⟨(y503), (0), (0), sd_, sd_, H', ⟨Nat.le_refl _⟩, ⟨by (with_reducible repeat (first | apply Kd.zM | apply Kd.zT | apply Kd.zZ)); exact Kd.jT HO499.out (fun _ hk => ⟨hk.1.2, hk.2⟩)⟩, ⟨by (with_reducible repeat (first | apply Kd.zM | apply Kd.zT | apply Kd.zZ)); exact Kd.jT HO502.out (fun _ hk => ⟨hk.1.2, hk.2⟩)⟩, ⟨by (with_reducible repeat (first | apply Kd.zM | apply Kd.zT | apply Kd.zZ)); exact Kd.jT HO505.out (fun _ hk => ⟨hk.1.2, hk.2⟩)⟩, ⟨(bb_ HB)⟩⟩
  case round =>
   clear H'
   try clear c1
   try clear p2
   try clear c4
   try clear c4b0
   try clear c10
   obtain ⟨x8_1, x9_1, x10_1, rfl, rfl, HA, HK1, HO_6, HO_7, HO_8, HB⟩ := hrel
   cases gk with
   | zero => exact absurd HA.out (by simp [jc.l0])
   | succ k1 =>
    have H := HA.out
    clear HA
    simp only [jc.l0] at H
    by_cases c13 : x10_1 < (t497.length : Int)
    ·
     rw [if_pos c13] at H
     have c13b0 := decide_eq_true c13
     clear c13
     by_cases c14 : 0 ≤ x10_1
     ·
      rw [if_pos c14] at H
      have c14b0 := decide_eq_true c14
      clear c14
      obtain ⟨t507, A15, H⟩ := oc_ H
      try dsimp only at H
      obtain ⟨ji16, hji16⟩ : ∃ j_ : Int, (Int.tmod (IntKind.u64.wrap ((IntKind.u64.wrap ((IntKind.u64.wrap ((rd t497 x10_1) + 4294967296)) - t507)) - x9_1)) 4294967296) = j_ := ⟨_, rfl⟩
      replace H : (if x8_1.length < 17592186044416 then (jc.l0 k1 t497 t500 (x8_1 ++ [ji16]) (IntKind.u64.wrap (1 - (IntKind.u64.wrap (Int.tdiv (IntKind.u64.wrap ((IntKind.u64.wrap ((IntKind.u64.wrap ((rd t497 x10_1) + 4294967296)) - t507)) - x9_1)) 4294967296)))) (wrap64 (x10_1 + 1))) else (none)) = some (r1, r2) := by first | (rw [hji16] at H; exact H) | (simp only [hji16] at H ⊢; exact H)
      (try rw [hji16] at A15)
      by_cases c17 : x8_1.length < 17592186044416
      ·
       rw [if_pos c17] at H
       have LMc17 := jA.mk c17
       clear c17
       obtain ⟨y508, hy508⟩ : ∃ y_ : List Int, y_ = (x8_1 ++ [ji16]) := ⟨_, rfl⟩
       replace H : (jc.l0 k1 t497 t500 y508 (IntKind.u64.wrap (1 - (IntKind.u64.wrap (Int.tdiv (IntKind.u64.wrap ((IntKind.u64.wrap ((IntKind.u64.wrap ((rd t497 x10_1) + 4294967296)) - t507)) - x9_1)) 4294967296)))) (wrap64 (x10_1 + 1))) = some (r1, r2) := by first | (rw [hy508]; with_reducible exact H) | (have H2_ := (Option.bind_some _ _).symm.trans H; rw [hy508]; with_reducible exact H2_) | (with_reducible exact hs_ H) | with_reducible exact H | (rw [hy508]; exact H) | exact H
       have Ny508 := jA.mk hy508
       clear hy508
       have H' := jA.mk H
       clear H
       obtain ⟨Ao18, co18, eo18⟩ := Kd.jV HO_6.out
       subst eo18
       have p506 : 0 ≤ (x10_1 : Int) := of_decide_eq_true am_
       have q506 : x10_1 < (t497.length : Int) := of_decide_eq_true am_
       obtain ⟨ad506, e506, hx506_0⟩ := Kd.vw (Kd.jE HO_6.out).2.2 x10_1 p506 q506
       cases e506
       replace p506 := eq_true p506
       replace q506 := eq_true q506
       obtain ⟨Ao19, co19, eo19⟩ := Kd.jV HO_7.out
       subst eo19
       go_wp2_with (first | (go_at_call 69; (with_reducible refine (jh.calls _ _ t500 x10_1 t507 _ ?side1 ?side2 A15.out).mono ?_); (case side1 => exact cc_ (Kd.jE HO_7.out).2.2); (case side2 => exact (Kd.jE HO_7.out).2.1); rintro e w' ⟨rfl, ⟨nd, rfl⟩⟩; (try first | exact ⟨rfl, _, World.drewN_drewN _ _ _⟩ | exact ⟨rfl, _, Eq.trans (World.drewN_drewN _ _ _) (congrArg (World.drewN _) (Nat.add_assoc _ _ _))⟩)) | ((with_reducible refine vW (b := .append) (xs := #[.tmp 38, .tmp 41]) rfl ?_); at_builtin; refine Kd.qb (Kd.int .u64) (w0 := w) w.heap.size rfl (.tmp 38) (.tmp 41) 35 22 (.int .u64 0) 8 rfl Try.underlying35 qI rfl (by decide) (by omega) u8 x8_1 ji16 [.int .u64 ji16] (fun k_ => some k_ ≠ (.slice (some ad506) t497.length co18 : Value).ownBlock ∧ some k_ ≠ (.slice Ao19 t500.length co19 : Value).ownBlock) (fun _ => False) rfl rfl ?aP (fun _ hk => hk.elim) ?aF ?aO ?aB ?aS ?aL ?_; (case aP => exact rfl); (case aB => exact (bb_ HB)); (case aF => exact (fun k_ hk => ⟨Kd.fresh' (Kd.R_lt (rR_ HO_6)) k_ hk, Kd.fresh' (Kd.R_lt (rR_ HO_7)) k_ hk⟩)); (case aO => exact (rR_ HO_8)); (case aS => exact (jC (bb_ HB))); (case aL => have := LMc17.out; omega); intro v509 w20 ho hb hg hat; rw [← Ny508.out] at ho; replace HO_6 := jA.mk (Kd.zW (ok := (fun k_ => some k_ ≠ (.slice Ao19 t500.length co19 : Value).ownBlock)) (rR_ HO_6) hg hat); replace HO_7 := jA.mk (Kd.zW (ok := (fun k_ => some k_ ≠ (.slice (some ad506) t497.length co18 : Value).ownBlock)) (rR_ HO_7) hg hat); replace HB := jA.mk (hb); have HO510 := jA.mk (ho); clear HO_8 ho hb hg hat))
       repeat (go_quiet (first | (go_at_call 69; (with_reducible refine (jh.calls _ _ t500 x10_1 t507 _ ?side1 ?side2 A15.out).mono ?_); (case side1 => exact cc_ (Kd.jE HO_7.out).2.2); (case side2 => exact (Kd.jE HO_7.out).2.1); rintro e w' ⟨rfl, ⟨nd, rfl⟩⟩; (try first | exact ⟨rfl, _, World.drewN_drewN _ _ _⟩ | exact ⟨rfl, _, Eq.trans (World.drewN_drewN _ _ _) (congrArg (World.drewN _) (Nat.add_assoc _ _ _))⟩)) | ((with_reducible refine vW (b := .append) (xs := #[.tmp 38, .tmp 41]) rfl ?_); at_builtin; refine Kd.qb (Kd.int .u64) (w0 := w) w.heap.size rfl (.tmp 38) (.tmp 41) 35 22 (.int .u64 0) 8 rfl Try.underlying35 qI rfl (by decide) (by omega) u8 x8_1 ji16 [.int .u64 ji16] (fun k_ => some k_ ≠ (.slice (some ad506) t497.length co18 : Value).ownBlock ∧ some k_ ≠ (.slice Ao19 t500.length co19 : Value).ownBlock) (fun _ => False) rfl rfl ?aP (fun _ hk => hk.elim) ?aF ?aO ?aB ?aS ?aL ?_; (case aP => exact rfl); (case aB => exact (bb_ HB)); (case aF => exact (fun k_ hk => ⟨Kd.fresh' (Kd.R_lt (rR_ HO_6)) k_ hk, Kd.fresh' (Kd.R_lt (rR_ HO_7)) k_ hk⟩)); (case aO => exact (rR_ HO_8)); (case aS => exact (jC (bb_ HB))); (case aL => have := LMc17.out; omega); intro v509 w20 ho hb hg hat; rw [← Ny508.out] at ho; replace HO_6 := jA.mk (Kd.zW (ok := (fun k_ => some k_ ≠ (.slice Ao19 t500.length co19 : Value).ownBlock)) (rR_ HO_6) hg hat); replace HO_7 := jA.mk (Kd.zW (ok := (fun k_ => some k_ ≠ (.slice (some ad506) t497.length co18 : Value).ownBlock)) (rR_ HO_7) hg hat); replace HB := jA.mk (hb); have HO510 := jA.mk (ho); clear HO_8 ho hb hg hat)); try go_wp2_with (first | (go_at_call 69; (with_reducible refine (jh.calls _ _ t500 x10_1 t507 _ ?side1 ?side2 A15.out).mono ?_); (case side1 => exact cc_ (Kd.jE HO_7.out).2.2); (case side2 => exact (Kd.jE HO_7.out).2.1); rintro e w' ⟨rfl, ⟨nd, rfl⟩⟩; (try first | exact ⟨rfl, _, World.drewN_drewN _ _ _⟩ | exact ⟨rfl, _, Eq.trans (World.drewN_drewN _ _ _) (congrArg (World.drewN _) (Nat.add_assoc _ _ _))⟩)) | ((with_reducible refine vW (b := .append) (xs := #[.tmp 38, .tmp 41]) rfl ?_); at_builtin; refine Kd.qb (Kd.int .u64) (w0 := w) w.heap.size rfl (.tmp 38) (.tmp 41) 35 22 (.int .u64 0) 8 rfl Try.underlying35 qI rfl (by decide) (by omega) u8 x8_1 ji16 [.int .u64 ji16] (fun k_ => some k_ ≠ (.slice (some ad506) t497.length co18 : Value).ownBlock ∧ some k_ ≠ (.slice Ao19 t500.length co19 : Value).ownBlock) (fun _ => False) rfl rfl ?aP (fun _ hk => hk.elim) ?aF ?aO ?aB ?aS ?aL ?_; (case aP => exact rfl); (case aB => exact (bb_ HB)); (case aF => exact (fun k_ hk => ⟨Kd.fresh' (Kd.R_lt (rR_ HO_6)) k_ hk, Kd.fresh' (Kd.R_lt (rR_ HO_7)) k_ hk⟩)); (case aO => exact (rR_ HO_8)); (case aS => exact (jC (bb_ HB))); (case aL => have := LMc17.out; omega); intro v509 w20 ho hb hg hat; rw [← Ny508.out] at ho; replace HO_6 := jA.mk (Kd.zW (ok := (fun k_ => some k_ ≠ (.slice Ao19 t500.length co19 : Value).ownBlock)) (rR_ HO_6) hg hat); replace HO_7 := jA.mk (Kd.zW (ok := (fun k_ => some k_ ≠ (.slice (some ad506) t497.length co18 : Value).ownBlock)) (rR_ HO_7) hg hat); replace HB := jA.mk (hb); have HO510 := jA.mk (ho); clear HO_8 ho hb hg hat)))
       go_roundg k1
       case measure => have := HK1.out; omega
       case rel => exact ⟨(y508), (IntKind.u64.wrap (1 - (IntKind.u64.wrap (Int.tdiv (IntKind.u64.wrap ((IntKind.u64.wrap ((IntKind.u64.wrap ((rd t497 x10_1) + 4294967296)) - t507)) - x9_1)) 4294967296)))), (wrap64 (x10_1 + 1)), sd_, sd_, H', ⟨by have := HK1.out; omega⟩, ⟨(rR_ HO_6)⟩, ⟨(rR_ HO_7)⟩, ⟨(rR_ HO510)⟩, ⟨(bb_ HB)⟩⟩
      ·
       rw [if_neg c17] at H
       exact absurd H (by simp)
     ·
      rw [if_neg c14] at H
      exact absurd H (by simp)
    ·
     rw [if_neg c13] at H
     have c13b0 := decide_eq_false c13
     clear c13
     obtain ⟨t511, A21, H⟩ := oc_ H
     try dsimp only at H
     simp only [Option.some.injEq, Prod.mk.injEq] at H
     obtain ⟨rfl, rfl⟩ := H
     obtain ⟨Ao22, co22, eo22⟩ := Kd.jV HO_6.out
     subst eo22
     obtain ⟨Ao23, co23, eo23⟩ := Kd.jV HO_8.out
     subst eo23
     go_wp2_with (first | (go_at_call 70; (with_reducible refine (jM.calls k1 _ _ x8_1 t511 _ ?side1 ?side2 A21.out).mono ?_); (case side1 => exact cc_ (Kd.jE HO_8.out).2.2); (case side2 => exact (Kd.jE HO_8.out).2.1); rintro e w24 ⟨v512, rfl, ho0, hb⟩; have HO513 := jA.mk (Kd.jN (Kd.jL (Kd.jL (Kd.jL ho0 (Kd.R_lt (rR_ HO_6))) (Kd.R_lt (rR_ HO_7))) (Kd.R_lt (rR_ HO_8))) (jC (bb_ HB))); replace HO_6 := re_ HO_6 ho0 hb; replace HO_7 := re_ HO_7 ho0 hb; replace HO_8 := re_ HO_8 ho0 hb; replace HB := bs_ HB hb))
     repeat (go_quiet (first | (go_at_call 70; (with_reducible refine (jM.calls k1 _ _ x8_1 t511 _ ?side1 ?side2 A21.out).mono ?_); (case side1 => exact cc_ (Kd.jE HO_8.out).2.2); (case side2 => exact (Kd.jE HO_8.out).2.1); rintro e w24 ⟨v512, rfl, ho0, hb⟩; have HO513 := jA.mk (Kd.jN (Kd.jL (Kd.jL (Kd.jL ho0 (Kd.R_lt (rR_ HO_6))) (Kd.R_lt (rR_ HO_7))) (Kd.R_lt (rR_ HO_8))) (jC (bb_ HB))); replace HO_6 := re_ HO_6 ho0 hb; replace HO_7 := re_ HO_7 ho0 hb; replace HO_8 := re_ HO_8 ho0 hb; replace HB := bs_ HB hb)); try go_wp2_with (first | (go_at_call 70; (with_reducible refine (jM.calls k1 _ _ x8_1 t511 _ ?side1 ?side2 A21.out).mono ?_); (case side1 => exact cc_ (Kd.jE HO_8.out).2.2); (case side2 => exact (Kd.jE HO_8.out).2.1); rintro e w24 ⟨v512, rfl, ho0, hb⟩; have HO513 := jA.mk (Kd.jN (Kd.jL (Kd.jL (Kd.jL ho0 (Kd.R_lt (rR_ HO_6))) (Kd.R_lt (rR_ HO_7))) (Kd.R_lt (rR_ HO_8))) (jC (bb_ HB))); replace HO_6 := re_ HO_6 ho0 hb; replace HO_7 := re_ HO_7 ho0 hb; replace HO_8 := re_ HO_8 ho0 hb; replace HB := bs_ HB hb)))
     go_ret2
     exact ⟨_, ew_, by refine pR_ ?_; exact Kd.jT HO513.out (fun _ hk => trivial), (bb_ HB)⟩
end Go.Proofs.Ytijgeonhbmgikaa.PORatioField
