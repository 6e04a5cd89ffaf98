-- printed (pr.py)
import Derived.Test.YtijgeonhbmgikaaPORatioFieldx11
namespace Go.Proofs.Ytijgeonhbmgikaa.PORatioField
open Go.RowKit Go.Proofs.YtijgeonhbmgikaaN Go.Proofs.YtijgeonhbmgikaaW.PrintWords Go.Proofs.YtijgeonhbmgikaaW.PrintLast Go.Proofs.YtijgeonhbmgikaaW.PrintMore
attribute [local go_sem] qH qF qg qd zq zo qG qE
set_option maxHeartbeats 8000000
set_option maxRecDepth 100000
set_option linter.unusedVariables false
set_option linter.unusedSimpArgs false
mutual
def jF.l0 : Nat → List Int → List Int → List Int → Int → Option (List Int)
 | 0, _, _, _, _ => none
 | k + 1, x5, x6, x7, x8 => if x8 < (wrap64 ((wrap64 ((x5.length : Int) + (x6.length : Int))) + 1)) then (if x7.length < 17592186044416 then (jF.l0 k x5 x6 (x7 ++ [0]) (wrap64 (x8 + 1))) else (none)) else (jF.l1 k x5 x6 x7 0)
def jF.l1 : Nat → List Int → List Int → List Int → Int → Option (List Int)
 | 0, _, _, _, _ => none
 | k + 1, x5, x6, x7, x9 => if x9 < (x5.length : Int) then (jF.l2 k x5 x6 x7 x9 0 0) else ((jM.f k x7).bind fun t457 => (some t457))
def jF.l2 : Nat → List Int → List Int → List Int → Int → Int → Int → Option (List Int)
 | 0, _, _, _, _, _, _ => none
 | k + 1, x5, x6, x7, x9, x10, x11 => if x11 < (x6.length : Int) then (if 0 ≤ (wrap64 (x9 + x11)) then (if (wrap64 (x9 + x11)) < (x7.length : Int) then (if 0 ≤ x9 then (if x9 < (x5.length : Int) then ((jh.f x6 x11).bind fun t462 => (jF.l2 k x5 x6 (x7.set ((wrap64 (x9 + x11)) : Int).toNat (Int.tmod (IntKind.u64.wrap ((IntKind.u64.wrap ((rd x7 (wrap64 (x9 + x11))) + (IntKind.u64.wrap ((rd x5 x9) * t462)))) + x10)) 4294967296)) x9 (IntKind.u64.wrap (Int.tdiv (IntKind.u64.wrap ((IntKind.u64.wrap ((rd x7 (wrap64 (x9 + x11))) + (IntKind.u64.wrap ((rd x5 x9) * t462)))) + x10)) 4294967296)) (wrap64 (x11 + 1)))) else (none)) else (none)) else (none)) else (none)) else (if x10 > 0 then (if 0 ≤ (wrap64 (x9 + x11)) then (if (wrap64 (x9 + x11)) < (x7.length : Int) then (if 0 ≤ x9 then (if x9 < (x5.length : Int) then ((jh.f x6 x11).bind fun t466 => (jF.l2 k x5 x6 (x7.set ((wrap64 (x9 + x11)) : Int).toNat (Int.tmod (IntKind.u64.wrap ((IntKind.u64.wrap ((rd x7 (wrap64 (x9 + x11))) + (IntKind.u64.wrap ((rd x5 x9) * t466)))) + x10)) 4294967296)) x9 (IntKind.u64.wrap (Int.tdiv (IntKind.u64.wrap ((IntKind.u64.wrap ((rd x7 (wrap64 (x9 + x11))) + (IntKind.u64.wrap ((rd x5 x9) * t466)))) + x10)) 4294967296)) (wrap64 (x11 + 1)))) else (none)) else (none)) else (none)) else (none)) else (jF.l1 k x5 x6 x7 (wrap64 (x9 + 1))))
end
def jF.f (k : Nat) (l0 : List Int) (l1 : List Int) : Option (List Int) := (jG.f k l0).bind fun t445 => ((jG.f k l1).bind fun t448 => (jF.l0 k t445 t448 (([] : List Int)) 0))
theorem jF.vS : ∀ k, (∀ y0 y1 y2 y3, LeO (jF.l0 k y0 y1 y2 y3) (jF.l0 (k + 1) y0 y1 y2 y3)) ∧ (∀ y0 y1 y2 y3, LeO (jF.l1 k y0 y1 y2 y3) (jF.l1 (k + 1) y0 y1 y2 y3)) ∧ (∀ y0 y1 y2 y3 y4 y5, LeO (jF.l2 k y0 y1 y2 y3 y4 y5) (jF.l2 (k + 1) y0 y1 y2 y3 y4 y5))
 | 0 => ⟨fun _ _ _ _ r h => by simp [jF.l0] at h, fun _ _ _ _ r h => by simp [jF.l1] at h, fun _ _ _ _ _ _ r h => by simp [jF.l2] at h⟩
 | k + 1 => by
  obtain ⟨ih0, ih1, ih2⟩ := jF.vS k
  refine ⟨?_, ?_, ?_⟩ <;> (intros; first | unfold jF.l0 | unfold jF.l1 | unfold jF.l2) <;> repeat' first
   | (with_reducible exact ih0 _ _ _ _)
   | (with_reducible exact ih1 _ _ _ _)
   | (with_reducible exact ih2 _ _ _ _ _ _)
   | (with_reducible exact jG.mono _ _)
   | (with_reducible exact jM.mono _ _)
   | (with_reducible exact LeO.refl _)
   | (with_reducible exact LeO.none _)
   | (with_reducible refine LeO.ite ?_ ?_)
   | (with_reducible refine LeO.bind ?_ (fun _ => ?_))
theorem jF.mono : ∀ a0 a1 k, LeO (jF.f k a0 a1) (jF.f (k + 1) a0 a1) := by
 intro a0 a1 k
 obtain ⟨ih0, ih1, ih2⟩ := jF.vS k
 unfold jF.f
 repeat' first
   | (with_reducible exact ih0 _ _ _ _)
   | (with_reducible exact ih1 _ _ _ _)
   | (with_reducible exact ih2 _ _ _ _ _ _)
   | (with_reducible exact jG.mono _ _)
   | (with_reducible exact jM.mono _ _)
   | (with_reducible exact LeO.refl _)
   | (with_reducible exact LeO.none _)
   | (with_reducible refine LeO.ite ?_ ?_)
   | (with_reducible refine LeO.bind ?_ (fun _ => ?_))
theorem jF.calls (k : Nat) (A0 : Option Addr) (c0 : Nat) (l0 : List Int) (A1 : Option Addr) (c1 : Nat) (l1 : List Int) (r : List Int) (w : World) (hr0 : Kd.C (Kd.int .u64) w A0 l0.length l0) (hc0 : l0.length ≤ c0) (hr1 : Kd.C (Kd.int .u64) w A1 l1.length l1) (hc1 : l1.length ≤ c1) (h : jF.f k l0 l1 = some r) :
  Calls Try.prog 23 #[.slice A0 l0.length c0, .slice A1 l1.length c1] w fun e w' => ∃ v0_ : Value, e = .returned (v0_) ∧ Kd.R (Kd.int .u64) 22 w' w.heap.size (fun _ => True) v0_ r ∧ Below w.heap.size w w' := by
 have HR0 := jA.mk hr0
 have HC0 := jA.mk hc0
 clear hr0 hc0
 have HR1 := jA.mk hr1
 have HC1 := jA.mk hc1
 clear hr1 hc1
 have HB := jA.mk (Below.refl w.heap.size w)
 have H : ((jG.f k l0).bind fun t445 => ((jG.f k l1).bind fun t448 => (jF.l0 k t445 t448 (([] : List Int)) 0))) = some r := h
 clear h
 obtain ⟨t445, A3, H⟩ := oc_ H
 try dsimp only at H
 obtain ⟨t448, A4, H⟩ := oc_ H
 try dsimp only at H
 obtain ⟨y451, hy451⟩ : ∃ y_ : List Int, y_ = (([] : List Int)) := ⟨_, rfl⟩
 replace H : (jF.l0 k t445 t448 y451 0) = some r := by first | (rw [hy451]; with_reducible exact H) | (have H2_ := (Option.bind_some _ _).symm.trans H; rw [hy451]; with_reducible exact H2_) | (with_reducible exact hs_ H) | with_reducible exact H | (rw [hy451]; exact H) | exact H
 have Ny451 := jA.mk hy451
 clear hy451
 have H' := jA.mk H
 clear H
 go_enter Try.func23, Try.ntmps23
 go_wp2_with (first | (go_at_call 68; (with_reducible refine (jG.calls k _ _ l0 t445 _ ?side1 ?side2 A3.out).mono ?_); (case side1 => exact cc_ HR0.out); (case side2 => exact HC0.out); rintro e w5 ⟨v446, rfl, ho0, hb⟩; have HO447 := jA.mk (Kd.jN ho0 (jC (bb_ HB))); replace HB := bs_ HB hb) | (go_at_call 68; (with_reducible refine (jG.calls k _ _ l1 t448 _ ?side1 ?side2 A4.out).mono ?_); (case side1 => exact cb_ HR1 HB); (case side2 => exact HC1.out); rintro e w6 ⟨v449, rfl, ho0, hb⟩; have HO450 := jA.mk (Kd.jN (Kd.jL ho0 (Kd.R_lt (rR_ HO447))) (jC (bb_ HB))); replace HO447 := re_ HO447 ho0 hb; replace HB := bs_ HB hb) | ((with_reducible refine jX (N := 17) rfl ?_); refine Kd.jAC (Kd.int .u64) _ 22 ?hg (N := 17) ?hd (xs := ([] : List Int)) (inner := []) (ok := fun _ => True) (okp := fun _ => True) ?hr ?hp (fun _ hk => hk) trivial (Below.refl _ _) (Nat.le_refl _) (by simp) ?_; (case hd => rfl); (case hg => rfl); (case hr => exact gs_); (case hp => exact (Reps.none _ _)); intro v452 w7 ho8 hb hg_ hnew_; clear hg_ hnew_; (first | rw [← Ny451.out] at ho8 | (simp only [Int.reduceToNat] at ho8; rw [← Ny451.out] at ho8)); have HO453 := jA.mk (Kd.jN (Kd.jL (Kd.jL ho8 (Kd.R_lt (rR_ HO447))) (Kd.R_lt (rR_ HO450))) (jC (bb_ HB))); replace HO447 := re_ HO447 ho8 hb; replace HO450 := re_ HO450 ho8 hb; replace HB := bs_ HB hb; clear hb ho8))
 repeat (go_quiet (first | (go_at_call 68; (with_reducible refine (jG.calls k _ _ l0 t445 _ ?side1 ?side2 A3.out).mono ?_); (case side1 => exact cc_ HR0.out); (case side2 => exact HC0.out); rintro e w5 ⟨v446, rfl, ho0, hb⟩; have HO447 := jA.mk (Kd.jN ho0 (jC (bb_ HB))); replace HB := bs_ HB hb) | (go_at_call 68; (with_reducible refine (jG.calls k _ _ l1 t448 _ ?side1 ?side2 A4.out).mono ?_); (case side1 => exact cb_ HR1 HB); (case side2 => exact HC1.out); rintro e w6 ⟨v449, rfl, ho0, hb⟩; have HO450 := jA.mk (Kd.jN (Kd.jL ho0 (Kd.R_lt (rR_ HO447))) (jC (bb_ HB))); replace HO447 := re_ HO447 ho0 hb; replace HB := bs_ HB hb) | ((with_reducible refine jX (N := 17) rfl ?_); refine Kd.jAC (Kd.int .u64) _ 22 ?hg (N := 17) ?hd (xs := ([] : List Int)) (inner := []) (ok := fun _ => True) (okp := fun _ => True) ?hr ?hp (fun _ hk => hk) trivial (Below.refl _ _) (Nat.le_refl _) (by simp) ?_; (case hd => rfl); (case hg => rfl); (case hr => exact gs_); (case hp => exact (Reps.none _ _)); intro v452 w7 ho8 hb hg_ hnew_; clear hg_ hnew_; (first | rw [← Ny451.out] at ho8 | (simp only [Int.reduceToNat] at ho8; rw [← Ny451.out] at ho8)); have HO453 := jA.mk (Kd.jN (Kd.jL (Kd.jL ho8 (Kd.R_lt (rR_ HO447))) (Kd.R_lt (rR_ HO450))) (jC (bb_ HB))); replace HO447 := re_ HO447 ho8 hb; replace HO450 := re_ HO450 ho8 hb; replace HB := bs_ HB hb; clear hb ho8)); try go_wp2_with (first | (go_at_call 68; (with_reducible refine (jG.calls k _ _ l0 t445 _ ?side1 ?side2 A3.out).mono ?_); (case side1 => exact cc_ HR0.out); (case side2 => exact HC0.out); rintro e w5 ⟨v446, rfl, ho0, hb⟩; have HO447 := jA.mk (Kd.jN ho0 (jC (bb_ HB))); replace HB := bs_ HB hb) | (go_at_call 68; (with_reducible refine (jG.calls k _ _ l1 t448 _ ?side1 ?side2 A4.out).mono ?_); (case side1 => exact cb_ HR1 HB); (case side2 => exact HC1.out); rintro e w6 ⟨v449, rfl, ho0, hb⟩; have HO450 := jA.mk (Kd.jN (Kd.jL ho0 (Kd.R_lt (rR_ HO447))) (jC (bb_ HB))); replace HO447 := re_ HO447 ho0 hb; replace HB := bs_ HB hb) | ((with_reducible refine jX (N := 17) rfl ?_); refine Kd.jAC (Kd.int .u64) _ 22 ?hg (N := 17) ?hd (xs := ([] : List Int)) (inner := []) (ok := fun _ => True) (okp := fun _ => True) ?hr ?hp (fun _ hk => hk) trivial (Below.refl _ _) (Nat.le_refl _) (by simp) ?_; (case hd => rfl); (case hg => rfl); (case hr => exact gs_); (case hp => exact (Reps.none _ _)); intro v452 w7 ho8 hb hg_ hnew_; clear hg_ hnew_; (first | rw [← Ny451.out] at ho8 | (simp only [Int.reduceToNat] at ho8; rw [← Ny451.out] at ho8)); have HO453 := jA.mk (Kd.jN (Kd.jL (Kd.jL ho8 (Kd.R_lt (rR_ HO447))) (Kd.R_lt (rR_ HO450))) (jC (bb_ HB))); replace HO447 := re_ HO447 ho8 hb; replace HO450 := re_ HO450 ho8 hb; replace HB := bs_ HB hb; clear hb ho8)))
 go_loopg [7, 8] k (fun kq v7 v8 w' => ∃ (x7_1 : List Int) (x8_1 : Int), v8 = .int .i64 x8_1 ∧ jA (jF.l0 kq t445 t448 x7_1 x8_1 = some r) ∧ jA (kq ≤ k) ∧ jA (Kd.R (Kd.int .u64) 22 w' w.heap.size (fun k_ => some k_ ≠ (v449 : Value).ownBlock ∧ some k_ ≠ (v7 : Value).ownBlock) v446 t445) ∧ jA (Kd.R (Kd.int .u64) 22 w' w.heap.size (fun k_ => some k_ ≠ (v446 : Value).ownBlock ∧ some k_ ≠ (v7 : Value).ownBlock) v449 t448) ∧ jA (Kd.R (Kd.int .u64) 22 w' w.heap.size (fun k_ => some k_ ≠ (v446 : Value).ownBlock ∧ some k_ ≠ (v449 : Value).ownBlock) v7 x7_1) ∧ jA (Below w.heap.size w w'))
 case atStart => exact ⟨(y451), (0), sd_, H', ⟨Nat.le_refl _⟩, ⟨by (with_reducible repeat (first | apply Kd.zM | apply Kd.zT | apply Kd.zZ)); exact Kd.jT HO447.out (fun _ hk => ⟨hk.1.2, hk.2⟩)⟩, ⟨by (with_reducible repeat (first | apply Kd.zM | apply Kd.zT | apply Kd.zZ)); exact Kd.jT HO450.out (fun _ hk => ⟨hk.1.2, hk.2⟩)⟩, ⟨by (with_reducible repeat (first | apply Kd.zM | apply Kd.zT | apply Kd.zZ)); exact Kd.jT HO453.out (fun _ hk => ⟨hk.1.2, hk.2⟩)⟩, ⟨(bb_ HB)⟩⟩
 case round =>
  clear H'
  try clear c1
  try clear c2
  try clear p2
  obtain ⟨x7_1, x8_1, rfl, HA, HK1, HO_5, HO_6, HO_7, HB⟩ := hrel
  cases gk with
  | zero => exact absurd HA.out (by simp [jF.l0])
  | succ k1 =>
   have H := HA.out
   clear HA
   simp only [jF.l0] at H
   by_cases c9 : x8_1 < (wrap64 ((wrap64 ((t445.length : Int) + (t448.length : Int))) + 1))
   ·
    rw [if_pos c9] at H
    have c9b0 := decide_eq_true c9
    clear c9
    by_cases c10 : x7_1.length < 17592186044416
    ·
     rw [if_pos c10] at H
     have LMc10 := jA.mk c10
     clear c10
     obtain ⟨y454, hy454⟩ : ∃ y_ : List Int, y_ = (x7_1 ++ [0]) := ⟨_, rfl⟩
     replace H : (jF.l0 k1 t445 t448 y454 (wrap64 (x8_1 + 1))) = some r := by first | (rw [hy454]; with_reducible exact H) | (have H2_ := (Option.bind_some _ _).symm.trans H; rw [hy454]; with_reducible exact H2_) | (with_reducible exact hs_ H) | with_reducible exact H | (rw [hy454]; exact H) | exact H
     have Ny454 := jA.mk hy454
     clear hy454
     have H' := jA.mk H
     clear H
     obtain ⟨Ao11, co11, eo11⟩ := Kd.jV HO_5.out
     subst eo11
     obtain ⟨Ao12, co12, eo12⟩ := Kd.jV HO_6.out
     subst eo12
     go_wp2_with (first | ((with_reducible refine vW (b := .append) (xs := #[.tmp 28, .tmp 29]) rfl ?_); at_builtin; refine Kd.qb (Kd.int .u64) (w0 := w) w.heap.size rfl (.tmp 28) (.tmp 29) 35 22 (.int .u64 0) 8 rfl Try.underlying35 qI rfl (by decide) (by omega) u7 x7_1 0 [.int .u64 0] (fun k_ => some k_ ≠ (.slice Ao11 t445.length co11 : Value).ownBlock ∧ some k_ ≠ (.slice Ao12 t448.length co12 : Value).ownBlock) (fun _ => False) rfl rfl ?aP (fun _ hk => hk.elim) ?aF ?aO ?aB ?aS ?aL ?_; (case aP => exact rfl); (case aB => exact (bb_ HB)); (case aF => exact (fun k_ hk => ⟨Kd.fresh' (Kd.R_lt (rR_ HO_5)) k_ hk, Kd.fresh' (Kd.R_lt (rR_ HO_6)) k_ hk⟩)); (case aO => exact (rR_ HO_7)); (case aS => exact (jC (bb_ HB))); (case aL => have := LMc10.out; omega); intro v455 w13 ho hb hg hat; rw [← Ny454.out] at ho; replace HO_5 := jA.mk (Kd.zW (ok := (fun k_ => some k_ ≠ (.slice Ao12 t448.length co12 : Value).ownBlock)) (rR_ HO_5) hg hat); replace HO_6 := jA.mk (Kd.zW (ok := (fun k_ => some k_ ≠ (.slice Ao11 t445.length co11 : Value).ownBlock)) (rR_ HO_6) hg hat); replace HB := jA.mk (hb); have HO456 := jA.mk (ho); clear HO_7 ho hb hg hat))
     repeat (go_quiet (first | ((with_reducible refine vW (b := .append) (xs := #[.tmp 28, .tmp 29]) rfl ?_); at_builtin; refine Kd.qb (Kd.int .u64) (w0 := w) w.heap.size rfl (.tmp 28) (.tmp 29) 35 22 (.int .u64 0) 8 rfl Try.underlying35 qI rfl (by decide) (by omega) u7 x7_1 0 [.int .u64 0] (fun k_ => some k_ ≠ (.slice Ao11 t445.length co11 : Value).ownBlock ∧ some k_ ≠ (.slice Ao12 t448.length co12 : Value).ownBlock) (fun _ => False) rfl rfl ?aP (fun _ hk => hk.elim) ?aF ?aO ?aB ?aS ?aL ?_; (case aP => exact rfl); (case aB => exact (bb_ HB)); (case aF => exact (fun k_ hk => ⟨Kd.fresh' (Kd.R_lt (rR_ HO_5)) k_ hk, Kd.fresh' (Kd.R_lt (rR_ HO_6)) k_ hk⟩)); (case aO => exact (rR_ HO_7)); (case aS => exact (jC (bb_ HB))); (case aL => have := LMc10.out; omega); intro v455 w13 ho hb hg hat; rw [← Ny454.out] at ho; replace HO_5 := jA.mk (Kd.zW (ok := (fun k_ => some k_ ≠ (.slice Ao12 t448.length co12 : Value).ownBlock)) (rR_ HO_5) hg hat); replace HO_6 := jA.mk (Kd.zW (ok := (fun k_ => some k_ ≠ (.slice Ao11 t445.length co11 : Value).ownBlock)) (rR_ HO_6) hg hat); replace HB := jA.mk (hb); have HO456 := jA.mk (ho); clear HO_7 ho hb hg hat)); try go_wp2_with (first | ((with_reducible refine vW (b := .append) (xs := #[.tmp 28, .tmp 29]) rfl ?_); at_builtin; refine Kd.qb (Kd.int .u64) (w0 := w) w.heap.size rfl (.tmp 28) (.tmp 29) 35 22 (.int .u64 0) 8 rfl Try.underlying35 qI rfl (by decide) (by omega) u7 x7_1 0 [.int .u64 0] (fun k_ => some k_ ≠ (.slice Ao11 t445.length co11 : Value).ownBlock ∧ some k_ ≠ (.slice Ao12 t448.length co12 : Value).ownBlock) (fun _ => False) rfl rfl ?aP (fun _ hk => hk.elim) ?aF ?aO ?aB ?aS ?aL ?_; (case aP => exact rfl); (case aB => exact (bb_ HB)); (case aF => exact (fun k_ hk => ⟨Kd.fresh' (Kd.R_lt (rR_ HO_5)) k_ hk, Kd.fresh' (Kd.R_lt (rR_ HO_6)) k_ hk⟩)); (case aO => exact (rR_ HO_7)); (case aS => exact (jC (bb_ HB))); (case aL => have := LMc10.out; omega); intro v455 w13 ho hb hg hat; rw [← Ny454.out] at ho; replace HO_5 := jA.mk (Kd.zW (ok := (fun k_ => some k_ ≠ (.slice Ao12 t448.length co12 : Value).ownBlock)) (rR_ HO_5) hg hat); replace HO_6 := jA.mk (Kd.zW (ok := (fun k_ => some k_ ≠ (.slice Ao11 t445.length co11 : Value).ownBlock)) (rR_ HO_6) hg hat); replace HB := jA.mk (hb); have HO456 := jA.mk (ho); clear HO_7 ho hb hg hat)))
     go_roundg k1
     case measure => have := HK1.out; omega
     case rel => exact ⟨(y454), (wrap64 (x8_1 + 1)), sd_, H', ⟨by have := HK1.out; omega⟩, ⟨(rR_ HO_5)⟩, ⟨(rR_ HO_6)⟩, ⟨(rR_ HO456)⟩, ⟨(bb_ HB)⟩⟩
    ·
     rw [if_neg c10] at H
     exact absurd H (by simp)
   ·
    rw [if_neg c9] at H
    have c9b0 := decide_eq_false c9
    clear c9
    have H' := jA.mk H
    clear H
    obtain ⟨Ao14, co14, eo14⟩ := Kd.jV HO_5.out
    subst eo14
    obtain ⟨Ao15, co15, eo15⟩ := Kd.jV HO_6.out
    subst eo15
    go_wp2
    repeat (go_quiet (fail); try go_wp2)
    go_loopg [9] k1 (fun kq v9 w' => ∃ (x7_2 : List Int) (x9_2 : Int), v9 = .int .i64 x9_2 ∧ jA (jF.l1 kq t445 t448 x7_2 x9_2 = some r) ∧ jA (kq ≤ k1) ∧ jA (Kd.R (Kd.int .u64) 22 w' w.heap.size (fun k_ => some k_ ≠ ((.slice Ao15 t448.length co15) : Value).ownBlock ∧ some k_ ≠ (u7 : Value).ownBlock) (.slice Ao14 t445.length co14) t445) ∧ jA (Kd.R (Kd.int .u64) 22 w' w.heap.size (fun k_ => some k_ ≠ ((.slice Ao14 t445.length co14) : Value).ownBlock ∧ some k_ ≠ (u7 : Value).ownBlock) (.slice Ao15 t448.length co15) t448) ∧ jA (Kd.R (Kd.int .u64) 22 w' w.heap.size (fun k_ => some k_ ≠ ((.slice Ao14 t445.length co14) : Value).ownBlock ∧ some k_ ≠ ((.slice Ao15 t448.length co15) : Value).ownBlock) u7 x7_2) ∧ jA (Below w.heap.size w w'))
    case atStart => exact ⟨(x7_1), (0), sd_, H', ⟨Nat.le_refl _⟩, ⟨(rR_ HO_5)⟩, ⟨(rR_ HO_6)⟩, ⟨(rR_ HO_7)⟩, ⟨(bb_ HB)⟩⟩
    case round =>
     clear H'
     try clear c1
     try clear c2
     try clear p2
     try clear p6
     try clear c9
     try clear c9b0
     try clear c10
     try clear p2
     obtain ⟨x7_2, x9_2, rfl, HA, HK2, HO_5, HO_6, HO_7, HB⟩ := hrel
     cases gk with
     | zero => exact absurd HA.out (by simp [jF.l1])
     | succ k2 =>
      have H := HA.out
      clear HA
      simp only [jF.l1] at H
      by_cases c16 : x9_2 < (t445.length : Int)
      ·
       rw [if_pos c16] at H
       have c16b0 := decide_eq_true c16
       clear c16
       have H' := jA.mk H
       clear H
       go_wp2
       repeat (go_quiet (fail); try go_wp2)
       go_loopg [10, 11] k2 (fun kq v10 v11 w' => ∃ (x7_3 : List Int) (x10_3 : Int) (x11_3 : Int), v10 = .int .u64 x10_3 ∧ v11 = .int .i64 x11_3 ∧ jA (jF.l2 kq t445 t448 x7_3 x9_2 x10_3 x11_3 = some r) ∧ jA (kq ≤ k2) ∧ jA (Kd.R (Kd.int .u64) 22 w' w.heap.size (fun k_ => some k_ ≠ ((.slice Ao15 t448.length co15) : Value).ownBlock ∧ some k_ ≠ (u7 : Value).ownBlock) (.slice Ao14 t445.length co14) t445) ∧ jA (Kd.R (Kd.int .u64) 22 w' w.heap.size (fun k_ => some k_ ≠ ((.slice Ao14 t445.length co14) : Value).ownBlock ∧ some k_ ≠ (u7 : Value).ownBlock) (.slice Ao15 t448.length co15) t448) ∧ jA (Kd.R (Kd.int .u64) 22 w' w.heap.size (fun k_ => some k_ ≠ ((.slice Ao14 t445.length co14) : Value).ownBlock ∧ some k_ ≠ ((.slice Ao15 t448.length co15) : Value).ownBlock) u7 x7_3) ∧ jA (Below w.heap.size w w'))
       case atStart => exact ⟨(x7_2), (0), (0), sd_, sd_, H', ⟨Nat.le_refl _⟩, ⟨(rR_ HO_5)⟩, ⟨(rR_ HO_6)⟩, ⟨(rR_ HO_7)⟩, ⟨(bb_ HB)⟩⟩
       case round =>
        clear H'
        try clear c1
        try clear c2
        try clear p2
        try clear p6
        try clear c9
        try clear c9b0
        try clear c10
        try clear c16
        try clear c16b0
        try clear p2
        try clear p6
        obtain ⟨x7_3, x10_3, x11_3, rfl, rfl, HA, HK3, HO_5, HO_6, HO_7, HB⟩ := hrel
        cases gk with
        | zero => exact absurd HA.out (by simp [jF.l2])
        | succ k3 =>
         have H := HA.out
         clear HA
         simp only [jF.l2] at H
         by_cases c17 : x11_3 < (t448.length : Int)
         ·
          rw [if_pos c17] at H
          have c17b0 := decide_eq_true c17
          clear c17
          obtain ⟨ji18, hji18⟩ : ∃ j_ : Int, (wrap64 (x9_2 + x11_3)) = j_ := ⟨_, rfl⟩
          replace H : (if 0 ≤ (ji18) then (if (ji18) < (x7_3.length : Int) then (if 0 ≤ x9_2 then (if x9_2 < (t445.length : Int) then ((jh.f t448 x11_3).bind fun t462 => (jF.l2 k3 t445 t448 (x7_3.set ((ji18) : Int).toNat (Int.tmod (IntKind.u64.wrap ((IntKind.u64.wrap ((rd x7_3 (ji18)) + (IntKind.u64.wrap ((rd t445 x9_2) * t462)))) + x10_3)) 4294967296)) x9_2 (IntKind.u64.wrap (Int.tdiv (IntKind.u64.wrap ((IntKind.u64.wrap ((rd x7_3 (ji18)) + (IntKind.u64.wrap ((rd t445 x9_2) * t462)))) + x10_3)) 4294967296)) (wrap64 (x11_3 + 1)))) else (none)) else (none)) else (none)) else (none)) = some r := by first | (rw [hji18] at H; exact H) | (simp only [hji18] at H ⊢; exact H)
          have hji18w : (IntKind.i64.wrap (x9_2 + x11_3)) = ji18 := (qZ _).trans hji18
          by_cases c19 : 0 ≤ (ji18)
          ·
           rw [if_pos c19] at H
           have c19b0 := decide_eq_true c19
           clear c19
           by_cases c20 : (ji18) < (x7_3.length : Int)
           ·
            rw [if_pos c20] at H
            have c20b0 := decide_eq_true c20
            clear c20
            by_cases c21 : 0 ≤ x9_2
            ·
             rw [if_pos c21] at H
             have c21b0 := decide_eq_true c21
             clear c21
             by_cases c22 : x9_2 < (t445.length : Int)
             ·
              rw [if_pos c22] at H
              have c22b0 := decide_eq_true c22
              clear c22
              obtain ⟨t462, A23, H⟩ := oc_ H
              try dsimp only at H
              obtain ⟨ji24, hji24⟩ : ∃ j_ : Int, (Int.tmod (IntKind.u64.wrap ((IntKind.u64.wrap ((rd x7_3 (ji18)) + (IntKind.u64.wrap ((rd t445 x9_2) * t462)))) + x10_3)) 4294967296) = j_ := ⟨_, rfl⟩
              replace H : (jF.l2 k3 t445 t448 (x7_3.set ((ji18) : Int).toNat (ji24)) x9_2 (IntKind.u64.wrap (Int.tdiv (IntKind.u64.wrap ((IntKind.u64.wrap ((rd x7_3 (ji18)) + (IntKind.u64.wrap ((rd t445 x9_2) * t462)))) + x10_3)) 4294967296)) (wrap64 (x11_3 + 1))) = some r := by first | (rw [hji24] at H; exact H) | (simp only [hji24] at H ⊢; exact H)
              (try rw [hji24] at A23)
              obtain ⟨y463, hy463⟩ : ∃ y_ : List Int, y_ = (x7_3.set ((ji18) : Int).toNat (ji24)) := ⟨_, rfl⟩
              replace H : (jF.l2 k3 t445 t448 y463 x9_2 (IntKind.u64.wrap (Int.tdiv (IntKind.u64.wrap ((IntKind.u64.wrap ((rd x7_3 (ji18)) + (IntKind.u64.wrap ((rd t445 x9_2) * t462)))) + x10_3)) 4294967296)) (wrap64 (x11_3 + 1))) = some r := by first | (rw [hy463]; with_reducible exact H) | (have H2_ := (Option.bind_some _ _).symm.trans H; rw [hy463]; with_reducible exact H2_) | (with_reducible exact hs_ H) | with_reducible exact H | (rw [hy463]; exact H) | exact H
              have Ny463 := jA.mk hy463
              clear hy463
              have H' := jA.mk H
              clear H
              obtain ⟨Ao26, co26, eo26⟩ := Kd.jV HO_7.out
              subst eo26
              have p460 : 0 ≤ ((ji18) : Int) := of_decide_eq_true am_
              have q460 : (ji18) < (x7_3.length : Int) := of_decide_eq_true am_
              obtain ⟨ad460, e460, hx460_0⟩ := Kd.vw (Kd.jE HO_7.out).2.2 (ji18) p460 q460
              cases e460
              replace p460 := eq_true p460
              replace q460 := eq_true q460
              have p461 : 0 ≤ (x9_2 : Int) := of_decide_eq_true am_
              have q461 : x9_2 < (t445.length : Int) := of_decide_eq_true am_
              obtain ⟨ad461, e461, hx461_0⟩ := Kd.vw (Kd.jE HO_5.out).2.2 x9_2 p461 q461
              cases e461
              replace p461 := eq_true p461
              replace q461 := eq_true q461
              go_wp2_with (first | (go_at_call 69; (with_reducible refine (jh.calls _ _ t448 x11_3 t462 _ ?side1 ?side2 A23.out).mono ?_); (case side1 => exact cc_ (Kd.jE HO_6.out).2.2); (case side2 => exact (Kd.jE HO_6.out).2.1); rintro e w' ⟨rfl, ⟨nd, rfl⟩⟩; (try first | exact ⟨rfl, _, World.drewN_drewN _ _ _⟩ | exact ⟨rfl, _, Eq.trans (World.drewN_drewN _ _ _) (congrArg (World.drewN _) (Nat.add_assoc _ _ _))⟩); have p25 : 0 ≤ ((ji18) : Int) := of_decide_eq_true am_; have q25 : ((ji18) : Int) < ((x7_3.length : Int) : Int) := of_decide_eq_true am_; obtain ⟨go25, co25, eo25, gb25, gl25, cl25, HG25⟩ := Kd.jAB HO_7.out (by omega); (first | cases eo25 | (injection eo25 with ea_ en_ ec_; (first | subst ea_ | (injection ea_ with ea_; subst ea_)); subst ec_; clear en_)); have GB25 := jA.mk gb25; have GG25 := jA.mk HG25; clear gb25 gl25 HG25; (first | simp only [add_plain] at hx460_0 | skip); obtain ⟨hx25_0, hf25_0⟩ := Kd.zK 0 HO_7.out ((ji18) : Int) p25 q25; replace p25 := eq_true p25; replace q25 := eq_true q25; obtain ⟨hy27_, hz27_⟩ := Kd.zK 0 HO_7.out ((ji18) : Int) (of_decide_eq_true am_) (of_decide_eq_true am_); have HP27 := Kd.qw HO_7.out ((ji18) : Int) ji24) | ((with_reducible refine zu (t := 22) (p := 70) rfl ?_); (try (rw [qh wr]; generalize hq_ : World.drewN wr _ = wr; replace HO_5 := jA.mk (Kd.R_at hq_ HO_5.out); replace HO_6 := jA.mk (Kd.R_at hq_ HO_6.out); replace HO_7 := jA.mk (Kd.R_at hq_ HO_7.out); replace HB := jA.mk (jBU hq_ HB.out); clear hq_; (try (obtain ⟨hy27_, hz27_⟩ := Kd.zK 0 HO_7.out ((ji18) : Int) (of_decide_eq_true am_) (of_decide_eq_true am_))); (try (have HP27 := Kd.qw HO_7.out ((ji18) : Int) ji24)))); refine zX (t := 22) (p := 70) (v := ?vo_w28) (w1 := (wr.setCell ⟨go25, ((ji18) : Int).toNat, none⟩ (.int .u64 ji24))) ?hg ?ho ?hn ?hr ?_; (case ho => rfl); (case hg => rfl); (case hn => rfl); (case hr => exact gs_); intro w28 hw; have hg : wr.grownBy w28 (some go25) := (by rw [hw]; exact HP27.2); have hp_ : Kd.R (Kd.int .u64) 22 w28 w.heap.size (fun k_ => some k_ ≠ (.slice (some ad461) t445.length co14 : Value).ownBlock ∧ some k_ ≠ (.slice Ao15 t448.length co15 : Value).ownBlock) (.slice (some ⟨go25, 0, none⟩) x7_3.length co26) y463 := (by rw [hw, Ny463.out]; exact HP27.1); clear HP27; replace HO_5 := jA.mk (Kd.zW (v := (.slice (some ⟨go25, 0, none⟩) x7_3.length co26)) (v1 := (.slice (some ⟨go25, 0, none⟩) x7_3.length co26)) (ok := (fun k_ => some k_ ≠ (.slice Ao15 t448.length co15 : Value).ownBlock)) (rR_ HO_5) hg (.inl rfl)); replace HO_6 := jA.mk (Kd.zW (v := (.slice (some ⟨go25, 0, none⟩) x7_3.length co26)) (v1 := (.slice (some ⟨go25, 0, none⟩) x7_3.length co26)) (ok := (fun k_ => some k_ ≠ (.slice (some ad461) t445.length co14 : Value).ownBlock)) (rR_ HO_6) hg (.inl rfl)); replace HO_7 := jA.mk (hp_); replace HB := jA.mk ((by rw [hw]; exact vI (HB.out) GB25.out : Below w.heap.size w w28)); clear hg hw hp_))
              repeat (go_quiet (first | (go_at_call 69; (with_reducible refine (jh.calls _ _ t448 x11_3 t462 _ ?side1 ?side2 A23.out).mono ?_); (case side1 => exact cc_ (Kd.jE HO_6.out).2.2); (case side2 => exact (Kd.jE HO_6.out).2.1); rintro e w' ⟨rfl, ⟨nd, rfl⟩⟩; (try first | exact ⟨rfl, _, World.drewN_drewN _ _ _⟩ | exact ⟨rfl, _, Eq.trans (World.drewN_drewN _ _ _) (congrArg (World.drewN _) (Nat.add_assoc _ _ _))⟩); have p25 : 0 ≤ ((ji18) : Int) := of_decide_eq_true am_; have q25 : ((ji18) : Int) < ((x7_3.length : Int) : Int) := of_decide_eq_true am_; obtain ⟨go25, co25, eo25, gb25, gl25, cl25, HG25⟩ := Kd.jAB HO_7.out (by omega); (first | cases eo25 | (injection eo25 with ea_ en_ ec_; (first | subst ea_ | (injection ea_ with ea_; subst ea_)); subst ec_; clear en_)); have GB25 := jA.mk gb25; have GG25 := jA.mk HG25; clear gb25 gl25 HG25; (first | simp only [add_plain] at hx460_0 | skip); obtain ⟨hx25_0, hf25_0⟩ := Kd.zK 0 HO_7.out ((ji18) : Int) p25 q25; replace p25 := eq_true p25; replace q25 := eq_true q25; obtain ⟨hy27_, hz27_⟩ := Kd.zK 0 HO_7.out ((ji18) : Int) (of_decide_eq_true am_) (of_decide_eq_true am_); have HP27 := Kd.qw HO_7.out ((ji18) : Int) ji24) | ((with_reducible refine zu (t := 22) (p := 70) rfl ?_); (try (rw [qh wr]; generalize hq_ : World.drewN wr _ = wr; replace HO_5 := jA.mk (Kd.R_at hq_ HO_5.out); replace HO_6 := jA.mk (Kd.R_at hq_ HO_6.out); replace HO_7 := jA.mk (Kd.R_at hq_ HO_7.out); replace HB := jA.mk (jBU hq_ HB.out); clear hq_; (try (obtain ⟨hy27_, hz27_⟩ := Kd.zK 0 HO_7.out ((ji18) : Int) (of_decide_eq_true am_) (of_decide_eq_true am_))); (try (have HP27 := Kd.qw HO_7.out ((ji18) : Int) ji24)))); refine zX (t := 22) (p := 70) (v := ?vo_w28) (w1 := (wr.setCell ⟨go25, ((ji18) : Int).toNat, none⟩ (.int .u64 ji24))) ?hg ?ho ?hn ?hr ?_; (case ho => rfl); (case hg => rfl); (case hn => rfl); (case hr => exact gs_); intro w28 hw; have hg : wr.grownBy w28 (some go25) := (by rw [hw]; exact HP27.2); have hp_ : Kd.R (Kd.int .u64) 22 w28 w.heap.size (fun k_ => some k_ ≠ (.slice (some ad461) t445.length co14 : Value).ownBlock ∧ some k_ ≠ (.slice Ao15 t448.length co15 : Value).ownBlock) (.slice (some ⟨go25, 0, none⟩) x7_3.length co26) y463 := (by rw [hw, Ny463.out]; exact HP27.1); clear HP27; replace HO_5 := jA.mk (Kd.zW (v := (.slice (some ⟨go25, 0, none⟩) x7_3.length co26)) (v1 := (.slice (some ⟨go25, 0, none⟩) x7_3.length co26)) (ok := (fun k_ => some k_ ≠ (.slice Ao15 t448.length co15 : Value).ownBlock)) (rR_ HO_5) hg (.inl rfl)); replace HO_6 := jA.mk (Kd.zW (v := (.slice (some ⟨go25, 0, none⟩) x7_3.length co26)) (v1 := (.slice (some ⟨go25, 0, none⟩) x7_3.length co26)) (ok := (fun k_ => some k_ ≠ (.slice (some ad461) t445.length co14 : Value).ownBlock)) (rR_ HO_6) hg (.inl rfl)); replace HO_7 := jA.mk (hp_); replace HB := jA.mk ((by rw [hw]; exact vI (HB.out) GB25.out : Below w.heap.size w w28)); clear hg hw hp_)); try go_wp2_with (first | (go_at_call 69; (with_reducible refine (jh.calls _ _ t448 x11_3 t462 _ ?side1 ?side2 A23.out).mono ?_); (case side1 => exact cc_ (Kd.jE HO_6.out).2.2); (case side2 => exact (Kd.jE HO_6.out).2.1); rintro e w' ⟨rfl, ⟨nd, rfl⟩⟩; (try first | exact ⟨rfl, _, World.drewN_drewN _ _ _⟩ | exact ⟨rfl, _, Eq.trans (World.drewN_drewN _ _ _) (congrArg (World.drewN _) (Nat.add_assoc _ _ _))⟩); have p25 : 0 ≤ ((ji18) : Int) := of_decide_eq_true am_; have q25 : ((ji18) : Int) < ((x7_3.length : Int) : Int) := of_decide_eq_true am_; obtain ⟨go25, co25, eo25, gb25, gl25, cl25, HG25⟩ := Kd.jAB HO_7.out (by omega); (first | cases eo25 | (injection eo25 with ea_ en_ ec_; (first | subst ea_ | (injection ea_ with ea_; subst ea_)); subst ec_; clear en_)); have GB25 := jA.mk gb25; have GG25 := jA.mk HG25; clear gb25 gl25 HG25; (first | simp only [add_plain] at hx460_0 | skip); obtain ⟨hx25_0, hf25_0⟩ := Kd.zK 0 HO_7.out ((ji18) : Int) p25 q25; replace p25 := eq_true p25; replace q25 := eq_true q25; obtain ⟨hy27_, hz27_⟩ := Kd.zK 0 HO_7.out ((ji18) : Int) (of_decide_eq_true am_) (of_decide_eq_true am_); have HP27 := Kd.qw HO_7.out ((ji18) : Int) ji24) | ((with_reducible refine zu (t := 22) (p := 70) rfl ?_); (try (rw [qh wr]; generalize hq_ : World.drewN wr _ = wr; replace HO_5 := jA.mk (Kd.R_at hq_ HO_5.out); replace HO_6 := jA.mk (Kd.R_at hq_ HO_6.out); replace HO_7 := jA.mk (Kd.R_at hq_ HO_7.out); replace HB := jA.mk (jBU hq_ HB.out); clear hq_; (try (obtain ⟨hy27_, hz27_⟩ := Kd.zK 0 HO_7.out ((ji18) : Int) (of_decide_eq_true am_) (of_decide_eq_true am_))); (try (have HP27 := Kd.qw HO_7.out ((ji18) : Int) ji24)))); refine zX (t := 22) (p := 70) (v := ?vo_w28) (w1 := (wr.setCell ⟨go25, ((ji18) : Int).toNat, none⟩ (.int .u64 ji24))) ?hg ?ho ?hn ?hr ?_; (case ho => rfl); (case hg => rfl); (case hn => rfl); (case hr => exact gs_); intro w28 hw; have hg : wr.grownBy w28 (some go25) := (by rw [hw]; exact HP27.2); have hp_ : Kd.R (Kd.int .u64) 22 w28 w.heap.size (fun k_ => some k_ ≠ (.slice (some ad461) t445.length co14 : Value).ownBlock ∧ some k_ ≠ (.slice Ao15 t448.length co15 : Value).ownBlock) (.slice (some ⟨go25, 0, none⟩) x7_3.length co26) y463 := (by rw [hw, Ny463.out]; exact HP27.1); clear HP27; replace HO_5 := jA.mk (Kd.zW (v := (.slice (some ⟨go25, 0, none⟩) x7_3.length co26)) (v1 := (.slice (some ⟨go25, 0, none⟩) x7_3.length co26)) (ok := (fun k_ => some k_ ≠ (.slice Ao15 t448.length co15 : Value).ownBlock)) (rR_ HO_5) hg (.inl rfl)); replace HO_6 := jA.mk (Kd.zW (v := (.slice (some ⟨go25, 0, none⟩) x7_3.length co26)) (v1 := (.slice (some ⟨go25, 0, none⟩) x7_3.length co26)) (ok := (fun k_ => some k_ ≠ (.slice (some ad461) t445.length co14 : Value).ownBlock)) (rR_ HO_6) hg (.inl rfl)); replace HO_7 := jA.mk (hp_); replace HB := jA.mk ((by rw [hw]; exact vI (HB.out) GB25.out : Below w.heap.size w w28)); clear hg hw hp_)))
              go_roundg k3
              case measure => have := HK1.out; have := HK2.out; have := HK3.out; omega
              case rel => exact ⟨(y463), (IntKind.u64.wrap (Int.tdiv (IntKind.u64.wrap ((IntKind.u64.wrap ((rd x7_3 (ji18)) + (IntKind.u64.wrap ((rd t445 x9_2) * t462)))) + x10_3)) 4294967296)), (wrap64 (x11_3 + 1)), (by first | rfl | (simp; done) | (simp only [← hji18] <;> (first | rfl | simp)) | (simp [*]; done)), sd_, H', ⟨by have := HK1.out; have := HK2.out; have := HK3.out; omega⟩, ⟨(rR_ HO_5)⟩, ⟨(rR_ HO_6)⟩, ⟨(rR_ HO_7)⟩, ⟨(bb_ HB)⟩⟩
             ·
              rw [if_neg c22] at H
              exact absurd H (by simp)
            ·
             rw [if_neg c21] at H
             exact absurd H (by simp)
           ·
            rw [if_neg c20] at H
            exact absurd H (by simp)
          ·
           rw [if_neg c19] at H
           exact absurd H (by simp)
         ·
          rw [if_neg c17] at H
          have c17b0 := decide_eq_false c17
          clear c17
          by_cases c29 : x10_3 > 0
          ·
           rw [if_pos c29] at H
           have c29b0 := decide_eq_true c29
           clear c29
           obtain ⟨ji30, hji30⟩ : ∃ j_ : Int, (wrap64 (x9_2 + x11_3)) = j_ := ⟨_, rfl⟩
           replace H : (if 0 ≤ (ji30) then (if (ji30) < (x7_3.length : Int) then (if 0 ≤ x9_2 then (if x9_2 < (t445.length : Int) then ((jh.f t448 x11_3).bind fun t466 => (jF.l2 k3 t445 t448 (x7_3.set ((ji30) : Int).toNat (Int.tmod (IntKind.u64.wrap ((IntKind.u64.wrap ((rd x7_3 (ji30)) + (IntKind.u64.wrap ((rd t445 x9_2) * t466)))) + x10_3)) 4294967296)) x9_2 (IntKind.u64.wrap (Int.tdiv (IntKind.u64.wrap ((IntKind.u64.wrap ((rd x7_3 (ji30)) + (IntKind.u64.wrap ((rd t445 x9_2) * t466)))) + x10_3)) 4294967296)) (wrap64 (x11_3 + 1)))) else (none)) else (none)) else (none)) else (none)) = some r := by first | (rw [hji30] at H; exact H) | (simp only [hji30] at H ⊢; exact H)
           have hji30w : (IntKind.i64.wrap (x9_2 + x11_3)) = ji30 := (qZ _).trans hji30
           by_cases c31 : 0 ≤ (ji30)
           ·
            rw [if_pos c31] at H
            have c31b0 := decide_eq_true c31
            clear c31
            by_cases c32 : (ji30) < (x7_3.length : Int)
            ·
             rw [if_pos c32] at H
             have c32b0 := decide_eq_true c32
             clear c32
             by_cases c33 : 0 ≤ x9_2
             ·
              rw [if_pos c33] at H
              have c33b0 := decide_eq_true c33
              clear c33
              by_cases c34 : x9_2 < (t445.length : Int)
              ·
               rw [if_pos c34] at H
               have c34b0 := decide_eq_true c34
               clear c34
               obtain ⟨t466, A35, H⟩ := oc_ H
               try dsimp only at H
               obtain ⟨ji36, hji36⟩ : ∃ j_ : Int, (Int.tmod (IntKind.u64.wrap ((IntKind.u64.wrap ((rd x7_3 (ji30)) + (IntKind.u64.wrap ((rd t445 x9_2) * t466)))) + x10_3)) 4294967296) = j_ := ⟨_, rfl⟩
               replace H : (jF.l2 k3 t445 t448 (x7_3.set ((ji30) : Int).toNat (ji36)) x9_2 (IntKind.u64.wrap (Int.tdiv (IntKind.u64.wrap ((IntKind.u64.wrap ((rd x7_3 (ji30)) + (IntKind.u64.wrap ((rd t445 x9_2) * t466)))) + x10_3)) 4294967296)) (wrap64 (x11_3 + 1))) = some r := by first | (rw [hji36] at H; exact H) | (simp only [hji36] at H ⊢; exact H)
               (try rw [hji36] at A35)
               obtain ⟨y467, hy467⟩ : ∃ y_ : List Int, y_ = (x7_3.set ((ji30) : Int).toNat (ji36)) := ⟨_, rfl⟩
               replace H : (jF.l2 k3 t445 t448 y467 x9_2 (IntKind.u64.wrap (Int.tdiv (IntKind.u64.wrap ((IntKind.u64.wrap ((rd x7_3 (ji30)) + (IntKind.u64.wrap ((rd t445 x9_2) * t466)))) + x10_3)) 4294967296)) (wrap64 (x11_3 + 1))) = some r := by first | (rw [hy467]; with_reducible exact H) | (have H2_ := (Option.bind_some _ _).symm.trans H; rw [hy467]; with_reducible exact H2_) | (with_reducible exact hs_ H) | with_reducible exact H | (rw [hy467]; exact H) | exact H
               have Ny467 := jA.mk hy467
               clear hy467
               have H' := jA.mk H
               clear H
               obtain ⟨Ao38, co38, eo38⟩ := Kd.jV HO_7.out
               subst eo38
               have p464 : 0 ≤ ((ji30) : Int) := of_decide_eq_true am_
               have q464 : (ji30) < (x7_3.length : Int) := of_decide_eq_true am_
               obtain ⟨ad464, e464, hx464_0⟩ := Kd.vw (Kd.jE HO_7.out).2.2 (ji30) p464 q464
               cases e464
               replace p464 := eq_true p464
               replace q464 := eq_true q464
               have p465 : 0 ≤ (x9_2 : Int) := of_decide_eq_true am_
               have q465 : x9_2 < (t445.length : Int) := of_decide_eq_true am_
               obtain ⟨ad465, e465, hx465_0⟩ := Kd.vw (Kd.jE HO_5.out).2.2 x9_2 p465 q465
               cases e465
               replace p465 := eq_true p465
               replace q465 := eq_true q465
               go_wp2_with (first | (go_at_call 69; (with_reducible refine (jh.calls _ _ t448 x11_3 t466 _ ?side1 ?side2 A35.out).mono ?_); (case side1 => exact cc_ (Kd.jE HO_6.out).2.2); (case side2 => exact (Kd.jE HO_6.out).2.1); rintro e w' ⟨rfl, ⟨nd, rfl⟩⟩; (try first | exact ⟨rfl, _, World.drewN_drewN _ _ _⟩ | exact ⟨rfl, _, Eq.trans (World.drewN_drewN _ _ _) (congrArg (World.drewN _) (Nat.add_assoc _ _ _))⟩); have p37 : 0 ≤ ((ji30) : Int) := of_decide_eq_true am_; have q37 : ((ji30) : Int) < ((x7_3.length : Int) : Int) := of_decide_eq_true am_; obtain ⟨go37, co37, eo37, gb37, gl37, cl37, HG37⟩ := Kd.jAB HO_7.out (by omega); (first | cases eo37 | (injection eo37 with ea_ en_ ec_; (first | subst ea_ | (injection ea_ with ea_; subst ea_)); subst ec_; clear en_)); have GB37 := jA.mk gb37; have GG37 := jA.mk HG37; clear gb37 gl37 HG37; (first | simp only [add_plain] at hx464_0 | skip); obtain ⟨hx37_0, hf37_0⟩ := Kd.zK 0 HO_7.out ((ji30) : Int) p37 q37; replace p37 := eq_true p37; replace q37 := eq_true q37; obtain ⟨hy39_, hz39_⟩ := Kd.zK 0 HO_7.out ((ji30) : Int) (of_decide_eq_true am_) (of_decide_eq_true am_); have HP39 := Kd.qw HO_7.out ((ji30) : Int) ji36) | ((with_reducible refine zu (t := 22) (p := 70) rfl ?_); (try (rw [qh wr]; generalize hq_ : World.drewN wr _ = wr; replace HO_5 := jA.mk (Kd.R_at hq_ HO_5.out); replace HO_6 := jA.mk (Kd.R_at hq_ HO_6.out); replace HO_7 := jA.mk (Kd.R_at hq_ HO_7.out); replace HB := jA.mk (jBU hq_ HB.out); clear hq_; (try (obtain ⟨hy39_, hz39_⟩ := Kd.zK 0 HO_7.out ((ji30) : Int) (of_decide_eq_true am_) (of_decide_eq_true am_))); (try (have HP39 := Kd.qw HO_7.out ((ji30) : Int) ji36)))); refine zX (t := 22) (p := 70) (v := ?vo_w40) (w1 := (wr.setCell ⟨go37, ((ji30) : Int).toNat, none⟩ (.int .u64 ji36))) ?hg ?ho ?hn ?hr ?_; (case ho => rfl); (case hg => rfl); (case hn => rfl); (case hr => exact gs_); intro w40 hw; have hg : wr.grownBy w40 (some go37) := (by rw [hw]; exact HP39.2); have hp_ : Kd.R (Kd.int .u64) 22 w40 w.heap.size (fun k_ => some k_ ≠ (.slice (some ad465) t445.length co14 : Value).ownBlock ∧ some k_ ≠ (.slice Ao15 t448.length co15 : Value).ownBlock) (.slice (some ⟨go37, 0, none⟩) x7_3.length co38) y467 := (by rw [hw, Ny467.out]; exact HP39.1); clear HP39; replace HO_5 := jA.mk (Kd.zW (v := (.slice (some ⟨go37, 0, none⟩) x7_3.length co38)) (v1 := (.slice (some ⟨go37, 0, none⟩) x7_3.length co38)) (ok := (fun k_ => some k_ ≠ (.slice Ao15 t448.length co15 : Value).ownBlock)) (rR_ HO_5) hg (.inl rfl)); replace HO_6 := jA.mk (Kd.zW (v := (.slice (some ⟨go37, 0, none⟩) x7_3.length co38)) (v1 := (.slice (some ⟨go37, 0, none⟩) x7_3.length co38)) (ok := (fun k_ => some k_ ≠ (.slice (some ad465) t445.length co14 : Value).ownBlock)) (rR_ HO_6) hg (.inl rfl)); replace HO_7 := jA.mk (hp_); replace HB := jA.mk ((by rw [hw]; exact vI (HB.out) GB37.out : Below w.heap.size w w40)); clear hg hw hp_))
               repeat (go_quiet (first | (go_at_call 69; (with_reducible refine (jh.calls _ _ t448 x11_3 t466 _ ?side1 ?side2 A35.out).mono ?_); (case side1 => exact cc_ (Kd.jE HO_6.out).2.2); (case side2 => exact (Kd.jE HO_6.out).2.1); rintro e w' ⟨rfl, ⟨nd, rfl⟩⟩; (try first | exact ⟨rfl, _, World.drewN_drewN _ _ _⟩ | exact ⟨rfl, _, Eq.trans (World.drewN_drewN _ _ _) (congrArg (World.drewN _) (Nat.add_assoc _ _ _))⟩); have p37 : 0 ≤ ((ji30) : Int) := of_decide_eq_true am_; have q37 : ((ji30) : Int) < ((x7_3.length : Int) : Int) := of_decide_eq_true am_; obtain ⟨go37, co37, eo37, gb37, gl37, cl37, HG37⟩ := Kd.jAB HO_7.out (by omega); (first | cases eo37 | (injection eo37 with ea_ en_ ec_; (first | subst ea_ | (injection ea_ with ea_; subst ea_)); subst ec_; clear en_)); have GB37 := jA.mk gb37; have GG37 := jA.mk HG37; clear gb37 gl37 HG37; (first | simp only [add_plain] at hx464_0 | skip); obtain ⟨hx37_0, hf37_0⟩ := Kd.zK 0 HO_7.out ((ji30) : Int) p37 q37; replace p37 := eq_true p37; replace q37 := eq_true q37; obtain ⟨hy39_, hz39_⟩ := Kd.zK 0 HO_7.out ((ji30) : Int) (of_decide_eq_true am_) (of_decide_eq_true am_); have HP39 := Kd.qw HO_7.out ((ji30) : Int) ji36) | ((with_reducible refine zu (t := 22) (p := 70) rfl ?_); (try (rw [qh wr]; generalize hq_ : World.drewN wr _ = wr; replace HO_5 := jA.mk (Kd.R_at hq_ HO_5.out); replace HO_6 := jA.mk (Kd.R_at hq_ HO_6.out); replace HO_7 := jA.mk (Kd.R_at hq_ HO_7.out); replace HB := jA.mk (jBU hq_ HB.out); clear hq_; (try (obtain ⟨hy39_, hz39_⟩ := Kd.zK 0 HO_7.out ((ji30) : Int) (of_decide_eq_true am_) (of_decide_eq_true am_))); (try (have HP39 := Kd.qw HO_7.out ((ji30) : Int) ji36)))); refine zX (t := 22) (p := 70) (v := ?vo_w40) (w1 := (wr.setCell ⟨go37, ((ji30) : Int).toNat, none⟩ (.int .u64 ji36))) ?hg ?ho ?hn ?hr ?_; (case ho => rfl); (case hg => rfl); (case hn => rfl); (case hr => exact gs_); intro w40 hw; have hg : wr.grownBy w40 (some go37) := (by rw [hw]; exact HP39.2); have hp_ : Kd.R (Kd.int .u64) 22 w40 w.heap.size (fun k_ => some k_ ≠ (.slice (some ad465) t445.length co14 : Value).ownBlock ∧ some k_ ≠ (.slice Ao15 t448.length co15 : Value).ownBlock) (.slice (some ⟨go37, 0, none⟩) x7_3.length co38) y467 := (by rw [hw, Ny467.out]; exact HP39.1); clear HP39; replace HO_5 := jA.mk (Kd.zW (v := (.slice (some ⟨go37, 0, none⟩) x7_3.length co38)) (v1 := (.slice (some ⟨go37, 0, none⟩) x7_3.length co38)) (ok := (fun k_ => some k_ ≠ (.slice Ao15 t448.length co15 : Value).ownBlock)) (rR_ HO_5) hg (.inl rfl)); replace HO_6 := jA.mk (Kd.zW (v := (.slice (some ⟨go37, 0, none⟩) x7_3.length co38)) (v1 := (.slice (some ⟨go37, 0, none⟩) x7_3.length co38)) (ok := (fun k_ => some k_ ≠ (.slice (some ad465) t445.length co14 : Value).ownBlock)) (rR_ HO_6) hg (.inl rfl)); replace HO_7 := jA.mk (hp_); replace HB := jA.mk ((by rw [hw]; exact vI (HB.out) GB37.out : Below w.heap.size w w40)); clear hg hw hp_)); try go_wp2_with (first | (go_at_call 69; (with_reducible refine (jh.calls _ _ t448 x11_3 t466 _ ?side1 ?side2 A35.out).mono ?_); (case side1 => exact cc_ (Kd.jE HO_6.out).2.2); (case side2 => exact (Kd.jE HO_6.out).2.1); rintro e w' ⟨rfl, ⟨nd, rfl⟩⟩; (try first | exact ⟨rfl, _, World.drewN_drewN _ _ _⟩ | exact ⟨rfl, _, Eq.trans (World.drewN_drewN _ _ _) (congrArg (World.drewN _) (Nat.add_assoc _ _ _))⟩); have p37 : 0 ≤ ((ji30) : Int) := of_decide_eq_true am_; have q37 : ((ji30) : Int) < ((x7_3.length : Int) : Int) := of_decide_eq_true am_; obtain ⟨go37, co37, eo37, gb37, gl37, cl37, HG37⟩ := Kd.jAB HO_7.out (by omega); (first | cases eo37 | (injection eo37 with ea_ en_ ec_; (first | subst ea_ | (injection ea_ with ea_; subst ea_)); subst ec_; clear en_)); have GB37 := jA.mk gb37; have GG37 := jA.mk HG37; clear gb37 gl37 HG37; (first | simp only [add_plain] at hx464_0 | skip); obtain ⟨hx37_0, hf37_0⟩ := Kd.zK 0 HO_7.out ((ji30) : Int) p37 q37; replace p37 := eq_true p37; replace q37 := eq_true q37; obtain ⟨hy39_, hz39_⟩ := Kd.zK 0 HO_7.out ((ji30) : Int) (of_decide_eq_true am_) (of_decide_eq_true am_); have HP39 := Kd.qw HO_7.out ((ji30) : Int) ji36) | ((with_reducible refine zu (t := 22) (p := 70) rfl ?_); (try (rw [qh wr]; generalize hq_ : World.drewN wr _ = wr; replace HO_5 := jA.mk (Kd.R_at hq_ HO_5.out); replace HO_6 := jA.mk (Kd.R_at hq_ HO_6.out); replace HO_7 := jA.mk (Kd.R_at hq_ HO_7.out); replace HB := jA.mk (jBU hq_ HB.out); clear hq_; (try (obtain ⟨hy39_, hz39_⟩ := Kd.zK 0 HO_7.out ((ji30) : Int) (of_decide_eq_true am_) (of_decide_eq_true am_))); (try (have HP39 := Kd.qw HO_7.out ((ji30) : Int) ji36)))); refine zX (t := 22) (p := 70) (v := ?vo_w40) (w1 := (wr.setCell ⟨go37, ((ji30) : Int).toNat, none⟩ (.int .u64 ji36))) ?hg ?ho ?hn ?hr ?_; (case ho => rfl); (case hg => rfl); (case hn => rfl); (case hr => exact gs_); intro w40 hw; have hg : wr.grownBy w40 (some go37) := (by rw [hw]; exact HP39.2); have hp_ : Kd.R (Kd.int .u64) 22 w40 w.heap.size (fun k_ => some k_ ≠ (.slice (some ad465) t445.length co14 : Value).ownBlock ∧ some k_ ≠ (.slice Ao15 t448.length co15 : Value).ownBlock) (.slice (some ⟨go37, 0, none⟩) x7_3.length co38) y467 := (by rw [hw, Ny467.out]; exact HP39.1); clear HP39; replace HO_5 := jA.mk (Kd.zW (v := (.slice (some ⟨go37, 0, none⟩) x7_3.length co38)) (v1 := (.slice (some ⟨go37, 0, none⟩) x7_3.length co38)) (ok := (fun k_ => some k_ ≠ (.slice Ao15 t448.length co15 : Value).ownBlock)) (rR_ HO_5) hg (.inl rfl)); replace HO_6 := jA.mk (Kd.zW (v := (.slice (some ⟨go37, 0, none⟩) x7_3.length co38)) (v1 := (.slice (some ⟨go37, 0, none⟩) x7_3.length co38)) (ok := (fun k_ => some k_ ≠ (.slice (some ad465) t445.length co14 : Value).ownBlock)) (rR_ HO_6) hg (.inl rfl)); replace HO_7 := jA.mk (hp_); replace HB := jA.mk ((by rw [hw]; exact vI (HB.out) GB37.out : Below w.heap.size w w40)); clear hg hw hp_)))
               go_roundg k3
               case measure => have := HK1.out; have := HK2.out; have := HK3.out; omega
               case rel => exact ⟨(y467), (IntKind.u64.wrap (Int.tdiv (IntKind.u64.wrap ((IntKind.u64.wrap ((rd x7_3 (ji30)) + (IntKind.u64.wrap ((rd t445 x9_2) * t466)))) + x10_3)) 4294967296)), (wrap64 (x11_3 + 1)), (by first | rfl | (simp; done) | (simp only [← hji30] <;> (first | rfl | simp)) | (simp [*]; done)), sd_, H', ⟨by have := HK1.out; have := HK2.out; have := HK3.out; omega⟩, ⟨(rR_ HO_5)⟩, ⟨(rR_ HO_6)⟩, ⟨(rR_ HO_7)⟩, ⟨(bb_ HB)⟩⟩
              ·
               rw [if_neg c34] at H
               exact absurd H (by simp)
             ·
              rw [if_neg c33] at H
              exact absurd H (by simp)
            ·
             rw [if_neg c32] at H
             exact absurd H (by simp)
           ·
            rw [if_neg c31] at H
            exact absurd H (by simp)
          ·
           rw [if_neg c29] at H
           have c29b0 := decide_eq_false c29
           clear c29
           have H' := jA.mk H
           clear H
           go_wp2
           repeat (go_quiet (fail); try go_wp2)
           go_roundg k3
           case measure => have := HK1.out; have := HK2.out; have := HK3.out; omega
           case rel => exact ⟨(x7_3), (wrap64 (x9_2 + 1)), sd_, H', ⟨by have := HK1.out; have := HK2.out; have := HK3.out; omega⟩, ⟨(rR_ HO_5)⟩, ⟨(rR_ HO_6)⟩, ⟨(rR_ HO_7)⟩, ⟨(bb_ HB)⟩⟩
      ·
       rw [if_neg c16] at H
       have c16b0 := decide_eq_false c16
       clear c16
       replace H := ob_ H
       obtain ⟨t457, A410, H⟩ := H
       replace H : (some t457) = some r := H
       have A41 := jA.mk A410
       clear A410
       obtain rfl := Option.some.inj H
       obtain ⟨Ao42, co42, eo42⟩ := Kd.jV HO_7.out
       subst eo42
       go_wp2_with (first | (go_at_call 70; (with_reducible refine (jM.calls k2 _ _ x7_2 t457 _ ?side1 ?side2 A41.out).mono ?_); (case side1 => exact cc_ (Kd.jE HO_7.out).2.2); (case side2 => exact (Kd.jE HO_7.out).2.1); rintro e w43 ⟨v458, rfl, ho0, hb⟩; have HO459 := jA.mk (Kd.jN (Kd.jL (Kd.jL (Kd.jL ho0 (Kd.R_lt (rR_ HO_5))) (Kd.R_lt (rR_ HO_6))) (Kd.R_lt (rR_ HO_7))) (jC (bb_ HB))); replace HO_5 := re_ HO_5 ho0 hb; replace HO_6 := re_ HO_6 ho0 hb; replace HO_7 := re_ HO_7 ho0 hb; replace HB := bs_ HB hb))
       repeat (go_quiet (first | (go_at_call 70; (with_reducible refine (jM.calls k2 _ _ x7_2 t457 _ ?side1 ?side2 A41.out).mono ?_); (case side1 => exact cc_ (Kd.jE HO_7.out).2.2); (case side2 => exact (Kd.jE HO_7.out).2.1); rintro e w43 ⟨v458, rfl, ho0, hb⟩; have HO459 := jA.mk (Kd.jN (Kd.jL (Kd.jL (Kd.jL ho0 (Kd.R_lt (rR_ HO_5))) (Kd.R_lt (rR_ HO_6))) (Kd.R_lt (rR_ HO_7))) (jC (bb_ HB))); replace HO_5 := re_ HO_5 ho0 hb; replace HO_6 := re_ HO_6 ho0 hb; replace HO_7 := re_ HO_7 ho0 hb; replace HB := bs_ HB hb)); try go_wp2_with (first | (go_at_call 70; (with_reducible refine (jM.calls k2 _ _ x7_2 t457 _ ?side1 ?side2 A41.out).mono ?_); (case side1 => exact cc_ (Kd.jE HO_7.out).2.2); (case side2 => exact (Kd.jE HO_7.out).2.1); rintro e w43 ⟨v458, rfl, ho0, hb⟩; have HO459 := jA.mk (Kd.jN (Kd.jL (Kd.jL (Kd.jL ho0 (Kd.R_lt (rR_ HO_5))) (Kd.R_lt (rR_ HO_6))) (Kd.R_lt (rR_ HO_7))) (jC (bb_ HB))); replace HO_5 := re_ HO_5 ho0 hb; replace HO_6 := re_ HO_6 ho0 hb; replace HO_7 := re_ HO_7 ho0 hb; replace HB := bs_ HB hb)))
       go_ret
       exact ⟨_, ew_, by refine pR_ ?_; exact Kd.jT HO459.out (fun _ hk => trivial), (bb_ HB)⟩
mutual
def jO.l0 : Nat → List Int → List Int → List Int → Int → Int → Option (List Int)
 | 0, _, _, _, _, _ => none
 | k + 1, x5, x6, x7, x8, x9 => if x9 < (x5.length : Int) then (jO.j1 k x5 x6 x7 x8 x9 true) else (if x9 < (x6.length : Int) then (jO.j1 k x5 x6 x7 x8 x9 true) else (jO.j1 k x5 x6 x7 x8 x9 (decide (x8 > 0))))
def jO.j1 : Nat → List Int → List Int → List Int → Int → Int → Bool → Option (List Int)
 | 0, _, _, _, _, _, _ => none
 | k + 1, x5, x6, x7, x8, x9, x29 => if x29 = true then ((jh.f x5 x9).bind fun t477 => ((jh.f x6 x9).bind fun t478 => (if x7.length < 17592186044416 then (jO.l0 k x5 x6 (x7 ++ [Int.tmod (IntKind.u64.wrap ((IntKind.u64.wrap (t477 + t478)) + x8)) 4294967296]) (IntKind.u64.wrap (Int.tdiv (IntKind.u64.wrap ((IntKind.u64.wrap (t477 + t478)) + x8)) 4294967296)) (wrap64 (x9 + 1))) else (none)))) else ((jM.f k x7).bind fun t482 => (some t482))
end
def jO.f (k : Nat) (l0 : List Int) (l1 : List Int) : Option (List Int) := (jG.f k l0).bind fun t468 => ((jG.f k l1).bind fun t471 => (jO.l0 k t468 t471 (([] : List Int)) 0 0))
theorem jO.vS : ∀ k, (∀ y0 y1 y2 y3 y4, LeO (jO.l0 k y0 y1 y2 y3 y4) (jO.l0 (k + 1) y0 y1 y2 y3 y4)) ∧ (∀ y0 y1 y2 y3 y4 y5, LeO (jO.j1 k y0 y1 y2 y3 y4 y5) (jO.j1 (k + 1) y0 y1 y2 y3 y4 y5))
 | 0 => ⟨fun _ _ _ _ _ r h => by simp [jO.l0] at h, fun _ _ _ _ _ _ r h => by simp [jO.j1] at h⟩
 | k + 1 => by
  obtain ⟨ih0, ih1⟩ := jO.vS k
  refine ⟨?_, ?_⟩ <;> (intros; first | unfold jO.l0 | unfold jO.j1) <;> repeat' first
   | (with_reducible exact ih0 _ _ _ _ _)
   | (with_reducible exact ih1 _ _ _ _ _ _)
   | (with_reducible exact jG.mono _ _)
   | (with_reducible exact jM.mono _ _)
   | (with_reducible exact LeO.refl _)
   | (with_reducible exact LeO.none _)
   | (with_reducible refine LeO.ite ?_ ?_)
   | (with_reducible refine LeO.bind ?_ (fun _ => ?_))
theorem jO.mono : ∀ a0 a1 k, LeO (jO.f k a0 a1) (jO.f (k + 1) a0 a1) := by
 intro a0 a1 k
 obtain ⟨ih0, ih1⟩ := jO.vS k
 unfold jO.f
 repeat' first
   | (with_reducible exact ih0 _ _ _ _ _)
   | (with_reducible exact ih1 _ _ _ _ _ _)
   | (with_reducible exact jG.mono _ _)
   | (with_reducible exact jM.mono _ _)
   | (with_reducible exact LeO.refl _)
   | (with_reducible exact LeO.none _)
   | (with_reducible refine LeO.ite ?_ ?_)
   | (with_reducible refine LeO.bind ?_ (fun _ => ?_))
theorem jO.calls (k : Nat) (A0 : Option Addr) (c0 : Nat) (l0 : List Int) (A1 : Option Addr) (c1 : Nat) (l1 : List Int) (r : List Int) (w : World) (hr0 : Kd.C (Kd.int .u64) w A0 l0.length l0) (hc0 : l0.length ≤ c0) (hr1 : Kd.C (Kd.int .u64) w A1 l1.length l1) (hc1 : l1.length ≤ c1) (h : jO.f k l0 l1 = some r) :
  Calls Try.prog 102 #[.slice A0 l0.length c0, .slice A1 l1.length c1] w fun e w' => ∃ v0_ : Value, e = .returned (v0_) ∧ Kd.R (Kd.int .u64) 22 w' w.heap.size (fun _ => True) v0_ r ∧ Below w.heap.size w w' := by
 have HR0 := jA.mk hr0
 have HC0 := jA.mk hc0
 clear hr0 hc0
 have HR1 := jA.mk hr1
 have HC1 := jA.mk hc1
 clear hr1 hc1
 have HB := jA.mk (Below.refl w.heap.size w)
 have H : ((jG.f k l0).bind fun t468 => ((jG.f k l1).bind fun t471 => (jO.l0 k t468 t471 (([] : List Int)) 0 0))) = some r := h
 clear h
 obtain ⟨t468, A3, H⟩ := oc_ H
 try dsimp only at H
 obtain ⟨t471, A4, H⟩ := oc_ H
 try dsimp only at H
 obtain ⟨y474, hy474⟩ : ∃ y_ : List Int, y_ = (([] : List Int)) := ⟨_, rfl⟩
 replace H : (jO.l0 k t468 t471 y474 0 0) = some r := by first | (rw [hy474]; with_reducible exact H) | (have H2_ := (Option.bind_some _ _).symm.trans H; rw [hy474]; with_reducible exact H2_) | (with_reducible exact hs_ H) | with_reducible exact H | (rw [hy474]; exact H) | exact H
 have Ny474 := jA.mk hy474
 clear hy474
 have H' := jA.mk H
 clear H
 go_enter Try.func102, Try.ntmps102
 go_wp2_with (first | ((with_reducible refine jH (f := 68) rfl ?_); refine gl_ (some 12) Try.func68 #[.slice A0 l0.length c0] ?_; (with_reducible refine (jG.calls k _ _ l0 t468 _ ?side1 ?side2 A3.out).mono ?_); (case side1 => exact cc_ HR0.out); (case side2 => exact HC0.out); rintro e w5 ⟨v469, rfl, ho0, hb⟩; refine ⟨_, rfl, ?_⟩; have HO470 := jA.mk (Kd.jN ho0 (jC (bb_ HB))); replace HB := bs_ HB hb) | ((with_reducible refine jH (f := 68) rfl ?_); refine gl_ (some 14) Try.func68 #[.slice A1 l1.length c1] ?_; (with_reducible refine (jG.calls k _ _ l1 t471 _ ?side1 ?side2 A4.out).mono ?_); (case side1 => exact cb_ HR1 HB); (case side2 => exact HC1.out); rintro e w6 ⟨v472, rfl, ho0, hb⟩; refine ⟨_, rfl, ?_⟩; have HO473 := jA.mk (Kd.jN (Kd.jL ho0 (Kd.R_lt (rR_ HO470))) (jC (bb_ HB))); replace HO470 := re_ HO470 ho0 hb; replace HB := bs_ HB hb) | ((with_reducible refine jX (N := 15) rfl ?_); (try (refine jr (by rfl) ?_; dsimp only)); refine Kd.jAC (Kd.int .u64) _ 22 ?hg (N := 15) ?hd (xs := ([] : List Int)) (inner := []) (ok := fun _ => True) (okp := fun _ => True) ?hr ?hp (fun _ hk => hk) trivial (Below.refl _ _) (Nat.le_refl _) (by simp) ?_; (case hd => rfl); (case hg => rfl); (case hr => exact gs_); (case hp => exact (Reps.none _ _)); intro v475 w7 ho8 hb hg_ hnew_; clear hg_ hnew_; (first | rw [← Ny474.out] at ho8 | (simp only [Int.reduceToNat] at ho8; rw [← Ny474.out] at ho8)); have HO476 := jA.mk (Kd.jN (Kd.jL (Kd.jL ho8 (Kd.R_lt (rR_ HO470))) (Kd.R_lt (rR_ HO473))) (jC (bb_ HB))); replace HO470 := re_ HO470 ho8 hb; replace HO473 := re_ HO473 ho8 hb; replace HB := bs_ HB hb; clear hb ho8))
 go_loopg [7, 8, 9] k (fun kq v7 v8 v9 w' => ∃ (x7_1 : List Int) (x8_1 : Int) (x9_1 : Int), v8 = .int .u64 x8_1 ∧ v9 = .int .i64 x9_1 ∧ jA (jO.l0 kq t468 t471 x7_1 x8_1 x9_1 = some r) ∧ jA (kq ≤ k) ∧ jA (Kd.R (Kd.int .u64) 22 w' w.heap.size (fun k_ => some k_ ≠ (v472 : Value).ownBlock ∧ some k_ ≠ (v7 : Value).ownBlock) v469 t468) ∧ jA (Kd.R (Kd.int .u64) 22 w' w.heap.size (fun k_ => some k_ ≠ (v469 : Value).ownBlock ∧ some k_ ≠ (v7 : Value).ownBlock) v472 t471) ∧ jA (Kd.R (Kd.int .u64) 22 w' w.heap.size (fun k_ => some k_ ≠ (v469 : Value).ownBlock ∧ some k_ ≠ (v472 : Value).ownBlock) v7 x7_1) ∧ jA (Below w.heap.size w w'))
 case atStart => exact ⟨(y474), (0), (0), sd_, sd_, H', ⟨Nat.le_refl _⟩, ⟨by (with_reducible repeat (first | apply Kd.zM | apply Kd.zT | apply Kd.zZ)); exact Kd.jT HO470.out (fun _ hk => ⟨hk.1.2, hk.2⟩)⟩, ⟨by (with_reducible repeat (first | apply Kd.zM | apply Kd.zT | apply Kd.zZ)); exact Kd.jT HO473.out (fun _ hk => ⟨hk.1.2, hk.2⟩)⟩, ⟨by (with_reducible repeat (first | apply Kd.zM | apply Kd.zT | apply Kd.zZ)); exact Kd.jT HO476.out (fun _ hk => ⟨hk.1.2, hk.2⟩)⟩, ⟨(bb_ HB)⟩⟩
 case round =>
  clear H'
  try clear c1
  try clear p2
  try clear c6
  obtain ⟨x7_1, x8_1, x9_1, rfl, rfl, HA, HK1, HO_5, HO_6, HO_7, HB⟩ := hrel
  cases gk with
  | zero => exact absurd HA.out (by simp [jO.l0])
  | succ k1 =>
   have H := HA.out
   clear HA
   simp only [jO.l0] at H
   have HC9 := jA.mk H
   clear H
   go_upto_region 6 with (fail)
   go_cut [29] (fun v29 wc => ∃ (kq : Nat) (x29_8 : Bool), v29 = .bool x29_8 ∧ jA (jO.j1 kq t468 t471 x7_1 x8_1 x9_1 x29_8 = some r) ∧ jA (kq ≤ k1) ∧ jA (Kd.R (Kd.int .u64) 22 wc w.heap.size (fun k_ => some k_ ≠ (v472 : Value).ownBlock ∧ some k_ ≠ (u7 : Value).ownBlock) v469 t468) ∧ jA (Kd.R (Kd.int .u64) 22 wc w.heap.size (fun k_ => some k_ ≠ (v469 : Value).ownBlock ∧ some k_ ≠ (u7 : Value).ownBlock) v472 t471) ∧ jA (Kd.R (Kd.int .u64) 22 wc w.heap.size (fun k_ => some k_ ≠ (v469 : Value).ownBlock ∧ some k_ ≠ (v472 : Value).ownBlock) u7 x7_1) ∧ jA (Below w.heap.size w wc))
   case first =>
    have H := HC9.out
    clear HC9
    by_cases c10 : x9_1 < (t468.length : Int)
    ·
     rw [if_pos c10] at H
     have c10b0 := decide_eq_true c10
     clear c10
     (first | rw [c10b0] | (simp only [qZ, jAd]; rw [c10b0]) | skip)
     have H' := jA.mk H
     clear H
     obtain ⟨Ao11, co11, eo11⟩ := Kd.jV HO_5.out
     subst eo11
     go_wp2
     go_meet
     case rel => exact ⟨_, (true), sd_, H', ⟨by have := HK1.out; first | omega | exact Nat.le_refl _⟩, ⟨(rR_ HO_5)⟩, ⟨(rR_ HO_6)⟩, ⟨(rR_ HO_7)⟩, ⟨(bb_ HB)⟩⟩
    ·
     rw [if_neg c10] at H
     have c10b0 := decide_eq_false c10
     clear c10
     (first | rw [c10b0] | (simp only [qZ, jAd]; rw [c10b0]) | skip)
     by_cases c12 : x9_1 < (t471.length : Int)
     ·
      rw [if_pos c12] at H
      have c12b0 := decide_eq_true c12
      clear c12
      have H' := jA.mk H
      clear H
      obtain ⟨Ao13, co13, eo13⟩ := Kd.jV HO_5.out
      subst eo13
      obtain ⟨Ao14, co14, eo14⟩ := Kd.jV HO_6.out
      subst eo14
      go_wp2
      go_meet
      case rel => exact ⟨_, (true), sd_, H', ⟨by have := HK1.out; first | omega | exact Nat.le_refl _⟩, ⟨(rR_ HO_5)⟩, ⟨(rR_ HO_6)⟩, ⟨(rR_ HO_7)⟩, ⟨(bb_ HB)⟩⟩
     ·
      rw [if_neg c12] at H
      have c12b0 := decide_eq_false c12
      clear c12
      have H' := jA.mk H
      clear H
      obtain ⟨Ao15, co15, eo15⟩ := Kd.jV HO_5.out
      subst eo15
      obtain ⟨Ao16, co16, eo16⟩ := Kd.jV HO_6.out
      subst eo16
      go_wp2
      go_meet
      case rel => exact ⟨_, (decide (x8_1 > 0)), sd_, H', ⟨by have := HK1.out; first | omega | exact Nat.le_refl _⟩, ⟨(rR_ HO_5)⟩, ⟨(rR_ HO_6)⟩, ⟨(rR_ HO_7)⟩, ⟨(bb_ HB)⟩⟩
   case rest =>
    clear HC9
    try clear c1
    try clear p2
    try clear c6
    try clear c10
    try clear c10b0
    try clear c12
    try clear c12b0
    try clear p2
    obtain ⟨kq, x29_8, rfl, HA, HJ8, HO_5, HO_6, HO_7, HB⟩ := hcut
    cases kq with
    | zero => exact absurd HA.out (by simp [jO.j1])
    | succ kj8 =>
     have H := HA.out
     clear HA
     simp only [jO.j1] at H
     by_cases c17 : x29_8 = true
     ·
      subst c17
      replace H := ip_ H
      obtain ⟨t477, A18, H⟩ := oc_ H
      try dsimp only at H
      obtain ⟨t478, A19, H⟩ := oc_ H
      try dsimp only at H
      obtain ⟨ji20, hji20⟩ : ∃ j_ : Int, (Int.tmod (IntKind.u64.wrap ((IntKind.u64.wrap (t477 + t478)) + x8_1)) 4294967296) = j_ := ⟨_, rfl⟩
      replace H : (if x7_1.length < 17592186044416 then (jO.l0 kj8 t468 t471 (x7_1 ++ [ji20]) (IntKind.u64.wrap (Int.tdiv (IntKind.u64.wrap ((IntKind.u64.wrap (t477 + t478)) + x8_1)) 4294967296)) (wrap64 (x9_1 + 1))) else (none)) = some r := by first | (rw [hji20] at H; exact H) | (simp only [hji20] at H ⊢; exact H)
      (try rw [hji20] at A18)
      (try rw [hji20] at A19)
      by_cases c21 : x7_1.length < 17592186044416
      ·
       rw [if_pos c21] at H
       have LMc21 := jA.mk c21
       clear c21
       obtain ⟨y479, hy479⟩ : ∃ y_ : List Int, y_ = (x7_1 ++ [ji20]) := ⟨_, rfl⟩
       replace H : (jO.l0 kj8 t468 t471 y479 (IntKind.u64.wrap (Int.tdiv (IntKind.u64.wrap ((IntKind.u64.wrap (t477 + t478)) + x8_1)) 4294967296)) (wrap64 (x9_1 + 1))) = some r := by first | (rw [hy479]; with_reducible exact H) | (have H2_ := (Option.bind_some _ _).symm.trans H; rw [hy479]; with_reducible exact H2_) | (with_reducible exact hs_ H) | with_reducible exact H | (rw [hy479]; exact H) | exact H
       have Ny479 := jA.mk hy479
       clear hy479
       have H' := jA.mk H
       clear H
       obtain ⟨Ao22, co22, eo22⟩ := Kd.jV HO_5.out
       subst eo22
       go_wp2_with (first | ((with_reducible refine jH (f := 69) rfl ?_); refine gl_ (some 34) Try.func69 #[.slice Ao22 t468.length co22, .int .i64 x9_1] ?_; (with_reducible refine (jh.calls _ _ t468 x9_1 t477 _ ?side1 ?side2 A18.out).mono ?_); (case side1 => exact cc_ (Kd.jE HO_5.out).2.2); (case side2 => exact (Kd.jE HO_5.out).2.1); rintro e w' ⟨rfl, ⟨nd, rfl⟩⟩; refine ⟨_, rfl, ?_⟩; obtain ⟨Ao23, co23, rfl⟩ := Kd.jV HO_6.out) | ((with_reducible refine jH (f := 69) rfl ?_); refine gl_ (some 37) Try.func69 #[.slice Ao23 t471.length co23, .int .i64 x9_1] ?_; (with_reducible refine (jh.calls _ _ t471 x9_1 t478 _ ?side1 ?side2 A19.out).mono ?_); (case side1 => exact cc_ (Kd.jE HO_6.out).2.2); (case side2 => exact (Kd.jE HO_6.out).2.1); rintro e w' ⟨rfl, ⟨nd, rfl⟩⟩; refine ⟨_, rfl, ?_⟩) | ((with_reducible refine vW (b := .append) (xs := #[.tmp 41, .tmp 44]) rfl ?_); (try (refine jr (by rfl) ?_; dsimp only)); at_builtin; refine Kd.qb (Kd.int .u64) (w0 := w) w.heap.size rfl (.tmp 41) (.tmp 44) 35 22 (.int .u64 0) 8 rfl Try.underlying35 qI rfl (by decide) (by omega) u7 x7_1 ji20 [.int .u64 ji20] (fun k_ => some k_ ≠ (.slice Ao22 t468.length co22 : Value).ownBlock ∧ some k_ ≠ (.slice Ao23 t471.length co23 : Value).ownBlock) (fun _ => False) rfl rfl ?aP (fun _ hk => hk.elim) ?aF ?aO ?aB ?aS ?aL ?_; (case aP => exact rfl); (case aB => exact (bb_ HB)); (case aF => exact (fun k_ hk => ⟨Kd.fresh' (Kd.R_lt (rR_ HO_5)) k_ hk, Kd.fresh' (Kd.R_lt (rR_ HO_6)) k_ hk⟩)); (case aO => exact (rR_ HO_7)); (case aS => exact (jC (bb_ HB))); (case aL => have := LMc21.out; omega); intro v480 w24 ho hb hg hat; rw [← Ny479.out] at ho; replace HO_5 := jA.mk (Kd.zW (ok := (fun k_ => some k_ ≠ (.slice Ao23 t471.length co23 : Value).ownBlock)) (rR_ HO_5) hg hat); replace HO_6 := jA.mk (Kd.zW (ok := (fun k_ => some k_ ≠ (.slice Ao22 t468.length co22 : Value).ownBlock)) (rR_ HO_6) hg hat); replace HB := jA.mk (hb); have HO481 := jA.mk (ho); clear HO_7 ho hb hg hat))
       go_roundg kj8
       case measure => have := HK1.out; have := HJ8.out; omega
       case rel => exact ⟨(y479), (IntKind.u64.wrap (Int.tdiv (IntKind.u64.wrap ((IntKind.u64.wrap (t477 + t478)) + x8_1)) 4294967296)), (wrap64 (x9_1 + 1)), sd_, sd_, H', ⟨by have := HK1.out; have := HJ8.out; omega⟩, ⟨(rR_ HO_5)⟩, ⟨(rR_ HO_6)⟩, ⟨(rR_ HO481)⟩, ⟨(bb_ HB)⟩⟩
      ·
       rw [if_neg c21] at H
       exact absurd H (by simp)
     ·
      replace c17 := Bool.eq_false_iff.mpr c17
      subst c17
      replace H := in_ H
      replace H := ob_ H
      obtain ⟨t482, A250, H⟩ := H
      replace H : (some t482) = some r := H
      have A25 := jA.mk A250
      clear A250
      obtain rfl := Option.some.inj H
      obtain ⟨Ao26, co26, eo26⟩ := Kd.jV HO_7.out
      subst eo26
      go_wp2_with (first | ((with_reducible refine jH (f := 70) rfl ?_); refine gl_ (some 49) Try.func70 #[.slice Ao26 x7_1.length co26] ?_; (with_reducible refine (jM.calls kj8 _ _ x7_1 t482 _ ?side1 ?side2 A25.out).mono ?_); (case side1 => exact cc_ (Kd.jE HO_7.out).2.2); (case side2 => exact (Kd.jE HO_7.out).2.1); rintro e w27 ⟨v483, rfl, ho0, hb⟩; refine ⟨_, rfl, ?_⟩; have HO484 := jA.mk (Kd.jN (Kd.jL (Kd.jL (Kd.jL ho0 (Kd.R_lt (rR_ HO_5))) (Kd.R_lt (rR_ HO_6))) (Kd.R_lt (rR_ HO_7))) (jC (bb_ HB))); replace HO_5 := re_ HO_5 ho0 hb; replace HO_6 := re_ HO_6 ho0 hb; replace HO_7 := re_ HO_7 ho0 hb; replace HB := bs_ HB hb))
      go_ret
      exact ⟨_, ew_, by refine pR_ ?_; exact Kd.jT HO484.out (fun _ hk => trivial), (bb_ HB)⟩
def jR.l0 : Nat → List Int → List Int → Int → Option (Int)
 | 0, _, _, _ => none
 | k + 1, x0, x1, x5 => if x5 ≥ 0 then ((jh.f x0 x5).bind fun t485 => ((jh.f x1 x5).bind fun t486 => (if t485 < t486 then (some (-1)) else ((jh.f x0 x5).bind fun t487 => ((jh.f x1 x5).bind fun t488 => (if t487 > t488 then (some 1) else (jR.l0 k x0 x1 (wrap64 (x5 - 1))))))))) else (some 0)
def jR.f (k : Nat) (l0 : List Int) (l1 : List Int) : Option (Int) := jR.l0 k l0 l1 (wrap64 ((mx (l0.length : Int) (l1.length : Int)) - 1))
theorem jR.vS : ∀ k, (∀ y0 y1 y2, LeO (jR.l0 k y0 y1 y2) (jR.l0 (k + 1) y0 y1 y2))
 | 0 => fun _ _ _ r h => by simp [jR.l0] at h
 | k + 1 => by
  have ih0 := jR.vS k
  ·
   intro y0 y1 y2
   unfold jR.l0
   repeat' first
   | (with_reducible exact ih0 _ _ _)
   | (with_reducible exact LeO.refl _)
   | (with_reducible exact LeO.none _)
   | (with_reducible refine LeO.ite ?_ ?_)
   | (with_reducible refine LeO.bind ?_ (fun _ => ?_))
theorem jR.mono : ∀ a0 a1 k, LeO (jR.f k a0 a1) (jR.f (k + 1) a0 a1) := by
 intro a0 a1 k
 have ih0 := jR.vS k
 unfold jR.f
 repeat' first
   | (with_reducible exact ih0 _ _ _)
   | (with_reducible exact LeO.refl _)
   | (with_reducible exact LeO.none _)
   | (with_reducible refine LeO.ite ?_ ?_)
   | (with_reducible refine LeO.bind ?_ (fun _ => ?_))
theorem jR.calls (k : Nat) (A0 : Option Addr) (c0 : Nat) (l0 : List Int) (A1 : Option Addr) (c1 : Nat) (l1 : List Int) (r : Int) (w : World) (hr0 : Kd.C (Kd.int .u64) w A0 l0.length l0) (hc0 : l0.length ≤ c0) (hr1 : Kd.C (Kd.int .u64) w A1 l1.length l1) (hc1 : l1.length ≤ c1) (h : jR.f k l0 l1 = some r) :
  Calls Try.prog 103 #[.slice A0 l0.length c0, .slice A1 l1.length c1] w fun e w' => e = .returned (.int .i64 r) ∧ Below w.heap.size w w' := by
 have HR0 := jA.mk hr0
 have HC0 := jA.mk hc0
 clear hr0 hc0
 have HR1 := jA.mk hr1
 have HC1 := jA.mk hc1
 clear hr1 hc1
 have HB := jA.mk (Below.refl w.heap.size w)
 have H : (jR.l0 k l0 l1 (wrap64 ((mx (l0.length : Int) (l1.length : Int)) - 1))) = some r := h
 clear h
 obtain ⟨ji3, hji3⟩ : ∃ j_ : Int, (mx (l0.length : Int) (l1.length : Int)) = j_ := ⟨_, rfl⟩
 replace H : (jR.l0 k l0 l1 (wrap64 ((ji3) - 1))) = some r := by first | (rw [hji3] at H; exact H) | (simp only [hji3] at H ⊢; exact H)
 (try (have hji3l : 0 ≤ ji3 := by (rw [← hji3]; unfold mx; (repeat' split) <;> omega)))
 (try (have hji3m : 0 ≤ ji3 := by omega))
 have hji3n : (if l0.length < l1.length then (l1.length : Int) else (l0.length : Int)) = ji3 := by rw [← hji3]; unfold mx; by_cases h_ : l0.length < l1.length <;> simp [h_]
 have hji3_ : (if (l0.length : Int) < (l1.length : Int) then (l1.length : Int) else (l0.length : Int)) = ji3 := hji3
 have H' := jA.mk H
 clear H
 go_enter Try.func103, Try.ntmps103
 go_wp2
 go_loopg [5] k (fun kq v5 w' => ∃ (x5_1 : Int), v5 = .int .i64 x5_1 ∧ jA (jR.l0 kq l0 l1 x5_1 = some r) ∧ jA (kq ≤ k) ∧ jA (Below w.heap.size w w'))
 case atStart => exact ⟨(wrap64 ((ji3) - 1)), (by first | rfl | (simp; done) | (simp only [← hji3] <;> (first | rfl | simp)) | (simp [*]; done)), H', ⟨Nat.le_refl _⟩, ⟨(bb_ HB)⟩⟩
 case round =>
  clear H'
  try clear c1
  try clear p2
  obtain ⟨x5_1, rfl, HA, HK1, HB⟩ := hrel
  cases gk with
  | zero => exact absurd HA.out (by simp [jR.l0])
  | succ k1 =>
   have H := HA.out
   clear HA
   simp only [jR.l0] at H
   by_cases c4 : x5_1 ≥ 0
   ·
    rw [if_pos c4] at H
    have c4b0 := decide_eq_true c4
    clear c4
    obtain ⟨t485, A5, H⟩ := oc_ H
    try dsimp only at H
    obtain ⟨t486, A6, H⟩ := oc_ H
    try dsimp only at H
    by_cases c7 : t485 < t486
    ·
     rw [if_pos c7] at H
     have c7b0 := decide_eq_true c7
     clear c7
     obtain rfl := Option.some.inj H
     go_wp2_with (first | ((with_reducible refine jH (f := 69) rfl ?_); refine gl_ (some 18) Try.func69 #[.slice A0 l0.length c0, .int .i64 x5_1] ?_; (with_reducible refine (jh.calls _ _ l0 x5_1 t485 _ ?side1 ?side2 A5.out).mono ?_); (case side1 => exact cb_ HR0 HB); (case side2 => exact HC0.out); rintro e w' ⟨rfl, ⟨nd, rfl⟩⟩; refine ⟨_, rfl, ?_⟩) | ((with_reducible refine jH (f := 69) rfl ?_); refine gl_ (some 21) Try.func69 #[.slice A1 l1.length c1, .int .i64 x5_1] ?_; (with_reducible refine (jh.calls _ _ l1 x5_1 t486 _ ?side1 ?side2 A6.out).mono ?_); (case side1 => repeat (first | exact (Kd.zl HR1.out (bb_ HB)) | (with_reducible refine Kd.zJ ?_ _) | (with_reducible refine Kd.zU ?_ _) | (with_reducible refine Kd.zx ?_))); (case side2 => exact HC1.out); rintro e w' ⟨rfl, ⟨nd, rfl⟩⟩; refine ⟨_, rfl, ?_⟩))
     go_ret
     exact ⟨by first | rfl | (simp [vY, vX] <;> rfl) | (simp only [← hji3]; first | rfl | (simp [vY, vX] <;> rfl)) | (simp [*, vY, vX] <;> rfl), (bb_ HB)⟩
    ·
     rw [if_neg c7] at H
     have c7b0 := decide_eq_false c7
     clear c7
     obtain ⟨t487, A8, H⟩ := oc_ H
     try dsimp only at H
     obtain ⟨t488, A9, H⟩ := oc_ H
     try dsimp only at H
     by_cases c10 : t487 > t488
     ·
      rw [if_pos c10] at H
      have c10b0 := decide_eq_true c10
      clear c10
      obtain rfl := Option.some.inj H
      go_wp2_with (first | ((with_reducible refine jH (f := 69) rfl ?_); refine gl_ (some 18) Try.func69 #[.slice A0 l0.length c0, .int .i64 x5_1] ?_; (with_reducible refine (jh.calls _ _ l0 x5_1 t485 _ ?side1 ?side2 A5.out).mono ?_); (case side1 => exact cb_ HR0 HB); (case side2 => exact HC0.out); rintro e w' ⟨rfl, ⟨nd, rfl⟩⟩; refine ⟨_, rfl, ?_⟩) | ((with_reducible refine jH (f := 69) rfl ?_); refine gl_ (some 21) Try.func69 #[.slice A1 l1.length c1, .int .i64 x5_1] ?_; (with_reducible refine (jh.calls _ _ l1 x5_1 t486 _ ?side1 ?side2 A6.out).mono ?_); (case side1 => repeat (first | exact (Kd.zl HR1.out (bb_ HB)) | (with_reducible refine Kd.zJ ?_ _) | (with_reducible refine Kd.zU ?_ _) | (with_reducible refine Kd.zx ?_))); (case side2 => exact HC1.out); rintro e w' ⟨rfl, ⟨nd, rfl⟩⟩; refine ⟨_, rfl, ?_⟩) | ((with_reducible refine jH (f := 69) rfl ?_); refine gl_ (some 25) Try.func69 #[.slice A0 l0.length c0, .int .i64 x5_1] ?_; (with_reducible refine (jh.calls _ _ l0 x5_1 t487 _ ?side1 ?side2 A8.out).mono ?_); (case side1 => repeat (first | exact (Kd.zl HR0.out (bb_ HB)) | (with_reducible refine Kd.zJ ?_ _) | (with_reducible refine Kd.zU ?_ _) | (with_reducible refine Kd.zx ?_))); (case side2 => exact HC0.out); rintro e w' ⟨rfl, ⟨nd, rfl⟩⟩; refine ⟨_, rfl, ?_⟩) | ((with_reducible refine jH (f := 69) rfl ?_); refine gl_ (some 28) Try.func69 #[.slice A1 l1.length c1, .int .i64 x5_1] ?_; (with_reducible refine (jh.calls _ _ l1 x5_1 t488 _ ?side1 ?side2 A9.out).mono ?_); (case side1 => repeat (first | exact (Kd.zl HR1.out (bb_ HB)) | (with_reducible refine Kd.zJ ?_ _) | (with_reducible refine Kd.zU ?_ _) | (with_reducible refine Kd.zx ?_))); (case side2 => exact HC1.out); rintro e w' ⟨rfl, ⟨nd, rfl⟩⟩; refine ⟨_, rfl, ?_⟩))
      go_ret
      exact ⟨by first | rfl | (simp [vY, vX] <;> rfl) | (simp only [← hji3]; first | rfl | (simp [vY, vX] <;> rfl)) | (simp [*, vY, vX] <;> rfl), (bb_ HB)⟩
     ·
      rw [if_neg c10] at H
      have c10b0 := decide_eq_false c10
      clear c10
      have H' := jA.mk H
      clear H
      go_wp2_with (first | ((with_reducible refine jH (f := 69) rfl ?_); refine gl_ (some 18) Try.func69 #[.slice A0 l0.length c0, .int .i64 x5_1] ?_; (with_reducible refine (jh.calls _ _ l0 x5_1 t485 _ ?side1 ?side2 A5.out).mono ?_); (case side1 => exact cb_ HR0 HB); (case side2 => exact HC0.out); rintro e w' ⟨rfl, ⟨nd, rfl⟩⟩; refine ⟨_, rfl, ?_⟩) | ((with_reducible refine jH (f := 69) rfl ?_); refine gl_ (some 21) Try.func69 #[.slice A1 l1.length c1, .int .i64 x5_1] ?_; (with_reducible refine (jh.calls _ _ l1 x5_1 t486 _ ?side1 ?side2 A6.out).mono ?_); (case side1 => repeat (first | exact (Kd.zl HR1.out (bb_ HB)) | (with_reducible refine Kd.zJ ?_ _) | (with_reducible refine Kd.zU ?_ _) | (with_reducible refine Kd.zx ?_))); (case side2 => exact HC1.out); rintro e w' ⟨rfl, ⟨nd, rfl⟩⟩; refine ⟨_, rfl, ?_⟩) | ((with_reducible refine jH (f := 69) rfl ?_); refine gl_ (some 25) Try.func69 #[.slice A0 l0.length c0, .int .i64 x5_1] ?_; (with_reducible refine (jh.calls _ _ l0 x5_1 t487 _ ?side1 ?side2 A8.out).mono ?_); (case side1 => repeat (first | exact (Kd.zl HR0.out (bb_ HB)) | (with_reducible refine Kd.zJ ?_ _) | (with_reducible refine Kd.zU ?_ _) | (with_reducible refine Kd.zx ?_))); (case side2 => exact HC0.out); rintro e w' ⟨rfl, ⟨nd, rfl⟩⟩; refine ⟨_, rfl, ?_⟩) | ((with_reducible refine jH (f := 69) rfl ?_); refine gl_ (some 28) Try.func69 #[.slice A1 l1.length c1, .int .i64 x5_1] ?_; (with_reducible refine (jh.calls _ _ l1 x5_1 t488 _ ?side1 ?side2 A9.out).mono ?_); (case side1 => repeat (first | exact (Kd.zl HR1.out (bb_ HB)) | (with_reducible refine Kd.zJ ?_ _) | (with_reducible refine Kd.zU ?_ _) | (with_reducible refine Kd.zx ?_))); (case side2 => exact HC1.out); rintro e w' ⟨rfl, ⟨nd, rfl⟩⟩; refine ⟨_, rfl, ?_⟩))
      go_roundg k1
      case measure => have := HK1.out; omega
      case rel => exact ⟨(wrap64 (x5_1 - 1)), sd_, H', ⟨by have := HK1.out; omega⟩, ⟨(bb_ HB)⟩⟩
   ·
    rw [if_neg c4] at H
    have c4b0 := decide_eq_false c4
    clear c4
    obtain rfl := Option.some.inj H
    go_wp2
    go_ret
    exact ⟨by first | rfl | (simp [vY, vX] <;> rfl) | (simp only [← hji3]; first | rfl | (simp [vY, vX] <;> rfl)) | (simp [*, vY, vX] <;> rfl), (bb_ HB)⟩
def jY.l0 : Nat → List Int → List Int → Int → Int → Option (Int)
 | 0, _, _, _, _ => none
 | k + 1, x0, x1, x5, x6 => if (IntKind.u64.wrap (x6 - x5)) > 1 then ((jF.f k x1 (([IntKind.u64.wrap (Int.tdiv (IntKind.u64.wrap (x5 + x6)) 2)] : List Int))).bind fun t492 => ((jR.f k t492 x0).bind fun t495 => (if t495 ≤ 0 then (jY.l0 k x0 x1 (IntKind.u64.wrap (Int.tdiv (IntKind.u64.wrap (x5 + x6)) 2)) x6) else (jY.l0 k x0 x1 x5 (IntKind.u64.wrap (Int.tdiv (IntKind.u64.wrap (x5 + x6)) 2)))))) else (some x5)
def jY.f (k : Nat) (l0 : List Int) (l1 : List Int) : Option (Int) := jY.l0 k l0 l1 0 4294967296
theorem jY.vS : ∀ k, (∀ y0 y1 y2 y3, LeO (jY.l0 k y0 y1 y2 y3) (jY.l0 (k + 1) y0 y1 y2 y3))
 | 0 => fun _ _ _ _ r h => by simp [jY.l0] at h
 | k + 1 => by
  have ih0 := jY.vS k
  ·
   intro y0 y1 y2 y3
   unfold jY.l0
   repeat' first
   | (with_reducible exact ih0 _ _ _ _)
   | (with_reducible exact jR.mono _ _ _)
   | (with_reducible exact jF.mono _ _ _)
   | (with_reducible exact LeO.refl _)
   | (with_reducible exact LeO.none _)
   | (with_reducible refine LeO.ite ?_ ?_)
   | (with_reducible refine LeO.bind ?_ (fun _ => ?_))
theorem jY.mono : ∀ a0 a1 k, LeO (jY.f k a0 a1) (jY.f (k + 1) a0 a1) := by
 intro a0 a1 k
 have ih0 := jY.vS k
 unfold jY.f
 repeat' first
   | (with_reducible exact ih0 _ _ _ _)
   | (with_reducible exact jR.mono _ _ _)
   | (with_reducible exact jF.mono _ _ _)
   | (with_reducible exact LeO.refl _)
   | (with_reducible exact LeO.none _)
   | (with_reducible refine LeO.ite ?_ ?_)
   | (with_reducible refine LeO.bind ?_ (fun _ => ?_))
theorem jY.calls (k : Nat) (A0 : Option Addr) (c0 : Nat) (l0 : List Int) (A1 : Option Addr) (c1 : Nat) (l1 : List Int) (r : Int) (w : World) (hr0 : Kd.C (Kd.int .u64) w A0 l0.length l0) (hc0 : l0.length ≤ c0) (hr1 : Kd.C (Kd.int .u64) w A1 l1.length l1) (hc1 : l1.length ≤ c1) (h : jY.f k l0 l1 = some r) :
  Calls Try.prog 104 #[.slice A0 l0.length c0, .slice A1 l1.length c1] w fun e w' => e = .returned (.int .u64 r) ∧ Below w.heap.size w w' := by
 have HR0 := jA.mk hr0
 have HC0 := jA.mk hc0
 clear hr0 hc0
 have HR1 := jA.mk hr1
 have HC1 := jA.mk hc1
 clear hr1 hc1
 have HB := jA.mk (Below.refl w.heap.size w)
 have H : (jY.l0 k l0 l1 0 4294967296) = some r := h
 clear h
 have H' := jA.mk H
 clear H
 go_enter Try.func104, Try.ntmps104
 go_wp2
 go_loopg [5, 6] k (fun kq v5 v6 w' => ∃ (x5_1 : Int) (x6_1 : Int), v5 = .int .u64 x5_1 ∧ v6 = .int .u64 x6_1 ∧ jA (jY.l0 kq l0 l1 x5_1 x6_1 = some r) ∧ jA (kq ≤ k) ∧ jA (Below w.heap.size w w'))
 case atStart => exact ⟨(0), (4294967296), sd_, sd_, H', ⟨Nat.le_refl _⟩, ⟨(bb_ HB)⟩⟩
 case round =>
  clear H'
  try clear c1
  try clear p2
  obtain ⟨x5_1, x6_1, rfl, rfl, HA, HK1, HB⟩ := hrel
  cases gk with
  | zero => exact absurd HA.out (by simp [jY.l0])
  | succ k1 =>
   have H := HA.out
   clear HA
   simp only [jY.l0] at H
   by_cases c3 : (IntKind.u64.wrap (x6_1 - x5_1)) > 1
   ·
    rw [if_pos c3] at H
    have c3b0 := decide_eq_true c3
    clear c3
    obtain ⟨y489, hy489⟩ : ∃ y_ : List Int, y_ = (([IntKind.u64.wrap (Int.tdiv (IntKind.u64.wrap (x5_1 + x6_1)) 2)] : List Int)) := ⟨_, rfl⟩
    replace H : ((jF.f k1 l1 y489).bind fun t492 => ((jR.f k1 t492 l0).bind fun t495 => (if t495 ≤ 0 then (jY.l0 k1 l0 l1 (IntKind.u64.wrap (Int.tdiv (IntKind.u64.wrap (x5_1 + x6_1)) 2)) x6_1) else (jY.l0 k1 l0 l1 x5_1 (IntKind.u64.wrap (Int.tdiv (IntKind.u64.wrap (x5_1 + x6_1)) 2)))))) = some r := by first | (rw [hy489]; with_reducible exact H) | (have H2_ := (Option.bind_some _ _).symm.trans H; rw [hy489]; with_reducible exact H2_) | (with_reducible exact hs_ H) | with_reducible exact H | (rw [hy489]; exact H) | exact H
    have Ny489 := jA.mk hy489
    clear hy489
    obtain ⟨t492, A4, H⟩ := oc_ H
    try dsimp only at H
    obtain ⟨t495, A5, H⟩ := oc_ H
    try dsimp only at H
    by_cases c6 : t495 ≤ 0
    ·
     rw [if_pos c6] at H
     have c6b0 := decide_eq_true c6
     clear c6
     have H' := jA.mk H
     clear H
     go_wp2_with (first | ((with_reducible refine jX (N := 18) rfl ?_); refine Kd.jAC (Kd.int .u64) _ 22 ?hg (N := 18) ?hd (xs := ([IntKind.u64.wrap (Int.tdiv (IntKind.u64.wrap (x5_1 + x6_1)) 2)] : List Int)) (inner := [.int .u64 (IntKind.u64.wrap (Int.tdiv (IntKind.u64.wrap (x5_1 + x6_1)) 2))]) (ok := fun _ => True) (okp := fun _ => True) ?hr ?hp (fun _ hk => hk) trivial (Below.refl _ _) (Nat.le_refl _) (by simp) ?_; (case hd => rfl); (case hg => rfl); (case hr => exact gs_); (case hp => exact (Reps.one (show Kd.M (Kd.int .u64) _ _ _ (IntKind.u64.wrap (Int.tdiv (IntKind.u64.wrap (x5_1 + x6_1)) 2)) [.int .u64 (IntKind.u64.wrap (Int.tdiv (IntKind.u64.wrap (x5_1 + x6_1)) 2))] from rfl) (Reps.none _ _))); intro v490 w7 ho8 hb hg_ hnew_; clear hg_ hnew_; (first | rw [← Ny489.out] at ho8 | (simp only [Int.reduceToNat] at ho8; rw [← Ny489.out] at ho8)); have HO491 := jA.mk (Kd.jN ho8 (jC (bb_ HB))); replace HB := bs_ HB hb; clear hb ho8; obtain ⟨Ao9, co9, rfl⟩ := Kd.jV HO491.out) | ((with_reducible refine jH (f := 23) rfl ?_); refine gl_ (some 19) Try.func23 #[.slice A1 l1.length c1, .slice Ao9 y489.length co9] ?_; (with_reducible refine (jF.calls k1 _ _ l1 _ _ y489 t492 _ ?side1 ?side2 ?side3 ?side4 A4.out).mono ?_); (case side1 => exact cb_ HR1 HB); (case side2 => exact HC1.out); (case side3 => exact cc_ (Kd.jE HO491.out).2.2); (case side4 => exact (Kd.jE HO491.out).2.1); rintro e w10 ⟨v493, rfl, ho0, hb⟩; refine ⟨_, rfl, ?_⟩; have HO494 := jA.mk (Kd.jN (Kd.jL ho0 (Kd.R_lt (rR_ HO491))) (jC (bb_ HB))); replace HO491 := re_ HO491 ho0 hb; replace HB := bs_ HB hb; obtain ⟨Ao11, co11, rfl⟩ := Kd.jV HO494.out) | ((with_reducible refine jH (f := 103) rfl ?_); refine gl_ (some 21) Try.func103 #[.slice Ao11 t492.length co11, .slice A0 l0.length c0] ?_; (with_reducible refine (jR.calls k1 _ _ t492 _ _ l0 t495 _ ?side1 ?side2 ?side3 ?side4 A5.out).mono ?_); (case side1 => exact cc_ (Kd.jE HO494.out).2.2); (case side2 => exact (Kd.jE HO494.out).2.1); (case side3 => exact cb_ HR0 HB); (case side4 => exact HC0.out); rintro e w12 ⟨rfl, hb⟩; refine ⟨_, rfl, ?_⟩; replace HO491 := ro_ HO491 hb; replace HO494 := ro_ HO494 hb; replace HB := bs_ HB hb))
     go_roundg k1
     case measure => have := HK1.out; omega
     case rel => exact ⟨(IntKind.u64.wrap (Int.tdiv (IntKind.u64.wrap (x5_1 + x6_1)) 2)), (x6_1), sd_, sd_, H', ⟨by have := HK1.out; omega⟩, ⟨(bb_ HB)⟩⟩
    ·
     rw [if_neg c6] at H
     have c6b0 := decide_eq_false c6
     clear c6
     have H' := jA.mk H
     clear H
     go_wp2_with (first | ((with_reducible refine jX (N := 18) rfl ?_); refine Kd.jAC (Kd.int .u64) _ 22 ?hg (N := 18) ?hd (xs := ([IntKind.u64.wrap (Int.tdiv (IntKind.u64.wrap (x5_1 + x6_1)) 2)] : List Int)) (inner := [.int .u64 (IntKind.u64.wrap (Int.tdiv (IntKind.u64.wrap (x5_1 + x6_1)) 2))]) (ok := fun _ => True) (okp := fun _ => True) ?hr ?hp (fun _ hk => hk) trivial (Below.refl _ _) (Nat.le_refl _) (by simp) ?_; (case hd => rfl); (case hg => rfl); (case hr => exact gs_); (case hp => exact (Reps.one (show Kd.M (Kd.int .u64) _ _ _ (IntKind.u64.wrap (Int.tdiv (IntKind.u64.wrap (x5_1 + x6_1)) 2)) [.int .u64 (IntKind.u64.wrap (Int.tdiv (IntKind.u64.wrap (x5_1 + x6_1)) 2))] from rfl) (Reps.none _ _))); intro v490 w13 ho14 hb hg_ hnew_; clear hg_ hnew_; (first | rw [← Ny489.out] at ho14 | (simp only [Int.reduceToNat] at ho14; rw [← Ny489.out] at ho14)); have HO491 := jA.mk (Kd.jN ho14 (jC (bb_ HB))); replace HB := bs_ HB hb; clear hb ho14; obtain ⟨Ao15, co15, rfl⟩ := Kd.jV HO491.out) | ((with_reducible refine jH (f := 23) rfl ?_); refine gl_ (some 19) Try.func23 #[.slice A1 l1.length c1, .slice Ao15 y489.length co15] ?_; (with_reducible refine (jF.calls k1 _ _ l1 _ _ y489 t492 _ ?side1 ?side2 ?side3 ?side4 A4.out).mono ?_); (case side1 => exact cb_ HR1 HB); (case side2 => exact HC1.out); (case side3 => exact cc_ (Kd.jE HO491.out).2.2); (case side4 => exact (Kd.jE HO491.out).2.1); rintro e w16 ⟨v493, rfl, ho0, hb⟩; refine ⟨_, rfl, ?_⟩; have HO494 := jA.mk (Kd.jN (Kd.jL ho0 (Kd.R_lt (rR_ HO491))) (jC (bb_ HB))); replace HO491 := re_ HO491 ho0 hb; replace HB := bs_ HB hb; obtain ⟨Ao17, co17, rfl⟩ := Kd.jV HO494.out) | ((with_reducible refine jH (f := 103) rfl ?_); refine gl_ (some 21) Try.func103 #[.slice Ao17 t492.length co17, .slice A0 l0.length c0] ?_; (with_reducible refine (jR.calls k1 _ _ t492 _ _ l0 t495 _ ?side1 ?side2 ?side3 ?side4 A5.out).mono ?_); (case side1 => exact cc_ (Kd.jE HO494.out).2.2); (case side2 => exact (Kd.jE HO494.out).2.1); (case side3 => exact cb_ HR0 HB); (case side4 => exact HC0.out); rintro e w18 ⟨rfl, hb⟩; refine ⟨_, rfl, ?_⟩; replace HO491 := ro_ HO491 hb; replace HO494 := ro_ HO494 hb; replace HB := bs_ HB hb))
     go_roundg k1
     case measure => have := HK1.out; omega
     case rel => exact ⟨(x5_1), (IntKind.u64.wrap (Int.tdiv (IntKind.u64.wrap (x5_1 + x6_1)) 2)), sd_, sd_, H', ⟨by have := HK1.out; omega⟩, ⟨(bb_ HB)⟩⟩
   ·
    rw [if_neg c3] at H
    have c3b0 := decide_eq_false c3
    clear c3
    obtain rfl := Option.some.inj H
    go_wp2
    go_ret
    exact ⟨ew_, (bb_ HB)⟩
end Go.Proofs.Ytijgeonhbmgikaa.PORatioField
