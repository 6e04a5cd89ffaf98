-- printed (pr.py)
import Derived.Test.YtijgeonhbmgikaaPORatioMakesx11
namespace Go.Proofs.Ytijgeonhbmgikaa.PORatioMakes
open Go.RowKit Go.Proofs.YtijgeonhbmgikaaN Go.Proofs.YtijgeonhbmgikaaW.PrintWords Go.Proofs.YtijgeonhbmgikaaW.PrintLast Go.Proofs.YtijgeonhbmgikaaW.PrintMore
attribute [local go_sem] qJ qH qd qc zo zn qI qG
set_option maxHeartbeats 8000000
set_option maxRecDepth 100000
set_option linter.unusedVariables false
set_option linter.unusedSimpArgs false
mutual
def jF.l0 : Nat → List Int → List Int → List Int → Int → Option (List Int)
 | 0, _, _, _, _ => none
 | k + 1, x5, x6, x7, x8 => if x8 < (wrap64 ((wrap64 ((x5.length : Int) + (x6.length : Int))) + 1)) then (if x7.length < 17592186044416 then (jF.l0 k x5 x6 (x7 ++ [0]) (wrap64 (x8 + 1))) else (none)) else (jF.l1 k x5 x6 x7 0)
def jF.l1 : Nat → List Int → List Int → List Int → Int → Option (List Int)
 | 0, _, _, _, _ => none
 | k + 1, x5, x6, x7, x9 => if x9 < (x5.length : Int) then (jF.l2 k x5 x6 x7 x9 0 0) else ((jN.f k x7).bind fun t458 => (some t458))
def jF.l2 : Nat → List Int → List Int → List Int → Int → Int → Int → Option (List Int)
 | 0, _, _, _, _, _, _ => none
 | k + 1, x5, x6, x7, x9, x10, x11 => if x11 < (x6.length : Int) then (if 0 ≤ (wrap64 (x9 + x11)) then (if (wrap64 (x9 + x11)) < (x7.length : Int) then (if 0 ≤ x9 then (if x9 < (x5.length : Int) then ((jr.f x6 x11).bind fun t463 => (jF.l2 k x5 x6 (x7.set ((wrap64 (x9 + x11)) : Int).toNat (Int.tmod (IntKind.u64.wrap ((IntKind.u64.wrap ((rd x7 (wrap64 (x9 + x11))) + (IntKind.u64.wrap ((rd x5 x9) * t463)))) + x10)) 4294967296)) x9 (IntKind.u64.wrap (Int.tdiv (IntKind.u64.wrap ((IntKind.u64.wrap ((rd x7 (wrap64 (x9 + x11))) + (IntKind.u64.wrap ((rd x5 x9) * t463)))) + x10)) 4294967296)) (wrap64 (x11 + 1)))) else (none)) else (none)) else (none)) else (none)) else (if x10 > 0 then (if 0 ≤ (wrap64 (x9 + x11)) then (if (wrap64 (x9 + x11)) < (x7.length : Int) then (if 0 ≤ x9 then (if x9 < (x5.length : Int) then ((jr.f x6 x11).bind fun t467 => (jF.l2 k x5 x6 (x7.set ((wrap64 (x9 + x11)) : Int).toNat (Int.tmod (IntKind.u64.wrap ((IntKind.u64.wrap ((rd x7 (wrap64 (x9 + x11))) + (IntKind.u64.wrap ((rd x5 x9) * t467)))) + x10)) 4294967296)) x9 (IntKind.u64.wrap (Int.tdiv (IntKind.u64.wrap ((IntKind.u64.wrap ((rd x7 (wrap64 (x9 + x11))) + (IntKind.u64.wrap ((rd x5 x9) * t467)))) + x10)) 4294967296)) (wrap64 (x11 + 1)))) else (none)) else (none)) else (none)) else (none)) else (jF.l1 k x5 x6 x7 (wrap64 (x9 + 1))))
end
def jF.f (k : Nat) (l0 : List Int) (l1 : List Int) : Option (List Int) := (jH.f k l0).bind fun t446 => ((jH.f k l1).bind fun t449 => (jF.l0 k t446 t449 (([] : List Int)) 0))
theorem jF.vQ : ∀ k, (∀ y0 y1 y2 y3, LeO (jF.l0 k y0 y1 y2 y3) (jF.l0 (k + 1) y0 y1 y2 y3)) ∧ (∀ y0 y1 y2 y3, LeO (jF.l1 k y0 y1 y2 y3) (jF.l1 (k + 1) y0 y1 y2 y3)) ∧ (∀ y0 y1 y2 y3 y4 y5, LeO (jF.l2 k y0 y1 y2 y3 y4 y5) (jF.l2 (k + 1) y0 y1 y2 y3 y4 y5))
 | 0 => ⟨fun _ _ _ _ r h => by simp [jF.l0] at h, fun _ _ _ _ r h => by simp [jF.l1] at h, fun _ _ _ _ _ _ r h => by simp [jF.l2] at h⟩
 | k + 1 => by
  obtain ⟨ih0, ih1, ih2⟩ := jF.vQ k
  refine ⟨?_, ?_, ?_⟩ <;> (intros; first | unfold jF.l0 | unfold jF.l1 | unfold jF.l2) <;> repeat' first
   | (with_reducible exact ih0 _ _ _ _)
   | (with_reducible exact ih1 _ _ _ _)
   | (with_reducible exact ih2 _ _ _ _ _ _)
   | (with_reducible exact jH.mono _ _)
   | (with_reducible exact jN.mono _ _)
   | (with_reducible exact LeO.refl _)
   | (with_reducible exact LeO.none _)
   | (with_reducible refine LeO.ite ?_ ?_)
   | (with_reducible refine LeO.bind ?_ (fun _ => ?_))
theorem jF.mono : ∀ a0 a1 k, LeO (jF.f k a0 a1) (jF.f (k + 1) a0 a1) := by
 intro a0 a1 k
 obtain ⟨ih0, ih1, ih2⟩ := jF.vQ k
 unfold jF.f
 repeat' first
   | (with_reducible exact ih0 _ _ _ _)
   | (with_reducible exact ih1 _ _ _ _)
   | (with_reducible exact ih2 _ _ _ _ _ _)
   | (with_reducible exact jH.mono _ _)
   | (with_reducible exact jN.mono _ _)
   | (with_reducible exact LeO.refl _)
   | (with_reducible exact LeO.none _)
   | (with_reducible refine LeO.ite ?_ ?_)
   | (with_reducible refine LeO.bind ?_ (fun _ => ?_))
theorem jF.calls (k : Nat) (A0 : Option Addr) (c0 : Nat) (l0 : List Int) (A1 : Option Addr) (c1 : Nat) (l1 : List Int) (r : List Int) (w : World) (hr0 : Kd.C (Kd.int .u64) w A0 l0.length l0) (hc0 : l0.length ≤ c0) (hr1 : Kd.C (Kd.int .u64) w A1 l1.length l1) (hc1 : l1.length ≤ c1) (h : jF.f k l0 l1 = some r) :
  Calls Try.prog 23 #[.slice A0 l0.length c0, .slice A1 l1.length c1] w fun e w' => ∃ v0_ : Value, e = .returned (v0_) ∧ Kd.R (Kd.int .u64) 22 w' w.heap.size (fun _ => True) v0_ r ∧ Below w.heap.size w w' := by
 have HR0 := jA.mk hr0
 have HC0 := jA.mk hc0
 clear hr0 hc0
 have HR1 := jA.mk hr1
 have HC1 := jA.mk hc1
 clear hr1 hc1
 have HB := jA.mk (Below.refl w.heap.size w)
 have H : ((jH.f k l0).bind fun t446 => ((jH.f k l1).bind fun t449 => (jF.l0 k t446 t449 (([] : List Int)) 0))) = some r := h
 clear h
 obtain ⟨t446, A3, H⟩ := oc_ H
 try dsimp only at H
 obtain ⟨t449, A4, H⟩ := oc_ H
 try dsimp only at H
 obtain ⟨y452, hy452⟩ : ∃ y_ : List Int, y_ = (([] : List Int)) := ⟨_, rfl⟩
 replace H : (jF.l0 k t446 t449 y452 0) = some r := by first | (rw [hy452]; with_reducible exact H) | (have H2_ := (Option.bind_some _ _).symm.trans H; rw [hy452]; with_reducible exact H2_) | (with_reducible exact hs_ H) | with_reducible exact H | (rw [hy452]; exact H) | exact H
 have Ny452 := jA.mk hy452
 clear hy452
 have H' := jA.mk H
 clear H
 go_enter Try.func23, Try.ntmps23
 go_wp2_with (first | (go_at_call 68; (with_reducible refine (jH.calls k _ _ l0 t446 _ ?side1 ?side2 A3.out).mono ?_); (case side1 => exact cc_ HR0.out); (case side2 => exact HC0.out); rintro e w5 ⟨v447, rfl, ho0, hb⟩; have HO448 := jA.mk (Kd.jL ho0 (jB (bb_ HB))); replace HB := bs_ HB hb) | (go_at_call 68; (with_reducible refine (jH.calls k _ _ l1 t449 _ ?side1 ?side2 A4.out).mono ?_); (case side1 => exact cb_ HR1 HB); (case side2 => exact HC1.out); rintro e w6 ⟨v450, rfl, ho0, hb⟩; have HO451 := jA.mk (Kd.jL (Kd.jG ho0 (Kd.R_lt (rR_ HO448))) (jB (bb_ HB))); replace HO448 := re_ HO448 ho0 hb; replace HB := bs_ HB hb) | ((with_reducible refine jW (N := 17) rfl ?_); refine Kd.qy (Kd.int .u64) _ 22 ?hg (N := 17) ?hd (xs := ([] : List Int)) (inner := []) (ok := fun _ => True) (okp := fun _ => True) ?hr ?hp (fun _ hk => hk) trivial (Below.refl _ _) (Nat.le_refl _) (by simp) ?_; (case hd => rfl); (case hg => rfl); (case hr => exact gs_); (case hp => exact (Reps.none _ _)); intro v453 w7 ho8 hb hg_ hnew_; clear hg_ hnew_; (first | rw [← Ny452.out] at ho8 | (simp only [Int.reduceToNat] at ho8; rw [← Ny452.out] at ho8)); have HO454 := jA.mk (Kd.jL (Kd.jG (Kd.jG ho8 (Kd.R_lt (rR_ HO448))) (Kd.R_lt (rR_ HO451))) (jB (bb_ HB))); replace HO448 := re_ HO448 ho8 hb; replace HO451 := re_ HO451 ho8 hb; replace HB := bs_ HB hb; clear hb ho8))
 repeat (go_quiet (first | (go_at_call 68; (with_reducible refine (jH.calls k _ _ l0 t446 _ ?side1 ?side2 A3.out).mono ?_); (case side1 => exact cc_ HR0.out); (case side2 => exact HC0.out); rintro e w5 ⟨v447, rfl, ho0, hb⟩; have HO448 := jA.mk (Kd.jL ho0 (jB (bb_ HB))); replace HB := bs_ HB hb) | (go_at_call 68; (with_reducible refine (jH.calls k _ _ l1 t449 _ ?side1 ?side2 A4.out).mono ?_); (case side1 => exact cb_ HR1 HB); (case side2 => exact HC1.out); rintro e w6 ⟨v450, rfl, ho0, hb⟩; have HO451 := jA.mk (Kd.jL (Kd.jG ho0 (Kd.R_lt (rR_ HO448))) (jB (bb_ HB))); replace HO448 := re_ HO448 ho0 hb; replace HB := bs_ HB hb) | ((with_reducible refine jW (N := 17) rfl ?_); refine Kd.qy (Kd.int .u64) _ 22 ?hg (N := 17) ?hd (xs := ([] : List Int)) (inner := []) (ok := fun _ => True) (okp := fun _ => True) ?hr ?hp (fun _ hk => hk) trivial (Below.refl _ _) (Nat.le_refl _) (by simp) ?_; (case hd => rfl); (case hg => rfl); (case hr => exact gs_); (case hp => exact (Reps.none _ _)); intro v453 w7 ho8 hb hg_ hnew_; clear hg_ hnew_; (first | rw [← Ny452.out] at ho8 | (simp only [Int.reduceToNat] at ho8; rw [← Ny452.out] at ho8)); have HO454 := jA.mk (Kd.jL (Kd.jG (Kd.jG ho8 (Kd.R_lt (rR_ HO448))) (Kd.R_lt (rR_ HO451))) (jB (bb_ HB))); replace HO448 := re_ HO448 ho8 hb; replace HO451 := re_ HO451 ho8 hb; replace HB := bs_ HB hb; clear hb ho8)); try go_wp2_with (first | (go_at_call 68; (with_reducible refine (jH.calls k _ _ l0 t446 _ ?side1 ?side2 A3.out).mono ?_); (case side1 => exact cc_ HR0.out); (case side2 => exact HC0.out); rintro e w5 ⟨v447, rfl, ho0, hb⟩; have HO448 := jA.mk (Kd.jL ho0 (jB (bb_ HB))); replace HB := bs_ HB hb) | (go_at_call 68; (with_reducible refine (jH.calls k _ _ l1 t449 _ ?side1 ?side2 A4.out).mono ?_); (case side1 => exact cb_ HR1 HB); (case side2 => exact HC1.out); rintro e w6 ⟨v450, rfl, ho0, hb⟩; have HO451 := jA.mk (Kd.jL (Kd.jG ho0 (Kd.R_lt (rR_ HO448))) (jB (bb_ HB))); replace HO448 := re_ HO448 ho0 hb; replace HB := bs_ HB hb) | ((with_reducible refine jW (N := 17) rfl ?_); refine Kd.qy (Kd.int .u64) _ 22 ?hg (N := 17) ?hd (xs := ([] : List Int)) (inner := []) (ok := fun _ => True) (okp := fun _ => True) ?hr ?hp (fun _ hk => hk) trivial (Below.refl _ _) (Nat.le_refl _) (by simp) ?_; (case hd => rfl); (case hg => rfl); (case hr => exact gs_); (case hp => exact (Reps.none _ _)); intro v453 w7 ho8 hb hg_ hnew_; clear hg_ hnew_; (first | rw [← Ny452.out] at ho8 | (simp only [Int.reduceToNat] at ho8; rw [← Ny452.out] at ho8)); have HO454 := jA.mk (Kd.jL (Kd.jG (Kd.jG ho8 (Kd.R_lt (rR_ HO448))) (Kd.R_lt (rR_ HO451))) (jB (bb_ HB))); replace HO448 := re_ HO448 ho8 hb; replace HO451 := re_ HO451 ho8 hb; replace HB := bs_ HB hb; clear hb ho8)))
 go_loopg [7, 8] k (fun kq v7 v8 w' => ∃ (x7_1 : List Int) (x8_1 : Int), v8 = .int .i64 x8_1 ∧ jA (jF.l0 kq t446 t449 x7_1 x8_1 = some r) ∧ jA (kq ≤ k) ∧ jA (Kd.R (Kd.int .u64) 22 w' w.heap.size (fun k_ => some k_ ≠ (v450 : Value).ownBlock ∧ some k_ ≠ (v7 : Value).ownBlock) v447 t446) ∧ jA (Kd.R (Kd.int .u64) 22 w' w.heap.size (fun k_ => some k_ ≠ (v447 : Value).ownBlock ∧ some k_ ≠ (v7 : Value).ownBlock) v450 t449) ∧ jA (Kd.R (Kd.int .u64) 22 w' w.heap.size (fun k_ => some k_ ≠ (v447 : Value).ownBlock ∧ some k_ ≠ (v450 : Value).ownBlock) v7 x7_1) ∧ jA (Below w.heap.size w w'))
 case atStart => exact ⟨(y452), (0), sd_, H', ⟨Nat.le_refl _⟩, ⟨by (with_reducible repeat (first | apply Kd.zG | apply Kd.zM | apply Kd.zP)); exact Kd.jO HO448.out (fun _ hk => ⟨hk.1.2, hk.2⟩)⟩, ⟨by (with_reducible repeat (first | apply Kd.zG | apply Kd.zM | apply Kd.zP)); exact Kd.jO HO451.out (fun _ hk => ⟨hk.1.2, hk.2⟩)⟩, ⟨by (with_reducible repeat (first | apply Kd.zG | apply Kd.zM | apply Kd.zP)); exact Kd.jO HO454.out (fun _ hk => ⟨hk.1.2, hk.2⟩)⟩, ⟨(bb_ HB)⟩⟩
 case round =>
  clear H'
  try clear c1
  try clear c2
  try clear p2
  obtain ⟨x7_1, x8_1, rfl, HA, HK1, HO_5, HO_6, HO_7, HB⟩ := hrel
  cases gk with
  | zero => exact absurd HA.out (by simp [jF.l0])
  | succ k1 =>
   have H := HA.out
   clear HA
   simp only [jF.l0] at H
   by_cases c9 : x8_1 < (wrap64 ((wrap64 ((t446.length : Int) + (t449.length : Int))) + 1))
   ·
    rw [if_pos c9] at H
    have c9b0 := decide_eq_true c9
    clear c9
    by_cases c10 : x7_1.length < 17592186044416
    ·
     rw [if_pos c10] at H
     have LMc10 := jA.mk c10
     clear c10
     obtain ⟨y455, hy455⟩ : ∃ y_ : List Int, y_ = (x7_1 ++ [0]) := ⟨_, rfl⟩
     replace H : (jF.l0 k1 t446 t449 y455 (wrap64 (x8_1 + 1))) = some r := by first | (rw [hy455]; with_reducible exact H) | (have H2_ := (Option.bind_some _ _).symm.trans H; rw [hy455]; with_reducible exact H2_) | (with_reducible exact hs_ H) | with_reducible exact H | (rw [hy455]; exact H) | exact H
     have Ny455 := jA.mk hy455
     clear hy455
     have H' := jA.mk H
     clear H
     obtain ⟨Ao11, co11, eo11⟩ := Kd.jP HO_5.out
     subst eo11
     obtain ⟨Ao12, co12, eo12⟩ := Kd.jP HO_6.out
     subst eo12
     go_wp2_with (first | ((with_reducible refine zK (b := .append) (xs := #[.tmp 28, .tmp 29]) rfl ?_); at_builtin; refine Kd.qh (Kd.int .u64) (w0 := w) w.heap.size rfl (.tmp 28) (.tmp 29) 35 22 (.int .u64 0) 8 rfl Try.underlying35 qO rfl (by decide) (by omega) u7 x7_1 0 [.int .u64 0] (fun k_ => some k_ ≠ (.slice Ao11 t446.length co11 : Value).ownBlock ∧ some k_ ≠ (.slice Ao12 t449.length co12 : Value).ownBlock) (fun _ => False) rfl rfl ?aP (fun _ hk => hk.elim) ?aF ?aO ?aB ?aS ?aL ?_; (case aP => exact rfl); (case aB => exact (bb_ HB)); (case aF => exact (fun k_ hk => ⟨Kd.fresh' (Kd.R_lt (rR_ HO_5)) k_ hk, Kd.fresh' (Kd.R_lt (rR_ HO_6)) k_ hk⟩)); (case aO => exact (rR_ HO_7)); (case aS => exact (jB (bb_ HB))); (case aL => have := LMc10.out; omega); intro v456 w13 ho hb hg hat; rw [← Ny455.out] at ho; replace HO_5 := jA.mk (Kd.zh (ok := (fun k_ => some k_ ≠ (.slice Ao12 t449.length co12 : Value).ownBlock)) (rR_ HO_5) hg hat); replace HO_6 := jA.mk (Kd.zh (ok := (fun k_ => some k_ ≠ (.slice Ao11 t446.length co11 : Value).ownBlock)) (rR_ HO_6) hg hat); replace HB := jA.mk (hb); have HO457 := jA.mk (ho); clear HO_7 ho hb hg hat))
     repeat (go_quiet (first | ((with_reducible refine zK (b := .append) (xs := #[.tmp 28, .tmp 29]) rfl ?_); at_builtin; refine Kd.qh (Kd.int .u64) (w0 := w) w.heap.size rfl (.tmp 28) (.tmp 29) 35 22 (.int .u64 0) 8 rfl Try.underlying35 qO rfl (by decide) (by omega) u7 x7_1 0 [.int .u64 0] (fun k_ => some k_ ≠ (.slice Ao11 t446.length co11 : Value).ownBlock ∧ some k_ ≠ (.slice Ao12 t449.length co12 : Value).ownBlock) (fun _ => False) rfl rfl ?aP (fun _ hk => hk.elim) ?aF ?aO ?aB ?aS ?aL ?_; (case aP => exact rfl); (case aB => exact (bb_ HB)); (case aF => exact (fun k_ hk => ⟨Kd.fresh' (Kd.R_lt (rR_ HO_5)) k_ hk, Kd.fresh' (Kd.R_lt (rR_ HO_6)) k_ hk⟩)); (case aO => exact (rR_ HO_7)); (case aS => exact (jB (bb_ HB))); (case aL => have := LMc10.out; omega); intro v456 w13 ho hb hg hat; rw [← Ny455.out] at ho; replace HO_5 := jA.mk (Kd.zh (ok := (fun k_ => some k_ ≠ (.slice Ao12 t449.length co12 : Value).ownBlock)) (rR_ HO_5) hg hat); replace HO_6 := jA.mk (Kd.zh (ok := (fun k_ => some k_ ≠ (.slice Ao11 t446.length co11 : Value).ownBlock)) (rR_ HO_6) hg hat); replace HB := jA.mk (hb); have HO457 := jA.mk (ho); clear HO_7 ho hb hg hat)); try go_wp2_with (first | ((with_reducible refine zK (b := .append) (xs := #[.tmp 28, .tmp 29]) rfl ?_); at_builtin; refine Kd.qh (Kd.int .u64) (w0 := w) w.heap.size rfl (.tmp 28) (.tmp 29) 35 22 (.int .u64 0) 8 rfl Try.underlying35 qO rfl (by decide) (by omega) u7 x7_1 0 [.int .u64 0] (fun k_ => some k_ ≠ (.slice Ao11 t446.length co11 : Value).ownBlock ∧ some k_ ≠ (.slice Ao12 t449.length co12 : Value).ownBlock) (fun _ => False) rfl rfl ?aP (fun _ hk => hk.elim) ?aF ?aO ?aB ?aS ?aL ?_; (case aP => exact rfl); (case aB => exact (bb_ HB)); (case aF => exact (fun k_ hk => ⟨Kd.fresh' (Kd.R_lt (rR_ HO_5)) k_ hk, Kd.fresh' (Kd.R_lt (rR_ HO_6)) k_ hk⟩)); (case aO => exact (rR_ HO_7)); (case aS => exact (jB (bb_ HB))); (case aL => have := LMc10.out; omega); intro v456 w13 ho hb hg hat; rw [← Ny455.out] at ho; replace HO_5 := jA.mk (Kd.zh (ok := (fun k_ => some k_ ≠ (.slice Ao12 t449.length co12 : Value).ownBlock)) (rR_ HO_5) hg hat); replace HO_6 := jA.mk (Kd.zh (ok := (fun k_ => some k_ ≠ (.slice Ao11 t446.length co11 : Value).ownBlock)) (rR_ HO_6) hg hat); replace HB := jA.mk (hb); have HO457 := jA.mk (ho); clear HO_7 ho hb hg hat)))
     go_roundg k1
     case measure => have := HK1.out; omega
     case rel => exact ⟨(y455), (wrap64 (x8_1 + 1)), sd_, H', ⟨by have := HK1.out; omega⟩, ⟨(rR_ HO_5)⟩, ⟨(rR_ HO_6)⟩, ⟨(rR_ HO457)⟩, ⟨(bb_ HB)⟩⟩
    ·
     rw [if_neg c10] at H
     exact absurd H (by simp)
   ·
    rw [if_neg c9] at H
    have c9b0 := decide_eq_false c9
    clear c9
    have H' := jA.mk H
    clear H
    obtain ⟨Ao14, co14, eo14⟩ := Kd.jP HO_5.out
    subst eo14
    obtain ⟨Ao15, co15, eo15⟩ := Kd.jP HO_6.out
    subst eo15
    go_wp2
    repeat (go_quiet (fail); try go_wp2)
    go_loopg [9] k1 (fun kq v9 w' => ∃ (x7_2 : List Int) (x9_2 : Int), v9 = .int .i64 x9_2 ∧ jA (jF.l1 kq t446 t449 x7_2 x9_2 = some r) ∧ jA (kq ≤ k1) ∧ jA (Kd.R (Kd.int .u64) 22 w' w.heap.size (fun k_ => some k_ ≠ ((.slice Ao15 t449.length co15) : Value).ownBlock ∧ some k_ ≠ (u7 : Value).ownBlock) (.slice Ao14 t446.length co14) t446) ∧ jA (Kd.R (Kd.int .u64) 22 w' w.heap.size (fun k_ => some k_ ≠ ((.slice Ao14 t446.length co14) : Value).ownBlock ∧ some k_ ≠ (u7 : Value).ownBlock) (.slice Ao15 t449.length co15) t449) ∧ jA (Kd.R (Kd.int .u64) 22 w' w.heap.size (fun k_ => some k_ ≠ ((.slice Ao14 t446.length co14) : Value).ownBlock ∧ some k_ ≠ ((.slice Ao15 t449.length co15) : Value).ownBlock) u7 x7_2) ∧ jA (Below w.heap.size w w'))
    case atStart => exact ⟨(x7_1), (0), sd_, H', ⟨Nat.le_refl _⟩, ⟨(rR_ HO_5)⟩, ⟨(rR_ HO_6)⟩, ⟨(rR_ HO_7)⟩, ⟨(bb_ HB)⟩⟩
    case round =>
     clear H'
     try clear c1
     try clear c2
     try clear p2
     try clear p6
     try clear c9
     try clear c9b0
     try clear c10
     try clear p2
     obtain ⟨x7_2, x9_2, rfl, HA, HK2, HO_5, HO_6, HO_7, HB⟩ := hrel
     cases gk with
     | zero => exact absurd HA.out (by simp [jF.l1])
     | succ k2 =>
      have H := HA.out
      clear HA
      simp only [jF.l1] at H
      by_cases c16 : x9_2 < (t446.length : Int)
      ·
       rw [if_pos c16] at H
       have c16b0 := decide_eq_true c16
       clear c16
       have H' := jA.mk H
       clear H
       go_wp2
       repeat (go_quiet (fail); try go_wp2)
       go_loopg [10, 11] k2 (fun kq v10 v11 w' => ∃ (x7_3 : List Int) (x10_3 : Int) (x11_3 : Int), v10 = .int .u64 x10_3 ∧ v11 = .int .i64 x11_3 ∧ jA (jF.l2 kq t446 t449 x7_3 x9_2 x10_3 x11_3 = some r) ∧ jA (kq ≤ k2) ∧ jA (Kd.R (Kd.int .u64) 22 w' w.heap.size (fun k_ => some k_ ≠ ((.slice Ao15 t449.length co15) : Value).ownBlock ∧ some k_ ≠ (u7 : Value).ownBlock) (.slice Ao14 t446.length co14) t446) ∧ jA (Kd.R (Kd.int .u64) 22 w' w.heap.size (fun k_ => some k_ ≠ ((.slice Ao14 t446.length co14) : Value).ownBlock ∧ some k_ ≠ (u7 : Value).ownBlock) (.slice Ao15 t449.length co15) t449) ∧ jA (Kd.R (Kd.int .u64) 22 w' w.heap.size (fun k_ => some k_ ≠ ((.slice Ao14 t446.length co14) : Value).ownBlock ∧ some k_ ≠ ((.slice Ao15 t449.length co15) : Value).ownBlock) u7 x7_3) ∧ jA (Below w.heap.size w w'))
       case atStart => exact ⟨(x7_2), (0), (0), sd_, sd_, H', ⟨Nat.le_refl _⟩, ⟨(rR_ HO_5)⟩, ⟨(rR_ HO_6)⟩, ⟨(rR_ HO_7)⟩, ⟨(bb_ HB)⟩⟩
       case round =>
        clear H'
        try clear c1
        try clear c2
        try clear p2
        try clear p6
        try clear c9
        try clear c9b0
        try clear c10
        try clear c16
        try clear c16b0
        try clear p2
        try clear p6
        obtain ⟨x7_3, x10_3, x11_3, rfl, rfl, HA, HK3, HO_5, HO_6, HO_7, HB⟩ := hrel
        cases gk with
        | zero => exact absurd HA.out (by simp [jF.l2])
        | succ k3 =>
         have H := HA.out
         clear HA
         simp only [jF.l2] at H
         by_cases c17 : x11_3 < (t449.length : Int)
         ·
          rw [if_pos c17] at H
          have c17b0 := decide_eq_true c17
          clear c17
          obtain ⟨ji18, hji18⟩ : ∃ j_ : Int, (wrap64 (x9_2 + x11_3)) = j_ := ⟨_, rfl⟩
          replace H : (if 0 ≤ (ji18) then (if (ji18) < (x7_3.length : Int) then (if 0 ≤ x9_2 then (if x9_2 < (t446.length : Int) then ((jr.f t449 x11_3).bind fun t463 => (jF.l2 k3 t446 t449 (x7_3.set ((ji18) : Int).toNat (Int.tmod (IntKind.u64.wrap ((IntKind.u64.wrap ((rd x7_3 (ji18)) + (IntKind.u64.wrap ((rd t446 x9_2) * t463)))) + x10_3)) 4294967296)) x9_2 (IntKind.u64.wrap (Int.tdiv (IntKind.u64.wrap ((IntKind.u64.wrap ((rd x7_3 (ji18)) + (IntKind.u64.wrap ((rd t446 x9_2) * t463)))) + x10_3)) 4294967296)) (wrap64 (x11_3 + 1)))) else (none)) else (none)) else (none)) else (none)) = some r := by first | (rw [hji18] at H; exact H) | (simp only [hji18] at H ⊢; exact H)
          have hji18w : (IntKind.i64.wrap (x9_2 + x11_3)) = ji18 := (qg _).trans hji18
          by_cases c19 : 0 ≤ (ji18)
          ·
           rw [if_pos c19] at H
           have c19b0 := decide_eq_true c19
           clear c19
           by_cases c20 : (ji18) < (x7_3.length : Int)
           ·
            rw [if_pos c20] at H
            have c20b0 := decide_eq_true c20
            clear c20
            by_cases c21 : 0 ≤ x9_2
            ·
             rw [if_pos c21] at H
             have c21b0 := decide_eq_true c21
             clear c21
             by_cases c22 : x9_2 < (t446.length : Int)
             ·
              rw [if_pos c22] at H
              have c22b0 := decide_eq_true c22
              clear c22
              obtain ⟨t463, A23, H⟩ := oc_ H
              try dsimp only at H
              obtain ⟨ji24, hji24⟩ : ∃ j_ : Int, (Int.tmod (IntKind.u64.wrap ((IntKind.u64.wrap ((rd x7_3 (ji18)) + (IntKind.u64.wrap ((rd t446 x9_2) * t463)))) + x10_3)) 4294967296) = j_ := ⟨_, rfl⟩
              replace H : (jF.l2 k3 t446 t449 (x7_3.set ((ji18) : Int).toNat (ji24)) x9_2 (IntKind.u64.wrap (Int.tdiv (IntKind.u64.wrap ((IntKind.u64.wrap ((rd x7_3 (ji18)) + (IntKind.u64.wrap ((rd t446 x9_2) * t463)))) + x10_3)) 4294967296)) (wrap64 (x11_3 + 1))) = some r := by first | (rw [hji24] at H; exact H) | (simp only [hji24] at H ⊢; exact H)
              (try rw [hji24] at A23)
              obtain ⟨y464, hy464⟩ : ∃ y_ : List Int, y_ = (x7_3.set ((ji18) : Int).toNat (ji24)) := ⟨_, rfl⟩
              replace H : (jF.l2 k3 t446 t449 y464 x9_2 (IntKind.u64.wrap (Int.tdiv (IntKind.u64.wrap ((IntKind.u64.wrap ((rd x7_3 (ji18)) + (IntKind.u64.wrap ((rd t446 x9_2) * t463)))) + x10_3)) 4294967296)) (wrap64 (x11_3 + 1))) = some r := by first | (rw [hy464]; with_reducible exact H) | (have H2_ := (Option.bind_some _ _).symm.trans H; rw [hy464]; with_reducible exact H2_) | (with_reducible exact hs_ H) | with_reducible exact H | (rw [hy464]; exact H) | exact H
              have Ny464 := jA.mk hy464
              clear hy464
              have H' := jA.mk H
              clear H
              obtain ⟨Ao26, co26, eo26⟩ := Kd.jP HO_7.out
              subst eo26
              have p461 : 0 ≤ ((ji18) : Int) := of_decide_eq_true am_
              have q461 : (ji18) < (x7_3.length : Int) := of_decide_eq_true am_
              obtain ⟨ad461, e461, hx461_0⟩ := Kd.zJ (Kd.jC HO_7.out).2.2 (ji18) p461 q461
              cases e461
              replace p461 := eq_true p461
              replace q461 := eq_true q461
              have p462 : 0 ≤ (x9_2 : Int) := of_decide_eq_true am_
              have q462 : x9_2 < (t446.length : Int) := of_decide_eq_true am_
              obtain ⟨ad462, e462, hx462_0⟩ := Kd.zJ (Kd.jC HO_5.out).2.2 x9_2 p462 q462
              cases e462
              replace p462 := eq_true p462
              replace q462 := eq_true q462
              go_wp2_with (first | (go_at_call 69; (with_reducible refine (jr.calls _ _ t449 x11_3 t463 _ ?side1 ?side2 A23.out).mono ?_); (case side1 => exact cc_ (Kd.jC HO_6.out).2.2); (case side2 => exact (Kd.jC HO_6.out).2.1); rintro e w' ⟨rfl, ⟨nd, rfl⟩⟩; (try first | exact ⟨rfl, _, World.drewN_drewN _ _ _⟩ | exact ⟨rfl, _, Eq.trans (World.drewN_drewN _ _ _) (congrArg (World.drewN _) (Nat.add_assoc _ _ _))⟩); have p25 : 0 ≤ ((ji18) : Int) := of_decide_eq_true am_; have q25 : ((ji18) : Int) < ((x7_3.length : Int) : Int) := of_decide_eq_true am_; obtain ⟨go25, co25, eo25, gb25, gl25, cl25, HG25⟩ := Kd.jAC HO_7.out (by omega); (first | cases eo25 | (injection eo25 with ea_ en_ ec_; (first | subst ea_ | (injection ea_ with ea_; subst ea_)); subst ec_; clear en_)); have GB25 := jA.mk gb25; have GG25 := jA.mk HG25; clear gb25 gl25 HG25; (first | simp only [add_plain] at hx461_0 | skip); obtain ⟨hx25_0, hf25_0⟩ := Kd.zY 0 HO_7.out ((ji18) : Int) p25 q25; replace p25 := eq_true p25; replace q25 := eq_true q25; obtain ⟨hy27_, hz27_⟩ := Kd.zY 0 HO_7.out ((ji18) : Int) (of_decide_eq_true am_) (of_decide_eq_true am_); have HP27 := Kd.qz HO_7.out ((ji18) : Int) ji24) | ((with_reducible refine zu (t := 22) (p := 70) rfl ?_); (try (rw [jAH wr]; generalize hq_ : World.drewN wr _ = wr; replace HO_5 := jA.mk (Kd.R_at hq_ HO_5.out); replace HO_6 := jA.mk (Kd.R_at hq_ HO_6.out); replace HO_7 := jA.mk (Kd.R_at hq_ HO_7.out); replace HB := jA.mk (jBM hq_ HB.out); clear hq_; (try (obtain ⟨hy27_, hz27_⟩ := Kd.zY 0 HO_7.out ((ji18) : Int) (of_decide_eq_true am_) (of_decide_eq_true am_))); (try (have HP27 := Kd.qz HO_7.out ((ji18) : Int) ji24)))); refine zi (t := 22) (p := 70) (v := ?vo_w28) (w1 := (wr.setCell ⟨go25, ((ji18) : Int).toNat, none⟩ (.int .u64 ji24))) ?hg ?ho ?hn ?hr ?_; (case ho => rfl); (case hg => rfl); (case hn => rfl); (case hr => exact gs_); intro w28 hw; have hg : wr.grownBy w28 (some go25) := (by rw [hw]; exact HP27.2); have hp_ : Kd.R (Kd.int .u64) 22 w28 w.heap.size (fun k_ => some k_ ≠ (.slice (some ad462) t446.length co14 : Value).ownBlock ∧ some k_ ≠ (.slice Ao15 t449.length co15 : Value).ownBlock) (.slice (some ⟨go25, 0, none⟩) x7_3.length co26) y464 := (by rw [hw, Ny464.out]; exact HP27.1); clear HP27; replace HO_5 := jA.mk (Kd.zh (v := (.slice (some ⟨go25, 0, none⟩) x7_3.length co26)) (v1 := (.slice (some ⟨go25, 0, none⟩) x7_3.length co26)) (ok := (fun k_ => some k_ ≠ (.slice Ao15 t449.length co15 : Value).ownBlock)) (rR_ HO_5) hg (.inl rfl)); replace HO_6 := jA.mk (Kd.zh (v := (.slice (some ⟨go25, 0, none⟩) x7_3.length co26)) (v1 := (.slice (some ⟨go25, 0, none⟩) x7_3.length co26)) (ok := (fun k_ => some k_ ≠ (.slice (some ad462) t446.length co14 : Value).ownBlock)) (rR_ HO_6) hg (.inl rfl)); replace HO_7 := jA.mk (hp_); replace HB := jA.mk ((by rw [hw]; exact vX (HB.out) GB25.out : Below w.heap.size w w28)); clear hg hw hp_))
              repeat (go_quiet (first | (go_at_call 69; (with_reducible refine (jr.calls _ _ t449 x11_3 t463 _ ?side1 ?side2 A23.out).mono ?_); (case side1 => exact cc_ (Kd.jC HO_6.out).2.2); (case side2 => exact (Kd.jC HO_6.out).2.1); rintro e w' ⟨rfl, ⟨nd, rfl⟩⟩; (try first | exact ⟨rfl, _, World.drewN_drewN _ _ _⟩ | exact ⟨rfl, _, Eq.trans (World.drewN_drewN _ _ _) (congrArg (World.drewN _) (Nat.add_assoc _ _ _))⟩); have p25 : 0 ≤ ((ji18) : Int) := of_decide_eq_true am_; have q25 : ((ji18) : Int) < ((x7_3.length : Int) : Int) := of_decide_eq_true am_; obtain ⟨go25, co25, eo25, gb25, gl25, cl25, HG25⟩ := Kd.jAC HO_7.out (by omega); (first | cases eo25 | (injection eo25 with ea_ en_ ec_; (first | subst ea_ | (injection ea_ with ea_; subst ea_)); subst ec_; clear en_)); have GB25 := jA.mk gb25; have GG25 := jA.mk HG25; clear gb25 gl25 HG25; (first | simp only [add_plain] at hx461_0 | skip); obtain ⟨hx25_0, hf25_0⟩ := Kd.zY 0 HO_7.out ((ji18) : Int) p25 q25; replace p25 := eq_true p25; replace q25 := eq_true q25; obtain ⟨hy27_, hz27_⟩ := Kd.zY 0 HO_7.out ((ji18) : Int) (of_decide_eq_true am_) (of_decide_eq_true am_); have HP27 := Kd.qz HO_7.out ((ji18) : Int) ji24) | ((with_reducible refine zu (t := 22) (p := 70) rfl ?_); (try (rw [jAH wr]; generalize hq_ : World.drewN wr _ = wr; replace HO_5 := jA.mk (Kd.R_at hq_ HO_5.out); replace HO_6 := jA.mk (Kd.R_at hq_ HO_6.out); replace HO_7 := jA.mk (Kd.R_at hq_ HO_7.out); replace HB := jA.mk (jBM hq_ HB.out); clear hq_; (try (obtain ⟨hy27_, hz27_⟩ := Kd.zY 0 HO_7.out ((ji18) : Int) (of_decide_eq_true am_) (of_decide_eq_true am_))); (try (have HP27 := Kd.qz HO_7.out ((ji18) : Int) ji24)))); refine zi (t := 22) (p := 70) (v := ?vo_w28) (w1 := (wr.setCell ⟨go25, ((ji18) : Int).toNat, none⟩ (.int .u64 ji24))) ?hg ?ho ?hn ?hr ?_; (case ho => rfl); (case hg => rfl); (case hn => rfl); (case hr => exact gs_); intro w28 hw; have hg : wr.grownBy w28 (some go25) := (by rw [hw]; exact HP27.2); have hp_ : Kd.R (Kd.int .u64) 22 w28 w.heap.size (fun k_ => some k_ ≠ (.slice (some ad462) t446.length co14 : Value).ownBlock ∧ some k_ ≠ (.slice Ao15 t449.length co15 : Value).ownBlock) (.slice (some ⟨go25, 0, none⟩) x7_3.length co26) y464 := (by rw [hw, Ny464.out]; exact HP27.1); clear HP27; replace HO_5 := jA.mk (Kd.zh (v := (.slice (some ⟨go25, 0, none⟩) x7_3.length co26)) (v1 := (.slice (some ⟨go25, 0, none⟩) x7_3.length co26)) (ok := (fun k_ => some k_ ≠ (.slice Ao15 t449.length co15 : Value).ownBlock)) (rR_ HO_5) hg (.inl rfl)); replace HO_6 := jA.mk (Kd.zh (v := (.slice (some ⟨go25, 0, none⟩) x7_3.length co26)) (v1 := (.slice (some ⟨go25, 0, none⟩) x7_3.length co26)) (ok := (fun k_ => some k_ ≠ (.slice (some ad462) t446.length co14 : Value).ownBlock)) (rR_ HO_6) hg (.inl rfl)); replace HO_7 := jA.mk (hp_); replace HB := jA.mk ((by rw [hw]; exact vX (HB.out) GB25.out : Below w.heap.size w w28)); clear hg hw hp_)); try go_wp2_with (first | (go_at_call 69; (with_reducible refine (jr.calls _ _ t449 x11_3 t463 _ ?side1 ?side2 A23.out).mono ?_); (case side1 => exact cc_ (Kd.jC HO_6.out).2.2); (case side2 => exact (Kd.jC HO_6.out).2.1); rintro e w' ⟨rfl, ⟨nd, rfl⟩⟩; (try first | exact ⟨rfl, _, World.drewN_drewN _ _ _⟩ | exact ⟨rfl, _, Eq.trans (World.drewN_drewN _ _ _) (congrArg (World.drewN _) (Nat.add_assoc _ _ _))⟩); have p25 : 0 ≤ ((ji18) : Int) := of_decide_eq_true am_; have q25 : ((ji18) : Int) < ((x7_3.length : Int) : Int) := of_decide_eq_true am_; obtain ⟨go25, co25, eo25, gb25, gl25, cl25, HG25⟩ := Kd.jAC HO_7.out (by omega); (first | cases eo25 | (injection eo25 with ea_ en_ ec_; (first | subst ea_ | (injection ea_ with ea_; subst ea_)); subst ec_; clear en_)); have GB25 := jA.mk gb25; have GG25 := jA.mk HG25; clear gb25 gl25 HG25; (first | simp only [add_plain] at hx461_0 | skip); obtain ⟨hx25_0, hf25_0⟩ := Kd.zY 0 HO_7.out ((ji18) : Int) p25 q25; replace p25 := eq_true p25; replace q25 := eq_true q25; obtain ⟨hy27_, hz27_⟩ := Kd.zY 0 HO_7.out ((ji18) : Int) (of_decide_eq_true am_) (of_decide_eq_true am_); have HP27 := Kd.qz HO_7.out ((ji18) : Int) ji24) | ((with_reducible refine zu (t := 22) (p := 70) rfl ?_); (try (rw [jAH wr]; generalize hq_ : World.drewN wr _ = wr; replace HO_5 := jA.mk (Kd.R_at hq_ HO_5.out); replace HO_6 := jA.mk (Kd.R_at hq_ HO_6.out); replace HO_7 := jA.mk (Kd.R_at hq_ HO_7.out); replace HB := jA.mk (jBM hq_ HB.out); clear hq_; (try (obtain ⟨hy27_, hz27_⟩ := Kd.zY 0 HO_7.out ((ji18) : Int) (of_decide_eq_true am_) (of_decide_eq_true am_))); (try (have HP27 := Kd.qz HO_7.out ((ji18) : Int) ji24)))); refine zi (t := 22) (p := 70) (v := ?vo_w28) (w1 := (wr.setCell ⟨go25, ((ji18) : Int).toNat, none⟩ (.int .u64 ji24))) ?hg ?ho ?hn ?hr ?_; (case ho => rfl); (case hg => rfl); (case hn => rfl); (case hr => exact gs_); intro w28 hw; have hg : wr.grownBy w28 (some go25) := (by rw [hw]; exact HP27.2); have hp_ : Kd.R (Kd.int .u64) 22 w28 w.heap.size (fun k_ => some k_ ≠ (.slice (some ad462) t446.length co14 : Value).ownBlock ∧ some k_ ≠ (.slice Ao15 t449.length co15 : Value).ownBlock) (.slice (some ⟨go25, 0, none⟩) x7_3.length co26) y464 := (by rw [hw, Ny464.out]; exact HP27.1); clear HP27; replace HO_5 := jA.mk (Kd.zh (v := (.slice (some ⟨go25, 0, none⟩) x7_3.length co26)) (v1 := (.slice (some ⟨go25, 0, none⟩) x7_3.length co26)) (ok := (fun k_ => some k_ ≠ (.slice Ao15 t449.length co15 : Value).ownBlock)) (rR_ HO_5) hg (.inl rfl)); replace HO_6 := jA.mk (Kd.zh (v := (.slice (some ⟨go25, 0, none⟩) x7_3.length co26)) (v1 := (.slice (some ⟨go25, 0, none⟩) x7_3.length co26)) (ok := (fun k_ => some k_ ≠ (.slice (some ad462) t446.length co14 : Value).ownBlock)) (rR_ HO_6) hg (.inl rfl)); replace HO_7 := jA.mk (hp_); replace HB := jA.mk ((by rw [hw]; exact vX (HB.out) GB25.out : Below w.heap.size w w28)); clear hg hw hp_)))
              go_roundg k3
              case measure => have := HK1.out; have := HK2.out; have := HK3.out; omega
              case rel => exact ⟨(y464), (IntKind.u64.wrap (Int.tdiv (IntKind.u64.wrap ((IntKind.u64.wrap ((rd x7_3 (ji18)) + (IntKind.u64.wrap ((rd t446 x9_2) * t463)))) + x10_3)) 4294967296)), (wrap64 (x11_3 + 1)), (by first | rfl | (simp; done) | (simp only [← hji18] <;> (first | rfl | simp)) | (simp [*]; done)), sd_, H', ⟨by have := HK1.out; have := HK2.out; have := HK3.out; omega⟩, ⟨(rR_ HO_5)⟩, ⟨(rR_ HO_6)⟩, ⟨(rR_ HO_7)⟩, ⟨(bb_ HB)⟩⟩
             ·
              rw [if_neg c22] at H
              exact absurd H (by simp)
            ·
             rw [if_neg c21] at H
             exact absurd H (by simp)
           ·
            rw [if_neg c20] at H
            exact absurd H (by simp)
          ·
           rw [if_neg c19] at H
           exact absurd H (by simp)
         ·
          rw [if_neg c17] at H
          have c17b0 := decide_eq_false c17
          clear c17
          by_cases c29 : x10_3 > 0
          ·
           rw [if_pos c29] at H
           have c29b0 := decide_eq_true c29
           clear c29
           obtain ⟨ji30, hji30⟩ : ∃ j_ : Int, (wrap64 (x9_2 + x11_3)) = j_ := ⟨_, rfl⟩
           replace H : (if 0 ≤ (ji30) then (if (ji30) < (x7_3.length : Int) then (if 0 ≤ x9_2 then (if x9_2 < (t446.length : Int) then ((jr.f t449 x11_3).bind fun t467 => (jF.l2 k3 t446 t449 (x7_3.set ((ji30) : Int).toNat (Int.tmod (IntKind.u64.wrap ((IntKind.u64.wrap ((rd x7_3 (ji30)) + (IntKind.u64.wrap ((rd t446 x9_2) * t467)))) + x10_3)) 4294967296)) x9_2 (IntKind.u64.wrap (Int.tdiv (IntKind.u64.wrap ((IntKind.u64.wrap ((rd x7_3 (ji30)) + (IntKind.u64.wrap ((rd t446 x9_2) * t467)))) + x10_3)) 4294967296)) (wrap64 (x11_3 + 1)))) else (none)) else (none)) else (none)) else (none)) = some r := by first | (rw [hji30] at H; exact H) | (simp only [hji30] at H ⊢; exact H)
           have hji30w : (IntKind.i64.wrap (x9_2 + x11_3)) = ji30 := (qg _).trans hji30
           by_cases c31 : 0 ≤ (ji30)
           ·
            rw [if_pos c31] at H
            have c31b0 := decide_eq_true c31
            clear c31
            by_cases c32 : (ji30) < (x7_3.length : Int)
            ·
             rw [if_pos c32] at H
             have c32b0 := decide_eq_true c32
             clear c32
             by_cases c33 : 0 ≤ x9_2
             ·
              rw [if_pos c33] at H
              have c33b0 := decide_eq_true c33
              clear c33
              by_cases c34 : x9_2 < (t446.length : Int)
              ·
               rw [if_pos c34] at H
               have c34b0 := decide_eq_true c34
               clear c34
               obtain ⟨t467, A35, H⟩ := oc_ H
               try dsimp only at H
               obtain ⟨ji36, hji36⟩ : ∃ j_ : Int, (Int.tmod (IntKind.u64.wrap ((IntKind.u64.wrap ((rd x7_3 (ji30)) + (IntKind.u64.wrap ((rd t446 x9_2) * t467)))) + x10_3)) 4294967296) = j_ := ⟨_, rfl⟩
               replace H : (jF.l2 k3 t446 t449 (x7_3.set ((ji30) : Int).toNat (ji36)) x9_2 (IntKind.u64.wrap (Int.tdiv (IntKind.u64.wrap ((IntKind.u64.wrap ((rd x7_3 (ji30)) + (IntKind.u64.wrap ((rd t446 x9_2) * t467)))) + x10_3)) 4294967296)) (wrap64 (x11_3 + 1))) = some r := by first | (rw [hji36] at H; exact H) | (simp only [hji36] at H ⊢; exact H)
               (try rw [hji36] at A35)
               obtain ⟨y468, hy468⟩ : ∃ y_ : List Int, y_ = (x7_3.set ((ji30) : Int).toNat (ji36)) := ⟨_, rfl⟩
               replace H : (jF.l2 k3 t446 t449 y468 x9_2 (IntKind.u64.wrap (Int.tdiv (IntKind.u64.wrap ((IntKind.u64.wrap ((rd x7_3 (ji30)) + (IntKind.u64.wrap ((rd t446 x9_2) * t467)))) + x10_3)) 4294967296)) (wrap64 (x11_3 + 1))) = some r := by first | (rw [hy468]; with_reducible exact H) | (have H2_ := (Option.bind_some _ _).symm.trans H; rw [hy468]; with_reducible exact H2_) | (with_reducible exact hs_ H) | with_reducible exact H | (rw [hy468]; exact H) | exact H
               have Ny468 := jA.mk hy468
               clear hy468
               have H' := jA.mk H
               clear H
               obtain ⟨Ao38, co38, eo38⟩ := Kd.jP HO_7.out
               subst eo38
               have p465 : 0 ≤ ((ji30) : Int) := of_decide_eq_true am_
               have q465 : (ji30) < (x7_3.length : Int) := of_decide_eq_true am_
               obtain ⟨ad465, e465, hx465_0⟩ := Kd.zJ (Kd.jC HO_7.out).2.2 (ji30) p465 q465
               cases e465
               replace p465 := eq_true p465
               replace q465 := eq_true q465
               have p466 : 0 ≤ (x9_2 : Int) := of_decide_eq_true am_
               have q466 : x9_2 < (t446.length : Int) := of_decide_eq_true am_
               obtain ⟨ad466, e466, hx466_0⟩ := Kd.zJ (Kd.jC HO_5.out).2.2 x9_2 p466 q466
               cases e466
               replace p466 := eq_true p466
               replace q466 := eq_true q466
               go_wp2_with (first | (go_at_call 69; (with_reducible refine (jr.calls _ _ t449 x11_3 t467 _ ?side1 ?side2 A35.out).mono ?_); (case side1 => exact cc_ (Kd.jC HO_6.out).2.2); (case side2 => exact (Kd.jC HO_6.out).2.1); rintro e w' ⟨rfl, ⟨nd, rfl⟩⟩; (try first | exact ⟨rfl, _, World.drewN_drewN _ _ _⟩ | exact ⟨rfl, _, Eq.trans (World.drewN_drewN _ _ _) (congrArg (World.drewN _) (Nat.add_assoc _ _ _))⟩); have p37 : 0 ≤ ((ji30) : Int) := of_decide_eq_true am_; have q37 : ((ji30) : Int) < ((x7_3.length : Int) : Int) := of_decide_eq_true am_; obtain ⟨go37, co37, eo37, gb37, gl37, cl37, HG37⟩ := Kd.jAC HO_7.out (by omega); (first | cases eo37 | (injection eo37 with ea_ en_ ec_; (first | subst ea_ | (injection ea_ with ea_; subst ea_)); subst ec_; clear en_)); have GB37 := jA.mk gb37; have GG37 := jA.mk HG37; clear gb37 gl37 HG37; (first | simp only [add_plain] at hx465_0 | skip); obtain ⟨hx37_0, hf37_0⟩ := Kd.zY 0 HO_7.out ((ji30) : Int) p37 q37; replace p37 := eq_true p37; replace q37 := eq_true q37; obtain ⟨hy39_, hz39_⟩ := Kd.zY 0 HO_7.out ((ji30) : Int) (of_decide_eq_true am_) (of_decide_eq_true am_); have HP39 := Kd.qz HO_7.out ((ji30) : Int) ji36) | ((with_reducible refine zu (t := 22) (p := 70) rfl ?_); (try (rw [jAH wr]; generalize hq_ : World.drewN wr _ = wr; replace HO_5 := jA.mk (Kd.R_at hq_ HO_5.out); replace HO_6 := jA.mk (Kd.R_at hq_ HO_6.out); replace HO_7 := jA.mk (Kd.R_at hq_ HO_7.out); replace HB := jA.mk (jBM hq_ HB.out); clear hq_; (try (obtain ⟨hy39_, hz39_⟩ := Kd.zY 0 HO_7.out ((ji30) : Int) (of_decide_eq_true am_) (of_decide_eq_true am_))); (try (have HP39 := Kd.qz HO_7.out ((ji30) : Int) ji36)))); refine zi (t := 22) (p := 70) (v := ?vo_w40) (w1 := (wr.setCell ⟨go37, ((ji30) : Int).toNat, none⟩ (.int .u64 ji36))) ?hg ?ho ?hn ?hr ?_; (case ho => rfl); (case hg => rfl); (case hn => rfl); (case hr => exact gs_); intro w40 hw; have hg : wr.grownBy w40 (some go37) := (by rw [hw]; exact HP39.2); have hp_ : Kd.R (Kd.int .u64) 22 w40 w.heap.size (fun k_ => some k_ ≠ (.slice (some ad466) t446.length co14 : Value).ownBlock ∧ some k_ ≠ (.slice Ao15 t449.length co15 : Value).ownBlock) (.slice (some ⟨go37, 0, none⟩) x7_3.length co38) y468 := (by rw [hw, Ny468.out]; exact HP39.1); clear HP39; replace HO_5 := jA.mk (Kd.zh (v := (.slice (some ⟨go37, 0, none⟩) x7_3.length co38)) (v1 := (.slice (some ⟨go37, 0, none⟩) x7_3.length co38)) (ok := (fun k_ => some k_ ≠ (.slice Ao15 t449.length co15 : Value).ownBlock)) (rR_ HO_5) hg (.inl rfl)); replace HO_6 := jA.mk (Kd.zh (v := (.slice (some ⟨go37, 0, none⟩) x7_3.length co38)) (v1 := (.slice (some ⟨go37, 0, none⟩) x7_3.length co38)) (ok := (fun k_ => some k_ ≠ (.slice (some ad466) t446.length co14 : Value).ownBlock)) (rR_ HO_6) hg (.inl rfl)); replace HO_7 := jA.mk (hp_); replace HB := jA.mk ((by rw [hw]; exact vX (HB.out) GB37.out : Below w.heap.size w w40)); clear hg hw hp_))
               repeat (go_quiet (first | (go_at_call 69; (with_reducible refine (jr.calls _ _ t449 x11_3 t467 _ ?side1 ?side2 A35.out).mono ?_); (case side1 => exact cc_ (Kd.jC HO_6.out).2.2); (case side2 => exact (Kd.jC HO_6.out).2.1); rintro e w' ⟨rfl, ⟨nd, rfl⟩⟩; (try first | exact ⟨rfl, _, World.drewN_drewN _ _ _⟩ | exact ⟨rfl, _, Eq.trans (World.drewN_drewN _ _ _) (congrArg (World.drewN _) (Nat.add_assoc _ _ _))⟩); have p37 : 0 ≤ ((ji30) : Int) := of_decide_eq_true am_; have q37 : ((ji30) : Int) < ((x7_3.length : Int) : Int) := of_decide_eq_true am_; obtain ⟨go37, co37, eo37, gb37, gl37, cl37, HG37⟩ := Kd.jAC HO_7.out (by omega); (first | cases eo37 | (injection eo37 with ea_ en_ ec_; (first | subst ea_ | (injection ea_ with ea_; subst ea_)); subst ec_; clear en_)); have GB37 := jA.mk gb37; have GG37 := jA.mk HG37; clear gb37 gl37 HG37; (first | simp only [add_plain] at hx465_0 | skip); obtain ⟨hx37_0, hf37_0⟩ := Kd.zY 0 HO_7.out ((ji30) : Int) p37 q37; replace p37 := eq_true p37; replace q37 := eq_true q37; obtain ⟨hy39_, hz39_⟩ := Kd.zY 0 HO_7.out ((ji30) : Int) (of_decide_eq_true am_) (of_decide_eq_true am_); have HP39 := Kd.qz HO_7.out ((ji30) : Int) ji36) | ((with_reducible refine zu (t := 22) (p := 70) rfl ?_); (try (rw [jAH wr]; generalize hq_ : World.drewN wr _ = wr; replace HO_5 := jA.mk (Kd.R_at hq_ HO_5.out); replace HO_6 := jA.mk (Kd.R_at hq_ HO_6.out); replace HO_7 := jA.mk (Kd.R_at hq_ HO_7.out); replace HB := jA.mk (jBM hq_ HB.out); clear hq_; (try (obtain ⟨hy39_, hz39_⟩ := Kd.zY 0 HO_7.out ((ji30) : Int) (of_decide_eq_true am_) (of_decide_eq_true am_))); (try (have HP39 := Kd.qz HO_7.out ((ji30) : Int) ji36)))); refine zi (t := 22) (p := 70) (v := ?vo_w40) (w1 := (wr.setCell ⟨go37, ((ji30) : Int).toNat, none⟩ (.int .u64 ji36))) ?hg ?ho ?hn ?hr ?_; (case ho => rfl); (case hg => rfl); (case hn => rfl); (case hr => exact gs_); intro w40 hw; have hg : wr.grownBy w40 (some go37) := (by rw [hw]; exact HP39.2); have hp_ : Kd.R (Kd.int .u64) 22 w40 w.heap.size (fun k_ => some k_ ≠ (.slice (some ad466) t446.length co14 : Value).ownBlock ∧ some k_ ≠ (.slice Ao15 t449.length co15 : Value).ownBlock) (.slice (some ⟨go37, 0, none⟩) x7_3.length co38) y468 := (by rw [hw, Ny468.out]; exact HP39.1); clear HP39; replace HO_5 := jA.mk (Kd.zh (v := (.slice (some ⟨go37, 0, none⟩) x7_3.length co38)) (v1 := (.slice (some ⟨go37, 0, none⟩) x7_3.length co38)) (ok := (fun k_ => some k_ ≠ (.slice Ao15 t449.length co15 : Value).ownBlock)) (rR_ HO_5) hg (.inl rfl)); replace HO_6 := jA.mk (Kd.zh (v := (.slice (some ⟨go37, 0, none⟩) x7_3.length co38)) (v1 := (.slice (some ⟨go37, 0, none⟩) x7_3.length co38)) (ok := (fun k_ => some k_ ≠ (.slice (some ad466) t446.length co14 : Value).ownBlock)) (rR_ HO_6) hg (.inl rfl)); replace HO_7 := jA.mk (hp_); replace HB := jA.mk ((by rw [hw]; exact vX (HB.out) GB37.out : Below w.heap.size w w40)); clear hg hw hp_)); try go_wp2_with (first | (go_at_call 69; (with_reducible refine (jr.calls _ _ t449 x11_3 t467 _ ?side1 ?side2 A35.out).mono ?_); (case side1 => exact cc_ (Kd.jC HO_6.out).2.2); (case side2 => exact (Kd.jC HO_6.out).2.1); rintro e w' ⟨rfl, ⟨nd, rfl⟩⟩; (try first | exact ⟨rfl, _, World.drewN_drewN _ _ _⟩ | exact ⟨rfl, _, Eq.trans (World.drewN_drewN _ _ _) (congrArg (World.drewN _) (Nat.add_assoc _ _ _))⟩); have p37 : 0 ≤ ((ji30) : Int) := of_decide_eq_true am_; have q37 : ((ji30) : Int) < ((x7_3.length : Int) : Int) := of_decide_eq_true am_; obtain ⟨go37, co37, eo37, gb37, gl37, cl37, HG37⟩ := Kd.jAC HO_7.out (by omega); (first | cases eo37 | (injection eo37 with ea_ en_ ec_; (first | subst ea_ | (injection ea_ with ea_; subst ea_)); subst ec_; clear en_)); have GB37 := jA.mk gb37; have GG37 := jA.mk HG37; clear gb37 gl37 HG37; (first | simp only [add_plain] at hx465_0 | skip); obtain ⟨hx37_0, hf37_0⟩ := Kd.zY 0 HO_7.out ((ji30) : Int) p37 q37; replace p37 := eq_true p37; replace q37 := eq_true q37; obtain ⟨hy39_, hz39_⟩ := Kd.zY 0 HO_7.out ((ji30) : Int) (of_decide_eq_true am_) (of_decide_eq_true am_); have HP39 := Kd.qz HO_7.out ((ji30) : Int) ji36) | ((with_reducible refine zu (t := 22) (p := 70) rfl ?_); (try (rw [jAH wr]; generalize hq_ : World.drewN wr _ = wr; replace HO_5 := jA.mk (Kd.R_at hq_ HO_5.out); replace HO_6 := jA.mk (Kd.R_at hq_ HO_6.out); replace HO_7 := jA.mk (Kd.R_at hq_ HO_7.out); replace HB := jA.mk (jBM hq_ HB.out); clear hq_; (try (obtain ⟨hy39_, hz39_⟩ := Kd.zY 0 HO_7.out ((ji30) : Int) (of_decide_eq_true am_) (of_decide_eq_true am_))); (try (have HP39 := Kd.qz HO_7.out ((ji30) : Int) ji36)))); refine zi (t := 22) (p := 70) (v := ?vo_w40) (w1 := (wr.setCell ⟨go37, ((ji30) : Int).toNat, none⟩ (.int .u64 ji36))) ?hg ?ho ?hn ?hr ?_; (case ho => rfl); (case hg => rfl); (case hn => rfl); (case hr => exact gs_); intro w40 hw; have hg : wr.grownBy w40 (some go37) := (by rw [hw]; exact HP39.2); have hp_ : Kd.R (Kd.int .u64) 22 w40 w.heap.size (fun k_ => some k_ ≠ (.slice (some ad466) t446.length co14 : Value).ownBlock ∧ some k_ ≠ (.slice Ao15 t449.length co15 : Value).ownBlock) (.slice (some ⟨go37, 0, none⟩) x7_3.length co38) y468 := (by rw [hw, Ny468.out]; exact HP39.1); clear HP39; replace HO_5 := jA.mk (Kd.zh (v := (.slice (some ⟨go37, 0, none⟩) x7_3.length co38)) (v1 := (.slice (some ⟨go37, 0, none⟩) x7_3.length co38)) (ok := (fun k_ => some k_ ≠ (.slice Ao15 t449.length co15 : Value).ownBlock)) (rR_ HO_5) hg (.inl rfl)); replace HO_6 := jA.mk (Kd.zh (v := (.slice (some ⟨go37, 0, none⟩) x7_3.length co38)) (v1 := (.slice (some ⟨go37, 0, none⟩) x7_3.length co38)) (ok := (fun k_ => some k_ ≠ (.slice (some ad466) t446.length co14 : Value).ownBlock)) (rR_ HO_6) hg (.inl rfl)); replace HO_7 := jA.mk (hp_); replace HB := jA.mk ((by rw [hw]; exact vX (HB.out) GB37.out : Below w.heap.size w w40)); clear hg hw hp_)))
               go_roundg k3
               case measure => have := HK1.out; have := HK2.out; have := HK3.out; omega
               case rel => exact ⟨(y468), (IntKind.u64.wrap (Int.tdiv (IntKind.u64.wrap ((IntKind.u64.wrap ((rd x7_3 (ji30)) + (IntKind.u64.wrap ((rd t446 x9_2) * t467)))) + x10_3)) 4294967296)), (wrap64 (x11_3 + 1)), (by first | rfl | (simp; done) | (simp only [← hji30] <;> (first | rfl | simp)) | (simp [*]; done)), sd_, H', ⟨by have := HK1.out; have := HK2.out; have := HK3.out; omega⟩, ⟨(rR_ HO_5)⟩, ⟨(rR_ HO_6)⟩, ⟨(rR_ HO_7)⟩, ⟨(bb_ HB)⟩⟩
              ·
               rw [if_neg c34] at H
               exact absurd H (by simp)
             ·
              rw [if_neg c33] at H
              exact absurd H (by simp)
            ·
             rw [if_neg c32] at H
             exact absurd H (by simp)
           ·
            rw [if_neg c31] at H
            exact absurd H (by simp)
          ·
           rw [if_neg c29] at H
           have c29b0 := decide_eq_false c29
           clear c29
           have H' := jA.mk H
           clear H
           go_wp2
           repeat (go_quiet (fail); try go_wp2)
           go_roundg k3
           case measure => have := HK1.out; have := HK2.out; have := HK3.out; omega
           case rel => exact ⟨(x7_3), (wrap64 (x9_2 + 1)), sd_, H', ⟨by have := HK1.out; have := HK2.out; have := HK3.out; omega⟩, ⟨(rR_ HO_5)⟩, ⟨(rR_ HO_6)⟩, ⟨(rR_ HO_7)⟩, ⟨(bb_ HB)⟩⟩
      ·
       rw [if_neg c16] at H
       have c16b0 := decide_eq_false c16
       clear c16
       replace H := ob_ H
       obtain ⟨t458, A410, H⟩ := H
       replace H : (some t458) = some r := H
       have A41 := jA.mk A410
       clear A410
       obtain rfl := Option.some.inj H
       obtain ⟨Ao42, co42, eo42⟩ := Kd.jP HO_7.out
       subst eo42
       go_wp2_with (first | (go_at_call 70; (with_reducible refine (jN.calls k2 _ _ x7_2 t458 _ ?side1 ?side2 A41.out).mono ?_); (case side1 => exact cc_ (Kd.jC HO_7.out).2.2); (case side2 => exact (Kd.jC HO_7.out).2.1); rintro e w43 ⟨v459, rfl, ho0, hb⟩; have HO460 := jA.mk (Kd.jL (Kd.jG (Kd.jG (Kd.jG ho0 (Kd.R_lt (rR_ HO_5))) (Kd.R_lt (rR_ HO_6))) (Kd.R_lt (rR_ HO_7))) (jB (bb_ HB))); replace HO_5 := re_ HO_5 ho0 hb; replace HO_6 := re_ HO_6 ho0 hb; replace HO_7 := re_ HO_7 ho0 hb; replace HB := bs_ HB hb))
       repeat (go_quiet (first | (go_at_call 70; (with_reducible refine (jN.calls k2 _ _ x7_2 t458 _ ?side1 ?side2 A41.out).mono ?_); (case side1 => exact cc_ (Kd.jC HO_7.out).2.2); (case side2 => exact (Kd.jC HO_7.out).2.1); rintro e w43 ⟨v459, rfl, ho0, hb⟩; have HO460 := jA.mk (Kd.jL (Kd.jG (Kd.jG (Kd.jG ho0 (Kd.R_lt (rR_ HO_5))) (Kd.R_lt (rR_ HO_6))) (Kd.R_lt (rR_ HO_7))) (jB (bb_ HB))); replace HO_5 := re_ HO_5 ho0 hb; replace HO_6 := re_ HO_6 ho0 hb; replace HO_7 := re_ HO_7 ho0 hb; replace HB := bs_ HB hb)); try go_wp2_with (first | (go_at_call 70; (with_reducible refine (jN.calls k2 _ _ x7_2 t458 _ ?side1 ?side2 A41.out).mono ?_); (case side1 => exact cc_ (Kd.jC HO_7.out).2.2); (case side2 => exact (Kd.jC HO_7.out).2.1); rintro e w43 ⟨v459, rfl, ho0, hb⟩; have HO460 := jA.mk (Kd.jL (Kd.jG (Kd.jG (Kd.jG ho0 (Kd.R_lt (rR_ HO_5))) (Kd.R_lt (rR_ HO_6))) (Kd.R_lt (rR_ HO_7))) (jB (bb_ HB))); replace HO_5 := re_ HO_5 ho0 hb; replace HO_6 := re_ HO_6 ho0 hb; replace HO_7 := re_ HO_7 ho0 hb; replace HB := bs_ HB hb)))
       go_ret
       exact ⟨_, ew_, by refine pR_ ?_; exact Kd.jO HO460.out (fun _ hk => trivial), (bb_ HB)⟩
mutual
def jQ.l0 : Nat → List Int → List Int → List Int → Int → Int → Option (List Int)
 | 0, _, _, _, _, _ => none
 | k + 1, x5, x6, x7, x8, x9 => if x9 < (x5.length : Int) then (jQ.j1 k x5 x6 x7 x8 x9 true) else (if x9 < (x6.length : Int) then (jQ.j1 k x5 x6 x7 x8 x9 true) else (jQ.j1 k x5 x6 x7 x8 x9 (decide (x8 > 0))))
def jQ.j1 : Nat → List Int → List Int → List Int → Int → Int → Bool → Option (List Int)
 | 0, _, _, _, _, _, _ => none
 | k + 1, x5, x6, x7, x8, x9, x29 => if x29 = true then ((jr.f x5 x9).bind fun t478 => ((jr.f x6 x9).bind fun t479 => (if x7.length < 17592186044416 then (jQ.l0 k x5 x6 (x7 ++ [Int.tmod (IntKind.u64.wrap ((IntKind.u64.wrap (t478 + t479)) + x8)) 4294967296]) (IntKind.u64.wrap (Int.tdiv (IntKind.u64.wrap ((IntKind.u64.wrap (t478 + t479)) + x8)) 4294967296)) (wrap64 (x9 + 1))) else (none)))) else ((jN.f k x7).bind fun t483 => (some t483))
end
def jQ.f (k : Nat) (l0 : List Int) (l1 : List Int) : Option (List Int) := (jH.f k l0).bind fun t469 => ((jH.f k l1).bind fun t472 => (jQ.l0 k t469 t472 (([] : List Int)) 0 0))
theorem jQ.vQ : ∀ k, (∀ y0 y1 y2 y3 y4, LeO (jQ.l0 k y0 y1 y2 y3 y4) (jQ.l0 (k + 1) y0 y1 y2 y3 y4)) ∧ (∀ y0 y1 y2 y3 y4 y5, LeO (jQ.j1 k y0 y1 y2 y3 y4 y5) (jQ.j1 (k + 1) y0 y1 y2 y3 y4 y5))
 | 0 => ⟨fun _ _ _ _ _ r h => by simp [jQ.l0] at h, fun _ _ _ _ _ _ r h => by simp [jQ.j1] at h⟩
 | k + 1 => by
  obtain ⟨ih0, ih1⟩ := jQ.vQ k
  refine ⟨?_, ?_⟩ <;> (intros; first | unfold jQ.l0 | unfold jQ.j1) <;> repeat' first
   | (with_reducible exact ih0 _ _ _ _ _)
   | (with_reducible exact ih1 _ _ _ _ _ _)
   | (with_reducible exact jH.mono _ _)
   | (with_reducible exact jN.mono _ _)
   | (with_reducible exact LeO.refl _)
   | (with_reducible exact LeO.none _)
   | (with_reducible refine LeO.ite ?_ ?_)
   | (with_reducible refine LeO.bind ?_ (fun _ => ?_))
theorem jQ.mono : ∀ a0 a1 k, LeO (jQ.f k a0 a1) (jQ.f (k + 1) a0 a1) := by
 intro a0 a1 k
 obtain ⟨ih0, ih1⟩ := jQ.vQ k
 unfold jQ.f
 repeat' first
   | (with_reducible exact ih0 _ _ _ _ _)
   | (with_reducible exact ih1 _ _ _ _ _ _)
   | (with_reducible exact jH.mono _ _)
   | (with_reducible exact jN.mono _ _)
   | (with_reducible exact LeO.refl _)
   | (with_reducible exact LeO.none _)
   | (with_reducible refine LeO.ite ?_ ?_)
   | (with_reducible refine LeO.bind ?_ (fun _ => ?_))
theorem jQ.calls (k : Nat) (A0 : Option Addr) (c0 : Nat) (l0 : List Int) (A1 : Option Addr) (c1 : Nat) (l1 : List Int) (r : List Int) (w : World) (hr0 : Kd.C (Kd.int .u64) w A0 l0.length l0) (hc0 : l0.length ≤ c0) (hr1 : Kd.C (Kd.int .u64) w A1 l1.length l1) (hc1 : l1.length ≤ c1) (h : jQ.f k l0 l1 = some r) :
  Calls Try.prog 102 #[.slice A0 l0.length c0, .slice A1 l1.length c1] w fun e w' => ∃ v0_ : Value, e = .returned (v0_) ∧ Kd.R (Kd.int .u64) 22 w' w.heap.size (fun _ => True) v0_ r ∧ Below w.heap.size w w' := by
 have HR0 := jA.mk hr0
 have HC0 := jA.mk hc0
 clear hr0 hc0
 have HR1 := jA.mk hr1
 have HC1 := jA.mk hc1
 clear hr1 hc1
 have HB := jA.mk (Below.refl w.heap.size w)
 have H : ((jH.f k l0).bind fun t469 => ((jH.f k l1).bind fun t472 => (jQ.l0 k t469 t472 (([] : List Int)) 0 0))) = some r := h
 clear h
 obtain ⟨t469, A3, H⟩ := oc_ H
 try dsimp only at H
 obtain ⟨t472, A4, H⟩ := oc_ H
 try dsimp only at H
 obtain ⟨y475, hy475⟩ : ∃ y_ : List Int, y_ = (([] : List Int)) := ⟨_, rfl⟩
 replace H : (jQ.l0 k t469 t472 y475 0 0) = some r := by first | (rw [hy475]; with_reducible exact H) | (have H2_ := (Option.bind_some _ _).symm.trans H; rw [hy475]; with_reducible exact H2_) | (with_reducible exact hs_ H) | with_reducible exact H | (rw [hy475]; exact H) | exact H
 have Ny475 := jA.mk hy475
 clear hy475
 have H' := jA.mk H
 clear H
 go_enter Try.func102, Try.ntmps102
 go_wp2_with (first | ((with_reducible refine jD (f := 68) rfl ?_); refine gl_ (some 12) Try.func68 #[.slice A0 l0.length c0] ?_; (with_reducible refine (jH.calls k _ _ l0 t469 _ ?side1 ?side2 A3.out).mono ?_); (case side1 => exact cc_ HR0.out); (case side2 => exact HC0.out); rintro e w5 ⟨v470, rfl, ho0, hb⟩; refine ⟨_, rfl, ?_⟩; have HO471 := jA.mk (Kd.jL ho0 (jB (bb_ HB))); replace HB := bs_ HB hb) | ((with_reducible refine jD (f := 68) rfl ?_); refine gl_ (some 14) Try.func68 #[.slice A1 l1.length c1] ?_; (with_reducible refine (jH.calls k _ _ l1 t472 _ ?side1 ?side2 A4.out).mono ?_); (case side1 => exact cb_ HR1 HB); (case side2 => exact HC1.out); rintro e w6 ⟨v473, rfl, ho0, hb⟩; refine ⟨_, rfl, ?_⟩; have HO474 := jA.mk (Kd.jL (Kd.jG ho0 (Kd.R_lt (rR_ HO471))) (jB (bb_ HB))); replace HO471 := re_ HO471 ho0 hb; replace HB := bs_ HB hb) | ((with_reducible refine jW (N := 15) rfl ?_); (try (refine je (by rfl) ?_; dsimp only)); refine Kd.qy (Kd.int .u64) _ 22 ?hg (N := 15) ?hd (xs := ([] : List Int)) (inner := []) (ok := fun _ => True) (okp := fun _ => True) ?hr ?hp (fun _ hk => hk) trivial (Below.refl _ _) (Nat.le_refl _) (by simp) ?_; (case hd => rfl); (case hg => rfl); (case hr => exact gs_); (case hp => exact (Reps.none _ _)); intro v476 w7 ho8 hb hg_ hnew_; clear hg_ hnew_; (first | rw [← Ny475.out] at ho8 | (simp only [Int.reduceToNat] at ho8; rw [← Ny475.out] at ho8)); have HO477 := jA.mk (Kd.jL (Kd.jG (Kd.jG ho8 (Kd.R_lt (rR_ HO471))) (Kd.R_lt (rR_ HO474))) (jB (bb_ HB))); replace HO471 := re_ HO471 ho8 hb; replace HO474 := re_ HO474 ho8 hb; replace HB := bs_ HB hb; clear hb ho8))
 go_loopg [7, 8, 9] k (fun kq v7 v8 v9 w' => ∃ (x7_1 : List Int) (x8_1 : Int) (x9_1 : Int), v8 = .int .u64 x8_1 ∧ v9 = .int .i64 x9_1 ∧ jA (jQ.l0 kq t469 t472 x7_1 x8_1 x9_1 = some r) ∧ jA (kq ≤ k) ∧ jA (Kd.R (Kd.int .u64) 22 w' w.heap.size (fun k_ => some k_ ≠ (v473 : Value).ownBlock ∧ some k_ ≠ (v7 : Value).ownBlock) v470 t469) ∧ jA (Kd.R (Kd.int .u64) 22 w' w.heap.size (fun k_ => some k_ ≠ (v470 : Value).ownBlock ∧ some k_ ≠ (v7 : Value).ownBlock) v473 t472) ∧ jA (Kd.R (Kd.int .u64) 22 w' w.heap.size (fun k_ => some k_ ≠ (v470 : Value).ownBlock ∧ some k_ ≠ (v473 : Value).ownBlock) v7 x7_1) ∧ jA (Below w.heap.size w w'))
 case atStart => exact ⟨(y475), (0), (0), sd_, sd_, H', ⟨Nat.le_refl _⟩, ⟨by (with_reducible repeat (first | apply Kd.zG | apply Kd.zM | apply Kd.zP)); exact Kd.jO HO471.out (fun _ hk => ⟨hk.1.2, hk.2⟩)⟩, ⟨by (with_reducible repeat (first | apply Kd.zG | apply Kd.zM | apply Kd.zP)); exact Kd.jO HO474.out (fun _ hk => ⟨hk.1.2, hk.2⟩)⟩, ⟨by (with_reducible repeat (first | apply Kd.zG | apply Kd.zM | apply Kd.zP)); exact Kd.jO HO477.out (fun _ hk => ⟨hk.1.2, hk.2⟩)⟩, ⟨(bb_ HB)⟩⟩
 case round =>
  clear H'
  try clear c1
  try clear p2
  try clear c6
  obtain ⟨x7_1, x8_1, x9_1, rfl, rfl, HA, HK1, HO_5, HO_6, HO_7, HB⟩ := hrel
  cases gk with
  | zero => exact absurd HA.out (by simp [jQ.l0])
  | succ k1 =>
   have H := HA.out
   clear HA
   simp only [jQ.l0] at H
   have HC9 := jA.mk H
   clear H
   go_upto_region 6 with (fail)
   go_cut [29] (fun v29 wc => ∃ (kq : Nat) (x29_8 : Bool), v29 = .bool x29_8 ∧ jA (jQ.j1 kq t469 t472 x7_1 x8_1 x9_1 x29_8 = some r) ∧ jA (kq ≤ k1) ∧ jA (Kd.R (Kd.int .u64) 22 wc w.heap.size (fun k_ => some k_ ≠ (v473 : Value).ownBlock ∧ some k_ ≠ (u7 : Value).ownBlock) v470 t469) ∧ jA (Kd.R (Kd.int .u64) 22 wc w.heap.size (fun k_ => some k_ ≠ (v470 : Value).ownBlock ∧ some k_ ≠ (u7 : Value).ownBlock) v473 t472) ∧ jA (Kd.R (Kd.int .u64) 22 wc w.heap.size (fun k_ => some k_ ≠ (v470 : Value).ownBlock ∧ some k_ ≠ (v473 : Value).ownBlock) u7 x7_1) ∧ jA (Below w.heap.size w wc))
   case first =>
    have H := HC9.out
    clear HC9
    by_cases c10 : x9_1 < (t469.length : Int)
    ·
     rw [if_pos c10] at H
     have c10b0 := decide_eq_true c10
     clear c10
     (first | rw [c10b0] | (simp only [qg, jAb]; rw [c10b0]) | skip)
     have H' := jA.mk H
     clear H
     obtain ⟨Ao11, co11, eo11⟩ := Kd.jP HO_5.out
     subst eo11
     go_wp2
     go_meet
     case rel => exact ⟨_, (true), sd_, H', ⟨by have := HK1.out; first | omega | exact Nat.le_refl _⟩, ⟨(rR_ HO_5)⟩, ⟨(rR_ HO_6)⟩, ⟨(rR_ HO_7)⟩, ⟨(bb_ HB)⟩⟩
    ·
     rw [if_neg c10] at H
     have c10b0 := decide_eq_false c10
     clear c10
     (first | rw [c10b0] | (simp only [qg, jAb]; rw [c10b0]) | skip)
     by_cases c12 : x9_1 < (t472.length : Int)
     ·
      rw [if_pos c12] at H
      have c12b0 := decide_eq_true c12
      clear c12
      have H' := jA.mk H
      clear H
      obtain ⟨Ao13, co13, eo13⟩ := Kd.jP HO_5.out
      subst eo13
      obtain ⟨Ao14, co14, eo14⟩ := Kd.jP HO_6.out
      subst eo14
      go_wp2
      go_meet
      case rel => exact ⟨_, (true), sd_, H', ⟨by have := HK1.out; first | omega | exact Nat.le_refl _⟩, ⟨(rR_ HO_5)⟩, ⟨(rR_ HO_6)⟩, ⟨(rR_ HO_7)⟩, ⟨(bb_ HB)⟩⟩
     ·
      rw [if_neg c12] at H
      have c12b0 := decide_eq_false c12
      clear c12
      have H' := jA.mk H
      clear H
      obtain ⟨Ao15, co15, eo15⟩ := Kd.jP HO_5.out
      subst eo15
      obtain ⟨Ao16, co16, eo16⟩ := Kd.jP HO_6.out
      subst eo16
      go_wp2
      go_meet
      case rel => exact ⟨_, (decide (x8_1 > 0)), sd_, H', ⟨by have := HK1.out; first | omega | exact Nat.le_refl _⟩, ⟨(rR_ HO_5)⟩, ⟨(rR_ HO_6)⟩, ⟨(rR_ HO_7)⟩, ⟨(bb_ HB)⟩⟩
   case rest =>
    clear HC9
    try clear c1
    try clear p2
    try clear c6
    try clear c10
    try clear c10b0
    try clear c12
    try clear c12b0
    try clear p2
    obtain ⟨kq, x29_8, rfl, HA, HJ8, HO_5, HO_6, HO_7, HB⟩ := hcut
    cases kq with
    | zero => exact absurd HA.out (by simp [jQ.j1])
    | succ kj8 =>
     have H := HA.out
     clear HA
     simp only [jQ.j1] at H
     by_cases c17 : x29_8 = true
     ·
      subst c17
      replace H := ip_ H
      obtain ⟨t478, A18, H⟩ := oc_ H
      try dsimp only at H
      obtain ⟨t479, A19, H⟩ := oc_ H
      try dsimp only at H
      obtain ⟨ji20, hji20⟩ : ∃ j_ : Int, (Int.tmod (IntKind.u64.wrap ((IntKind.u64.wrap (t478 + t479)) + x8_1)) 4294967296) = j_ := ⟨_, rfl⟩
      replace H : (if x7_1.length < 17592186044416 then (jQ.l0 kj8 t469 t472 (x7_1 ++ [ji20]) (IntKind.u64.wrap (Int.tdiv (IntKind.u64.wrap ((IntKind.u64.wrap (t478 + t479)) + x8_1)) 4294967296)) (wrap64 (x9_1 + 1))) else (none)) = some r := by first | (rw [hji20] at H; exact H) | (simp only [hji20] at H ⊢; exact H)
      (try rw [hji20] at A18)
      (try rw [hji20] at A19)
      by_cases c21 : x7_1.length < 17592186044416
      ·
       rw [if_pos c21] at H
       have LMc21 := jA.mk c21
       clear c21
       obtain ⟨y480, hy480⟩ : ∃ y_ : List Int, y_ = (x7_1 ++ [ji20]) := ⟨_, rfl⟩
       replace H : (jQ.l0 kj8 t469 t472 y480 (IntKind.u64.wrap (Int.tdiv (IntKind.u64.wrap ((IntKind.u64.wrap (t478 + t479)) + x8_1)) 4294967296)) (wrap64 (x9_1 + 1))) = some r := by first | (rw [hy480]; with_reducible exact H) | (have H2_ := (Option.bind_some _ _).symm.trans H; rw [hy480]; with_reducible exact H2_) | (with_reducible exact hs_ H) | with_reducible exact H | (rw [hy480]; exact H) | exact H
       have Ny480 := jA.mk hy480
       clear hy480
       have H' := jA.mk H
       clear H
       obtain ⟨Ao22, co22, eo22⟩ := Kd.jP HO_5.out
       subst eo22
       go_wp2_with (first | ((with_reducible refine jD (f := 69) rfl ?_); refine gl_ (some 34) Try.func69 #[.slice Ao22 t469.length co22, .int .i64 x9_1] ?_; (with_reducible refine (jr.calls _ _ t469 x9_1 t478 _ ?side1 ?side2 A18.out).mono ?_); (case side1 => exact cc_ (Kd.jC HO_5.out).2.2); (case side2 => exact (Kd.jC HO_5.out).2.1); rintro e w' ⟨rfl, ⟨nd, rfl⟩⟩; refine ⟨_, rfl, ?_⟩; obtain ⟨Ao23, co23, rfl⟩ := Kd.jP HO_6.out) | ((with_reducible refine jD (f := 69) rfl ?_); refine gl_ (some 37) Try.func69 #[.slice Ao23 t472.length co23, .int .i64 x9_1] ?_; (with_reducible refine (jr.calls _ _ t472 x9_1 t479 _ ?side1 ?side2 A19.out).mono ?_); (case side1 => exact cc_ (Kd.jC HO_6.out).2.2); (case side2 => exact (Kd.jC HO_6.out).2.1); rintro e w' ⟨rfl, ⟨nd, rfl⟩⟩; refine ⟨_, rfl, ?_⟩) | ((with_reducible refine zK (b := .append) (xs := #[.tmp 41, .tmp 44]) rfl ?_); (try (refine je (by rfl) ?_; dsimp only)); at_builtin; refine Kd.qh (Kd.int .u64) (w0 := w) w.heap.size rfl (.tmp 41) (.tmp 44) 35 22 (.int .u64 0) 8 rfl Try.underlying35 qO rfl (by decide) (by omega) u7 x7_1 ji20 [.int .u64 ji20] (fun k_ => some k_ ≠ (.slice Ao22 t469.length co22 : Value).ownBlock ∧ some k_ ≠ (.slice Ao23 t472.length co23 : Value).ownBlock) (fun _ => False) rfl rfl ?aP (fun _ hk => hk.elim) ?aF ?aO ?aB ?aS ?aL ?_; (case aP => exact rfl); (case aB => exact (bb_ HB)); (case aF => exact (fun k_ hk => ⟨Kd.fresh' (Kd.R_lt (rR_ HO_5)) k_ hk, Kd.fresh' (Kd.R_lt (rR_ HO_6)) k_ hk⟩)); (case aO => exact (rR_ HO_7)); (case aS => exact (jB (bb_ HB))); (case aL => have := LMc21.out; omega); intro v481 w24 ho hb hg hat; rw [← Ny480.out] at ho; replace HO_5 := jA.mk (Kd.zh (ok := (fun k_ => some k_ ≠ (.slice Ao23 t472.length co23 : Value).ownBlock)) (rR_ HO_5) hg hat); replace HO_6 := jA.mk (Kd.zh (ok := (fun k_ => some k_ ≠ (.slice Ao22 t469.length co22 : Value).ownBlock)) (rR_ HO_6) hg hat); replace HB := jA.mk (hb); have HO482 := jA.mk (ho); clear HO_7 ho hb hg hat))
       go_roundg kj8
       case measure => have := HK1.out; have := HJ8.out; omega
       case rel => exact ⟨(y480), (IntKind.u64.wrap (Int.tdiv (IntKind.u64.wrap ((IntKind.u64.wrap (t478 + t479)) + x8_1)) 4294967296)), (wrap64 (x9_1 + 1)), sd_, sd_, H', ⟨by have := HK1.out; have := HJ8.out; omega⟩, ⟨(rR_ HO_5)⟩, ⟨(rR_ HO_6)⟩, ⟨(rR_ HO482)⟩, ⟨(bb_ HB)⟩⟩
      ·
       rw [if_neg c21] at H
       exact absurd H (by simp)
     ·
      replace c17 := Bool.eq_false_iff.mpr c17
      subst c17
      replace H := in_ H
      replace H := ob_ H
      obtain ⟨t483, A250, H⟩ := H
      replace H : (some t483) = some r := H
      have A25 := jA.mk A250
      clear A250
      obtain rfl := Option.some.inj H
      obtain ⟨Ao26, co26, eo26⟩ := Kd.jP HO_7.out
      subst eo26
      go_wp2_with (first | ((with_reducible refine jD (f := 70) rfl ?_); refine gl_ (some 49) Try.func70 #[.slice Ao26 x7_1.length co26] ?_; (with_reducible refine (jN.calls kj8 _ _ x7_1 t483 _ ?side1 ?side2 A25.out).mono ?_); (case side1 => exact cc_ (Kd.jC HO_7.out).2.2); (case side2 => exact (Kd.jC HO_7.out).2.1); rintro e w27 ⟨v484, rfl, ho0, hb⟩; refine ⟨_, rfl, ?_⟩; have HO485 := jA.mk (Kd.jL (Kd.jG (Kd.jG (Kd.jG ho0 (Kd.R_lt (rR_ HO_5))) (Kd.R_lt (rR_ HO_6))) (Kd.R_lt (rR_ HO_7))) (jB (bb_ HB))); replace HO_5 := re_ HO_5 ho0 hb; replace HO_6 := re_ HO_6 ho0 hb; replace HO_7 := re_ HO_7 ho0 hb; replace HB := bs_ HB hb))
      go_ret
      exact ⟨_, ew_, by refine pR_ ?_; exact Kd.jO HO485.out (fun _ hk => trivial), (bb_ HB)⟩
def jU.l0 : Nat → List Int → List Int → Int → Option (Int)
 | 0, _, _, _ => none
 | k + 1, x0, x1, x5 => if x5 ≥ 0 then ((jr.f x0 x5).bind fun t486 => ((jr.f x1 x5).bind fun t487 => (if t486 < t487 then (some (-1)) else ((jr.f x0 x5).bind fun t488 => ((jr.f x1 x5).bind fun t489 => (if t488 > t489 then (some 1) else (jU.l0 k x0 x1 (wrap64 (x5 - 1))))))))) else (some 0)
def jU.f (k : Nat) (l0 : List Int) (l1 : List Int) : Option (Int) := jU.l0 k l0 l1 (wrap64 ((mx (l0.length : Int) (l1.length : Int)) - 1))
theorem jU.vQ : ∀ k, (∀ y0 y1 y2, LeO (jU.l0 k y0 y1 y2) (jU.l0 (k + 1) y0 y1 y2))
 | 0 => fun _ _ _ r h => by simp [jU.l0] at h
 | k + 1 => by
  have ih0 := jU.vQ k
  ·
   intro y0 y1 y2
   unfold jU.l0
   repeat' first
   | (with_reducible exact ih0 _ _ _)
   | (with_reducible exact LeO.refl _)
   | (with_reducible exact LeO.none _)
   | (with_reducible refine LeO.ite ?_ ?_)
   | (with_reducible refine LeO.bind ?_ (fun _ => ?_))
theorem jU.mono : ∀ a0 a1 k, LeO (jU.f k a0 a1) (jU.f (k + 1) a0 a1) := by
 intro a0 a1 k
 have ih0 := jU.vQ k
 unfold jU.f
 repeat' first
   | (with_reducible exact ih0 _ _ _)
   | (with_reducible exact LeO.refl _)
   | (with_reducible exact LeO.none _)
   | (with_reducible refine LeO.ite ?_ ?_)
   | (with_reducible refine LeO.bind ?_ (fun _ => ?_))
theorem jU.calls (k : Nat) (A0 : Option Addr) (c0 : Nat) (l0 : List Int) (A1 : Option Addr) (c1 : Nat) (l1 : List Int) (r : Int) (w : World) (hr0 : Kd.C (Kd.int .u64) w A0 l0.length l0) (hc0 : l0.length ≤ c0) (hr1 : Kd.C (Kd.int .u64) w A1 l1.length l1) (hc1 : l1.length ≤ c1) (h : jU.f k l0 l1 = some r) :
  Calls Try.prog 103 #[.slice A0 l0.length c0, .slice A1 l1.length c1] w fun e w' => e = .returned (.int .i64 r) ∧ Below w.heap.size w w' := by
 have HR0 := jA.mk hr0
 have HC0 := jA.mk hc0
 clear hr0 hc0
 have HR1 := jA.mk hr1
 have HC1 := jA.mk hc1
 clear hr1 hc1
 have HB := jA.mk (Below.refl w.heap.size w)
 have H : (jU.l0 k l0 l1 (wrap64 ((mx (l0.length : Int) (l1.length : Int)) - 1))) = some r := h
 clear h
 obtain ⟨ji3, hji3⟩ : ∃ j_ : Int, (mx (l0.length : Int) (l1.length : Int)) = j_ := ⟨_, rfl⟩
 replace H : (jU.l0 k l0 l1 (wrap64 ((ji3) - 1))) = some r := by first | (rw [hji3] at H; exact H) | (simp only [hji3] at H ⊢; exact H)
 (try (have hji3l : 0 ≤ ji3 := by (rw [← hji3]; unfold mx; (repeat' split) <;> omega)))
 (try (have hji3m : 0 ≤ ji3 := by omega))
 have hji3n : (if l0.length < l1.length then (l1.length : Int) else (l0.length : Int)) = ji3 := by rw [← hji3]; unfold mx; by_cases h_ : l0.length < l1.length <;> simp [h_]
 have hji3_ : (if (l0.length : Int) < (l1.length : Int) then (l1.length : Int) else (l0.length : Int)) = ji3 := hji3
 have H' := jA.mk H
 clear H
 go_enter Try.func103, Try.ntmps103
 go_wp2
 go_loopg [5] k (fun kq v5 w' => ∃ (x5_1 : Int), v5 = .int .i64 x5_1 ∧ jA (jU.l0 kq l0 l1 x5_1 = some r) ∧ jA (kq ≤ k) ∧ jA (Below w.heap.size w w'))
 case atStart => exact ⟨(wrap64 ((ji3) - 1)), (by first | rfl | (simp; done) | (simp only [← hji3] <;> (first | rfl | simp)) | (simp [*]; done)), H', ⟨Nat.le_refl _⟩, ⟨(bb_ HB)⟩⟩
 case round =>
  clear H'
  try clear c1
  try clear p2
  obtain ⟨x5_1, rfl, HA, HK1, HB⟩ := hrel
  cases gk with
  | zero => exact absurd HA.out (by simp [jU.l0])
  | succ k1 =>
   have H := HA.out
   clear HA
   simp only [jU.l0] at H
   by_cases c4 : x5_1 ≥ 0
   ·
    rw [if_pos c4] at H
    have c4b0 := decide_eq_true c4
    clear c4
    obtain ⟨t486, A5, H⟩ := oc_ H
    try dsimp only at H
    obtain ⟨t487, A6, H⟩ := oc_ H
    try dsimp only at H
    by_cases c7 : t486 < t487
    ·
     rw [if_pos c7] at H
     have c7b0 := decide_eq_true c7
     clear c7
     obtain rfl := Option.some.inj H
     go_wp2_with (first | ((with_reducible refine jD (f := 69) rfl ?_); refine gl_ (some 18) Try.func69 #[.slice A0 l0.length c0, .int .i64 x5_1] ?_; (with_reducible refine (jr.calls _ _ l0 x5_1 t486 _ ?side1 ?side2 A5.out).mono ?_); (case side1 => exact cb_ HR0 HB); (case side2 => exact HC0.out); rintro e w' ⟨rfl, ⟨nd, rfl⟩⟩; refine ⟨_, rfl, ?_⟩) | ((with_reducible refine jD (f := 69) rfl ?_); refine gl_ (some 21) Try.func69 #[.slice A1 l1.length c1, .int .i64 x5_1] ?_; (with_reducible refine (jr.calls _ _ l1 x5_1 t487 _ ?side1 ?side2 A6.out).mono ?_); (case side1 => repeat (first | exact (Kd.zT HR1.out (bb_ HB)) | (with_reducible refine Kd.zR ?_ _) | (with_reducible refine Kd.zV ?_ _) | (with_reducible refine Kd.zw ?_))); (case side2 => exact HC1.out); rintro e w' ⟨rfl, ⟨nd, rfl⟩⟩; refine ⟨_, rfl, ?_⟩))
     go_ret
     exact ⟨by first | rfl | (simp [vW, vV] <;> rfl) | (simp only [← hji3]; first | rfl | (simp [vW, vV] <;> rfl)) | (simp [*, vW, vV] <;> rfl), (bb_ HB)⟩
    ·
     rw [if_neg c7] at H
     have c7b0 := decide_eq_false c7
     clear c7
     obtain ⟨t488, A8, H⟩ := oc_ H
     try dsimp only at H
     obtain ⟨t489, A9, H⟩ := oc_ H
     try dsimp only at H
     by_cases c10 : t488 > t489
     ·
      rw [if_pos c10] at H
      have c10b0 := decide_eq_true c10
      clear c10
      obtain rfl := Option.some.inj H
      go_wp2_with (first | ((with_reducible refine jD (f := 69) rfl ?_); refine gl_ (some 18) Try.func69 #[.slice A0 l0.length c0, .int .i64 x5_1] ?_; (with_reducible refine (jr.calls _ _ l0 x5_1 t486 _ ?side1 ?side2 A5.out).mono ?_); (case side1 => exact cb_ HR0 HB); (case side2 => exact HC0.out); rintro e w' ⟨rfl, ⟨nd, rfl⟩⟩; refine ⟨_, rfl, ?_⟩) | ((with_reducible refine jD (f := 69) rfl ?_); refine gl_ (some 21) Try.func69 #[.slice A1 l1.length c1, .int .i64 x5_1] ?_; (with_reducible refine (jr.calls _ _ l1 x5_1 t487 _ ?side1 ?side2 A6.out).mono ?_); (case side1 => repeat (first | exact (Kd.zT HR1.out (bb_ HB)) | (with_reducible refine Kd.zR ?_ _) | (with_reducible refine Kd.zV ?_ _) | (with_reducible refine Kd.zw ?_))); (case side2 => exact HC1.out); rintro e w' ⟨rfl, ⟨nd, rfl⟩⟩; refine ⟨_, rfl, ?_⟩) | ((with_reducible refine jD (f := 69) rfl ?_); refine gl_ (some 25) Try.func69 #[.slice A0 l0.length c0, .int .i64 x5_1] ?_; (with_reducible refine (jr.calls _ _ l0 x5_1 t488 _ ?side1 ?side2 A8.out).mono ?_); (case side1 => repeat (first | exact (Kd.zT HR0.out (bb_ HB)) | (with_reducible refine Kd.zR ?_ _) | (with_reducible refine Kd.zV ?_ _) | (with_reducible refine Kd.zw ?_))); (case side2 => exact HC0.out); rintro e w' ⟨rfl, ⟨nd, rfl⟩⟩; refine ⟨_, rfl, ?_⟩) | ((with_reducible refine jD (f := 69) rfl ?_); refine gl_ (some 28) Try.func69 #[.slice A1 l1.length c1, .int .i64 x5_1] ?_; (with_reducible refine (jr.calls _ _ l1 x5_1 t489 _ ?side1 ?side2 A9.out).mono ?_); (case side1 => repeat (first | exact (Kd.zT HR1.out (bb_ HB)) | (with_reducible refine Kd.zR ?_ _) | (with_reducible refine Kd.zV ?_ _) | (with_reducible refine Kd.zw ?_))); (case side2 => exact HC1.out); rintro e w' ⟨rfl, ⟨nd, rfl⟩⟩; refine ⟨_, rfl, ?_⟩))
      go_ret
      exact ⟨by first | rfl | (simp [vW, vV] <;> rfl) | (simp only [← hji3]; first | rfl | (simp [vW, vV] <;> rfl)) | (simp [*, vW, vV] <;> rfl), (bb_ HB)⟩
     ·
      rw [if_neg c10] at H
      have c10b0 := decide_eq_false c10
      clear c10
      have H' := jA.mk H
      clear H
      go_wp2_with (first | ((with_reducible refine jD (f := 69) rfl ?_); refine gl_ (some 18) Try.func69 #[.slice A0 l0.length c0, .int .i64 x5_1] ?_; (with_reducible refine (jr.calls _ _ l0 x5_1 t486 _ ?side1 ?side2 A5.out).mono ?_); (case side1 => exact cb_ HR0 HB); (case side2 => exact HC0.out); rintro e w' ⟨rfl, ⟨nd, rfl⟩⟩; refine ⟨_, rfl, ?_⟩) | ((with_reducible refine jD (f := 69) rfl ?_); refine gl_ (some 21) Try.func69 #[.slice A1 l1.length c1, .int .i64 x5_1] ?_; (with_reducible refine (jr.calls _ _ l1 x5_1 t487 _ ?side1 ?side2 A6.out).mono ?_); (case side1 => repeat (first | exact (Kd.zT HR1.out (bb_ HB)) | (with_reducible refine Kd.zR ?_ _) | (with_reducible refine Kd.zV ?_ _) | (with_reducible refine Kd.zw ?_))); (case side2 => exact HC1.out); rintro e w' ⟨rfl, ⟨nd, rfl⟩⟩; refine ⟨_, rfl, ?_⟩) | ((with_reducible refine jD (f := 69) rfl ?_); refine gl_ (some 25) Try.func69 #[.slice A0 l0.length c0, .int .i64 x5_1] ?_; (with_reducible refine (jr.calls _ _ l0 x5_1 t488 _ ?side1 ?side2 A8.out).mono ?_); (case side1 => repeat (first | exact (Kd.zT HR0.out (bb_ HB)) | (with_reducible refine Kd.zR ?_ _) | (with_reducible refine Kd.zV ?_ _) | (with_reducible refine Kd.zw ?_))); (case side2 => exact HC0.out); rintro e w' ⟨rfl, ⟨nd, rfl⟩⟩; refine ⟨_, rfl, ?_⟩) | ((with_reducible refine jD (f := 69) rfl ?_); refine gl_ (some 28) Try.func69 #[.slice A1 l1.length c1, .int .i64 x5_1] ?_; (with_reducible refine (jr.calls _ _ l1 x5_1 t489 _ ?side1 ?side2 A9.out).mono ?_); (case side1 => repeat (first | exact (Kd.zT HR1.out (bb_ HB)) | (with_reducible refine Kd.zR ?_ _) | (with_reducible refine Kd.zV ?_ _) | (with_reducible refine Kd.zw ?_))); (case side2 => exact HC1.out); rintro e w' ⟨rfl, ⟨nd, rfl⟩⟩; refine ⟨_, rfl, ?_⟩))
      go_roundg k1
      case measure => have := HK1.out; omega
      case rel => exact ⟨(wrap64 (x5_1 - 1)), sd_, H', ⟨by have := HK1.out; omega⟩, ⟨(bb_ HB)⟩⟩
   ·
    rw [if_neg c4] at H
    have c4b0 := decide_eq_false c4
    clear c4
    obtain rfl := Option.some.inj H
    go_wp2
    go_ret
    exact ⟨by first | rfl | (simp [vW, vV] <;> rfl) | (simp only [← hji3]; first | rfl | (simp [vW, vV] <;> rfl)) | (simp [*, vW, vV] <;> rfl), (bb_ HB)⟩
def jf.l0 : Nat → List Int → List Int → Int → Int → Option (Int)
 | 0, _, _, _, _ => none
 | k + 1, x0, x1, x5, x6 => if (IntKind.u64.wrap (x6 - x5)) > 1 then ((jF.f k x1 (([IntKind.u64.wrap (Int.tdiv (IntKind.u64.wrap (x5 + x6)) 2)] : List Int))).bind fun t493 => ((jU.f k t493 x0).bind fun t496 => (if t496 ≤ 0 then (jf.l0 k x0 x1 (IntKind.u64.wrap (Int.tdiv (IntKind.u64.wrap (x5 + x6)) 2)) x6) else (jf.l0 k x0 x1 x5 (IntKind.u64.wrap (Int.tdiv (IntKind.u64.wrap (x5 + x6)) 2)))))) else (some x5)
def jf.f (k : Nat) (l0 : List Int) (l1 : List Int) : Option (Int) := jf.l0 k l0 l1 0 4294967296
theorem jf.vQ : ∀ k, (∀ y0 y1 y2 y3, LeO (jf.l0 k y0 y1 y2 y3) (jf.l0 (k + 1) y0 y1 y2 y3))
 | 0 => fun _ _ _ _ r h => by simp [jf.l0] at h
 | k + 1 => by
  have ih0 := jf.vQ k
  ·
   intro y0 y1 y2 y3
   unfold jf.l0
   repeat' first
   | (with_reducible exact ih0 _ _ _ _)
   | (with_reducible exact jU.mono _ _ _)
   | (with_reducible exact jF.mono _ _ _)
   | (with_reducible exact LeO.refl _)
   | (with_reducible exact LeO.none _)
   | (with_reducible refine LeO.ite ?_ ?_)
   | (with_reducible refine LeO.bind ?_ (fun _ => ?_))
theorem jf.mono : ∀ a0 a1 k, LeO (jf.f k a0 a1) (jf.f (k + 1) a0 a1) := by
 intro a0 a1 k
 have ih0 := jf.vQ k
 unfold jf.f
 repeat' first
   | (with_reducible exact ih0 _ _ _ _)
   | (with_reducible exact jU.mono _ _ _)
   | (with_reducible exact jF.mono _ _ _)
   | (with_reducible exact LeO.refl _)
   | (with_reducible exact LeO.none _)
   | (with_reducible refine LeO.ite ?_ ?_)
   | (with_reducible refine LeO.bind ?_ (fun _ => ?_))
theorem jf.calls (k : Nat) (A0 : Option Addr) (c0 : Nat) (l0 : List Int) (A1 : Option Addr) (c1 : Nat) (l1 : List Int) (r : Int) (w : World) (hr0 : Kd.C (Kd.int .u64) w A0 l0.length l0) (hc0 : l0.length ≤ c0) (hr1 : Kd.C (Kd.int .u64) w A1 l1.length l1) (hc1 : l1.length ≤ c1) (h : jf.f k l0 l1 = some r) :
  Calls Try.prog 104 #[.slice A0 l0.length c0, .slice A1 l1.length c1] w fun e w' => e = .returned (.int .u64 r) ∧ Below w.heap.size w w' := by
 have HR0 := jA.mk hr0
 have HC0 := jA.mk hc0
 clear hr0 hc0
 have HR1 := jA.mk hr1
 have HC1 := jA.mk hc1
 clear hr1 hc1
 have HB := jA.mk (Below.refl w.heap.size w)
 have H : (jf.l0 k l0 l1 0 4294967296) = some r := h
 clear h
 have H' := jA.mk H
 clear H
 go_enter Try.func104, Try.ntmps104
 go_wp2
 go_loopg [5, 6] k (fun kq v5 v6 w' => ∃ (x5_1 : Int) (x6_1 : Int), v5 = .int .u64 x5_1 ∧ v6 = .int .u64 x6_1 ∧ jA (jf.l0 kq l0 l1 x5_1 x6_1 = some r) ∧ jA (kq ≤ k) ∧ jA (Below w.heap.size w w'))
 case atStart => exact ⟨(0), (4294967296), sd_, sd_, H', ⟨Nat.le_refl _⟩, ⟨(bb_ HB)⟩⟩
 case round =>
  clear H'
  try clear c1
  try clear p2
  obtain ⟨x5_1, x6_1, rfl, rfl, HA, HK1, HB⟩ := hrel
  cases gk with
  | zero => exact absurd HA.out (by simp [jf.l0])
  | succ k1 =>
   have H := HA.out
   clear HA
   simp only [jf.l0] at H
   by_cases c3 : (IntKind.u64.wrap (x6_1 - x5_1)) > 1
   ·
    rw [if_pos c3] at H
    have c3b0 := decide_eq_true c3
    clear c3
    obtain ⟨y490, hy490⟩ : ∃ y_ : List Int, y_ = (([IntKind.u64.wrap (Int.tdiv (IntKind.u64.wrap (x5_1 + x6_1)) 2)] : List Int)) := ⟨_, rfl⟩
    replace H : ((jF.f k1 l1 y490).bind fun t493 => ((jU.f k1 t493 l0).bind fun t496 => (if t496 ≤ 0 then (jf.l0 k1 l0 l1 (IntKind.u64.wrap (Int.tdiv (IntKind.u64.wrap (x5_1 + x6_1)) 2)) x6_1) else (jf.l0 k1 l0 l1 x5_1 (IntKind.u64.wrap (Int.tdiv (IntKind.u64.wrap (x5_1 + x6_1)) 2)))))) = some r := by first | (rw [hy490]; with_reducible exact H) | (have H2_ := (Option.bind_some _ _).symm.trans H; rw [hy490]; with_reducible exact H2_) | (with_reducible exact hs_ H) | with_reducible exact H | (rw [hy490]; exact H) | exact H
    have Ny490 := jA.mk hy490
    clear hy490
    obtain ⟨t493, A4, H⟩ := oc_ H
    try dsimp only at H
    obtain ⟨t496, A5, H⟩ := oc_ H
    try dsimp only at H
    by_cases c6 : t496 ≤ 0
    ·
     rw [if_pos c6] at H
     have c6b0 := decide_eq_true c6
     clear c6
     have H' := jA.mk H
     clear H
     go_wp2_with (first | ((with_reducible refine jW (N := 18) rfl ?_); refine Kd.qy (Kd.int .u64) _ 22 ?hg (N := 18) ?hd (xs := ([IntKind.u64.wrap (Int.tdiv (IntKind.u64.wrap (x5_1 + x6_1)) 2)] : List Int)) (inner := [.int .u64 (IntKind.u64.wrap (Int.tdiv (IntKind.u64.wrap (x5_1 + x6_1)) 2))]) (ok := fun _ => True) (okp := fun _ => True) ?hr ?hp (fun _ hk => hk) trivial (Below.refl _ _) (Nat.le_refl _) (by simp) ?_; (case hd => rfl); (case hg => rfl); (case hr => exact gs_); (case hp => exact (Reps.one (show Kd.M (Kd.int .u64) _ _ _ (IntKind.u64.wrap (Int.tdiv (IntKind.u64.wrap (x5_1 + x6_1)) 2)) [.int .u64 (IntKind.u64.wrap (Int.tdiv (IntKind.u64.wrap (x5_1 + x6_1)) 2))] from rfl) (Reps.none _ _))); intro v491 w7 ho8 hb hg_ hnew_; clear hg_ hnew_; (first | rw [← Ny490.out] at ho8 | (simp only [Int.reduceToNat] at ho8; rw [← Ny490.out] at ho8)); have HO492 := jA.mk (Kd.jL ho8 (jB (bb_ HB))); replace HB := bs_ HB hb; clear hb ho8; obtain ⟨Ao9, co9, rfl⟩ := Kd.jP HO492.out) | ((with_reducible refine jD (f := 23) rfl ?_); refine gl_ (some 19) Try.func23 #[.slice A1 l1.length c1, .slice Ao9 y490.length co9] ?_; (with_reducible refine (jF.calls k1 _ _ l1 _ _ y490 t493 _ ?side1 ?side2 ?side3 ?side4 A4.out).mono ?_); (case side1 => exact cb_ HR1 HB); (case side2 => exact HC1.out); (case side3 => exact cc_ (Kd.jC HO492.out).2.2); (case side4 => exact (Kd.jC HO492.out).2.1); rintro e w10 ⟨v494, rfl, ho0, hb⟩; refine ⟨_, rfl, ?_⟩; have HO495 := jA.mk (Kd.jL (Kd.jG ho0 (Kd.R_lt (rR_ HO492))) (jB (bb_ HB))); replace HO492 := re_ HO492 ho0 hb; replace HB := bs_ HB hb; obtain ⟨Ao11, co11, rfl⟩ := Kd.jP HO495.out) | ((with_reducible refine jD (f := 103) rfl ?_); refine gl_ (some 21) Try.func103 #[.slice Ao11 t493.length co11, .slice A0 l0.length c0] ?_; (with_reducible refine (jU.calls k1 _ _ t493 _ _ l0 t496 _ ?side1 ?side2 ?side3 ?side4 A5.out).mono ?_); (case side1 => exact cc_ (Kd.jC HO495.out).2.2); (case side2 => exact (Kd.jC HO495.out).2.1); (case side3 => exact cb_ HR0 HB); (case side4 => exact HC0.out); rintro e w12 ⟨rfl, hb⟩; refine ⟨_, rfl, ?_⟩; replace HO492 := ro_ HO492 hb; replace HO495 := ro_ HO495 hb; replace HB := bs_ HB hb))
     go_roundg k1
     case measure => have := HK1.out; omega
     case rel => exact ⟨(IntKind.u64.wrap (Int.tdiv (IntKind.u64.wrap (x5_1 + x6_1)) 2)), (x6_1), sd_, sd_, H', ⟨by have := HK1.out; omega⟩, ⟨(bb_ HB)⟩⟩
    ·
     rw [if_neg c6] at H
     have c6b0 := decide_eq_false c6
     clear c6
     have H' := jA.mk H
     clear H
     go_wp2_with (first | ((with_reducible refine jW (N := 18) rfl ?_); refine Kd.qy (Kd.int .u64) _ 22 ?hg (N := 18) ?hd (xs := ([IntKind.u64.wrap (Int.tdiv (IntKind.u64.wrap (x5_1 + x6_1)) 2)] : List Int)) (inner := [.int .u64 (IntKind.u64.wrap (Int.tdiv (IntKind.u64.wrap (x5_1 + x6_1)) 2))]) (ok := fun _ => True) (okp := fun _ => True) ?hr ?hp (fun _ hk => hk) trivial (Below.refl _ _) (Nat.le_refl _) (by simp) ?_; (case hd => rfl); (case hg => rfl); (case hr => exact gs_); (case hp => exact (Reps.one (show Kd.M (Kd.int .u64) _ _ _ (IntKind.u64.wrap (Int.tdiv (IntKind.u64.wrap (x5_1 + x6_1)) 2)) [.int .u64 (IntKind.u64.wrap (Int.tdiv (IntKind.u64.wrap (x5_1 + x6_1)) 2))] from rfl) (Reps.none _ _))); intro v491 w13 ho14 hb hg_ hnew_; clear hg_ hnew_; (first | rw [← Ny490.out] at ho14 | (simp only [Int.reduceToNat] at ho14; rw [← Ny490.out] at ho14)); have HO492 := jA.mk (Kd.jL ho14 (jB (bb_ HB))); replace HB := bs_ HB hb; clear hb ho14; obtain ⟨Ao15, co15, rfl⟩ := Kd.jP HO492.out) | ((with_reducible refine jD (f := 23) rfl ?_); refine gl_ (some 19) Try.func23 #[.slice A1 l1.length c1, .slice Ao15 y490.length co15] ?_; (with_reducible refine (jF.calls k1 _ _ l1 _ _ y490 t493 _ ?side1 ?side2 ?side3 ?side4 A4.out).mono ?_); (case side1 => exact cb_ HR1 HB); (case side2 => exact HC1.out); (case side3 => exact cc_ (Kd.jC HO492.out).2.2); (case side4 => exact (Kd.jC HO492.out).2.1); rintro e w16 ⟨v494, rfl, ho0, hb⟩; refine ⟨_, rfl, ?_⟩; have HO495 := jA.mk (Kd.jL (Kd.jG ho0 (Kd.R_lt (rR_ HO492))) (jB (bb_ HB))); replace HO492 := re_ HO492 ho0 hb; replace HB := bs_ HB hb; obtain ⟨Ao17, co17, rfl⟩ := Kd.jP HO495.out) | ((with_reducible refine jD (f := 103) rfl ?_); refine gl_ (some 21) Try.func103 #[.slice Ao17 t493.length co17, .slice A0 l0.length c0] ?_; (with_reducible refine (jU.calls k1 _ _ t493 _ _ l0 t496 _ ?side1 ?side2 ?side3 ?side4 A5.out).mono ?_); (case side1 => exact cc_ (Kd.jC HO495.out).2.2); (case side2 => exact (Kd.jC HO495.out).2.1); (case side3 => exact cb_ HR0 HB); (case side4 => exact HC0.out); rintro e w18 ⟨rfl, hb⟩; refine ⟨_, rfl, ?_⟩; replace HO492 := ro_ HO492 hb; replace HO495 := ro_ HO495 hb; replace HB := bs_ HB hb))
     go_roundg k1
     case measure => have := HK1.out; omega
     case rel => exact ⟨(x5_1), (IntKind.u64.wrap (Int.tdiv (IntKind.u64.wrap (x5_1 + x6_1)) 2)), sd_, sd_, H', ⟨by have := HK1.out; omega⟩, ⟨(bb_ HB)⟩⟩
   ·
    rw [if_neg c3] at H
    have c3b0 := decide_eq_false c3
    clear c3
    obtain rfl := Option.some.inj H
    go_wp2
    go_ret
    exact ⟨ew_, (bb_ HB)⟩
end Go.Proofs.Ytijgeonhbmgikaa.PORatioMakes
