-- printed (pr.py)
import Derived.Test.YtijgeonhbmgikaaPOOctetGetsx0
import Derived.Test.YtijgeonhbmgikaaPOOctetGetsx14
namespace Go.Proofs.Ytijgeonhbmgikaa.POOctetGets
open Go.RowKit Go.Proofs.YtijgeonhbmgikaaN Go.Proofs.YtijgeonhbmgikaaW.PrintWords Go.Proofs.YtijgeonhbmgikaaW.PrintLast Go.Proofs.YtijgeonhbmgikaaW.PrintMore
attribute [local go_sem] qC zy qR qP za zZ qA zx
set_option maxHeartbeats 8000000
set_option maxRecDepth 100000
set_option linter.unusedVariables false
set_option linter.unusedSimpArgs false

/-! ### jL: function 102 -/
mutual
def jL.l0 : Nat → List Int → List Int → List Int → Int → Int → Option (List Int)
 | 0, _, _, _, _, _ => none
 | k + 1, x5, x6, x7, x8, x9 => if x9 < (x5.length : Int) then (jL.j1 k x5 x6 x7 x8 x9 true) else (if x9 < (x6.length : Int) then (jL.j1 k x5 x6 x7 x8 x9 true) else (jL.j1 k x5 x6 x7 x8 x9 (decide (x8 > 0))))
def jL.j1 : Nat → List Int → List Int → List Int → Int → Int → Bool → Option (List Int)
 | 0, _, _, _, _, _, _ => none
 | k + 1, x5, x6, x7, x8, x9, x29 => if x29 = true then ((jg.f x5 x9).bind fun t385 => ((jg.f x6 x9).bind fun t386 => (if x7.length < 17592186044416 then (jL.l0 k x5 x6 (x7 ++ [Int.tmod (IntKind.u64.wrap ((IntKind.u64.wrap (t385 + t386)) + x8)) 4294967296]) (IntKind.u64.wrap (Int.tdiv (IntKind.u64.wrap ((IntKind.u64.wrap (t385 + t386)) + x8)) 4294967296)) (wrap64 (x9 + 1))) else (none)))) else ((jI.f k x7).bind fun t390 => (some t390))
end
def jL.f (k : Nat) (l0 : List Int) (l1 : List Int) : Option (List Int) := (jD.f k l0).bind fun t376 => ((jD.f k l1).bind fun t379 => (jL.l0 k t376 t379 (([] : List Int)) 0 0))
theorem jL.vN : ∀ k, (∀ y0 y1 y2 y3 y4, LeO (jL.l0 k y0 y1 y2 y3 y4) (jL.l0 (k + 1) y0 y1 y2 y3 y4)) ∧ (∀ y0 y1 y2 y3 y4 y5, LeO (jL.j1 k y0 y1 y2 y3 y4 y5) (jL.j1 (k + 1) y0 y1 y2 y3 y4 y5))
 | 0 => ⟨fun _ _ _ _ _ r h => by simp [jL.l0] at h, fun _ _ _ _ _ _ r h => by simp [jL.j1] at h⟩
 | k + 1 => by
  obtain ⟨ih0, ih1⟩ := jL.vN k
  refine ⟨?_, ?_⟩ <;> (intros; first | unfold jL.l0 | unfold jL.j1) <;> repeat' first
   | (with_reducible exact ih0 _ _ _ _ _)
   | (with_reducible exact ih1 _ _ _ _ _ _)
   | (with_reducible exact jD.mono _ _)
   | (with_reducible exact jI.mono _ _)
   | (with_reducible exact LeO.refl _)
   | (with_reducible exact LeO.none _)
   | (with_reducible refine LeO.ite ?_ ?_)
   | (with_reducible refine LeO.bind ?_ (fun _ => ?_))
theorem jL.mono : ∀ a0 a1 k, LeO (jL.f k a0 a1) (jL.f (k + 1) a0 a1) := by
 intro a0 a1 k
 obtain ⟨ih0, ih1⟩ := jL.vN k
 unfold jL.f
 repeat' first
   | (with_reducible exact ih0 _ _ _ _ _)
   | (with_reducible exact ih1 _ _ _ _ _ _)
   | (with_reducible exact jD.mono _ _)
   | (with_reducible exact jI.mono _ _)
   | (with_reducible exact LeO.refl _)
   | (with_reducible exact LeO.none _)
   | (with_reducible refine LeO.ite ?_ ?_)
   | (with_reducible refine LeO.bind ?_ (fun _ => ?_))
theorem jL.calls (k : Nat) (A0 : Option Addr) (c0 : Nat) (l0 : List Int) (A1 : Option Addr) (c1 : Nat) (l1 : List Int) (r : List Int) (w : World) (hr0 : Kd.C (Kd.int .u64) w A0 l0.length l0) (hc0 : l0.length ≤ c0) (hr1 : Kd.C (Kd.int .u64) w A1 l1.length l1) (hc1 : l1.length ≤ c1) (h : jL.f k l0 l1 = some r) :
  Calls Try.prog 102 #[.slice A0 l0.length c0, .slice A1 l1.length c1] w fun e w' => ∃ v0_ : Value, e = .returned (v0_) ∧ Kd.R (Kd.int .u64) 22 w' w.heap.size (fun _ => True) v0_ r ∧ Below w.heap.size w w' := by
 have HR0 := jA.mk hr0
 have HC0 := jA.mk hc0
 clear hr0 hc0
 have HR1 := jA.mk hr1
 have HC1 := jA.mk hc1
 clear hr1 hc1
 have HB := jA.mk (Below.refl w.heap.size w)
 have H : ((jD.f k l0).bind fun t376 => ((jD.f k l1).bind fun t379 => (jL.l0 k t376 t379 (([] : List Int)) 0 0))) = some r := h
 clear h
 replace H := ob_ H
 obtain ⟨t376, A30, H⟩ := H
 try dsimp only at H
 have A3 := jA.mk A30
 clear A30
 replace H := ob_ H
 obtain ⟨t379, A40, H⟩ := H
 try dsimp only at H
 have A4 := jA.mk A40
 clear A40
 obtain ⟨y382, hy382⟩ : ∃ y_ : List Int, y_ = (([] : List Int)) := ⟨_, rfl⟩
 replace H : (jL.l0 k t376 t379 y382 0 0) = some r := by first | (rw [hy382]; with_reducible exact H) | (have H2_ := (Option.bind_some _ _).symm.trans H; rw [hy382]; with_reducible exact H2_) | (with_reducible exact hs_ H) | with_reducible exact H | (rw [hy382]; exact H) | exact H
 have Ny382 := jA.mk hy382
 clear hy382
 have H' := jA.mk H
 clear H
 go_enter Try.func102, Try.ntmps102
 go_wp2_with (first | ((with_reducible refine jG (f := 68) rfl ?_); refine jo (some 12) rfl rfl Try.func68 kr_ rfl #[.slice A0 l0.length c0] rfl mt_ ?_; (with_reducible refine (jD.calls k _ _ l0 t376 _ ?side1 ?side2 A3.out).mono ?_); (case side1 => exact cc_ HR0.out); (case side2 => exact HC0.out); rintro e w5 ⟨v377, rfl, ho0, hb⟩; refine ⟨_, rfl, ?_⟩; have HO378 := jA.mk (Kd.jU ho0 (jB (bb_ HB))); replace HB := bs_ HB hb) | ((with_reducible refine jG (f := 68) rfl ?_); refine jo (some 14) rfl rfl Try.func68 kr_ rfl #[.slice A1 l1.length c1] rfl mt_ ?_; (with_reducible refine (jD.calls k _ _ l1 t379 _ ?side1 ?side2 A4.out).mono ?_); (case side1 => exact cc_ (Kd.jq HR1.out HB.out)); (case side2 => exact HC1.out); rintro e w6 ⟨v380, rfl, ho0, hb⟩; refine ⟨_, rfl, ?_⟩; have HO381 := jA.mk (Kd.jU (Kd.jR ho0 (Kd.R_lt (rR_ HO378))) (jB (bb_ HB))); replace HO378 := re_ HO378 ho0 hb; replace HB := bs_ HB hb) | ((with_reducible refine jr (N := 15) rfl ?_); (try (refine vE (by rfl) ?_; dsimp only)); refine Kd.jAN (Kd.int .u64) _ 22 ?hg (N := 15) ?hd (xs := ([] : List Int)) (inner := []) (ok := fun _ => True) (okp := fun _ => True) ?hr ?hp (fun _ hk => hk) trivial (Below.refl _ _) (Nat.le_refl _) (by simp) ?_; (case hd => rfl); (case hg => rfl); (case hr => exact gs_); (case hp => exact (Reps.none _ _)); intro v383 w7 ho8 hb hg_ hnew_; clear hg_ hnew_; (first | rw [← Ny382.out] at ho8 | (simp only [Int.reduceToNat] at ho8; rw [← Ny382.out] at ho8)); have HO384 := jA.mk (Kd.jU (Kd.jR (Kd.jR ho8 (Kd.R_lt (rR_ HO378))) (Kd.R_lt (rR_ HO381))) (jB (bb_ HB))); replace HO378 := re_ HO378 ho8 hb; replace HO381 := re_ HO381 ho8 hb; replace HB := bs_ HB hb; clear hb ho8))
 go_loopg [7, 8, 9] k (fun kq v7 v8 v9 w' => ∃ (x7_1 : List Int) (x8_1 : Int) (x9_1 : Int), v8 = .int .u64 x8_1 ∧ v9 = .int .i64 x9_1 ∧ jA (jL.l0 kq t376 t379 x7_1 x8_1 x9_1 = some r) ∧ jA (kq ≤ k) ∧ jA (Kd.R (Kd.int .u64) 22 w' w.heap.size (fun k_ => some k_ ≠ (v380 : Value).ownBlock ∧ some k_ ≠ (v7 : Value).ownBlock) v377 t376) ∧ jA (Kd.R (Kd.int .u64) 22 w' w.heap.size (fun k_ => some k_ ≠ (v377 : Value).ownBlock ∧ some k_ ≠ (v7 : Value).ownBlock) v380 t379) ∧ jA (Kd.R (Kd.int .u64) 22 w' w.heap.size (fun k_ => some k_ ≠ (v377 : Value).ownBlock ∧ some k_ ≠ (v380 : Value).ownBlock) v7 x7_1) ∧ jA (Below w.heap.size w w'))
 case atStart => exact ⟨(y382), (0), (0), sd_, sd_, H', ⟨Nat.le_refl _⟩, ⟨by (with_reducible repeat (first | apply Kd.zK | apply Kd.zN | apply Kd.zM)); exact Kd.jk HO378.out (fun _ hk => ⟨hk.1.2, hk.2⟩)⟩, ⟨by (with_reducible repeat (first | apply Kd.zK | apply Kd.zN | apply Kd.zM)); exact Kd.jk HO381.out (fun _ hk => ⟨hk.1.2, hk.2⟩)⟩, ⟨by (with_reducible repeat (first | apply Kd.zK | apply Kd.zN | apply Kd.zM)); exact Kd.jk HO384.out (fun _ hk => ⟨hk.1.2, hk.2⟩)⟩, ⟨(bb_ HB)⟩⟩
 case round =>
  clear H'
  try clear c1
  try clear p2
  try clear c6
  obtain ⟨x7_1, x8_1, x9_1, rfl, rfl, HA, HK1, HO_5, HO_6, HO_7, HB⟩ := hrel
  cases gk with
  | zero => exact absurd HA.out (by simp [jL.l0])
  | succ k1 =>
   have H := HA.out
   clear HA
   simp only [jL.l0] at H
   have HC9 := jA.mk H
   clear H
   go_upto_region 6 with (fail)
   go_cut [29] (fun v29 wc => ∃ (kq : Nat) (x29_8 : Bool), v29 = .bool x29_8 ∧ jA (jL.j1 kq t376 t379 x7_1 x8_1 x9_1 x29_8 = some r) ∧ jA (kq ≤ k1) ∧ jA (Kd.R (Kd.int .u64) 22 wc w.heap.size (fun k_ => some k_ ≠ (v380 : Value).ownBlock ∧ some k_ ≠ (u7 : Value).ownBlock) v377 t376) ∧ jA (Kd.R (Kd.int .u64) 22 wc w.heap.size (fun k_ => some k_ ≠ (v377 : Value).ownBlock ∧ some k_ ≠ (u7 : Value).ownBlock) v380 t379) ∧ jA (Kd.R (Kd.int .u64) 22 wc w.heap.size (fun k_ => some k_ ≠ (v377 : Value).ownBlock ∧ some k_ ≠ (v380 : Value).ownBlock) u7 x7_1) ∧ jA (Below w.heap.size w wc))
   case first =>
    have H := HC9.out
    clear HC9
    by_cases c10 : x9_1 < (t376.length : Int)
    ·
     rw [if_pos c10] at H
     have c10b0 := decide_eq_true c10
     clear c10
     (first | rw [c10b0] | (simp only [zF, zW]; rw [c10b0]) | skip)
     have H' := jA.mk H
     clear H
     obtain ⟨Ao11, co11, eo11⟩ := Kd.jm HO_5.out
     subst eo11
     go_wp2
     go_meet
     case rel => exact ⟨_, (true), sd_, H', ⟨by have := HK1.out; first | omega | exact Nat.le_refl _⟩, ⟨(rR_ HO_5)⟩, ⟨(rR_ HO_6)⟩, ⟨(rR_ HO_7)⟩, ⟨(bb_ HB)⟩⟩
    ·
     rw [if_neg c10] at H
     have c10b0 := decide_eq_false c10
     clear c10
     (first | rw [c10b0] | (simp only [zF, zW]; rw [c10b0]) | skip)
     by_cases c12 : x9_1 < (t379.length : Int)
     ·
      rw [if_pos c12] at H
      have c12b0 := decide_eq_true c12
      clear c12
      have H' := jA.mk H
      clear H
      obtain ⟨Ao13, co13, eo13⟩ := Kd.jm HO_5.out
      subst eo13
      obtain ⟨Ao14, co14, eo14⟩ := Kd.jm HO_6.out
      subst eo14
      go_wp2
      go_meet
      case rel => exact ⟨_, (true), sd_, H', ⟨by have := HK1.out; first | omega | exact Nat.le_refl _⟩, ⟨(rR_ HO_5)⟩, ⟨(rR_ HO_6)⟩, ⟨(rR_ HO_7)⟩, ⟨(bb_ HB)⟩⟩
     ·
      rw [if_neg c12] at H
      have c12b0 := decide_eq_false c12
      clear c12
      have H' := jA.mk H
      clear H
      obtain ⟨Ao15, co15, eo15⟩ := Kd.jm HO_5.out
      subst eo15
      obtain ⟨Ao16, co16, eo16⟩ := Kd.jm HO_6.out
      subst eo16
      go_wp2
      go_meet
      case rel => exact ⟨_, (decide (x8_1 > 0)), sd_, H', ⟨by have := HK1.out; first | omega | exact Nat.le_refl _⟩, ⟨(rR_ HO_5)⟩, ⟨(rR_ HO_6)⟩, ⟨(rR_ HO_7)⟩, ⟨(bb_ HB)⟩⟩
   case rest =>
    clear HC9
    try clear c1
    try clear p2
    try clear c6
    try clear c10
    try clear c10b0
    try clear c12
    try clear c12b0
    try clear p2
    obtain ⟨kq, x29_8, rfl, HA, HJ8, HO_5, HO_6, HO_7, HB⟩ := hcut
    cases kq with
    | zero => exact absurd HA.out (by simp [jL.j1])
    | succ kj8 =>
     have H := HA.out
     clear HA
     simp only [jL.j1] at H
     by_cases c17 : x29_8 = true
     ·
      subst c17
      have H1 : ((jg.f t376 x9_1).bind fun t385 => ((jg.f t379 x9_1).bind fun t386 => (if x7_1.length < 17592186044416 then (jL.l0 kj8 t376 t379 (x7_1 ++ [Int.tmod (IntKind.u64.wrap ((IntKind.u64.wrap (t385 + t386)) + x8_1)) 4294967296]) (IntKind.u64.wrap (Int.tdiv (IntKind.u64.wrap ((IntKind.u64.wrap (t385 + t386)) + x8_1)) 4294967296)) (wrap64 (x9_1 + 1))) else (none)))) = some r := by rw [if_pos rfl] at H; exact H
      clear H
      have H := H1
      clear H1
      replace H := ob_ H
      obtain ⟨t385, A180, H⟩ := H
      try dsimp only at H
      have A18 := jA.mk A180
      clear A180
      replace H := ob_ H
      obtain ⟨t386, A190, H⟩ := H
      try dsimp only at H
      have A19 := jA.mk A190
      clear A190
      obtain ⟨ji20, hji20⟩ : ∃ j_ : Int, (Int.tmod (IntKind.u64.wrap ((IntKind.u64.wrap (t385 + t386)) + x8_1)) 4294967296) = j_ := ⟨_, rfl⟩
      replace H : (if x7_1.length < 17592186044416 then (jL.l0 kj8 t376 t379 (x7_1 ++ [ji20]) (IntKind.u64.wrap (Int.tdiv (IntKind.u64.wrap ((IntKind.u64.wrap (t385 + t386)) + x8_1)) 4294967296)) (wrap64 (x9_1 + 1))) else (none)) = some r := by first | (rw [hji20] at H; exact H) | (simp only [hji20] at H ⊢; exact H)
      (try rw [hji20] at A18)
      (try rw [hji20] at A19)
      by_cases c21 : x7_1.length < 17592186044416
      ·
       rw [if_pos c21] at H
       have LMc21 := jA.mk c21
       clear c21
       obtain ⟨y387, hy387⟩ : ∃ y_ : List Int, y_ = (x7_1 ++ [ji20]) := ⟨_, rfl⟩
       replace H : (jL.l0 kj8 t376 t379 y387 (IntKind.u64.wrap (Int.tdiv (IntKind.u64.wrap ((IntKind.u64.wrap (t385 + t386)) + x8_1)) 4294967296)) (wrap64 (x9_1 + 1))) = some r := by first | (rw [hy387]; with_reducible exact H) | (have H2_ := (Option.bind_some _ _).symm.trans H; rw [hy387]; with_reducible exact H2_) | (with_reducible exact hs_ H) | with_reducible exact H | (rw [hy387]; exact H) | exact H
       have Ny387 := jA.mk hy387
       clear hy387
       have H' := jA.mk H
       clear H
       obtain ⟨Ao22, co22, eo22⟩ := Kd.jm HO_5.out
       subst eo22
       go_wp2_with (first | ((with_reducible refine jG (f := 69) rfl ?_); refine jo (some 34) rfl rfl Try.func69 kr_ rfl #[.slice Ao22 t376.length co22, .int .i64 x9_1] rfl mt_ ?_; (with_reducible refine (jg.calls _ _ t376 x9_1 t385 _ ?side1 ?side2 A18.out).mono ?_); (case side1 => exact cc_ (Kd.jF HO_5.out).2.2); (case side2 => exact (Kd.jF HO_5.out).2.1); rintro e w' ⟨rfl, ⟨nd, rfl⟩⟩; refine ⟨_, rfl, ?_⟩; obtain ⟨Ao23, co23, eo23⟩ := Kd.jm HO_6.out; subst eo23) | ((with_reducible refine jG (f := 69) rfl ?_); refine jo (some 37) rfl rfl Try.func69 kr_ rfl #[.slice Ao23 t379.length co23, .int .i64 x9_1] rfl mt_ ?_; (with_reducible refine (jg.calls _ _ t379 x9_1 t386 _ ?side1 ?side2 A19.out).mono ?_); (case side1 => exact cc_ (Kd.jF HO_6.out).2.2); (case side2 => exact (Kd.jF HO_6.out).2.1); rintro e w' ⟨rfl, ⟨nd, rfl⟩⟩; refine ⟨_, rfl, ?_⟩) | ((with_reducible refine vU (b := .append) (xs := #[.tmp 41, .tmp 44]) rfl ?_); (try (refine vE (by rfl) ?_; dsimp only)); at_builtin; refine Kd.qM (Kd.int .u64) (w0 := w) w.heap.size rfl (.tmp 41) (.tmp 44) 35 22 (.int .u64 0) 8 rfl Try.underlying35 zw rfl (by decide) (by omega) u7 x7_1 ji20 [.int .u64 ji20] (fun k_ => some k_ ≠ (.slice Ao22 t376.length co22 : Value).ownBlock ∧ some k_ ≠ (.slice Ao23 t379.length co23 : Value).ownBlock) (fun _ => False) rfl rfl ?aP (fun _ hk => hk.elim) ?aF ?aO ?aB ?aS ?aL ?_; (case aP => exact rfl); (case aB => exact (bb_ HB)); (case aF => exact (fun k_ hk => ⟨Kd.fresh' (Kd.R_lt (rR_ HO_5)) k_ hk, Kd.fresh' (Kd.R_lt (rR_ HO_6)) k_ hk⟩)); (case aO => exact (rR_ HO_7)); (case aS => exact (jB (bb_ HB))); (case aL => have := LMc21.out; omega); intro v388 w24 ho hb hg hat; rw [← Ny387.out] at ho; replace HO_5 := jA.mk (Kd.zP (ok := (fun k_ => some k_ ≠ (.slice Ao23 t379.length co23 : Value).ownBlock)) (rR_ HO_5) hg hat); replace HO_6 := jA.mk (Kd.zP (ok := (fun k_ => some k_ ≠ (.slice Ao22 t376.length co22 : Value).ownBlock)) (rR_ HO_6) hg hat); replace HB := jA.mk (hb); have HO389 := jA.mk (ho); clear HO_7 ho hb hg hat))
       go_roundg kj8
       case measure => have := HK1.out; have := HJ8.out; omega
       case rel => exact ⟨(y387), (IntKind.u64.wrap (Int.tdiv (IntKind.u64.wrap ((IntKind.u64.wrap (t385 + t386)) + x8_1)) 4294967296)), (wrap64 (x9_1 + 1)), sd_, sd_, H', ⟨by have := HK1.out; have := HJ8.out; omega⟩, ⟨(rR_ HO_5)⟩, ⟨(rR_ HO_6)⟩, ⟨(rR_ HO389)⟩, ⟨(bb_ HB)⟩⟩
      ·
       rw [if_neg c21] at H
       exact absurd H (by simp)
     ·
      replace c17 := Bool.eq_false_iff.mpr c17
      subst c17
      have H1 : ((jI.f kj8 x7_1).bind fun t390 => (some t390)) = some r := by rw [if_neg (show ¬ (false = true) by decide)] at H; exact H
      clear H
      have H := H1
      clear H1
      replace H := ob_ H
      obtain ⟨t390, A250, H⟩ := H
      replace H : (some t390) = some r := H
      have A25 := jA.mk A250
      clear A250
      obtain rfl := Option.some.inj H
      obtain ⟨Ao26, co26, eo26⟩ := Kd.jm HO_7.out
      subst eo26
      go_wp2_with (first | ((with_reducible refine jG (f := 70) rfl ?_); refine jo (some 49) rfl rfl Try.func70 kr_ rfl #[.slice Ao26 x7_1.length co26] rfl mt_ ?_; (with_reducible refine (jI.calls kj8 _ _ x7_1 t390 _ ?side1 ?side2 A25.out).mono ?_); (case side1 => exact cc_ (Kd.jF HO_7.out).2.2); (case side2 => exact (Kd.jF HO_7.out).2.1); rintro e w27 ⟨v391, rfl, ho0, hb⟩; refine ⟨_, rfl, ?_⟩; have HO392 := jA.mk (Kd.jU (Kd.jR (Kd.jR (Kd.jR ho0 (Kd.R_lt (rR_ HO_5))) (Kd.R_lt (rR_ HO_6))) (Kd.R_lt (rR_ HO_7))) (jB (bb_ HB))); replace HO_5 := re_ HO_5 ho0 hb; replace HO_6 := re_ HO_6 ho0 hb; replace HO_7 := re_ HO_7 ho0 hb; replace HB := bs_ HB hb))
      go_ret
      exact ⟨_, ew_, by refine pR_ ?_; exact Kd.jk HO392.out (fun _ hk => trivial), (bb_ HB)⟩

/-! ### jO: function 103 -/
def jO.l0 : Nat → List Int → List Int → Int → Option (Int)
 | 0, _, _, _ => none
 | k + 1, x0, x1, x5 => if x5 ≥ 0 then ((jg.f x0 x5).bind fun t393 => ((jg.f x1 x5).bind fun t394 => (if t393 < t394 then (some (-1)) else ((jg.f x0 x5).bind fun t395 => ((jg.f x1 x5).bind fun t396 => (if t395 > t396 then (some 1) else (jO.l0 k x0 x1 (wrap64 (x5 - 1))))))))) else (some 0)
def jO.f (k : Nat) (l0 : List Int) (l1 : List Int) : Option (Int) := jO.l0 k l0 l1 (wrap64 ((mx (l0.length : Int) (l1.length : Int)) - 1))
theorem jO.vN : ∀ k, (∀ y0 y1 y2, LeO (jO.l0 k y0 y1 y2) (jO.l0 (k + 1) y0 y1 y2))
 | 0 => fun _ _ _ r h => by simp [jO.l0] at h
 | k + 1 => by
  have ih0 := jO.vN k
  ·
   intro y0 y1 y2
   unfold jO.l0
   repeat' first
   | (with_reducible exact ih0 _ _ _)
   | (with_reducible exact LeO.refl _)
   | (with_reducible exact LeO.none _)
   | (with_reducible refine LeO.ite ?_ ?_)
   | (with_reducible refine LeO.bind ?_ (fun _ => ?_))
theorem jO.mono : ∀ a0 a1 k, LeO (jO.f k a0 a1) (jO.f (k + 1) a0 a1) := by
 intro a0 a1 k
 have ih0 := jO.vN k
 unfold jO.f
 repeat' first
   | (with_reducible exact ih0 _ _ _)
   | (with_reducible exact LeO.refl _)
   | (with_reducible exact LeO.none _)
   | (with_reducible refine LeO.ite ?_ ?_)
   | (with_reducible refine LeO.bind ?_ (fun _ => ?_))
theorem jO.calls (k : Nat) (A0 : Option Addr) (c0 : Nat) (l0 : List Int) (A1 : Option Addr) (c1 : Nat) (l1 : List Int) (r : Int) (w : World) (hr0 : Kd.C (Kd.int .u64) w A0 l0.length l0) (hc0 : l0.length ≤ c0) (hr1 : Kd.C (Kd.int .u64) w A1 l1.length l1) (hc1 : l1.length ≤ c1) (h : jO.f k l0 l1 = some r) :
  Calls Try.prog 103 #[.slice A0 l0.length c0, .slice A1 l1.length c1] w fun e w' => e = .returned (.int .i64 r) ∧ Below w.heap.size w w' := by
 have HR0 := jA.mk hr0
 have HC0 := jA.mk hc0
 clear hr0 hc0
 have HR1 := jA.mk hr1
 have HC1 := jA.mk hc1
 clear hr1 hc1
 have HB := jA.mk (Below.refl w.heap.size w)
 have H : (jO.l0 k l0 l1 (wrap64 ((mx (l0.length : Int) (l1.length : Int)) - 1))) = some r := h
 clear h
 obtain ⟨ji3, hji3⟩ : ∃ j_ : Int, (mx (l0.length : Int) (l1.length : Int)) = j_ := ⟨_, rfl⟩
 replace H : (jO.l0 k l0 l1 (wrap64 ((ji3) - 1))) = some r := by first | (rw [hji3] at H; exact H) | (simp only [hji3] at H ⊢; exact H)
 (try (have hji3l : 0 ≤ ji3 := by (rw [← hji3]; unfold mx; (repeat' split) <;> omega)))
 (try (have hji3m : 0 ≤ ji3 := by omega))
 have hji3n : (if l0.length < l1.length then (l1.length : Int) else (l0.length : Int)) = ji3 := by rw [← hji3]; unfold mx; by_cases h_ : l0.length < l1.length <;> simp [h_]
 have hji3_ : (if (l0.length : Int) < (l1.length : Int) then (l1.length : Int) else (l0.length : Int)) = ji3 := hji3
 have H' := jA.mk H
 clear H
 go_enter Try.func103, Try.ntmps103
 go_wp2
 go_loopg [5] k (fun kq v5 w' => ∃ (x5_1 : Int), v5 = .int .i64 x5_1 ∧ jA (jO.l0 kq l0 l1 x5_1 = some r) ∧ jA (kq ≤ k) ∧ jA (Below w.heap.size w w'))
 case atStart => exact ⟨(wrap64 ((ji3) - 1)), (by first | rfl | (simp; done) | (simp only [← hji3] <;> (first | rfl | simp)) | (simp [*]; done)), H', ⟨Nat.le_refl _⟩, ⟨(bb_ HB)⟩⟩
 case round =>
  clear H'
  try clear c1
  try clear p2
  obtain ⟨x5_1, rfl, HA, HK1, HB⟩ := hrel
  cases gk with
  | zero => exact absurd HA.out (by simp [jO.l0])
  | succ k1 =>
   have H := HA.out
   clear HA
   simp only [jO.l0] at H
   by_cases c4 : x5_1 ≥ 0
   ·
    rw [if_pos c4] at H
    have c4b0 := decide_eq_true c4
    clear c4
    replace H := ob_ H
    obtain ⟨t393, A50, H⟩ := H
    try dsimp only at H
    have A5 := jA.mk A50
    clear A50
    replace H := ob_ H
    obtain ⟨t394, A60, H⟩ := H
    try dsimp only at H
    have A6 := jA.mk A60
    clear A60
    by_cases c7 : t393 < t394
    ·
     rw [if_pos c7] at H
     have c7b0 := decide_eq_true c7
     clear c7
     obtain rfl := Option.some.inj H
     go_wp2_with (first | ((with_reducible refine jG (f := 69) rfl ?_); refine jo (some 18) rfl rfl Try.func69 kr_ rfl #[.slice A0 l0.length c0, .int .i64 x5_1] rfl mt_ ?_; (with_reducible refine (jg.calls _ _ l0 x5_1 t393 _ ?side1 ?side2 A5.out).mono ?_); (case side1 => exact cc_ (Kd.jq HR0.out HB.out)); (case side2 => exact HC0.out); rintro e w' ⟨rfl, ⟨nd, rfl⟩⟩; refine ⟨_, rfl, ?_⟩) | ((with_reducible refine jG (f := 69) rfl ?_); refine jo (some 21) rfl rfl Try.func69 kr_ rfl #[.slice A1 l1.length c1, .int .i64 x5_1] rfl mt_ ?_; (with_reducible refine (jg.calls _ _ l1 x5_1 t394 _ ?side1 ?side2 A6.out).mono ?_); (case side1 => repeat (first | exact (Kd.jq HR1.out (bb_ HB)) | (with_reducible refine Kd.zh ?_ _) | (with_reducible refine Kd.zu ?_ _) | (with_reducible refine Kd.qW ?_))); (case side2 => exact HC1.out); rintro e w' ⟨rfl, ⟨nd, rfl⟩⟩; refine ⟨_, rfl, ?_⟩))
     go_ret
     exact ⟨by first | rfl | (simp [vM, vL] <;> rfl) | (simp only [← hji3]; first | rfl | (simp [vM, vL] <;> rfl)) | (simp [*, vM, vL] <;> rfl), (bb_ HB)⟩
    ·
     rw [if_neg c7] at H
     have c7b0 := decide_eq_false c7
     clear c7
     replace H := ob_ H
     obtain ⟨t395, A80, H⟩ := H
     try dsimp only at H
     have A8 := jA.mk A80
     clear A80
     replace H := ob_ H
     obtain ⟨t396, A90, H⟩ := H
     try dsimp only at H
     have A9 := jA.mk A90
     clear A90
     by_cases c10 : t395 > t396
     ·
      rw [if_pos c10] at H
      have c10b0 := decide_eq_true c10
      clear c10
      obtain rfl := Option.some.inj H
      go_wp2_with (first | ((with_reducible refine jG (f := 69) rfl ?_); refine jo (some 18) rfl rfl Try.func69 kr_ rfl #[.slice A0 l0.length c0, .int .i64 x5_1] rfl mt_ ?_; (with_reducible refine (jg.calls _ _ l0 x5_1 t393 _ ?side1 ?side2 A5.out).mono ?_); (case side1 => exact cc_ (Kd.jq HR0.out HB.out)); (case side2 => exact HC0.out); rintro e w' ⟨rfl, ⟨nd, rfl⟩⟩; refine ⟨_, rfl, ?_⟩) | ((with_reducible refine jG (f := 69) rfl ?_); refine jo (some 21) rfl rfl Try.func69 kr_ rfl #[.slice A1 l1.length c1, .int .i64 x5_1] rfl mt_ ?_; (with_reducible refine (jg.calls _ _ l1 x5_1 t394 _ ?side1 ?side2 A6.out).mono ?_); (case side1 => repeat (first | exact (Kd.jq HR1.out (bb_ HB)) | (with_reducible refine Kd.zh ?_ _) | (with_reducible refine Kd.zu ?_ _) | (with_reducible refine Kd.qW ?_))); (case side2 => exact HC1.out); rintro e w' ⟨rfl, ⟨nd, rfl⟩⟩; refine ⟨_, rfl, ?_⟩) | ((with_reducible refine jG (f := 69) rfl ?_); refine jo (some 25) rfl rfl Try.func69 kr_ rfl #[.slice A0 l0.length c0, .int .i64 x5_1] rfl mt_ ?_; (with_reducible refine (jg.calls _ _ l0 x5_1 t395 _ ?side1 ?side2 A8.out).mono ?_); (case side1 => repeat (first | exact (Kd.jq HR0.out (bb_ HB)) | (with_reducible refine Kd.zh ?_ _) | (with_reducible refine Kd.zu ?_ _) | (with_reducible refine Kd.qW ?_))); (case side2 => exact HC0.out); rintro e w' ⟨rfl, ⟨nd, rfl⟩⟩; refine ⟨_, rfl, ?_⟩) | ((with_reducible refine jG (f := 69) rfl ?_); refine jo (some 28) rfl rfl Try.func69 kr_ rfl #[.slice A1 l1.length c1, .int .i64 x5_1] rfl mt_ ?_; (with_reducible refine (jg.calls _ _ l1 x5_1 t396 _ ?side1 ?side2 A9.out).mono ?_); (case side1 => repeat (first | exact (Kd.jq HR1.out (bb_ HB)) | (with_reducible refine Kd.zh ?_ _) | (with_reducible refine Kd.zu ?_ _) | (with_reducible refine Kd.qW ?_))); (case side2 => exact HC1.out); rintro e w' ⟨rfl, ⟨nd, rfl⟩⟩; refine ⟨_, rfl, ?_⟩))
      go_ret
      exact ⟨by first | rfl | (simp [vM, vL] <;> rfl) | (simp only [← hji3]; first | rfl | (simp [vM, vL] <;> rfl)) | (simp [*, vM, vL] <;> rfl), (bb_ HB)⟩
     ·
      rw [if_neg c10] at H
      have c10b0 := decide_eq_false c10
      clear c10
      have H' := jA.mk H
      clear H
      go_wp2_with (first | ((with_reducible refine jG (f := 69) rfl ?_); refine jo (some 18) rfl rfl Try.func69 kr_ rfl #[.slice A0 l0.length c0, .int .i64 x5_1] rfl mt_ ?_; (with_reducible refine (jg.calls _ _ l0 x5_1 t393 _ ?side1 ?side2 A5.out).mono ?_); (case side1 => exact cc_ (Kd.jq HR0.out HB.out)); (case side2 => exact HC0.out); rintro e w' ⟨rfl, ⟨nd, rfl⟩⟩; refine ⟨_, rfl, ?_⟩) | ((with_reducible refine jG (f := 69) rfl ?_); refine jo (some 21) rfl rfl Try.func69 kr_ rfl #[.slice A1 l1.length c1, .int .i64 x5_1] rfl mt_ ?_; (with_reducible refine (jg.calls _ _ l1 x5_1 t394 _ ?side1 ?side2 A6.out).mono ?_); (case side1 => repeat (first | exact (Kd.jq HR1.out (bb_ HB)) | (with_reducible refine Kd.zh ?_ _) | (with_reducible refine Kd.zu ?_ _) | (with_reducible refine Kd.qW ?_))); (case side2 => exact HC1.out); rintro e w' ⟨rfl, ⟨nd, rfl⟩⟩; refine ⟨_, rfl, ?_⟩) | ((with_reducible refine jG (f := 69) rfl ?_); refine jo (some 25) rfl rfl Try.func69 kr_ rfl #[.slice A0 l0.length c0, .int .i64 x5_1] rfl mt_ ?_; (with_reducible refine (jg.calls _ _ l0 x5_1 t395 _ ?side1 ?side2 A8.out).mono ?_); (case side1 => repeat (first | exact (Kd.jq HR0.out (bb_ HB)) | (with_reducible refine Kd.zh ?_ _) | (with_reducible refine Kd.zu ?_ _) | (with_reducible refine Kd.qW ?_))); (case side2 => exact HC0.out); rintro e w' ⟨rfl, ⟨nd, rfl⟩⟩; refine ⟨_, rfl, ?_⟩) | ((with_reducible refine jG (f := 69) rfl ?_); refine jo (some 28) rfl rfl Try.func69 kr_ rfl #[.slice A1 l1.length c1, .int .i64 x5_1] rfl mt_ ?_; (with_reducible refine (jg.calls _ _ l1 x5_1 t396 _ ?side1 ?side2 A9.out).mono ?_); (case side1 => repeat (first | exact (Kd.jq HR1.out (bb_ HB)) | (with_reducible refine Kd.zh ?_ _) | (with_reducible refine Kd.zu ?_ _) | (with_reducible refine Kd.qW ?_))); (case side2 => exact HC1.out); rintro e w' ⟨rfl, ⟨nd, rfl⟩⟩; refine ⟨_, rfl, ?_⟩))
      go_roundg k1
      case measure => have := HK1.out; omega
      case rel => exact ⟨(wrap64 (x5_1 - 1)), sd_, H', ⟨by have := HK1.out; omega⟩, ⟨(bb_ HB)⟩⟩
   ·
    rw [if_neg c4] at H
    have c4b0 := decide_eq_false c4
    clear c4
    obtain rfl := Option.some.inj H
    go_wp2
    go_ret
    exact ⟨by first | rfl | (simp [vM, vL] <;> rfl) | (simp only [← hji3]; first | rfl | (simp [vM, vL] <;> rfl)) | (simp [*, vM, vL] <;> rfl), (bb_ HB)⟩

/-! ### jW: function 104 -/
def jW.l0 : Nat → List Int → List Int → Int → Int → Option (Int)
 | 0, _, _, _, _ => none
 | k + 1, x0, x1, x5, x6 => if (IntKind.u64.wrap (x6 - x5)) > 1 then ((jE.f k x1 (([IntKind.u64.wrap (Int.tdiv (IntKind.u64.wrap (x5 + x6)) 2)] : List Int))).bind fun t400 => ((jO.f k t400 x0).bind fun t403 => (if t403 ≤ 0 then (jW.l0 k x0 x1 (IntKind.u64.wrap (Int.tdiv (IntKind.u64.wrap (x5 + x6)) 2)) x6) else (jW.l0 k x0 x1 x5 (IntKind.u64.wrap (Int.tdiv (IntKind.u64.wrap (x5 + x6)) 2)))))) else (some x5)
def jW.f (k : Nat) (l0 : List Int) (l1 : List Int) : Option (Int) := jW.l0 k l0 l1 0 4294967296
theorem jW.vN : ∀ k, (∀ y0 y1 y2 y3, LeO (jW.l0 k y0 y1 y2 y3) (jW.l0 (k + 1) y0 y1 y2 y3))
 | 0 => fun _ _ _ _ r h => by simp [jW.l0] at h
 | k + 1 => by
  have ih0 := jW.vN k
  ·
   intro y0 y1 y2 y3
   unfold jW.l0
   repeat' first
   | (with_reducible exact ih0 _ _ _ _)
   | (with_reducible exact jO.mono _ _ _)
   | (with_reducible exact jE.mono _ _ _)
   | (with_reducible exact LeO.refl _)
   | (with_reducible exact LeO.none _)
   | (with_reducible refine LeO.ite ?_ ?_)
   | (with_reducible refine LeO.bind ?_ (fun _ => ?_))
theorem jW.mono : ∀ a0 a1 k, LeO (jW.f k a0 a1) (jW.f (k + 1) a0 a1) := by
 intro a0 a1 k
 have ih0 := jW.vN k
 unfold jW.f
 repeat' first
   | (with_reducible exact ih0 _ _ _ _)
   | (with_reducible exact jO.mono _ _ _)
   | (with_reducible exact jE.mono _ _ _)
   | (with_reducible exact LeO.refl _)
   | (with_reducible exact LeO.none _)
   | (with_reducible refine LeO.ite ?_ ?_)
   | (with_reducible refine LeO.bind ?_ (fun _ => ?_))
theorem jW.calls (k : Nat) (A0 : Option Addr) (c0 : Nat) (l0 : List Int) (A1 : Option Addr) (c1 : Nat) (l1 : List Int) (r : Int) (w : World) (hr0 : Kd.C (Kd.int .u64) w A0 l0.length l0) (hc0 : l0.length ≤ c0) (hr1 : Kd.C (Kd.int .u64) w A1 l1.length l1) (hc1 : l1.length ≤ c1) (h : jW.f k l0 l1 = some r) :
  Calls Try.prog 104 #[.slice A0 l0.length c0, .slice A1 l1.length c1] w fun e w' => e = .returned (.int .u64 r) ∧ Below w.heap.size w w' := by
 have HR0 := jA.mk hr0
 have HC0 := jA.mk hc0
 clear hr0 hc0
 have HR1 := jA.mk hr1
 have HC1 := jA.mk hc1
 clear hr1 hc1
 have HB := jA.mk (Below.refl w.heap.size w)
 have H : (jW.l0 k l0 l1 0 4294967296) = some r := h
 clear h
 have H' := jA.mk H
 clear H
 go_enter Try.func104, Try.ntmps104
 go_wp2
 go_loopg [5, 6] k (fun kq v5 v6 w' => ∃ (x5_1 : Int) (x6_1 : Int), v5 = .int .u64 x5_1 ∧ v6 = .int .u64 x6_1 ∧ jA (jW.l0 kq l0 l1 x5_1 x6_1 = some r) ∧ jA (kq ≤ k) ∧ jA (Below w.heap.size w w'))
 case atStart => exact ⟨(0), (4294967296), sd_, sd_, H', ⟨Nat.le_refl _⟩, ⟨(bb_ HB)⟩⟩
 case round =>
  clear H'
  try clear c1
  try clear p2
  obtain ⟨x5_1, x6_1, rfl, rfl, HA, HK1, HB⟩ := hrel
  cases gk with
  | zero => exact absurd HA.out (by simp [jW.l0])
  | succ k1 =>
   have H := HA.out
   clear HA
   simp only [jW.l0] at H
   by_cases c3 : (IntKind.u64.wrap (x6_1 - x5_1)) > 1
   ·
    rw [if_pos c3] at H
    have c3b0 := decide_eq_true c3
    clear c3
    obtain ⟨y397, hy397⟩ : ∃ y_ : List Int, y_ = (([IntKind.u64.wrap (Int.tdiv (IntKind.u64.wrap (x5_1 + x6_1)) 2)] : List Int)) := ⟨_, rfl⟩
    replace H : ((jE.f k1 l1 y397).bind fun t400 => ((jO.f k1 t400 l0).bind fun t403 => (if t403 ≤ 0 then (jW.l0 k1 l0 l1 (IntKind.u64.wrap (Int.tdiv (IntKind.u64.wrap (x5_1 + x6_1)) 2)) x6_1) else (jW.l0 k1 l0 l1 x5_1 (IntKind.u64.wrap (Int.tdiv (IntKind.u64.wrap (x5_1 + x6_1)) 2)))))) = some r := by first | (rw [hy397]; with_reducible exact H) | (have H2_ := (Option.bind_some _ _).symm.trans H; rw [hy397]; with_reducible exact H2_) | (with_reducible exact hs_ H) | with_reducible exact H | (rw [hy397]; exact H) | exact H
    have Ny397 := jA.mk hy397
    clear hy397
    replace H := ob_ H
    obtain ⟨t400, A40, H⟩ := H
    try dsimp only at H
    have A4 := jA.mk A40
    clear A40
    replace H := ob_ H
    obtain ⟨t403, A50, H⟩ := H
    try dsimp only at H
    have A5 := jA.mk A50
    clear A50
    by_cases c6 : t403 ≤ 0
    ·
     rw [if_pos c6] at H
     have c6b0 := decide_eq_true c6
     clear c6
     have H' := jA.mk H
     clear H
     go_wp2_with (first | ((with_reducible refine jr (N := 18) rfl ?_); refine Kd.jAN (Kd.int .u64) _ 22 ?hg (N := 18) ?hd (xs := ([IntKind.u64.wrap (Int.tdiv (IntKind.u64.wrap (x5_1 + x6_1)) 2)] : List Int)) (inner := [.int .u64 (IntKind.u64.wrap (Int.tdiv (IntKind.u64.wrap (x5_1 + x6_1)) 2))]) (ok := fun _ => True) (okp := fun _ => True) ?hr ?hp (fun _ hk => hk) trivial (Below.refl _ _) (Nat.le_refl _) (by simp) ?_; (case hd => rfl); (case hg => rfl); (case hr => exact gs_); (case hp => exact (Reps.one (show Kd.M (Kd.int .u64) _ _ _ (IntKind.u64.wrap (Int.tdiv (IntKind.u64.wrap (x5_1 + x6_1)) 2)) [.int .u64 (IntKind.u64.wrap (Int.tdiv (IntKind.u64.wrap (x5_1 + x6_1)) 2))] from rfl) (Reps.none _ _))); intro v398 w7 ho8 hb hg_ hnew_; clear hg_ hnew_; (first | rw [← Ny397.out] at ho8 | (simp only [Int.reduceToNat] at ho8; rw [← Ny397.out] at ho8)); have HO399 := jA.mk (Kd.jU ho8 (jB (bb_ HB))); replace HB := bs_ HB hb; clear hb ho8; obtain ⟨Ao9, co9, eo9⟩ := Kd.jm HO399.out; subst eo9) | ((with_reducible refine jG (f := 23) rfl ?_); refine jo (some 19) rfl rfl Try.func23 kr_ rfl #[.slice A1 l1.length c1, .slice Ao9 y397.length co9] rfl mt_ ?_; (with_reducible refine (jE.calls k1 _ _ l1 _ _ y397 t400 _ ?side1 ?side2 ?side3 ?side4 A4.out).mono ?_); (case side1 => exact cc_ (Kd.jq HR1.out HB.out)); (case side2 => exact HC1.out); (case side3 => exact cc_ (Kd.jF HO399.out).2.2); (case side4 => exact (Kd.jF HO399.out).2.1); rintro e w10 ⟨v401, rfl, ho0, hb⟩; refine ⟨_, rfl, ?_⟩; have HO402 := jA.mk (Kd.jU (Kd.jR ho0 (Kd.R_lt (rR_ HO399))) (jB (bb_ HB))); replace HO399 := re_ HO399 ho0 hb; replace HB := bs_ HB hb; obtain ⟨Ao11, co11, eo11⟩ := Kd.jm HO402.out; subst eo11) | ((with_reducible refine jG (f := 103) rfl ?_); refine jo (some 21) rfl rfl Try.func103 kr_ rfl #[.slice Ao11 t400.length co11, .slice A0 l0.length c0] rfl mt_ ?_; (with_reducible refine (jO.calls k1 _ _ t400 _ _ l0 t403 _ ?side1 ?side2 ?side3 ?side4 A5.out).mono ?_); (case side1 => exact cc_ (Kd.jF HO402.out).2.2); (case side2 => exact (Kd.jF HO402.out).2.1); (case side3 => exact cc_ (Kd.jq HR0.out HB.out)); (case side4 => exact HC0.out); rintro e w12 ⟨rfl, hb⟩; refine ⟨_, rfl, ?_⟩; replace HO399 := ro_ HO399 hb; replace HO402 := ro_ HO402 hb; replace HB := bs_ HB hb))
     go_roundg k1
     case measure => have := HK1.out; omega
     case rel => exact ⟨(IntKind.u64.wrap (Int.tdiv (IntKind.u64.wrap (x5_1 + x6_1)) 2)), (x6_1), sd_, sd_, H', ⟨by have := HK1.out; omega⟩, ⟨(bb_ HB)⟩⟩
    ·
     rw [if_neg c6] at H
     have c6b0 := decide_eq_false c6
     clear c6
     have H' := jA.mk H
     clear H
     go_wp2_with (first | ((with_reducible refine jr (N := 18) rfl ?_); refine Kd.jAN (Kd.int .u64) _ 22 ?hg (N := 18) ?hd (xs := ([IntKind.u64.wrap (Int.tdiv (IntKind.u64.wrap (x5_1 + x6_1)) 2)] : List Int)) (inner := [.int .u64 (IntKind.u64.wrap (Int.tdiv (IntKind.u64.wrap (x5_1 + x6_1)) 2))]) (ok := fun _ => True) (okp := fun _ => True) ?hr ?hp (fun _ hk => hk) trivial (Below.refl _ _) (Nat.le_refl _) (by simp) ?_; (case hd => rfl); (case hg => rfl); (case hr => exact gs_); (case hp => exact (Reps.one (show Kd.M (Kd.int .u64) _ _ _ (IntKind.u64.wrap (Int.tdiv (IntKind.u64.wrap (x5_1 + x6_1)) 2)) [.int .u64 (IntKind.u64.wrap (Int.tdiv (IntKind.u64.wrap (x5_1 + x6_1)) 2))] from rfl) (Reps.none _ _))); intro v398 w13 ho14 hb hg_ hnew_; clear hg_ hnew_; (first | rw [← Ny397.out] at ho14 | (simp only [Int.reduceToNat] at ho14; rw [← Ny397.out] at ho14)); have HO399 := jA.mk (Kd.jU ho14 (jB (bb_ HB))); replace HB := bs_ HB hb; clear hb ho14; obtain ⟨Ao15, co15, eo15⟩ := Kd.jm HO399.out; subst eo15) | ((with_reducible refine jG (f := 23) rfl ?_); refine jo (some 19) rfl rfl Try.func23 kr_ rfl #[.slice A1 l1.length c1, .slice Ao15 y397.length co15] rfl mt_ ?_; (with_reducible refine (jE.calls k1 _ _ l1 _ _ y397 t400 _ ?side1 ?side2 ?side3 ?side4 A4.out).mono ?_); (case side1 => exact cc_ (Kd.jq HR1.out HB.out)); (case side2 => exact HC1.out); (case side3 => exact cc_ (Kd.jF HO399.out).2.2); (case side4 => exact (Kd.jF HO399.out).2.1); rintro e w16 ⟨v401, rfl, ho0, hb⟩; refine ⟨_, rfl, ?_⟩; have HO402 := jA.mk (Kd.jU (Kd.jR ho0 (Kd.R_lt (rR_ HO399))) (jB (bb_ HB))); replace HO399 := re_ HO399 ho0 hb; replace HB := bs_ HB hb; obtain ⟨Ao17, co17, eo17⟩ := Kd.jm HO402.out; subst eo17) | ((with_reducible refine jG (f := 103) rfl ?_); refine jo (some 21) rfl rfl Try.func103 kr_ rfl #[.slice Ao17 t400.length co17, .slice A0 l0.length c0] rfl mt_ ?_; (with_reducible refine (jO.calls k1 _ _ t400 _ _ l0 t403 _ ?side1 ?side2 ?side3 ?side4 A5.out).mono ?_); (case side1 => exact cc_ (Kd.jF HO402.out).2.2); (case side2 => exact (Kd.jF HO402.out).2.1); (case side3 => exact cc_ (Kd.jq HR0.out HB.out)); (case side4 => exact HC0.out); rintro e w18 ⟨rfl, hb⟩; refine ⟨_, rfl, ?_⟩; replace HO399 := ro_ HO399 hb; replace HO402 := ro_ HO402 hb; replace HB := bs_ HB hb))
     go_roundg k1
     case measure => have := HK1.out; omega
     case rel => exact ⟨(x5_1), (IntKind.u64.wrap (Int.tdiv (IntKind.u64.wrap (x5_1 + x6_1)) 2)), sd_, sd_, H', ⟨by have := HK1.out; omega⟩, ⟨(bb_ HB)⟩⟩
   ·
    rw [if_neg c3] at H
    have c3b0 := decide_eq_false c3
    clear c3
    obtain rfl := Option.some.inj H
    go_wp2
    go_ret
    exact ⟨ew_, (bb_ HB)⟩

/-! ### jc: function 105 -/
def jc.l0 : Nat → List Int → List Int → List Int → Int → Int → Option (List Int × Bool)
 | 0, _, _, _, _, _ => none
 | k + 1, x6, x7, x8, x9, x10 => if x10 < (x6.length : Int) then (if 0 ≤ x10 then ((jg.f x7 x10).bind fun t415 => (if x8.length < 17592186044416 then (jc.l0 k x6 x7 (x8 ++ [Int.tmod (IntKind.u64.wrap ((IntKind.u64.wrap ((IntKind.u64.wrap ((rd x6 x10) + 4294967296)) - t415)) - x9)) 4294967296]) (IntKind.u64.wrap (1 - (IntKind.u64.wrap (Int.tdiv (IntKind.u64.wrap ((IntKind.u64.wrap ((IntKind.u64.wrap ((rd x6 x10) + 4294967296)) - t415)) - x9)) 4294967296)))) (wrap64 (x10 + 1))) else (none))) else (none)) else ((jI.f k x8).bind fun t419 => (some (t419, true)))
def jc.f (k : Nat) (l0 : List Int) (l1 : List Int) : Option (List Int × Bool) := (jO.f k l0 l1).bind fun t404 => (if t404 < 0 then (some (([] : List Int), false)) else ((jD.f k l0).bind fun t405 => ((jD.f k l1).bind fun t408 => (jc.l0 k t405 t408 (([] : List Int)) 0 0))))
theorem jc.vN : ∀ k, (∀ y0 y1 y2 y3 y4, LeO (jc.l0 k y0 y1 y2 y3 y4) (jc.l0 (k + 1) y0 y1 y2 y3 y4))
 | 0 => fun _ _ _ _ _ r h => by simp [jc.l0] at h
 | k + 1 => by
  have ih0 := jc.vN k
  ·
   intro y0 y1 y2 y3 y4
   unfold jc.l0
   repeat' first
   | (with_reducible exact ih0 _ _ _ _ _)
   | (with_reducible exact jO.mono _ _ _)
   | (with_reducible exact jD.mono _ _)
   | (with_reducible exact jI.mono _ _)
   | (with_reducible exact LeO.refl _)
   | (with_reducible exact LeO.none _)
   | (with_reducible refine LeO.ite ?_ ?_)
   | (with_reducible refine LeO.bind ?_ (fun _ => ?_))
theorem jc.mono : ∀ a0 a1 k, LeO (jc.f k a0 a1) (jc.f (k + 1) a0 a1) := by
 intro a0 a1 k
 have ih0 := jc.vN k
 unfold jc.f
 repeat' first
   | (with_reducible exact ih0 _ _ _ _ _)
   | (with_reducible exact jO.mono _ _ _)
   | (with_reducible exact jD.mono _ _)
   | (with_reducible exact jI.mono _ _)
   | (with_reducible exact LeO.refl _)
   | (with_reducible exact LeO.none _)
   | (with_reducible refine LeO.ite ?_ ?_)
   | (with_reducible refine LeO.bind ?_ (fun _ => ?_))
theorem jc.calls (k : Nat) (A0 : Option Addr) (c0 : Nat) (l0 : List Int) (A1 : Option Addr) (c1 : Nat) (l1 : List Int) (r1 : List Int) (r2 : Bool) (w : World) (hr0 : Kd.C (Kd.int .u64) w A0 l0.length l0) (hc0 : l0.length ≤ c0) (hr1 : Kd.C (Kd.int .u64) w A1 l1.length l1) (hc1 : l1.length ≤ c1) (h : jc.f k l0 l1 = some (r1, r2)) :
  Calls Try.prog 105 #[.slice A0 l0.length c0, .slice A1 l1.length c1] w fun e w' => ∃ v0_ : Value, e = .returned (.tuple #[v0_, .bool r2]) ∧ Kd.R (Kd.int .u64) 22 w' w.heap.size (fun _ => True) v0_ r1 ∧ Below w.heap.size w w' := by
 have HR0 := jA.mk hr0
 have HC0 := jA.mk hc0
 clear hr0 hc0
 have HR1 := jA.mk hr1
 have HC1 := jA.mk hc1
 clear hr1 hc1
 have HB := jA.mk (Below.refl w.heap.size w)
 have H : ((jO.f k l0 l1).bind fun t404 => (if t404 < 0 then (some (([] : List Int), false)) else ((jD.f k l0).bind fun t405 => ((jD.f k l1).bind fun t408 => (jc.l0 k t405 t408 (([] : List Int)) 0 0))))) = some (r1, r2) := h
 clear h
 replace H := ob_ H
 obtain ⟨t404, A30, H⟩ := H
 try dsimp only at H
 have A3 := jA.mk A30
 clear A30
 by_cases c4 : t404 < 0
 ·
  rw [if_pos c4] at H
  have c4b0 := decide_eq_true c4
  clear c4
  simp only [Option.some.injEq, Prod.mk.injEq] at H
  obtain ⟨rfl, rfl⟩ := H
  go_enter Try.func105, Try.ntmps105
  go_wp2_with (first | (go_at_call 103; (with_reducible refine (jO.calls k _ _ l0 _ _ l1 t404 _ ?side1 ?side2 ?side3 ?side4 A3.out).mono ?_); (case side1 => exact cc_ HR0.out); (case side2 => exact HC0.out); (case side3 => exact cc_ HR1.out); (case side4 => exact HC1.out); rintro e w5 ⟨rfl, hb⟩; replace HB := bs_ HB hb))
  repeat (go_quiet (first | (go_at_call 103; (with_reducible refine (jO.calls k _ _ l0 _ _ l1 t404 _ ?side1 ?side2 ?side3 ?side4 A3.out).mono ?_); (case side1 => exact cc_ HR0.out); (case side2 => exact HC0.out); (case side3 => exact cc_ HR1.out); (case side4 => exact HC1.out); rintro e w5 ⟨rfl, hb⟩; replace HB := bs_ HB hb)); try go_wp2_with (first | (go_at_call 103; (with_reducible refine (jO.calls k _ _ l0 _ _ l1 t404 _ ?side1 ?side2 ?side3 ?side4 A3.out).mono ?_); (case side1 => exact cc_ HR0.out); (case side2 => exact HC0.out); (case side3 => exact cc_ HR1.out); (case side4 => exact HC1.out); rintro e w5 ⟨rfl, hb⟩; replace HB := bs_ HB hb)))
  go_ret2
  exact ⟨_, ew_, nl_, (bb_ HB)⟩
 ·
  rw [if_neg c4] at H
  have c4b0 := decide_eq_false c4
  clear c4
  replace H := ob_ H
  obtain ⟨t405, A60, H⟩ := H
  try dsimp only at H
  have A6 := jA.mk A60
  clear A60
  replace H := ob_ H
  obtain ⟨t408, A70, H⟩ := H
  try dsimp only at H
  have A7 := jA.mk A70
  clear A70
  obtain ⟨y411, hy411⟩ : ∃ y_ : List Int, y_ = (([] : List Int)) := ⟨_, rfl⟩
  replace H : (jc.l0 k t405 t408 y411 0 0) = some (r1, r2) := by first | (rw [hy411]; with_reducible exact H) | (have H2_ := (Option.bind_some _ _).symm.trans H; rw [hy411]; with_reducible exact H2_) | (with_reducible exact hs_ H) | with_reducible exact H | (rw [hy411]; exact H) | exact H
  have Ny411 := jA.mk hy411
  clear hy411
  have H' := jA.mk H
  clear H
  go_enter Try.func105, Try.ntmps105
  go_wp2_with (first | (go_at_call 103; (with_reducible refine (jO.calls k _ _ l0 _ _ l1 t404 _ ?side1 ?side2 ?side3 ?side4 A3.out).mono ?_); (case side1 => exact cc_ HR0.out); (case side2 => exact HC0.out); (case side3 => exact cc_ HR1.out); (case side4 => exact HC1.out); rintro e w8 ⟨rfl, hb⟩; replace HB := bs_ HB hb) | (go_at_call 68; (with_reducible refine (jD.calls k _ _ l0 t405 _ ?side1 ?side2 A6.out).mono ?_); (case side1 => exact cc_ (Kd.jq HR0.out HB.out)); (case side2 => exact HC0.out); rintro e w9 ⟨v406, rfl, ho0, hb⟩; have HO407 := jA.mk (Kd.jU ho0 (jB (bb_ HB))); replace HB := bs_ HB hb) | (go_at_call 68; (with_reducible refine (jD.calls k _ _ l1 t408 _ ?side1 ?side2 A7.out).mono ?_); (case side1 => exact cc_ (Kd.jq HR1.out HB.out)); (case side2 => exact HC1.out); rintro e w10 ⟨v409, rfl, ho0, hb⟩; have HO410 := jA.mk (Kd.jU (Kd.jR ho0 (Kd.R_lt (rR_ HO407))) (jB (bb_ HB))); replace HO407 := re_ HO407 ho0 hb; replace HB := bs_ HB hb) | ((with_reducible refine jr (N := 20) rfl ?_); refine Kd.jAN (Kd.int .u64) _ 22 ?hg (N := 20) ?hd (xs := ([] : List Int)) (inner := []) (ok := fun _ => True) (okp := fun _ => True) ?hr ?hp (fun _ hk => hk) trivial (Below.refl _ _) (Nat.le_refl _) (by simp) ?_; (case hd => rfl); (case hg => rfl); (case hr => exact gs_); (case hp => exact (Reps.none _ _)); intro v412 w11 ho12 hb hg_ hnew_; clear hg_ hnew_; (first | rw [← Ny411.out] at ho12 | (simp only [Int.reduceToNat] at ho12; rw [← Ny411.out] at ho12)); have HO413 := jA.mk (Kd.jU (Kd.jR (Kd.jR ho12 (Kd.R_lt (rR_ HO407))) (Kd.R_lt (rR_ HO410))) (jB (bb_ HB))); replace HO407 := re_ HO407 ho12 hb; replace HO410 := re_ HO410 ho12 hb; replace HB := bs_ HB hb; clear hb ho12))
  repeat (go_quiet (first | (go_at_call 103; (with_reducible refine (jO.calls k _ _ l0 _ _ l1 t404 _ ?side1 ?side2 ?side3 ?side4 A3.out).mono ?_); (case side1 => exact cc_ HR0.out); (case side2 => exact HC0.out); (case side3 => exact cc_ HR1.out); (case side4 => exact HC1.out); rintro e w8 ⟨rfl, hb⟩; replace HB := bs_ HB hb) | (go_at_call 68; (with_reducible refine (jD.calls k _ _ l0 t405 _ ?side1 ?side2 A6.out).mono ?_); (case side1 => exact cc_ (Kd.jq HR0.out HB.out)); (case side2 => exact HC0.out); rintro e w9 ⟨v406, rfl, ho0, hb⟩; have HO407 := jA.mk (Kd.jU ho0 (jB (bb_ HB))); replace HB := bs_ HB hb) | (go_at_call 68; (with_reducible refine (jD.calls k _ _ l1 t408 _ ?side1 ?side2 A7.out).mono ?_); (case side1 => exact cc_ (Kd.jq HR1.out HB.out)); (case side2 => exact HC1.out); rintro e w10 ⟨v409, rfl, ho0, hb⟩; have HO410 := jA.mk (Kd.jU (Kd.jR ho0 (Kd.R_lt (rR_ HO407))) (jB (bb_ HB))); replace HO407 := re_ HO407 ho0 hb; replace HB := bs_ HB hb) | ((with_reducible refine jr (N := 20) rfl ?_); refine Kd.jAN (Kd.int .u64) _ 22 ?hg (N := 20) ?hd (xs := ([] : List Int)) (inner := []) (ok := fun _ => True) (okp := fun _ => True) ?hr ?hp (fun _ hk => hk) trivial (Below.refl _ _) (Nat.le_refl _) (by simp) ?_; (case hd => rfl); (case hg => rfl); (case hr => exact gs_); (case hp => exact (Reps.none _ _)); intro v412 w11 ho12 hb hg_ hnew_; clear hg_ hnew_; (first | rw [← Ny411.out] at ho12 | (simp only [Int.reduceToNat] at ho12; rw [← Ny411.out] at ho12)); have HO413 := jA.mk (Kd.jU (Kd.jR (Kd.jR ho12 (Kd.R_lt (rR_ HO407))) (Kd.R_lt (rR_ HO410))) (jB (bb_ HB))); replace HO407 := re_ HO407 ho12 hb; replace HO410 := re_ HO410 ho12 hb; replace HB := bs_ HB hb; clear hb ho12)); try go_wp2_with (first | (go_at_call 103; (with_reducible refine (jO.calls k _ _ l0 _ _ l1 t404 _ ?side1 ?side2 ?side3 ?side4 A3.out).mono ?_); (case side1 => exact cc_ HR0.out); (case side2 => exact HC0.out); (case side3 => exact cc_ HR1.out); (case side4 => exact HC1.out); rintro e w8 ⟨rfl, hb⟩; replace HB := bs_ HB hb) | (go_at_call 68; (with_reducible refine (jD.calls k _ _ l0 t405 _ ?side1 ?side2 A6.out).mono ?_); (case side1 => exact cc_ (Kd.jq HR0.out HB.out)); (case side2 => exact HC0.out); rintro e w9 ⟨v406, rfl, ho0, hb⟩; have HO407 := jA.mk (Kd.jU ho0 (jB (bb_ HB))); replace HB := bs_ HB hb) | (go_at_call 68; (with_reducible refine (jD.calls k _ _ l1 t408 _ ?side1 ?side2 A7.out).mono ?_); (case side1 => exact cc_ (Kd.jq HR1.out HB.out)); (case side2 => exact HC1.out); rintro e w10 ⟨v409, rfl, ho0, hb⟩; have HO410 := jA.mk (Kd.jU (Kd.jR ho0 (Kd.R_lt (rR_ HO407))) (jB (bb_ HB))); replace HO407 := re_ HO407 ho0 hb; replace HB := bs_ HB hb) | ((with_reducible refine jr (N := 20) rfl ?_); refine Kd.jAN (Kd.int .u64) _ 22 ?hg (N := 20) ?hd (xs := ([] : List Int)) (inner := []) (ok := fun _ => True) (okp := fun _ => True) ?hr ?hp (fun _ hk => hk) trivial (Below.refl _ _) (Nat.le_refl _) (by simp) ?_; (case hd => rfl); (case hg => rfl); (case hr => exact gs_); (case hp => exact (Reps.none _ _)); intro v412 w11 ho12 hb hg_ hnew_; clear hg_ hnew_; (first | rw [← Ny411.out] at ho12 | (simp only [Int.reduceToNat] at ho12; rw [← Ny411.out] at ho12)); have HO413 := jA.mk (Kd.jU (Kd.jR (Kd.jR ho12 (Kd.R_lt (rR_ HO407))) (Kd.R_lt (rR_ HO410))) (jB (bb_ HB))); replace HO407 := re_ HO407 ho12 hb; replace HO410 := re_ HO410 ho12 hb; replace HB := bs_ HB hb; clear hb ho12)))
  go_loopg [8, 9, 10] k (fun kq v8 v9 v10 w' => ∃ (x8_1 : List Int) (x9_1 : Int) (x10_1 : Int), v9 = .int .u64 x9_1 ∧ v10 = .int .i64 x10_1 ∧ jA (jc.l0 kq t405 t408 x8_1 x9_1 x10_1 = some (r1, r2)) ∧ jA (kq ≤ k) ∧ jA (Kd.R (Kd.int .u64) 22 w' w.heap.size (fun k_ => some k_ ≠ (v409 : Value).ownBlock ∧ some k_ ≠ (v8 : Value).ownBlock) v406 t405) ∧ jA (Kd.R (Kd.int .u64) 22 w' w.heap.size (fun k_ => some k_ ≠ (v406 : Value).ownBlock ∧ some k_ ≠ (v8 : Value).ownBlock) v409 t408) ∧ jA (Kd.R (Kd.int .u64) 22 w' w.heap.size (fun k_ => some k_ ≠ (v406 : Value).ownBlock ∧ some k_ ≠ (v409 : Value).ownBlock) v8 x8_1) ∧ jA (Below w.heap.size w w'))
  case atStart => exact ⟨(y411), (0), (0), sd_, sd_, H', ⟨Nat.le_refl _⟩, ⟨by (with_reducible repeat (first | apply Kd.zK | apply Kd.zN | apply Kd.zM)); exact Kd.jk HO407.out (fun _ hk => ⟨hk.1.2, hk.2⟩)⟩, ⟨by (with_reducible repeat (first | apply Kd.zK | apply Kd.zN | apply Kd.zM)); exact Kd.jk HO410.out (fun _ hk => ⟨hk.1.2, hk.2⟩)⟩, ⟨by (with_reducible repeat (first | apply Kd.zK | apply Kd.zN | apply Kd.zM)); exact Kd.jk HO413.out (fun _ hk => ⟨hk.1.2, hk.2⟩)⟩, ⟨(bb_ HB)⟩⟩
  case round =>
   clear H'
   try clear c1
   try clear p2
   try clear c4
   try clear c4b0
   try clear c10
   obtain ⟨x8_1, x9_1, x10_1, rfl, rfl, HA, HK1, HO_6, HO_7, HO_8, HB⟩ := hrel
   cases gk with
   | zero => exact absurd HA.out (by simp [jc.l0])
   | succ k1 =>
    have H := HA.out
    clear HA
    simp only [jc.l0] at H
    by_cases c13 : x10_1 < (t405.length : Int)
    ·
     rw [if_pos c13] at H
     have c13b0 := decide_eq_true c13
     clear c13
     by_cases c14 : 0 ≤ x10_1
     ·
      rw [if_pos c14] at H
      have c14b0 := decide_eq_true c14
      clear c14
      replace H := ob_ H
      obtain ⟨t415, A150, H⟩ := H
      try dsimp only at H
      have A15 := jA.mk A150
      clear A150
      obtain ⟨ji16, hji16⟩ : ∃ j_ : Int, (Int.tmod (IntKind.u64.wrap ((IntKind.u64.wrap ((IntKind.u64.wrap ((rd t405 x10_1) + 4294967296)) - t415)) - x9_1)) 4294967296) = j_ := ⟨_, rfl⟩
      replace H : (if x8_1.length < 17592186044416 then (jc.l0 k1 t405 t408 (x8_1 ++ [ji16]) (IntKind.u64.wrap (1 - (IntKind.u64.wrap (Int.tdiv (IntKind.u64.wrap ((IntKind.u64.wrap ((IntKind.u64.wrap ((rd t405 x10_1) + 4294967296)) - t415)) - x9_1)) 4294967296)))) (wrap64 (x10_1 + 1))) else (none)) = some (r1, r2) := by first | (rw [hji16] at H; exact H) | (simp only [hji16] at H ⊢; exact H)
      (try rw [hji16] at A15)
      by_cases c17 : x8_1.length < 17592186044416
      ·
       rw [if_pos c17] at H
       have LMc17 := jA.mk c17
       clear c17
       obtain ⟨y416, hy416⟩ : ∃ y_ : List Int, y_ = (x8_1 ++ [ji16]) := ⟨_, rfl⟩
       replace H : (jc.l0 k1 t405 t408 y416 (IntKind.u64.wrap (1 - (IntKind.u64.wrap (Int.tdiv (IntKind.u64.wrap ((IntKind.u64.wrap ((IntKind.u64.wrap ((rd t405 x10_1) + 4294967296)) - t415)) - x9_1)) 4294967296)))) (wrap64 (x10_1 + 1))) = some (r1, r2) := by first | (rw [hy416]; with_reducible exact H) | (have H2_ := (Option.bind_some _ _).symm.trans H; rw [hy416]; with_reducible exact H2_) | (with_reducible exact hs_ H) | with_reducible exact H | (rw [hy416]; exact H) | exact H
       have Ny416 := jA.mk hy416
       clear hy416
       have H' := jA.mk H
       clear H
       obtain ⟨Ao18, co18, eo18⟩ := Kd.jm HO_6.out
       subst eo18
       have p414 : 0 ≤ (x10_1 : Int) := of_decide_eq_true am_
       have q414 : x10_1 < (t405.length : Int) := of_decide_eq_true am_
       obtain ⟨ad414, e414, hx414_0⟩ := Kd.zD (Kd.jF HO_6.out).2.2 x10_1 p414 q414
       cases e414
       replace p414 := eq_true p414
       replace q414 := eq_true q414
       obtain ⟨Ao19, co19, eo19⟩ := Kd.jm HO_7.out
       subst eo19
       go_wp2_with (first | (go_at_call 69; (with_reducible refine (jg.calls _ _ t408 x10_1 t415 _ ?side1 ?side2 A15.out).mono ?_); (case side1 => exact cc_ (Kd.jF HO_7.out).2.2); (case side2 => exact (Kd.jF HO_7.out).2.1); rintro e w' ⟨rfl, ⟨nd, rfl⟩⟩; (try first | exact ⟨rfl, _, World.drewN_drewN _ _ _⟩ | exact ⟨rfl, _, Eq.trans (World.drewN_drewN _ _ _) (congrArg (World.drewN _) (Nat.add_assoc _ _ _))⟩)) | ((with_reducible refine vU (b := .append) (xs := #[.tmp 38, .tmp 41]) rfl ?_); at_builtin; refine Kd.qM (Kd.int .u64) (w0 := w) w.heap.size rfl (.tmp 38) (.tmp 41) 35 22 (.int .u64 0) 8 rfl Try.underlying35 zw rfl (by decide) (by omega) u8 x8_1 ji16 [.int .u64 ji16] (fun k_ => some k_ ≠ (.slice (some ad414) t405.length co18 : Value).ownBlock ∧ some k_ ≠ (.slice Ao19 t408.length co19 : Value).ownBlock) (fun _ => False) rfl rfl ?aP (fun _ hk => hk.elim) ?aF ?aO ?aB ?aS ?aL ?_; (case aP => exact rfl); (case aB => exact (bb_ HB)); (case aF => exact (fun k_ hk => ⟨Kd.fresh' (Kd.R_lt (rR_ HO_6)) k_ hk, Kd.fresh' (Kd.R_lt (rR_ HO_7)) k_ hk⟩)); (case aO => exact (rR_ HO_8)); (case aS => exact (jB (bb_ HB))); (case aL => have := LMc17.out; omega); intro v417 w20 ho hb hg hat; rw [← Ny416.out] at ho; replace HO_6 := jA.mk (Kd.zP (ok := (fun k_ => some k_ ≠ (.slice Ao19 t408.length co19 : Value).ownBlock)) (rR_ HO_6) hg hat); replace HO_7 := jA.mk (Kd.zP (ok := (fun k_ => some k_ ≠ (.slice (some ad414) t405.length co18 : Value).ownBlock)) (rR_ HO_7) hg hat); replace HB := jA.mk (hb); have HO418 := jA.mk (ho); clear HO_8 ho hb hg hat))
       repeat (go_quiet (first | (go_at_call 69; (with_reducible refine (jg.calls _ _ t408 x10_1 t415 _ ?side1 ?side2 A15.out).mono ?_); (case side1 => exact cc_ (Kd.jF HO_7.out).2.2); (case side2 => exact (Kd.jF HO_7.out).2.1); rintro e w' ⟨rfl, ⟨nd, rfl⟩⟩; (try first | exact ⟨rfl, _, World.drewN_drewN _ _ _⟩ | exact ⟨rfl, _, Eq.trans (World.drewN_drewN _ _ _) (congrArg (World.drewN _) (Nat.add_assoc _ _ _))⟩)) | ((with_reducible refine vU (b := .append) (xs := #[.tmp 38, .tmp 41]) rfl ?_); at_builtin; refine Kd.qM (Kd.int .u64) (w0 := w) w.heap.size rfl (.tmp 38) (.tmp 41) 35 22 (.int .u64 0) 8 rfl Try.underlying35 zw rfl (by decide) (by omega) u8 x8_1 ji16 [.int .u64 ji16] (fun k_ => some k_ ≠ (.slice (some ad414) t405.length co18 : Value).ownBlock ∧ some k_ ≠ (.slice Ao19 t408.length co19 : Value).ownBlock) (fun _ => False) rfl rfl ?aP (fun _ hk => hk.elim) ?aF ?aO ?aB ?aS ?aL ?_; (case aP => exact rfl); (case aB => exact (bb_ HB)); (case aF => exact (fun k_ hk => ⟨Kd.fresh' (Kd.R_lt (rR_ HO_6)) k_ hk, Kd.fresh' (Kd.R_lt (rR_ HO_7)) k_ hk⟩)); (case aO => exact (rR_ HO_8)); (case aS => exact (jB (bb_ HB))); (case aL => have := LMc17.out; omega); intro v417 w20 ho hb hg hat; rw [← Ny416.out] at ho; replace HO_6 := jA.mk (Kd.zP (ok := (fun k_ => some k_ ≠ (.slice Ao19 t408.length co19 : Value).ownBlock)) (rR_ HO_6) hg hat); replace HO_7 := jA.mk (Kd.zP (ok := (fun k_ => some k_ ≠ (.slice (some ad414) t405.length co18 : Value).ownBlock)) (rR_ HO_7) hg hat); replace HB := jA.mk (hb); have HO418 := jA.mk (ho); clear HO_8 ho hb hg hat)); try go_wp2_with (first | (go_at_call 69; (with_reducible refine (jg.calls _ _ t408 x10_1 t415 _ ?side1 ?side2 A15.out).mono ?_); (case side1 => exact cc_ (Kd.jF HO_7.out).2.2); (case side2 => exact (Kd.jF HO_7.out).2.1); rintro e w' ⟨rfl, ⟨nd, rfl⟩⟩; (try first | exact ⟨rfl, _, World.drewN_drewN _ _ _⟩ | exact ⟨rfl, _, Eq.trans (World.drewN_drewN _ _ _) (congrArg (World.drewN _) (Nat.add_assoc _ _ _))⟩)) | ((with_reducible refine vU (b := .append) (xs := #[.tmp 38, .tmp 41]) rfl ?_); at_builtin; refine Kd.qM (Kd.int .u64) (w0 := w) w.heap.size rfl (.tmp 38) (.tmp 41) 35 22 (.int .u64 0) 8 rfl Try.underlying35 zw rfl (by decide) (by omega) u8 x8_1 ji16 [.int .u64 ji16] (fun k_ => some k_ ≠ (.slice (some ad414) t405.length co18 : Value).ownBlock ∧ some k_ ≠ (.slice Ao19 t408.length co19 : Value).ownBlock) (fun _ => False) rfl rfl ?aP (fun _ hk => hk.elim) ?aF ?aO ?aB ?aS ?aL ?_; (case aP => exact rfl); (case aB => exact (bb_ HB)); (case aF => exact (fun k_ hk => ⟨Kd.fresh' (Kd.R_lt (rR_ HO_6)) k_ hk, Kd.fresh' (Kd.R_lt (rR_ HO_7)) k_ hk⟩)); (case aO => exact (rR_ HO_8)); (case aS => exact (jB (bb_ HB))); (case aL => have := LMc17.out; omega); intro v417 w20 ho hb hg hat; rw [← Ny416.out] at ho; replace HO_6 := jA.mk (Kd.zP (ok := (fun k_ => some k_ ≠ (.slice Ao19 t408.length co19 : Value).ownBlock)) (rR_ HO_6) hg hat); replace HO_7 := jA.mk (Kd.zP (ok := (fun k_ => some k_ ≠ (.slice (some ad414) t405.length co18 : Value).ownBlock)) (rR_ HO_7) hg hat); replace HB := jA.mk (hb); have HO418 := jA.mk (ho); clear HO_8 ho hb hg hat)))
       go_roundg k1
       case measure => have := HK1.out; omega
       case rel => exact ⟨(y416), (IntKind.u64.wrap (1 - (IntKind.u64.wrap (Int.tdiv (IntKind.u64.wrap ((IntKind.u64.wrap ((IntKind.u64.wrap ((rd t405 x10_1) + 4294967296)) - t415)) - x9_1)) 4294967296)))), (wrap64 (x10_1 + 1)), sd_, sd_, H', ⟨by have := HK1.out; omega⟩, ⟨(rR_ HO_6)⟩, ⟨(rR_ HO_7)⟩, ⟨(rR_ HO418)⟩, ⟨(bb_ HB)⟩⟩
      ·
       rw [if_neg c17] at H
       exact absurd H (by simp)
     ·
      rw [if_neg c14] at H
      exact absurd H (by simp)
    ·
     rw [if_neg c13] at H
     have c13b0 := decide_eq_false c13
     clear c13
     replace H := ob_ H
     obtain ⟨t419, A210, H⟩ := H
     try dsimp only at H
     have A21 := jA.mk A210
     clear A210
     simp only [Option.some.injEq, Prod.mk.injEq] at H
     obtain ⟨rfl, rfl⟩ := H
     obtain ⟨Ao22, co22, eo22⟩ := Kd.jm HO_6.out
     subst eo22
     obtain ⟨Ao23, co23, eo23⟩ := Kd.jm HO_8.out
     subst eo23
     go_wp2_with (first | (go_at_call 70; (with_reducible refine (jI.calls k1 _ _ x8_1 t419 _ ?side1 ?side2 A21.out).mono ?_); (case side1 => exact cc_ (Kd.jF HO_8.out).2.2); (case side2 => exact (Kd.jF HO_8.out).2.1); rintro e w24 ⟨v420, rfl, ho0, hb⟩; have HO421 := jA.mk (Kd.jU (Kd.jR (Kd.jR (Kd.jR ho0 (Kd.R_lt (rR_ HO_6))) (Kd.R_lt (rR_ HO_7))) (Kd.R_lt (rR_ HO_8))) (jB (bb_ HB))); replace HO_6 := re_ HO_6 ho0 hb; replace HO_7 := re_ HO_7 ho0 hb; replace HO_8 := re_ HO_8 ho0 hb; replace HB := bs_ HB hb))
     repeat (go_quiet (first | (go_at_call 70; (with_reducible refine (jI.calls k1 _ _ x8_1 t419 _ ?side1 ?side2 A21.out).mono ?_); (case side1 => exact cc_ (Kd.jF HO_8.out).2.2); (case side2 => exact (Kd.jF HO_8.out).2.1); rintro e w24 ⟨v420, rfl, ho0, hb⟩; have HO421 := jA.mk (Kd.jU (Kd.jR (Kd.jR (Kd.jR ho0 (Kd.R_lt (rR_ HO_6))) (Kd.R_lt (rR_ HO_7))) (Kd.R_lt (rR_ HO_8))) (jB (bb_ HB))); replace HO_6 := re_ HO_6 ho0 hb; replace HO_7 := re_ HO_7 ho0 hb; replace HO_8 := re_ HO_8 ho0 hb; replace HB := bs_ HB hb)); try go_wp2_with (first | (go_at_call 70; (with_reducible refine (jI.calls k1 _ _ x8_1 t419 _ ?side1 ?side2 A21.out).mono ?_); (case side1 => exact cc_ (Kd.jF HO_8.out).2.2); (case side2 => exact (Kd.jF HO_8.out).2.1); rintro e w24 ⟨v420, rfl, ho0, hb⟩; have HO421 := jA.mk (Kd.jU (Kd.jR (Kd.jR (Kd.jR ho0 (Kd.R_lt (rR_ HO_6))) (Kd.R_lt (rR_ HO_7))) (Kd.R_lt (rR_ HO_8))) (jB (bb_ HB))); replace HO_6 := re_ HO_6 ho0 hb; replace HO_7 := re_ HO_7 ho0 hb; replace HO_8 := re_ HO_8 ho0 hb; replace HB := bs_ HB hb)))
     go_ret2
     exact ⟨_, ew_, by refine pR_ ?_; exact Kd.jk HO421.out (fun _ hk => trivial), (bb_ HB)⟩

end Go.Proofs.Ytijgeonhbmgikaa.POOctetGets
