-- printed (pr.py)
import Derived.Test.YtijgeonhbmgikaaPOOctetPutsx0
import Derived.Test.YtijgeonhbmgikaaPOOctetPutsx13
namespace Go.Proofs.Ytijgeonhbmgikaa.POOctetPuts
open Go.RowKit Go.Proofs.YtijgeonhbmgikaaN Go.Proofs.YtijgeonhbmgikaaW.PrintWords Go.Proofs.YtijgeonhbmgikaaW.PrintLast Go.Proofs.YtijgeonhbmgikaaW.PrintMore
attribute [local go_sem] qE qC qP qO ze za qD qA
set_option maxHeartbeats 8000000
set_option maxRecDepth 100000
set_option linter.unusedVariables false
set_option linter.unusedSimpArgs false

/-! ### jK: function 102 -/
mutual
def jK.l0 : Nat → List Int → List Int → List Int → Int → Int → Option (List Int)
 | 0, _, _, _, _, _ => none
 | k + 1, x5, x6, x7, x8, x9 => if x9 < (x5.length : Int) then (jK.j1 k x5 x6 x7 x8 x9 true) else (if x9 < (x6.length : Int) then (jK.j1 k x5 x6 x7 x8 x9 true) else (jK.j1 k x5 x6 x7 x8 x9 (decide (x8 > 0))))
def jK.j1 : Nat → List Int → List Int → List Int → Int → Int → Bool → Option (List Int)
 | 0, _, _, _, _, _, _ => none
 | k + 1, x5, x6, x7, x8, x9, x29 => if x29 = true then ((jc.f x5 x9).bind fun t396 => ((jc.f x6 x9).bind fun t397 => (if x7.length < 17592186044416 then (jK.l0 k x5 x6 (x7 ++ [Int.tmod (IntKind.u64.wrap ((IntKind.u64.wrap (t396 + t397)) + x8)) 4294967296]) (IntKind.u64.wrap (Int.tdiv (IntKind.u64.wrap ((IntKind.u64.wrap (t396 + t397)) + x8)) 4294967296)) (wrap64 (x9 + 1))) else (none)))) else ((jI.f k x7).bind fun t401 => (some t401))
end
def jK.f (k : Nat) (l0 : List Int) (l1 : List Int) : Option (List Int) := (jD.f k l0).bind fun t387 => ((jD.f k l1).bind fun t390 => (jK.l0 k t387 t390 (([] : List Int)) 0 0))
theorem jK.vJ : ∀ k, (∀ y0 y1 y2 y3 y4, LeO (jK.l0 k y0 y1 y2 y3 y4) (jK.l0 (k + 1) y0 y1 y2 y3 y4)) ∧ (∀ y0 y1 y2 y3 y4 y5, LeO (jK.j1 k y0 y1 y2 y3 y4 y5) (jK.j1 (k + 1) y0 y1 y2 y3 y4 y5))
 | 0 => ⟨fun _ _ _ _ _ r h => by simp [jK.l0] at h, fun _ _ _ _ _ _ r h => by simp [jK.j1] at h⟩
 | k + 1 => by
  obtain ⟨ih0, ih1⟩ := jK.vJ k
  refine ⟨?_, ?_⟩ <;> (intros; first | unfold jK.l0 | unfold jK.j1) <;> repeat' first
   | (with_reducible exact ih0 _ _ _ _ _)
   | (with_reducible exact ih1 _ _ _ _ _ _)
   | (with_reducible exact jD.mono _ _)
   | (with_reducible exact jI.mono _ _)
   | (with_reducible exact LeO.refl _)
   | (with_reducible exact LeO.none _)
   | (with_reducible refine LeO.ite ?_ ?_)
   | (with_reducible refine LeO.bind ?_ (fun _ => ?_))
theorem jK.mono : ∀ a0 a1 k, LeO (jK.f k a0 a1) (jK.f (k + 1) a0 a1) := by
 intro a0 a1 k
 obtain ⟨ih0, ih1⟩ := jK.vJ k
 unfold jK.f
 repeat' first
   | (with_reducible exact ih0 _ _ _ _ _)
   | (with_reducible exact ih1 _ _ _ _ _ _)
   | (with_reducible exact jD.mono _ _)
   | (with_reducible exact jI.mono _ _)
   | (with_reducible exact LeO.refl _)
   | (with_reducible exact LeO.none _)
   | (with_reducible refine LeO.ite ?_ ?_)
   | (with_reducible refine LeO.bind ?_ (fun _ => ?_))
theorem jK.calls (k : Nat) (A0 : Option Addr) (c0 : Nat) (l0 : List Int) (A1 : Option Addr) (c1 : Nat) (l1 : List Int) (r : List Int) (w : World) (hr0 : Kd.C (Kd.int .u64) w A0 l0.length l0) (hc0 : l0.length ≤ c0) (hr1 : Kd.C (Kd.int .u64) w A1 l1.length l1) (hc1 : l1.length ≤ c1) (h : jK.f k l0 l1 = some r) :
  Calls Try.prog 102 #[.slice A0 l0.length c0, .slice A1 l1.length c1] w fun e w' => ∃ v0_ : Value, e = .returned (v0_) ∧ Kd.R (Kd.int .u64) 22 w' w.heap.size (fun _ => True) v0_ r ∧ Below w.heap.size w w' := by
 have HR0 := jA.mk hr0
 have HC0 := jA.mk hc0
 clear hr0 hc0
 have HR1 := jA.mk hr1
 have HC1 := jA.mk hc1
 clear hr1 hc1
 have HB := jA.mk (Below.refl w.heap.size w)
 have H : ((jD.f k l0).bind fun t387 => ((jD.f k l1).bind fun t390 => (jK.l0 k t387 t390 (([] : List Int)) 0 0))) = some r := h
 clear h
 replace H := ob_ H
 obtain ⟨t387, A30, H⟩ := H
 try dsimp only at H
 have A3 := jA.mk A30
 clear A30
 replace H := ob_ H
 obtain ⟨t390, A40, H⟩ := H
 try dsimp only at H
 have A4 := jA.mk A40
 clear A40
 obtain ⟨y393, hy393⟩ : ∃ y_ : List Int, y_ = (([] : List Int)) := ⟨_, rfl⟩
 replace H : (jK.l0 k t387 t390 y393 0 0) = some r := by first | (rw [hy393]; with_reducible exact H) | (have H2_ := (Option.bind_some _ _).symm.trans H; rw [hy393]; with_reducible exact H2_) | (with_reducible exact hs_ H) | with_reducible exact H | (rw [hy393]; exact H) | exact H
 have Ny393 := jA.mk hy393
 clear hy393
 have H' := jA.mk H
 clear H
 go_enter Try.func102, Try.ntmps102
 go_wp2_with (first | ((with_reducible refine jF (f := 68) rfl ?_); refine jg (some 12) rfl rfl Try.func68 kr_ rfl #[.slice A0 l0.length c0] rfl mt_ ?_; (with_reducible refine (jD.calls k _ _ l0 t387 _ ?side1 ?side2 A3.out).mono ?_); (case side1 => exact cc_ HR0.out); (case side2 => exact HC0.out); rintro e w5 ⟨v388, rfl, ho0, hb⟩; refine ⟨_, rfl, ?_⟩; have HO389 := jA.mk (Kd.jZ ho0 (jB (bb_ HB))); replace HB := bs_ HB hb) | ((with_reducible refine jF (f := 68) rfl ?_); refine jg (some 14) rfl rfl Try.func68 kr_ rfl #[.slice A1 l1.length c1] rfl mt_ ?_; (with_reducible refine (jD.calls k _ _ l1 t390 _ ?side1 ?side2 A4.out).mono ?_); (case side1 => exact cc_ (Kd.jW HR1.out HB.out)); (case side2 => exact HC1.out); rintro e w6 ⟨v391, rfl, ho0, hb⟩; refine ⟨_, rfl, ?_⟩; have HO392 := jA.mk (Kd.jZ (Kd.jS ho0 (Kd.R_lt (rR_ HO389))) (jB (bb_ HB))); replace HO389 := re_ HO389 ho0 hb; replace HB := bs_ HB hb) | ((with_reducible refine jq (N := 15) rfl ?_); (try (refine jv (by rfl) ?_; dsimp only)); refine Kd.jAC (Kd.int .u64) _ 22 ?hg (N := 15) ?hd (xs := ([] : List Int)) (inner := []) (ok := fun _ => True) (okp := fun _ => True) ?hr ?hp (fun _ hk => hk) trivial (Below.refl _ _) (Nat.le_refl _) (by simp) ?_; (case hd => rfl); (case hg => rfl); (case hr => exact gs_); (case hp => exact (Reps.none _ _)); intro v394 w7 ho8 hb hg_ hnew_; clear hg_ hnew_; (first | rw [← Ny393.out] at ho8 | (simp only [Int.reduceToNat] at ho8; rw [← Ny393.out] at ho8)); have HO395 := jA.mk (Kd.jZ (Kd.jS (Kd.jS ho8 (Kd.R_lt (rR_ HO389))) (Kd.R_lt (rR_ HO392))) (jB (bb_ HB))); replace HO389 := re_ HO389 ho8 hb; replace HO392 := re_ HO392 ho8 hb; replace HB := bs_ HB hb; clear hb ho8))
 go_loopg [7, 8, 9] k (fun kq v7 v8 v9 w' => ∃ (x7_1 : List Int) (x8_1 : Int) (x9_1 : Int), v8 = .int .u64 x8_1 ∧ v9 = .int .i64 x9_1 ∧ jA (jK.l0 kq t387 t390 x7_1 x8_1 x9_1 = some r) ∧ jA (kq ≤ k) ∧ jA (Kd.R (Kd.int .u64) 22 w' w.heap.size (fun k_ => some k_ ≠ (v391 : Value).ownBlock ∧ some k_ ≠ (v7 : Value).ownBlock) v388 t387) ∧ jA (Kd.R (Kd.int .u64) 22 w' w.heap.size (fun k_ => some k_ ≠ (v388 : Value).ownBlock ∧ some k_ ≠ (v7 : Value).ownBlock) v391 t390) ∧ jA (Kd.R (Kd.int .u64) 22 w' w.heap.size (fun k_ => some k_ ≠ (v388 : Value).ownBlock ∧ some k_ ≠ (v391 : Value).ownBlock) v7 x7_1) ∧ jA (Below w.heap.size w w'))
 case atStart => exact ⟨(y393), (0), (0), sd_, sd_, H', ⟨Nat.le_refl _⟩, ⟨by (with_reducible repeat (first | apply Kd.vv | apply Kd.zG | apply Kd.zK)); exact Kd.jl HO389.out (fun _ hk => ⟨hk.1.2, hk.2⟩)⟩, ⟨by (with_reducible repeat (first | apply Kd.vv | apply Kd.zG | apply Kd.zK)); exact Kd.jl HO392.out (fun _ hk => ⟨hk.1.2, hk.2⟩)⟩, ⟨by (with_reducible repeat (first | apply Kd.vv | apply Kd.zG | apply Kd.zK)); exact Kd.jl HO395.out (fun _ hk => ⟨hk.1.2, hk.2⟩)⟩, ⟨(bb_ HB)⟩⟩
 case round =>
  clear H'
  try clear c1
  try clear p2
  try clear c6
  obtain ⟨x7_1, x8_1, x9_1, rfl, rfl, HA, HK1, HO_5, HO_6, HO_7, HB⟩ := hrel
  cases gk with
  | zero => exact absurd HA.out (by simp [jK.l0])
  | succ k1 =>
   have H := HA.out
   clear HA
   simp only [jK.l0] at H
   have HC9 := jA.mk H
   clear H
   go_upto_region 6 with (fail)
   go_cut [29] (fun v29 wc => ∃ (kq : Nat) (x29_8 : Bool), v29 = .bool x29_8 ∧ jA (jK.j1 kq t387 t390 x7_1 x8_1 x9_1 x29_8 = some r) ∧ jA (kq ≤ k1) ∧ jA (Kd.R (Kd.int .u64) 22 wc w.heap.size (fun k_ => some k_ ≠ (v391 : Value).ownBlock ∧ some k_ ≠ (u7 : Value).ownBlock) v388 t387) ∧ jA (Kd.R (Kd.int .u64) 22 wc w.heap.size (fun k_ => some k_ ≠ (v388 : Value).ownBlock ∧ some k_ ≠ (u7 : Value).ownBlock) v391 t390) ∧ jA (Kd.R (Kd.int .u64) 22 wc w.heap.size (fun k_ => some k_ ≠ (v388 : Value).ownBlock ∧ some k_ ≠ (v391 : Value).ownBlock) u7 x7_1) ∧ jA (Below w.heap.size w wc))
   case first =>
    have H := HC9.out
    clear HC9
    by_cases c10 : x9_1 < (t387.length : Int)
    ·
     rw [if_pos c10] at H
     have c10b0 := decide_eq_true c10
     clear c10
     (first | rw [c10b0] | (simp only [vY, zQ]; rw [c10b0]) | skip)
     have H' := jA.mk H
     clear H
     obtain ⟨Ao11, co11, eo11⟩ := Kd.jr HO_5.out
     subst eo11
     go_wp2
     go_meet
     case rel => exact ⟨_, (true), sd_, H', ⟨by have := HK1.out; first | omega | exact Nat.le_refl _⟩, ⟨(rR_ HO_5)⟩, ⟨(rR_ HO_6)⟩, ⟨(rR_ HO_7)⟩, ⟨(bb_ HB)⟩⟩
    ·
     rw [if_neg c10] at H
     have c10b0 := decide_eq_false c10
     clear c10
     (first | rw [c10b0] | (simp only [vY, zQ]; rw [c10b0]) | skip)
     by_cases c12 : x9_1 < (t390.length : Int)
     ·
      rw [if_pos c12] at H
      have c12b0 := decide_eq_true c12
      clear c12
      have H' := jA.mk H
      clear H
      obtain ⟨Ao13, co13, eo13⟩ := Kd.jr HO_5.out
      subst eo13
      obtain ⟨Ao14, co14, eo14⟩ := Kd.jr HO_6.out
      subst eo14
      go_wp2
      go_meet
      case rel => exact ⟨_, (true), sd_, H', ⟨by have := HK1.out; first | omega | exact Nat.le_refl _⟩, ⟨(rR_ HO_5)⟩, ⟨(rR_ HO_6)⟩, ⟨(rR_ HO_7)⟩, ⟨(bb_ HB)⟩⟩
     ·
      rw [if_neg c12] at H
      have c12b0 := decide_eq_false c12
      clear c12
      have H' := jA.mk H
      clear H
      obtain ⟨Ao15, co15, eo15⟩ := Kd.jr HO_5.out
      subst eo15
      obtain ⟨Ao16, co16, eo16⟩ := Kd.jr HO_6.out
      subst eo16
      go_wp2
      go_meet
      case rel => exact ⟨_, (decide (x8_1 > 0)), sd_, H', ⟨by have := HK1.out; first | omega | exact Nat.le_refl _⟩, ⟨(rR_ HO_5)⟩, ⟨(rR_ HO_6)⟩, ⟨(rR_ HO_7)⟩, ⟨(bb_ HB)⟩⟩
   case rest =>
    clear HC9
    try clear c1
    try clear p2
    try clear c6
    try clear c10
    try clear c10b0
    try clear c12
    try clear c12b0
    try clear p2
    obtain ⟨kq, x29_8, rfl, HA, HJ8, HO_5, HO_6, HO_7, HB⟩ := hcut
    cases kq with
    | zero => exact absurd HA.out (by simp [jK.j1])
    | succ kj8 =>
     have H := HA.out
     clear HA
     simp only [jK.j1] at H
     by_cases c17 : x29_8 = true
     ·
      subst c17
      have H1 : ((jc.f t387 x9_1).bind fun t396 => ((jc.f t390 x9_1).bind fun t397 => (if x7_1.length < 17592186044416 then (jK.l0 kj8 t387 t390 (x7_1 ++ [Int.tmod (IntKind.u64.wrap ((IntKind.u64.wrap (t396 + t397)) + x8_1)) 4294967296]) (IntKind.u64.wrap (Int.tdiv (IntKind.u64.wrap ((IntKind.u64.wrap (t396 + t397)) + x8_1)) 4294967296)) (wrap64 (x9_1 + 1))) else (none)))) = some r := by rw [if_pos rfl] at H; exact H
      clear H
      have H := H1
      clear H1
      replace H := ob_ H
      obtain ⟨t396, A180, H⟩ := H
      try dsimp only at H
      have A18 := jA.mk A180
      clear A180
      replace H := ob_ H
      obtain ⟨t397, A190, H⟩ := H
      try dsimp only at H
      have A19 := jA.mk A190
      clear A190
      obtain ⟨ji20, hji20⟩ : ∃ j_ : Int, (Int.tmod (IntKind.u64.wrap ((IntKind.u64.wrap (t396 + t397)) + x8_1)) 4294967296) = j_ := ⟨_, rfl⟩
      replace H : (if x7_1.length < 17592186044416 then (jK.l0 kj8 t387 t390 (x7_1 ++ [ji20]) (IntKind.u64.wrap (Int.tdiv (IntKind.u64.wrap ((IntKind.u64.wrap (t396 + t397)) + x8_1)) 4294967296)) (wrap64 (x9_1 + 1))) else (none)) = some r := by first | (rw [hji20] at H; exact H) | (simp only [hji20] at H ⊢; exact H)
      (try rw [hji20] at A18)
      (try rw [hji20] at A19)
      by_cases c21 : x7_1.length < 17592186044416
      ·
       rw [if_pos c21] at H
       have LMc21 := jA.mk c21
       clear c21
       obtain ⟨y398, hy398⟩ : ∃ y_ : List Int, y_ = (x7_1 ++ [ji20]) := ⟨_, rfl⟩
       replace H : (jK.l0 kj8 t387 t390 y398 (IntKind.u64.wrap (Int.tdiv (IntKind.u64.wrap ((IntKind.u64.wrap (t396 + t397)) + x8_1)) 4294967296)) (wrap64 (x9_1 + 1))) = some r := by first | (rw [hy398]; with_reducible exact H) | (have H2_ := (Option.bind_some _ _).symm.trans H; rw [hy398]; with_reducible exact H2_) | (with_reducible exact hs_ H) | with_reducible exact H | (rw [hy398]; exact H) | exact H
       have Ny398 := jA.mk hy398
       clear hy398
       have H' := jA.mk H
       clear H
       obtain ⟨Ao22, co22, eo22⟩ := Kd.jr HO_5.out
       subst eo22
       go_wp2_with (first | ((with_reducible refine jF (f := 69) rfl ?_); refine jg (some 34) rfl rfl Try.func69 kr_ rfl #[.slice Ao22 t387.length co22, .int .i64 x9_1] rfl mt_ ?_; (with_reducible refine (jc.calls _ _ t387 x9_1 t396 _ ?side1 ?side2 A18.out).mono ?_); (case side1 => exact cc_ (Kd.jH HO_5.out).2.2); (case side2 => exact (Kd.jH HO_5.out).2.1); rintro e w' ⟨rfl, ⟨nd, rfl⟩⟩; refine ⟨_, rfl, ?_⟩; obtain ⟨Ao23, co23, eo23⟩ := Kd.jr HO_6.out; subst eo23) | ((with_reducible refine jF (f := 69) rfl ?_); refine jg (some 37) rfl rfl Try.func69 kr_ rfl #[.slice Ao23 t390.length co23, .int .i64 x9_1] rfl mt_ ?_; (with_reducible refine (jc.calls _ _ t390 x9_1 t397 _ ?side1 ?side2 A19.out).mono ?_); (case side1 => exact cc_ (Kd.jH HO_6.out).2.2); (case side2 => exact (Kd.jH HO_6.out).2.1); rintro e w' ⟨rfl, ⟨nd, rfl⟩⟩; refine ⟨_, rfl, ?_⟩) | ((with_reducible refine vV (b := .append) (xs := #[.tmp 41, .tmp 44]) rfl ?_); (try (refine jv (by rfl) ?_; dsimp only)); at_builtin; refine Kd.qJ (Kd.int .u64) (w0 := w) w.heap.size rfl (.tmp 41) (.tmp 44) 35 22 (.int .u64 0) 8 rfl Try.underlying35 zx rfl (by decide) (by omega) u7 x7_1 ji20 [.int .u64 ji20] (fun k_ => some k_ ≠ (.slice Ao22 t387.length co22 : Value).ownBlock ∧ some k_ ≠ (.slice Ao23 t390.length co23 : Value).ownBlock) (fun _ => False) rfl rfl ?aP (fun _ hk => hk.elim) ?aF ?aO ?aB ?aS ?aL ?_; (case aP => exact rfl); (case aB => exact (bb_ HB)); (case aF => exact (fun k_ hk => ⟨Kd.fresh' (Kd.R_lt (rR_ HO_5)) k_ hk, Kd.fresh' (Kd.R_lt (rR_ HO_6)) k_ hk⟩)); (case aO => exact (rR_ HO_7)); (case aS => exact (jB (bb_ HB))); (case aL => have := LMc21.out; omega); intro v399 w24 ho hb hg hat; rw [← Ny398.out] at ho; replace HO_5 := jA.mk (Kd.vw (ok := (fun k_ => some k_ ≠ (.slice Ao23 t390.length co23 : Value).ownBlock)) (rR_ HO_5) hg hat); replace HO_6 := jA.mk (Kd.vw (ok := (fun k_ => some k_ ≠ (.slice Ao22 t387.length co22 : Value).ownBlock)) (rR_ HO_6) hg hat); replace HB := jA.mk (hb); have HO400 := jA.mk (ho); clear HO_7 ho hb hg hat))
       go_roundg kj8
       case measure => have := HK1.out; have := HJ8.out; omega
       case rel => exact ⟨(y398), (IntKind.u64.wrap (Int.tdiv (IntKind.u64.wrap ((IntKind.u64.wrap (t396 + t397)) + x8_1)) 4294967296)), (wrap64 (x9_1 + 1)), sd_, sd_, H', ⟨by have := HK1.out; have := HJ8.out; omega⟩, ⟨(rR_ HO_5)⟩, ⟨(rR_ HO_6)⟩, ⟨(rR_ HO400)⟩, ⟨(bb_ HB)⟩⟩
      ·
       rw [if_neg c21] at H
       exact absurd H (by simp)
     ·
      replace c17 := Bool.eq_false_iff.mpr c17
      subst c17
      have H1 : ((jI.f kj8 x7_1).bind fun t401 => (some t401)) = some r := by rw [if_neg (show ¬ (false = true) by decide)] at H; exact H
      clear H
      have H := H1
      clear H1
      replace H := ob_ H
      obtain ⟨t401, A250, H⟩ := H
      replace H : (some t401) = some r := H
      have A25 := jA.mk A250
      clear A250
      obtain rfl := Option.some.inj H
      obtain ⟨Ao26, co26, eo26⟩ := Kd.jr HO_7.out
      subst eo26
      go_wp2_with (first | ((with_reducible refine jF (f := 70) rfl ?_); refine jg (some 49) rfl rfl Try.func70 kr_ rfl #[.slice Ao26 x7_1.length co26] rfl mt_ ?_; (with_reducible refine (jI.calls kj8 _ _ x7_1 t401 _ ?side1 ?side2 A25.out).mono ?_); (case side1 => exact cc_ (Kd.jH HO_7.out).2.2); (case side2 => exact (Kd.jH HO_7.out).2.1); rintro e w27 ⟨v402, rfl, ho0, hb⟩; refine ⟨_, rfl, ?_⟩; have HO403 := jA.mk (Kd.jZ (Kd.jS (Kd.jS (Kd.jS ho0 (Kd.R_lt (rR_ HO_5))) (Kd.R_lt (rR_ HO_6))) (Kd.R_lt (rR_ HO_7))) (jB (bb_ HB))); replace HO_5 := re_ HO_5 ho0 hb; replace HO_6 := re_ HO_6 ho0 hb; replace HO_7 := re_ HO_7 ho0 hb; replace HB := bs_ HB hb))
      go_ret
      exact ⟨_, ew_, by refine pR_ ?_; exact Kd.jl HO403.out (fun _ hk => trivial), (bb_ HB)⟩

/-! ### jM: function 103 -/
def jM.l0 : Nat → List Int → List Int → Int → Option (Int)
 | 0, _, _, _ => none
 | k + 1, x0, x1, x5 => if x5 ≥ 0 then ((jc.f x0 x5).bind fun t404 => ((jc.f x1 x5).bind fun t405 => (if t404 < t405 then (some (-1)) else ((jc.f x0 x5).bind fun t406 => ((jc.f x1 x5).bind fun t407 => (if t406 > t407 then (some 1) else (jM.l0 k x0 x1 (wrap64 (x5 - 1))))))))) else (some 0)
def jM.f (k : Nat) (l0 : List Int) (l1 : List Int) : Option (Int) := jM.l0 k l0 l1 (wrap64 ((mx (l0.length : Int) (l1.length : Int)) - 1))
theorem jM.vJ : ∀ k, (∀ y0 y1 y2, LeO (jM.l0 k y0 y1 y2) (jM.l0 (k + 1) y0 y1 y2))
 | 0 => fun _ _ _ r h => by simp [jM.l0] at h
 | k + 1 => by
  have ih0 := jM.vJ k
  ·
   intro y0 y1 y2
   unfold jM.l0
   repeat' first
   | (with_reducible exact ih0 _ _ _)
   | (with_reducible exact LeO.refl _)
   | (with_reducible exact LeO.none _)
   | (with_reducible refine LeO.ite ?_ ?_)
   | (with_reducible refine LeO.bind ?_ (fun _ => ?_))
theorem jM.mono : ∀ a0 a1 k, LeO (jM.f k a0 a1) (jM.f (k + 1) a0 a1) := by
 intro a0 a1 k
 have ih0 := jM.vJ k
 unfold jM.f
 repeat' first
   | (with_reducible exact ih0 _ _ _)
   | (with_reducible exact LeO.refl _)
   | (with_reducible exact LeO.none _)
   | (with_reducible refine LeO.ite ?_ ?_)
   | (with_reducible refine LeO.bind ?_ (fun _ => ?_))
theorem jM.calls (k : Nat) (A0 : Option Addr) (c0 : Nat) (l0 : List Int) (A1 : Option Addr) (c1 : Nat) (l1 : List Int) (r : Int) (w : World) (hr0 : Kd.C (Kd.int .u64) w A0 l0.length l0) (hc0 : l0.length ≤ c0) (hr1 : Kd.C (Kd.int .u64) w A1 l1.length l1) (hc1 : l1.length ≤ c1) (h : jM.f k l0 l1 = some r) :
  Calls Try.prog 103 #[.slice A0 l0.length c0, .slice A1 l1.length c1] w fun e w' => e = .returned (.int .i64 r) ∧ Below w.heap.size w w' := by
 have HR0 := jA.mk hr0
 have HC0 := jA.mk hc0
 clear hr0 hc0
 have HR1 := jA.mk hr1
 have HC1 := jA.mk hc1
 clear hr1 hc1
 have HB := jA.mk (Below.refl w.heap.size w)
 have H : (jM.l0 k l0 l1 (wrap64 ((mx (l0.length : Int) (l1.length : Int)) - 1))) = some r := h
 clear h
 obtain ⟨ji3, hji3⟩ : ∃ j_ : Int, (mx (l0.length : Int) (l1.length : Int)) = j_ := ⟨_, rfl⟩
 replace H : (jM.l0 k l0 l1 (wrap64 ((ji3) - 1))) = some r := by first | (rw [hji3] at H; exact H) | (simp only [hji3] at H ⊢; exact H)
 (try (have hji3l : 0 ≤ ji3 := by (rw [← hji3]; unfold mx; (repeat' split) <;> omega)))
 (try (have hji3m : 0 ≤ ji3 := by omega))
 have hji3n : (if l0.length < l1.length then (l1.length : Int) else (l0.length : Int)) = ji3 := by rw [← hji3]; unfold mx; by_cases h_ : l0.length < l1.length <;> simp [h_]
 have hji3_ : (if (l0.length : Int) < (l1.length : Int) then (l1.length : Int) else (l0.length : Int)) = ji3 := hji3
 have H' := jA.mk H
 clear H
 go_enter Try.func103, Try.ntmps103
 go_wp2
 go_loopg [5] k (fun kq v5 w' => ∃ (x5_1 : Int), v5 = .int .i64 x5_1 ∧ jA (jM.l0 kq l0 l1 x5_1 = some r) ∧ jA (kq ≤ k) ∧ jA (Below w.heap.size w w'))
 case atStart => exact ⟨(wrap64 ((ji3) - 1)), (by first | rfl | (simp; done) | (simp only [← hji3] <;> (first | rfl | simp)) | (simp [*]; done)), H', ⟨Nat.le_refl _⟩, ⟨(bb_ HB)⟩⟩
 case round =>
  clear H'
  try clear c1
  try clear p2
  obtain ⟨x5_1, rfl, HA, HK1, HB⟩ := hrel
  cases gk with
  | zero => exact absurd HA.out (by simp [jM.l0])
  | succ k1 =>
   have H := HA.out
   clear HA
   simp only [jM.l0] at H
   by_cases c4 : x5_1 ≥ 0
   ·
    rw [if_pos c4] at H
    have c4b0 := decide_eq_true c4
    clear c4
    replace H := ob_ H
    obtain ⟨t404, A50, H⟩ := H
    try dsimp only at H
    have A5 := jA.mk A50
    clear A50
    replace H := ob_ H
    obtain ⟨t405, A60, H⟩ := H
    try dsimp only at H
    have A6 := jA.mk A60
    clear A60
    by_cases c7 : t404 < t405
    ·
     rw [if_pos c7] at H
     have c7b0 := decide_eq_true c7
     clear c7
     obtain rfl := Option.some.inj H
     go_wp2_with (first | ((with_reducible refine jF (f := 69) rfl ?_); refine jg (some 18) rfl rfl Try.func69 kr_ rfl #[.slice A0 l0.length c0, .int .i64 x5_1] rfl mt_ ?_; (with_reducible refine (jc.calls _ _ l0 x5_1 t404 _ ?side1 ?side2 A5.out).mono ?_); (case side1 => exact cc_ (Kd.jW HR0.out HB.out)); (case side2 => exact HC0.out); rintro e w' ⟨rfl, ⟨nd, rfl⟩⟩; refine ⟨_, rfl, ?_⟩) | ((with_reducible refine jF (f := 69) rfl ?_); refine jg (some 21) rfl rfl Try.func69 kr_ rfl #[.slice A1 l1.length c1, .int .i64 x5_1] rfl mt_ ?_; (with_reducible refine (jc.calls _ _ l1 x5_1 t405 _ ?side1 ?side2 A6.out).mono ?_); (case side1 => repeat (first | exact (Kd.jW HR1.out (bb_ HB)) | (with_reducible refine Kd.zU ?_ _) | (with_reducible refine Kd.zm ?_ _) | (with_reducible refine Kd.qL ?_))); (case side2 => exact HC1.out); rintro e w' ⟨rfl, ⟨nd, rfl⟩⟩; refine ⟨_, rfl, ?_⟩))
     go_ret
     exact ⟨by first | rfl | (simp [vM, vL] <;> rfl) | (simp only [← hji3]; first | rfl | (simp [vM, vL] <;> rfl)) | (simp [*, vM, vL] <;> rfl), (bb_ HB)⟩
    ·
     rw [if_neg c7] at H
     have c7b0 := decide_eq_false c7
     clear c7
     replace H := ob_ H
     obtain ⟨t406, A80, H⟩ := H
     try dsimp only at H
     have A8 := jA.mk A80
     clear A80
     replace H := ob_ H
     obtain ⟨t407, A90, H⟩ := H
     try dsimp only at H
     have A9 := jA.mk A90
     clear A90
     by_cases c10 : t406 > t407
     ·
      rw [if_pos c10] at H
      have c10b0 := decide_eq_true c10
      clear c10
      obtain rfl := Option.some.inj H
      go_wp2_with (first | ((with_reducible refine jF (f := 69) rfl ?_); refine jg (some 18) rfl rfl Try.func69 kr_ rfl #[.slice A0 l0.length c0, .int .i64 x5_1] rfl mt_ ?_; (with_reducible refine (jc.calls _ _ l0 x5_1 t404 _ ?side1 ?side2 A5.out).mono ?_); (case side1 => exact cc_ (Kd.jW HR0.out HB.out)); (case side2 => exact HC0.out); rintro e w' ⟨rfl, ⟨nd, rfl⟩⟩; refine ⟨_, rfl, ?_⟩) | ((with_reducible refine jF (f := 69) rfl ?_); refine jg (some 21) rfl rfl Try.func69 kr_ rfl #[.slice A1 l1.length c1, .int .i64 x5_1] rfl mt_ ?_; (with_reducible refine (jc.calls _ _ l1 x5_1 t405 _ ?side1 ?side2 A6.out).mono ?_); (case side1 => repeat (first | exact (Kd.jW HR1.out (bb_ HB)) | (with_reducible refine Kd.zU ?_ _) | (with_reducible refine Kd.zm ?_ _) | (with_reducible refine Kd.qL ?_))); (case side2 => exact HC1.out); rintro e w' ⟨rfl, ⟨nd, rfl⟩⟩; refine ⟨_, rfl, ?_⟩) | ((with_reducible refine jF (f := 69) rfl ?_); refine jg (some 25) rfl rfl Try.func69 kr_ rfl #[.slice A0 l0.length c0, .int .i64 x5_1] rfl mt_ ?_; (with_reducible refine (jc.calls _ _ l0 x5_1 t406 _ ?side1 ?side2 A8.out).mono ?_); (case side1 => repeat (first | exact (Kd.jW HR0.out (bb_ HB)) | (with_reducible refine Kd.zU ?_ _) | (with_reducible refine Kd.zm ?_ _) | (with_reducible refine Kd.qL ?_))); (case side2 => exact HC0.out); rintro e w' ⟨rfl, ⟨nd, rfl⟩⟩; refine ⟨_, rfl, ?_⟩) | ((with_reducible refine jF (f := 69) rfl ?_); refine jg (some 28) rfl rfl Try.func69 kr_ rfl #[.slice A1 l1.length c1, .int .i64 x5_1] rfl mt_ ?_; (with_reducible refine (jc.calls _ _ l1 x5_1 t407 _ ?side1 ?side2 A9.out).mono ?_); (case side1 => repeat (first | exact (Kd.jW HR1.out (bb_ HB)) | (with_reducible refine Kd.zU ?_ _) | (with_reducible refine Kd.zm ?_ _) | (with_reducible refine Kd.qL ?_))); (case side2 => exact HC1.out); rintro e w' ⟨rfl, ⟨nd, rfl⟩⟩; refine ⟨_, rfl, ?_⟩))
      go_ret
      exact ⟨by first | rfl | (simp [vM, vL] <;> rfl) | (simp only [← hji3]; first | rfl | (simp [vM, vL] <;> rfl)) | (simp [*, vM, vL] <;> rfl), (bb_ HB)⟩
     ·
      rw [if_neg c10] at H
      have c10b0 := decide_eq_false c10
      clear c10
      have H' := jA.mk H
      clear H
      go_wp2_with (first | ((with_reducible refine jF (f := 69) rfl ?_); refine jg (some 18) rfl rfl Try.func69 kr_ rfl #[.slice A0 l0.length c0, .int .i64 x5_1] rfl mt_ ?_; (with_reducible refine (jc.calls _ _ l0 x5_1 t404 _ ?side1 ?side2 A5.out).mono ?_); (case side1 => exact cc_ (Kd.jW HR0.out HB.out)); (case side2 => exact HC0.out); rintro e w' ⟨rfl, ⟨nd, rfl⟩⟩; refine ⟨_, rfl, ?_⟩) | ((with_reducible refine jF (f := 69) rfl ?_); refine jg (some 21) rfl rfl Try.func69 kr_ rfl #[.slice A1 l1.length c1, .int .i64 x5_1] rfl mt_ ?_; (with_reducible refine (jc.calls _ _ l1 x5_1 t405 _ ?side1 ?side2 A6.out).mono ?_); (case side1 => repeat (first | exact (Kd.jW HR1.out (bb_ HB)) | (with_reducible refine Kd.zU ?_ _) | (with_reducible refine Kd.zm ?_ _) | (with_reducible refine Kd.qL ?_))); (case side2 => exact HC1.out); rintro e w' ⟨rfl, ⟨nd, rfl⟩⟩; refine ⟨_, rfl, ?_⟩) | ((with_reducible refine jF (f := 69) rfl ?_); refine jg (some 25) rfl rfl Try.func69 kr_ rfl #[.slice A0 l0.length c0, .int .i64 x5_1] rfl mt_ ?_; (with_reducible refine (jc.calls _ _ l0 x5_1 t406 _ ?side1 ?side2 A8.out).mono ?_); (case side1 => repeat (first | exact (Kd.jW HR0.out (bb_ HB)) | (with_reducible refine Kd.zU ?_ _) | (with_reducible refine Kd.zm ?_ _) | (with_reducible refine Kd.qL ?_))); (case side2 => exact HC0.out); rintro e w' ⟨rfl, ⟨nd, rfl⟩⟩; refine ⟨_, rfl, ?_⟩) | ((with_reducible refine jF (f := 69) rfl ?_); refine jg (some 28) rfl rfl Try.func69 kr_ rfl #[.slice A1 l1.length c1, .int .i64 x5_1] rfl mt_ ?_; (with_reducible refine (jc.calls _ _ l1 x5_1 t407 _ ?side1 ?side2 A9.out).mono ?_); (case side1 => repeat (first | exact (Kd.jW HR1.out (bb_ HB)) | (with_reducible refine Kd.zU ?_ _) | (with_reducible refine Kd.zm ?_ _) | (with_reducible refine Kd.qL ?_))); (case side2 => exact HC1.out); rintro e w' ⟨rfl, ⟨nd, rfl⟩⟩; refine ⟨_, rfl, ?_⟩))
      go_roundg k1
      case measure => have := HK1.out; omega
      case rel => exact ⟨(wrap64 (x5_1 - 1)), sd_, H', ⟨by have := HK1.out; omega⟩, ⟨(bb_ HB)⟩⟩
   ·
    rw [if_neg c4] at H
    have c4b0 := decide_eq_false c4
    clear c4
    obtain rfl := Option.some.inj H
    go_wp2
    go_ret
    exact ⟨by first | rfl | (simp [vM, vL] <;> rfl) | (simp only [← hji3]; first | rfl | (simp [vM, vL] <;> rfl)) | (simp [*, vM, vL] <;> rfl), (bb_ HB)⟩

/-! ### jU: function 104 -/
def jU.l0 : Nat → List Int → List Int → Int → Int → Option (Int)
 | 0, _, _, _, _ => none
 | k + 1, x0, x1, x5, x6 => if (IntKind.u64.wrap (x6 - x5)) > 1 then ((jE.f k x1 (([IntKind.u64.wrap (Int.tdiv (IntKind.u64.wrap (x5 + x6)) 2)] : List Int))).bind fun t411 => ((jM.f k t411 x0).bind fun t414 => (if t414 ≤ 0 then (jU.l0 k x0 x1 (IntKind.u64.wrap (Int.tdiv (IntKind.u64.wrap (x5 + x6)) 2)) x6) else (jU.l0 k x0 x1 x5 (IntKind.u64.wrap (Int.tdiv (IntKind.u64.wrap (x5 + x6)) 2)))))) else (some x5)
def jU.f (k : Nat) (l0 : List Int) (l1 : List Int) : Option (Int) := jU.l0 k l0 l1 0 4294967296
theorem jU.vJ : ∀ k, (∀ y0 y1 y2 y3, LeO (jU.l0 k y0 y1 y2 y3) (jU.l0 (k + 1) y0 y1 y2 y3))
 | 0 => fun _ _ _ _ r h => by simp [jU.l0] at h
 | k + 1 => by
  have ih0 := jU.vJ k
  ·
   intro y0 y1 y2 y3
   unfold jU.l0
   repeat' first
   | (with_reducible exact ih0 _ _ _ _)
   | (with_reducible exact jM.mono _ _ _)
   | (with_reducible exact jE.mono _ _ _)
   | (with_reducible exact LeO.refl _)
   | (with_reducible exact LeO.none _)
   | (with_reducible refine LeO.ite ?_ ?_)
   | (with_reducible refine LeO.bind ?_ (fun _ => ?_))
theorem jU.mono : ∀ a0 a1 k, LeO (jU.f k a0 a1) (jU.f (k + 1) a0 a1) := by
 intro a0 a1 k
 have ih0 := jU.vJ k
 unfold jU.f
 repeat' first
   | (with_reducible exact ih0 _ _ _ _)
   | (with_reducible exact jM.mono _ _ _)
   | (with_reducible exact jE.mono _ _ _)
   | (with_reducible exact LeO.refl _)
   | (with_reducible exact LeO.none _)
   | (with_reducible refine LeO.ite ?_ ?_)
   | (with_reducible refine LeO.bind ?_ (fun _ => ?_))
theorem jU.calls (k : Nat) (A0 : Option Addr) (c0 : Nat) (l0 : List Int) (A1 : Option Addr) (c1 : Nat) (l1 : List Int) (r : Int) (w : World) (hr0 : Kd.C (Kd.int .u64) w A0 l0.length l0) (hc0 : l0.length ≤ c0) (hr1 : Kd.C (Kd.int .u64) w A1 l1.length l1) (hc1 : l1.length ≤ c1) (h : jU.f k l0 l1 = some r) :
  Calls Try.prog 104 #[.slice A0 l0.length c0, .slice A1 l1.length c1] w fun e w' => e = .returned (.int .u64 r) ∧ Below w.heap.size w w' := by
 have HR0 := jA.mk hr0
 have HC0 := jA.mk hc0
 clear hr0 hc0
 have HR1 := jA.mk hr1
 have HC1 := jA.mk hc1
 clear hr1 hc1
 have HB := jA.mk (Below.refl w.heap.size w)
 have H : (jU.l0 k l0 l1 0 4294967296) = some r := h
 clear h
 have H' := jA.mk H
 clear H
 go_enter Try.func104, Try.ntmps104
 go_wp2
 go_loopg [5, 6] k (fun kq v5 v6 w' => ∃ (x5_1 : Int) (x6_1 : Int), v5 = .int .u64 x5_1 ∧ v6 = .int .u64 x6_1 ∧ jA (jU.l0 kq l0 l1 x5_1 x6_1 = some r) ∧ jA (kq ≤ k) ∧ jA (Below w.heap.size w w'))
 case atStart => exact ⟨(0), (4294967296), sd_, sd_, H', ⟨Nat.le_refl _⟩, ⟨(bb_ HB)⟩⟩
 case round =>
  clear H'
  try clear c1
  try clear p2
  obtain ⟨x5_1, x6_1, rfl, rfl, HA, HK1, HB⟩ := hrel
  cases gk with
  | zero => exact absurd HA.out (by simp [jU.l0])
  | succ k1 =>
   have H := HA.out
   clear HA
   simp only [jU.l0] at H
   by_cases c3 : (IntKind.u64.wrap (x6_1 - x5_1)) > 1
   ·
    rw [if_pos c3] at H
    have c3b0 := decide_eq_true c3
    clear c3
    obtain ⟨y408, hy408⟩ : ∃ y_ : List Int, y_ = (([IntKind.u64.wrap (Int.tdiv (IntKind.u64.wrap (x5_1 + x6_1)) 2)] : List Int)) := ⟨_, rfl⟩
    replace H : ((jE.f k1 l1 y408).bind fun t411 => ((jM.f k1 t411 l0).bind fun t414 => (if t414 ≤ 0 then (jU.l0 k1 l0 l1 (IntKind.u64.wrap (Int.tdiv (IntKind.u64.wrap (x5_1 + x6_1)) 2)) x6_1) else (jU.l0 k1 l0 l1 x5_1 (IntKind.u64.wrap (Int.tdiv (IntKind.u64.wrap (x5_1 + x6_1)) 2)))))) = some r := by first | (rw [hy408]; with_reducible exact H) | (have H2_ := (Option.bind_some _ _).symm.trans H; rw [hy408]; with_reducible exact H2_) | (with_reducible exact hs_ H) | with_reducible exact H | (rw [hy408]; exact H) | exact H
    have Ny408 := jA.mk hy408
    clear hy408
    replace H := ob_ H
    obtain ⟨t411, A40, H⟩ := H
    try dsimp only at H
    have A4 := jA.mk A40
    clear A40
    replace H := ob_ H
    obtain ⟨t414, A50, H⟩ := H
    try dsimp only at H
    have A5 := jA.mk A50
    clear A50
    by_cases c6 : t414 ≤ 0
    ·
     rw [if_pos c6] at H
     have c6b0 := decide_eq_true c6
     clear c6
     have H' := jA.mk H
     clear H
     go_wp2_with (first | ((with_reducible refine jq (N := 18) rfl ?_); refine Kd.jAC (Kd.int .u64) _ 22 ?hg (N := 18) ?hd (xs := ([IntKind.u64.wrap (Int.tdiv (IntKind.u64.wrap (x5_1 + x6_1)) 2)] : List Int)) (inner := [.int .u64 (IntKind.u64.wrap (Int.tdiv (IntKind.u64.wrap (x5_1 + x6_1)) 2))]) (ok := fun _ => True) (okp := fun _ => True) ?hr ?hp (fun _ hk => hk) trivial (Below.refl _ _) (Nat.le_refl _) (by simp) ?_; (case hd => rfl); (case hg => rfl); (case hr => exact gs_); (case hp => exact (Reps.one (show Kd.M (Kd.int .u64) _ _ _ (IntKind.u64.wrap (Int.tdiv (IntKind.u64.wrap (x5_1 + x6_1)) 2)) [.int .u64 (IntKind.u64.wrap (Int.tdiv (IntKind.u64.wrap (x5_1 + x6_1)) 2))] from rfl) (Reps.none _ _))); intro v409 w7 ho8 hb hg_ hnew_; clear hg_ hnew_; (first | rw [← Ny408.out] at ho8 | (simp only [Int.reduceToNat] at ho8; rw [← Ny408.out] at ho8)); have HO410 := jA.mk (Kd.jZ ho8 (jB (bb_ HB))); replace HB := bs_ HB hb; clear hb ho8; obtain ⟨Ao9, co9, eo9⟩ := Kd.jr HO410.out; subst eo9) | ((with_reducible refine jF (f := 23) rfl ?_); refine jg (some 19) rfl rfl Try.func23 kr_ rfl #[.slice A1 l1.length c1, .slice Ao9 y408.length co9] rfl mt_ ?_; (with_reducible refine (jE.calls k1 _ _ l1 _ _ y408 t411 _ ?side1 ?side2 ?side3 ?side4 A4.out).mono ?_); (case side1 => exact cc_ (Kd.jW HR1.out HB.out)); (case side2 => exact HC1.out); (case side3 => exact cc_ (Kd.jH HO410.out).2.2); (case side4 => exact (Kd.jH HO410.out).2.1); rintro e w10 ⟨v412, rfl, ho0, hb⟩; refine ⟨_, rfl, ?_⟩; have HO413 := jA.mk (Kd.jZ (Kd.jS ho0 (Kd.R_lt (rR_ HO410))) (jB (bb_ HB))); replace HO410 := re_ HO410 ho0 hb; replace HB := bs_ HB hb; obtain ⟨Ao11, co11, eo11⟩ := Kd.jr HO413.out; subst eo11) | ((with_reducible refine jF (f := 103) rfl ?_); refine jg (some 21) rfl rfl Try.func103 kr_ rfl #[.slice Ao11 t411.length co11, .slice A0 l0.length c0] rfl mt_ ?_; (with_reducible refine (jM.calls k1 _ _ t411 _ _ l0 t414 _ ?side1 ?side2 ?side3 ?side4 A5.out).mono ?_); (case side1 => exact cc_ (Kd.jH HO413.out).2.2); (case side2 => exact (Kd.jH HO413.out).2.1); (case side3 => exact cc_ (Kd.jW HR0.out HB.out)); (case side4 => exact HC0.out); rintro e w12 ⟨rfl, hb⟩; refine ⟨_, rfl, ?_⟩; replace HO410 := ro_ HO410 hb; replace HO413 := ro_ HO413 hb; replace HB := bs_ HB hb))
     go_roundg k1
     case measure => have := HK1.out; omega
     case rel => exact ⟨(IntKind.u64.wrap (Int.tdiv (IntKind.u64.wrap (x5_1 + x6_1)) 2)), (x6_1), sd_, sd_, H', ⟨by have := HK1.out; omega⟩, ⟨(bb_ HB)⟩⟩
    ·
     rw [if_neg c6] at H
     have c6b0 := decide_eq_false c6
     clear c6
     have H' := jA.mk H
     clear H
     go_wp2_with (first | ((with_reducible refine jq (N := 18) rfl ?_); refine Kd.jAC (Kd.int .u64) _ 22 ?hg (N := 18) ?hd (xs := ([IntKind.u64.wrap (Int.tdiv (IntKind.u64.wrap (x5_1 + x6_1)) 2)] : List Int)) (inner := [.int .u64 (IntKind.u64.wrap (Int.tdiv (IntKind.u64.wrap (x5_1 + x6_1)) 2))]) (ok := fun _ => True) (okp := fun _ => True) ?hr ?hp (fun _ hk => hk) trivial (Below.refl _ _) (Nat.le_refl _) (by simp) ?_; (case hd => rfl); (case hg => rfl); (case hr => exact gs_); (case hp => exact (Reps.one (show Kd.M (Kd.int .u64) _ _ _ (IntKind.u64.wrap (Int.tdiv (IntKind.u64.wrap (x5_1 + x6_1)) 2)) [.int .u64 (IntKind.u64.wrap (Int.tdiv (IntKind.u64.wrap (x5_1 + x6_1)) 2))] from rfl) (Reps.none _ _))); intro v409 w13 ho14 hb hg_ hnew_; clear hg_ hnew_; (first | rw [← Ny408.out] at ho14 | (simp only [Int.reduceToNat] at ho14; rw [← Ny408.out] at ho14)); have HO410 := jA.mk (Kd.jZ ho14 (jB (bb_ HB))); replace HB := bs_ HB hb; clear hb ho14; obtain ⟨Ao15, co15, eo15⟩ := Kd.jr HO410.out; subst eo15) | ((with_reducible refine jF (f := 23) rfl ?_); refine jg (some 19) rfl rfl Try.func23 kr_ rfl #[.slice A1 l1.length c1, .slice Ao15 y408.length co15] rfl mt_ ?_; (with_reducible refine (jE.calls k1 _ _ l1 _ _ y408 t411 _ ?side1 ?side2 ?side3 ?side4 A4.out).mono ?_); (case side1 => exact cc_ (Kd.jW HR1.out HB.out)); (case side2 => exact HC1.out); (case side3 => exact cc_ (Kd.jH HO410.out).2.2); (case side4 => exact (Kd.jH HO410.out).2.1); rintro e w16 ⟨v412, rfl, ho0, hb⟩; refine ⟨_, rfl, ?_⟩; have HO413 := jA.mk (Kd.jZ (Kd.jS ho0 (Kd.R_lt (rR_ HO410))) (jB (bb_ HB))); replace HO410 := re_ HO410 ho0 hb; replace HB := bs_ HB hb; obtain ⟨Ao17, co17, eo17⟩ := Kd.jr HO413.out; subst eo17) | ((with_reducible refine jF (f := 103) rfl ?_); refine jg (some 21) rfl rfl Try.func103 kr_ rfl #[.slice Ao17 t411.length co17, .slice A0 l0.length c0] rfl mt_ ?_; (with_reducible refine (jM.calls k1 _ _ t411 _ _ l0 t414 _ ?side1 ?side2 ?side3 ?side4 A5.out).mono ?_); (case side1 => exact cc_ (Kd.jH HO413.out).2.2); (case side2 => exact (Kd.jH HO413.out).2.1); (case side3 => exact cc_ (Kd.jW HR0.out HB.out)); (case side4 => exact HC0.out); rintro e w18 ⟨rfl, hb⟩; refine ⟨_, rfl, ?_⟩; replace HO410 := ro_ HO410 hb; replace HO413 := ro_ HO413 hb; replace HB := bs_ HB hb))
     go_roundg k1
     case measure => have := HK1.out; omega
     case rel => exact ⟨(x5_1), (IntKind.u64.wrap (Int.tdiv (IntKind.u64.wrap (x5_1 + x6_1)) 2)), sd_, sd_, H', ⟨by have := HK1.out; omega⟩, ⟨(bb_ HB)⟩⟩
   ·
    rw [if_neg c3] at H
    have c3b0 := decide_eq_false c3
    clear c3
    obtain rfl := Option.some.inj H
    go_wp2
    go_ret
    exact ⟨ew_, (bb_ HB)⟩

/-! ### jX: function 105 -/
def jX.l0 : Nat → List Int → List Int → List Int → Int → Int → Option (List Int × Bool)
 | 0, _, _, _, _, _ => none
 | k + 1, x6, x7, x8, x9, x10 => if x10 < (x6.length : Int) then (if 0 ≤ x10 then ((jc.f x7 x10).bind fun t426 => (if x8.length < 17592186044416 then (jX.l0 k x6 x7 (x8 ++ [Int.tmod (IntKind.u64.wrap ((IntKind.u64.wrap ((IntKind.u64.wrap ((rd x6 x10) + 4294967296)) - t426)) - x9)) 4294967296]) (IntKind.u64.wrap (1 - (IntKind.u64.wrap (Int.tdiv (IntKind.u64.wrap ((IntKind.u64.wrap ((IntKind.u64.wrap ((rd x6 x10) + 4294967296)) - t426)) - x9)) 4294967296)))) (wrap64 (x10 + 1))) else (none))) else (none)) else ((jI.f k x8).bind fun t430 => (some (t430, true)))
def jX.f (k : Nat) (l0 : List Int) (l1 : List Int) : Option (List Int × Bool) := (jM.f k l0 l1).bind fun t415 => (if t415 < 0 then (some (([] : List Int), false)) else ((jD.f k l0).bind fun t416 => ((jD.f k l1).bind fun t419 => (jX.l0 k t416 t419 (([] : List Int)) 0 0))))
theorem jX.vJ : ∀ k, (∀ y0 y1 y2 y3 y4, LeO (jX.l0 k y0 y1 y2 y3 y4) (jX.l0 (k + 1) y0 y1 y2 y3 y4))
 | 0 => fun _ _ _ _ _ r h => by simp [jX.l0] at h
 | k + 1 => by
  have ih0 := jX.vJ k
  ·
   intro y0 y1 y2 y3 y4
   unfold jX.l0
   repeat' first
   | (with_reducible exact ih0 _ _ _ _ _)
   | (with_reducible exact jM.mono _ _ _)
   | (with_reducible exact jD.mono _ _)
   | (with_reducible exact jI.mono _ _)
   | (with_reducible exact LeO.refl _)
   | (with_reducible exact LeO.none _)
   | (with_reducible refine LeO.ite ?_ ?_)
   | (with_reducible refine LeO.bind ?_ (fun _ => ?_))
theorem jX.mono : ∀ a0 a1 k, LeO (jX.f k a0 a1) (jX.f (k + 1) a0 a1) := by
 intro a0 a1 k
 have ih0 := jX.vJ k
 unfold jX.f
 repeat' first
   | (with_reducible exact ih0 _ _ _ _ _)
   | (with_reducible exact jM.mono _ _ _)
   | (with_reducible exact jD.mono _ _)
   | (with_reducible exact jI.mono _ _)
   | (with_reducible exact LeO.refl _)
   | (with_reducible exact LeO.none _)
   | (with_reducible refine LeO.ite ?_ ?_)
   | (with_reducible refine LeO.bind ?_ (fun _ => ?_))
theorem jX.calls (k : Nat) (A0 : Option Addr) (c0 : Nat) (l0 : List Int) (A1 : Option Addr) (c1 : Nat) (l1 : List Int) (r1 : List Int) (r2 : Bool) (w : World) (hr0 : Kd.C (Kd.int .u64) w A0 l0.length l0) (hc0 : l0.length ≤ c0) (hr1 : Kd.C (Kd.int .u64) w A1 l1.length l1) (hc1 : l1.length ≤ c1) (h : jX.f k l0 l1 = some (r1, r2)) :
  Calls Try.prog 105 #[.slice A0 l0.length c0, .slice A1 l1.length c1] w fun e w' => ∃ v0_ : Value, e = .returned (.tuple #[v0_, .bool r2]) ∧ Kd.R (Kd.int .u64) 22 w' w.heap.size (fun _ => True) v0_ r1 ∧ Below w.heap.size w w' := by
 have HR0 := jA.mk hr0
 have HC0 := jA.mk hc0
 clear hr0 hc0
 have HR1 := jA.mk hr1
 have HC1 := jA.mk hc1
 clear hr1 hc1
 have HB := jA.mk (Below.refl w.heap.size w)
 have H : ((jM.f k l0 l1).bind fun t415 => (if t415 < 0 then (some (([] : List Int), false)) else ((jD.f k l0).bind fun t416 => ((jD.f k l1).bind fun t419 => (jX.l0 k t416 t419 (([] : List Int)) 0 0))))) = some (r1, r2) := h
 clear h
 replace H := ob_ H
 obtain ⟨t415, A30, H⟩ := H
 try dsimp only at H
 have A3 := jA.mk A30
 clear A30
 by_cases c4 : t415 < 0
 ·
  rw [if_pos c4] at H
  have c4b0 := decide_eq_true c4
  clear c4
  simp only [Option.some.injEq, Prod.mk.injEq] at H
  obtain ⟨rfl, rfl⟩ := H
  go_enter Try.func105, Try.ntmps105
  go_wp2_with (first | (go_at_call 103; (with_reducible refine (jM.calls k _ _ l0 _ _ l1 t415 _ ?side1 ?side2 ?side3 ?side4 A3.out).mono ?_); (case side1 => exact cc_ HR0.out); (case side2 => exact HC0.out); (case side3 => exact cc_ HR1.out); (case side4 => exact HC1.out); rintro e w5 ⟨rfl, hb⟩; replace HB := bs_ HB hb))
  repeat (go_quiet (first | (go_at_call 103; (with_reducible refine (jM.calls k _ _ l0 _ _ l1 t415 _ ?side1 ?side2 ?side3 ?side4 A3.out).mono ?_); (case side1 => exact cc_ HR0.out); (case side2 => exact HC0.out); (case side3 => exact cc_ HR1.out); (case side4 => exact HC1.out); rintro e w5 ⟨rfl, hb⟩; replace HB := bs_ HB hb)); try go_wp2_with (first | (go_at_call 103; (with_reducible refine (jM.calls k _ _ l0 _ _ l1 t415 _ ?side1 ?side2 ?side3 ?side4 A3.out).mono ?_); (case side1 => exact cc_ HR0.out); (case side2 => exact HC0.out); (case side3 => exact cc_ HR1.out); (case side4 => exact HC1.out); rintro e w5 ⟨rfl, hb⟩; replace HB := bs_ HB hb)))
  go_ret2
  exact ⟨_, ew_, nl_, (bb_ HB)⟩
 ·
  rw [if_neg c4] at H
  have c4b0 := decide_eq_false c4
  clear c4
  replace H := ob_ H
  obtain ⟨t416, A60, H⟩ := H
  try dsimp only at H
  have A6 := jA.mk A60
  clear A60
  replace H := ob_ H
  obtain ⟨t419, A70, H⟩ := H
  try dsimp only at H
  have A7 := jA.mk A70
  clear A70
  obtain ⟨y422, hy422⟩ : ∃ y_ : List Int, y_ = (([] : List Int)) := ⟨_, rfl⟩
  replace H : (jX.l0 k t416 t419 y422 0 0) = some (r1, r2) := by first | (rw [hy422]; with_reducible exact H) | (have H2_ := (Option.bind_some _ _).symm.trans H; rw [hy422]; with_reducible exact H2_) | (with_reducible exact hs_ H) | with_reducible exact H | (rw [hy422]; exact H) | exact H
  have Ny422 := jA.mk hy422
  clear hy422
  have H' := jA.mk H
  clear H
  go_enter Try.func105, Try.ntmps105
  go_wp2_with (first | (go_at_call 103; (with_reducible refine (jM.calls k _ _ l0 _ _ l1 t415 _ ?side1 ?side2 ?side3 ?side4 A3.out).mono ?_); (case side1 => exact cc_ HR0.out); (case side2 => exact HC0.out); (case side3 => exact cc_ HR1.out); (case side4 => exact HC1.out); rintro e w8 ⟨rfl, hb⟩; replace HB := bs_ HB hb) | (go_at_call 68; (with_reducible refine (jD.calls k _ _ l0 t416 _ ?side1 ?side2 A6.out).mono ?_); (case side1 => exact cc_ (Kd.jW HR0.out HB.out)); (case side2 => exact HC0.out); rintro e w9 ⟨v417, rfl, ho0, hb⟩; have HO418 := jA.mk (Kd.jZ ho0 (jB (bb_ HB))); replace HB := bs_ HB hb) | (go_at_call 68; (with_reducible refine (jD.calls k _ _ l1 t419 _ ?side1 ?side2 A7.out).mono ?_); (case side1 => exact cc_ (Kd.jW HR1.out HB.out)); (case side2 => exact HC1.out); rintro e w10 ⟨v420, rfl, ho0, hb⟩; have HO421 := jA.mk (Kd.jZ (Kd.jS ho0 (Kd.R_lt (rR_ HO418))) (jB (bb_ HB))); replace HO418 := re_ HO418 ho0 hb; replace HB := bs_ HB hb) | ((with_reducible refine jq (N := 20) rfl ?_); refine Kd.jAC (Kd.int .u64) _ 22 ?hg (N := 20) ?hd (xs := ([] : List Int)) (inner := []) (ok := fun _ => True) (okp := fun _ => True) ?hr ?hp (fun _ hk => hk) trivial (Below.refl _ _) (Nat.le_refl _) (by simp) ?_; (case hd => rfl); (case hg => rfl); (case hr => exact gs_); (case hp => exact (Reps.none _ _)); intro v423 w11 ho12 hb hg_ hnew_; clear hg_ hnew_; (first | rw [← Ny422.out] at ho12 | (simp only [Int.reduceToNat] at ho12; rw [← Ny422.out] at ho12)); have HO424 := jA.mk (Kd.jZ (Kd.jS (Kd.jS ho12 (Kd.R_lt (rR_ HO418))) (Kd.R_lt (rR_ HO421))) (jB (bb_ HB))); replace HO418 := re_ HO418 ho12 hb; replace HO421 := re_ HO421 ho12 hb; replace HB := bs_ HB hb; clear hb ho12))
  repeat (go_quiet (first | (go_at_call 103; (with_reducible refine (jM.calls k _ _ l0 _ _ l1 t415 _ ?side1 ?side2 ?side3 ?side4 A3.out).mono ?_); (case side1 => exact cc_ HR0.out); (case side2 => exact HC0.out); (case side3 => exact cc_ HR1.out); (case side4 => exact HC1.out); rintro e w8 ⟨rfl, hb⟩; replace HB := bs_ HB hb) | (go_at_call 68; (with_reducible refine (jD.calls k _ _ l0 t416 _ ?side1 ?side2 A6.out).mono ?_); (case side1 => exact cc_ (Kd.jW HR0.out HB.out)); (case side2 => exact HC0.out); rintro e w9 ⟨v417, rfl, ho0, hb⟩; have HO418 := jA.mk (Kd.jZ ho0 (jB (bb_ HB))); replace HB := bs_ HB hb) | (go_at_call 68; (with_reducible refine (jD.calls k _ _ l1 t419 _ ?side1 ?side2 A7.out).mono ?_); (case side1 => exact cc_ (Kd.jW HR1.out HB.out)); (case side2 => exact HC1.out); rintro e w10 ⟨v420, rfl, ho0, hb⟩; have HO421 := jA.mk (Kd.jZ (Kd.jS ho0 (Kd.R_lt (rR_ HO418))) (jB (bb_ HB))); replace HO418 := re_ HO418 ho0 hb; replace HB := bs_ HB hb) | ((with_reducible refine jq (N := 20) rfl ?_); refine Kd.jAC (Kd.int .u64) _ 22 ?hg (N := 20) ?hd (xs := ([] : List Int)) (inner := []) (ok := fun _ => True) (okp := fun _ => True) ?hr ?hp (fun _ hk => hk) trivial (Below.refl _ _) (Nat.le_refl _) (by simp) ?_; (case hd => rfl); (case hg => rfl); (case hr => exact gs_); (case hp => exact (Reps.none _ _)); intro v423 w11 ho12 hb hg_ hnew_; clear hg_ hnew_; (first | rw [← Ny422.out] at ho12 | (simp only [Int.reduceToNat] at ho12; rw [← Ny422.out] at ho12)); have HO424 := jA.mk (Kd.jZ (Kd.jS (Kd.jS ho12 (Kd.R_lt (rR_ HO418))) (Kd.R_lt (rR_ HO421))) (jB (bb_ HB))); replace HO418 := re_ HO418 ho12 hb; replace HO421 := re_ HO421 ho12 hb; replace HB := bs_ HB hb; clear hb ho12)); try go_wp2_with (first | (go_at_call 103; (with_reducible refine (jM.calls k _ _ l0 _ _ l1 t415 _ ?side1 ?side2 ?side3 ?side4 A3.out).mono ?_); (case side1 => exact cc_ HR0.out); (case side2 => exact HC0.out); (case side3 => exact cc_ HR1.out); (case side4 => exact HC1.out); rintro e w8 ⟨rfl, hb⟩; replace HB := bs_ HB hb) | (go_at_call 68; (with_reducible refine (jD.calls k _ _ l0 t416 _ ?side1 ?side2 A6.out).mono ?_); (case side1 => exact cc_ (Kd.jW HR0.out HB.out)); (case side2 => exact HC0.out); rintro e w9 ⟨v417, rfl, ho0, hb⟩; have HO418 := jA.mk (Kd.jZ ho0 (jB (bb_ HB))); replace HB := bs_ HB hb) | (go_at_call 68; (with_reducible refine (jD.calls k _ _ l1 t419 _ ?side1 ?side2 A7.out).mono ?_); (case side1 => exact cc_ (Kd.jW HR1.out HB.out)); (case side2 => exact HC1.out); rintro e w10 ⟨v420, rfl, ho0, hb⟩; have HO421 := jA.mk (Kd.jZ (Kd.jS ho0 (Kd.R_lt (rR_ HO418))) (jB (bb_ HB))); replace HO418 := re_ HO418 ho0 hb; replace HB := bs_ HB hb) | ((with_reducible refine jq (N := 20) rfl ?_); refine Kd.jAC (Kd.int .u64) _ 22 ?hg (N := 20) ?hd (xs := ([] : List Int)) (inner := []) (ok := fun _ => True) (okp := fun _ => True) ?hr ?hp (fun _ hk => hk) trivial (Below.refl _ _) (Nat.le_refl _) (by simp) ?_; (case hd => rfl); (case hg => rfl); (case hr => exact gs_); (case hp => exact (Reps.none _ _)); intro v423 w11 ho12 hb hg_ hnew_; clear hg_ hnew_; (first | rw [← Ny422.out] at ho12 | (simp only [Int.reduceToNat] at ho12; rw [← Ny422.out] at ho12)); have HO424 := jA.mk (Kd.jZ (Kd.jS (Kd.jS ho12 (Kd.R_lt (rR_ HO418))) (Kd.R_lt (rR_ HO421))) (jB (bb_ HB))); replace HO418 := re_ HO418 ho12 hb; replace HO421 := re_ HO421 ho12 hb; replace HB := bs_ HB hb; clear hb ho12)))
  go_loopg [8, 9, 10] k (fun kq v8 v9 v10 w' => ∃ (x8_1 : List Int) (x9_1 : Int) (x10_1 : Int), v9 = .int .u64 x9_1 ∧ v10 = .int .i64 x10_1 ∧ jA (jX.l0 kq t416 t419 x8_1 x9_1 x10_1 = some (r1, r2)) ∧ jA (kq ≤ k) ∧ jA (Kd.R (Kd.int .u64) 22 w' w.heap.size (fun k_ => some k_ ≠ (v420 : Value).ownBlock ∧ some k_ ≠ (v8 : Value).ownBlock) v417 t416) ∧ jA (Kd.R (Kd.int .u64) 22 w' w.heap.size (fun k_ => some k_ ≠ (v417 : Value).ownBlock ∧ some k_ ≠ (v8 : Value).ownBlock) v420 t419) ∧ jA (Kd.R (Kd.int .u64) 22 w' w.heap.size (fun k_ => some k_ ≠ (v417 : Value).ownBlock ∧ some k_ ≠ (v420 : Value).ownBlock) v8 x8_1) ∧ jA (Below w.heap.size w w'))
  case atStart => exact ⟨(y422), (0), (0), sd_, sd_, H', ⟨Nat.le_refl _⟩, ⟨by (with_reducible repeat (first | apply Kd.vv | apply Kd.zG | apply Kd.zK)); exact Kd.jl HO418.out (fun _ hk => ⟨hk.1.2, hk.2⟩)⟩, ⟨by (with_reducible repeat (first | apply Kd.vv | apply Kd.zG | apply Kd.zK)); exact Kd.jl HO421.out (fun _ hk => ⟨hk.1.2, hk.2⟩)⟩, ⟨by (with_reducible repeat (first | apply Kd.vv | apply Kd.zG | apply Kd.zK)); exact Kd.jl HO424.out (fun _ hk => ⟨hk.1.2, hk.2⟩)⟩, ⟨(bb_ HB)⟩⟩
  case round =>
   clear H'
   try clear c1
   try clear p2
   try clear c4
   try clear c4b0
   try clear c10
   obtain ⟨x8_1, x9_1, x10_1, rfl, rfl, HA, HK1, HO_6, HO_7, HO_8, HB⟩ := hrel
   cases gk with
   | zero => exact absurd HA.out (by simp [jX.l0])
   | succ k1 =>
    have H := HA.out
    clear HA
    simp only [jX.l0] at H
    by_cases c13 : x10_1 < (t416.length : Int)
    ·
     rw [if_pos c13] at H
     have c13b0 := decide_eq_true c13
     clear c13
     by_cases c14 : 0 ≤ x10_1
     ·
      rw [if_pos c14] at H
      have c14b0 := decide_eq_true c14
      clear c14
      replace H := ob_ H
      obtain ⟨t426, A150, H⟩ := H
      try dsimp only at H
      have A15 := jA.mk A150
      clear A150
      obtain ⟨ji16, hji16⟩ : ∃ j_ : Int, (Int.tmod (IntKind.u64.wrap ((IntKind.u64.wrap ((IntKind.u64.wrap ((rd t416 x10_1) + 4294967296)) - t426)) - x9_1)) 4294967296) = j_ := ⟨_, rfl⟩
      replace H : (if x8_1.length < 17592186044416 then (jX.l0 k1 t416 t419 (x8_1 ++ [ji16]) (IntKind.u64.wrap (1 - (IntKind.u64.wrap (Int.tdiv (IntKind.u64.wrap ((IntKind.u64.wrap ((IntKind.u64.wrap ((rd t416 x10_1) + 4294967296)) - t426)) - x9_1)) 4294967296)))) (wrap64 (x10_1 + 1))) else (none)) = some (r1, r2) := by first | (rw [hji16] at H; exact H) | (simp only [hji16] at H ⊢; exact H)
      (try rw [hji16] at A15)
      by_cases c17 : x8_1.length < 17592186044416
      ·
       rw [if_pos c17] at H
       have LMc17 := jA.mk c17
       clear c17
       obtain ⟨y427, hy427⟩ : ∃ y_ : List Int, y_ = (x8_1 ++ [ji16]) := ⟨_, rfl⟩
       replace H : (jX.l0 k1 t416 t419 y427 (IntKind.u64.wrap (1 - (IntKind.u64.wrap (Int.tdiv (IntKind.u64.wrap ((IntKind.u64.wrap ((IntKind.u64.wrap ((rd t416 x10_1) + 4294967296)) - t426)) - x9_1)) 4294967296)))) (wrap64 (x10_1 + 1))) = some (r1, r2) := by first | (rw [hy427]; with_reducible exact H) | (have H2_ := (Option.bind_some _ _).symm.trans H; rw [hy427]; with_reducible exact H2_) | (with_reducible exact hs_ H) | with_reducible exact H | (rw [hy427]; exact H) | exact H
       have Ny427 := jA.mk hy427
       clear hy427
       have H' := jA.mk H
       clear H
       obtain ⟨Ao18, co18, eo18⟩ := Kd.jr HO_6.out
       subst eo18
       have p425 : 0 ≤ (x10_1 : Int) := of_decide_eq_true am_
       have q425 : x10_1 < (t416.length : Int) := of_decide_eq_true am_
       obtain ⟨ad425, e425, hx425_0⟩ := Kd.vW (Kd.jH HO_6.out).2.2 x10_1 p425 q425
       cases e425
       replace p425 := eq_true p425
       replace q425 := eq_true q425
       obtain ⟨Ao19, co19, eo19⟩ := Kd.jr HO_7.out
       subst eo19
       go_wp2_with (first | (go_at_call 69; (with_reducible refine (jc.calls _ _ t419 x10_1 t426 _ ?side1 ?side2 A15.out).mono ?_); (case side1 => exact cc_ (Kd.jH HO_7.out).2.2); (case side2 => exact (Kd.jH HO_7.out).2.1); rintro e w' ⟨rfl, ⟨nd, rfl⟩⟩; (try first | exact ⟨rfl, _, World.drewN_drewN _ _ _⟩ | exact ⟨rfl, _, Eq.trans (World.drewN_drewN _ _ _) (congrArg (World.drewN _) (Nat.add_assoc _ _ _))⟩)) | ((with_reducible refine vV (b := .append) (xs := #[.tmp 38, .tmp 41]) rfl ?_); at_builtin; refine Kd.qJ (Kd.int .u64) (w0 := w) w.heap.size rfl (.tmp 38) (.tmp 41) 35 22 (.int .u64 0) 8 rfl Try.underlying35 zx rfl (by decide) (by omega) u8 x8_1 ji16 [.int .u64 ji16] (fun k_ => some k_ ≠ (.slice (some ad425) t416.length co18 : Value).ownBlock ∧ some k_ ≠ (.slice Ao19 t419.length co19 : Value).ownBlock) (fun _ => False) rfl rfl ?aP (fun _ hk => hk.elim) ?aF ?aO ?aB ?aS ?aL ?_; (case aP => exact rfl); (case aB => exact (bb_ HB)); (case aF => exact (fun k_ hk => ⟨Kd.fresh' (Kd.R_lt (rR_ HO_6)) k_ hk, Kd.fresh' (Kd.R_lt (rR_ HO_7)) k_ hk⟩)); (case aO => exact (rR_ HO_8)); (case aS => exact (jB (bb_ HB))); (case aL => have := LMc17.out; omega); intro v428 w20 ho hb hg hat; rw [← Ny427.out] at ho; replace HO_6 := jA.mk (Kd.vw (ok := (fun k_ => some k_ ≠ (.slice Ao19 t419.length co19 : Value).ownBlock)) (rR_ HO_6) hg hat); replace HO_7 := jA.mk (Kd.vw (ok := (fun k_ => some k_ ≠ (.slice (some ad425) t416.length co18 : Value).ownBlock)) (rR_ HO_7) hg hat); replace HB := jA.mk (hb); have HO429 := jA.mk (ho); clear HO_8 ho hb hg hat))
       repeat (go_quiet (first | (go_at_call 69; (with_reducible refine (jc.calls _ _ t419 x10_1 t426 _ ?side1 ?side2 A15.out).mono ?_); (case side1 => exact cc_ (Kd.jH HO_7.out).2.2); (case side2 => exact (Kd.jH HO_7.out).2.1); rintro e w' ⟨rfl, ⟨nd, rfl⟩⟩; (try first | exact ⟨rfl, _, World.drewN_drewN _ _ _⟩ | exact ⟨rfl, _, Eq.trans (World.drewN_drewN _ _ _) (congrArg (World.drewN _) (Nat.add_assoc _ _ _))⟩)) | ((with_reducible refine vV (b := .append) (xs := #[.tmp 38, .tmp 41]) rfl ?_); at_builtin; refine Kd.qJ (Kd.int .u64) (w0 := w) w.heap.size rfl (.tmp 38) (.tmp 41) 35 22 (.int .u64 0) 8 rfl Try.underlying35 zx rfl (by decide) (by omega) u8 x8_1 ji16 [.int .u64 ji16] (fun k_ => some k_ ≠ (.slice (some ad425) t416.length co18 : Value).ownBlock ∧ some k_ ≠ (.slice Ao19 t419.length co19 : Value).ownBlock) (fun _ => False) rfl rfl ?aP (fun _ hk => hk.elim) ?aF ?aO ?aB ?aS ?aL ?_; (case aP => exact rfl); (case aB => exact (bb_ HB)); (case aF => exact (fun k_ hk => ⟨Kd.fresh' (Kd.R_lt (rR_ HO_6)) k_ hk, Kd.fresh' (Kd.R_lt (rR_ HO_7)) k_ hk⟩)); (case aO => exact (rR_ HO_8)); (case aS => exact (jB (bb_ HB))); (case aL => have := LMc17.out; omega); intro v428 w20 ho hb hg hat; rw [← Ny427.out] at ho; replace HO_6 := jA.mk (Kd.vw (ok := (fun k_ => some k_ ≠ (.slice Ao19 t419.length co19 : Value).ownBlock)) (rR_ HO_6) hg hat); replace HO_7 := jA.mk (Kd.vw (ok := (fun k_ => some k_ ≠ (.slice (some ad425) t416.length co18 : Value).ownBlock)) (rR_ HO_7) hg hat); replace HB := jA.mk (hb); have HO429 := jA.mk (ho); clear HO_8 ho hb hg hat)); try go_wp2_with (first | (go_at_call 69; (with_reducible refine (jc.calls _ _ t419 x10_1 t426 _ ?side1 ?side2 A15.out).mono ?_); (case side1 => exact cc_ (Kd.jH HO_7.out).2.2); (case side2 => exact (Kd.jH HO_7.out).2.1); rintro e w' ⟨rfl, ⟨nd, rfl⟩⟩; (try first | exact ⟨rfl, _, World.drewN_drewN _ _ _⟩ | exact ⟨rfl, _, Eq.trans (World.drewN_drewN _ _ _) (congrArg (World.drewN _) (Nat.add_assoc _ _ _))⟩)) | ((with_reducible refine vV (b := .append) (xs := #[.tmp 38, .tmp 41]) rfl ?_); at_builtin; refine Kd.qJ (Kd.int .u64) (w0 := w) w.heap.size rfl (.tmp 38) (.tmp 41) 35 22 (.int .u64 0) 8 rfl Try.underlying35 zx rfl (by decide) (by omega) u8 x8_1 ji16 [.int .u64 ji16] (fun k_ => some k_ ≠ (.slice (some ad425) t416.length co18 : Value).ownBlock ∧ some k_ ≠ (.slice Ao19 t419.length co19 : Value).ownBlock) (fun _ => False) rfl rfl ?aP (fun _ hk => hk.elim) ?aF ?aO ?aB ?aS ?aL ?_; (case aP => exact rfl); (case aB => exact (bb_ HB)); (case aF => exact (fun k_ hk => ⟨Kd.fresh' (Kd.R_lt (rR_ HO_6)) k_ hk, Kd.fresh' (Kd.R_lt (rR_ HO_7)) k_ hk⟩)); (case aO => exact (rR_ HO_8)); (case aS => exact (jB (bb_ HB))); (case aL => have := LMc17.out; omega); intro v428 w20 ho hb hg hat; rw [← Ny427.out] at ho; replace HO_6 := jA.mk (Kd.vw (ok := (fun k_ => some k_ ≠ (.slice Ao19 t419.length co19 : Value).ownBlock)) (rR_ HO_6) hg hat); replace HO_7 := jA.mk (Kd.vw (ok := (fun k_ => some k_ ≠ (.slice (some ad425) t416.length co18 : Value).ownBlock)) (rR_ HO_7) hg hat); replace HB := jA.mk (hb); have HO429 := jA.mk (ho); clear HO_8 ho hb hg hat)))
       go_roundg k1
       case measure => have := HK1.out; omega
       case rel => exact ⟨(y427), (IntKind.u64.wrap (1 - (IntKind.u64.wrap (Int.tdiv (IntKind.u64.wrap ((IntKind.u64.wrap ((IntKind.u64.wrap ((rd t416 x10_1) + 4294967296)) - t426)) - x9_1)) 4294967296)))), (wrap64 (x10_1 + 1)), sd_, sd_, H', ⟨by have := HK1.out; omega⟩, ⟨(rR_ HO_6)⟩, ⟨(rR_ HO_7)⟩, ⟨(rR_ HO429)⟩, ⟨(bb_ HB)⟩⟩
      ·
       rw [if_neg c17] at H
       exact absurd H (by simp)
     ·
      rw [if_neg c14] at H
      exact absurd H (by simp)
    ·
     rw [if_neg c13] at H
     have c13b0 := decide_eq_false c13
     clear c13
     replace H := ob_ H
     obtain ⟨t430, A210, H⟩ := H
     try dsimp only at H
     have A21 := jA.mk A210
     clear A210
     simp only [Option.some.injEq, Prod.mk.injEq] at H
     obtain ⟨rfl, rfl⟩ := H
     obtain ⟨Ao22, co22, eo22⟩ := Kd.jr HO_6.out
     subst eo22
     obtain ⟨Ao23, co23, eo23⟩ := Kd.jr HO_8.out
     subst eo23
     go_wp2_with (first | (go_at_call 70; (with_reducible refine (jI.calls k1 _ _ x8_1 t430 _ ?side1 ?side2 A21.out).mono ?_); (case side1 => exact cc_ (Kd.jH HO_8.out).2.2); (case side2 => exact (Kd.jH HO_8.out).2.1); rintro e w24 ⟨v431, rfl, ho0, hb⟩; have HO432 := jA.mk (Kd.jZ (Kd.jS (Kd.jS (Kd.jS ho0 (Kd.R_lt (rR_ HO_6))) (Kd.R_lt (rR_ HO_7))) (Kd.R_lt (rR_ HO_8))) (jB (bb_ HB))); replace HO_6 := re_ HO_6 ho0 hb; replace HO_7 := re_ HO_7 ho0 hb; replace HO_8 := re_ HO_8 ho0 hb; replace HB := bs_ HB hb))
     repeat (go_quiet (first | (go_at_call 70; (with_reducible refine (jI.calls k1 _ _ x8_1 t430 _ ?side1 ?side2 A21.out).mono ?_); (case side1 => exact cc_ (Kd.jH HO_8.out).2.2); (case side2 => exact (Kd.jH HO_8.out).2.1); rintro e w24 ⟨v431, rfl, ho0, hb⟩; have HO432 := jA.mk (Kd.jZ (Kd.jS (Kd.jS (Kd.jS ho0 (Kd.R_lt (rR_ HO_6))) (Kd.R_lt (rR_ HO_7))) (Kd.R_lt (rR_ HO_8))) (jB (bb_ HB))); replace HO_6 := re_ HO_6 ho0 hb; replace HO_7 := re_ HO_7 ho0 hb; replace HO_8 := re_ HO_8 ho0 hb; replace HB := bs_ HB hb)); try go_wp2_with (first | (go_at_call 70; (with_reducible refine (jI.calls k1 _ _ x8_1 t430 _ ?side1 ?side2 A21.out).mono ?_); (case side1 => exact cc_ (Kd.jH HO_8.out).2.2); (case side2 => exact (Kd.jH HO_8.out).2.1); rintro e w24 ⟨v431, rfl, ho0, hb⟩; have HO432 := jA.mk (Kd.jZ (Kd.jS (Kd.jS (Kd.jS ho0 (Kd.R_lt (rR_ HO_6))) (Kd.R_lt (rR_ HO_7))) (Kd.R_lt (rR_ HO_8))) (jB (bb_ HB))); replace HO_6 := re_ HO_6 ho0 hb; replace HO_7 := re_ HO_7 ho0 hb; replace HO_8 := re_ HO_8 ho0 hb; replace HB := bs_ HB hb)))
     go_ret2
     exact ⟨_, ew_, by refine pR_ ?_; exact Kd.jl HO432.out (fun _ hk => trivial), (bb_ HB)⟩

end Go.Proofs.Ytijgeonhbmgikaa.POOctetPuts
