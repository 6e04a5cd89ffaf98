-- printed (pr.py)
import Derived.Test.YtijgeonhbmgikaaPORatioSumsx0
import Derived.Test.YtijgeonhbmgikaaPORatioSumsx11
namespace Go.Proofs.Ytijgeonhbmgikaa.PORatioSums
open Go.RowKit Go.Proofs.YtijgeonhbmgikaaN Go.Proofs.YtijgeonhbmgikaaW.PrintWords Go.Proofs.YtijgeonhbmgikaaW.PrintLast Go.Proofs.YtijgeonhbmgikaaW.PrintMore
attribute [local go_sem] qV qR qy qx qA zy qU qP
set_option maxHeartbeats 8000000
set_option maxRecDepth 100000

/-! ### jO: function 70 -/
def jO.l0 : Nat → List Int → List Int → Int → Option (List Int)
 | 0, _, _, _ => none
 | k + 1, x0, x3, x4 => if x4 < (x0.length : Int) then (if 0 ≤ x4 then (if (wrap64 (x4 + 1)) < (x0.length : Int) then (if 0 ≤ (wrap64 (x4 + 1)) then (if x3.length < 17592186044416 then (jO.l0 k x0 (x3 ++ [IntKind.u64.wrap ((rd x0 x4) + (IntKind.u64.wrap ((rd x0 (wrap64 (x4 + 1))) * 4294967296)))]) (wrap64 (x4 + 2))) else (none)) else (none)) else (if x3.length < 17592186044416 then (jO.l0 k x0 (x3 ++ [rd x0 x4]) (wrap64 (x4 + 2))) else (none))) else (none)) else ((jd.f k x3).bind fun t460 => (some t460))
def jO.f (k : Nat) (l0 : List Int) : Option (List Int) := jO.l0 k l0 (([] : List Int)) 0
theorem jO.vk : ∀ k, (∀ y0 y1 y2, LeO (jO.l0 k y0 y1 y2) (jO.l0 (k + 1) y0 y1 y2))
 | 0 => fun _ _ _ r h => by simp [jO.l0] at h
 | k + 1 => by
  have ih0 := jO.vk k
  ·
   intro y0 y1 y2
   unfold jO.l0
   repeat' first
   | (with_reducible exact ih0 _ _ _)
   | (with_reducible exact jd.mono _ _)
   | (with_reducible exact LeO.refl _)
   | (with_reducible exact LeO.none _)
   | (with_reducible refine LeO.ite ?_ ?_)
   | (with_reducible refine LeO.bind ?_ (fun _ => ?_))
theorem jO.mono : ∀ a0 k, LeO (jO.f k a0) (jO.f (k + 1) a0) := by
 intro a0 k
 have ih0 := jO.vk k
 unfold jO.f
 repeat' first
   | (with_reducible exact ih0 _ _ _)
   | (with_reducible exact jd.mono _ _)
   | (with_reducible exact LeO.refl _)
   | (with_reducible exact LeO.none _)
   | (with_reducible refine LeO.ite ?_ ?_)
   | (with_reducible refine LeO.bind ?_ (fun _ => ?_))
theorem jO.calls (k : Nat) (A0 : Option Addr) (c0 : Nat) (l0 : List Int) (r : List Int) (w : World) (hr0 : Kd.C (Kd.int .u64) w A0 l0.length l0) (hc0 : l0.length ≤ c0) (h : jO.f k l0 = some r) :
  Calls Try.prog 70 #[.slice A0 l0.length c0] w fun e w' => ∃ v0_ : Value, e = .returned (v0_) ∧ Kd.R (Kd.int .u64) 22 w' w.heap.size (fun _ => True) v0_ r ∧ Below w.heap.size w w' := by
 have HR0 := jA.mk hr0
 have HC0 := jA.mk hc0
 clear hr0 hc0
 have HB := jA.mk (Below.refl w.heap.size w)
 have H : (jO.l0 k l0 (([] : List Int)) 0) = some r := h
 clear h
 obtain ⟨y449, hy449⟩ : ∃ y_ : List Int, y_ = (([] : List Int)) := ⟨_, rfl⟩
 replace H : (jO.l0 k l0 y449 0) = some r := by first | (rw [hy449]; with_reducible exact H) | (have H2_ := (Option.bind_some _ _).symm.trans H; rw [hy449]; with_reducible exact H2_) | (with_reducible exact hs_ H) | with_reducible exact H | (rw [hy449]; exact H) | exact H
 have Ny449 := jA.mk hy449
 clear hy449
 have H' := jA.mk H
 clear H
 go_enter Try.func70, Try.ntmps70
 go_wp2_with (first | ((with_reducible refine jl (N := 6) rfl ?_); refine Kd.jAC (Kd.int .u64) _ 22 ?hg (N := 6) ?hd (xs := ([] : List Int)) (inner := []) (ok := fun _ => True) (okp := fun _ => True) ?hr ?hp (fun _ hk => hk) trivial (Below.refl _ _) (Nat.le_refl _) (by simp) ?_; (case hd => rfl); (case hg => rfl); (case hr => exact gs_); (case hp => exact (Reps.none _ _)); intro v450 w2 ho3 hb hg_ hnew_; clear hg_ hnew_; (first | rw [← Ny449.out] at ho3 | (simp only [Int.reduceToNat] at ho3; rw [← Ny449.out] at ho3)); have n0_ := jA.mk (Kd.jS ho3 (jB (bb_ HB))); have n1_ := jA.mk (jC (bb_ HB) hb); clear HB; have HO451 := n0_; have HB := n1_; clear n0_ n1_ hb ho3))
 go_loopg [3, 4] k (fun kq v3 v4 w' => ∃ (x3_1 : List Int) (x4_1 : Int), v4 = .int .i64 x4_1 ∧ jA (jO.l0 kq l0 x3_1 x4_1 = some r) ∧ jA (kq ≤ k) ∧ jA (Kd.R (Kd.int .u64) 22 w' w.heap.size (fun _ => True) v3 x3_1) ∧ jA (Below w.heap.size w w'))
 case atStart => exact ⟨(y449), (0), sd_, H', ⟨Nat.le_refl _⟩, ⟨(rR_ HO451)⟩, ⟨(bb_ HB)⟩⟩
 case round =>
  clear H'
  try clear p2
  obtain ⟨x3_1, x4_1, rfl, HA, HK1, HO_3, HB⟩ := hrel
  cases gk with
  | zero => exact absurd HA.out (by simp [jO.l0])
  | succ k1 =>
   have H := HA.out
   clear HA
   simp only [jO.l0] at H
   by_cases c4 : x4_1 < (l0.length : Int)
   ·
    rw [if_pos c4] at H
    have c4b0 := decide_eq_true c4
    clear c4
    by_cases c5 : 0 ≤ x4_1
    ·
     rw [if_pos c5] at H
     have c5b0 := decide_eq_true c5
     clear c5
     by_cases c6 : (wrap64 (x4_1 + 1)) < (l0.length : Int)
     ·
      rw [if_pos c6] at H
      have c6b0 := decide_eq_true c6
      clear c6
      obtain ⟨ji7, hji7⟩ : ∃ j_ : Int, (wrap64 (x4_1 + 1)) = j_ := ⟨_, rfl⟩
      replace H : (if 0 ≤ (ji7) then (if x3_1.length < 17592186044416 then (jO.l0 k1 l0 (x3_1 ++ [IntKind.u64.wrap ((rd l0 x4_1) + (IntKind.u64.wrap ((rd l0 (ji7)) * 4294967296)))]) (wrap64 (x4_1 + 2))) else (none)) else (none)) = some r := by first | (rw [hji7] at H; exact H) | (simp only [hji7] at H ⊢; exact H)
      (try rw [hji7] at c6b0)
      have hji7w : (IntKind.i64.wrap (x4_1 + 1)) = ji7 := (jk _).trans hji7
      by_cases c8 : 0 ≤ (ji7)
      ·
       rw [if_pos c8] at H
       have c8b0 := decide_eq_true c8
       clear c8
       by_cases c9 : x3_1.length < 17592186044416
       ·
        rw [if_pos c9] at H
        have LMc9 := jA.mk c9
        clear c9
        obtain ⟨y454, hy454⟩ : ∃ y_ : List Int, y_ = (x3_1 ++ [IntKind.u64.wrap ((rd l0 x4_1) + (IntKind.u64.wrap ((rd l0 (ji7)) * 4294967296)))]) := ⟨_, rfl⟩
        replace H : (jO.l0 k1 l0 y454 (wrap64 (x4_1 + 2))) = some r := by first | (rw [hy454]; with_reducible exact H) | (have H2_ := (Option.bind_some _ _).symm.trans H; rw [hy454]; with_reducible exact H2_) | (with_reducible exact hs_ H) | with_reducible exact H | (rw [hy454]; exact H) | exact H
        have Ny454 := jA.mk hy454
        clear hy454
        have H' := jA.mk H
        clear H
        have p452 : 0 ≤ (x4_1 : Int) := of_decide_eq_true am_
        have q452 : x4_1 < (l0.length : Int) := of_decide_eq_true am_
        obtain ⟨ad452, e452, hx452_0⟩ := Kd.zF HR0.out x4_1 p452 q452
        cases e452
        replace hx452_0 := (HB.out.cell (World.block_lt_of_cell? w _ hx452_0)).trans hx452_0
        replace p452 := eq_true p452
        replace q452 := eq_true q452
        have p453 : 0 ≤ ((ji7) : Int) := of_decide_eq_true am_
        have q453 : (ji7) < (l0.length : Int) := of_decide_eq_true am_
        obtain ⟨ad453, e453, hx453_0⟩ := Kd.zF HR0.out (ji7) p453 q453
        obtain rfl : ad452 = ad453 := (by injection e453)
        replace hx453_0 := (HB.out.cell (World.block_lt_of_cell? w _ hx453_0)).trans hx453_0
        replace p453 := eq_true p453
        replace q453 := eq_true q453
        go_wp2_with (first | ((with_reducible refine vw (b := .append) (xs := #[.tmp 30, .tmp 32]) rfl ?_); at_builtin; refine Kd.qc (Kd.int .u64) (w0 := w) w.heap.size rfl (.tmp 30) (.tmp 32) 35 22 (.int .u64 0) 8 rfl Try.underlying35 qJ rfl (by decide) (by omega) u3 x3_1 (IntKind.u64.wrap ((rd l0 x4_1) + (IntKind.u64.wrap ((rd l0 (ji7)) * 4294967296)))) [.int .u64 (IntKind.u64.wrap ((rd l0 x4_1) + (IntKind.u64.wrap ((rd l0 (ji7)) * 4294967296))))] (fun _ => True) (fun _ => False) rfl rfl ?aP (fun _ hk => hk.elim) ?aF ?aO ?aB ?aS ?aL ?_; (case aP => exact rfl); (case aB => exact (bb_ HB)); (case aF => exact (fun _ _ => trivial)); (case aO => exact (rR_ HO_3)); (case aS => exact (jB (bb_ HB))); (case aL => have := LMc9.out; omega); intro v455 w10 ho hb hg hat; rw [← Ny454.out] at ho; have n0_ := jA.mk (hb); have n1_ := jA.mk (ho); clear HB HO_3; have HB := n0_; have HO456 := n1_; clear n0_ n1_ ho hb hg hat))
        go_roundg k1
        case measure => have := HK1.out; omega
        case rel => exact ⟨(y454), (wrap64 (x4_1 + 2)), sd_, H', ⟨by have := HK1.out; omega⟩, ⟨(rR_ HO456)⟩, ⟨(bb_ HB)⟩⟩
       ·
        rw [if_neg c9] at H
        exact absurd H (by simp)
      ·
       rw [if_neg c8] at H
       exact absurd H (by simp)
     ·
      rw [if_neg c6] at H
      have c6b0 := decide_eq_false c6
      clear c6
      by_cases c11 : x3_1.length < 17592186044416
      ·
       rw [if_pos c11] at H
       have LMc11 := jA.mk c11
       clear c11
       obtain ⟨y457, hy457⟩ : ∃ y_ : List Int, y_ = (x3_1 ++ [rd l0 x4_1]) := ⟨_, rfl⟩
       replace H : (jO.l0 k1 l0 y457 (wrap64 (x4_1 + 2))) = some r := by first | (rw [hy457]; with_reducible exact H) | (have H2_ := (Option.bind_some _ _).symm.trans H; rw [hy457]; with_reducible exact H2_) | (with_reducible exact hs_ H) | with_reducible exact H | (rw [hy457]; exact H) | exact H
       have Ny457 := jA.mk hy457
       clear hy457
       have H' := jA.mk H
       clear H
       have p452 : 0 ≤ (x4_1 : Int) := of_decide_eq_true am_
       have q452 : x4_1 < (l0.length : Int) := of_decide_eq_true am_
       obtain ⟨ad452, e452, hx452_0⟩ := Kd.zF HR0.out x4_1 p452 q452
       cases e452
       replace hx452_0 := (HB.out.cell (World.block_lt_of_cell? w _ hx452_0)).trans hx452_0
       replace p452 := eq_true p452
       replace q452 := eq_true q452
       go_wp2_with (first | ((with_reducible refine vw (b := .append) (xs := #[.tmp 30, .tmp 32]) rfl ?_); at_builtin; refine Kd.qc (Kd.int .u64) (w0 := w) w.heap.size rfl (.tmp 30) (.tmp 32) 35 22 (.int .u64 0) 8 rfl Try.underlying35 qJ rfl (by decide) (by omega) u3 x3_1 (rd l0 x4_1) [.int .u64 (rd l0 x4_1)] (fun _ => True) (fun _ => False) rfl rfl ?aP (fun _ hk => hk.elim) ?aF ?aO ?aB ?aS ?aL ?_; (case aP => exact rfl); (case aB => exact (bb_ HB)); (case aF => exact (fun _ _ => trivial)); (case aO => exact (rR_ HO_3)); (case aS => exact (jB (bb_ HB))); (case aL => have := LMc11.out; omega); intro v458 w12 ho hb hg hat; rw [← Ny457.out] at ho; have n0_ := jA.mk (hb); have n1_ := jA.mk (ho); clear HB HO_3; have HB := n0_; have HO459 := n1_; clear n0_ n1_ ho hb hg hat))
       go_roundg k1
       case measure => have := HK1.out; omega
       case rel => exact ⟨(y457), (wrap64 (x4_1 + 2)), sd_, H', ⟨by have := HK1.out; omega⟩, ⟨(rR_ HO459)⟩, ⟨(bb_ HB)⟩⟩
      ·
       rw [if_neg c11] at H
       exact absurd H (by simp)
    ·
     rw [if_neg c5] at H
     exact absurd H (by simp)
   ·
    rw [if_neg c4] at H
    have c4b0 := decide_eq_false c4
    clear c4
    replace H := ob_ H
    obtain ⟨t460, A130, H⟩ := H
    replace H : (some t460) = some r := H
    have A13 := jA.mk A130
    clear A130
    obtain rfl := Option.some.inj H
    obtain ⟨Ao14, co14, eo14⟩ := Kd.jc HO_3.out
    subst eo14
    go_wp2_with (first | ((with_reducible refine jJ (f := 25) rfl ?_); refine jr (some 35) rfl rfl Try.func25 kr_ rfl #[.slice Ao14 x3_1.length co14] rfl mt_ ?_; (with_reducible refine (jd.calls k1 _ _ x3_1 t460 _ ?side1 ?side2 A13.out).mono ?_); (case side1 => exact cc_ (Kd.jI HO_3.out).2.2); (case side2 => exact (Kd.jI HO_3.out).2.1); rintro e w15 ⟨v461, rfl, ho0, hb⟩; refine ⟨_, rfl, ?_⟩; have n0_ := jA.mk (Kd.jK (rR_ HO_3) (Kd.jL ho0) hb); have n1_ := jA.mk (Kd.jS (Kd.jN ho0 (Kd.R_lt (rR_ HO_3))) (jB (bb_ HB))); have n2_ := jA.mk (jC (bb_ HB) hb); clear HO_3 HB; have HO_3 := n0_; have HO462 := n1_; have HB := n2_; clear n0_ n1_ n2_))
    go_ret
    exact ⟨_, ew_, by refine pR_ ?_; exact Kd.jP HO462.out (fun _ hk => trivial), (bb_ HB)⟩

/-! ### jG: function 23 -/
mutual
def jG.l0 : Nat → List Int → List Int → List Int → Int → Option (List Int)
 | 0, _, _, _, _ => none
 | k + 1, x5, x6, x7, x8 => if x8 < (wrap64 ((wrap64 ((x5.length : Int) + (x6.length : Int))) + 1)) then (if x7.length < 17592186044416 then (jG.l0 k x5 x6 (x7 ++ [0]) (wrap64 (x8 + 1))) else (none)) else (jG.l1 k x5 x6 x7 0)
def jG.l1 : Nat → List Int → List Int → List Int → Int → Option (List Int)
 | 0, _, _, _, _ => none
 | k + 1, x5, x6, x7, x9 => if x9 < (x5.length : Int) then (jG.l2 k x5 x6 x7 x9 0 0) else ((jO.f k x7).bind fun t475 => (some t475))
def jG.l2 : Nat → List Int → List Int → List Int → Int → Int → Int → Option (List Int)
 | 0, _, _, _, _, _, _ => none
 | k + 1, x5, x6, x7, x9, x10, x11 => if x11 < (x6.length : Int) then (if 0 ≤ (wrap64 (x9 + x11)) then (if (wrap64 (x9 + x11)) < (x7.length : Int) then (if 0 ≤ x9 then (if x9 < (x5.length : Int) then ((jf.f x6 x11).bind fun t480 => (jG.l2 k x5 x6 (x7.set ((wrap64 (x9 + x11)) : Int).toNat (Int.tmod (IntKind.u64.wrap ((IntKind.u64.wrap ((rd x7 (wrap64 (x9 + x11))) + (IntKind.u64.wrap ((rd x5 x9) * t480)))) + x10)) 4294967296)) x9 (IntKind.u64.wrap (Int.tdiv (IntKind.u64.wrap ((IntKind.u64.wrap ((rd x7 (wrap64 (x9 + x11))) + (IntKind.u64.wrap ((rd x5 x9) * t480)))) + x10)) 4294967296)) (wrap64 (x11 + 1)))) else (none)) else (none)) else (none)) else (none)) else (if x10 > 0 then (if 0 ≤ (wrap64 (x9 + x11)) then (if (wrap64 (x9 + x11)) < (x7.length : Int) then (if 0 ≤ x9 then (if x9 < (x5.length : Int) then ((jf.f x6 x11).bind fun t484 => (jG.l2 k x5 x6 (x7.set ((wrap64 (x9 + x11)) : Int).toNat (Int.tmod (IntKind.u64.wrap ((IntKind.u64.wrap ((rd x7 (wrap64 (x9 + x11))) + (IntKind.u64.wrap ((rd x5 x9) * t484)))) + x10)) 4294967296)) x9 (IntKind.u64.wrap (Int.tdiv (IntKind.u64.wrap ((IntKind.u64.wrap ((rd x7 (wrap64 (x9 + x11))) + (IntKind.u64.wrap ((rd x5 x9) * t484)))) + x10)) 4294967296)) (wrap64 (x11 + 1)))) else (none)) else (none)) else (none)) else (none)) else (jG.l1 k x5 x6 x7 (wrap64 (x9 + 1))))
end
def jG.f (k : Nat) (l0 : List Int) (l1 : List Int) : Option (List Int) := (jH.f k l0).bind fun t463 => ((jH.f k l1).bind fun t466 => (jG.l0 k t463 t466 (([] : List Int)) 0))
theorem jG.vk : ∀ k, (∀ y0 y1 y2 y3, LeO (jG.l0 k y0 y1 y2 y3) (jG.l0 (k + 1) y0 y1 y2 y3)) ∧ (∀ y0 y1 y2 y3, LeO (jG.l1 k y0 y1 y2 y3) (jG.l1 (k + 1) y0 y1 y2 y3)) ∧ (∀ y0 y1 y2 y3 y4 y5, LeO (jG.l2 k y0 y1 y2 y3 y4 y5) (jG.l2 (k + 1) y0 y1 y2 y3 y4 y5))
 | 0 => ⟨fun _ _ _ _ r h => by simp [jG.l0] at h, fun _ _ _ _ r h => by simp [jG.l1] at h, fun _ _ _ _ _ _ r h => by simp [jG.l2] at h⟩
 | k + 1 => by
  obtain ⟨ih0, ih1, ih2⟩ := jG.vk k
  refine ⟨?_, ?_, ?_⟩ <;> (intros; first | unfold jG.l0 | unfold jG.l1 | unfold jG.l2) <;> repeat' first
   | (with_reducible exact ih0 _ _ _ _)
   | (with_reducible exact ih1 _ _ _ _)
   | (with_reducible exact ih2 _ _ _ _ _ _)
   | (with_reducible exact jH.mono _ _)
   | (with_reducible exact jO.mono _ _)
   | (with_reducible exact LeO.refl _)
   | (with_reducible exact LeO.none _)
   | (with_reducible refine LeO.ite ?_ ?_)
   | (with_reducible refine LeO.bind ?_ (fun _ => ?_))
theorem jG.mono : ∀ a0 a1 k, LeO (jG.f k a0 a1) (jG.f (k + 1) a0 a1) := by
 intro a0 a1 k
 obtain ⟨ih0, ih1, ih2⟩ := jG.vk k
 unfold jG.f
 repeat' first
   | (with_reducible exact ih0 _ _ _ _)
   | (with_reducible exact ih1 _ _ _ _)
   | (with_reducible exact ih2 _ _ _ _ _ _)
   | (with_reducible exact jH.mono _ _)
   | (with_reducible exact jO.mono _ _)
   | (with_reducible exact LeO.refl _)
   | (with_reducible exact LeO.none _)
   | (with_reducible refine LeO.ite ?_ ?_)
   | (with_reducible refine LeO.bind ?_ (fun _ => ?_))
theorem jG.calls (k : Nat) (A0 : Option Addr) (c0 : Nat) (l0 : List Int) (A1 : Option Addr) (c1 : Nat) (l1 : List Int) (r : List Int) (w : World) (hr0 : Kd.C (Kd.int .u64) w A0 l0.length l0) (hc0 : l0.length ≤ c0) (hr1 : Kd.C (Kd.int .u64) w A1 l1.length l1) (hc1 : l1.length ≤ c1) (h : jG.f k l0 l1 = some r) :
  Calls Try.prog 23 #[.slice A0 l0.length c0, .slice A1 l1.length c1] w fun e w' => ∃ v0_ : Value, e = .returned (v0_) ∧ Kd.R (Kd.int .u64) 22 w' w.heap.size (fun _ => True) v0_ r ∧ Below w.heap.size w w' := by
 have HR0 := jA.mk hr0
 have HC0 := jA.mk hc0
 clear hr0 hc0
 have HR1 := jA.mk hr1
 have HC1 := jA.mk hc1
 clear hr1 hc1
 have HB := jA.mk (Below.refl w.heap.size w)
 have H : ((jH.f k l0).bind fun t463 => ((jH.f k l1).bind fun t466 => (jG.l0 k t463 t466 (([] : List Int)) 0))) = some r := h
 clear h
 replace H := ob_ H
 obtain ⟨t463, A30, H⟩ := H
 try dsimp only at H
 have A3 := jA.mk A30
 clear A30
 replace H := ob_ H
 obtain ⟨t466, A40, H⟩ := H
 try dsimp only at H
 have A4 := jA.mk A40
 clear A40
 obtain ⟨y469, hy469⟩ : ∃ y_ : List Int, y_ = (([] : List Int)) := ⟨_, rfl⟩
 replace H : (jG.l0 k t463 t466 y469 0) = some r := by first | (rw [hy469]; with_reducible exact H) | (have H2_ := (Option.bind_some _ _).symm.trans H; rw [hy469]; with_reducible exact H2_) | (with_reducible exact hs_ H) | with_reducible exact H | (rw [hy469]; exact H) | exact H
 have Ny469 := jA.mk hy469
 clear hy469
 have H' := jA.mk H
 clear H
 go_enter Try.func23, Try.ntmps23
 go_wp2_with (first | (go_at_call 68; (with_reducible refine (jH.calls k _ _ l0 t463 _ ?side1 ?side2 A3.out).mono ?_); (case side1 => exact cc_ HR0.out); (case side2 => exact HC0.out); rintro e w5 ⟨v464, rfl, ho0, hb⟩; have n0_ := jA.mk (Kd.jS ho0 (jB (bb_ HB))); have n1_ := jA.mk (jC (bb_ HB) hb); clear HB; have HO465 := n0_; have HB := n1_; clear n0_ n1_) | (go_at_call 68; (with_reducible refine (jH.calls k _ _ l1 t466 _ ?side1 ?side2 A4.out).mono ?_); (case side1 => exact cc_ (Kd.je HR1.out HB.out)); (case side2 => exact HC1.out); rintro e w6 ⟨v467, rfl, ho0, hb⟩; have n0_ := jA.mk (Kd.jK (rR_ HO465) (Kd.jL ho0) hb); have n1_ := jA.mk (Kd.jS (Kd.jN ho0 (Kd.R_lt (rR_ HO465))) (jB (bb_ HB))); have n2_ := jA.mk (jC (bb_ HB) hb); clear HO465 HB; have HO465 := n0_; have HO468 := n1_; have HB := n2_; clear n0_ n1_ n2_) | ((with_reducible refine jl (N := 17) rfl ?_); refine Kd.jAC (Kd.int .u64) _ 22 ?hg (N := 17) ?hd (xs := ([] : List Int)) (inner := []) (ok := fun _ => True) (okp := fun _ => True) ?hr ?hp (fun _ hk => hk) trivial (Below.refl _ _) (Nat.le_refl _) (by simp) ?_; (case hd => rfl); (case hg => rfl); (case hr => exact gs_); (case hp => exact (Reps.none _ _)); intro v470 w7 ho8 hb hg_ hnew_; clear hg_ hnew_; (first | rw [← Ny469.out] at ho8 | (simp only [Int.reduceToNat] at ho8; rw [← Ny469.out] at ho8)); have n0_ := jA.mk (Kd.jK (rR_ HO465) (Kd.jL ho8) hb); have n1_ := jA.mk (Kd.jK (rR_ HO468) (Kd.jL ho8) hb); have n2_ := jA.mk (Kd.jS (Kd.jN (Kd.jN ho8 (Kd.R_lt (rR_ HO465))) (Kd.R_lt (rR_ HO468))) (jB (bb_ HB))); have n3_ := jA.mk (jC (bb_ HB) hb); clear HO465 HO468 HB; have HO465 := n0_; have HO468 := n1_; have HO471 := n2_; have HB := n3_; clear n0_ n1_ n2_ n3_ hb ho8))
 repeat (go_quiet (first | (go_at_call 68; (with_reducible refine (jH.calls k _ _ l0 t463 _ ?side1 ?side2 A3.out).mono ?_); (case side1 => exact cc_ HR0.out); (case side2 => exact HC0.out); rintro e w5 ⟨v464, rfl, ho0, hb⟩; have n0_ := jA.mk (Kd.jS ho0 (jB (bb_ HB))); have n1_ := jA.mk (jC (bb_ HB) hb); clear HB; have HO465 := n0_; have HB := n1_; clear n0_ n1_) | (go_at_call 68; (with_reducible refine (jH.calls k _ _ l1 t466 _ ?side1 ?side2 A4.out).mono ?_); (case side1 => exact cc_ (Kd.je HR1.out HB.out)); (case side2 => exact HC1.out); rintro e w6 ⟨v467, rfl, ho0, hb⟩; have n0_ := jA.mk (Kd.jK (rR_ HO465) (Kd.jL ho0) hb); have n1_ := jA.mk (Kd.jS (Kd.jN ho0 (Kd.R_lt (rR_ HO465))) (jB (bb_ HB))); have n2_ := jA.mk (jC (bb_ HB) hb); clear HO465 HB; have HO465 := n0_; have HO468 := n1_; have HB := n2_; clear n0_ n1_ n2_) | ((with_reducible refine jl (N := 17) rfl ?_); refine Kd.jAC (Kd.int .u64) _ 22 ?hg (N := 17) ?hd (xs := ([] : List Int)) (inner := []) (ok := fun _ => True) (okp := fun _ => True) ?hr ?hp (fun _ hk => hk) trivial (Below.refl _ _) (Nat.le_refl _) (by simp) ?_; (case hd => rfl); (case hg => rfl); (case hr => exact gs_); (case hp => exact (Reps.none _ _)); intro v470 w7 ho8 hb hg_ hnew_; clear hg_ hnew_; (first | rw [← Ny469.out] at ho8 | (simp only [Int.reduceToNat] at ho8; rw [← Ny469.out] at ho8)); have n0_ := jA.mk (Kd.jK (rR_ HO465) (Kd.jL ho8) hb); have n1_ := jA.mk (Kd.jK (rR_ HO468) (Kd.jL ho8) hb); have n2_ := jA.mk (Kd.jS (Kd.jN (Kd.jN ho8 (Kd.R_lt (rR_ HO465))) (Kd.R_lt (rR_ HO468))) (jB (bb_ HB))); have n3_ := jA.mk (jC (bb_ HB) hb); clear HO465 HO468 HB; have HO465 := n0_; have HO468 := n1_; have HO471 := n2_; have HB := n3_; clear n0_ n1_ n2_ n3_ hb ho8)); try go_wp2_with (first | (go_at_call 68; (with_reducible refine (jH.calls k _ _ l0 t463 _ ?side1 ?side2 A3.out).mono ?_); (case side1 => exact cc_ HR0.out); (case side2 => exact HC0.out); rintro e w5 ⟨v464, rfl, ho0, hb⟩; have n0_ := jA.mk (Kd.jS ho0 (jB (bb_ HB))); have n1_ := jA.mk (jC (bb_ HB) hb); clear HB; have HO465 := n0_; have HB := n1_; clear n0_ n1_) | (go_at_call 68; (with_reducible refine (jH.calls k _ _ l1 t466 _ ?side1 ?side2 A4.out).mono ?_); (case side1 => exact cc_ (Kd.je HR1.out HB.out)); (case side2 => exact HC1.out); rintro e w6 ⟨v467, rfl, ho0, hb⟩; have n0_ := jA.mk (Kd.jK (rR_ HO465) (Kd.jL ho0) hb); have n1_ := jA.mk (Kd.jS (Kd.jN ho0 (Kd.R_lt (rR_ HO465))) (jB (bb_ HB))); have n2_ := jA.mk (jC (bb_ HB) hb); clear HO465 HB; have HO465 := n0_; have HO468 := n1_; have HB := n2_; clear n0_ n1_ n2_) | ((with_reducible refine jl (N := 17) rfl ?_); refine Kd.jAC (Kd.int .u64) _ 22 ?hg (N := 17) ?hd (xs := ([] : List Int)) (inner := []) (ok := fun _ => True) (okp := fun _ => True) ?hr ?hp (fun _ hk => hk) trivial (Below.refl _ _) (Nat.le_refl _) (by simp) ?_; (case hd => rfl); (case hg => rfl); (case hr => exact gs_); (case hp => exact (Reps.none _ _)); intro v470 w7 ho8 hb hg_ hnew_; clear hg_ hnew_; (first | rw [← Ny469.out] at ho8 | (simp only [Int.reduceToNat] at ho8; rw [← Ny469.out] at ho8)); have n0_ := jA.mk (Kd.jK (rR_ HO465) (Kd.jL ho8) hb); have n1_ := jA.mk (Kd.jK (rR_ HO468) (Kd.jL ho8) hb); have n2_ := jA.mk (Kd.jS (Kd.jN (Kd.jN ho8 (Kd.R_lt (rR_ HO465))) (Kd.R_lt (rR_ HO468))) (jB (bb_ HB))); have n3_ := jA.mk (jC (bb_ HB) hb); clear HO465 HO468 HB; have HO465 := n0_; have HO468 := n1_; have HO471 := n2_; have HB := n3_; clear n0_ n1_ n2_ n3_ hb ho8)))
 go_loopg [7, 8] k (fun kq v7 v8 w' => ∃ (x7_1 : List Int) (x8_1 : Int), v8 = .int .i64 x8_1 ∧ jA (jG.l0 kq t463 t466 x7_1 x8_1 = some r) ∧ jA (kq ≤ k) ∧ jA (Kd.R (Kd.int .u64) 22 w' w.heap.size (fun k_ => some k_ ≠ (v467 : Value).ownBlock ∧ some k_ ≠ (v7 : Value).ownBlock) v464 t463) ∧ jA (Kd.R (Kd.int .u64) 22 w' w.heap.size (fun k_ => some k_ ≠ (v464 : Value).ownBlock ∧ some k_ ≠ (v7 : Value).ownBlock) v467 t466) ∧ jA (Kd.R (Kd.int .u64) 22 w' w.heap.size (fun k_ => some k_ ≠ (v464 : Value).ownBlock ∧ some k_ ≠ (v467 : Value).ownBlock) v7 x7_1) ∧ jA (Below w.heap.size w w'))
 case atStart => exact ⟨(y469), (0), sd_, H', ⟨Nat.le_refl _⟩, ⟨by (with_reducible repeat (first | apply Kd.zQ | apply Kd.zU | apply Kd.ze)); exact Kd.jP HO465.out (fun _ hk => ⟨hk.1.2, hk.2⟩)⟩, ⟨by (with_reducible repeat (first | apply Kd.zQ | apply Kd.zU | apply Kd.ze)); exact Kd.jP HO468.out (fun _ hk => ⟨hk.1.2, hk.2⟩)⟩, ⟨by (with_reducible repeat (first | apply Kd.zQ | apply Kd.zU | apply Kd.ze)); exact Kd.jP HO471.out (fun _ hk => ⟨hk.1.2, hk.2⟩)⟩, ⟨(bb_ HB)⟩⟩
 case round =>
  clear H'
  try clear c1
  try clear c2
  try clear p2
  obtain ⟨x7_1, x8_1, rfl, HA, HK1, HO_5, HO_6, HO_7, HB⟩ := hrel
  cases gk with
  | zero => exact absurd HA.out (by simp [jG.l0])
  | succ k1 =>
   have H := HA.out
   clear HA
   simp only [jG.l0] at H
   by_cases c9 : x8_1 < (wrap64 ((wrap64 ((t463.length : Int) + (t466.length : Int))) + 1))
   ·
    rw [if_pos c9] at H
    have c9b0 := decide_eq_true c9
    clear c9
    by_cases c10 : x7_1.length < 17592186044416
    ·
     rw [if_pos c10] at H
     have LMc10 := jA.mk c10
     clear c10
     obtain ⟨y472, hy472⟩ : ∃ y_ : List Int, y_ = (x7_1 ++ [0]) := ⟨_, rfl⟩
     replace H : (jG.l0 k1 t463 t466 y472 (wrap64 (x8_1 + 1))) = some r := by first | (rw [hy472]; with_reducible exact H) | (have H2_ := (Option.bind_some _ _).symm.trans H; rw [hy472]; with_reducible exact H2_) | (with_reducible exact hs_ H) | with_reducible exact H | (rw [hy472]; exact H) | exact H
     have Ny472 := jA.mk hy472
     clear hy472
     have H' := jA.mk H
     clear H
     obtain ⟨Ao11, co11, eo11⟩ := Kd.jc HO_5.out
     subst eo11
     obtain ⟨Ao12, co12, eo12⟩ := Kd.jc HO_6.out
     subst eo12
     go_wp2_with (first | ((with_reducible refine vw (b := .append) (xs := #[.tmp 28, .tmp 29]) rfl ?_); at_builtin; refine Kd.qc (Kd.int .u64) (w0 := w) w.heap.size rfl (.tmp 28) (.tmp 29) 35 22 (.int .u64 0) 8 rfl Try.underlying35 qJ rfl (by decide) (by omega) u7 x7_1 0 [.int .u64 0] (fun k_ => some k_ ≠ (.slice Ao11 t463.length co11 : Value).ownBlock ∧ some k_ ≠ (.slice Ao12 t466.length co12 : Value).ownBlock) (fun _ => False) rfl rfl ?aP (fun _ hk => hk.elim) ?aF ?aO ?aB ?aS ?aL ?_; (case aP => exact rfl); (case aB => exact (bb_ HB)); (case aF => exact (fun k_ hk => ⟨Kd.fresh' (Kd.R_lt (rR_ HO_5)) k_ hk, Kd.fresh' (Kd.R_lt (rR_ HO_6)) k_ hk⟩)); (case aO => exact (rR_ HO_7)); (case aS => exact (jB (bb_ HB))); (case aL => have := LMc10.out; omega); intro v473 w13 ho hb hg hat; rw [← Ny472.out] at ho; have n0_ := jA.mk (Kd.zX (ok := (fun k_ => some k_ ≠ (.slice Ao12 t466.length co12 : Value).ownBlock)) (rR_ HO_5) hg hat); have n1_ := jA.mk (Kd.zX (ok := (fun k_ => some k_ ≠ (.slice Ao11 t463.length co11 : Value).ownBlock)) (rR_ HO_6) hg hat); have n2_ := jA.mk (hb); have n3_ := jA.mk (ho); clear HO_5 HO_6 HB HO_7; have HO_5 := n0_; have HO_6 := n1_; have HB := n2_; have HO474 := n3_; clear n0_ n1_ n2_ n3_ ho hb hg hat))
     repeat (go_quiet (first | ((with_reducible refine vw (b := .append) (xs := #[.tmp 28, .tmp 29]) rfl ?_); at_builtin; refine Kd.qc (Kd.int .u64) (w0 := w) w.heap.size rfl (.tmp 28) (.tmp 29) 35 22 (.int .u64 0) 8 rfl Try.underlying35 qJ rfl (by decide) (by omega) u7 x7_1 0 [.int .u64 0] (fun k_ => some k_ ≠ (.slice Ao11 t463.length co11 : Value).ownBlock ∧ some k_ ≠ (.slice Ao12 t466.length co12 : Value).ownBlock) (fun _ => False) rfl rfl ?aP (fun _ hk => hk.elim) ?aF ?aO ?aB ?aS ?aL ?_; (case aP => exact rfl); (case aB => exact (bb_ HB)); (case aF => exact (fun k_ hk => ⟨Kd.fresh' (Kd.R_lt (rR_ HO_5)) k_ hk, Kd.fresh' (Kd.R_lt (rR_ HO_6)) k_ hk⟩)); (case aO => exact (rR_ HO_7)); (case aS => exact (jB (bb_ HB))); (case aL => have := LMc10.out; omega); intro v473 w13 ho hb hg hat; rw [← Ny472.out] at ho; have n0_ := jA.mk (Kd.zX (ok := (fun k_ => some k_ ≠ (.slice Ao12 t466.length co12 : Value).ownBlock)) (rR_ HO_5) hg hat); have n1_ := jA.mk (Kd.zX (ok := (fun k_ => some k_ ≠ (.slice Ao11 t463.length co11 : Value).ownBlock)) (rR_ HO_6) hg hat); have n2_ := jA.mk (hb); have n3_ := jA.mk (ho); clear HO_5 HO_6 HB HO_7; have HO_5 := n0_; have HO_6 := n1_; have HB := n2_; have HO474 := n3_; clear n0_ n1_ n2_ n3_ ho hb hg hat)); try go_wp2_with (first | ((with_reducible refine vw (b := .append) (xs := #[.tmp 28, .tmp 29]) rfl ?_); at_builtin; refine Kd.qc (Kd.int .u64) (w0 := w) w.heap.size rfl (.tmp 28) (.tmp 29) 35 22 (.int .u64 0) 8 rfl Try.underlying35 qJ rfl (by decide) (by omega) u7 x7_1 0 [.int .u64 0] (fun k_ => some k_ ≠ (.slice Ao11 t463.length co11 : Value).ownBlock ∧ some k_ ≠ (.slice Ao12 t466.length co12 : Value).ownBlock) (fun _ => False) rfl rfl ?aP (fun _ hk => hk.elim) ?aF ?aO ?aB ?aS ?aL ?_; (case aP => exact rfl); (case aB => exact (bb_ HB)); (case aF => exact (fun k_ hk => ⟨Kd.fresh' (Kd.R_lt (rR_ HO_5)) k_ hk, Kd.fresh' (Kd.R_lt (rR_ HO_6)) k_ hk⟩)); (case aO => exact (rR_ HO_7)); (case aS => exact (jB (bb_ HB))); (case aL => have := LMc10.out; omega); intro v473 w13 ho hb hg hat; rw [← Ny472.out] at ho; have n0_ := jA.mk (Kd.zX (ok := (fun k_ => some k_ ≠ (.slice Ao12 t466.length co12 : Value).ownBlock)) (rR_ HO_5) hg hat); have n1_ := jA.mk (Kd.zX (ok := (fun k_ => some k_ ≠ (.slice Ao11 t463.length co11 : Value).ownBlock)) (rR_ HO_6) hg hat); have n2_ := jA.mk (hb); have n3_ := jA.mk (ho); clear HO_5 HO_6 HB HO_7; have HO_5 := n0_; have HO_6 := n1_; have HB := n2_; have HO474 := n3_; clear n0_ n1_ n2_ n3_ ho hb hg hat)))
     go_roundg k1
     case measure => have := HK1.out; omega
     case rel => exact ⟨(y472), (wrap64 (x8_1 + 1)), sd_, H', ⟨by have := HK1.out; omega⟩, ⟨(rR_ HO_5)⟩, ⟨(rR_ HO_6)⟩, ⟨(rR_ HO474)⟩, ⟨(bb_ HB)⟩⟩
    ·
     rw [if_neg c10] at H
     exact absurd H (by simp)
   ·
    rw [if_neg c9] at H
    have c9b0 := decide_eq_false c9
    clear c9
    have H' := jA.mk H
    clear H
    obtain ⟨Ao14, co14, eo14⟩ := Kd.jc HO_5.out
    subst eo14
    obtain ⟨Ao15, co15, eo15⟩ := Kd.jc HO_6.out
    subst eo15
    go_wp2
    repeat (go_quiet (fail); try go_wp2)
    go_loopg [9] k1 (fun kq v9 w' => ∃ (x7_2 : List Int) (x9_2 : Int), v9 = .int .i64 x9_2 ∧ jA (jG.l1 kq t463 t466 x7_2 x9_2 = some r) ∧ jA (kq ≤ k1) ∧ jA (Kd.R (Kd.int .u64) 22 w' w.heap.size (fun k_ => some k_ ≠ ((.slice Ao15 t466.length co15) : Value).ownBlock ∧ some k_ ≠ (u7 : Value).ownBlock) (.slice Ao14 t463.length co14) t463) ∧ jA (Kd.R (Kd.int .u64) 22 w' w.heap.size (fun k_ => some k_ ≠ ((.slice Ao14 t463.length co14) : Value).ownBlock ∧ some k_ ≠ (u7 : Value).ownBlock) (.slice Ao15 t466.length co15) t466) ∧ jA (Kd.R (Kd.int .u64) 22 w' w.heap.size (fun k_ => some k_ ≠ ((.slice Ao14 t463.length co14) : Value).ownBlock ∧ some k_ ≠ ((.slice Ao15 t466.length co15) : Value).ownBlock) u7 x7_2) ∧ jA (Below w.heap.size w w'))
    case atStart => exact ⟨(x7_1), (0), sd_, H', ⟨Nat.le_refl _⟩, ⟨(rR_ HO_5)⟩, ⟨(rR_ HO_6)⟩, ⟨(rR_ HO_7)⟩, ⟨(bb_ HB)⟩⟩
    case round =>
     clear H'
     try clear c1
     try clear c2
     try clear p2
     try clear p6
     try clear c9
     try clear c9b0
     try clear c10
     try clear p2
     obtain ⟨x7_2, x9_2, rfl, HA, HK2, HO_5, HO_6, HO_7, HB⟩ := hrel
     cases gk with
     | zero => exact absurd HA.out (by simp [jG.l1])
     | succ k2 =>
      have H := HA.out
      clear HA
      simp only [jG.l1] at H
      by_cases c16 : x9_2 < (t463.length : Int)
      ·
       rw [if_pos c16] at H
       have c16b0 := decide_eq_true c16
       clear c16
       have H' := jA.mk H
       clear H
       go_wp2
       repeat (go_quiet (fail); try go_wp2)
       go_loopg [10, 11] k2 (fun kq v10 v11 w' => ∃ (x7_3 : List Int) (x10_3 : Int) (x11_3 : Int), v10 = .int .u64 x10_3 ∧ v11 = .int .i64 x11_3 ∧ jA (jG.l2 kq t463 t466 x7_3 x9_2 x10_3 x11_3 = some r) ∧ jA (kq ≤ k2) ∧ jA (Kd.R (Kd.int .u64) 22 w' w.heap.size (fun k_ => some k_ ≠ ((.slice Ao15 t466.length co15) : Value).ownBlock ∧ some k_ ≠ (u7 : Value).ownBlock) (.slice Ao14 t463.length co14) t463) ∧ jA (Kd.R (Kd.int .u64) 22 w' w.heap.size (fun k_ => some k_ ≠ ((.slice Ao14 t463.length co14) : Value).ownBlock ∧ some k_ ≠ (u7 : Value).ownBlock) (.slice Ao15 t466.length co15) t466) ∧ jA (Kd.R (Kd.int .u64) 22 w' w.heap.size (fun k_ => some k_ ≠ ((.slice Ao14 t463.length co14) : Value).ownBlock ∧ some k_ ≠ ((.slice Ao15 t466.length co15) : Value).ownBlock) u7 x7_3) ∧ jA (Below w.heap.size w w'))
       case atStart => exact ⟨(x7_2), (0), (0), sd_, sd_, H', ⟨Nat.le_refl _⟩, ⟨(rR_ HO_5)⟩, ⟨(rR_ HO_6)⟩, ⟨(rR_ HO_7)⟩, ⟨(bb_ HB)⟩⟩
       case round =>
        clear H'
        try clear c1
        try clear c2
        try clear p2
        try clear p6
        try clear c9
        try clear c9b0
        try clear c10
        try clear c16
        try clear c16b0
        try clear p2
        try clear p6
        obtain ⟨x7_3, x10_3, x11_3, rfl, rfl, HA, HK3, HO_5, HO_6, HO_7, HB⟩ := hrel
        cases gk with
        | zero => exact absurd HA.out (by simp [jG.l2])
        | succ k3 =>
         have H := HA.out
         clear HA
         simp only [jG.l2] at H
         by_cases c17 : x11_3 < (t466.length : Int)
         ·
          rw [if_pos c17] at H
          have c17b0 := decide_eq_true c17
          clear c17
          obtain ⟨ji18, hji18⟩ : ∃ j_ : Int, (wrap64 (x9_2 + x11_3)) = j_ := ⟨_, rfl⟩
          replace H : (if 0 ≤ (ji18) then (if (ji18) < (x7_3.length : Int) then (if 0 ≤ x9_2 then (if x9_2 < (t463.length : Int) then ((jf.f t466 x11_3).bind fun t480 => (jG.l2 k3 t463 t466 (x7_3.set ((ji18) : Int).toNat (Int.tmod (IntKind.u64.wrap ((IntKind.u64.wrap ((rd x7_3 (ji18)) + (IntKind.u64.wrap ((rd t463 x9_2) * t480)))) + x10_3)) 4294967296)) x9_2 (IntKind.u64.wrap (Int.tdiv (IntKind.u64.wrap ((IntKind.u64.wrap ((rd x7_3 (ji18)) + (IntKind.u64.wrap ((rd t463 x9_2) * t480)))) + x10_3)) 4294967296)) (wrap64 (x11_3 + 1)))) else (none)) else (none)) else (none)) else (none)) = some r := by first | (rw [hji18] at H; exact H) | (simp only [hji18] at H ⊢; exact H)
          have hji18w : (IntKind.i64.wrap (x9_2 + x11_3)) = ji18 := (jk _).trans hji18
          by_cases c19 : 0 ≤ (ji18)
          ·
           rw [if_pos c19] at H
           have c19b0 := decide_eq_true c19
           clear c19
           by_cases c20 : (ji18) < (x7_3.length : Int)
           ·
            rw [if_pos c20] at H
            have c20b0 := decide_eq_true c20
            clear c20
            by_cases c21 : 0 ≤ x9_2
            ·
             rw [if_pos c21] at H
             have c21b0 := decide_eq_true c21
             clear c21
             by_cases c22 : x9_2 < (t463.length : Int)
             ·
              rw [if_pos c22] at H
              have c22b0 := decide_eq_true c22
              clear c22
              replace H := ob_ H
              obtain ⟨t480, A230, H⟩ := H
              try dsimp only at H
              have A23 := jA.mk A230
              clear A230
              obtain ⟨ji24, hji24⟩ : ∃ j_ : Int, (Int.tmod (IntKind.u64.wrap ((IntKind.u64.wrap ((rd x7_3 (ji18)) + (IntKind.u64.wrap ((rd t463 x9_2) * t480)))) + x10_3)) 4294967296) = j_ := ⟨_, rfl⟩
              replace H : (jG.l2 k3 t463 t466 (x7_3.set ((ji18) : Int).toNat (ji24)) x9_2 (IntKind.u64.wrap (Int.tdiv (IntKind.u64.wrap ((IntKind.u64.wrap ((rd x7_3 (ji18)) + (IntKind.u64.wrap ((rd t463 x9_2) * t480)))) + x10_3)) 4294967296)) (wrap64 (x11_3 + 1))) = some r := by first | (rw [hji24] at H; exact H) | (simp only [hji24] at H ⊢; exact H)
              (try rw [hji24] at A23)
              obtain ⟨y481, hy481⟩ : ∃ y_ : List Int, y_ = (x7_3.set ((ji18) : Int).toNat (ji24)) := ⟨_, rfl⟩
              replace H : (jG.l2 k3 t463 t466 y481 x9_2 (IntKind.u64.wrap (Int.tdiv (IntKind.u64.wrap ((IntKind.u64.wrap ((rd x7_3 (ji18)) + (IntKind.u64.wrap ((rd t463 x9_2) * t480)))) + x10_3)) 4294967296)) (wrap64 (x11_3 + 1))) = some r := by first | (rw [hy481]; with_reducible exact H) | (have H2_ := (Option.bind_some _ _).symm.trans H; rw [hy481]; with_reducible exact H2_) | (with_reducible exact hs_ H) | with_reducible exact H | (rw [hy481]; exact H) | exact H
              have Ny481 := jA.mk hy481
              clear hy481
              have H' := jA.mk H
              clear H
              obtain ⟨Ao26, co26, eo26⟩ := Kd.jc HO_7.out
              subst eo26
              have p478 : 0 ≤ ((ji18) : Int) := of_decide_eq_true am_
              have q478 : (ji18) < (x7_3.length : Int) := of_decide_eq_true am_
              obtain ⟨ad478, e478, hx478_0⟩ := Kd.zF (Kd.jI HO_7.out).2.2 (ji18) p478 q478
              cases e478
              replace p478 := eq_true p478
              replace q478 := eq_true q478
              have p479 : 0 ≤ (x9_2 : Int) := of_decide_eq_true am_
              have q479 : x9_2 < (t463.length : Int) := of_decide_eq_true am_
              obtain ⟨ad479, e479, hx479_0⟩ := Kd.zF (Kd.jI HO_5.out).2.2 x9_2 p479 q479
              cases e479
              replace p479 := eq_true p479
              replace q479 := eq_true q479
              go_wp2_with (first | (go_at_call 69; (with_reducible refine (jf.calls _ _ t466 x11_3 t480 _ ?side1 ?side2 A23.out).mono ?_); (case side1 => exact cc_ (Kd.jI HO_6.out).2.2); (case side2 => exact (Kd.jI HO_6.out).2.1); rintro e w' ⟨rfl, ⟨nd, rfl⟩⟩; (try first | exact ⟨rfl, _, World.drewN_drewN _ _ _⟩ | exact ⟨rfl, _, Eq.trans (World.drewN_drewN _ _ _) (congrArg (World.drewN _) (Nat.add_assoc _ _ _))⟩); have p25 : 0 ≤ ((ji18) : Int) := of_decide_eq_true am_; have q25 : ((ji18) : Int) < ((x7_3.length : Int) : Int) := of_decide_eq_true am_; obtain ⟨go25, co25, eo25, gb25, gl25, cl25, HG25⟩ := Kd.jAB HO_7.out (by omega); (first | cases eo25 | (injection eo25 with ea_ en_ ec_; (first | subst ea_ | (injection ea_ with ea_; subst ea_)); subst ec_; clear en_)); have GB25 := jA.mk gb25; have GG25 := jA.mk HG25; clear gb25 gl25 HG25; (first | simp only [add_plain] at hx478_0 | skip); obtain ⟨hx25_0, hf25_0⟩ := Kd.zP 0 HO_7.out ((ji18) : Int) p25 q25; replace p25 := eq_true p25; replace q25 := eq_true q25; obtain ⟨hy27_, hz27_⟩ := Kd.zP 0 HO_7.out ((ji18) : Int) (of_decide_eq_true am_) (of_decide_eq_true am_); have HP27 := Kd.qo HO_7.out ((ji18) : Int) ji24) | ((with_reducible refine zn (t := 22) (p := 70) rfl ?_); (try (rw [jAI wr]; generalize hq_ : World.drewN wr _ = wr; have n0_ := jA.mk (Kd.R_at hq_ HO_5.out); have n1_ := jA.mk (Kd.R_at hq_ HO_6.out); have n2_ := jA.mk (Kd.R_at hq_ HO_7.out); have n3_ := jA.mk (jBR hq_ HB.out); clear hq_ HO_5 HO_6 HO_7 HB; have HO_5 := n0_; have HO_6 := n1_; have HO_7 := n2_; have HB := n3_; clear n0_ n1_ n2_ n3_; (try (obtain ⟨hy27_, hz27_⟩ := Kd.zP 0 HO_7.out ((ji18) : Int) (of_decide_eq_true am_) (of_decide_eq_true am_))); (try (have HP27 := Kd.qo HO_7.out ((ji18) : Int) ji24)))); refine zZ (t := 22) (p := 70) (v := ?vo_w28) (w1 := (wr.setCell ⟨go25, ((ji18) : Int).toNat, none⟩ (.int .u64 ji24))) ?hg ?ho ?hn ?hr ?_; (case ho => rfl); (case hg => rfl); (case hn => rfl); (case hr => exact gs_); intro w28 hw; have hg : wr.grownBy w28 (some go25) := (by rw [hw]; exact HP27.2); have hp_ : Kd.R (Kd.int .u64) 22 w28 w.heap.size (fun k_ => some k_ ≠ (.slice (some ad479) t463.length co14 : Value).ownBlock ∧ some k_ ≠ (.slice Ao15 t466.length co15 : Value).ownBlock) (.slice (some ⟨go25, 0, none⟩) x7_3.length co26) y481 := (by rw [hw, Ny481.out]; exact HP27.1); clear HP27; have n0_ := jA.mk (Kd.zX (v := (.slice (some ⟨go25, 0, none⟩) x7_3.length co26)) (v1 := (.slice (some ⟨go25, 0, none⟩) x7_3.length co26)) (ok := (fun k_ => some k_ ≠ (.slice Ao15 t466.length co15 : Value).ownBlock)) (rR_ HO_5) hg (.inl rfl)); have n1_ := jA.mk (Kd.zX (v := (.slice (some ⟨go25, 0, none⟩) x7_3.length co26)) (v1 := (.slice (some ⟨go25, 0, none⟩) x7_3.length co26)) (ok := (fun k_ => some k_ ≠ (.slice (some ad479) t463.length co14 : Value).ownBlock)) (rR_ HO_6) hg (.inl rfl)); have n2_ := jA.mk (hp_); have n3_ := jA.mk ((by rw [hw]; exact zD (HB.out) GB25.out : Below w.heap.size w w28)); clear HO_5 HO_6 HO_7 HB; have HO_5 := n0_; have HO_6 := n1_; have HO_7 := n2_; have HB := n3_; clear n0_ n1_ n2_ n3_ hg hw hp_))
              repeat (go_quiet (first | (go_at_call 69; (with_reducible refine (jf.calls _ _ t466 x11_3 t480 _ ?side1 ?side2 A23.out).mono ?_); (case side1 => exact cc_ (Kd.jI HO_6.out).2.2); (case side2 => exact (Kd.jI HO_6.out).2.1); rintro e w' ⟨rfl, ⟨nd, rfl⟩⟩; (try first | exact ⟨rfl, _, World.drewN_drewN _ _ _⟩ | exact ⟨rfl, _, Eq.trans (World.drewN_drewN _ _ _) (congrArg (World.drewN _) (Nat.add_assoc _ _ _))⟩); have p25 : 0 ≤ ((ji18) : Int) := of_decide_eq_true am_; have q25 : ((ji18) : Int) < ((x7_3.length : Int) : Int) := of_decide_eq_true am_; obtain ⟨go25, co25, eo25, gb25, gl25, cl25, HG25⟩ := Kd.jAB HO_7.out (by omega); (first | cases eo25 | (injection eo25 with ea_ en_ ec_; (first | subst ea_ | (injection ea_ with ea_; subst ea_)); subst ec_; clear en_)); have GB25 := jA.mk gb25; have GG25 := jA.mk HG25; clear gb25 gl25 HG25; (first | simp only [add_plain] at hx478_0 | skip); obtain ⟨hx25_0, hf25_0⟩ := Kd.zP 0 HO_7.out ((ji18) : Int) p25 q25; replace p25 := eq_true p25; replace q25 := eq_true q25; obtain ⟨hy27_, hz27_⟩ := Kd.zP 0 HO_7.out ((ji18) : Int) (of_decide_eq_true am_) (of_decide_eq_true am_); have HP27 := Kd.qo HO_7.out ((ji18) : Int) ji24) | ((with_reducible refine zn (t := 22) (p := 70) rfl ?_); (try (rw [jAI wr]; generalize hq_ : World.drewN wr _ = wr; have n0_ := jA.mk (Kd.R_at hq_ HO_5.out); have n1_ := jA.mk (Kd.R_at hq_ HO_6.out); have n2_ := jA.mk (Kd.R_at hq_ HO_7.out); have n3_ := jA.mk (jBR hq_ HB.out); clear hq_ HO_5 HO_6 HO_7 HB; have HO_5 := n0_; have HO_6 := n1_; have HO_7 := n2_; have HB := n3_; clear n0_ n1_ n2_ n3_; (try (obtain ⟨hy27_, hz27_⟩ := Kd.zP 0 HO_7.out ((ji18) : Int) (of_decide_eq_true am_) (of_decide_eq_true am_))); (try (have HP27 := Kd.qo HO_7.out ((ji18) : Int) ji24)))); refine zZ (t := 22) (p := 70) (v := ?vo_w28) (w1 := (wr.setCell ⟨go25, ((ji18) : Int).toNat, none⟩ (.int .u64 ji24))) ?hg ?ho ?hn ?hr ?_; (case ho => rfl); (case hg => rfl); (case hn => rfl); (case hr => exact gs_); intro w28 hw; have hg : wr.grownBy w28 (some go25) := (by rw [hw]; exact HP27.2); have hp_ : Kd.R (Kd.int .u64) 22 w28 w.heap.size (fun k_ => some k_ ≠ (.slice (some ad479) t463.length co14 : Value).ownBlock ∧ some k_ ≠ (.slice Ao15 t466.length co15 : Value).ownBlock) (.slice (some ⟨go25, 0, none⟩) x7_3.length co26) y481 := (by rw [hw, Ny481.out]; exact HP27.1); clear HP27; have n0_ := jA.mk (Kd.zX (v := (.slice (some ⟨go25, 0, none⟩) x7_3.length co26)) (v1 := (.slice (some ⟨go25, 0, none⟩) x7_3.length co26)) (ok := (fun k_ => some k_ ≠ (.slice Ao15 t466.length co15 : Value).ownBlock)) (rR_ HO_5) hg (.inl rfl)); have n1_ := jA.mk (Kd.zX (v := (.slice (some ⟨go25, 0, none⟩) x7_3.length co26)) (v1 := (.slice (some ⟨go25, 0, none⟩) x7_3.length co26)) (ok := (fun k_ => some k_ ≠ (.slice (some ad479) t463.length co14 : Value).ownBlock)) (rR_ HO_6) hg (.inl rfl)); have n2_ := jA.mk (hp_); have n3_ := jA.mk ((by rw [hw]; exact zD (HB.out) GB25.out : Below w.heap.size w w28)); clear HO_5 HO_6 HO_7 HB; have HO_5 := n0_; have HO_6 := n1_; have HO_7 := n2_; have HB := n3_; clear n0_ n1_ n2_ n3_ hg hw hp_)); try go_wp2_with (first | (go_at_call 69; (with_reducible refine (jf.calls _ _ t466 x11_3 t480 _ ?side1 ?side2 A23.out).mono ?_); (case side1 => exact cc_ (Kd.jI HO_6.out).2.2); (case side2 => exact (Kd.jI HO_6.out).2.1); rintro e w' ⟨rfl, ⟨nd, rfl⟩⟩; (try first | exact ⟨rfl, _, World.drewN_drewN _ _ _⟩ | exact ⟨rfl, _, Eq.trans (World.drewN_drewN _ _ _) (congrArg (World.drewN _) (Nat.add_assoc _ _ _))⟩); have p25 : 0 ≤ ((ji18) : Int) := of_decide_eq_true am_; have q25 : ((ji18) : Int) < ((x7_3.length : Int) : Int) := of_decide_eq_true am_; obtain ⟨go25, co25, eo25, gb25, gl25, cl25, HG25⟩ := Kd.jAB HO_7.out (by omega); (first | cases eo25 | (injection eo25 with ea_ en_ ec_; (first | subst ea_ | (injection ea_ with ea_; subst ea_)); subst ec_; clear en_)); have GB25 := jA.mk gb25; have GG25 := jA.mk HG25; clear gb25 gl25 HG25; (first | simp only [add_plain] at hx478_0 | skip); obtain ⟨hx25_0, hf25_0⟩ := Kd.zP 0 HO_7.out ((ji18) : Int) p25 q25; replace p25 := eq_true p25; replace q25 := eq_true q25; obtain ⟨hy27_, hz27_⟩ := Kd.zP 0 HO_7.out ((ji18) : Int) (of_decide_eq_true am_) (of_decide_eq_true am_); have HP27 := Kd.qo HO_7.out ((ji18) : Int) ji24) | ((with_reducible refine zn (t := 22) (p := 70) rfl ?_); (try (rw [jAI wr]; generalize hq_ : World.drewN wr _ = wr; have n0_ := jA.mk (Kd.R_at hq_ HO_5.out); have n1_ := jA.mk (Kd.R_at hq_ HO_6.out); have n2_ := jA.mk (Kd.R_at hq_ HO_7.out); have n3_ := jA.mk (jBR hq_ HB.out); clear hq_ HO_5 HO_6 HO_7 HB; have HO_5 := n0_; have HO_6 := n1_; have HO_7 := n2_; have HB := n3_; clear n0_ n1_ n2_ n3_; (try (obtain ⟨hy27_, hz27_⟩ := Kd.zP 0 HO_7.out ((ji18) : Int) (of_decide_eq_true am_) (of_decide_eq_true am_))); (try (have HP27 := Kd.qo HO_7.out ((ji18) : Int) ji24)))); refine zZ (t := 22) (p := 70) (v := ?vo_w28) (w1 := (wr.setCell ⟨go25, ((ji18) : Int).toNat, none⟩ (.int .u64 ji24))) ?hg ?ho ?hn ?hr ?_; (case ho => rfl); (case hg => rfl); (case hn => rfl); (case hr => exact gs_); intro w28 hw; have hg : wr.grownBy w28 (some go25) := (by rw [hw]; exact HP27.2); have hp_ : Kd.R (Kd.int .u64) 22 w28 w.heap.size (fun k_ => some k_ ≠ (.slice (some ad479) t463.length co14 : Value).ownBlock ∧ some k_ ≠ (.slice Ao15 t466.length co15 : Value).ownBlock) (.slice (some ⟨go25, 0, none⟩) x7_3.length co26) y481 := (by rw [hw, Ny481.out]; exact HP27.1); clear HP27; have n0_ := jA.mk (Kd.zX (v := (.slice (some ⟨go25, 0, none⟩) x7_3.length co26)) (v1 := (.slice (some ⟨go25, 0, none⟩) x7_3.length co26)) (ok := (fun k_ => some k_ ≠ (.slice Ao15 t466.length co15 : Value).ownBlock)) (rR_ HO_5) hg (.inl rfl)); have n1_ := jA.mk (Kd.zX (v := (.slice (some ⟨go25, 0, none⟩) x7_3.length co26)) (v1 := (.slice (some ⟨go25, 0, none⟩) x7_3.length co26)) (ok := (fun k_ => some k_ ≠ (.slice (some ad479) t463.length co14 : Value).ownBlock)) (rR_ HO_6) hg (.inl rfl)); have n2_ := jA.mk (hp_); have n3_ := jA.mk ((by rw [hw]; exact zD (HB.out) GB25.out : Below w.heap.size w w28)); clear HO_5 HO_6 HO_7 HB; have HO_5 := n0_; have HO_6 := n1_; have HO_7 := n2_; have HB := n3_; clear n0_ n1_ n2_ n3_ hg hw hp_)))
              go_roundg k3
              case measure => have := HK1.out; have := HK2.out; have := HK3.out; omega
              case rel => exact ⟨(y481), (IntKind.u64.wrap (Int.tdiv (IntKind.u64.wrap ((IntKind.u64.wrap ((rd x7_3 (ji18)) + (IntKind.u64.wrap ((rd t463 x9_2) * t480)))) + x10_3)) 4294967296)), (wrap64 (x11_3 + 1)), (by first | rfl | (simp; done) | (simp only [← hji18] <;> (first | rfl | simp)) | (simp [*]; done)), sd_, H', ⟨by have := HK1.out; have := HK2.out; have := HK3.out; omega⟩, ⟨(rR_ HO_5)⟩, ⟨(rR_ HO_6)⟩, ⟨(rR_ HO_7)⟩, ⟨(bb_ HB)⟩⟩
             ·
              rw [if_neg c22] at H
              exact absurd H (by simp)
            ·
             rw [if_neg c21] at H
             exact absurd H (by simp)
           ·
            rw [if_neg c20] at H
            exact absurd H (by simp)
          ·
           rw [if_neg c19] at H
           exact absurd H (by simp)
         ·
          rw [if_neg c17] at H
          have c17b0 := decide_eq_false c17
          clear c17
          by_cases c29 : x10_3 > 0
          ·
           rw [if_pos c29] at H
           have c29b0 := decide_eq_true c29
           clear c29
           obtain ⟨ji30, hji30⟩ : ∃ j_ : Int, (wrap64 (x9_2 + x11_3)) = j_ := ⟨_, rfl⟩
           replace H : (if 0 ≤ (ji30) then (if (ji30) < (x7_3.length : Int) then (if 0 ≤ x9_2 then (if x9_2 < (t463.length : Int) then ((jf.f t466 x11_3).bind fun t484 => (jG.l2 k3 t463 t466 (x7_3.set ((ji30) : Int).toNat (Int.tmod (IntKind.u64.wrap ((IntKind.u64.wrap ((rd x7_3 (ji30)) + (IntKind.u64.wrap ((rd t463 x9_2) * t484)))) + x10_3)) 4294967296)) x9_2 (IntKind.u64.wrap (Int.tdiv (IntKind.u64.wrap ((IntKind.u64.wrap ((rd x7_3 (ji30)) + (IntKind.u64.wrap ((rd t463 x9_2) * t484)))) + x10_3)) 4294967296)) (wrap64 (x11_3 + 1)))) else (none)) else (none)) else (none)) else (none)) = some r := by first | (rw [hji30] at H; exact H) | (simp only [hji30] at H ⊢; exact H)
           have hji30w : (IntKind.i64.wrap (x9_2 + x11_3)) = ji30 := (jk _).trans hji30
           by_cases c31 : 0 ≤ (ji30)
           ·
            rw [if_pos c31] at H
            have c31b0 := decide_eq_true c31
            clear c31
            by_cases c32 : (ji30) < (x7_3.length : Int)
            ·
             rw [if_pos c32] at H
             have c32b0 := decide_eq_true c32
             clear c32
             by_cases c33 : 0 ≤ x9_2
             ·
              rw [if_pos c33] at H
              have c33b0 := decide_eq_true c33
              clear c33
              by_cases c34 : x9_2 < (t463.length : Int)
              ·
               rw [if_pos c34] at H
               have c34b0 := decide_eq_true c34
               clear c34
               replace H := ob_ H
               obtain ⟨t484, A350, H⟩ := H
               try dsimp only at H
               have A35 := jA.mk A350
               clear A350
               obtain ⟨ji36, hji36⟩ : ∃ j_ : Int, (Int.tmod (IntKind.u64.wrap ((IntKind.u64.wrap ((rd x7_3 (ji30)) + (IntKind.u64.wrap ((rd t463 x9_2) * t484)))) + x10_3)) 4294967296) = j_ := ⟨_, rfl⟩
               replace H : (jG.l2 k3 t463 t466 (x7_3.set ((ji30) : Int).toNat (ji36)) x9_2 (IntKind.u64.wrap (Int.tdiv (IntKind.u64.wrap ((IntKind.u64.wrap ((rd x7_3 (ji30)) + (IntKind.u64.wrap ((rd t463 x9_2) * t484)))) + x10_3)) 4294967296)) (wrap64 (x11_3 + 1))) = some r := by first | (rw [hji36] at H; exact H) | (simp only [hji36] at H ⊢; exact H)
               (try rw [hji36] at A35)
               obtain ⟨y485, hy485⟩ : ∃ y_ : List Int, y_ = (x7_3.set ((ji30) : Int).toNat (ji36)) := ⟨_, rfl⟩
               replace H : (jG.l2 k3 t463 t466 y485 x9_2 (IntKind.u64.wrap (Int.tdiv (IntKind.u64.wrap ((IntKind.u64.wrap ((rd x7_3 (ji30)) + (IntKind.u64.wrap ((rd t463 x9_2) * t484)))) + x10_3)) 4294967296)) (wrap64 (x11_3 + 1))) = some r := by first | (rw [hy485]; with_reducible exact H) | (have H2_ := (Option.bind_some _ _).symm.trans H; rw [hy485]; with_reducible exact H2_) | (with_reducible exact hs_ H) | with_reducible exact H | (rw [hy485]; exact H) | exact H
               have Ny485 := jA.mk hy485
               clear hy485
               have H' := jA.mk H
               clear H
               obtain ⟨Ao38, co38, eo38⟩ := Kd.jc HO_7.out
               subst eo38
               have p482 : 0 ≤ ((ji30) : Int) := of_decide_eq_true am_
               have q482 : (ji30) < (x7_3.length : Int) := of_decide_eq_true am_
               obtain ⟨ad482, e482, hx482_0⟩ := Kd.zF (Kd.jI HO_7.out).2.2 (ji30) p482 q482
               cases e482
               replace p482 := eq_true p482
               replace q482 := eq_true q482
               have p483 : 0 ≤ (x9_2 : Int) := of_decide_eq_true am_
               have q483 : x9_2 < (t463.length : Int) := of_decide_eq_true am_
               obtain ⟨ad483, e483, hx483_0⟩ := Kd.zF (Kd.jI HO_5.out).2.2 x9_2 p483 q483
               cases e483
               replace p483 := eq_true p483
               replace q483 := eq_true q483
               go_wp2_with (first | (go_at_call 69; (with_reducible refine (jf.calls _ _ t466 x11_3 t484 _ ?side1 ?side2 A35.out).mono ?_); (case side1 => exact cc_ (Kd.jI HO_6.out).2.2); (case side2 => exact (Kd.jI HO_6.out).2.1); rintro e w' ⟨rfl, ⟨nd, rfl⟩⟩; (try first | exact ⟨rfl, _, World.drewN_drewN _ _ _⟩ | exact ⟨rfl, _, Eq.trans (World.drewN_drewN _ _ _) (congrArg (World.drewN _) (Nat.add_assoc _ _ _))⟩); have p37 : 0 ≤ ((ji30) : Int) := of_decide_eq_true am_; have q37 : ((ji30) : Int) < ((x7_3.length : Int) : Int) := of_decide_eq_true am_; obtain ⟨go37, co37, eo37, gb37, gl37, cl37, HG37⟩ := Kd.jAB HO_7.out (by omega); (first | cases eo37 | (injection eo37 with ea_ en_ ec_; (first | subst ea_ | (injection ea_ with ea_; subst ea_)); subst ec_; clear en_)); have GB37 := jA.mk gb37; have GG37 := jA.mk HG37; clear gb37 gl37 HG37; (first | simp only [add_plain] at hx482_0 | skip); obtain ⟨hx37_0, hf37_0⟩ := Kd.zP 0 HO_7.out ((ji30) : Int) p37 q37; replace p37 := eq_true p37; replace q37 := eq_true q37; obtain ⟨hy39_, hz39_⟩ := Kd.zP 0 HO_7.out ((ji30) : Int) (of_decide_eq_true am_) (of_decide_eq_true am_); have HP39 := Kd.qo HO_7.out ((ji30) : Int) ji36) | ((with_reducible refine zn (t := 22) (p := 70) rfl ?_); (try (rw [jAI wr]; generalize hq_ : World.drewN wr _ = wr; have n0_ := jA.mk (Kd.R_at hq_ HO_5.out); have n1_ := jA.mk (Kd.R_at hq_ HO_6.out); have n2_ := jA.mk (Kd.R_at hq_ HO_7.out); have n3_ := jA.mk (jBR hq_ HB.out); clear hq_ HO_5 HO_6 HO_7 HB; have HO_5 := n0_; have HO_6 := n1_; have HO_7 := n2_; have HB := n3_; clear n0_ n1_ n2_ n3_; (try (obtain ⟨hy39_, hz39_⟩ := Kd.zP 0 HO_7.out ((ji30) : Int) (of_decide_eq_true am_) (of_decide_eq_true am_))); (try (have HP39 := Kd.qo HO_7.out ((ji30) : Int) ji36)))); refine zZ (t := 22) (p := 70) (v := ?vo_w40) (w1 := (wr.setCell ⟨go37, ((ji30) : Int).toNat, none⟩ (.int .u64 ji36))) ?hg ?ho ?hn ?hr ?_; (case ho => rfl); (case hg => rfl); (case hn => rfl); (case hr => exact gs_); intro w40 hw; have hg : wr.grownBy w40 (some go37) := (by rw [hw]; exact HP39.2); have hp_ : Kd.R (Kd.int .u64) 22 w40 w.heap.size (fun k_ => some k_ ≠ (.slice (some ad483) t463.length co14 : Value).ownBlock ∧ some k_ ≠ (.slice Ao15 t466.length co15 : Value).ownBlock) (.slice (some ⟨go37, 0, none⟩) x7_3.length co38) y485 := (by rw [hw, Ny485.out]; exact HP39.1); clear HP39; have n0_ := jA.mk (Kd.zX (v := (.slice (some ⟨go37, 0, none⟩) x7_3.length co38)) (v1 := (.slice (some ⟨go37, 0, none⟩) x7_3.length co38)) (ok := (fun k_ => some k_ ≠ (.slice Ao15 t466.length co15 : Value).ownBlock)) (rR_ HO_5) hg (.inl rfl)); have n1_ := jA.mk (Kd.zX (v := (.slice (some ⟨go37, 0, none⟩) x7_3.length co38)) (v1 := (.slice (some ⟨go37, 0, none⟩) x7_3.length co38)) (ok := (fun k_ => some k_ ≠ (.slice (some ad483) t463.length co14 : Value).ownBlock)) (rR_ HO_6) hg (.inl rfl)); have n2_ := jA.mk (hp_); have n3_ := jA.mk ((by rw [hw]; exact zD (HB.out) GB37.out : Below w.heap.size w w40)); clear HO_5 HO_6 HO_7 HB; have HO_5 := n0_; have HO_6 := n1_; have HO_7 := n2_; have HB := n3_; clear n0_ n1_ n2_ n3_ hg hw hp_))
               repeat (go_quiet (first | (go_at_call 69; (with_reducible refine (jf.calls _ _ t466 x11_3 t484 _ ?side1 ?side2 A35.out).mono ?_); (case side1 => exact cc_ (Kd.jI HO_6.out).2.2); (case side2 => exact (Kd.jI HO_6.out).2.1); rintro e w' ⟨rfl, ⟨nd, rfl⟩⟩; (try first | exact ⟨rfl, _, World.drewN_drewN _ _ _⟩ | exact ⟨rfl, _, Eq.trans (World.drewN_drewN _ _ _) (congrArg (World.drewN _) (Nat.add_assoc _ _ _))⟩); have p37 : 0 ≤ ((ji30) : Int) := of_decide_eq_true am_; have q37 : ((ji30) : Int) < ((x7_3.length : Int) : Int) := of_decide_eq_true am_; obtain ⟨go37, co37, eo37, gb37, gl37, cl37, HG37⟩ := Kd.jAB HO_7.out (by omega); (first | cases eo37 | (injection eo37 with ea_ en_ ec_; (first | subst ea_ | (injection ea_ with ea_; subst ea_)); subst ec_; clear en_)); have GB37 := jA.mk gb37; have GG37 := jA.mk HG37; clear gb37 gl37 HG37; (first | simp only [add_plain] at hx482_0 | skip); obtain ⟨hx37_0, hf37_0⟩ := Kd.zP 0 HO_7.out ((ji30) : Int) p37 q37; replace p37 := eq_true p37; replace q37 := eq_true q37; obtain ⟨hy39_, hz39_⟩ := Kd.zP 0 HO_7.out ((ji30) : Int) (of_decide_eq_true am_) (of_decide_eq_true am_); have HP39 := Kd.qo HO_7.out ((ji30) : Int) ji36) | ((with_reducible refine zn (t := 22) (p := 70) rfl ?_); (try (rw [jAI wr]; generalize hq_ : World.drewN wr _ = wr; have n0_ := jA.mk (Kd.R_at hq_ HO_5.out); have n1_ := jA.mk (Kd.R_at hq_ HO_6.out); have n2_ := jA.mk (Kd.R_at hq_ HO_7.out); have n3_ := jA.mk (jBR hq_ HB.out); clear hq_ HO_5 HO_6 HO_7 HB; have HO_5 := n0_; have HO_6 := n1_; have HO_7 := n2_; have HB := n3_; clear n0_ n1_ n2_ n3_; (try (obtain ⟨hy39_, hz39_⟩ := Kd.zP 0 HO_7.out ((ji30) : Int) (of_decide_eq_true am_) (of_decide_eq_true am_))); (try (have HP39 := Kd.qo HO_7.out ((ji30) : Int) ji36)))); refine zZ (t := 22) (p := 70) (v := ?vo_w40) (w1 := (wr.setCell ⟨go37, ((ji30) : Int).toNat, none⟩ (.int .u64 ji36))) ?hg ?ho ?hn ?hr ?_; (case ho => rfl); (case hg => rfl); (case hn => rfl); (case hr => exact gs_); intro w40 hw; have hg : wr.grownBy w40 (some go37) := (by rw [hw]; exact HP39.2); have hp_ : Kd.R (Kd.int .u64) 22 w40 w.heap.size (fun k_ => some k_ ≠ (.slice (some ad483) t463.length co14 : Value).ownBlock ∧ some k_ ≠ (.slice Ao15 t466.length co15 : Value).ownBlock) (.slice (some ⟨go37, 0, none⟩) x7_3.length co38) y485 := (by rw [hw, Ny485.out]; exact HP39.1); clear HP39; have n0_ := jA.mk (Kd.zX (v := (.slice (some ⟨go37, 0, none⟩) x7_3.length co38)) (v1 := (.slice (some ⟨go37, 0, none⟩) x7_3.length co38)) (ok := (fun k_ => some k_ ≠ (.slice Ao15 t466.length co15 : Value).ownBlock)) (rR_ HO_5) hg (.inl rfl)); have n1_ := jA.mk (Kd.zX (v := (.slice (some ⟨go37, 0, none⟩) x7_3.length co38)) (v1 := (.slice (some ⟨go37, 0, none⟩) x7_3.length co38)) (ok := (fun k_ => some k_ ≠ (.slice (some ad483) t463.length co14 : Value).ownBlock)) (rR_ HO_6) hg (.inl rfl)); have n2_ := jA.mk (hp_); have n3_ := jA.mk ((by rw [hw]; exact zD (HB.out) GB37.out : Below w.heap.size w w40)); clear HO_5 HO_6 HO_7 HB; have HO_5 := n0_; have HO_6 := n1_; have HO_7 := n2_; have HB := n3_; clear n0_ n1_ n2_ n3_ hg hw hp_)); try go_wp2_with (first | (go_at_call 69; (with_reducible refine (jf.calls _ _ t466 x11_3 t484 _ ?side1 ?side2 A35.out).mono ?_); (case side1 => exact cc_ (Kd.jI HO_6.out).2.2); (case side2 => exact (Kd.jI HO_6.out).2.1); rintro e w' ⟨rfl, ⟨nd, rfl⟩⟩; (try first | exact ⟨rfl, _, World.drewN_drewN _ _ _⟩ | exact ⟨rfl, _, Eq.trans (World.drewN_drewN _ _ _) (congrArg (World.drewN _) (Nat.add_assoc _ _ _))⟩); have p37 : 0 ≤ ((ji30) : Int) := of_decide_eq_true am_; have q37 : ((ji30) : Int) < ((x7_3.length : Int) : Int) := of_decide_eq_true am_; obtain ⟨go37, co37, eo37, gb37, gl37, cl37, HG37⟩ := Kd.jAB HO_7.out (by omega); (first | cases eo37 | (injection eo37 with ea_ en_ ec_; (first | subst ea_ | (injection ea_ with ea_; subst ea_)); subst ec_; clear en_)); have GB37 := jA.mk gb37; have GG37 := jA.mk HG37; clear gb37 gl37 HG37; (first | simp only [add_plain] at hx482_0 | skip); obtain ⟨hx37_0, hf37_0⟩ := Kd.zP 0 HO_7.out ((ji30) : Int) p37 q37; replace p37 := eq_true p37; replace q37 := eq_true q37; obtain ⟨hy39_, hz39_⟩ := Kd.zP 0 HO_7.out ((ji30) : Int) (of_decide_eq_true am_) (of_decide_eq_true am_); have HP39 := Kd.qo HO_7.out ((ji30) : Int) ji36) | ((with_reducible refine zn (t := 22) (p := 70) rfl ?_); (try (rw [jAI wr]; generalize hq_ : World.drewN wr _ = wr; have n0_ := jA.mk (Kd.R_at hq_ HO_5.out); have n1_ := jA.mk (Kd.R_at hq_ HO_6.out); have n2_ := jA.mk (Kd.R_at hq_ HO_7.out); have n3_ := jA.mk (jBR hq_ HB.out); clear hq_ HO_5 HO_6 HO_7 HB; have HO_5 := n0_; have HO_6 := n1_; have HO_7 := n2_; have HB := n3_; clear n0_ n1_ n2_ n3_; (try (obtain ⟨hy39_, hz39_⟩ := Kd.zP 0 HO_7.out ((ji30) : Int) (of_decide_eq_true am_) (of_decide_eq_true am_))); (try (have HP39 := Kd.qo HO_7.out ((ji30) : Int) ji36)))); refine zZ (t := 22) (p := 70) (v := ?vo_w40) (w1 := (wr.setCell ⟨go37, ((ji30) : Int).toNat, none⟩ (.int .u64 ji36))) ?hg ?ho ?hn ?hr ?_; (case ho => rfl); (case hg => rfl); (case hn => rfl); (case hr => exact gs_); intro w40 hw; have hg : wr.grownBy w40 (some go37) := (by rw [hw]; exact HP39.2); have hp_ : Kd.R (Kd.int .u64) 22 w40 w.heap.size (fun k_ => some k_ ≠ (.slice (some ad483) t463.length co14 : Value).ownBlock ∧ some k_ ≠ (.slice Ao15 t466.length co15 : Value).ownBlock) (.slice (some ⟨go37, 0, none⟩) x7_3.length co38) y485 := (by rw [hw, Ny485.out]; exact HP39.1); clear HP39; have n0_ := jA.mk (Kd.zX (v := (.slice (some ⟨go37, 0, none⟩) x7_3.length co38)) (v1 := (.slice (some ⟨go37, 0, none⟩) x7_3.length co38)) (ok := (fun k_ => some k_ ≠ (.slice Ao15 t466.length co15 : Value).ownBlock)) (rR_ HO_5) hg (.inl rfl)); have n1_ := jA.mk (Kd.zX (v := (.slice (some ⟨go37, 0, none⟩) x7_3.length co38)) (v1 := (.slice (some ⟨go37, 0, none⟩) x7_3.length co38)) (ok := (fun k_ => some k_ ≠ (.slice (some ad483) t463.length co14 : Value).ownBlock)) (rR_ HO_6) hg (.inl rfl)); have n2_ := jA.mk (hp_); have n3_ := jA.mk ((by rw [hw]; exact zD (HB.out) GB37.out : Below w.heap.size w w40)); clear HO_5 HO_6 HO_7 HB; have HO_5 := n0_; have HO_6 := n1_; have HO_7 := n2_; have HB := n3_; clear n0_ n1_ n2_ n3_ hg hw hp_)))
               go_roundg k3
               case measure => have := HK1.out; have := HK2.out; have := HK3.out; omega
               case rel => exact ⟨(y485), (IntKind.u64.wrap (Int.tdiv (IntKind.u64.wrap ((IntKind.u64.wrap ((rd x7_3 (ji30)) + (IntKind.u64.wrap ((rd t463 x9_2) * t484)))) + x10_3)) 4294967296)), (wrap64 (x11_3 + 1)), (by first | rfl | (simp; done) | (simp only [← hji30] <;> (first | rfl | simp)) | (simp [*]; done)), sd_, H', ⟨by have := HK1.out; have := HK2.out; have := HK3.out; omega⟩, ⟨(rR_ HO_5)⟩, ⟨(rR_ HO_6)⟩, ⟨(rR_ HO_7)⟩, ⟨(bb_ HB)⟩⟩
              ·
               rw [if_neg c34] at H
               exact absurd H (by simp)
             ·
              rw [if_neg c33] at H
              exact absurd H (by simp)
            ·
             rw [if_neg c32] at H
             exact absurd H (by simp)
           ·
            rw [if_neg c31] at H
            exact absurd H (by simp)
          ·
           rw [if_neg c29] at H
           have c29b0 := decide_eq_false c29
           clear c29
           have H' := jA.mk H
           clear H
           go_wp2
           repeat (go_quiet (fail); try go_wp2)
           go_roundg k3
           case measure => have := HK1.out; have := HK2.out; have := HK3.out; omega
           case rel => exact ⟨(x7_3), (wrap64 (x9_2 + 1)), sd_, H', ⟨by have := HK1.out; have := HK2.out; have := HK3.out; omega⟩, ⟨(rR_ HO_5)⟩, ⟨(rR_ HO_6)⟩, ⟨(rR_ HO_7)⟩, ⟨(bb_ HB)⟩⟩
      ·
       rw [if_neg c16] at H
       have c16b0 := decide_eq_false c16
       clear c16
       replace H := ob_ H
       obtain ⟨t475, A410, H⟩ := H
       replace H : (some t475) = some r := H
       have A41 := jA.mk A410
       clear A410
       obtain rfl := Option.some.inj H
       obtain ⟨Ao42, co42, eo42⟩ := Kd.jc HO_7.out
       subst eo42
       go_wp2_with (first | (go_at_call 70; (with_reducible refine (jO.calls k2 _ _ x7_2 t475 _ ?side1 ?side2 A41.out).mono ?_); (case side1 => exact cc_ (Kd.jI HO_7.out).2.2); (case side2 => exact (Kd.jI HO_7.out).2.1); rintro e w43 ⟨v476, rfl, ho0, hb⟩; have n0_ := jA.mk (Kd.jK (rR_ HO_5) (Kd.jL ho0) hb); have n1_ := jA.mk (Kd.jK (rR_ HO_6) (Kd.jL ho0) hb); have n2_ := jA.mk (Kd.jK (rR_ HO_7) (Kd.jL ho0) hb); have n3_ := jA.mk (Kd.jS (Kd.jN (Kd.jN (Kd.jN ho0 (Kd.R_lt (rR_ HO_5))) (Kd.R_lt (rR_ HO_6))) (Kd.R_lt (rR_ HO_7))) (jB (bb_ HB))); have n4_ := jA.mk (jC (bb_ HB) hb); clear HO_5 HO_6 HO_7 HB; have HO_5 := n0_; have HO_6 := n1_; have HO_7 := n2_; have HO477 := n3_; have HB := n4_; clear n0_ n1_ n2_ n3_ n4_))
       repeat (go_quiet (first | (go_at_call 70; (with_reducible refine (jO.calls k2 _ _ x7_2 t475 _ ?side1 ?side2 A41.out).mono ?_); (case side1 => exact cc_ (Kd.jI HO_7.out).2.2); (case side2 => exact (Kd.jI HO_7.out).2.1); rintro e w43 ⟨v476, rfl, ho0, hb⟩; have n0_ := jA.mk (Kd.jK (rR_ HO_5) (Kd.jL ho0) hb); have n1_ := jA.mk (Kd.jK (rR_ HO_6) (Kd.jL ho0) hb); have n2_ := jA.mk (Kd.jK (rR_ HO_7) (Kd.jL ho0) hb); have n3_ := jA.mk (Kd.jS (Kd.jN (Kd.jN (Kd.jN ho0 (Kd.R_lt (rR_ HO_5))) (Kd.R_lt (rR_ HO_6))) (Kd.R_lt (rR_ HO_7))) (jB (bb_ HB))); have n4_ := jA.mk (jC (bb_ HB) hb); clear HO_5 HO_6 HO_7 HB; have HO_5 := n0_; have HO_6 := n1_; have HO_7 := n2_; have HO477 := n3_; have HB := n4_; clear n0_ n1_ n2_ n3_ n4_)); try go_wp2_with (first | (go_at_call 70; (with_reducible refine (jO.calls k2 _ _ x7_2 t475 _ ?side1 ?side2 A41.out).mono ?_); (case side1 => exact cc_ (Kd.jI HO_7.out).2.2); (case side2 => exact (Kd.jI HO_7.out).2.1); rintro e w43 ⟨v476, rfl, ho0, hb⟩; have n0_ := jA.mk (Kd.jK (rR_ HO_5) (Kd.jL ho0) hb); have n1_ := jA.mk (Kd.jK (rR_ HO_6) (Kd.jL ho0) hb); have n2_ := jA.mk (Kd.jK (rR_ HO_7) (Kd.jL ho0) hb); have n3_ := jA.mk (Kd.jS (Kd.jN (Kd.jN (Kd.jN ho0 (Kd.R_lt (rR_ HO_5))) (Kd.R_lt (rR_ HO_6))) (Kd.R_lt (rR_ HO_7))) (jB (bb_ HB))); have n4_ := jA.mk (jC (bb_ HB) hb); clear HO_5 HO_6 HO_7 HB; have HO_5 := n0_; have HO_6 := n1_; have HO_7 := n2_; have HO477 := n3_; have HB := n4_; clear n0_ n1_ n2_ n3_ n4_)))
       go_ret
       exact ⟨_, ew_, by refine pR_ ?_; exact Kd.jP HO477.out (fun _ hk => trivial), (bb_ HB)⟩

/-! ### jQ: function 102 -/
mutual
def jQ.l0 : Nat → List Int → List Int → List Int → Int → Int → Option (List Int)
 | 0, _, _, _, _, _ => none
 | k + 1, x5, x6, x7, x8, x9 => if x9 < (x5.length : Int) then (jQ.j1 k x5 x6 x7 x8 x9 true) else (if x9 < (x6.length : Int) then (jQ.j1 k x5 x6 x7 x8 x9 true) else (jQ.j1 k x5 x6 x7 x8 x9 (decide (x8 > 0))))
def jQ.j1 : Nat → List Int → List Int → List Int → Int → Int → Bool → Option (List Int)
 | 0, _, _, _, _, _, _ => none
 | k + 1, x5, x6, x7, x8, x9, x29 => if x29 = true then ((jf.f x5 x9).bind fun t495 => ((jf.f x6 x9).bind fun t496 => (if x7.length < 17592186044416 then (jQ.l0 k x5 x6 (x7 ++ [Int.tmod (IntKind.u64.wrap ((IntKind.u64.wrap (t495 + t496)) + x8)) 4294967296]) (IntKind.u64.wrap (Int.tdiv (IntKind.u64.wrap ((IntKind.u64.wrap (t495 + t496)) + x8)) 4294967296)) (wrap64 (x9 + 1))) else (none)))) else ((jO.f k x7).bind fun t500 => (some t500))
end
def jQ.f (k : Nat) (l0 : List Int) (l1 : List Int) : Option (List Int) := (jH.f k l0).bind fun t486 => ((jH.f k l1).bind fun t489 => (jQ.l0 k t486 t489 (([] : List Int)) 0 0))
theorem jQ.vk : ∀ k, (∀ y0 y1 y2 y3 y4, LeO (jQ.l0 k y0 y1 y2 y3 y4) (jQ.l0 (k + 1) y0 y1 y2 y3 y4)) ∧ (∀ y0 y1 y2 y3 y4 y5, LeO (jQ.j1 k y0 y1 y2 y3 y4 y5) (jQ.j1 (k + 1) y0 y1 y2 y3 y4 y5))
 | 0 => ⟨fun _ _ _ _ _ r h => by simp [jQ.l0] at h, fun _ _ _ _ _ _ r h => by simp [jQ.j1] at h⟩
 | k + 1 => by
  obtain ⟨ih0, ih1⟩ := jQ.vk k
  refine ⟨?_, ?_⟩ <;> (intros; first | unfold jQ.l0 | unfold jQ.j1) <;> repeat' first
   | (with_reducible exact ih0 _ _ _ _ _)
   | (with_reducible exact ih1 _ _ _ _ _ _)
   | (with_reducible exact jH.mono _ _)
   | (with_reducible exact jO.mono _ _)
   | (with_reducible exact LeO.refl _)
   | (with_reducible exact LeO.none _)
   | (with_reducible refine LeO.ite ?_ ?_)
   | (with_reducible refine LeO.bind ?_ (fun _ => ?_))
theorem jQ.mono : ∀ a0 a1 k, LeO (jQ.f k a0 a1) (jQ.f (k + 1) a0 a1) := by
 intro a0 a1 k
 obtain ⟨ih0, ih1⟩ := jQ.vk k
 unfold jQ.f
 repeat' first
   | (with_reducible exact ih0 _ _ _ _ _)
   | (with_reducible exact ih1 _ _ _ _ _ _)
   | (with_reducible exact jH.mono _ _)
   | (with_reducible exact jO.mono _ _)
   | (with_reducible exact LeO.refl _)
   | (with_reducible exact LeO.none _)
   | (with_reducible refine LeO.ite ?_ ?_)
   | (with_reducible refine LeO.bind ?_ (fun _ => ?_))
theorem jQ.calls (k : Nat) (A0 : Option Addr) (c0 : Nat) (l0 : List Int) (A1 : Option Addr) (c1 : Nat) (l1 : List Int) (r : List Int) (w : World) (hr0 : Kd.C (Kd.int .u64) w A0 l0.length l0) (hc0 : l0.length ≤ c0) (hr1 : Kd.C (Kd.int .u64) w A1 l1.length l1) (hc1 : l1.length ≤ c1) (h : jQ.f k l0 l1 = some r) :
  Calls Try.prog 102 #[.slice A0 l0.length c0, .slice A1 l1.length c1] w fun e w' => ∃ v0_ : Value, e = .returned (v0_) ∧ Kd.R (Kd.int .u64) 22 w' w.heap.size (fun _ => True) v0_ r ∧ Below w.heap.size w w' := by
 have HR0 := jA.mk hr0
 have HC0 := jA.mk hc0
 clear hr0 hc0
 have HR1 := jA.mk hr1
 have HC1 := jA.mk hc1
 clear hr1 hc1
 have HB := jA.mk (Below.refl w.heap.size w)
 have H : ((jH.f k l0).bind fun t486 => ((jH.f k l1).bind fun t489 => (jQ.l0 k t486 t489 (([] : List Int)) 0 0))) = some r := h
 clear h
 replace H := ob_ H
 obtain ⟨t486, A30, H⟩ := H
 try dsimp only at H
 have A3 := jA.mk A30
 clear A30
 replace H := ob_ H
 obtain ⟨t489, A40, H⟩ := H
 try dsimp only at H
 have A4 := jA.mk A40
 clear A40
 obtain ⟨y492, hy492⟩ : ∃ y_ : List Int, y_ = (([] : List Int)) := ⟨_, rfl⟩
 replace H : (jQ.l0 k t486 t489 y492 0 0) = some r := by first | (rw [hy492]; with_reducible exact H) | (have H2_ := (Option.bind_some _ _).symm.trans H; rw [hy492]; with_reducible exact H2_) | (with_reducible exact hs_ H) | with_reducible exact H | (rw [hy492]; exact H) | exact H
 have Ny492 := jA.mk hy492
 clear hy492
 have H' := jA.mk H
 clear H
 go_enter Try.func102, Try.ntmps102
 go_wp2_with (first | ((with_reducible refine jJ (f := 68) rfl ?_); refine jr (some 12) rfl rfl Try.func68 kr_ rfl #[.slice A0 l0.length c0] rfl mt_ ?_; (with_reducible refine (jH.calls k _ _ l0 t486 _ ?side1 ?side2 A3.out).mono ?_); (case side1 => exact cc_ HR0.out); (case side2 => exact HC0.out); rintro e w5 ⟨v487, rfl, ho0, hb⟩; refine ⟨_, rfl, ?_⟩; have n0_ := jA.mk (Kd.jS ho0 (jB (bb_ HB))); have n1_ := jA.mk (jC (bb_ HB) hb); clear HB; have HO488 := n0_; have HB := n1_; clear n0_ n1_) | ((with_reducible refine jJ (f := 68) rfl ?_); refine jr (some 14) rfl rfl Try.func68 kr_ rfl #[.slice A1 l1.length c1] rfl mt_ ?_; (with_reducible refine (jH.calls k _ _ l1 t489 _ ?side1 ?side2 A4.out).mono ?_); (case side1 => exact cc_ (Kd.je HR1.out HB.out)); (case side2 => exact HC1.out); rintro e w6 ⟨v490, rfl, ho0, hb⟩; refine ⟨_, rfl, ?_⟩; have n0_ := jA.mk (Kd.jK (rR_ HO488) (Kd.jL ho0) hb); have n1_ := jA.mk (Kd.jS (Kd.jN ho0 (Kd.R_lt (rR_ HO488))) (jB (bb_ HB))); have n2_ := jA.mk (jC (bb_ HB) hb); clear HO488 HB; have HO488 := n0_; have HO491 := n1_; have HB := n2_; clear n0_ n1_ n2_) | ((with_reducible refine jl (N := 15) rfl ?_); (try (refine jv (by rfl) ?_; dsimp only)); refine Kd.jAC (Kd.int .u64) _ 22 ?hg (N := 15) ?hd (xs := ([] : List Int)) (inner := []) (ok := fun _ => True) (okp := fun _ => True) ?hr ?hp (fun _ hk => hk) trivial (Below.refl _ _) (Nat.le_refl _) (by simp) ?_; (case hd => rfl); (case hg => rfl); (case hr => exact gs_); (case hp => exact (Reps.none _ _)); intro v493 w7 ho8 hb hg_ hnew_; clear hg_ hnew_; (first | rw [← Ny492.out] at ho8 | (simp only [Int.reduceToNat] at ho8; rw [← Ny492.out] at ho8)); have n0_ := jA.mk (Kd.jK (rR_ HO488) (Kd.jL ho8) hb); have n1_ := jA.mk (Kd.jK (rR_ HO491) (Kd.jL ho8) hb); have n2_ := jA.mk (Kd.jS (Kd.jN (Kd.jN ho8 (Kd.R_lt (rR_ HO488))) (Kd.R_lt (rR_ HO491))) (jB (bb_ HB))); have n3_ := jA.mk (jC (bb_ HB) hb); clear HO488 HO491 HB; have HO488 := n0_; have HO491 := n1_; have HO494 := n2_; have HB := n3_; clear n0_ n1_ n2_ n3_ hb ho8))
 go_loopg [7, 8, 9] k (fun kq v7 v8 v9 w' => ∃ (x7_1 : List Int) (x8_1 : Int) (x9_1 : Int), v8 = .int .u64 x8_1 ∧ v9 = .int .i64 x9_1 ∧ jA (jQ.l0 kq t486 t489 x7_1 x8_1 x9_1 = some r) ∧ jA (kq ≤ k) ∧ jA (Kd.R (Kd.int .u64) 22 w' w.heap.size (fun k_ => some k_ ≠ (v490 : Value).ownBlock ∧ some k_ ≠ (v7 : Value).ownBlock) v487 t486) ∧ jA (Kd.R (Kd.int .u64) 22 w' w.heap.size (fun k_ => some k_ ≠ (v487 : Value).ownBlock ∧ some k_ ≠ (v7 : Value).ownBlock) v490 t489) ∧ jA (Kd.R (Kd.int .u64) 22 w' w.heap.size (fun k_ => some k_ ≠ (v487 : Value).ownBlock ∧ some k_ ≠ (v490 : Value).ownBlock) v7 x7_1) ∧ jA (Below w.heap.size w w'))
 case atStart => exact ⟨(y492), (0), (0), sd_, sd_, H', ⟨Nat.le_refl _⟩, ⟨by (with_reducible repeat (first | apply Kd.zQ | apply Kd.zU | apply Kd.ze)); exact Kd.jP HO488.out (fun _ hk => ⟨hk.1.2, hk.2⟩)⟩, ⟨by (with_reducible repeat (first | apply Kd.zQ | apply Kd.zU | apply Kd.ze)); exact Kd.jP HO491.out (fun _ hk => ⟨hk.1.2, hk.2⟩)⟩, ⟨by (with_reducible repeat (first | apply Kd.zQ | apply Kd.zU | apply Kd.ze)); exact Kd.jP HO494.out (fun _ hk => ⟨hk.1.2, hk.2⟩)⟩, ⟨(bb_ HB)⟩⟩
 case round =>
  clear H'
  try clear c1
  try clear p2
  try clear c6
  obtain ⟨x7_1, x8_1, x9_1, rfl, rfl, HA, HK1, HO_5, HO_6, HO_7, HB⟩ := hrel
  cases gk with
  | zero => exact absurd HA.out (by simp [jQ.l0])
  | succ k1 =>
   have H := HA.out
   clear HA
   simp only [jQ.l0] at H
   have HC9 := jA.mk H
   clear H
   go_upto_region 6 with (fail)
   go_cut [29] (fun v29 wc => ∃ (kq : Nat) (x29_8 : Bool), v29 = .bool x29_8 ∧ jA (jQ.j1 kq t486 t489 x7_1 x8_1 x9_1 x29_8 = some r) ∧ jA (kq ≤ k1) ∧ jA (Kd.R (Kd.int .u64) 22 wc w.heap.size (fun k_ => some k_ ≠ (v490 : Value).ownBlock ∧ some k_ ≠ (u7 : Value).ownBlock) v487 t486) ∧ jA (Kd.R (Kd.int .u64) 22 wc w.heap.size (fun k_ => some k_ ≠ (v487 : Value).ownBlock ∧ some k_ ≠ (u7 : Value).ownBlock) v490 t489) ∧ jA (Kd.R (Kd.int .u64) 22 wc w.heap.size (fun k_ => some k_ ≠ (v487 : Value).ownBlock ∧ some k_ ≠ (v490 : Value).ownBlock) u7 x7_1) ∧ jA (Below w.heap.size w wc))
   case first =>
    have H := HC9.out
    clear HC9
    by_cases c10 : x9_1 < (t486.length : Int)
    ·
     rw [if_pos c10] at H
     have c10b0 := decide_eq_true c10
     clear c10
     (first | rw [c10b0] | (simp only [jk, jo]; rw [c10b0]) | skip)
     have H' := jA.mk H
     clear H
     obtain ⟨Ao11, co11, eo11⟩ := Kd.jc HO_5.out
     subst eo11
     go_wp2
     go_meet
     case rel => exact ⟨_, (true), sd_, H', ⟨by have := HK1.out; first | omega | exact Nat.le_refl _⟩, ⟨(rR_ HO_5)⟩, ⟨(rR_ HO_6)⟩, ⟨(rR_ HO_7)⟩, ⟨(bb_ HB)⟩⟩
    ·
     rw [if_neg c10] at H
     have c10b0 := decide_eq_false c10
     clear c10
     (first | rw [c10b0] | (simp only [jk, jo]; rw [c10b0]) | skip)
     by_cases c12 : x9_1 < (t489.length : Int)
     ·
      rw [if_pos c12] at H
      have c12b0 := decide_eq_true c12
      clear c12
      have H' := jA.mk H
      clear H
      obtain ⟨Ao13, co13, eo13⟩ := Kd.jc HO_5.out
      subst eo13
      obtain ⟨Ao14, co14, eo14⟩ := Kd.jc HO_6.out
      subst eo14
      go_wp2
      go_meet
      case rel => exact ⟨_, (true), sd_, H', ⟨by have := HK1.out; first | omega | exact Nat.le_refl _⟩, ⟨(rR_ HO_5)⟩, ⟨(rR_ HO_6)⟩, ⟨(rR_ HO_7)⟩, ⟨(bb_ HB)⟩⟩
     ·
      rw [if_neg c12] at H
      have c12b0 := decide_eq_false c12
      clear c12
      have H' := jA.mk H
      clear H
      obtain ⟨Ao15, co15, eo15⟩ := Kd.jc HO_5.out
      subst eo15
      obtain ⟨Ao16, co16, eo16⟩ := Kd.jc HO_6.out
      subst eo16
      go_wp2
      go_meet
      case rel => exact ⟨_, (decide (x8_1 > 0)), sd_, H', ⟨by have := HK1.out; first | omega | exact Nat.le_refl _⟩, ⟨(rR_ HO_5)⟩, ⟨(rR_ HO_6)⟩, ⟨(rR_ HO_7)⟩, ⟨(bb_ HB)⟩⟩
   case rest =>
    clear HC9
    try clear c1
    try clear p2
    try clear c6
    try clear c10
    try clear c10b0
    try clear c12
    try clear c12b0
    try clear p2
    obtain ⟨kq, x29_8, rfl, HA, HJ8, HO_5, HO_6, HO_7, HB⟩ := hcut
    cases kq with
    | zero => exact absurd HA.out (by simp [jQ.j1])
    | succ kj8 =>
     have H := HA.out
     clear HA
     simp only [jQ.j1] at H
     by_cases c17 : x29_8 = true
     ·
      subst c17
      have H1 : ((jf.f t486 x9_1).bind fun t495 => ((jf.f t489 x9_1).bind fun t496 => (if x7_1.length < 17592186044416 then (jQ.l0 kj8 t486 t489 (x7_1 ++ [Int.tmod (IntKind.u64.wrap ((IntKind.u64.wrap (t495 + t496)) + x8_1)) 4294967296]) (IntKind.u64.wrap (Int.tdiv (IntKind.u64.wrap ((IntKind.u64.wrap (t495 + t496)) + x8_1)) 4294967296)) (wrap64 (x9_1 + 1))) else (none)))) = some r := by rw [if_pos rfl] at H; exact H
      clear H
      have H := H1
      clear H1
      replace H := ob_ H
      obtain ⟨t495, A180, H⟩ := H
      try dsimp only at H
      have A18 := jA.mk A180
      clear A180
      replace H := ob_ H
      obtain ⟨t496, A190, H⟩ := H
      try dsimp only at H
      have A19 := jA.mk A190
      clear A190
      obtain ⟨ji20, hji20⟩ : ∃ j_ : Int, (Int.tmod (IntKind.u64.wrap ((IntKind.u64.wrap (t495 + t496)) + x8_1)) 4294967296) = j_ := ⟨_, rfl⟩
      replace H : (if x7_1.length < 17592186044416 then (jQ.l0 kj8 t486 t489 (x7_1 ++ [ji20]) (IntKind.u64.wrap (Int.tdiv (IntKind.u64.wrap ((IntKind.u64.wrap (t495 + t496)) + x8_1)) 4294967296)) (wrap64 (x9_1 + 1))) else (none)) = some r := by first | (rw [hji20] at H; exact H) | (simp only [hji20] at H ⊢; exact H)
      (try rw [hji20] at A18)
      (try rw [hji20] at A19)
      by_cases c21 : x7_1.length < 17592186044416
      ·
       rw [if_pos c21] at H
       have LMc21 := jA.mk c21
       clear c21
       obtain ⟨y497, hy497⟩ : ∃ y_ : List Int, y_ = (x7_1 ++ [ji20]) := ⟨_, rfl⟩
       replace H : (jQ.l0 kj8 t486 t489 y497 (IntKind.u64.wrap (Int.tdiv (IntKind.u64.wrap ((IntKind.u64.wrap (t495 + t496)) + x8_1)) 4294967296)) (wrap64 (x9_1 + 1))) = some r := by first | (rw [hy497]; with_reducible exact H) | (have H2_ := (Option.bind_some _ _).symm.trans H; rw [hy497]; with_reducible exact H2_) | (with_reducible exact hs_ H) | with_reducible exact H | (rw [hy497]; exact H) | exact H
       have Ny497 := jA.mk hy497
       clear hy497
       have H' := jA.mk H
       clear H
       obtain ⟨Ao22, co22, eo22⟩ := Kd.jc HO_5.out
       subst eo22
       go_wp2_with (first | ((with_reducible refine jJ (f := 69) rfl ?_); refine jr (some 34) rfl rfl Try.func69 kr_ rfl #[.slice Ao22 t486.length co22, .int .i64 x9_1] rfl mt_ ?_; (with_reducible refine (jf.calls _ _ t486 x9_1 t495 _ ?side1 ?side2 A18.out).mono ?_); (case side1 => exact cc_ (Kd.jI HO_5.out).2.2); (case side2 => exact (Kd.jI HO_5.out).2.1); rintro e w' ⟨rfl, ⟨nd, rfl⟩⟩; refine ⟨_, rfl, ?_⟩; obtain ⟨Ao23, co23, eo23⟩ := Kd.jc HO_6.out; subst eo23) | ((with_reducible refine jJ (f := 69) rfl ?_); refine jr (some 37) rfl rfl Try.func69 kr_ rfl #[.slice Ao23 t489.length co23, .int .i64 x9_1] rfl mt_ ?_; (with_reducible refine (jf.calls _ _ t489 x9_1 t496 _ ?side1 ?side2 A19.out).mono ?_); (case side1 => exact cc_ (Kd.jI HO_6.out).2.2); (case side2 => exact (Kd.jI HO_6.out).2.1); rintro e w' ⟨rfl, ⟨nd, rfl⟩⟩; refine ⟨_, rfl, ?_⟩) | ((with_reducible refine vw (b := .append) (xs := #[.tmp 41, .tmp 44]) rfl ?_); (try (refine jv (by rfl) ?_; dsimp only)); at_builtin; refine Kd.qc (Kd.int .u64) (w0 := w) w.heap.size rfl (.tmp 41) (.tmp 44) 35 22 (.int .u64 0) 8 rfl Try.underlying35 qJ rfl (by decide) (by omega) u7 x7_1 ji20 [.int .u64 ji20] (fun k_ => some k_ ≠ (.slice Ao22 t486.length co22 : Value).ownBlock ∧ some k_ ≠ (.slice Ao23 t489.length co23 : Value).ownBlock) (fun _ => False) rfl rfl ?aP (fun _ hk => hk.elim) ?aF ?aO ?aB ?aS ?aL ?_; (case aP => exact rfl); (case aB => exact (bb_ HB)); (case aF => exact (fun k_ hk => ⟨Kd.fresh' (Kd.R_lt (rR_ HO_5)) k_ hk, Kd.fresh' (Kd.R_lt (rR_ HO_6)) k_ hk⟩)); (case aO => exact (rR_ HO_7)); (case aS => exact (jB (bb_ HB))); (case aL => have := LMc21.out; omega); intro v498 w24 ho hb hg hat; rw [← Ny497.out] at ho; have n0_ := jA.mk (Kd.zX (ok := (fun k_ => some k_ ≠ (.slice Ao23 t489.length co23 : Value).ownBlock)) (rR_ HO_5) hg hat); have n1_ := jA.mk (Kd.zX (ok := (fun k_ => some k_ ≠ (.slice Ao22 t486.length co22 : Value).ownBlock)) (rR_ HO_6) hg hat); have n2_ := jA.mk (hb); have n3_ := jA.mk (ho); clear HO_5 HO_6 HB HO_7; have HO_5 := n0_; have HO_6 := n1_; have HB := n2_; have HO499 := n3_; clear n0_ n1_ n2_ n3_ ho hb hg hat))
       go_roundg kj8
       case measure => have := HK1.out; have := HJ8.out; omega
       case rel => exact ⟨(y497), (IntKind.u64.wrap (Int.tdiv (IntKind.u64.wrap ((IntKind.u64.wrap (t495 + t496)) + x8_1)) 4294967296)), (wrap64 (x9_1 + 1)), sd_, sd_, H', ⟨by have := HK1.out; have := HJ8.out; omega⟩, ⟨(rR_ HO_5)⟩, ⟨(rR_ HO_6)⟩, ⟨(rR_ HO499)⟩, ⟨(bb_ HB)⟩⟩
      ·
       rw [if_neg c21] at H
       exact absurd H (by simp)
     ·
      replace c17 := Bool.eq_false_iff.mpr c17
      subst c17
      have H1 : ((jO.f kj8 x7_1).bind fun t500 => (some t500)) = some r := by rw [if_neg (show ¬ (false = true) by decide)] at H; exact H
      clear H
      have H := H1
      clear H1
      replace H := ob_ H
      obtain ⟨t500, A250, H⟩ := H
      replace H : (some t500) = some r := H
      have A25 := jA.mk A250
      clear A250
      obtain rfl := Option.some.inj H
      obtain ⟨Ao26, co26, eo26⟩ := Kd.jc HO_7.out
      subst eo26
      go_wp2_with (first | ((with_reducible refine jJ (f := 70) rfl ?_); refine jr (some 49) rfl rfl Try.func70 kr_ rfl #[.slice Ao26 x7_1.length co26] rfl mt_ ?_; (with_reducible refine (jO.calls kj8 _ _ x7_1 t500 _ ?side1 ?side2 A25.out).mono ?_); (case side1 => exact cc_ (Kd.jI HO_7.out).2.2); (case side2 => exact (Kd.jI HO_7.out).2.1); rintro e w27 ⟨v501, rfl, ho0, hb⟩; refine ⟨_, rfl, ?_⟩; have n0_ := jA.mk (Kd.jK (rR_ HO_5) (Kd.jL ho0) hb); have n1_ := jA.mk (Kd.jK (rR_ HO_6) (Kd.jL ho0) hb); have n2_ := jA.mk (Kd.jK (rR_ HO_7) (Kd.jL ho0) hb); have n3_ := jA.mk (Kd.jS (Kd.jN (Kd.jN (Kd.jN ho0 (Kd.R_lt (rR_ HO_5))) (Kd.R_lt (rR_ HO_6))) (Kd.R_lt (rR_ HO_7))) (jB (bb_ HB))); have n4_ := jA.mk (jC (bb_ HB) hb); clear HO_5 HO_6 HO_7 HB; have HO_5 := n0_; have HO_6 := n1_; have HO_7 := n2_; have HO502 := n3_; have HB := n4_; clear n0_ n1_ n2_ n3_ n4_))
      go_ret
      exact ⟨_, ew_, by refine pR_ ?_; exact Kd.jP HO502.out (fun _ hk => trivial), (bb_ HB)⟩

end Go.Proofs.Ytijgeonhbmgikaa.PORatioSums
