-- printed (pr.py)
import Derived.Test.YtijgeonhbmgikaaPOOctetPutsx0
import Derived.Test.YtijgeonhbmgikaaPOOctetPutsx1
import Derived.Test.YtijgeonhbmgikaaPOOctetPutsx2
import Derived.Test.YtijgeonhbmgikaaPOOctetPutsx3
import Derived.Test.YtijgeonhbmgikaaPOOctetPutsx12
import Derived.Test.YtijgeonhbmgikaaPOOctetPutsx15
namespace Go.Proofs.Ytijgeonhbmgikaa.POOctetPuts
open Go.RowKit Go.Proofs.YtijgeonhbmgikaaN Go.Proofs.YtijgeonhbmgikaaW.PrintWords Go.Proofs.YtijgeonhbmgikaaW.PrintLast Go.Proofs.YtijgeonhbmgikaaW.PrintMore
attribute [local go_sem] qE qC qP qO ze za qD qA
set_option maxHeartbeats 8000000
set_option maxRecDepth 100000
set_option linter.unusedVariables false
set_option linter.unusedSimpArgs false

/-! ### jO: function 77 -/
mutual
def jO.j0 : Nat → List Int → List Int → Bool → Option (List Int × Int)
 | 0, _, _, _ => none
 | k + 1, x0, x1, x16 => if x16 = true then (some (([] : List Int), 1)) else (jO.l0 k x0 x1)
def jO.l0 : Nat → List Int → List Int → Option (List Int × Int)
 | 0, _, _ => none
 | k + 1, x0, x1 => if (x1.length : Int) > 0 then ((jC.f k x0 x1).bind fun bt489 => (jO.l0 k x1 bt489.2.1)) else (some (x0, 0))
end
def jO.f (k : Nat) (l0 : List Int) (l1 : List Int) : Option (List Int × Int) := (je.f l0).bind fun t487 => (if t487 = true then ((je.f l1).bind fun t488 => (jO.j0 k l0 l1 (!t488))) else (jO.j0 k l0 l1 true))
theorem jO.vJ : ∀ k, (∀ y0 y1 y2, LeO (jO.j0 k y0 y1 y2) (jO.j0 (k + 1) y0 y1 y2)) ∧ (∀ y0 y1, LeO (jO.l0 k y0 y1) (jO.l0 (k + 1) y0 y1))
 | 0 => ⟨fun _ _ _ r h => by simp [jO.j0] at h, fun _ _ r h => by simp [jO.l0] at h⟩
 | k + 1 => by
  obtain ⟨ih0, ih1⟩ := jO.vJ k
  refine ⟨?_, ?_⟩ <;> (intros; first | unfold jO.j0 | unfold jO.l0) <;> repeat' first
   | (with_reducible exact ih0 _ _ _)
   | (with_reducible exact ih1 _ _)
   | (with_reducible exact jC.mono _ _ _)
   | (with_reducible exact LeO.refl _)
   | (with_reducible exact LeO.none _)
   | (with_reducible refine LeO.ite ?_ ?_)
   | (with_reducible refine LeO.bind ?_ (fun _ => ?_))
theorem jO.mono : ∀ a0 a1 k, LeO (jO.f k a0 a1) (jO.f (k + 1) a0 a1) := by
 intro a0 a1 k
 obtain ⟨ih0, ih1⟩ := jO.vJ k
 unfold jO.f
 repeat' first
   | (with_reducible exact ih0 _ _ _)
   | (with_reducible exact ih1 _ _)
   | (with_reducible exact jC.mono _ _ _)
   | (with_reducible exact LeO.refl _)
   | (with_reducible exact LeO.none _)
   | (with_reducible refine LeO.ite ?_ ?_)
   | (with_reducible refine LeO.bind ?_ (fun _ => ?_))
theorem jO.calls (k : Nat) (P0_ : Nat → Prop) (A0 : Option Addr) (c0 : Nat) (l0 : List Int) (P1_ : Nat → Prop) (A1 : Option Addr) (c1 : Nat) (l1 : List Int) (r1 : List Int) (r2 : Int) (w : World) (hs0 : Kd.V (Kd.int .u64) 22 w w.heap.size (fun k_ => P0_ k_) (.slice A0 l0.length c0) l0) (hs1 : Kd.V (Kd.int .u64) 22 w w.heap.size (fun k_ => P1_ k_) (.slice A1 l1.length c1) l1) (h : jO.f k l0 l1 = some (r1, r2)) :
  Calls Try.prog 77 #[.slice A0 l0.length c0, .slice A1 l1.length c1] w fun e w' => ∃ v0_ : Value, e = .returned (.tuple #[v0_, .int .i64 r2]) ∧ Kd.V (Kd.int .u64) 22 w' w.heap.size (fun k_ => ((P0_ k_ ∨ P1_ k_) ∨ w.heap.size ≤ k_)) v0_ r1 ∧ Below w.heap.size w w' := by
 have HO0 := jA.mk (show Kd.V (Kd.int .u64) 22 w w.heap.size (fun k_ => ((P0_ k_ ∨ P1_ k_) ∨ w.heap.size ≤ k_)) (.slice A0 l0.length c0) l0 from Kd.zN hs0 (fun k_ hk => .inl (.inl hk)))
 have HO1 := jA.mk (show Kd.V (Kd.int .u64) 22 w w.heap.size (fun k_ => ((P0_ k_ ∨ P1_ k_) ∨ w.heap.size ≤ k_)) (.slice A1 l1.length c1) l1 from Kd.zN hs1 (fun k_ hk => .inl (.inr hk)))
 have HB := jA.mk (Below.refl w.heap.size w)
 have H : ((je.f l0).bind fun t487 => (if t487 = true then ((je.f l1).bind fun t488 => (jO.j0 k l0 l1 (!t488))) else (jO.j0 k l0 l1 true))) = some (r1, r2) := h
 clear h
 have HC3 := jA.mk H
 clear H
 go_enter Try.func77, Try.ntmps77
 go_upto_region 1 with (fail)
 go_cut [16] (fun v16 wc => ∃ (kq : Nat) (x16_2 : Bool), v16 = .bool x16_2 ∧ jA (jO.j0 kq l0 l1 x16_2 = some (r1, r2)) ∧ jA (kq ≤ k) ∧ jA (Kd.V (Kd.int .u64) 22 wc w.heap.size (fun k_ => ((P0_ k_ ∨ P1_ k_) ∨ w.heap.size ≤ k_)) (.slice A0 l0.length c0) l0) ∧ jA (Kd.V (Kd.int .u64) 22 wc w.heap.size (fun k_ => ((P0_ k_ ∨ P1_ k_) ∨ w.heap.size ≤ k_)) (.slice A1 l1.length c1) l1) ∧ jA (Below w.heap.size w wc))
 case first =>
  have H := HC3.out
  clear HC3
  replace H := ob_ H
  obtain ⟨t487, A40, H⟩ := H
  try dsimp only at H
  have A4 := jA.mk A40
  clear A40
  by_cases c5 : t487 = true
  ·
   subst c5
   have H1 : ((je.f l1).bind fun t488 => (jO.j0 k l0 l1 (!t488))) = some (r1, r2) := by rw [if_pos rfl] at H; exact H
   clear H
   have H := H1
   clear H1
   replace H := ob_ H
   obtain ⟨t488, A60, H⟩ := H
   try dsimp only at H
   have A6 := jA.mk A60
   clear A60
   have H' := jA.mk H
   clear H
   go_wp2_with (first | ((with_reducible refine jF (f := 74) rfl ?_); refine jg (some 10) rfl rfl Try.func74 kr_ rfl #[.slice A0 l0.length c0] rfl mt_ ?_; (with_reducible refine (je.calls _ _ l0 true _ ?side1 ?side2 A4.out).mono ?_); (case side1 => repeat (first | exact (Kd.vQ HO0.out).2.2 | (with_reducible refine Kd.zU ?_ _) | (with_reducible refine Kd.zm ?_ _) | (with_reducible refine Kd.qL ?_))); (case side2 => exact (Kd.vQ HO0.out).2.1); rintro e w' ⟨rfl, ⟨nd, rfl⟩⟩; refine ⟨_, rfl, ?_⟩) | ((with_reducible refine jq (N := 14) rfl ?_); refine jv (by first | rfl | kernel_rfl) ?_; dsimp only; (with_reducible refine jF (f := 74) rfl ?_); refine jg (some 14) rfl rfl Try.func74 kr_ rfl #[.slice A1 l1.length c1] rfl mt_ ?_; (with_reducible refine (je.calls _ _ l1 t488 _ ?side1 ?side2 A6.out).mono ?_); (case side1 => repeat (first | exact (Kd.vQ HO1.out).2.2 | (with_reducible refine Kd.zU ?_ _) | (with_reducible refine Kd.zm ?_ _) | (with_reducible refine Kd.qL ?_))); (case side2 => exact (Kd.vQ HO1.out).2.1); rintro e w' ⟨rfl, ⟨nd, rfl⟩⟩; refine ⟨_, rfl, ?_⟩))
   go_meet
   case rel => exact ⟨_, (!t488), sd_, H', ⟨by first | omega | exact Nat.le_refl _⟩, ⟨(rV_ HO0)⟩, ⟨(rV_ HO1)⟩, ⟨(bb_ HB)⟩⟩
  ·
   replace c5 := Bool.eq_false_iff.mpr c5
   subst c5
   have H1 : (jO.j0 k l0 l1 true) = some (r1, r2) := by rw [if_neg (show ¬ (false = true) by decide)] at H; exact H
   clear H
   have H := H1
   clear H1
   have H' := jA.mk H
   clear H
   go_wp2_with (first | ((with_reducible refine jF (f := 74) rfl ?_); refine jg (some 10) rfl rfl Try.func74 kr_ rfl #[.slice A0 l0.length c0] rfl mt_ ?_; (with_reducible refine (je.calls _ _ l0 false _ ?side1 ?side2 A4.out).mono ?_); (case side1 => repeat (first | exact (Kd.vQ HO0.out).2.2 | (with_reducible refine Kd.zU ?_ _) | (with_reducible refine Kd.zm ?_ _) | (with_reducible refine Kd.qL ?_))); (case side2 => exact (Kd.vQ HO0.out).2.1); rintro e w' ⟨rfl, ⟨nd, rfl⟩⟩; refine ⟨_, rfl, ?_⟩))
   go_meet
   case rel => exact ⟨_, (true), sd_, H', ⟨by first | omega | exact Nat.le_refl _⟩, ⟨(rV_ HO0)⟩, ⟨(rV_ HO1)⟩, ⟨(bb_ HB)⟩⟩
 case rest =>
  clear HC3
  try clear c1
  try clear p2
  try clear c5
  obtain ⟨kq, x16_2, rfl, HA, HJ2, HO_0, HO_1, HB⟩ := hcut
  cases kq with
  | zero => exact absurd HA.out (by simp [jO.j0])
  | succ kj2 =>
   have H := HA.out
   clear HA
   simp only [jO.j0] at H
   by_cases c7 : x16_2 = true
   ·
    subst c7
    have H1 : (some (([] : List Int), 1)) = some (r1, r2) := by rw [if_pos rfl] at H; exact H
    clear H
    have H := H1
    clear H1
    simp only [Option.some.injEq, Prod.mk.injEq] at H
    obtain ⟨rfl, rfl⟩ := H
    go_wp2
    go_ret2
    exact ⟨_, ew_, Kd.jIi _ _ _ _ _, (bb_ HB)⟩
   ·
    replace c7 := Bool.eq_false_iff.mpr c7
    subst c7
    have H1 : (jO.l0 kj2 l0 l1) = some (r1, r2) := by rw [if_neg (show ¬ (false = true) by decide)] at H; exact H
    clear H
    have H := H1
    clear H1
    have H' := jA.mk H
    clear H
    go_wp2
    go_loopg [0, 1] kj2 (fun kq v0 v1 w' => ∃ (x0_2 : List Int) (x1_2 : List Int), jA (jO.l0 kq x0_2 x1_2 = some (r1, r2)) ∧ jA (kq ≤ kj2) ∧ jA (Kd.V (Kd.int .u64) 22 w' w.heap.size (fun k_ => ((P0_ k_ ∨ P1_ k_) ∨ w.heap.size ≤ k_)) v0 x0_2) ∧ jA (Kd.V (Kd.int .u64) 22 w' w.heap.size (fun k_ => ((P0_ k_ ∨ P1_ k_) ∨ w.heap.size ≤ k_)) v1 x1_2) ∧ jA (Below w.heap.size w w'))
    case atStart => exact ⟨(l0), (l1), H', ⟨Nat.le_refl _⟩, ⟨(rV_ HO_0)⟩, ⟨(rV_ HO_1)⟩, ⟨(bb_ HB)⟩⟩
    case round =>
     clear H'
     try clear c1
     try clear p2
     try clear c5
     try clear c7
     try clear p2
     obtain ⟨x0_2, x1_2, HA, HK2, HO_0, HO_1, HB⟩ := hrel
     cases gk with
     | zero => exact absurd HA.out (by simp [jO.l0])
     | succ k2 =>
      have H := HA.out
      clear HA
      simp only [jO.l0] at H
      by_cases c8 : (x1_2.length : Int) > 0
      ·
       rw [if_pos c8] at H
       have c8b0 := decide_eq_true c8
       have c8b1 : decide (0 < x1_2.length) = true := decide_eq_true (by omega)
       clear c8
       replace H := ob_ H
       obtain ⟨⟨t489, t490, t491⟩, A90, H⟩ := H
       try dsimp only at H
       have A9 := jA.mk A90
       clear A90
       have H' := jA.mk H
       clear H
       obtain ⟨Ao10, co10, eo10⟩ := Kd.zF HO_1.out
       subst eo10
       obtain ⟨Ao11, co11, eo11⟩ := Kd.zF HO_0.out
       subst eo11
       go_wp2_with (first | ((with_reducible refine jF (f := 78) rfl ?_); refine jg (some 23) rfl rfl Try.func78 kr_ rfl #[.slice Ao11 x0_2.length co11, .slice Ao10 x1_2.length co10] rfl mt_ ?_; (with_reducible refine (jC.calls k2 _ _ x0_2 _ _ x1_2 t489 t490 t491 _ ?side1 ?side2 ?side3 ?side4 A9.out).mono ?_); (case side1 => repeat (first | exact (Kd.vQ HO_0.out).2.2 | (with_reducible refine Kd.zU ?_ _) | (with_reducible refine Kd.zm ?_ _) | (with_reducible refine Kd.qL ?_))); (case side2 => exact (Kd.vQ HO_0.out).2.1); (case side3 => repeat (first | exact (Kd.vQ HO_1.out).2.2 | (with_reducible refine Kd.zU ?_ _) | (with_reducible refine Kd.zm ?_ _) | (with_reducible refine Kd.qL ?_))); (case side4 => exact (Kd.vQ HO_1.out).2.1); rintro e w12 ⟨v492, v494, rfl, ho0, ho1, hb⟩; refine ⟨_, rfl, ?_⟩; replace HO_0 := jA.mk (Kd.zN (Kd.jEi (Kd.jEi (Kd.jJw (rV_ HO_0) hb) (Kd.qI ho0)) (Kd.qI ho1)) (fun _ h_ => h_.1)); replace HO_1 := jA.mk (Kd.zN (Kd.jEi (Kd.jEi (Kd.jJw (rV_ HO_1) hb) (Kd.qI ho0)) (Kd.qI ho1)) (fun _ h_ => h_.1)); have HO493 := jA.mk (Kd.jZ (Kd.jDl (M := fun k_ => (w.heap.size ≤ k_)) ho0 (jB (bb_ HB)) (fun k_ h_ => h_)) (jB (bb_ HB))); have HO495 := jA.mk (Kd.jZ (Kd.jDl (M := fun k_ => (w.heap.size ≤ k_)) ho1 (jB (bb_ HB)) (fun k_ h_ => h_)) (jB (bb_ HB))); replace HB := bs_ HB hb))
       go_roundg k2
       case measure => have := HJ2.out; have := HK2.out; omega
       case rel => exact ⟨(x1_2), (t490), H', ⟨by have := HJ2.out; have := HK2.out; omega⟩, ⟨by (with_reducible repeat (first | apply Kd.jCT | apply Kd.jCS | apply Kd.jCn)); exact Kd.zN HO_1.out (fun _ hk => hk.1.1)⟩, ⟨Kd.zN (Kd.R_V (by refine pR_ ?_; exact Kd.jl HO495.out (fun _ hk => hk.1))) (fun k_ hk => by first | exact ⟨(.inr (hk.1)), hk.2⟩ | exact (.inr (hk)))⟩, ⟨(bb_ HB)⟩⟩
      ·
       rw [if_neg c8] at H
       have c8b0 := decide_eq_false c8
       have c8b1 : decide (0 < x1_2.length) = false := decide_eq_false (by omega)
       clear c8
       simp only [Option.some.injEq, Prod.mk.injEq] at H
       obtain ⟨rfl, rfl⟩ := H
       obtain ⟨Ao13, co13, eo13⟩ := Kd.zF HO_1.out
       subst eo13
       go_wp2
       go_ret2
       exact ⟨_, ew_, (rV_ HO_0), (bb_ HB)⟩

/-! ### jT: function 76 -/
def jT.j0 : Nat → Bool → Bool → List Int → List Int → Option (Bool)
 | 0, _, _, _, _ => none
 | k + 1, x20, x497000, x497001, x497002 => if x20 = true then (some false) else ((jO.f k x497001 x497002).bind fun bt499 => ((vN.f k bt499.1 (([1] : List Int))).bind fun t506 => (if t506 = true then (if x497000 = true then (some (!((x497001.length : Int) == 0))) else (some (!false))) else (some false))))
def jT.f (k : Nat) (a0_0 : Bool) (l0_1 : List Int) (l0_2 : List Int) : Option (Bool) := (je.f l0_1).bind fun t497 => (if t497 = true then ((je.f l0_2).bind fun t498 => (if t498 = true then (jT.j0 k ((l0_2.length : Int) == 0) a0_0 l0_1 l0_2) else (jT.j0 k true a0_0 l0_1 l0_2))) else (jT.j0 k true a0_0 l0_1 l0_2))
theorem jT.vJ : ∀ k, (∀ y0 y1 y2 y3, LeO (jT.j0 k y0 y1 y2 y3) (jT.j0 (k + 1) y0 y1 y2 y3))
 | 0 => fun _ _ _ _ r h => by simp [jT.j0] at h
 | k + 1 => by
  have ih0 := jT.vJ k
  ·
   intro y0 y1 y2 y3
   unfold jT.j0
   repeat' first
   | (with_reducible exact ih0 _ _ _ _)
   | (with_reducible exact vN.mono _ _ _)
   | (with_reducible exact jO.mono _ _ _)
   | (with_reducible exact LeO.refl _)
   | (with_reducible exact LeO.none _)
   | (with_reducible refine LeO.ite ?_ ?_)
   | (with_reducible refine LeO.bind ?_ (fun _ => ?_))
theorem jT.mono : ∀ a0 a1 a2 k, LeO (jT.f k a0 a1 a2) (jT.f (k + 1) a0 a1 a2) := by
 intro a0 a1 a2 k
 have ih0 := jT.vJ k
 unfold jT.f
 repeat' first
   | (with_reducible exact ih0 _ _ _ _)
   | (with_reducible exact vN.mono _ _ _)
   | (with_reducible exact jO.mono _ _ _)
   | (with_reducible exact LeO.refl _)
   | (with_reducible exact LeO.none _)
   | (with_reducible refine LeO.ite ?_ ?_)
   | (with_reducible refine LeO.bind ?_ (fun _ => ?_))
theorem jT.calls (k : Nat) (a0_0 : Bool) (A0_1 : Option Addr) (c0_1 : Nat) (l0_1 : List Int) (A0_2 : Option Addr) (c0_2 : Nat) (l0_2 : List Int) (r : Bool) (w : World) (hr0_1 : Kd.C (Kd.int .u64) w A0_1 l0_1.length l0_1) (hc0_1 : l0_1.length ≤ c0_1) (hr0_2 : Kd.C (Kd.int .u64) w A0_2 l0_2.length l0_2) (hc0_2 : l0_2.length ≤ c0_2) (h : jT.f k a0_0 l0_1 l0_2 = some r) :
  Calls Try.prog 76 #[.agg #[.bool a0_0, .slice A0_1 l0_1.length c0_1, .slice A0_2 l0_2.length c0_2]] w fun e w' => e = .returned (.bool r) ∧ Below w.heap.size w w' := by
 have hu44 := Try.underlying44
 have HR0_1 := jA.mk hr0_1
 have HC0_1 := jA.mk hc0_1
 clear hr0_1 hc0_1
 have HR0_2 := jA.mk hr0_2
 have HC0_2 := jA.mk hc0_2
 clear hr0_2 hc0_2
 have HB := jA.mk (Below.refl w.heap.size w)
 have H : ((je.f l0_1).bind fun t497 => (if t497 = true then ((je.f l0_2).bind fun t498 => (if t498 = true then (jT.j0 k ((l0_2.length : Int) == 0) a0_0 l0_1 l0_2) else (jT.j0 k true a0_0 l0_1 l0_2))) else (jT.j0 k true a0_0 l0_1 l0_2))) = some r := h
 clear h
 have HC2 := jA.mk H
 clear H
 go_enter Try.func76, Try.ntmps76
 go_upto_region 1 with (first | ((with_reducible refine jq (N := 1) rfl ?_); (try (refine jv (by rfl) ?_; dsimp only)); refine zf ?hg (N := 1) ?hd (cs := #[.bool a0_0, .slice A0_1 l0_1.length c0_1, .slice A0_2 l0_2.length c0_2]) (t := 44) ?hr ?_; (case hd => rfl); (case hg => rfl); (case hr => exact gs_); intro gb496 hg w3 hbox hb; have BK496 := jA.mk (hbox); have GW496 := jA.mk ((by rw [hg]; exact (jB (bb_ HB)) : w.heap.size ≤ gb496)); have GE496 := jA.mk ((by rw [hg]; exact (jB (bb_ HB)) : w.heap.size ≤ gb496)); replace HB := bs_ HB hb; clear hb hbox hg))
 (try simp only [Act.put, ss_])
 go_cut [20] (fun v20 wc => ∃ (kq : Nat) (x20_1 : Bool), v20 = .bool x20_1 ∧ jA (jT.j0 kq x20_1 a0_0 l0_1 l0_2 = some r) ∧ jA (kq ≤ k) ∧ jA (wc.heap[gb496]? = some (.cells #[.bool a0_0, (.slice A0_1 l0_1.length c0_1), (.slice A0_2 l0_2.length c0_2)] 44 (0, 0))) ∧ jA (Below w.heap.size w wc))
 case first =>
  have H := HC2.out
  clear HC2
  replace H := ob_ H
  obtain ⟨t497, A40, H⟩ := H
  try dsimp only at H
  have A4 := jA.mk A40
  clear A40
  by_cases c5 : t497 = true
  ·
   subst c5
   have H1 : ((je.f l0_2).bind fun t498 => (if t498 = true then (jT.j0 k ((l0_2.length : Int) == 0) a0_0 l0_1 l0_2) else (jT.j0 k true a0_0 l0_1 l0_2))) = some r := by rw [if_pos rfl] at H; exact H
   clear H
   have H := H1
   clear H1
   replace H := ob_ H
   obtain ⟨t498, A60, H⟩ := H
   try dsimp only at H
   have A6 := jA.mk A60
   clear A60
   by_cases c7 : t498 = true
   ·
    subst c7
    have H1 : (jT.j0 k ((l0_2.length : Int) == 0) a0_0 l0_1 l0_2) = some r := by rw [if_pos rfl] at H; exact H
    clear H
    have H := H1
    clear H1
    have H' := jA.mk H
    clear H
    have hcz8_0 : w3.cell? ⟨gb496, 0, none⟩ = some (.bool a0_0) := (ji BK496.out 0).trans rfl
    have hcz8_1 : w3.cell? ⟨gb496, 1, none⟩ = some (.slice A0_1 l0_1.length c0_1) := (ji BK496.out 1).trans rfl
    have hcz8_2 : w3.cell? ⟨gb496, 2, none⟩ = some (.slice A0_2 l0_2.length c0_2) := (ji BK496.out 2).trans rfl
    have hfz8_0 := jo BK496.out 0
    have hfz8_1 := jo BK496.out 1
    have hfz8_2 := jo BK496.out 2
    go_wp2_with (first | ((with_reducible refine jF (f := 74) rfl ?_); refine jg (some 7) rfl rfl Try.func74 kr_ rfl #[.slice A0_1 l0_1.length c0_1] rfl mt_ ?_; (with_reducible refine (je.calls _ _ l0_1 true _ ?side1 ?side2 A4.out).mono ?_); (case side1 => exact cc_ (Kd.jW HR0_1.out HB.out)); (case side2 => exact HC0_1.out); rintro e w' ⟨rfl, ⟨nd, rfl⟩⟩; refine ⟨_, rfl, ?_⟩) | ((with_reducible refine jq (N := 12) rfl ?_); (try (refine jv (by rfl) ?_; dsimp only)); refine jv (by first | rfl | kernel_rfl) ?_; dsimp only; (with_reducible refine jF (f := 74) rfl ?_); refine jg (some 12) rfl rfl Try.func74 kr_ rfl #[.slice A0_2 l0_2.length c0_2] rfl mt_ ?_; (with_reducible refine (je.calls _ _ l0_2 true _ ?side1 ?side2 A6.out).mono ?_); (case side1 => repeat (first | exact (Kd.jW HR0_2.out (bb1_ HB GE496)) | (with_reducible refine Kd.zU ?_ _) | (with_reducible refine Kd.zm ?_ _) | (with_reducible refine Kd.qL ?_))); (case side2 => exact HC0_2.out); rintro e w' ⟨rfl, ⟨nd, rfl⟩⟩; refine ⟨_, rfl, ?_⟩))
    go_meet
    case rel => exact ⟨_, (((l0_2.length : Int) == 0)), sd_, H', ⟨by first | omega | exact Nat.le_refl _⟩, ⟨by (with_reducible repeat (first | refine jAK ?_ _ | refine zJ ?_ | refine zZ ?_ _)); exact BK496.out⟩, ⟨(bb1_ HB GE496)⟩⟩
   ·
    replace c7 := Bool.eq_false_iff.mpr c7
    subst c7
    have H1 : (jT.j0 k true a0_0 l0_1 l0_2) = some r := by rw [if_neg (show ¬ (false = true) by decide)] at H; exact H
    clear H
    have H := H1
    clear H1
    have H' := jA.mk H
    clear H
    have hcz9_0 : w3.cell? ⟨gb496, 0, none⟩ = some (.bool a0_0) := (ji BK496.out 0).trans rfl
    have hcz9_1 : w3.cell? ⟨gb496, 1, none⟩ = some (.slice A0_1 l0_1.length c0_1) := (ji BK496.out 1).trans rfl
    have hcz9_2 : w3.cell? ⟨gb496, 2, none⟩ = some (.slice A0_2 l0_2.length c0_2) := (ji BK496.out 2).trans rfl
    have hfz9_0 := jo BK496.out 0
    have hfz9_1 := jo BK496.out 1
    have hfz9_2 := jo BK496.out 2
    go_wp2_with (first | ((with_reducible refine jF (f := 74) rfl ?_); refine jg (some 7) rfl rfl Try.func74 kr_ rfl #[.slice A0_1 l0_1.length c0_1] rfl mt_ ?_; (with_reducible refine (je.calls _ _ l0_1 true _ ?side1 ?side2 A4.out).mono ?_); (case side1 => exact cc_ (Kd.jW HR0_1.out HB.out)); (case side2 => exact HC0_1.out); rintro e w' ⟨rfl, ⟨nd, rfl⟩⟩; refine ⟨_, rfl, ?_⟩) | ((with_reducible refine jq (N := 12) rfl ?_); (try (refine jv (by rfl) ?_; dsimp only)); refine jv (by first | rfl | kernel_rfl) ?_; dsimp only; (with_reducible refine jF (f := 74) rfl ?_); refine jg (some 12) rfl rfl Try.func74 kr_ rfl #[.slice A0_2 l0_2.length c0_2] rfl mt_ ?_; (with_reducible refine (je.calls _ _ l0_2 false _ ?side1 ?side2 A6.out).mono ?_); (case side1 => repeat (first | exact (Kd.jW HR0_2.out (bb1_ HB GE496)) | (with_reducible refine Kd.zU ?_ _) | (with_reducible refine Kd.zm ?_ _) | (with_reducible refine Kd.qL ?_))); (case side2 => exact HC0_2.out); rintro e w' ⟨rfl, ⟨nd, rfl⟩⟩; refine ⟨_, rfl, ?_⟩))
    go_meet
    case rel => exact ⟨_, (true), sd_, H', ⟨by first | omega | exact Nat.le_refl _⟩, ⟨by (with_reducible repeat (first | refine jAK ?_ _ | refine zJ ?_ | refine zZ ?_ _)); exact BK496.out⟩, ⟨(bb1_ HB GE496)⟩⟩
  ·
   replace c5 := Bool.eq_false_iff.mpr c5
   subst c5
   have H1 : (jT.j0 k true a0_0 l0_1 l0_2) = some r := by rw [if_neg (show ¬ (false = true) by decide)] at H; exact H
   clear H
   have H := H1
   clear H1
   have H' := jA.mk H
   clear H
   have hcz10_0 : w3.cell? ⟨gb496, 0, none⟩ = some (.bool a0_0) := (ji BK496.out 0).trans rfl
   have hcz10_1 : w3.cell? ⟨gb496, 1, none⟩ = some (.slice A0_1 l0_1.length c0_1) := (ji BK496.out 1).trans rfl
   have hcz10_2 : w3.cell? ⟨gb496, 2, none⟩ = some (.slice A0_2 l0_2.length c0_2) := (ji BK496.out 2).trans rfl
   have hfz10_0 := jo BK496.out 0
   have hfz10_1 := jo BK496.out 1
   have hfz10_2 := jo BK496.out 2
   go_wp2_with (first | ((with_reducible refine jF (f := 74) rfl ?_); refine jg (some 7) rfl rfl Try.func74 kr_ rfl #[.slice A0_1 l0_1.length c0_1] rfl mt_ ?_; (with_reducible refine (je.calls _ _ l0_1 false _ ?side1 ?side2 A4.out).mono ?_); (case side1 => exact cc_ (Kd.jW HR0_1.out HB.out)); (case side2 => exact HC0_1.out); rintro e w' ⟨rfl, ⟨nd, rfl⟩⟩; refine ⟨_, rfl, ?_⟩))
   go_meet
   case rel => exact ⟨_, (true), sd_, H', ⟨by first | omega | exact Nat.le_refl _⟩, ⟨by (with_reducible repeat (first | refine jAK ?_ _ | refine zJ ?_ | refine zZ ?_ _)); exact BK496.out⟩, ⟨(bb1_ HB GE496)⟩⟩
 case rest =>
  clear HC2
  try clear p2
  try clear c5
  try clear c7
  try clear hcz10_0
  try clear hcz10_1
  try clear hcz10_2
  try clear hcz8_0
  try clear hcz8_1
  try clear hcz8_2
  try clear hcz9_0
  try clear hcz9_1
  try clear hcz9_2
  try clear hfz10_0
  try clear hfz10_1
  try clear hfz10_2
  try clear hfz8_0
  try clear hfz8_1
  try clear hfz8_2
  try clear hfz9_0
  try clear hfz9_1
  try clear hfz9_2
  obtain ⟨kq, x20_1, rfl, HA, HJ1, BK496, HB⟩ := hcut
  cases kq with
  | zero => exact absurd HA.out (by simp [jT.j0])
  | succ kj1 =>
   have H := HA.out
   clear HA
   simp only [jT.j0] at H
   by_cases c11 : x20_1 = true
   ·
    subst c11
    have H1 : (some false) = some r := by rw [if_pos rfl] at H; exact H
    clear H
    have H := H1
    clear H1
    obtain rfl := Option.some.inj H
    go_wp2
    go_ret
    exact ⟨ew_, (bb1_ HB GE496)⟩
   ·
    replace c11 := Bool.eq_false_iff.mpr c11
    subst c11
    have H1 : ((jO.f kj1 l0_1 l0_2).bind fun bt499 => ((vN.f kj1 bt499.1 (([1] : List Int))).bind fun t506 => (if t506 = true then (if a0_0 = true then (some (!((l0_1.length : Int) == 0))) else (some (!false))) else (some false)))) = some r := by rw [if_neg (show ¬ (false = true) by decide)] at H; exact H
    clear H
    have H := H1
    clear H1
    replace H := ob_ H
    obtain ⟨⟨t499, t502⟩, A120, H⟩ := H
    try dsimp only at H
    have A12 := jA.mk A120
    clear A120
    obtain ⟨y503, hy503⟩ : ∃ y_ : List Int, y_ = (([1] : List Int)) := ⟨_, rfl⟩
    replace H : ((vN.f kj1 t499 y503).bind fun t506 => (if t506 = true then (if a0_0 = true then (some (!((l0_1.length : Int) == 0))) else (some (!false))) else (some false))) = some r := by first | (rw [hy503]; with_reducible exact H) | (have H2_ := (Option.bind_some _ _).symm.trans H; rw [hy503]; with_reducible exact H2_) | (with_reducible exact hs_ H) | with_reducible exact H | (rw [hy503]; exact H) | exact H
    have Ny503 := jA.mk hy503
    clear hy503
    replace H := ob_ H
    obtain ⟨t506, A130, H⟩ := H
    try dsimp only at H
    have A13 := jA.mk A130
    clear A130
    by_cases c14 : t506 = true
    ·
     subst c14
     have H1 : (if a0_0 = true then (some (!((l0_1.length : Int) == 0))) else (some (!false))) = some r := by rw [if_pos rfl] at H; exact H
     clear H
     have H := H1
     clear H1
     by_cases c15 : a0_0 = true
     ·
      subst c15
      have H1 : (some (!((l0_1.length : Int) == 0))) = some r := by rw [if_pos rfl] at H; exact H
      clear H
      have H := H1
      clear H1
      obtain rfl := Option.some.inj H
      have hcz16_0 : wc.cell? ⟨gb496, 0, none⟩ = some (.bool true) := (ji BK496.out 0).trans rfl
      have hcz16_1 : wc.cell? ⟨gb496, 1, none⟩ = some (.slice A0_1 l0_1.length c0_1) := (ji BK496.out 1).trans rfl
      have hcz16_2 : wc.cell? ⟨gb496, 2, none⟩ = some (.slice A0_2 l0_2.length c0_2) := (ji BK496.out 2).trans rfl
      have hfz16_0 := jo BK496.out 0
      have hfz16_1 := jo BK496.out 1
      have hfz16_2 := jo BK496.out 2
      go_wp2_with (first | ((with_reducible refine jF (f := 77) rfl ?_); refine jg (some 26) rfl rfl Try.func77 kr_ rfl #[.slice A0_1 l0_1.length c0_1, .slice A0_2 l0_2.length c0_2] rfl mt_ ?_; (with_reducible refine (jO.calls kj1 (fun k_ => k_ < w.heap.size) _ _ l0_1 (fun k_ => k_ < w.heap.size) _ _ l0_2 t499 t502 _ ?side1 ?side2 A12.out).mono ?_); (case side1 => exact Kd.V_mk HC0_1.out (Kd.zR (Kd.C_F (Kd.vZ .u64) HR0_1.out) (bb1_ HB GE496))); (case side2 => exact Kd.V_mk HC0_2.out (Kd.zR (Kd.C_F (Kd.vZ .u64) HR0_2.out) (bb1_ HB GE496))); rintro e w17 ⟨v500, rfl, ho0, hb⟩; refine ⟨_, rfl, ?_⟩; have HO501 := jA.mk (Kd.zi (Kd.zN (ok' := fun k_ => k_ ≠ gb496) ho0 (fun k_ hk_ => Or.elim hk_ (fun hs_ => Or.elim hs_ (fun hs_ => fun e_ => Nat.not_le.2 hs_ (by rw [e_]; exact GW496.out)) (fun hs_ => fun e_ => Nat.not_le.2 hs_ (by rw [e_]; exact GW496.out))) (fun hn_ => (Kd.jFo (g := gb496) (o := .cells #[.bool true, .slice A0_1 l0_1.length c0_1, .slice A0_2 l0_2.length c0_2] 44 (0, 0)) (kb_ BK496) k_ hn_)))) (jB (bb1_ HB GE496))); replace BK496 := bk_ BK496 hb; replace HB := jA.mk (jf (bb1_ HB GE496) hb)) | ((with_reducible refine jq (N := 30) rfl ?_); (try (refine jv (by rfl) ?_; dsimp only)); refine Kd.jAC (Kd.int .u64) _ 22 ?hg (N := 30) ?hd (xs := ([1] : List Int)) (inner := [.int .u64 1]) (ok := fun _ => True) (okp := fun _ => True) ?hr ?hp (fun _ hk => hk) trivial (Below.refl _ _) (Nat.le_refl _) (by simp) ?_; (case hd => rfl); (case hg => rfl); (case hr => exact gs_); (case hp => exact (Reps.one (show Kd.M (Kd.int .u64) _ _ _ 1 [.int .u64 1] from rfl) (Reps.none _ _))); intro v504 w18 ho19 hb hg_ hnew_; clear hg_ hnew_; (first | rw [← Ny503.out] at ho19 | (simp only [Int.reduceToNat] at ho19; rw [← Ny503.out] at ho19)); replace HO501 := jA.mk (Kd.qU (rV_ HO501) (Kd.qI ho19) hb); have HO505 := jA.mk (Kd.jZ ho19 (jB (bb1_ HB GE496))); replace BK496 := bk_ BK496 hb; replace HB := jA.mk (jf (bb1_ HB GE496) hb); clear hb ho19; obtain ⟨Ao20, co20, eo20⟩ := Kd.zF HO501.out; subst eo20; obtain ⟨Ao21, co21, eo21⟩ := Kd.jr HO505.out; subst eo21) | ((with_reducible refine jF (f := 47) rfl ?_); refine jg (some 31) rfl rfl Try.func47 kr_ rfl #[.slice Ao20 t499.length co20, .slice Ao21 y503.length co21] rfl mt_ ?_; (with_reducible refine (vN.calls kj1 _ _ t499 _ _ y503 true _ ?side1 ?side2 ?side3 ?side4 A13.out).mono ?_); (case side1 => repeat (first | exact (Kd.vQ HO501.out).2.2 | (with_reducible refine Kd.zU ?_ _) | (with_reducible refine Kd.zm ?_ _) | (with_reducible refine Kd.qL ?_))); (case side2 => exact (Kd.vQ HO501.out).2.1); (case side3 => exact cc_ (Kd.jH HO505.out).2.2); (case side4 => exact (Kd.jH HO505.out).2.1); rintro e w' ⟨rfl, ⟨nd, rfl⟩⟩; refine ⟨_, rfl, ?_⟩; obtain ⟨hcz22_0, hcz22_1, hcz22_2, hfz22_0, hfz22_1, hfz22_2⟩ := bf3_ BK496))
      go_ret
      exact ⟨ew_, (bb1_ HB GE496)⟩
     ·
      replace c15 := Bool.eq_false_iff.mpr c15
      subst c15
      have H1 : (some (!false)) = some r := by rw [if_neg (show ¬ (false = true) by decide)] at H; exact H
      clear H
      have H := H1
      clear H1
      obtain rfl := Option.some.inj H
      have hcz23_0 : wc.cell? ⟨gb496, 0, none⟩ = some (.bool false) := (ji BK496.out 0).trans rfl
      have hcz23_1 : wc.cell? ⟨gb496, 1, none⟩ = some (.slice A0_1 l0_1.length c0_1) := (ji BK496.out 1).trans rfl
      have hcz23_2 : wc.cell? ⟨gb496, 2, none⟩ = some (.slice A0_2 l0_2.length c0_2) := (ji BK496.out 2).trans rfl
      have hfz23_0 := jo BK496.out 0
      have hfz23_1 := jo BK496.out 1
      have hfz23_2 := jo BK496.out 2
      go_wp2_with (first | ((with_reducible refine jF (f := 77) rfl ?_); refine jg (some 26) rfl rfl Try.func77 kr_ rfl #[.slice A0_1 l0_1.length c0_1, .slice A0_2 l0_2.length c0_2] rfl mt_ ?_; (with_reducible refine (jO.calls kj1 (fun k_ => k_ < w.heap.size) _ _ l0_1 (fun k_ => k_ < w.heap.size) _ _ l0_2 t499 t502 _ ?side1 ?side2 A12.out).mono ?_); (case side1 => exact Kd.V_mk HC0_1.out (Kd.zR (Kd.C_F (Kd.vZ .u64) HR0_1.out) (bb1_ HB GE496))); (case side2 => exact Kd.V_mk HC0_2.out (Kd.zR (Kd.C_F (Kd.vZ .u64) HR0_2.out) (bb1_ HB GE496))); rintro e w24 ⟨v500, rfl, ho0, hb⟩; refine ⟨_, rfl, ?_⟩; have HO501 := jA.mk (Kd.zi (Kd.zN (ok' := fun k_ => k_ ≠ gb496) ho0 (fun k_ hk_ => Or.elim hk_ (fun hs_ => Or.elim hs_ (fun hs_ => fun e_ => Nat.not_le.2 hs_ (by rw [e_]; exact GW496.out)) (fun hs_ => fun e_ => Nat.not_le.2 hs_ (by rw [e_]; exact GW496.out))) (fun hn_ => (Kd.jFo (g := gb496) (o := .cells #[.bool false, .slice A0_1 l0_1.length c0_1, .slice A0_2 l0_2.length c0_2] 44 (0, 0)) (kb_ BK496) k_ hn_)))) (jB (bb1_ HB GE496))); replace BK496 := bk_ BK496 hb; replace HB := jA.mk (jf (bb1_ HB GE496) hb)) | ((with_reducible refine jq (N := 30) rfl ?_); (try (refine jv (by rfl) ?_; dsimp only)); refine Kd.jAC (Kd.int .u64) _ 22 ?hg (N := 30) ?hd (xs := ([1] : List Int)) (inner := [.int .u64 1]) (ok := fun _ => True) (okp := fun _ => True) ?hr ?hp (fun _ hk => hk) trivial (Below.refl _ _) (Nat.le_refl _) (by simp) ?_; (case hd => rfl); (case hg => rfl); (case hr => exact gs_); (case hp => exact (Reps.one (show Kd.M (Kd.int .u64) _ _ _ 1 [.int .u64 1] from rfl) (Reps.none _ _))); intro v504 w25 ho26 hb hg_ hnew_; clear hg_ hnew_; (first | rw [← Ny503.out] at ho26 | (simp only [Int.reduceToNat] at ho26; rw [← Ny503.out] at ho26)); replace HO501 := jA.mk (Kd.qU (rV_ HO501) (Kd.qI ho26) hb); have HO505 := jA.mk (Kd.jZ ho26 (jB (bb1_ HB GE496))); replace BK496 := bk_ BK496 hb; replace HB := jA.mk (jf (bb1_ HB GE496) hb); clear hb ho26; obtain ⟨Ao27, co27, eo27⟩ := Kd.zF HO501.out; subst eo27; obtain ⟨Ao28, co28, eo28⟩ := Kd.jr HO505.out; subst eo28) | ((with_reducible refine jF (f := 47) rfl ?_); refine jg (some 31) rfl rfl Try.func47 kr_ rfl #[.slice Ao27 t499.length co27, .slice Ao28 y503.length co28] rfl mt_ ?_; (with_reducible refine (vN.calls kj1 _ _ t499 _ _ y503 true _ ?side1 ?side2 ?side3 ?side4 A13.out).mono ?_); (case side1 => repeat (first | exact (Kd.vQ HO501.out).2.2 | (with_reducible refine Kd.zU ?_ _) | (with_reducible refine Kd.zm ?_ _) | (with_reducible refine Kd.qL ?_))); (case side2 => exact (Kd.vQ HO501.out).2.1); (case side3 => exact cc_ (Kd.jH HO505.out).2.2); (case side4 => exact (Kd.jH HO505.out).2.1); rintro e w' ⟨rfl, ⟨nd, rfl⟩⟩; refine ⟨_, rfl, ?_⟩; obtain ⟨hcz29_0, hcz29_1, hcz29_2, hfz29_0, hfz29_1, hfz29_2⟩ := bf3_ BK496))
      go_ret
      exact ⟨ew_, (bb1_ HB GE496)⟩
    ·
     replace c14 := Bool.eq_false_iff.mpr c14
     subst c14
     have H1 : (some false) = some r := by rw [if_neg (show ¬ (false = true) by decide)] at H; exact H
     clear H
     have H := H1
     clear H1
     obtain rfl := Option.some.inj H
     have hcz30_0 : wc.cell? ⟨gb496, 0, none⟩ = some (.bool a0_0) := (ji BK496.out 0).trans rfl
     have hcz30_1 : wc.cell? ⟨gb496, 1, none⟩ = some (.slice A0_1 l0_1.length c0_1) := (ji BK496.out 1).trans rfl
     have hcz30_2 : wc.cell? ⟨gb496, 2, none⟩ = some (.slice A0_2 l0_2.length c0_2) := (ji BK496.out 2).trans rfl
     have hfz30_0 := jo BK496.out 0
     have hfz30_1 := jo BK496.out 1
     have hfz30_2 := jo BK496.out 2
     go_wp2_with (first | ((with_reducible refine jF (f := 77) rfl ?_); refine jg (some 26) rfl rfl Try.func77 kr_ rfl #[.slice A0_1 l0_1.length c0_1, .slice A0_2 l0_2.length c0_2] rfl mt_ ?_; (with_reducible refine (jO.calls kj1 (fun k_ => k_ < w.heap.size) _ _ l0_1 (fun k_ => k_ < w.heap.size) _ _ l0_2 t499 t502 _ ?side1 ?side2 A12.out).mono ?_); (case side1 => exact Kd.V_mk HC0_1.out (Kd.zR (Kd.C_F (Kd.vZ .u64) HR0_1.out) (bb1_ HB GE496))); (case side2 => exact Kd.V_mk HC0_2.out (Kd.zR (Kd.C_F (Kd.vZ .u64) HR0_2.out) (bb1_ HB GE496))); rintro e w31 ⟨v500, rfl, ho0, hb⟩; refine ⟨_, rfl, ?_⟩; have HO501 := jA.mk (Kd.zi (Kd.zN (ok' := fun k_ => k_ ≠ gb496) ho0 (fun k_ hk_ => Or.elim hk_ (fun hs_ => Or.elim hs_ (fun hs_ => fun e_ => Nat.not_le.2 hs_ (by rw [e_]; exact GW496.out)) (fun hs_ => fun e_ => Nat.not_le.2 hs_ (by rw [e_]; exact GW496.out))) (fun hn_ => (Kd.jFo (g := gb496) (o := .cells #[.bool a0_0, .slice A0_1 l0_1.length c0_1, .slice A0_2 l0_2.length c0_2] 44 (0, 0)) (kb_ BK496) k_ hn_)))) (jB (bb1_ HB GE496))); replace BK496 := bk_ BK496 hb; replace HB := jA.mk (jf (bb1_ HB GE496) hb)) | ((with_reducible refine jq (N := 30) rfl ?_); (try (refine jv (by rfl) ?_; dsimp only)); refine Kd.jAC (Kd.int .u64) _ 22 ?hg (N := 30) ?hd (xs := ([1] : List Int)) (inner := [.int .u64 1]) (ok := fun _ => True) (okp := fun _ => True) ?hr ?hp (fun _ hk => hk) trivial (Below.refl _ _) (Nat.le_refl _) (by simp) ?_; (case hd => rfl); (case hg => rfl); (case hr => exact gs_); (case hp => exact (Reps.one (show Kd.M (Kd.int .u64) _ _ _ 1 [.int .u64 1] from rfl) (Reps.none _ _))); intro v504 w32 ho33 hb hg_ hnew_; clear hg_ hnew_; (first | rw [← Ny503.out] at ho33 | (simp only [Int.reduceToNat] at ho33; rw [← Ny503.out] at ho33)); replace HO501 := jA.mk (Kd.qU (rV_ HO501) (Kd.qI ho33) hb); have HO505 := jA.mk (Kd.jZ ho33 (jB (bb1_ HB GE496))); replace BK496 := bk_ BK496 hb; replace HB := jA.mk (jf (bb1_ HB GE496) hb); clear hb ho33; obtain ⟨Ao34, co34, eo34⟩ := Kd.zF HO501.out; subst eo34; obtain ⟨Ao35, co35, eo35⟩ := Kd.jr HO505.out; subst eo35) | ((with_reducible refine jF (f := 47) rfl ?_); refine jg (some 31) rfl rfl Try.func47 kr_ rfl #[.slice Ao34 t499.length co34, .slice Ao35 y503.length co35] rfl mt_ ?_; (with_reducible refine (vN.calls kj1 _ _ t499 _ _ y503 false _ ?side1 ?side2 ?side3 ?side4 A13.out).mono ?_); (case side1 => repeat (first | exact (Kd.vQ HO501.out).2.2 | (with_reducible refine Kd.zU ?_ _) | (with_reducible refine Kd.zm ?_ _) | (with_reducible refine Kd.qL ?_))); (case side2 => exact (Kd.vQ HO501.out).2.1); (case side3 => exact cc_ (Kd.jH HO505.out).2.2); (case side4 => exact (Kd.jH HO505.out).2.1); rintro e w' ⟨rfl, ⟨nd, rfl⟩⟩; refine ⟨_, rfl, ?_⟩))
     go_ret
     exact ⟨ew_, (bb1_ HB GE496)⟩

/-! ### vK: function 32 -/
def vK.f (k : Nat) (a0_0 : Bool) (l0_1 : List Int) (l0_2 : List Int) : Option (ByteArray × Int) := (jT.f k a0_0 l0_1 l0_2).bind fun t508 => (if t508 = true then (if a0_0 = true then ((jJ.f k l0_1).bind fun bt509 => ((jJ.f k l0_2).bind fun bt511 => (if 1 + bt509.1.size ≤ 9223372036854775807 then (if ((⟨#[1]⟩ : ByteArray) ++ bt509.1).size + bt511.1.size ≤ 9223372036854775807 then (some (((⟨#[1]⟩ : ByteArray) ++ bt509.1) ++ bt511.1, 0)) else (none)) else (none)))) else ((jJ.f k l0_1).bind fun bt513 => ((jJ.f k l0_2).bind fun bt515 => (if 1 + bt513.1.size ≤ 9223372036854775807 then (if ((⟨#[0]⟩ : ByteArray) ++ bt513.1).size + bt515.1.size ≤ 9223372036854775807 then (some (((⟨#[0]⟩ : ByteArray) ++ bt513.1) ++ bt515.1, 0)) else (none)) else (none))))) else (some ((⟨#[]⟩ : ByteArray), 1)))
theorem vK.mono : ∀ a0 a1 a2 k, LeO (vK.f k a0 a1 a2) (vK.f (k + 1) a0 a1 a2) := by
 intro a0 a1 a2 k
 unfold vK.f
 repeat' first
   | (with_reducible exact jT.mono _ _ _ _)
   | (with_reducible exact jJ.mono _ _)
   | (with_reducible exact LeO.refl _)
   | (with_reducible exact LeO.none _)
   | (with_reducible refine LeO.ite ?_ ?_)
   | (with_reducible refine LeO.bind ?_ (fun _ => ?_))
theorem vK.calls (k : Nat) (a0_0 : Bool) (A0_1 : Option Addr) (c0_1 : Nat) (l0_1 : List Int) (A0_2 : Option Addr) (c0_2 : Nat) (l0_2 : List Int) (r1 : ByteArray) (r2 : Int) (w : World) (hr0_1 : Kd.C (Kd.int .u64) w A0_1 l0_1.length l0_1) (hc0_1 : l0_1.length ≤ c0_1) (hr0_2 : Kd.C (Kd.int .u64) w A0_2 l0_2.length l0_2) (hc0_2 : l0_2.length ≤ c0_2) (h : vK.f k a0_0 l0_1 l0_2 = some (r1, r2)) :
  Calls Try.prog 32 #[.agg #[.bool a0_0, .slice A0_1 l0_1.length c0_1, .slice A0_2 l0_2.length c0_2]] w fun e w' => e = .returned (.tuple #[.string r1, .int .i64 r2]) ∧ Below w.heap.size w w' := by
 have hu44 := Try.underlying44
 have HR0_1 := jA.mk hr0_1
 have HC0_1 := jA.mk hc0_1
 clear hr0_1 hc0_1
 have HR0_2 := jA.mk hr0_2
 have HC0_2 := jA.mk hc0_2
 clear hr0_2 hc0_2
 have HB := jA.mk (Below.refl w.heap.size w)
 have H : ((jT.f k a0_0 l0_1 l0_2).bind fun t508 => (if t508 = true then (if a0_0 = true then ((jJ.f k l0_1).bind fun bt509 => ((jJ.f k l0_2).bind fun bt511 => (if 1 + bt509.1.size ≤ 9223372036854775807 then (if ((⟨#[1]⟩ : ByteArray) ++ bt509.1).size + bt511.1.size ≤ 9223372036854775807 then (some (((⟨#[1]⟩ : ByteArray) ++ bt509.1) ++ bt511.1, 0)) else (none)) else (none)))) else ((jJ.f k l0_1).bind fun bt513 => ((jJ.f k l0_2).bind fun bt515 => (if 1 + bt513.1.size ≤ 9223372036854775807 then (if ((⟨#[0]⟩ : ByteArray) ++ bt513.1).size + bt515.1.size ≤ 9223372036854775807 then (some (((⟨#[0]⟩ : ByteArray) ++ bt513.1) ++ bt515.1, 0)) else (none)) else (none))))) else (some ((⟨#[]⟩ : ByteArray), 1)))) = some (r1, r2) := h
 clear h
 replace H := ob_ H
 obtain ⟨t508, A20, H⟩ := H
 try dsimp only at H
 have A2 := jA.mk A20
 clear A20
 by_cases c3 : t508 = true
 ·
  subst c3
  have H1 : (if a0_0 = true then ((jJ.f k l0_1).bind fun bt509 => ((jJ.f k l0_2).bind fun bt511 => (if 1 + bt509.1.size ≤ 9223372036854775807 then (if ((⟨#[1]⟩ : ByteArray) ++ bt509.1).size + bt511.1.size ≤ 9223372036854775807 then (some (((⟨#[1]⟩ : ByteArray) ++ bt509.1) ++ bt511.1, 0)) else (none)) else (none)))) else ((jJ.f k l0_1).bind fun bt513 => ((jJ.f k l0_2).bind fun bt515 => (if 1 + bt513.1.size ≤ 9223372036854775807 then (if ((⟨#[0]⟩ : ByteArray) ++ bt513.1).size + bt515.1.size ≤ 9223372036854775807 then (some (((⟨#[0]⟩ : ByteArray) ++ bt513.1) ++ bt515.1, 0)) else (none)) else (none))))) = some (r1, r2) := by rw [if_pos rfl] at H; exact H
  clear H
  have H := H1
  clear H1
  by_cases c4 : a0_0 = true
  ·
   subst c4
   have H1 : ((jJ.f k l0_1).bind fun bt509 => ((jJ.f k l0_2).bind fun bt511 => (if 1 + bt509.1.size ≤ 9223372036854775807 then (if ((⟨#[1]⟩ : ByteArray) ++ bt509.1).size + bt511.1.size ≤ 9223372036854775807 then (some (((⟨#[1]⟩ : ByteArray) ++ bt509.1) ++ bt511.1, 0)) else (none)) else (none)))) = some (r1, r2) := by rw [if_pos rfl] at H; exact H
   clear H
   have H := H1
   clear H1
   replace H := ob_ H
   obtain ⟨⟨t509, t510⟩, A50, H⟩ := H
   try dsimp only at H
   have A5 := jA.mk A50
   clear A50
   replace H := ob_ H
   obtain ⟨⟨t511, t512⟩, A60, H⟩ := H
   try dsimp only at H
   have A6 := jA.mk A60
   clear A60
   by_cases c7 : 1 + t509.size ≤ 9223372036854775807
   ·
    rw [if_pos c7] at H
    have c7b0 := eq_true c7
    have c7b1 := decide_eq_true c7
    try have c7b2 : (9223372036854775807 < 1 + t509.size) = False := eq_false (Nat.not_lt.2 c7)
    by_cases c8 : ((⟨#[1]⟩ : ByteArray) ++ t509).size + t511.size ≤ 9223372036854775807
    ·
     rw [if_pos c8] at H
     have c8b0 := eq_true c8
     have c8b1 := decide_eq_true c8
     try have c8b2 : (9223372036854775807 < ((⟨#[1]⟩ : ByteArray) ++ t509).size + t511.size) = False := eq_false (Nat.not_lt.2 c8)
     simp only [Option.some.injEq, Prod.mk.injEq] at H
     obtain ⟨rfl, rfl⟩ := H
     go_enter Try.func32, Try.ntmps32
     go_wp2_with (first | ((with_reducible refine jq (N := 1) rfl ?_); refine zf ?hg (N := 1) ?hd (cs := #[.bool true, .slice A0_1 l0_1.length c0_1, .slice A0_2 l0_2.length c0_2]) (t := 44) ?hr ?_; (case hd => rfl); (case hg => rfl); (case hr => exact gs_); intro gb507 hg w9 hbox hb; have BK507 := jA.mk (hbox); have GW507 := jA.mk ((by rw [hg]; exact (jB (bb_ HB)) : w.heap.size ≤ gb507)); have GE507 := jA.mk ((by rw [hg]; exact (jB (bb_ HB)) : w.heap.size ≤ gb507)); replace HB := bs_ HB hb; clear hb hbox hg; obtain ⟨hcz10_0, hcz10_1, hcz10_2, hfz10_0, hfz10_1, hfz10_2⟩ := bf3_ BK507) | ((with_reducible refine jF (f := 76) rfl ?_); refine jg (some 10) rfl rfl Try.func76 kr_ rfl #[.agg #[.bool true, .slice A0_1 l0_1.length c0_1, .slice A0_2 l0_2.length c0_2]] rfl mt_ ?_; (with_reducible refine (jT.calls k true _ _ l0_1 _ _ l0_2 true _ ?side1 ?side2 ?side3 ?side4 A2.out).mono ?_); (case side1 => exact cc_ (Kd.jW HR0_1.out HB.out)); (case side2 => exact HC0_1.out); (case side3 => exact cc_ (Kd.jW HR0_2.out HB.out)); (case side4 => exact HC0_2.out); rintro e w11 ⟨rfl, hb⟩; refine ⟨_, rfl, ?_⟩; replace BK507 := bk_ BK507 hb; replace HB := jA.mk (jf (bb1_ HB GE507) hb); obtain ⟨hcz12_0, hcz12_1, hcz12_2, hfz12_0, hfz12_1, hfz12_2⟩ := bf3_ BK507) | ((with_reducible refine jF (f := 30) rfl ?_); refine jg (some 17) rfl rfl Try.func30 kr_ rfl #[.slice A0_1 l0_1.length c0_1] rfl mt_ ?_; (with_reducible refine (jJ.calls k _ _ l0_1 t509 t510 _ ?side1 ?side2 A5.out).mono ?_); (case side1 => exact cc_ (Kd.jW HR0_1.out HB.out)); (case side2 => exact HC0_1.out); rintro e w13 ⟨rfl, hb⟩; refine ⟨_, rfl, ?_⟩; replace BK507 := bk_ BK507 hb; replace HB := jA.mk (jf (bb1_ HB GE507) hb); obtain ⟨hcz14_0, hcz14_1, hcz14_2, hfz14_0, hfz14_1, hfz14_2⟩ := bf3_ BK507) | ((with_reducible refine jF (f := 30) rfl ?_); refine jg (some 23) rfl rfl Try.func30 kr_ rfl #[.slice A0_2 l0_2.length c0_2] rfl mt_ ?_; (with_reducible refine (jJ.calls k _ _ l0_2 t511 t512 _ ?side1 ?side2 A6.out).mono ?_); (case side1 => exact cc_ (Kd.jW HR0_2.out HB.out)); (case side2 => exact HC0_2.out); rintro e w15 ⟨rfl, hb⟩; refine ⟨_, rfl, ?_⟩; replace BK507 := bk_ BK507 hb; replace HB := jA.mk (jf (bb1_ HB GE507) hb)))
     go_ret2
     exact ⟨ew_, (bb1_ HB GE507)⟩
    ·
     rw [if_neg c8] at H
     exact absurd H (by simp)
   ·
    rw [if_neg c7] at H
    exact absurd H (by simp)
  ·
   replace c4 := Bool.eq_false_iff.mpr c4
   subst c4
   have H1 : ((jJ.f k l0_1).bind fun bt513 => ((jJ.f k l0_2).bind fun bt515 => (if 1 + bt513.1.size ≤ 9223372036854775807 then (if ((⟨#[0]⟩ : ByteArray) ++ bt513.1).size + bt515.1.size ≤ 9223372036854775807 then (some (((⟨#[0]⟩ : ByteArray) ++ bt513.1) ++ bt515.1, 0)) else (none)) else (none)))) = some (r1, r2) := by rw [if_neg (show ¬ (false = true) by decide)] at H; exact H
   clear H
   have H := H1
   clear H1
   replace H := ob_ H
   obtain ⟨⟨t513, t514⟩, A160, H⟩ := H
   try dsimp only at H
   have A16 := jA.mk A160
   clear A160
   replace H := ob_ H
   obtain ⟨⟨t515, t516⟩, A170, H⟩ := H
   try dsimp only at H
   have A17 := jA.mk A170
   clear A170
   by_cases c18 : 1 + t513.size ≤ 9223372036854775807
   ·
    rw [if_pos c18] at H
    have c18b0 := eq_true c18
    have c18b1 := decide_eq_true c18
    try have c18b2 : (9223372036854775807 < 1 + t513.size) = False := eq_false (Nat.not_lt.2 c18)
    by_cases c19 : ((⟨#[0]⟩ : ByteArray) ++ t513).size + t515.size ≤ 9223372036854775807
    ·
     rw [if_pos c19] at H
     have c19b0 := eq_true c19
     have c19b1 := decide_eq_true c19
     try have c19b2 : (9223372036854775807 < ((⟨#[0]⟩ : ByteArray) ++ t513).size + t515.size) = False := eq_false (Nat.not_lt.2 c19)
     simp only [Option.some.injEq, Prod.mk.injEq] at H
     obtain ⟨rfl, rfl⟩ := H
     go_enter Try.func32, Try.ntmps32
     go_wp2_with (first | ((with_reducible refine jq (N := 1) rfl ?_); refine zf ?hg (N := 1) ?hd (cs := #[.bool false, .slice A0_1 l0_1.length c0_1, .slice A0_2 l0_2.length c0_2]) (t := 44) ?hr ?_; (case hd => rfl); (case hg => rfl); (case hr => exact gs_); intro gb507 hg w20 hbox hb; have BK507 := jA.mk (hbox); have GW507 := jA.mk ((by rw [hg]; exact (jB (bb_ HB)) : w.heap.size ≤ gb507)); have GE507 := jA.mk ((by rw [hg]; exact (jB (bb_ HB)) : w.heap.size ≤ gb507)); replace HB := bs_ HB hb; clear hb hbox hg; obtain ⟨hcz21_0, hcz21_1, hcz21_2, hfz21_0, hfz21_1, hfz21_2⟩ := bf3_ BK507) | ((with_reducible refine jF (f := 76) rfl ?_); refine jg (some 10) rfl rfl Try.func76 kr_ rfl #[.agg #[.bool false, .slice A0_1 l0_1.length c0_1, .slice A0_2 l0_2.length c0_2]] rfl mt_ ?_; (with_reducible refine (jT.calls k false _ _ l0_1 _ _ l0_2 true _ ?side1 ?side2 ?side3 ?side4 A2.out).mono ?_); (case side1 => exact cc_ (Kd.jW HR0_1.out HB.out)); (case side2 => exact HC0_1.out); (case side3 => exact cc_ (Kd.jW HR0_2.out HB.out)); (case side4 => exact HC0_2.out); rintro e w22 ⟨rfl, hb⟩; refine ⟨_, rfl, ?_⟩; replace BK507 := bk_ BK507 hb; replace HB := jA.mk (jf (bb1_ HB GE507) hb); obtain ⟨hcz23_0, hcz23_1, hcz23_2, hfz23_0, hfz23_1, hfz23_2⟩ := bf3_ BK507) | ((with_reducible refine jF (f := 30) rfl ?_); refine jg (some 17) rfl rfl Try.func30 kr_ rfl #[.slice A0_1 l0_1.length c0_1] rfl mt_ ?_; (with_reducible refine (jJ.calls k _ _ l0_1 t513 t514 _ ?side1 ?side2 A16.out).mono ?_); (case side1 => exact cc_ (Kd.jW HR0_1.out HB.out)); (case side2 => exact HC0_1.out); rintro e w24 ⟨rfl, hb⟩; refine ⟨_, rfl, ?_⟩; replace BK507 := bk_ BK507 hb; replace HB := jA.mk (jf (bb1_ HB GE507) hb); obtain ⟨hcz25_0, hcz25_1, hcz25_2, hfz25_0, hfz25_1, hfz25_2⟩ := bf3_ BK507) | ((with_reducible refine jF (f := 30) rfl ?_); refine jg (some 23) rfl rfl Try.func30 kr_ rfl #[.slice A0_2 l0_2.length c0_2] rfl mt_ ?_; (with_reducible refine (jJ.calls k _ _ l0_2 t515 t516 _ ?side1 ?side2 A17.out).mono ?_); (case side1 => exact cc_ (Kd.jW HR0_2.out HB.out)); (case side2 => exact HC0_2.out); rintro e w26 ⟨rfl, hb⟩; refine ⟨_, rfl, ?_⟩; replace BK507 := bk_ BK507 hb; replace HB := jA.mk (jf (bb1_ HB GE507) hb)))
     go_ret2
     exact ⟨ew_, (bb1_ HB GE507)⟩
    ·
     rw [if_neg c19] at H
     exact absurd H (by simp)
   ·
    rw [if_neg c18] at H
    exact absurd H (by simp)
 ·
  replace c3 := Bool.eq_false_iff.mpr c3
  subst c3
  have H1 : (some ((⟨#[]⟩ : ByteArray), 1)) = some (r1, r2) := by rw [if_neg (show ¬ (false = true) by decide)] at H; exact H
  clear H
  have H := H1
  clear H1
  simp only [Option.some.injEq, Prod.mk.injEq] at H
  obtain ⟨rfl, rfl⟩ := H
  go_enter Try.func32, Try.ntmps32
  go_wp2_with (first | ((with_reducible refine jq (N := 1) rfl ?_); refine zf ?hg (N := 1) ?hd (cs := #[.bool a0_0, .slice A0_1 l0_1.length c0_1, .slice A0_2 l0_2.length c0_2]) (t := 44) ?hr ?_; (case hd => rfl); (case hg => rfl); (case hr => exact gs_); intro gb507 hg w27 hbox hb; have BK507 := jA.mk (hbox); have GW507 := jA.mk ((by rw [hg]; exact (jB (bb_ HB)) : w.heap.size ≤ gb507)); have GE507 := jA.mk ((by rw [hg]; exact (jB (bb_ HB)) : w.heap.size ≤ gb507)); replace HB := bs_ HB hb; clear hb hbox hg; obtain ⟨hcz28_0, hcz28_1, hcz28_2, hfz28_0, hfz28_1, hfz28_2⟩ := bf3_ BK507) | ((with_reducible refine jF (f := 76) rfl ?_); refine jg (some 10) rfl rfl Try.func76 kr_ rfl #[.agg #[.bool a0_0, .slice A0_1 l0_1.length c0_1, .slice A0_2 l0_2.length c0_2]] rfl mt_ ?_; (with_reducible refine (jT.calls k a0_0 _ _ l0_1 _ _ l0_2 false _ ?side1 ?side2 ?side3 ?side4 A2.out).mono ?_); (case side1 => exact cc_ (Kd.jW HR0_1.out HB.out)); (case side2 => exact HC0_1.out); (case side3 => exact cc_ (Kd.jW HR0_2.out HB.out)); (case side4 => exact HC0_2.out); rintro e w29 ⟨rfl, hb⟩; refine ⟨_, rfl, ?_⟩; replace BK507 := bk_ BK507 hb; replace HB := jA.mk (jf (bb1_ HB GE507) hb)))
  go_ret2
  exact ⟨ew_, (bb1_ HB GE507)⟩

/-! ### vH: function 34 -/
def vH.f (k : Nat) (a0 : ByteArray) : Option (ByteArray) := (jN.f k (a0.size : Int)).bind fun t517 => (if t517.size + a0.size ≤ 9223372036854775807 then (some (t517 ++ a0)) else (none))
theorem vH.mono : ∀ a0 k, LeO (vH.f k a0) (vH.f (k + 1) a0) := by
 intro a0 k
 unfold vH.f
 repeat' first
   | (with_reducible exact jN.mono _ _)
   | (with_reducible exact LeO.refl _)
   | (with_reducible exact LeO.none _)
   | (with_reducible refine LeO.ite ?_ ?_)
   | (with_reducible refine LeO.bind ?_ (fun _ => ?_))
theorem vH.calls (k : Nat) (a0 : ByteArray) (r : ByteArray) (w : World) (h : vH.f k a0 = some r) :
  Calls Try.prog 34 #[.string a0] w fun e w' => e = .returned (.string r) ∧ Below w.heap.size w w' := by
 have HB := jA.mk (Below.refl w.heap.size w)
 have H : ((jN.f k (a0.size : Int)).bind fun t517 => (if t517.size + a0.size ≤ 9223372036854775807 then (some (t517 ++ a0)) else (none))) = some r := h
 clear h
 replace H := ob_ H
 obtain ⟨t517, A20, H⟩ := H
 try dsimp only at H
 have A2 := jA.mk A20
 clear A20
 by_cases c3 : t517.size + a0.size ≤ 9223372036854775807
 ·
  rw [if_pos c3] at H
  have c3b0 := eq_true c3
  have c3b1 := decide_eq_true c3
  try have c3b2 : (9223372036854775807 < t517.size + a0.size) = False := eq_false (Nat.not_lt.2 c3)
  obtain rfl := Option.some.inj H
  go_enter Try.func34, Try.ntmps34
  go_wp2_with (first | ((with_reducible refine jF (f := 33) rfl ?_); refine jg (some 6) rfl rfl Try.func33 kr_ rfl #[.int .u64 (a0.size : Int)] rfl mt_ ?_; (with_reducible refine (jN.calls k (a0.size : Int) t517 _ A2.out).mono ?_); rintro e w4 ⟨rfl, hb⟩; refine ⟨_, rfl, ?_⟩; replace HB := bs_ HB hb))
  go_ret
  exact ⟨ew_, (bb_ HB)⟩
 ·
  rw [if_neg c3] at H
  exact absurd H (by simp)

/-! ### syzygylaw06_OctetPuts: function 6 -/
def syzygylaw06_OctetPuts.j0 : Nat → Int → List Int → ByteArray → Bool → Bool → List Int → List Int → Option (Bool)
 | 0, _, _, _, _, _, _, _ => none
 | k + 1, x0, x1, x3, x24, x519000, x519001, x519002 => if x24 = true then ((vC.f k).bind fun t521 => (some t521)) else ((jm.f k x1).bind fun bt522 => ((jJ.f k x1).bind fun bt524 => ((zI.f k x519000 x519001 x519002).bind fun bt526 => ((vK.f k x519000 x519001 x519002).bind fun bt528 => ((vF.f k x0).bind fun t530 => ((jN.f k x0).bind fun t531 => (if t530.toList = t531.toList then (if bt522.1.toList = bt524.1.toList then (if bt522.2 = bt524.2 then (if bt526.1.toList = bt528.1.toList then (if bt526.2 = bt528.2 then ((vk.f k x3).bind fun t532 => ((vH.f k x3).bind fun t533 => (some (t532.toList == t533.toList)))) else (some false)) else (some false)) else (some false)) else (some false)) else (some false))))))))
def syzygylaw06_OctetPuts.f (k : Nat) (a0 : Int) (l1 : List Int) (a2_0 : Bool) (l2_1 : List Int) (l2_2 : List Int) (a3 : ByteArray) : Option (Bool) := (zD.f l1 a2_0 l2_1 l2_2 a3).bind fun t519 => (if t519 = true then (syzygylaw06_OctetPuts.j0 k a0 l1 a3 true a2_0 l2_1 l2_2) else ((vC.f k).bind fun t520 => (syzygylaw06_OctetPuts.j0 k a0 l1 a3 (!t520) a2_0 l2_1 l2_2)))
theorem syzygylaw06_OctetPuts.vJ : ∀ k, (∀ y0 y1 y2 y3 y4 y5 y6, LeO (syzygylaw06_OctetPuts.j0 k y0 y1 y2 y3 y4 y5 y6) (syzygylaw06_OctetPuts.j0 (k + 1) y0 y1 y2 y3 y4 y5 y6))
 | 0 => fun _ _ _ _ _ _ _ r h => by simp [syzygylaw06_OctetPuts.j0] at h
 | k + 1 => by
  have ih0 := syzygylaw06_OctetPuts.vJ k
  ·
   intro y0 y1 y2 y3 y4 y5 y6
   unfold syzygylaw06_OctetPuts.j0
   repeat' first
   | (with_reducible exact ih0 _ _ _ _ _ _ _)
   | (with_reducible exact vF.mono _ _)
   | (with_reducible exact jm.mono _ _)
   | (with_reducible exact zI.mono _ _ _ _)
   | (with_reducible exact vk.mono _ _)
   | (with_reducible exact vC.mono _)
   | (with_reducible exact jN.mono _ _)
   | (with_reducible exact jJ.mono _ _)
   | (with_reducible exact vK.mono _ _ _ _)
   | (with_reducible exact vH.mono _ _)
   | (with_reducible exact LeO.refl _)
   | (with_reducible exact LeO.none _)
   | (with_reducible refine LeO.ite ?_ ?_)
   | (with_reducible refine LeO.bind ?_ (fun _ => ?_))
theorem syzygylaw06_OctetPuts.mono : ∀ a0 a1 a2 a3 a4 a5 k, LeO (syzygylaw06_OctetPuts.f k a0 a1 a2 a3 a4 a5) (syzygylaw06_OctetPuts.f (k + 1) a0 a1 a2 a3 a4 a5) := by
 intro a0 a1 a2 a3 a4 a5 k
 have ih0 := syzygylaw06_OctetPuts.vJ k
 unfold syzygylaw06_OctetPuts.f
 repeat' first
   | (with_reducible exact ih0 _ _ _ _ _ _ _)
   | (with_reducible exact vF.mono _ _)
   | (with_reducible exact jm.mono _ _)
   | (with_reducible exact zI.mono _ _ _ _)
   | (with_reducible exact vk.mono _ _)
   | (with_reducible exact vC.mono _)
   | (with_reducible exact jN.mono _ _)
   | (with_reducible exact jJ.mono _ _)
   | (with_reducible exact vK.mono _ _ _ _)
   | (with_reducible exact vH.mono _ _)
   | (with_reducible exact LeO.refl _)
   | (with_reducible exact LeO.none _)
   | (with_reducible refine LeO.ite ?_ ?_)
   | (with_reducible refine LeO.bind ?_ (fun _ => ?_))
theorem syzygylaw06_OctetPuts.calls (k : Nat) (a0 : Int) (A1 : Option Addr) (c1 : Nat) (l1 : List Int) (a2_0 : Bool) (A2_1 : Option Addr) (c2_1 : Nat) (l2_1 : List Int) (A2_2 : Option Addr) (c2_2 : Nat) (l2_2 : List Int) (a3 : ByteArray) (w : World) (hr1 : Kd.C (Kd.int .u64) w A1 l1.length l1) (hc1 : l1.length ≤ c1) (hr2_1 : Kd.C (Kd.int .u64) w A2_1 l2_1.length l2_1) (hc2_1 : l2_1.length ≤ c2_1) (hr2_2 : Kd.C (Kd.int .u64) w A2_2 l2_2.length l2_2) (hc2_2 : l2_2.length ≤ c2_2) (h : syzygylaw06_OctetPuts.f k a0 l1 a2_0 l2_1 l2_2 a3 = some true) :
  Calls Try.prog 6 #[.int .u64 a0, .slice A1 l1.length c1, .agg #[.bool a2_0, .slice A2_1 l2_1.length c2_1, .slice A2_2 l2_2.length c2_2], .string a3] w fun e w' => e = .returned (.bool true) ∧ Below w.heap.size w w' := by
 have hu44 := Try.underlying44
 have HR1 := jA.mk hr1
 have HC1 := jA.mk hc1
 clear hr1 hc1
 have HR2_1 := jA.mk hr2_1
 have HC2_1 := jA.mk hc2_1
 clear hr2_1 hc2_1
 have HR2_2 := jA.mk hr2_2
 have HC2_2 := jA.mk hc2_2
 clear hr2_2 hc2_2
 have HB := jA.mk (Below.refl w.heap.size w)
 have H : ((zD.f l1 a2_0 l2_1 l2_2 a3).bind fun t519 => (if t519 = true then (syzygylaw06_OctetPuts.j0 k a0 l1 a3 true a2_0 l2_1 l2_2) else ((vC.f k).bind fun t520 => (syzygylaw06_OctetPuts.j0 k a0 l1 a3 (!t520) a2_0 l2_1 l2_2)))) = some true := h
 clear h
 have HC5 := jA.mk H
 clear H
 go_enter Try.func6, Try.ntmps6
 go_upto_region 1 with (first | ((with_reducible refine jq (N := 6) rfl ?_); refine zf ?hg (N := 6) ?hd (cs := #[.bool a2_0, .slice A2_1 l2_1.length c2_1, .slice A2_2 l2_2.length c2_2]) (t := 44) ?hr ?_; (case hd => rfl); (case hg => rfl); (case hr => exact gs_); intro gb518 hg w6 hbox hb; have BK518 := jA.mk (hbox); have GW518 := jA.mk ((by rw [hg]; exact (jB (bb_ HB)) : w.heap.size ≤ gb518)); have GE518 := jA.mk ((by rw [hg]; exact (jB (bb_ HB)) : w.heap.size ≤ gb518)); replace HB := bs_ HB hb; clear hb hbox hg))
 (try simp only [Act.put, ss_])
 go_cut [24] (fun v24 wc => ∃ (kq : Nat) (x24_4 : Bool), v24 = .bool x24_4 ∧ jA (syzygylaw06_OctetPuts.j0 kq a0 l1 a3 x24_4 a2_0 l2_1 l2_2 = some true) ∧ jA (kq ≤ k) ∧ jA (wc.heap[gb518]? = some (.cells #[.bool a2_0, (.slice A2_1 l2_1.length c2_1), (.slice A2_2 l2_2.length c2_2)] 44 (0, 0))) ∧ jA (Below w.heap.size w wc))
 case first =>
  have H := HC5.out
  clear HC5
  replace H := ob_ H
  obtain ⟨t519, A70, H⟩ := H
  try dsimp only at H
  have A7 := jA.mk A70
  clear A70
  by_cases c8 : t519 = true
  ·
   subst c8
   have H1 : (syzygylaw06_OctetPuts.j0 k a0 l1 a3 true a2_0 l2_1 l2_2) = some true := by rw [if_pos rfl] at H; exact H
   clear H
   have H := H1
   clear H1
   have H' := jA.mk H
   clear H
   have hcz9_0 : w6.cell? ⟨gb518, 0, none⟩ = some (.bool a2_0) := (ji BK518.out 0).trans rfl
   have hcz9_1 : w6.cell? ⟨gb518, 1, none⟩ = some (.slice A2_1 l2_1.length c2_1) := (ji BK518.out 1).trans rfl
   have hcz9_2 : w6.cell? ⟨gb518, 2, none⟩ = some (.slice A2_2 l2_2.length c2_2) := (ji BK518.out 2).trans rfl
   have hfz9_0 := jo BK518.out 0
   have hfz9_1 := jo BK518.out 1
   have hfz9_2 := jo BK518.out 2
   go_wp2_with (first | ((with_reducible refine jF (f := 29) rfl ?_); refine jg (some 20) rfl rfl Try.func29 kr_ rfl #[.slice A1 l1.length c1, .agg #[.bool a2_0, .slice A2_1 l2_1.length c2_1, .slice A2_2 l2_2.length c2_2], .string a3] rfl mt_ ?_; (with_reducible refine (zD.calls _ _ l1 a2_0 _ _ l2_1 _ _ l2_2 a3 true _ ?side1 ?side2 ?side3 ?side4 ?side5 ?side6 A7.out).mono ?_); (case side1 => exact cc_ (Kd.jW HR1.out HB.out)); (case side2 => exact HC1.out); (case side3 => exact cc_ (Kd.jW HR2_1.out HB.out)); (case side4 => exact HC2_1.out); (case side5 => exact cc_ (Kd.jW HR2_2.out HB.out)); (case side6 => exact HC2_2.out); rintro e w10 ⟨rfl, hb⟩; refine ⟨_, rfl, ?_⟩; replace BK518 := bk_ BK518 hb; replace HB := jA.mk (jf (bb1_ HB GE518) hb)))
   go_meet
   case rel => exact ⟨_, (true), sd_, H', ⟨by first | omega | exact Nat.le_refl _⟩, ⟨by (with_reducible repeat (first | refine jAK ?_ _ | refine zJ ?_ | refine zZ ?_ _)); exact BK518.out⟩, ⟨(bb1_ HB GE518)⟩⟩
  ·
   replace c8 := Bool.eq_false_iff.mpr c8
   subst c8
   have H1 : ((vC.f k).bind fun t520 => (syzygylaw06_OctetPuts.j0 k a0 l1 a3 (!t520) a2_0 l2_1 l2_2)) = some true := by rw [if_neg (show ¬ (false = true) by decide)] at H; exact H
   clear H
   have H := H1
   clear H1
   replace H := ob_ H
   obtain ⟨t520, A110, H⟩ := H
   try dsimp only at H
   have A11 := jA.mk A110
   clear A110
   have H' := jA.mk H
   clear H
   have hcz12_0 : w6.cell? ⟨gb518, 0, none⟩ = some (.bool a2_0) := (ji BK518.out 0).trans rfl
   have hcz12_1 : w6.cell? ⟨gb518, 1, none⟩ = some (.slice A2_1 l2_1.length c2_1) := (ji BK518.out 1).trans rfl
   have hcz12_2 : w6.cell? ⟨gb518, 2, none⟩ = some (.slice A2_2 l2_2.length c2_2) := (ji BK518.out 2).trans rfl
   have hfz12_0 := jo BK518.out 0
   have hfz12_1 := jo BK518.out 1
   have hfz12_2 := jo BK518.out 2
   go_wp2_with (first | ((with_reducible refine jF (f := 29) rfl ?_); refine jg (some 20) rfl rfl Try.func29 kr_ rfl #[.slice A1 l1.length c1, .agg #[.bool a2_0, .slice A2_1 l2_1.length c2_1, .slice A2_2 l2_2.length c2_2], .string a3] rfl mt_ ?_; (with_reducible refine (zD.calls _ _ l1 a2_0 _ _ l2_1 _ _ l2_2 a3 false _ ?side1 ?side2 ?side3 ?side4 ?side5 ?side6 A7.out).mono ?_); (case side1 => exact cc_ (Kd.jW HR1.out HB.out)); (case side2 => exact HC1.out); (case side3 => exact cc_ (Kd.jW HR2_1.out HB.out)); (case side4 => exact HC2_1.out); (case side5 => exact cc_ (Kd.jW HR2_2.out HB.out)); (case side6 => exact HC2_2.out); rintro e w13 ⟨rfl, hb⟩; refine ⟨_, rfl, ?_⟩; replace BK518 := bk_ BK518 hb; replace HB := jA.mk (jf (bb1_ HB GE518) hb)) | ((with_reducible refine jq (N := 22) rfl ?_); refine jv (by first | rfl | kernel_rfl) ?_; dsimp only; (with_reducible refine jF (f := 16) rfl ?_); refine jg (some 22) rfl rfl Try.func16 kr_ rfl #[] rfl mt_ ?_; (with_reducible refine (vC.calls k  t520 _ A11.out).mono ?_); rintro e w14 ⟨rfl, hb⟩; refine ⟨_, rfl, ?_⟩; replace BK518 := bk_ BK518 hb; replace HB := jA.mk (jf (bb1_ HB GE518) hb)))
   go_meet
   case rel => exact ⟨_, (!t520), sd_, H', ⟨by first | omega | exact Nat.le_refl _⟩, ⟨by (with_reducible repeat (first | refine jAK ?_ _ | refine zJ ?_ | refine zZ ?_ _)); exact BK518.out⟩, ⟨(bb1_ HB GE518)⟩⟩
 case rest =>
  clear HC5
  try clear c1
  try clear c2
  try clear p2
  try clear c6
  try clear c8
  try clear hcz12_0
  try clear hcz12_1
  try clear hcz12_2
  try clear hcz9_0
  try clear hcz9_1
  try clear hcz9_2
  try clear hfz12_0
  try clear hfz12_1
  try clear hfz12_2
  try clear hfz9_0
  try clear hfz9_1
  try clear hfz9_2
  obtain ⟨kq, x24_4, rfl, HA, HJ4, BK518, HB⟩ := hcut
  cases kq with
  | zero => exact absurd HA.out (by simp [syzygylaw06_OctetPuts.j0])
  | succ kj4 =>
   have H := HA.out
   clear HA
   simp only [syzygylaw06_OctetPuts.j0] at H
   by_cases c15 : x24_4 = true
   ·
    subst c15
    have H1 : ((vC.f kj4).bind fun t521 => (some t521)) = some true := by rw [if_pos rfl] at H; exact H
    clear H
    have H := H1
    clear H1
    replace H := ob_ H
    obtain ⟨t521, A160, H⟩ := H
    try dsimp only at H
    have A16 := jA.mk A160
    clear A160
    have HRT_ := jA.mk (Option.some.inj H)
    clear H
    go_wp2_with (first | ((with_reducible refine jF (f := 16) rfl ?_); refine jg (some 25) rfl rfl Try.func16 kr_ rfl #[] rfl mt_ ?_; (with_reducible refine (vC.calls kj4  t521 _ A16.out).mono ?_); rintro e w17 ⟨rfl, hb⟩; refine ⟨_, rfl, ?_⟩; replace BK518 := bk_ BK518 hb; replace HB := jA.mk (jf (bb1_ HB GE518) hb)))
    go_ret
    exact ⟨by first | rfl | (rw [HRT_.out]; rfl) | (simp only [HRT_.out]; done) | exact of_decide_eq_true HRT_.out | (have h_ := HRT_.out; simp at h_ ⊢; exact h_) | (have h_ := HRT_.out; simp at h_ ⊢; omega) | (have h_ := HRT_.out; simp [h_]; done) | (simp [vM, vL] <;> rfl) | (simp [*, vM, vL] <;> rfl), (bb1_ HB GE518)⟩
   ·
    replace c15 := Bool.eq_false_iff.mpr c15
    subst c15
    have H1 : ((jm.f kj4 l1).bind fun bt522 => ((jJ.f kj4 l1).bind fun bt524 => ((zI.f kj4 a2_0 l2_1 l2_2).bind fun bt526 => ((vK.f kj4 a2_0 l2_1 l2_2).bind fun bt528 => ((vF.f kj4 a0).bind fun t530 => ((jN.f kj4 a0).bind fun t531 => (if t530.toList = t531.toList then (if bt522.1.toList = bt524.1.toList then (if bt522.2 = bt524.2 then (if bt526.1.toList = bt528.1.toList then (if bt526.2 = bt528.2 then ((vk.f kj4 a3).bind fun t532 => ((vH.f kj4 a3).bind fun t533 => (some (t532.toList == t533.toList)))) else (some false)) else (some false)) else (some false)) else (some false)) else (some false)))))))) = some true := by rw [if_neg (show ¬ (false = true) by decide)] at H; exact H
    clear H
    have H := H1
    clear H1
    replace H := ob_ H
    obtain ⟨⟨t522, t523⟩, A180, H⟩ := H
    try dsimp only at H
    have A18 := jA.mk A180
    clear A180
    replace H := ob_ H
    obtain ⟨⟨t524, t525⟩, A190, H⟩ := H
    try dsimp only at H
    have A19 := jA.mk A190
    clear A190
    replace H := ob_ H
    obtain ⟨⟨t526, t527⟩, A200, H⟩ := H
    try dsimp only at H
    have A20 := jA.mk A200
    clear A200
    replace H := ob_ H
    obtain ⟨⟨t528, t529⟩, A210, H⟩ := H
    try dsimp only at H
    have A21 := jA.mk A210
    clear A210
    replace H := ob_ H
    obtain ⟨t530, A220, H⟩ := H
    try dsimp only at H
    have A22 := jA.mk A220
    clear A220
    replace H := ob_ H
    obtain ⟨t531, A230, H⟩ := H
    try dsimp only at H
    have A23 := jA.mk A230
    clear A230
    by_cases c24 : t530.toList = t531.toList
    ·
     rw [if_pos c24] at H
     have c24b0 := beq_iff_eq.mpr c24
     have c24b1 := bne_eq_false_iff_eq.mpr c24
     clear c24
     by_cases c25 : t522.toList = t524.toList
     ·
      rw [if_pos c25] at H
      have c25b0 := beq_iff_eq.mpr c25
      have c25b1 := bne_eq_false_iff_eq.mpr c25
      clear c25
      by_cases c26 : t523 = t525
      ·
       rw [if_pos c26] at H
       have c26b0 := beq_iff_eq.mpr c26
       have c26b1 := bne_eq_false_iff_eq.mpr c26
       clear c26
       by_cases c27 : t526.toList = t528.toList
       ·
        rw [if_pos c27] at H
        have c27b0 := beq_iff_eq.mpr c27
        have c27b1 := bne_eq_false_iff_eq.mpr c27
        clear c27
        by_cases c28 : t527 = t529
        ·
         rw [if_pos c28] at H
         have c28b0 := beq_iff_eq.mpr c28
         have c28b1 := bne_eq_false_iff_eq.mpr c28
         clear c28
         replace H := ob_ H
         obtain ⟨t532, A290, H⟩ := H
         try dsimp only at H
         have A29 := jA.mk A290
         clear A290
         replace H := ob_ H
         obtain ⟨t533, A300, H⟩ := H
         try dsimp only at H
         have A30 := jA.mk A300
         clear A300
         have HRT_ := jA.mk (Option.some.inj H)
         clear H
         go_wp2_with (first | ((with_reducible refine jF (f := 20) rfl ?_); refine jg (some 28) rfl rfl Try.func20 kr_ rfl #[.slice A1 l1.length c1] rfl mt_ ?_; (with_reducible refine (jm.calls kj4 _ _ l1 t522 t523 _ ?side1 ?side2 A18.out).mono ?_); (case side1 => exact cc_ (Kd.jW HR1.out HB.out)); (case side2 => exact HC1.out); rintro e w31 ⟨rfl, hb⟩; refine ⟨_, rfl, ?_⟩; replace BK518 := bk_ BK518 hb; replace HB := jA.mk (jf (bb1_ HB GE518) hb)) | ((with_reducible refine jF (f := 30) rfl ?_); refine jg (some 33) rfl rfl Try.func30 kr_ rfl #[.slice A1 l1.length c1] rfl mt_ ?_; (with_reducible refine (jJ.calls kj4 _ _ l1 t524 t525 _ ?side1 ?side2 A19.out).mono ?_); (case side1 => exact cc_ (Kd.jW HR1.out HB.out)); (case side2 => exact HC1.out); rintro e w32 ⟨rfl, hb⟩; refine ⟨_, rfl, ?_⟩; replace BK518 := bk_ BK518 hb; replace HB := jA.mk (jf (bb1_ HB GE518) hb); obtain ⟨hcz33_0, hcz33_1, hcz33_2, hfz33_0, hfz33_1, hfz33_2⟩ := bf3_ BK518) | ((with_reducible refine jF (f := 31) rfl ?_); refine jg (some 38) rfl rfl Try.func31 kr_ rfl #[.agg #[.bool a2_0, .slice A2_1 l2_1.length c2_1, .slice A2_2 l2_2.length c2_2]] rfl mt_ ?_; (with_reducible refine (zI.calls kj4 a2_0 _ _ l2_1 _ _ l2_2 t526 t527 _ ?side1 ?side2 ?side3 ?side4 A20.out).mono ?_); (case side1 => exact cc_ (Kd.jW HR2_1.out HB.out)); (case side2 => exact HC2_1.out); (case side3 => exact cc_ (Kd.jW HR2_2.out HB.out)); (case side4 => exact HC2_2.out); rintro e w34 ⟨rfl, hb⟩; refine ⟨_, rfl, ?_⟩; replace BK518 := bk_ BK518 hb; replace HB := jA.mk (jf (bb1_ HB GE518) hb); obtain ⟨hcz35_0, hcz35_1, hcz35_2, hfz35_0, hfz35_1, hfz35_2⟩ := bf3_ BK518) | ((with_reducible refine jF (f := 32) rfl ?_); refine jg (some 43) rfl rfl Try.func32 kr_ rfl #[.agg #[.bool a2_0, .slice A2_1 l2_1.length c2_1, .slice A2_2 l2_2.length c2_2]] rfl mt_ ?_; (with_reducible refine (vK.calls kj4 a2_0 _ _ l2_1 _ _ l2_2 t528 t529 _ ?side1 ?side2 ?side3 ?side4 A21.out).mono ?_); (case side1 => exact cc_ (Kd.jW HR2_1.out HB.out)); (case side2 => exact HC2_1.out); (case side3 => exact cc_ (Kd.jW HR2_2.out HB.out)); (case side4 => exact HC2_2.out); rintro e w36 ⟨rfl, hb⟩; refine ⟨_, rfl, ?_⟩; replace BK518 := bk_ BK518 hb; replace HB := jA.mk (jf (bb1_ HB GE518) hb)) | ((with_reducible refine jF (f := 15) rfl ?_); refine jg (some 47) rfl rfl Try.func15 kr_ rfl #[.int .u64 a0] rfl mt_ ?_; (with_reducible refine (vF.calls kj4 a0 t530 _ A22.out).mono ?_); rintro e w37 ⟨rfl, hb⟩; refine ⟨_, rfl, ?_⟩; replace BK518 := bk_ BK518 hb; replace HB := jA.mk (jf (bb1_ HB GE518) hb)) | ((with_reducible refine jF (f := 33) rfl ?_); refine jg (some 49) rfl rfl Try.func33 kr_ rfl #[.int .u64 a0] rfl mt_ ?_; (with_reducible refine (jN.calls kj4 a0 t531 _ A23.out).mono ?_); rintro e w38 ⟨rfl, hb⟩; refine ⟨_, rfl, ?_⟩; replace BK518 := bk_ BK518 hb; replace HB := jA.mk (jf (bb1_ HB GE518) hb)) | ((with_reducible refine jq (N := 73) rfl ?_); refine jv (by first | rfl | kernel_rfl) ?_; dsimp only; (with_reducible refine jF (f := 17) rfl ?_); refine jg (some 73) rfl rfl Try.func17 kr_ rfl #[.string a3] rfl mt_ ?_; (with_reducible refine (vk.calls kj4 a3 t532 _ A29.out).mono ?_); rintro e w39 ⟨rfl, hb⟩; refine ⟨_, rfl, ?_⟩; replace BK518 := bk_ BK518 hb; replace HB := jA.mk (jf (bb1_ HB GE518) hb)) | ((with_reducible refine jq (N := 75) rfl ?_); refine jv (by first | rfl | kernel_rfl) ?_; dsimp only; (with_reducible refine jF (f := 34) rfl ?_); refine jg (some 75) rfl rfl Try.func34 kr_ rfl #[.string a3] rfl mt_ ?_; (with_reducible refine (vH.calls kj4 a3 t533 _ A30.out).mono ?_); rintro e w40 ⟨rfl, hb⟩; refine ⟨_, rfl, ?_⟩; replace BK518 := bk_ BK518 hb; replace HB := jA.mk (jf (bb1_ HB GE518) hb)))
         go_ret
         exact ⟨by first | rfl | (rw [HRT_.out]; rfl) | (simp only [HRT_.out]; done) | exact of_decide_eq_true HRT_.out | (have h_ := HRT_.out; simp at h_ ⊢; exact h_) | (have h_ := HRT_.out; simp at h_ ⊢; omega) | (have h_ := HRT_.out; simp [h_]; done) | (simp [vM, vL] <;> rfl) | (simp [*, vM, vL] <;> rfl), (bb1_ HB GE518)⟩
        ·
         rw [if_neg c28] at H
         have c28b0 := beq_eq_false_iff_ne.mpr c28
         have c28b1 := bne_iff_ne.mpr c28
         exact absurd H (by simp)
       ·
        rw [if_neg c27] at H
        have c27b0 := beq_eq_false_iff_ne.mpr c27
        have c27b1 := bne_iff_ne.mpr c27
        exact absurd H (by simp)
      ·
       rw [if_neg c26] at H
       have c26b0 := beq_eq_false_iff_ne.mpr c26
       have c26b1 := bne_iff_ne.mpr c26
       exact absurd H (by simp)
     ·
      rw [if_neg c25] at H
      have c25b0 := beq_eq_false_iff_ne.mpr c25
      have c25b1 := bne_iff_ne.mpr c25
      exact absurd H (by simp)
    ·
     rw [if_neg c24] at H
     have c24b0 := beq_eq_false_iff_ne.mpr c24
     have c24b1 := bne_iff_ne.mpr c24
     exact absurd H (by simp)

/-- What is told of a parameter. -/
def syzygylaw06_OctetPuts.wf44 (x : S44) : Prop := True ∧ ((x.f1.length ≤ maxLen ∧ ∀ y0_ ∈ x.f1, (Lit.int .u64 y0_).wf = true) ∧ (x.f2.length ≤ maxLen ∧ ∀ y0_ ∈ x.f2, (Lit.int .u64 y0_).wf = true))
/-- THE ONE PURE STATEMENT of syzygylaw06_OctetPuts: yours. -/
def syzygylaw06_OctetPuts.Pure : Prop := ∀ (a0 : Int) (l1 : List Int) (a2_0 : Bool) (l2_1 : List Int) (l2_2 : List Int) (a3 : ByteArray), (Lit.int .u64 a0).wf = true → l1.length ≤ maxLen → (∀ x ∈ l1, (Lit.int .u64 x).wf = true) → syzygylaw06_OctetPuts.wf44 (⟨a2_0, l2_1, l2_2⟩ : S44) → a3.size ≤ maxLen → ∃ k, syzygylaw06_OctetPuts.f k a0 l1 a2_0 l2_1 l2_2 a3 = some true
theorem syzygylaw06_OctetPuts.walk (P : syzygylaw06_OctetPuts.Pure) (a0 : Int) (A1 : Option Addr) (c1 : Nat) (l1 : List Int) (a2_0 : Bool) (A2_1 : Option Addr) (c2_1 : Nat) (l2_1 : List Int) (A2_2 : Option Addr) (c2_2 : Nat) (l2_2 : List Int) (a3 : ByteArray) (w : World) (hr1 : Kd.C (Kd.int .u64) w A1 l1.length l1) (hc1 : l1.length ≤ c1) (hr2_1 : Kd.C (Kd.int .u64) w A2_1 l2_1.length l2_1) (hc2_1 : l2_1.length ≤ c2_1) (hr2_2 : Kd.C (Kd.int .u64) w A2_2 l2_2.length l2_2) (hc2_2 : l2_2.length ≤ c2_2) (f0 : (Lit.int .u64 a0).wf = true) (f1 : l1.length ≤ maxLen) (f2 : (∀ x ∈ l1, (Lit.int .u64 x).wf = true)) (f3 : syzygylaw06_OctetPuts.wf44 (⟨a2_0, l2_1, l2_2⟩ : S44)) (f4 : a3.size ≤ maxLen) :
  Calls Try.prog 6 #[.int .u64 a0, .slice A1 l1.length c1, .agg #[.bool a2_0, .slice A2_1 l2_1.length c2_1, .slice A2_2 l2_2.length c2_2], .string a3] w fun e w' => e = .returned (.bool true) ∧ Below w.heap.size w w' := by
 obtain ⟨k, h⟩ := P a0 l1 a2_0 l2_1 l2_2 a3 f0 f1 f2 f3 f4
 refine (syzygylaw06_OctetPuts.calls k a0 A1 c1 l1 a2_0 A2_1 c2_1 l2_1 A2_2 c2_2 l2_2 a3 w hr1 hc1 hr2_1 hc2_1 hr2_2 hc2_2 h).mono ?_
 rintro e w' ⟨rfl, hd⟩
 exact ⟨rfl, hd⟩

end Go.Proofs.Ytijgeonhbmgikaa.POOctetPuts
