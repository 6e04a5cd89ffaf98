-- printed (pr.py)
import Derived.Test.YtijgeonhbmgikaaPOOctetGetsx0
import Derived.Test.YtijgeonhbmgikaaPOOctetGetsx4
import Derived.Test.YtijgeonhbmgikaaPOOctetGetsx16
namespace Go.Proofs.Ytijgeonhbmgikaa.POOctetGets
open Go.RowKit Go.Proofs.YtijgeonhbmgikaaN Go.Proofs.YtijgeonhbmgikaaW.PrintWords Go.Proofs.YtijgeonhbmgikaaW.PrintLast Go.Proofs.YtijgeonhbmgikaaW.PrintMore
attribute [local go_sem] qC zy qR qP za zZ qA zx
set_option maxHeartbeats 8000000
set_option maxRecDepth 100000
set_option linter.unusedVariables false
set_option linter.unusedSimpArgs false

/-! ### jP: function 77 -/
mutual
def jP.j0 : Nat → List Int → List Int → Bool → Option (List Int × Int)
 | 0, _, _, _ => none
 | k + 1, x0, x1, x16 => if x16 = true then (some (([] : List Int), 1)) else (jP.l0 k x0 x1)
def jP.l0 : Nat → List Int → List Int → Option (List Int × Int)
 | 0, _, _ => none
 | k + 1, x0, x1 => if (x1.length : Int) > 0 then ((jC.f k x0 x1).bind fun bt478 => (jP.l0 k x1 bt478.2.1)) else (some (x0, 0))
end
def jP.f (k : Nat) (l0 : List Int) (l1 : List Int) : Option (List Int × Int) := (jZ.f l0).bind fun t476 => (if t476 = true then ((jZ.f l1).bind fun t477 => (jP.j0 k l0 l1 (!t477))) else (jP.j0 k l0 l1 true))
theorem jP.vN : ∀ k, (∀ y0 y1 y2, LeO (jP.j0 k y0 y1 y2) (jP.j0 (k + 1) y0 y1 y2)) ∧ (∀ y0 y1, LeO (jP.l0 k y0 y1) (jP.l0 (k + 1) y0 y1))
 | 0 => ⟨fun _ _ _ r h => by simp [jP.j0] at h, fun _ _ r h => by simp [jP.l0] at h⟩
 | k + 1 => by
  obtain ⟨ih0, ih1⟩ := jP.vN k
  refine ⟨?_, ?_⟩ <;> (intros; first | unfold jP.j0 | unfold jP.l0) <;> repeat' first
   | (with_reducible exact ih0 _ _ _)
   | (with_reducible exact ih1 _ _)
   | (with_reducible exact jC.mono _ _ _)
   | (with_reducible exact LeO.refl _)
   | (with_reducible exact LeO.none _)
   | (with_reducible refine LeO.ite ?_ ?_)
   | (with_reducible refine LeO.bind ?_ (fun _ => ?_))
theorem jP.mono : ∀ a0 a1 k, LeO (jP.f k a0 a1) (jP.f (k + 1) a0 a1) := by
 intro a0 a1 k
 obtain ⟨ih0, ih1⟩ := jP.vN k
 unfold jP.f
 repeat' first
   | (with_reducible exact ih0 _ _ _)
   | (with_reducible exact ih1 _ _)
   | (with_reducible exact jC.mono _ _ _)
   | (with_reducible exact LeO.refl _)
   | (with_reducible exact LeO.none _)
   | (with_reducible refine LeO.ite ?_ ?_)
   | (with_reducible refine LeO.bind ?_ (fun _ => ?_))
theorem jP.calls (k : Nat) (P0_ : Nat → Prop) (A0 : Option Addr) (c0 : Nat) (l0 : List Int) (P1_ : Nat → Prop) (A1 : Option Addr) (c1 : Nat) (l1 : List Int) (r1 : List Int) (r2 : Int) (w : World) (hs0 : Kd.V (Kd.int .u64) 22 w w.heap.size (fun k_ => P0_ k_) (.slice A0 l0.length c0) l0) (hs1 : Kd.V (Kd.int .u64) 22 w w.heap.size (fun k_ => P1_ k_) (.slice A1 l1.length c1) l1) (h : jP.f k l0 l1 = some (r1, r2)) :
  Calls Try.prog 77 #[.slice A0 l0.length c0, .slice A1 l1.length c1] w fun e w' => ∃ v0_ : Value, e = .returned (.tuple #[v0_, .int .i64 r2]) ∧ Kd.V (Kd.int .u64) 22 w' w.heap.size (fun k_ => ((P0_ k_ ∨ P1_ k_) ∨ w.heap.size ≤ k_)) v0_ r1 ∧ Below w.heap.size w w' := by
 have HO0 := jA.mk (show Kd.V (Kd.int .u64) 22 w w.heap.size (fun k_ => ((P0_ k_ ∨ P1_ k_) ∨ w.heap.size ≤ k_)) (.slice A0 l0.length c0) l0 from Kd.zV hs0 (fun k_ hk => .inl (.inl hk)))
 have HO1 := jA.mk (show Kd.V (Kd.int .u64) 22 w w.heap.size (fun k_ => ((P0_ k_ ∨ P1_ k_) ∨ w.heap.size ≤ k_)) (.slice A1 l1.length c1) l1 from Kd.zV hs1 (fun k_ hk => .inl (.inr hk)))
 have HB := jA.mk (Below.refl w.heap.size w)
 have H : ((jZ.f l0).bind fun t476 => (if t476 = true then ((jZ.f l1).bind fun t477 => (jP.j0 k l0 l1 (!t477))) else (jP.j0 k l0 l1 true))) = some (r1, r2) := h
 clear h
 have HC3 := jA.mk H
 clear H
 go_enter Try.func77, Try.ntmps77
 go_upto_region 1 with (fail)
 go_cut [16] (fun v16 wc => ∃ (kq : Nat) (x16_2 : Bool), v16 = .bool x16_2 ∧ jA (jP.j0 kq l0 l1 x16_2 = some (r1, r2)) ∧ jA (kq ≤ k) ∧ jA (Kd.V (Kd.int .u64) 22 wc w.heap.size (fun k_ => ((P0_ k_ ∨ P1_ k_) ∨ w.heap.size ≤ k_)) (.slice A0 l0.length c0) l0) ∧ jA (Kd.V (Kd.int .u64) 22 wc w.heap.size (fun k_ => ((P0_ k_ ∨ P1_ k_) ∨ w.heap.size ≤ k_)) (.slice A1 l1.length c1) l1) ∧ jA (Below w.heap.size w wc))
 case first =>
  have H := HC3.out
  clear HC3
  replace H := ob_ H
  obtain ⟨t476, A40, H⟩ := H
  try dsimp only at H
  have A4 := jA.mk A40
  clear A40
  by_cases c5 : t476 = true
  ·
   subst c5
   have H1 : ((jZ.f l1).bind fun t477 => (jP.j0 k l0 l1 (!t477))) = some (r1, r2) := by rw [if_pos rfl] at H; exact H
   clear H
   have H := H1
   clear H1
   replace H := ob_ H
   obtain ⟨t477, A60, H⟩ := H
   try dsimp only at H
   have A6 := jA.mk A60
   clear A60
   have H' := jA.mk H
   clear H
   go_wp2_with (first | ((with_reducible refine jG (f := 74) rfl ?_); refine jo (some 10) rfl rfl Try.func74 kr_ rfl #[.slice A0 l0.length c0] rfl mt_ ?_; (with_reducible refine (jZ.calls _ _ l0 true _ ?side1 ?side2 A4.out).mono ?_); (case side1 => repeat (first | exact (Kd.vW HO0.out).2.2 | (with_reducible refine Kd.zh ?_ _) | (with_reducible refine Kd.zu ?_ _) | (with_reducible refine Kd.qW ?_))); (case side2 => exact (Kd.vW HO0.out).2.1); rintro e w' ⟨rfl, ⟨nd, rfl⟩⟩; refine ⟨_, rfl, ?_⟩) | ((with_reducible refine jr (N := 14) rfl ?_); refine vE (by first | rfl | kernel_rfl) ?_; dsimp only; (with_reducible refine jG (f := 74) rfl ?_); refine jo (some 14) rfl rfl Try.func74 kr_ rfl #[.slice A1 l1.length c1] rfl mt_ ?_; (with_reducible refine (jZ.calls _ _ l1 t477 _ ?side1 ?side2 A6.out).mono ?_); (case side1 => repeat (first | exact (Kd.vW HO1.out).2.2 | (with_reducible refine Kd.zh ?_ _) | (with_reducible refine Kd.zu ?_ _) | (with_reducible refine Kd.qW ?_))); (case side2 => exact (Kd.vW HO1.out).2.1); rintro e w' ⟨rfl, ⟨nd, rfl⟩⟩; refine ⟨_, rfl, ?_⟩))
   go_meet
   case rel => exact ⟨_, (!t477), sd_, H', ⟨by first | omega | exact Nat.le_refl _⟩, ⟨(rV_ HO0)⟩, ⟨(rV_ HO1)⟩, ⟨(bb_ HB)⟩⟩
  ·
   replace c5 := Bool.eq_false_iff.mpr c5
   subst c5
   have H1 : (jP.j0 k l0 l1 true) = some (r1, r2) := by rw [if_neg (show ¬ (false = true) by decide)] at H; exact H
   clear H
   have H := H1
   clear H1
   have H' := jA.mk H
   clear H
   go_wp2_with (first | ((with_reducible refine jG (f := 74) rfl ?_); refine jo (some 10) rfl rfl Try.func74 kr_ rfl #[.slice A0 l0.length c0] rfl mt_ ?_; (with_reducible refine (jZ.calls _ _ l0 false _ ?side1 ?side2 A4.out).mono ?_); (case side1 => repeat (first | exact (Kd.vW HO0.out).2.2 | (with_reducible refine Kd.zh ?_ _) | (with_reducible refine Kd.zu ?_ _) | (with_reducible refine Kd.qW ?_))); (case side2 => exact (Kd.vW HO0.out).2.1); rintro e w' ⟨rfl, ⟨nd, rfl⟩⟩; refine ⟨_, rfl, ?_⟩))
   go_meet
   case rel => exact ⟨_, (true), sd_, H', ⟨by first | omega | exact Nat.le_refl _⟩, ⟨(rV_ HO0)⟩, ⟨(rV_ HO1)⟩, ⟨(bb_ HB)⟩⟩
 case rest =>
  clear HC3
  try clear c1
  try clear p2
  try clear c5
  obtain ⟨kq, x16_2, rfl, HA, HJ2, HO_0, HO_1, HB⟩ := hcut
  cases kq with
  | zero => exact absurd HA.out (by simp [jP.j0])
  | succ kj2 =>
   have H := HA.out
   clear HA
   simp only [jP.j0] at H
   by_cases c7 : x16_2 = true
   ·
    subst c7
    have H1 : (some (([] : List Int), 1)) = some (r1, r2) := by rw [if_pos rfl] at H; exact H
    clear H
    have H := H1
    clear H1
    simp only [Option.some.injEq, Prod.mk.injEq] at H
    obtain ⟨rfl, rfl⟩ := H
    go_wp2
    go_ret2
    exact ⟨_, ew_, Kd.jJe _ _ _ _ _, (bb_ HB)⟩
   ·
    replace c7 := Bool.eq_false_iff.mpr c7
    subst c7
    have H1 : (jP.l0 kj2 l0 l1) = some (r1, r2) := by rw [if_neg (show ¬ (false = true) by decide)] at H; exact H
    clear H
    have H := H1
    clear H1
    have H' := jA.mk H
    clear H
    go_wp2
    go_loopg [0, 1] kj2 (fun kq v0 v1 w' => ∃ (x0_2 : List Int) (x1_2 : List Int), jA (jP.l0 kq x0_2 x1_2 = some (r1, r2)) ∧ jA (kq ≤ kj2) ∧ jA (Kd.V (Kd.int .u64) 22 w' w.heap.size (fun k_ => ((P0_ k_ ∨ P1_ k_) ∨ w.heap.size ≤ k_)) v0 x0_2) ∧ jA (Kd.V (Kd.int .u64) 22 w' w.heap.size (fun k_ => ((P0_ k_ ∨ P1_ k_) ∨ w.heap.size ≤ k_)) v1 x1_2) ∧ jA (Below w.heap.size w w'))
    case atStart => exact ⟨(l0), (l1), H', ⟨Nat.le_refl _⟩, ⟨(rV_ HO_0)⟩, ⟨(rV_ HO_1)⟩, ⟨(bb_ HB)⟩⟩
    case round =>
     clear H'
     try clear c1
     try clear p2
     try clear c5
     try clear c7
     try clear p2
     obtain ⟨x0_2, x1_2, HA, HK2, HO_0, HO_1, HB⟩ := hrel
     cases gk with
     | zero => exact absurd HA.out (by simp [jP.l0])
     | succ k2 =>
      have H := HA.out
      clear HA
      simp only [jP.l0] at H
      by_cases c8 : (x1_2.length : Int) > 0
      ·
       rw [if_pos c8] at H
       have c8b0 := decide_eq_true c8
       have c8b1 : decide (0 < x1_2.length) = true := decide_eq_true (by omega)
       clear c8
       replace H := ob_ H
       obtain ⟨⟨t478, t479, t480⟩, A90, H⟩ := H
       try dsimp only at H
       have A9 := jA.mk A90
       clear A90
       have H' := jA.mk H
       clear H
       obtain ⟨Ao10, co10, eo10⟩ := Kd.zT HO_1.out
       subst eo10
       obtain ⟨Ao11, co11, eo11⟩ := Kd.zT HO_0.out
       subst eo11
       go_wp2_with (first | ((with_reducible refine jG (f := 78) rfl ?_); refine jo (some 23) rfl rfl Try.func78 kr_ rfl #[.slice Ao11 x0_2.length co11, .slice Ao10 x1_2.length co10] rfl mt_ ?_; (with_reducible refine (jC.calls k2 _ _ x0_2 _ _ x1_2 t478 t479 t480 _ ?side1 ?side2 ?side3 ?side4 A9.out).mono ?_); (case side1 => repeat (first | exact (Kd.vW HO_0.out).2.2 | (with_reducible refine Kd.zh ?_ _) | (with_reducible refine Kd.zu ?_ _) | (with_reducible refine Kd.qW ?_))); (case side2 => exact (Kd.vW HO_0.out).2.1); (case side3 => repeat (first | exact (Kd.vW HO_1.out).2.2 | (with_reducible refine Kd.zh ?_ _) | (with_reducible refine Kd.zu ?_ _) | (with_reducible refine Kd.qW ?_))); (case side4 => exact (Kd.vW HO_1.out).2.1); rintro e w12 ⟨v481, v483, rfl, ho0, ho1, hb⟩; refine ⟨_, rfl, ?_⟩; replace HO_0 := jA.mk (Kd.zV (Kd.jFQ (Kd.jFQ (Kd.jKv (rV_ HO_0) hb) (Kd.zf ho0)) (Kd.zf ho1)) (fun _ h_ => h_.1)); replace HO_1 := jA.mk (Kd.zV (Kd.jFQ (Kd.jFQ (Kd.jKv (rV_ HO_1) hb) (Kd.zf ho0)) (Kd.zf ho1)) (fun _ h_ => h_.1)); have HO482 := jA.mk (Kd.jU (Kd.jEF (M := fun k_ => (w.heap.size ≤ k_)) ho0 (jB (bb_ HB)) (fun k_ h_ => h_)) (jB (bb_ HB))); have HO484 := jA.mk (Kd.jU (Kd.jEF (M := fun k_ => (w.heap.size ≤ k_)) ho1 (jB (bb_ HB)) (fun k_ h_ => h_)) (jB (bb_ HB))); replace HB := bs_ HB hb))
       go_roundg k2
       case measure => have := HJ2.out; have := HK2.out; omega
       case rel => exact ⟨(x1_2), (t479), H', ⟨by have := HJ2.out; have := HK2.out; omega⟩, ⟨by (with_reducible repeat (first | apply Kd.jCk | apply Kd.jCj | apply Kd.jDE)); exact Kd.zV HO_1.out (fun _ hk => hk.1.1)⟩, ⟨Kd.zV (Kd.R_V (by refine pR_ ?_; exact Kd.jk HO484.out (fun _ hk => hk.1))) (fun k_ hk => by first | exact ⟨(.inr (hk.1)), hk.2⟩ | exact (.inr (hk)))⟩, ⟨(bb_ HB)⟩⟩
      ·
       rw [if_neg c8] at H
       have c8b0 := decide_eq_false c8
       have c8b1 : decide (0 < x1_2.length) = false := decide_eq_false (by omega)
       clear c8
       simp only [Option.some.injEq, Prod.mk.injEq] at H
       obtain ⟨rfl, rfl⟩ := H
       obtain ⟨Ao13, co13, eo13⟩ := Kd.zT HO_1.out
       subst eo13
       go_wp2
       go_ret2
       exact ⟨_, ew_, (rV_ HO_0), (bb_ HB)⟩

/-! ### jY: function 76 -/
def jY.j0 : Nat → Bool → Bool → List Int → List Int → Option (Bool)
 | 0, _, _, _, _ => none
 | k + 1, x20, x486000, x486001, x486002 => if x20 = true then (some false) else ((jP.f k x486001 x486002).bind fun bt488 => ((ji.f k bt488.1 (([1] : List Int))).bind fun t495 => (if t495 = true then (if x486000 = true then (some (!((x486001.length : Int) == 0))) else (some (!false))) else (some false))))
def jY.f (k : Nat) (a0_0 : Bool) (l0_1 : List Int) (l0_2 : List Int) : Option (Bool) := (jZ.f l0_1).bind fun t486 => (if t486 = true then ((jZ.f l0_2).bind fun t487 => (if t487 = true then (jY.j0 k ((l0_2.length : Int) == 0) a0_0 l0_1 l0_2) else (jY.j0 k true a0_0 l0_1 l0_2))) else (jY.j0 k true a0_0 l0_1 l0_2))
theorem jY.vN : ∀ k, (∀ y0 y1 y2 y3, LeO (jY.j0 k y0 y1 y2 y3) (jY.j0 (k + 1) y0 y1 y2 y3))
 | 0 => fun _ _ _ _ r h => by simp [jY.j0] at h
 | k + 1 => by
  have ih0 := jY.vN k
  ·
   intro y0 y1 y2 y3
   unfold jY.j0
   repeat' first
   | (with_reducible exact ih0 _ _ _ _)
   | (with_reducible exact ji.mono _ _ _)
   | (with_reducible exact jP.mono _ _ _)
   | (with_reducible exact LeO.refl _)
   | (with_reducible exact LeO.none _)
   | (with_reducible refine LeO.ite ?_ ?_)
   | (with_reducible refine LeO.bind ?_ (fun _ => ?_))
theorem jY.mono : ∀ a0 a1 a2 k, LeO (jY.f k a0 a1 a2) (jY.f (k + 1) a0 a1 a2) := by
 intro a0 a1 a2 k
 have ih0 := jY.vN k
 unfold jY.f
 repeat' first
   | (with_reducible exact ih0 _ _ _ _)
   | (with_reducible exact ji.mono _ _ _)
   | (with_reducible exact jP.mono _ _ _)
   | (with_reducible exact LeO.refl _)
   | (with_reducible exact LeO.none _)
   | (with_reducible refine LeO.ite ?_ ?_)
   | (with_reducible refine LeO.bind ?_ (fun _ => ?_))
theorem jY.calls (k : Nat) (a0_0 : Bool) (A0_1 : Option Addr) (c0_1 : Nat) (l0_1 : List Int) (A0_2 : Option Addr) (c0_2 : Nat) (l0_2 : List Int) (r : Bool) (w : World) (hr0_1 : Kd.C (Kd.int .u64) w A0_1 l0_1.length l0_1) (hc0_1 : l0_1.length ≤ c0_1) (hr0_2 : Kd.C (Kd.int .u64) w A0_2 l0_2.length l0_2) (hc0_2 : l0_2.length ≤ c0_2) (h : jY.f k a0_0 l0_1 l0_2 = some r) :
  Calls Try.prog 76 #[.agg #[.bool a0_0, .slice A0_1 l0_1.length c0_1, .slice A0_2 l0_2.length c0_2]] w fun e w' => e = .returned (.bool r) ∧ Below w.heap.size w w' := by
 have hu44 := Try.underlying44
 have HR0_1 := jA.mk hr0_1
 have HC0_1 := jA.mk hc0_1
 clear hr0_1 hc0_1
 have HR0_2 := jA.mk hr0_2
 have HC0_2 := jA.mk hc0_2
 clear hr0_2 hc0_2
 have HB := jA.mk (Below.refl w.heap.size w)
 have H : ((jZ.f l0_1).bind fun t486 => (if t486 = true then ((jZ.f l0_2).bind fun t487 => (if t487 = true then (jY.j0 k ((l0_2.length : Int) == 0) a0_0 l0_1 l0_2) else (jY.j0 k true a0_0 l0_1 l0_2))) else (jY.j0 k true a0_0 l0_1 l0_2))) = some r := h
 clear h
 have HC2 := jA.mk H
 clear H
 go_enter Try.func76, Try.ntmps76
 go_upto_region 1 with (first | ((with_reducible refine jr (N := 1) rfl ?_); (try (refine vE (by rfl) ?_; dsimp only)); refine zR ?hg (N := 1) ?hd (cs := #[.bool a0_0, .slice A0_1 l0_1.length c0_1, .slice A0_2 l0_2.length c0_2]) (t := 44) ?hr ?_; (case hd => rfl); (case hg => rfl); (case hr => exact gs_); intro gb485 hg w3 hbox hb; have BK485 := jA.mk (hbox); have GW485 := jA.mk ((by rw [hg]; exact (jB (bb_ HB)) : w.heap.size ≤ gb485)); have GE485 := jA.mk ((by rw [hg]; exact (jB (bb_ HB)) : w.heap.size ≤ gb485)); replace HB := bs_ HB hb; clear hb hbox hg))
 (try simp only [Act.put, ss_])
 go_cut [20] (fun v20 wc => ∃ (kq : Nat) (x20_1 : Bool), v20 = .bool x20_1 ∧ jA (jY.j0 kq x20_1 a0_0 l0_1 l0_2 = some r) ∧ jA (kq ≤ k) ∧ jA (wc.heap[gb485]? = some (.cells #[.bool a0_0, (.slice A0_1 l0_1.length c0_1), (.slice A0_2 l0_2.length c0_2)] 44 (0, 0))) ∧ jA (Below w.heap.size w wc))
 case first =>
  have H := HC2.out
  clear HC2
  replace H := ob_ H
  obtain ⟨t486, A40, H⟩ := H
  try dsimp only at H
  have A4 := jA.mk A40
  clear A40
  by_cases c5 : t486 = true
  ·
   subst c5
   have H1 : ((jZ.f l0_2).bind fun t487 => (if t487 = true then (jY.j0 k ((l0_2.length : Int) == 0) a0_0 l0_1 l0_2) else (jY.j0 k true a0_0 l0_1 l0_2))) = some r := by rw [if_pos rfl] at H; exact H
   clear H
   have H := H1
   clear H1
   replace H := ob_ H
   obtain ⟨t487, A60, H⟩ := H
   try dsimp only at H
   have A6 := jA.mk A60
   clear A60
   by_cases c7 : t487 = true
   ·
    subst c7
    have H1 : (jY.j0 k ((l0_2.length : Int) == 0) a0_0 l0_1 l0_2) = some r := by rw [if_pos rfl] at H; exact H
    clear H
    have H := H1
    clear H1
    have H' := jA.mk H
    clear H
    have hcz8_0 : w3.cell? ⟨gb485, 0, none⟩ = some (.bool a0_0) := (jJ BK485.out 0).trans rfl
    have hcz8_1 : w3.cell? ⟨gb485, 1, none⟩ = some (.slice A0_1 l0_1.length c0_1) := (jJ BK485.out 1).trans rfl
    have hcz8_2 : w3.cell? ⟨gb485, 2, none⟩ = some (.slice A0_2 l0_2.length c0_2) := (jJ BK485.out 2).trans rfl
    have hfz8_0 := jT BK485.out 0
    have hfz8_1 := jT BK485.out 1
    have hfz8_2 := jT BK485.out 2
    go_wp2_with (first | ((with_reducible refine jG (f := 74) rfl ?_); refine jo (some 7) rfl rfl Try.func74 kr_ rfl #[.slice A0_1 l0_1.length c0_1] rfl mt_ ?_; (with_reducible refine (jZ.calls _ _ l0_1 true _ ?side1 ?side2 A4.out).mono ?_); (case side1 => exact cc_ (Kd.jq HR0_1.out HB.out)); (case side2 => exact HC0_1.out); rintro e w' ⟨rfl, ⟨nd, rfl⟩⟩; refine ⟨_, rfl, ?_⟩) | ((with_reducible refine jr (N := 12) rfl ?_); (try (refine vE (by rfl) ?_; dsimp only)); refine vE (by first | rfl | kernel_rfl) ?_; dsimp only; (with_reducible refine jG (f := 74) rfl ?_); refine jo (some 12) rfl rfl Try.func74 kr_ rfl #[.slice A0_2 l0_2.length c0_2] rfl mt_ ?_; (with_reducible refine (jZ.calls _ _ l0_2 true _ ?side1 ?side2 A6.out).mono ?_); (case side1 => repeat (first | exact (Kd.jq HR0_2.out (bb1_ HB GE485)) | (with_reducible refine Kd.zh ?_ _) | (with_reducible refine Kd.zu ?_ _) | (with_reducible refine Kd.qW ?_))); (case side2 => exact HC0_2.out); rintro e w' ⟨rfl, ⟨nd, rfl⟩⟩; refine ⟨_, rfl, ?_⟩))
    go_meet
    case rel => exact ⟨_, (((l0_2.length : Int) == 0)), sd_, H', ⟨by first | omega | exact Nat.le_refl _⟩, ⟨by (with_reducible repeat (first | refine jAZ ?_ _ | refine vk ?_ | refine vP ?_ _)); exact BK485.out⟩, ⟨(bb1_ HB GE485)⟩⟩
   ·
    replace c7 := Bool.eq_false_iff.mpr c7
    subst c7
    have H1 : (jY.j0 k true a0_0 l0_1 l0_2) = some r := by rw [if_neg (show ¬ (false = true) by decide)] at H; exact H
    clear H
    have H := H1
    clear H1
    have H' := jA.mk H
    clear H
    have hcz9_0 : w3.cell? ⟨gb485, 0, none⟩ = some (.bool a0_0) := (jJ BK485.out 0).trans rfl
    have hcz9_1 : w3.cell? ⟨gb485, 1, none⟩ = some (.slice A0_1 l0_1.length c0_1) := (jJ BK485.out 1).trans rfl
    have hcz9_2 : w3.cell? ⟨gb485, 2, none⟩ = some (.slice A0_2 l0_2.length c0_2) := (jJ BK485.out 2).trans rfl
    have hfz9_0 := jT BK485.out 0
    have hfz9_1 := jT BK485.out 1
    have hfz9_2 := jT BK485.out 2
    go_wp2_with (first | ((with_reducible refine jG (f := 74) rfl ?_); refine jo (some 7) rfl rfl Try.func74 kr_ rfl #[.slice A0_1 l0_1.length c0_1] rfl mt_ ?_; (with_reducible refine (jZ.calls _ _ l0_1 true _ ?side1 ?side2 A4.out).mono ?_); (case side1 => exact cc_ (Kd.jq HR0_1.out HB.out)); (case side2 => exact HC0_1.out); rintro e w' ⟨rfl, ⟨nd, rfl⟩⟩; refine ⟨_, rfl, ?_⟩) | ((with_reducible refine jr (N := 12) rfl ?_); (try (refine vE (by rfl) ?_; dsimp only)); refine vE (by first | rfl | kernel_rfl) ?_; dsimp only; (with_reducible refine jG (f := 74) rfl ?_); refine jo (some 12) rfl rfl Try.func74 kr_ rfl #[.slice A0_2 l0_2.length c0_2] rfl mt_ ?_; (with_reducible refine (jZ.calls _ _ l0_2 false _ ?side1 ?side2 A6.out).mono ?_); (case side1 => repeat (first | exact (Kd.jq HR0_2.out (bb1_ HB GE485)) | (with_reducible refine Kd.zh ?_ _) | (with_reducible refine Kd.zu ?_ _) | (with_reducible refine Kd.qW ?_))); (case side2 => exact HC0_2.out); rintro e w' ⟨rfl, ⟨nd, rfl⟩⟩; refine ⟨_, rfl, ?_⟩))
    go_meet
    case rel => exact ⟨_, (true), sd_, H', ⟨by first | omega | exact Nat.le_refl _⟩, ⟨by (with_reducible repeat (first | refine jAZ ?_ _ | refine vk ?_ | refine vP ?_ _)); exact BK485.out⟩, ⟨(bb1_ HB GE485)⟩⟩
  ·
   replace c5 := Bool.eq_false_iff.mpr c5
   subst c5
   have H1 : (jY.j0 k true a0_0 l0_1 l0_2) = some r := by rw [if_neg (show ¬ (false = true) by decide)] at H; exact H
   clear H
   have H := H1
   clear H1
   have H' := jA.mk H
   clear H
   have hcz10_0 : w3.cell? ⟨gb485, 0, none⟩ = some (.bool a0_0) := (jJ BK485.out 0).trans rfl
   have hcz10_1 : w3.cell? ⟨gb485, 1, none⟩ = some (.slice A0_1 l0_1.length c0_1) := (jJ BK485.out 1).trans rfl
   have hcz10_2 : w3.cell? ⟨gb485, 2, none⟩ = some (.slice A0_2 l0_2.length c0_2) := (jJ BK485.out 2).trans rfl
   have hfz10_0 := jT BK485.out 0
   have hfz10_1 := jT BK485.out 1
   have hfz10_2 := jT BK485.out 2
   go_wp2_with (first | ((with_reducible refine jG (f := 74) rfl ?_); refine jo (some 7) rfl rfl Try.func74 kr_ rfl #[.slice A0_1 l0_1.length c0_1] rfl mt_ ?_; (with_reducible refine (jZ.calls _ _ l0_1 false _ ?side1 ?side2 A4.out).mono ?_); (case side1 => exact cc_ (Kd.jq HR0_1.out HB.out)); (case side2 => exact HC0_1.out); rintro e w' ⟨rfl, ⟨nd, rfl⟩⟩; refine ⟨_, rfl, ?_⟩))
   go_meet
   case rel => exact ⟨_, (true), sd_, H', ⟨by first | omega | exact Nat.le_refl _⟩, ⟨by (with_reducible repeat (first | refine jAZ ?_ _ | refine vk ?_ | refine vP ?_ _)); exact BK485.out⟩, ⟨(bb1_ HB GE485)⟩⟩
 case rest =>
  clear HC2
  try clear p2
  try clear c5
  try clear c7
  try clear hcz10_0
  try clear hcz10_1
  try clear hcz10_2
  try clear hcz8_0
  try clear hcz8_1
  try clear hcz8_2
  try clear hcz9_0
  try clear hcz9_1
  try clear hcz9_2
  try clear hfz10_0
  try clear hfz10_1
  try clear hfz10_2
  try clear hfz8_0
  try clear hfz8_1
  try clear hfz8_2
  try clear hfz9_0
  try clear hfz9_1
  try clear hfz9_2
  obtain ⟨kq, x20_1, rfl, HA, HJ1, BK485, HB⟩ := hcut
  cases kq with
  | zero => exact absurd HA.out (by simp [jY.j0])
  | succ kj1 =>
   have H := HA.out
   clear HA
   simp only [jY.j0] at H
   by_cases c11 : x20_1 = true
   ·
    subst c11
    have H1 : (some false) = some r := by rw [if_pos rfl] at H; exact H
    clear H
    have H := H1
    clear H1
    obtain rfl := Option.some.inj H
    go_wp2
    go_ret
    exact ⟨ew_, (bb1_ HB GE485)⟩
   ·
    replace c11 := Bool.eq_false_iff.mpr c11
    subst c11
    have H1 : ((jP.f kj1 l0_1 l0_2).bind fun bt488 => ((ji.f kj1 bt488.1 (([1] : List Int))).bind fun t495 => (if t495 = true then (if a0_0 = true then (some (!((l0_1.length : Int) == 0))) else (some (!false))) else (some false)))) = some r := by rw [if_neg (show ¬ (false = true) by decide)] at H; exact H
    clear H
    have H := H1
    clear H1
    replace H := ob_ H
    obtain ⟨⟨t488, t491⟩, A120, H⟩ := H
    try dsimp only at H
    have A12 := jA.mk A120
    clear A120
    obtain ⟨y492, hy492⟩ : ∃ y_ : List Int, y_ = (([1] : List Int)) := ⟨_, rfl⟩
    replace H : ((ji.f kj1 t488 y492).bind fun t495 => (if t495 = true then (if a0_0 = true then (some (!((l0_1.length : Int) == 0))) else (some (!false))) else (some false))) = some r := by first | (rw [hy492]; with_reducible exact H) | (have H2_ := (Option.bind_some _ _).symm.trans H; rw [hy492]; with_reducible exact H2_) | (with_reducible exact hs_ H) | with_reducible exact H | (rw [hy492]; exact H) | exact H
    have Ny492 := jA.mk hy492
    clear hy492
    replace H := ob_ H
    obtain ⟨t495, A130, H⟩ := H
    try dsimp only at H
    have A13 := jA.mk A130
    clear A130
    by_cases c14 : t495 = true
    ·
     subst c14
     have H1 : (if a0_0 = true then (some (!((l0_1.length : Int) == 0))) else (some (!false))) = some r := by rw [if_pos rfl] at H; exact H
     clear H
     have H := H1
     clear H1
     by_cases c15 : a0_0 = true
     ·
      subst c15
      have H1 : (some (!((l0_1.length : Int) == 0))) = some r := by rw [if_pos rfl] at H; exact H
      clear H
      have H := H1
      clear H1
      obtain rfl := Option.some.inj H
      have hcz16_0 : wc.cell? ⟨gb485, 0, none⟩ = some (.bool true) := (jJ BK485.out 0).trans rfl
      have hcz16_1 : wc.cell? ⟨gb485, 1, none⟩ = some (.slice A0_1 l0_1.length c0_1) := (jJ BK485.out 1).trans rfl
      have hcz16_2 : wc.cell? ⟨gb485, 2, none⟩ = some (.slice A0_2 l0_2.length c0_2) := (jJ BK485.out 2).trans rfl
      have hfz16_0 := jT BK485.out 0
      have hfz16_1 := jT BK485.out 1
      have hfz16_2 := jT BK485.out 2
      go_wp2_with (first | ((with_reducible refine jG (f := 77) rfl ?_); refine jo (some 26) rfl rfl Try.func77 kr_ rfl #[.slice A0_1 l0_1.length c0_1, .slice A0_2 l0_2.length c0_2] rfl mt_ ?_; (with_reducible refine (jP.calls kj1 (fun k_ => k_ < w.heap.size) _ _ l0_1 (fun k_ => k_ < w.heap.size) _ _ l0_2 t488 t491 _ ?side1 ?side2 A12.out).mono ?_); (case side1 => exact Kd.V_mk HC0_1.out (Kd.zX (Kd.C_F (Kd.zQ .u64) HR0_1.out) (bb1_ HB GE485))); (case side2 => exact Kd.V_mk HC0_2.out (Kd.zX (Kd.C_F (Kd.zQ .u64) HR0_2.out) (bb1_ HB GE485))); rintro e w17 ⟨v489, rfl, ho0, hb⟩; refine ⟨_, rfl, ?_⟩; have HO490 := jA.mk (Kd.zq (Kd.zV (ok' := fun k_ => k_ ≠ gb485) ho0 (fun k_ hk_ => Or.elim hk_ (fun hs_ => Or.elim hs_ (fun hs_ => fun e_ => Nat.not_le.2 hs_ (by rw [e_]; exact GW485.out)) (fun hs_ => fun e_ => Nat.not_le.2 hs_ (by rw [e_]; exact GW485.out))) (fun hn_ => (Kd.jGj (g := gb485) (o := .cells #[.bool true, .slice A0_1 l0_1.length c0_1, .slice A0_2 l0_2.length c0_2] 44 (0, 0)) (kb_ BK485) k_ hn_)))) (jB (bb1_ HB GE485))); replace BK485 := bk_ BK485 hb; replace HB := jA.mk (jv (bb1_ HB GE485) hb)) | ((with_reducible refine jr (N := 30) rfl ?_); (try (refine vE (by rfl) ?_; dsimp only)); refine Kd.jAN (Kd.int .u64) _ 22 ?hg (N := 30) ?hd (xs := ([1] : List Int)) (inner := [.int .u64 1]) (ok := fun _ => True) (okp := fun _ => True) ?hr ?hp (fun _ hk => hk) trivial (Below.refl _ _) (Nat.le_refl _) (by simp) ?_; (case hd => rfl); (case hg => rfl); (case hr => exact gs_); (case hp => exact (Reps.one (show Kd.M (Kd.int .u64) _ _ _ 1 [.int .u64 1] from rfl) (Reps.none _ _))); intro v493 w18 ho19 hb hg_ hnew_; clear hg_ hnew_; (first | rw [← Ny492.out] at ho19 | (simp only [Int.reduceToNat] at ho19; rw [← Ny492.out] at ho19)); replace HO490 := jA.mk (Kd.qg (rV_ HO490) (Kd.zf ho19) hb); have HO494 := jA.mk (Kd.jU ho19 (jB (bb1_ HB GE485))); replace BK485 := bk_ BK485 hb; replace HB := jA.mk (jv (bb1_ HB GE485) hb); clear hb ho19; obtain ⟨Ao20, co20, eo20⟩ := Kd.zT HO490.out; subst eo20; obtain ⟨Ao21, co21, eo21⟩ := Kd.jm HO494.out; subst eo21) | ((with_reducible refine jG (f := 47) rfl ?_); refine jo (some 31) rfl rfl Try.func47 kr_ rfl #[.slice Ao20 t488.length co20, .slice Ao21 y492.length co21] rfl mt_ ?_; (with_reducible refine (ji.calls kj1 _ _ t488 _ _ y492 true _ ?side1 ?side2 ?side3 ?side4 A13.out).mono ?_); (case side1 => repeat (first | exact (Kd.vW HO490.out).2.2 | (with_reducible refine Kd.zh ?_ _) | (with_reducible refine Kd.zu ?_ _) | (with_reducible refine Kd.qW ?_))); (case side2 => exact (Kd.vW HO490.out).2.1); (case side3 => exact cc_ (Kd.jF HO494.out).2.2); (case side4 => exact (Kd.jF HO494.out).2.1); rintro e w' ⟨rfl, ⟨nd, rfl⟩⟩; refine ⟨_, rfl, ?_⟩; obtain ⟨hcz22_0, hcz22_1, hcz22_2, hfz22_0, hfz22_1, hfz22_2⟩ := bf3_ BK485))
      go_ret
      exact ⟨ew_, (bb1_ HB GE485)⟩
     ·
      replace c15 := Bool.eq_false_iff.mpr c15
      subst c15
      have H1 : (some (!false)) = some r := by rw [if_neg (show ¬ (false = true) by decide)] at H; exact H
      clear H
      have H := H1
      clear H1
      obtain rfl := Option.some.inj H
      have hcz23_0 : wc.cell? ⟨gb485, 0, none⟩ = some (.bool false) := (jJ BK485.out 0).trans rfl
      have hcz23_1 : wc.cell? ⟨gb485, 1, none⟩ = some (.slice A0_1 l0_1.length c0_1) := (jJ BK485.out 1).trans rfl
      have hcz23_2 : wc.cell? ⟨gb485, 2, none⟩ = some (.slice A0_2 l0_2.length c0_2) := (jJ BK485.out 2).trans rfl
      have hfz23_0 := jT BK485.out 0
      have hfz23_1 := jT BK485.out 1
      have hfz23_2 := jT BK485.out 2
      go_wp2_with (first | ((with_reducible refine jG (f := 77) rfl ?_); refine jo (some 26) rfl rfl Try.func77 kr_ rfl #[.slice A0_1 l0_1.length c0_1, .slice A0_2 l0_2.length c0_2] rfl mt_ ?_; (with_reducible refine (jP.calls kj1 (fun k_ => k_ < w.heap.size) _ _ l0_1 (fun k_ => k_ < w.heap.size) _ _ l0_2 t488 t491 _ ?side1 ?side2 A12.out).mono ?_); (case side1 => exact Kd.V_mk HC0_1.out (Kd.zX (Kd.C_F (Kd.zQ .u64) HR0_1.out) (bb1_ HB GE485))); (case side2 => exact Kd.V_mk HC0_2.out (Kd.zX (Kd.C_F (Kd.zQ .u64) HR0_2.out) (bb1_ HB GE485))); rintro e w24 ⟨v489, rfl, ho0, hb⟩; refine ⟨_, rfl, ?_⟩; have HO490 := jA.mk (Kd.zq (Kd.zV (ok' := fun k_ => k_ ≠ gb485) ho0 (fun k_ hk_ => Or.elim hk_ (fun hs_ => Or.elim hs_ (fun hs_ => fun e_ => Nat.not_le.2 hs_ (by rw [e_]; exact GW485.out)) (fun hs_ => fun e_ => Nat.not_le.2 hs_ (by rw [e_]; exact GW485.out))) (fun hn_ => (Kd.jGj (g := gb485) (o := .cells #[.bool false, .slice A0_1 l0_1.length c0_1, .slice A0_2 l0_2.length c0_2] 44 (0, 0)) (kb_ BK485) k_ hn_)))) (jB (bb1_ HB GE485))); replace BK485 := bk_ BK485 hb; replace HB := jA.mk (jv (bb1_ HB GE485) hb)) | ((with_reducible refine jr (N := 30) rfl ?_); (try (refine vE (by rfl) ?_; dsimp only)); refine Kd.jAN (Kd.int .u64) _ 22 ?hg (N := 30) ?hd (xs := ([1] : List Int)) (inner := [.int .u64 1]) (ok := fun _ => True) (okp := fun _ => True) ?hr ?hp (fun _ hk => hk) trivial (Below.refl _ _) (Nat.le_refl _) (by simp) ?_; (case hd => rfl); (case hg => rfl); (case hr => exact gs_); (case hp => exact (Reps.one (show Kd.M (Kd.int .u64) _ _ _ 1 [.int .u64 1] from rfl) (Reps.none _ _))); intro v493 w25 ho26 hb hg_ hnew_; clear hg_ hnew_; (first | rw [← Ny492.out] at ho26 | (simp only [Int.reduceToNat] at ho26; rw [← Ny492.out] at ho26)); replace HO490 := jA.mk (Kd.qg (rV_ HO490) (Kd.zf ho26) hb); have HO494 := jA.mk (Kd.jU ho26 (jB (bb1_ HB GE485))); replace BK485 := bk_ BK485 hb; replace HB := jA.mk (jv (bb1_ HB GE485) hb); clear hb ho26; obtain ⟨Ao27, co27, eo27⟩ := Kd.zT HO490.out; subst eo27; obtain ⟨Ao28, co28, eo28⟩ := Kd.jm HO494.out; subst eo28) | ((with_reducible refine jG (f := 47) rfl ?_); refine jo (some 31) rfl rfl Try.func47 kr_ rfl #[.slice Ao27 t488.length co27, .slice Ao28 y492.length co28] rfl mt_ ?_; (with_reducible refine (ji.calls kj1 _ _ t488 _ _ y492 true _ ?side1 ?side2 ?side3 ?side4 A13.out).mono ?_); (case side1 => repeat (first | exact (Kd.vW HO490.out).2.2 | (with_reducible refine Kd.zh ?_ _) | (with_reducible refine Kd.zu ?_ _) | (with_reducible refine Kd.qW ?_))); (case side2 => exact (Kd.vW HO490.out).2.1); (case side3 => exact cc_ (Kd.jF HO494.out).2.2); (case side4 => exact (Kd.jF HO494.out).2.1); rintro e w' ⟨rfl, ⟨nd, rfl⟩⟩; refine ⟨_, rfl, ?_⟩; obtain ⟨hcz29_0, hcz29_1, hcz29_2, hfz29_0, hfz29_1, hfz29_2⟩ := bf3_ BK485))
      go_ret
      exact ⟨ew_, (bb1_ HB GE485)⟩
    ·
     replace c14 := Bool.eq_false_iff.mpr c14
     subst c14
     have H1 : (some false) = some r := by rw [if_neg (show ¬ (false = true) by decide)] at H; exact H
     clear H
     have H := H1
     clear H1
     obtain rfl := Option.some.inj H
     have hcz30_0 : wc.cell? ⟨gb485, 0, none⟩ = some (.bool a0_0) := (jJ BK485.out 0).trans rfl
     have hcz30_1 : wc.cell? ⟨gb485, 1, none⟩ = some (.slice A0_1 l0_1.length c0_1) := (jJ BK485.out 1).trans rfl
     have hcz30_2 : wc.cell? ⟨gb485, 2, none⟩ = some (.slice A0_2 l0_2.length c0_2) := (jJ BK485.out 2).trans rfl
     have hfz30_0 := jT BK485.out 0
     have hfz30_1 := jT BK485.out 1
     have hfz30_2 := jT BK485.out 2
     go_wp2_with (first | ((with_reducible refine jG (f := 77) rfl ?_); refine jo (some 26) rfl rfl Try.func77 kr_ rfl #[.slice A0_1 l0_1.length c0_1, .slice A0_2 l0_2.length c0_2] rfl mt_ ?_; (with_reducible refine (jP.calls kj1 (fun k_ => k_ < w.heap.size) _ _ l0_1 (fun k_ => k_ < w.heap.size) _ _ l0_2 t488 t491 _ ?side1 ?side2 A12.out).mono ?_); (case side1 => exact Kd.V_mk HC0_1.out (Kd.zX (Kd.C_F (Kd.zQ .u64) HR0_1.out) (bb1_ HB GE485))); (case side2 => exact Kd.V_mk HC0_2.out (Kd.zX (Kd.C_F (Kd.zQ .u64) HR0_2.out) (bb1_ HB GE485))); rintro e w31 ⟨v489, rfl, ho0, hb⟩; refine ⟨_, rfl, ?_⟩; have HO490 := jA.mk (Kd.zq (Kd.zV (ok' := fun k_ => k_ ≠ gb485) ho0 (fun k_ hk_ => Or.elim hk_ (fun hs_ => Or.elim hs_ (fun hs_ => fun e_ => Nat.not_le.2 hs_ (by rw [e_]; exact GW485.out)) (fun hs_ => fun e_ => Nat.not_le.2 hs_ (by rw [e_]; exact GW485.out))) (fun hn_ => (Kd.jGj (g := gb485) (o := .cells #[.bool a0_0, .slice A0_1 l0_1.length c0_1, .slice A0_2 l0_2.length c0_2] 44 (0, 0)) (kb_ BK485) k_ hn_)))) (jB (bb1_ HB GE485))); replace BK485 := bk_ BK485 hb; replace HB := jA.mk (jv (bb1_ HB GE485) hb)) | ((with_reducible refine jr (N := 30) rfl ?_); (try (refine vE (by rfl) ?_; dsimp only)); refine Kd.jAN (Kd.int .u64) _ 22 ?hg (N := 30) ?hd (xs := ([1] : List Int)) (inner := [.int .u64 1]) (ok := fun _ => True) (okp := fun _ => True) ?hr ?hp (fun _ hk => hk) trivial (Below.refl _ _) (Nat.le_refl _) (by simp) ?_; (case hd => rfl); (case hg => rfl); (case hr => exact gs_); (case hp => exact (Reps.one (show Kd.M (Kd.int .u64) _ _ _ 1 [.int .u64 1] from rfl) (Reps.none _ _))); intro v493 w32 ho33 hb hg_ hnew_; clear hg_ hnew_; (first | rw [← Ny492.out] at ho33 | (simp only [Int.reduceToNat] at ho33; rw [← Ny492.out] at ho33)); replace HO490 := jA.mk (Kd.qg (rV_ HO490) (Kd.zf ho33) hb); have HO494 := jA.mk (Kd.jU ho33 (jB (bb1_ HB GE485))); replace BK485 := bk_ BK485 hb; replace HB := jA.mk (jv (bb1_ HB GE485) hb); clear hb ho33; obtain ⟨Ao34, co34, eo34⟩ := Kd.zT HO490.out; subst eo34; obtain ⟨Ao35, co35, eo35⟩ := Kd.jm HO494.out; subst eo35) | ((with_reducible refine jG (f := 47) rfl ?_); refine jo (some 31) rfl rfl Try.func47 kr_ rfl #[.slice Ao34 t488.length co34, .slice Ao35 y492.length co35] rfl mt_ ?_; (with_reducible refine (ji.calls kj1 _ _ t488 _ _ y492 false _ ?side1 ?side2 ?side3 ?side4 A13.out).mono ?_); (case side1 => repeat (first | exact (Kd.vW HO490.out).2.2 | (with_reducible refine Kd.zh ?_ _) | (with_reducible refine Kd.zu ?_ _) | (with_reducible refine Kd.qW ?_))); (case side2 => exact (Kd.vW HO490.out).2.1); (case side3 => exact cc_ (Kd.jF HO494.out).2.2); (case side4 => exact (Kd.jF HO494.out).2.1); rintro e w' ⟨rfl, ⟨nd, rfl⟩⟩; refine ⟨_, rfl, ?_⟩))
     go_ret
     exact ⟨ew_, (bb1_ HB GE485)⟩

/-! ### vQ: function 45 -/
def vQ.f (k : Nat) (a0 : ByteArray) : Option (Bool × List Int × List Int × ByteArray × Int) := if (a0.size : Int) = 0 then (some (false, ([] : List Int), ([] : List Int), (⟨#[]⟩ : ByteArray), 60)) else (if 0 < (a0.size : Int) then (if (bt a0 0) > 1 then (some (false, ([] : List Int), ([] : List Int), (⟨#[]⟩ : ByteArray), 62)) else (if 1 ≤ (a0.size : Int) then ((jK.f k (a0.extract 1 a0.size)).bind fun bt497 => (if bt497.2.2 = 0 then ((jK.f k bt497.2.1).bind fun bt502 => (if bt502.2.2 = 0 then ((jY.f k ((bt a0 0) == 1) bt497.1 bt502.1).bind fun t508 => (if t508 = true then (some (((bt a0 0) == 1), bt497.1, bt502.1, bt502.2.1, 0)) else (some (false, ([] : List Int), ([] : List Int), (⟨#[]⟩ : ByteArray), 62)))) else (some (false, ([] : List Int), ([] : List Int), (⟨#[]⟩ : ByteArray), bt502.2.2)))) else (some (false, ([] : List Int), ([] : List Int), (⟨#[]⟩ : ByteArray), bt497.2.2)))) else (none))) else (none))
theorem vQ.mono : ∀ a0 k, LeO (vQ.f k a0) (vQ.f (k + 1) a0) := by
 intro a0 k
 unfold vQ.f
 repeat' first
   | (with_reducible exact jY.mono _ _ _ _)
   | (with_reducible exact jK.mono _ _)
   | (with_reducible exact LeO.refl _)
   | (with_reducible exact LeO.none _)
   | (with_reducible refine LeO.ite ?_ ?_)
   | (with_reducible refine LeO.bind ?_ (fun _ => ?_))
theorem vQ.calls (k : Nat) (a0 : ByteArray) (r1 : Bool) (r2 : List Int) (r3 : List Int) (r4 : ByteArray) (r5 : Int) (w : World) (h : vQ.f k a0 = some (r1, r2, r3, r4, r5)) :
  Calls Try.prog 45 #[.string a0] w fun e w' => ∃ v1_ v2_ : Value, e = .returned (.tuple #[.agg #[.bool r1, v1_, v2_], .string r4, .int .i64 r5]) ∧ Kd.R (Kd.int .u64) 22 w' w.heap.size (fun k_ => some k_ ≠ (v2_ : Value).ownBlock) v1_ r2 ∧ Kd.R (Kd.int .u64) 22 w' w.heap.size (fun k_ => some k_ ≠ (v1_ : Value).ownBlock) v2_ r3 ∧ Below w.heap.size w w' := by
 have hu44 := Try.underlying44
 have HB := jA.mk (Below.refl w.heap.size w)
 have H : (if (a0.size : Int) = 0 then (some (false, ([] : List Int), ([] : List Int), (⟨#[]⟩ : ByteArray), 60)) else (if 0 < (a0.size : Int) then (if (bt a0 0) > 1 then (some (false, ([] : List Int), ([] : List Int), (⟨#[]⟩ : ByteArray), 62)) else (if 1 ≤ (a0.size : Int) then ((jK.f k (a0.extract 1 a0.size)).bind fun bt497 => (if bt497.2.2 = 0 then ((jK.f k bt497.2.1).bind fun bt502 => (if bt502.2.2 = 0 then ((jY.f k ((bt a0 0) == 1) bt497.1 bt502.1).bind fun t508 => (if t508 = true then (some (((bt a0 0) == 1), bt497.1, bt502.1, bt502.2.1, 0)) else (some (false, ([] : List Int), ([] : List Int), (⟨#[]⟩ : ByteArray), 62)))) else (some (false, ([] : List Int), ([] : List Int), (⟨#[]⟩ : ByteArray), bt502.2.2)))) else (some (false, ([] : List Int), ([] : List Int), (⟨#[]⟩ : ByteArray), bt497.2.2)))) else (none))) else (none))) = some (r1, r2, r3, r4, r5) := h
 clear h
 by_cases c2 : (a0.size : Int) = 0
 ·
  rw [if_pos c2] at H
  have c2b0 := beq_iff_eq.mpr c2
  have c2b1 := bne_eq_false_iff_eq.mpr c2
  clear c2
  simp only [Option.some.injEq, Prod.mk.injEq] at H
  obtain ⟨rfl, rfl, rfl, rfl, rfl⟩ := H
  go_enter Try.func45, Try.ntmps45
  go_wp2_with (first | ((with_reducible refine jr (N := 2) rfl ?_); refine zR ?hg (N := 2) ?hd (cs := #[.bool false, .slice none 0 0, .slice none 0 0]) (t := 44) ?hr ?_; (case hd => rfl); (case hg => rfl); (case hr => exact gs_); intro gb496 hg w3 hbox hb; have BK496 := jA.mk (hbox); have GW496 := jA.mk ((by rw [hg]; exact (jB (bb_ HB)) : w.heap.size ≤ gb496)); have GE496 := jA.mk ((by rw [hg]; exact (jB (bb_ HB)) : w.heap.size ≤ gb496)); replace HB := bs_ HB hb; clear hb hbox hg; obtain ⟨hcz4_0, hcz4_1, hcz4_2, hfz4_0, hfz4_1, hfz4_2⟩ := bf3_ BK496))
  refine bodyPost_ret (jAQ rfl _ _ gb496 44 #[.bool false, .slice none 0 0, .slice none 0 0] (0, 0) _ rfl (by refine pk_ ?_; refine jw (cs := #[.bool false, .slice none 0 0, .slice none 0 0]) ?_ 2 _ rs_; refine pk_ ?_; refine jw (cs := #[.bool false, .slice none 0 0, .slice none 0 0]) ?_ 1 _ rs_; refine pk_ ?_; refine jw (cs := #[.bool false, .slice none 0 0, .slice none 0 0]) ?_ 0 _ rs_; refine pk_ ?_; exact BK496.out) Try.underlying44 rfl kr_) rfl ?_
  exact ⟨_, _, ew_, nl_, nl_, (bb1_ HB GE496)⟩
 ·
  rw [if_neg c2] at H
  have c2b0 := beq_eq_false_iff_ne.mpr c2
  have c2b1 := bne_iff_ne.mpr c2
  by_cases c5 : 0 < (a0.size : Int)
  ·
   rw [if_pos c5] at H
   have c5b0 := decide_eq_true c5
   have c5b1 : decide (0 < a0.size) = true := decide_eq_true (by omega)
   clear c5
   by_cases c7 : (bt a0 0) > 1
   ·
    rw [if_pos c7] at H
    have c7b0 := decide_eq_true c7
    clear c7
    simp only [Option.some.injEq, Prod.mk.injEq] at H
    obtain ⟨rfl, rfl, rfl, rfl, rfl⟩ := H
    go_enter Try.func45, Try.ntmps45
    go_wp2_with (first | ((with_reducible refine jr (N := 2) rfl ?_); refine zR ?hg (N := 2) ?hd (cs := #[.bool false, .slice none 0 0, .slice none 0 0]) (t := 44) ?hr ?_; (case hd => rfl); (case hg => rfl); (case hr => exact gs_); intro gb496 hg w8 hbox hb; have BK496 := jA.mk (hbox); have GW496 := jA.mk ((by rw [hg]; exact (jB (bb_ HB)) : w.heap.size ≤ gb496)); have GE496 := jA.mk ((by rw [hg]; exact (jB (bb_ HB)) : w.heap.size ≤ gb496)); replace HB := bs_ HB hb; clear hb hbox hg; have p6 : 0 ≤ (0 : Int) := (by omega); have q6 : 0 < a0.size := (by have : (0 : Int) < (a0.size : Int) := of_decide_eq_true am_; omega); have hx6 : ∀ h : 0 < a0.size, ((a0[0]'h).toNat : Int) = bt a0 0 := jBN a0 0; clear p6; have qi6 : (0 < (a0.size : Int)) = True := eq_true (of_decide_eq_true am_); replace q6 := eq_true q6; obtain ⟨hcz9_0, hcz9_1, hcz9_2, hfz9_0, hfz9_1, hfz9_2⟩ := bf3_ BK496))
    refine bodyPost_ret (jAQ rfl _ _ gb496 44 #[.bool false, .slice none 0 0, .slice none 0 0] (0, 0) _ rfl (by refine pk_ ?_; refine jw (cs := #[.bool false, .slice none 0 0, .slice none 0 0]) ?_ 2 _ rs_; refine pk_ ?_; refine jw (cs := #[.bool false, .slice none 0 0, .slice none 0 0]) ?_ 1 _ rs_; refine pk_ ?_; refine jw (cs := #[.bool false, .slice none 0 0, .slice none 0 0]) ?_ 0 _ rs_; refine pk_ ?_; exact BK496.out) Try.underlying44 rfl kr_) rfl ?_
    exact ⟨_, _, ew_, nl_, nl_, (bb1_ HB GE496)⟩
   ·
    rw [if_neg c7] at H
    have c7b0 := decide_eq_false c7
    clear c7
    by_cases c10 : 1 ≤ (a0.size : Int)
    ·
     rw [if_pos c10] at H
     have c10b0 := eq_true c10
     have c10b1 := decide_eq_true c10
     clear c10
     replace H := ob_ H
     obtain ⟨⟨t497, t498, t499⟩, A110, H⟩ := H
     try dsimp only at H
     have A11 := jA.mk A110
     clear A110
     by_cases c12 : t499 = 0
     ·
      rw [if_pos c12] at H
      have c12b0 := beq_iff_eq.mpr c12
      have c12b1 := bne_eq_false_iff_eq.mpr c12
      clear c12
      replace H := ob_ H
      obtain ⟨⟨t502, t503, t504⟩, A130, H⟩ := H
      try dsimp only at H
      have A13 := jA.mk A130
      clear A130
      by_cases c14 : t504 = 0
      ·
       rw [if_pos c14] at H
       have c14b0 := beq_iff_eq.mpr c14
       have c14b1 := bne_eq_false_iff_eq.mpr c14
       clear c14
       replace H := ob_ H
       obtain ⟨t508, A160, H⟩ := H
       try dsimp only at H
       have A16 := jA.mk A160
       clear A160
       by_cases c17 : t508 = true
       ·
        subst c17
        have H1 : (some (((bt a0 0) == 1), t497, t502, t503, 0)) = some (r1, r2, r3, r4, r5) := by rw [if_pos rfl] at H; exact H
        clear H
        have H := H1
        clear H1
        simp only [Option.some.injEq, Prod.mk.injEq] at H
        obtain ⟨rfl, rfl, rfl, rfl, rfl⟩ := H
        go_enter Try.func45, Try.ntmps45
        go_wp2_with (first | ((with_reducible refine jr (N := 2) rfl ?_); refine zR ?hg (N := 2) ?hd (cs := #[.bool false, .slice none 0 0, .slice none 0 0]) (t := 44) ?hr ?_; (case hd => rfl); (case hg => rfl); (case hr => exact gs_); intro gb496 hg w18 hbox hb; have BK496 := jA.mk (hbox); have GW496 := jA.mk ((by rw [hg]; exact (jB (bb_ HB)) : w.heap.size ≤ gb496)); have GE496 := jA.mk ((by rw [hg]; exact (jB (bb_ HB)) : w.heap.size ≤ gb496)); replace HB := bs_ HB hb; clear hb hbox hg; have p6 : 0 ≤ (0 : Int) := (by omega); have q6 : 0 < a0.size := (by have : (0 : Int) < (a0.size : Int) := of_decide_eq_true am_; omega); have hx6 : ∀ h : 0 < a0.size, ((a0[0]'h).toNat : Int) = bt a0 0 := jBN a0 0; clear p6; have qi6 : (0 < (a0.size : Int)) = True := eq_true (of_decide_eq_true am_); replace q6 := eq_true q6) | ((with_reducible refine jG (f := 43) rfl ?_); refine jo (some 23) rfl rfl Try.func43 kr_ rfl #[.string (a0.extract 1 a0.size)] rfl mt_ ?_; (with_reducible refine (jK.calls k (a0.extract 1 a0.size) t497 t498 t499 _ A11.out).mono ?_); rintro e w19 ⟨v500, rfl, ho0, hb⟩; refine ⟨_, rfl, ?_⟩; have HO501 := jA.mk (Kd.jU ho0 (jB (bb1_ HB GE496))); replace BK496 := bk_ BK496 hb; replace HB := jA.mk (jv (bb1_ HB GE496) hb)) | ((with_reducible refine jG (f := 43) rfl ?_); refine jo (some 33) rfl rfl Try.func43 kr_ rfl #[.string t498] rfl mt_ ?_; (with_reducible refine (jK.calls k t498 t502 t503 t504 _ A13.out).mono ?_); rintro e w20 ⟨v505, rfl, ho0, hb⟩; refine ⟨_, rfl, ?_⟩; have HO506 := jA.mk (Kd.jU (Kd.jR ho0 (Kd.R_lt (rR_ HO501))) (jB (bb1_ HB GE496))); replace HO501 := re_ HO501 ho0 hb; replace BK496 := bk_ BK496 hb; replace HB := jA.mk (jv (bb1_ HB GE496) hb); have p15 : 0 ≤ (0 : Int) := (by omega); have q15 : 0 < a0.size := (by have : (0 : Int) < (a0.size : Int) := of_decide_eq_true am_; omega); have hx15 : ∀ h : 0 < a0.size, ((a0[0]'h).toNat : Int) = bt a0 0 := jBN a0 0; clear p15; have qi15 : (0 < (a0.size : Int)) = True := eq_true (of_decide_eq_true am_); replace q15 := eq_true q15; obtain ⟨Ao21, co21, eo21⟩ := Kd.jm HO506.out; subst eo21; obtain ⟨Ao22, co22, eo22⟩ := Kd.jm HO501.out; subst eo22) | ((with_reducible refine jr (N := 11) rfl ?_); refine zR ?hg (N := 11) ?hd (cs := #[.bool false, .slice none 0 0, .slice none 0 0]) (t := 44) ?hr ?_; (case hd => rfl); (case hg => rfl); (case hr => exact gs_); intro gb507 hg w23 hbox hb; replace HO501 := ro_ HO501 hb; replace HO506 := ro_ HO506 hb; have BK507 := jA.mk (hbox); have GW507 := jA.mk ((by rw [hg]; exact (jB (bb1_ HB GE496)) : w.heap.size ≤ gb507)); have GE507 := jA.mk ((by rw [hg]; exact (jB (bb1_ HB GE496)) : w.heap.size ≤ gb507)); replace HB := jA.mk (jv (bb1_ HB GE496) hb); have NB496_507 := jA.mk ((by rw [hg]; exact Nat.ne_of_lt (qK (g := gb496) (o := .cells #[.bool false, .slice none 0 0, .slice none 0 0] 44 (0, 0)) (kb_ BK496)) : gb496 ≠ gb507)); have NB507_496 := jA.mk ((by rw [hg]; exact Nat.ne_of_gt (qK (g := gb496) (o := .cells #[.bool false, .slice none 0 0, .slice none 0 0] 44 (0, 0)) (kb_ BK496)) : gb507 ≠ gb496)); replace BK496 := bk_ BK496 hb; clear hb hbox hg; have hnb24 := NB507_496.out; have hnc24 := NB496_507.out; obtain ⟨hcz25_0, hcz25_1, hcz25_2, hfz25_0, hfz25_1, hfz25_2⟩ := bf3_ BK507) | ((with_reducible refine jG (f := 76) rfl ?_); refine jo (some 48) rfl rfl Try.func76 kr_ rfl #[.agg #[.bool ((bt a0 0) == 1), .slice Ao22 t497.length co22, .slice Ao21 t502.length co21]] rfl mt_ ?_; (with_reducible refine (jY.calls k ((bt a0 0) == 1) _ _ t497 _ _ t502 true _ ?side1 ?side2 ?side3 ?side4 A16.out).mono ?_); (case side1 => refine (Kd.jF (e := 22) (base := w.heap.size) (ok := fun k_ => (True ∧ some k_ ≠ (.slice Ao21 t502.length co21 : Value).ownBlock)) (n := t497.length) (c := co22) ?_).2.2; exact (rg3_ HO501 BK507)); (case side2 => exact (Kd.jF HO501.out).2.1); (case side3 => refine (Kd.jF (e := 22) (base := w.heap.size) (ok := fun k_ => (True ∧ some k_ ≠ (.slice Ao22 t497.length co22 : Value).ownBlock)) (n := t502.length) (c := co21) ?_).2.2; exact (rg3_ HO506 BK507)); (case side4 => exact (Kd.jF HO506.out).2.1); rintro e w26 ⟨rfl, hb⟩; refine ⟨_, rfl, ?_⟩; replace HO501 := jA.mk (Kd.qd (rg3_ HO501 BK507) hb); replace HO506 := jA.mk (Kd.qd (rg3_ HO506 BK507) hb); replace BK496 := jA.mk (vw (g := gb496) (o := .cells #[.bool false, .slice none 0 0, .slice none 0 0] 44 (0, 0)) (by refine pk_ ?_; refine jd ?_ NB496_507.out _; refine pk_ ?_; refine jd ?_ NB496_507.out _; refine pk_ ?_; refine jd ?_ NB496_507.out _; refine pk_ ?_; exact BK496.out) hb); replace BK507 := jA.mk (vw (g := gb507) (o := .cells #[.bool ((bt a0 0) == 1), .slice Ao22 t497.length co22, .slice Ao21 t502.length co21] 44 (0, 0)) (by refine pk_ ?_; refine jw (cs := #[.bool ((bt a0 0) == 1), .slice Ao22 t497.length co22, .slice none 0 0]) ?_ 2 _ rs_; refine pk_ ?_; refine jw (cs := #[.bool ((bt a0 0) == 1), .slice none 0 0, .slice none 0 0]) ?_ 1 _ rs_; refine pk_ ?_; refine jw (cs := #[.bool false, .slice none 0 0, .slice none 0 0]) ?_ 0 _ rs_; refine pk_ ?_; exact BK507.out) hb); replace HB := jA.mk (jv (bb2_ HB GE496 GE507) hb); obtain ⟨hcz27_0, hcz27_1, hcz27_2, hfz27_0, hfz27_1, hfz27_2⟩ := bf3_ BK507; obtain ⟨hcz28_0, hcz28_1, hcz28_2, hfz28_0, hfz28_1, hfz28_2⟩ := bf3_ BK496))
        refine bodyPost_ret (jAQ rfl _ _ gb496 44 #[.bool ((bt a0 0) == 1), .slice Ao22 t497.length co22, .slice Ao21 t502.length co21] (0, 0) _ rfl (by refine pk_ ?_; refine jw (cs := #[.bool ((bt a0 0) == 1), .slice Ao22 t497.length co22, .slice none 0 0]) ?_ 2 _ rs_; refine pk_ ?_; refine jw (cs := #[.bool ((bt a0 0) == 1), .slice none 0 0, .slice none 0 0]) ?_ 1 _ rs_; refine pk_ ?_; refine jw (cs := #[.bool false, .slice none 0 0, .slice none 0 0]) ?_ 0 _ rs_; refine pk_ ?_; exact BK496.out) Try.underlying44 rfl kr_) rfl ?_
        exact ⟨_, _, ew_, by refine pR_ ?_; exact Kd.jk (Kd.qX (p := ⟨gb496, 2, none⟩) (Kd.qX (p := ⟨gb496, 1, none⟩) (Kd.qX (p := ⟨gb496, 0, none⟩) (Kd.jEl HO501.out BK496.out (by decide)) (fun _ hk => hk.2) (.bool ((bt a0 0) == 1))) (fun _ hk => hk.2) (.slice Ao22 t497.length co22)) (fun _ hk => hk.2) (.slice Ao21 t502.length co21)) (fun _ hk => hk.1.2), by refine pR_ ?_; exact Kd.jk (Kd.qX (p := ⟨gb496, 2, none⟩) (Kd.qX (p := ⟨gb496, 1, none⟩) (Kd.qX (p := ⟨gb496, 0, none⟩) (Kd.jEl HO506.out BK496.out (by decide)) (fun _ hk => hk.2) (.bool ((bt a0 0) == 1))) (fun _ hk => hk.2) (.slice Ao22 t497.length co22)) (fun _ hk => hk.2) (.slice Ao21 t502.length co21)) (fun _ hk => hk.1.2), (bb2_ HB GE496 GE507)⟩
       ·
        replace c17 := Bool.eq_false_iff.mpr c17
        subst c17
        have H1 : (some (false, ([] : List Int), ([] : List Int), (⟨#[]⟩ : ByteArray), 62)) = some (r1, r2, r3, r4, r5) := by rw [if_neg (show ¬ (false = true) by decide)] at H; exact H
        clear H
        have H := H1
        clear H1
        simp only [Option.some.injEq, Prod.mk.injEq] at H
        obtain ⟨rfl, rfl, rfl, rfl, rfl⟩ := H
        go_enter Try.func45, Try.ntmps45
        go_wp2_with (first | ((with_reducible refine jr (N := 2) rfl ?_); refine zR ?hg (N := 2) ?hd (cs := #[.bool false, .slice none 0 0, .slice none 0 0]) (t := 44) ?hr ?_; (case hd => rfl); (case hg => rfl); (case hr => exact gs_); intro gb496 hg w29 hbox hb; have BK496 := jA.mk (hbox); have GW496 := jA.mk ((by rw [hg]; exact (jB (bb_ HB)) : w.heap.size ≤ gb496)); have GE496 := jA.mk ((by rw [hg]; exact (jB (bb_ HB)) : w.heap.size ≤ gb496)); replace HB := bs_ HB hb; clear hb hbox hg; have p6 : 0 ≤ (0 : Int) := (by omega); have q6 : 0 < a0.size := (by have : (0 : Int) < (a0.size : Int) := of_decide_eq_true am_; omega); have hx6 : ∀ h : 0 < a0.size, ((a0[0]'h).toNat : Int) = bt a0 0 := jBN a0 0; clear p6; have qi6 : (0 < (a0.size : Int)) = True := eq_true (of_decide_eq_true am_); replace q6 := eq_true q6) | ((with_reducible refine jG (f := 43) rfl ?_); refine jo (some 23) rfl rfl Try.func43 kr_ rfl #[.string (a0.extract 1 a0.size)] rfl mt_ ?_; (with_reducible refine (jK.calls k (a0.extract 1 a0.size) t497 t498 t499 _ A11.out).mono ?_); rintro e w30 ⟨v500, rfl, ho0, hb⟩; refine ⟨_, rfl, ?_⟩; have HO501 := jA.mk (Kd.jU ho0 (jB (bb1_ HB GE496))); replace BK496 := bk_ BK496 hb; replace HB := jA.mk (jv (bb1_ HB GE496) hb)) | ((with_reducible refine jG (f := 43) rfl ?_); refine jo (some 33) rfl rfl Try.func43 kr_ rfl #[.string t498] rfl mt_ ?_; (with_reducible refine (jK.calls k t498 t502 t503 t504 _ A13.out).mono ?_); rintro e w31 ⟨v505, rfl, ho0, hb⟩; refine ⟨_, rfl, ?_⟩; have HO506 := jA.mk (Kd.jU (Kd.jR ho0 (Kd.R_lt (rR_ HO501))) (jB (bb1_ HB GE496))); replace HO501 := re_ HO501 ho0 hb; replace BK496 := bk_ BK496 hb; replace HB := jA.mk (jv (bb1_ HB GE496) hb); have p15 : 0 ≤ (0 : Int) := (by omega); have q15 : 0 < a0.size := (by have : (0 : Int) < (a0.size : Int) := of_decide_eq_true am_; omega); have hx15 : ∀ h : 0 < a0.size, ((a0[0]'h).toNat : Int) = bt a0 0 := jBN a0 0; clear p15; have qi15 : (0 < (a0.size : Int)) = True := eq_true (of_decide_eq_true am_); replace q15 := eq_true q15; obtain ⟨Ao32, co32, eo32⟩ := Kd.jm HO506.out; subst eo32; obtain ⟨Ao33, co33, eo33⟩ := Kd.jm HO501.out; subst eo33) | ((with_reducible refine jr (N := 11) rfl ?_); refine zR ?hg (N := 11) ?hd (cs := #[.bool false, .slice none 0 0, .slice none 0 0]) (t := 44) ?hr ?_; (case hd => rfl); (case hg => rfl); (case hr => exact gs_); intro gb507 hg w34 hbox hb; replace HO501 := ro_ HO501 hb; replace HO506 := ro_ HO506 hb; have BK507 := jA.mk (hbox); have GW507 := jA.mk ((by rw [hg]; exact (jB (bb1_ HB GE496)) : w.heap.size ≤ gb507)); have GE507 := jA.mk ((by rw [hg]; exact (jB (bb1_ HB GE496)) : w.heap.size ≤ gb507)); replace HB := jA.mk (jv (bb1_ HB GE496) hb); have NB496_507 := jA.mk ((by rw [hg]; exact Nat.ne_of_lt (qK (g := gb496) (o := .cells #[.bool false, .slice none 0 0, .slice none 0 0] 44 (0, 0)) (kb_ BK496)) : gb496 ≠ gb507)); have NB507_496 := jA.mk ((by rw [hg]; exact Nat.ne_of_gt (qK (g := gb496) (o := .cells #[.bool false, .slice none 0 0, .slice none 0 0] 44 (0, 0)) (kb_ BK496)) : gb507 ≠ gb496)); replace BK496 := bk_ BK496 hb; clear hb hbox hg; have hnb35 := NB507_496.out; have hnc35 := NB496_507.out; obtain ⟨hcz36_0, hcz36_1, hcz36_2, hfz36_0, hfz36_1, hfz36_2⟩ := bf3_ BK507) | ((with_reducible refine jG (f := 76) rfl ?_); refine jo (some 48) rfl rfl Try.func76 kr_ rfl #[.agg #[.bool ((bt a0 0) == 1), .slice Ao33 t497.length co33, .slice Ao32 t502.length co32]] rfl mt_ ?_; (with_reducible refine (jY.calls k ((bt a0 0) == 1) _ _ t497 _ _ t502 false _ ?side1 ?side2 ?side3 ?side4 A16.out).mono ?_); (case side1 => refine (Kd.jF (e := 22) (base := w.heap.size) (ok := fun k_ => (True ∧ some k_ ≠ (.slice Ao32 t502.length co32 : Value).ownBlock)) (n := t497.length) (c := co33) ?_).2.2; exact (rg3_ HO501 BK507)); (case side2 => exact (Kd.jF HO501.out).2.1); (case side3 => refine (Kd.jF (e := 22) (base := w.heap.size) (ok := fun k_ => (True ∧ some k_ ≠ (.slice Ao33 t497.length co33 : Value).ownBlock)) (n := t502.length) (c := co32) ?_).2.2; exact (rg3_ HO506 BK507)); (case side4 => exact (Kd.jF HO506.out).2.1); rintro e w37 ⟨rfl, hb⟩; refine ⟨_, rfl, ?_⟩; replace HO501 := jA.mk (Kd.qd (rg3_ HO501 BK507) hb); replace HO506 := jA.mk (Kd.qd (rg3_ HO506 BK507) hb); replace BK496 := jA.mk (vw (g := gb496) (o := .cells #[.bool false, .slice none 0 0, .slice none 0 0] 44 (0, 0)) (by refine pk_ ?_; refine jd ?_ NB496_507.out _; refine pk_ ?_; refine jd ?_ NB496_507.out _; refine pk_ ?_; refine jd ?_ NB496_507.out _; refine pk_ ?_; exact BK496.out) hb); replace BK507 := jA.mk (vw (g := gb507) (o := .cells #[.bool ((bt a0 0) == 1), .slice Ao33 t497.length co33, .slice Ao32 t502.length co32] 44 (0, 0)) (by refine pk_ ?_; refine jw (cs := #[.bool ((bt a0 0) == 1), .slice Ao33 t497.length co33, .slice none 0 0]) ?_ 2 _ rs_; refine pk_ ?_; refine jw (cs := #[.bool ((bt a0 0) == 1), .slice none 0 0, .slice none 0 0]) ?_ 1 _ rs_; refine pk_ ?_; refine jw (cs := #[.bool false, .slice none 0 0, .slice none 0 0]) ?_ 0 _ rs_; refine pk_ ?_; exact BK507.out) hb); replace HB := jA.mk (jv (bb2_ HB GE496 GE507) hb); obtain ⟨hcz38_0, hcz38_1, hcz38_2, hfz38_0, hfz38_1, hfz38_2⟩ := bf3_ BK496))
        refine bodyPost_ret (jAQ rfl _ _ gb496 44 #[.bool false, .slice none 0 0, .slice none 0 0] (0, 0) _ rfl (by refine pk_ ?_; refine jw (cs := #[.bool false, .slice none 0 0, .slice none 0 0]) ?_ 2 _ rs_; refine pk_ ?_; refine jw (cs := #[.bool false, .slice none 0 0, .slice none 0 0]) ?_ 1 _ rs_; refine pk_ ?_; refine jw (cs := #[.bool false, .slice none 0 0, .slice none 0 0]) ?_ 0 _ rs_; refine pk_ ?_; exact BK496.out) Try.underlying44 rfl kr_) rfl ?_
        exact ⟨_, _, ew_, nl_, nl_, (bb2_ HB GE496 GE507)⟩
      ·
       rw [if_neg c14] at H
       have c14b0 := beq_eq_false_iff_ne.mpr c14
       have c14b1 := bne_iff_ne.mpr c14
       simp only [Option.some.injEq, Prod.mk.injEq] at H
       obtain ⟨rfl, rfl, rfl, rfl, rfl⟩ := H
       go_enter Try.func45, Try.ntmps45
       go_wp2_with (first | ((with_reducible refine jr (N := 2) rfl ?_); refine zR ?hg (N := 2) ?hd (cs := #[.bool false, .slice none 0 0, .slice none 0 0]) (t := 44) ?hr ?_; (case hd => rfl); (case hg => rfl); (case hr => exact gs_); intro gb496 hg w39 hbox hb; have BK496 := jA.mk (hbox); have GW496 := jA.mk ((by rw [hg]; exact (jB (bb_ HB)) : w.heap.size ≤ gb496)); have GE496 := jA.mk ((by rw [hg]; exact (jB (bb_ HB)) : w.heap.size ≤ gb496)); replace HB := bs_ HB hb; clear hb hbox hg; have p6 : 0 ≤ (0 : Int) := (by omega); have q6 : 0 < a0.size := (by have : (0 : Int) < (a0.size : Int) := of_decide_eq_true am_; omega); have hx6 : ∀ h : 0 < a0.size, ((a0[0]'h).toNat : Int) = bt a0 0 := jBN a0 0; clear p6; have qi6 : (0 < (a0.size : Int)) = True := eq_true (of_decide_eq_true am_); replace q6 := eq_true q6) | ((with_reducible refine jG (f := 43) rfl ?_); refine jo (some 23) rfl rfl Try.func43 kr_ rfl #[.string (a0.extract 1 a0.size)] rfl mt_ ?_; (with_reducible refine (jK.calls k (a0.extract 1 a0.size) t497 t498 t499 _ A11.out).mono ?_); rintro e w40 ⟨v500, rfl, ho0, hb⟩; refine ⟨_, rfl, ?_⟩; have HO501 := jA.mk (Kd.jU ho0 (jB (bb1_ HB GE496))); replace BK496 := bk_ BK496 hb; replace HB := jA.mk (jv (bb1_ HB GE496) hb)) | ((with_reducible refine jG (f := 43) rfl ?_); refine jo (some 33) rfl rfl Try.func43 kr_ rfl #[.string t498] rfl mt_ ?_; (with_reducible refine (jK.calls k t498 t502 t503 t504 _ A13.out).mono ?_); rintro e w41 ⟨v505, rfl, ho0, hb⟩; refine ⟨_, rfl, ?_⟩; have HO506 := jA.mk (Kd.jU (Kd.jR ho0 (Kd.R_lt (rR_ HO501))) (jB (bb1_ HB GE496))); replace HO501 := re_ HO501 ho0 hb; replace BK496 := bk_ BK496 hb; replace HB := jA.mk (jv (bb1_ HB GE496) hb); obtain ⟨hcz42_0, hcz42_1, hcz42_2, hfz42_0, hfz42_1, hfz42_2⟩ := bf3_ BK496))
       refine bodyPost_ret (jAQ rfl _ _ gb496 44 #[.bool false, .slice none 0 0, .slice none 0 0] (0, 0) _ rfl (by refine pk_ ?_; refine jw (cs := #[.bool false, .slice none 0 0, .slice none 0 0]) ?_ 2 _ rs_; refine pk_ ?_; refine jw (cs := #[.bool false, .slice none 0 0, .slice none 0 0]) ?_ 1 _ rs_; refine pk_ ?_; refine jw (cs := #[.bool false, .slice none 0 0, .slice none 0 0]) ?_ 0 _ rs_; refine pk_ ?_; exact BK496.out) Try.underlying44 rfl kr_) rfl ?_
       exact ⟨_, _, ew_, nl_, nl_, (bb1_ HB GE496)⟩
     ·
      rw [if_neg c12] at H
      have c12b0 := beq_eq_false_iff_ne.mpr c12
      have c12b1 := bne_iff_ne.mpr c12
      simp only [Option.some.injEq, Prod.mk.injEq] at H
      obtain ⟨rfl, rfl, rfl, rfl, rfl⟩ := H
      go_enter Try.func45, Try.ntmps45
      go_wp2_with (first | ((with_reducible refine jr (N := 2) rfl ?_); refine zR ?hg (N := 2) ?hd (cs := #[.bool false, .slice none 0 0, .slice none 0 0]) (t := 44) ?hr ?_; (case hd => rfl); (case hg => rfl); (case hr => exact gs_); intro gb496 hg w43 hbox hb; have BK496 := jA.mk (hbox); have GW496 := jA.mk ((by rw [hg]; exact (jB (bb_ HB)) : w.heap.size ≤ gb496)); have GE496 := jA.mk ((by rw [hg]; exact (jB (bb_ HB)) : w.heap.size ≤ gb496)); replace HB := bs_ HB hb; clear hb hbox hg; have p6 : 0 ≤ (0 : Int) := (by omega); have q6 : 0 < a0.size := (by have : (0 : Int) < (a0.size : Int) := of_decide_eq_true am_; omega); have hx6 : ∀ h : 0 < a0.size, ((a0[0]'h).toNat : Int) = bt a0 0 := jBN a0 0; clear p6; have qi6 : (0 < (a0.size : Int)) = True := eq_true (of_decide_eq_true am_); replace q6 := eq_true q6) | ((with_reducible refine jG (f := 43) rfl ?_); refine jo (some 23) rfl rfl Try.func43 kr_ rfl #[.string (a0.extract 1 a0.size)] rfl mt_ ?_; (with_reducible refine (jK.calls k (a0.extract 1 a0.size) t497 t498 t499 _ A11.out).mono ?_); rintro e w44 ⟨v500, rfl, ho0, hb⟩; refine ⟨_, rfl, ?_⟩; have HO501 := jA.mk (Kd.jU ho0 (jB (bb1_ HB GE496))); replace BK496 := bk_ BK496 hb; replace HB := jA.mk (jv (bb1_ HB GE496) hb); obtain ⟨hcz45_0, hcz45_1, hcz45_2, hfz45_0, hfz45_1, hfz45_2⟩ := bf3_ BK496))
      refine bodyPost_ret (jAQ rfl _ _ gb496 44 #[.bool false, .slice none 0 0, .slice none 0 0] (0, 0) _ rfl (by refine pk_ ?_; refine jw (cs := #[.bool false, .slice none 0 0, .slice none 0 0]) ?_ 2 _ rs_; refine pk_ ?_; refine jw (cs := #[.bool false, .slice none 0 0, .slice none 0 0]) ?_ 1 _ rs_; refine pk_ ?_; refine jw (cs := #[.bool false, .slice none 0 0, .slice none 0 0]) ?_ 0 _ rs_; refine pk_ ?_; exact BK496.out) Try.underlying44 rfl kr_) rfl ?_
      exact ⟨_, _, ew_, nl_, nl_, (bb1_ HB GE496)⟩
    ·
     rw [if_neg c10] at H
     exact absurd H (by simp)
  ·
   rw [if_neg c5] at H
   exact absurd H (by simp)

/-! ### vK: function 46 -/
def vK.f (k : Nat) (a0 : ByteArray) : Option (ByteArray × ByteArray × Int) := (jV.f k a0).bind fun bt509 => (if bt509.2.2 = 0 then (if bt509.1 > (IntKind.u64.wrap (bt509.2.1.size : Int)) then (some ((⟨#[]⟩ : ByteArray), (⟨#[]⟩ : ByteArray), 60)) else (if 0 ≤ (wrap64 (bt509.1)) then (if (wrap64 (bt509.1)) ≤ (bt509.2.1.size : Int) then (some (bt509.2.1.extract 0 ((wrap64 (bt509.1)) : Int).toNat, bt509.2.1.extract ((wrap64 (bt509.1)) : Int).toNat bt509.2.1.size, 0)) else (none)) else (none))) else (some ((⟨#[]⟩ : ByteArray), (⟨#[]⟩ : ByteArray), bt509.2.2)))
theorem vK.mono : ∀ a0 k, LeO (vK.f k a0) (vK.f (k + 1) a0) := by
 intro a0 k
 unfold vK.f
 repeat' first
   | (with_reducible exact jV.mono _ _)
   | (with_reducible exact LeO.refl _)
   | (with_reducible exact LeO.none _)
   | (with_reducible refine LeO.ite ?_ ?_)
   | (with_reducible refine LeO.bind ?_ (fun _ => ?_))
theorem vK.calls (k : Nat) (a0 : ByteArray) (r1 : ByteArray) (r2 : ByteArray) (r3 : Int) (w : World) (h : vK.f k a0 = some (r1, r2, r3)) :
  Calls Try.prog 46 #[.string a0] w fun e w' => e = .returned (.tuple #[.string r1, .string r2, .int .i64 r3]) ∧ vR w w' := by
 have H : ((jV.f k a0).bind fun bt509 => (if bt509.2.2 = 0 then (if bt509.1 > (IntKind.u64.wrap (bt509.2.1.size : Int)) then (some ((⟨#[]⟩ : ByteArray), (⟨#[]⟩ : ByteArray), 60)) else (if 0 ≤ (wrap64 (bt509.1)) then (if (wrap64 (bt509.1)) ≤ (bt509.2.1.size : Int) then (some (bt509.2.1.extract 0 ((wrap64 (bt509.1)) : Int).toNat, bt509.2.1.extract ((wrap64 (bt509.1)) : Int).toNat bt509.2.1.size, 0)) else (none)) else (none))) else (some ((⟨#[]⟩ : ByteArray), (⟨#[]⟩ : ByteArray), bt509.2.2)))) = some (r1, r2, r3) := h
 clear h
 replace H := ob_ H
 obtain ⟨⟨t509, t510, t511⟩, A20, H⟩ := H
 try dsimp only at H
 have A2 := jA.mk A20
 clear A20
 by_cases c3 : t511 = 0
 ·
  rw [if_pos c3] at H
  have c3b0 := beq_iff_eq.mpr c3
  have c3b1 := bne_eq_false_iff_eq.mpr c3
  clear c3
  by_cases c4 : t509 > (IntKind.u64.wrap (t510.size : Int))
  ·
   rw [if_pos c4] at H
   have c4b0 := decide_eq_true c4
   clear c4
   simp only [Option.some.injEq, Prod.mk.injEq] at H
   obtain ⟨rfl, rfl, rfl⟩ := H
   go_enter Try.func46, Try.ntmps46
   go_wp2_with (first | (go_at_call 42; (with_reducible refine (jV.calls k a0 t509 t510 t511 _ A2.out).mono ?_); rintro e w' ⟨rfl, ⟨nd, rfl⟩⟩; (try first | exact ⟨rfl, _, World.drewN_drewN _ _ _⟩ | exact ⟨rfl, _, Eq.trans (World.drewN_drewN _ _ _) (congrArg (World.drewN _) (Nat.add_assoc _ _ _))⟩)))
   repeat (go_quiet (first | (go_at_call 42; (with_reducible refine (jV.calls k a0 t509 t510 t511 _ A2.out).mono ?_); rintro e w' ⟨rfl, ⟨nd, rfl⟩⟩; (try first | exact ⟨rfl, _, World.drewN_drewN _ _ _⟩ | exact ⟨rfl, _, Eq.trans (World.drewN_drewN _ _ _) (congrArg (World.drewN _) (Nat.add_assoc _ _ _))⟩))); try go_wp2_with (first | (go_at_call 42; (with_reducible refine (jV.calls k a0 t509 t510 t511 _ A2.out).mono ?_); rintro e w' ⟨rfl, ⟨nd, rfl⟩⟩; (try first | exact ⟨rfl, _, World.drewN_drewN _ _ _⟩ | exact ⟨rfl, _, Eq.trans (World.drewN_drewN _ _ _) (congrArg (World.drewN _) (Nat.add_assoc _ _ _))⟩))))
   go_ret3
   exact ⟨by first | rfl | (simp; done) | (simp [*]; done), by repeat (first | exact vR.refl _ | apply vR.step)⟩
  ·
   rw [if_neg c4] at H
   have c4b0 := decide_eq_false c4
   clear c4
   obtain ⟨ji5, hji5⟩ : ∃ j_ : Int, (wrap64 (t509)) = j_ := ⟨_, rfl⟩
   replace H : (if 0 ≤ (ji5) then (if (ji5) ≤ (t510.size : Int) then (some (t510.extract 0 ((ji5) : Int).toNat, t510.extract ((ji5) : Int).toNat t510.size, 0)) else (none)) else (none)) = some (r1, r2, r3) := by first | (rw [hji5] at H; exact H) | (simp only [hji5] at H ⊢; exact H)
   (try rw [hji5] at A2)
   have hji5w : (IntKind.i64.wrap (t509)) = ji5 := (zF _).trans hji5
   by_cases c6 : 0 ≤ (ji5)
   ·
    rw [if_pos c6] at H
    have c6b0 := eq_true c6
    have c6b1 := decide_eq_true c6
    clear c6
    by_cases c7 : (ji5) ≤ (t510.size : Int)
    ·
     rw [if_pos c7] at H
     have c7b0 := eq_true c7
     have c7b1 := decide_eq_true c7
     clear c7
     have c8b0 := eq_true (of_decide_eq_true am_ : 0 ≤ (ji5))
     have c9b0 := eq_true (of_decide_eq_true am_ : (ji5) ≤ (t510.size : Int))
     simp only [Option.some.injEq, Prod.mk.injEq] at H
     obtain ⟨rfl, rfl, rfl⟩ := H
     go_enter Try.func46, Try.ntmps46
     go_wp2_with (first | (go_at_call 42; (with_reducible refine (jV.calls k a0 t509 t510 t511 _ A2.out).mono ?_); rintro e w' ⟨rfl, ⟨nd, rfl⟩⟩; (try first | exact ⟨rfl, _, World.drewN_drewN _ _ _⟩ | exact ⟨rfl, _, Eq.trans (World.drewN_drewN _ _ _) (congrArg (World.drewN _) (Nat.add_assoc _ _ _))⟩)))
     repeat (go_quiet (first | (go_at_call 42; (with_reducible refine (jV.calls k a0 t509 t510 t511 _ A2.out).mono ?_); rintro e w' ⟨rfl, ⟨nd, rfl⟩⟩; (try first | exact ⟨rfl, _, World.drewN_drewN _ _ _⟩ | exact ⟨rfl, _, Eq.trans (World.drewN_drewN _ _ _) (congrArg (World.drewN _) (Nat.add_assoc _ _ _))⟩))); try go_wp2_with (first | (go_at_call 42; (with_reducible refine (jV.calls k a0 t509 t510 t511 _ A2.out).mono ?_); rintro e w' ⟨rfl, ⟨nd, rfl⟩⟩; (try first | exact ⟨rfl, _, World.drewN_drewN _ _ _⟩ | exact ⟨rfl, _, Eq.trans (World.drewN_drewN _ _ _) (congrArg (World.drewN _) (Nat.add_assoc _ _ _))⟩))))
     go_ret3
     exact ⟨by first | rfl | (simp; done) | (simp only [← hji5] <;> (first | rfl | simp)) | (simp [*]; done), by repeat (first | exact vR.refl _ | apply vR.step)⟩
    ·
     rw [if_neg c7] at H
     exact absurd H (by simp)
   ·
    rw [if_neg c6] at H
    exact absurd H (by simp)
 ·
  rw [if_neg c3] at H
  have c3b0 := beq_eq_false_iff_ne.mpr c3
  have c3b1 := bne_iff_ne.mpr c3
  simp only [Option.some.injEq, Prod.mk.injEq] at H
  obtain ⟨rfl, rfl, rfl⟩ := H
  go_enter Try.func46, Try.ntmps46
  go_wp2_with (first | (go_at_call 42; (with_reducible refine (jV.calls k a0 t509 t510 t511 _ A2.out).mono ?_); rintro e w' ⟨rfl, ⟨nd, rfl⟩⟩; (try first | exact ⟨rfl, _, World.drewN_drewN _ _ _⟩ | exact ⟨rfl, _, Eq.trans (World.drewN_drewN _ _ _) (congrArg (World.drewN _) (Nat.add_assoc _ _ _))⟩)))
  repeat (go_quiet (first | (go_at_call 42; (with_reducible refine (jV.calls k a0 t509 t510 t511 _ A2.out).mono ?_); rintro e w' ⟨rfl, ⟨nd, rfl⟩⟩; (try first | exact ⟨rfl, _, World.drewN_drewN _ _ _⟩ | exact ⟨rfl, _, Eq.trans (World.drewN_drewN _ _ _) (congrArg (World.drewN _) (Nat.add_assoc _ _ _))⟩))); try go_wp2_with (first | (go_at_call 42; (with_reducible refine (jV.calls k a0 t509 t510 t511 _ A2.out).mono ?_); rintro e w' ⟨rfl, ⟨nd, rfl⟩⟩; (try first | exact ⟨rfl, _, World.drewN_drewN _ _ _⟩ | exact ⟨rfl, _, Eq.trans (World.drewN_drewN _ _ _) (congrArg (World.drewN _) (Nat.add_assoc _ _ _))⟩))))
  go_ret3
  exact ⟨by first | rfl | (simp; done) | (simp [*]; done), by repeat (first | exact vR.refl _ | apply vR.step)⟩

end Go.Proofs.Ytijgeonhbmgikaa.POOctetGets
