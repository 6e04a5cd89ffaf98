-- Written by a program of this session (shake.py): of the words and of this session's own texts what this claim names.
import Derived.Test.YtfoickaangjmnaaPOQueueAllx
import Derived.WalkKit
import Derived.ProofKit
import Derived.OpenShut
import Derived.ChangeOld
import Derived.ChangeSame
import Derived.DataReads
import Derived.Deep.Strs
import Derived.Laws.IdiomArrays
import Derived.Test.YtfoickaangjmnaaOQueueAllW
set_option linter.unusedVariables false
set_option linter.unusedSimpArgs false
section
set_option linter.unusedVariables false
set_option linter.unusedSimpArgs false
namespace Go.Proofs.Ytfoickaangjmnaa.EOQueueAll
open Go.RowKit Go.Proofs.Ytfoickaangjmnaa.POQueueAll Go.Proofs.YtfoickaangjmnaaN Go.Proofs.YtfoickaangjmnaaW.PrintWords Go.Proofs.YtfoickaangjmnaaW.PrintLast Go.Proofs.YtfoickaangjmnaaW.PrintMore
theorem some_bind {α β : Type} (a : α) (f : α → Option β) : (some a).bind f = f a := rfl
theorem Ev.pos {α : Type} {c : Prop} [Decidable c] {f g : Nat → Option α} {r : α} (hc : c) (h : Ev f r) : Ev (fun k => if c then f k else g k) r := by
  simp only [if_pos hc]; exact h
theorem Ev.neg {α : Type} {c : Prop} [Decidable c] {f g : Nat → Option α} {r : α} (hc : ¬ c) (h : Ev g r) : Ev (fun k => if c then f k else g k) r := by
  simp only [if_neg hc]; exact h
theorem Ev.bind_const {α β : Type} {g : Option α} {f : Nat → α → Option β} {a : α} {r : β} (h : g = some a) (k : Ev (fun n => f n a) r) : Ev (fun n => g.bind (f n)) r := by
  rw [h]; exact k
theorem Ev.eq {α : Type} {g : Nat → Option α} {r s : α} (h : Ev g r) (e : r = s) : Ev g s := e ▸ h
theorem w64 {x : Int} (h : -4611686018427387904 ≤ x ∧ x ≤ 4611686018427387904) : wrap64 x = x := by unfold wrap64; omega
def In4 (n x0 x1 x2 x3 : Int) : Prop := (0 ≤ x0 ∧ x0 ≤ n) ∧ (0 ≤ x1 ∧ x1 ≤ n) ∧ (0 ≤ x2 ∧ x2 ≤ n) ∧ 0 ≤ x3 ∧ x3 ≤ n
theorem bad_eq (n : Int) : bad n = false ↔ 0 ≤ n ∧ n ≤ 40 := by
  unfold bad
  rw [Bool.or_eq_false_iff, decide_eq_false_iff_not, decide_eq_false_iff_not]
  omega
theorem mays_iff {x0 x1 x2 x3 : Int} : mays x0 x1 x2 x3 = true ↔ In4 40 x0 x1 x2 x3 := by
  unfold mays In4
  rw [Bool.not_eq_true', Bool.or_eq_false_iff, Bool.or_eq_false_iff, Bool.or_eq_false_iff, bad_eq, bad_eq, bad_eq, bad_eq]
theorem In4.mays {n x0 x1 x2 x3 : Int} (h : In4 n x0 x1 x2 x3) (hn : n ≤ 40) : mays x0 x1 x2 x3 = true := by
  rw [mays_iff]; unfold In4 at *; omega
theorem In4.le {n m x0 x1 x2 x3 : Int} (h : In4 n x0 x1 x2 x3) (hn : n ≤ m) : In4 m x0 x1 x2 x3 := by unfold In4 at *; omega
def wt (o x0 x1 x2 x3 : Int) : Int := if o = 0 then 68921 * x0 + 1681 * x1 + 41 * x2 + x3 else if o = 1 then 2825761 * (x0 + x1 + x2 + x3) + (68921 * x0 + 1681 * x1 + 41 * x2 + x3) else 2825761 * (x0 + x1 + x2 + x3) - (68921 * x3 + 1681 * x2 + 41 * x1 + x0)
theorem cmpi_lt {x y : Int} (h : x < y) : cmpi x y = -1 := if_pos h
theorem cmpi_gt {x y : Int} (h : y < x) : cmpi x y = 1 := by unfold cmpi; rw [if_neg (by omega), if_pos h]
theorem cmpi_self (x : Int) : cmpi x x = 0 := by unfold cmpi; rw [if_neg (by omega), if_neg (by omega)]
theorem cmpi_cases (x y : Int) : (cmpi x y = -1 ∧ x < y) ∨ (cmpi x y = 1 ∧ y < x) ∨ (cmpi x y = 0 ∧ x = y) := by
  rcases Int.lt_trichotomy x y with h | h | h
  · exact .inl ⟨cmpi_lt h, h⟩
  · subst h; exact .inr (.inr ⟨cmpi_self x, rfl⟩)
  · exact .inr (.inl ⟨cmpi_gt h, h⟩)
theorem cmpi_add (x y c : Int) : cmpi (x + c) (y + c) = cmpi x y := by
  rcases cmpi_cases x y with ⟨e, h⟩ | ⟨e, h⟩ | ⟨e, h⟩
  · rw [e, cmpi_lt (by omega)]
  · rw [e, cmpi_gt (by omega)]
  · rw [h, cmpi_self, cmpi_self]
theorem In4.rev {n x0 x1 x2 x3 : Int} (h : In4 n x0 x1 x2 x3) : In4 n x3 x2 x1 x0 := ⟨h.2.2.2, h.2.2.1, h.2.1, h.1⟩
theorem lexv_eq {x0 x1 x2 x3 y0 y1 y2 y3 : Int} (hx : In4 40 x0 x1 x2 x3) (hy : In4 40 y0 y1 y2 y3) : lexv x0 x1 x2 x3 y0 y1 y2 y3 = cmpi (68921 * x0 + 1681 * x1 + 41 * x2 + x3) (68921 * y0 + 1681 * y1 + 41 * y2 + y3) := by
  unfold In4 at hx hy
  unfold lexv
  rcases cmpi_cases x0 y0 with ⟨e0, h0⟩ | ⟨e0, h0⟩ | ⟨e0, h0⟩
  · rw [e0, if_neg (by decide), cmpi_lt (by omega)]
  · rw [e0, if_neg (by decide), cmpi_gt (by omega)]
  · rw [e0, if_pos rfl]
    rcases cmpi_cases x1 y1 with ⟨e1, h1⟩ | ⟨e1, h1⟩ | ⟨e1, h1⟩
    · rw [e1, if_neg (by decide), cmpi_lt (by omega)]
    · rw [e1, if_neg (by decide), cmpi_gt (by omega)]
    · rw [e1, if_pos rfl]
      rcases cmpi_cases x2 y2 with ⟨e2, h2⟩ | ⟨e2, h2⟩ | ⟨e2, h2⟩
      · rw [e2, if_neg (by decide), cmpi_lt (by omega)]
      · rw [e2, if_neg (by decide), cmpi_gt (by omega)]
      · rw [e2, if_pos rfl]
        rcases cmpi_cases x3 y3 with ⟨e3, h3⟩ | ⟨e3, h3⟩ | ⟨e3, h3⟩
        · rw [e3, cmpi_lt (by omega)]
        · rw [e3, cmpi_gt (by omega)]
        · subst h0 h1 h2 h3; rw [e3, cmpi_self]
theorem or2_eq {d e a b A B : Int} (ha : 0 ≤ a ∧ a < 2825761) (hb : 0 ≤ b ∧ b < 2825761) (hA : A = 2825761 * d + a) (hB : B = 2825761 * e + b) : or2 (cmpi d e) (cmpi a b) = cmpi A B := by
  unfold or2
  rcases cmpi_cases d e with ⟨e0, h0⟩ | ⟨e0, h0⟩ | ⟨e0, h0⟩
  · rw [e0, if_neg (by decide), cmpi_lt (by omega)]
  · rw [e0, if_neg (by decide), cmpi_gt (by omega)]
  · rw [e0, if_pos rfl]
    rcases cmpi_cases a b with ⟨e1, h1⟩ | ⟨e1, h1⟩ | ⟨e1, h1⟩
    · rw [e1, cmpi_lt (by omega)]
    · rw [e1, cmpi_gt (by omega)]
    · subst h0 h1 hA hB; rw [cmpi_self, cmpi_self]
theorem mcmp_eq {o x0 x1 x2 x3 y0 y1 y2 y3 : Int} (ho : o = 0 ∨ o = 1 ∨ o = 2) (hx : In4 40 x0 x1 x2 x3) (hy : In4 40 y0 y1 y2 y3) : mcmp o x0 x1 x2 x3 y0 y1 y2 y3 = cmpi (wt o x0 x1 x2 x3) (wt o y0 y1 y2 y3) := by
  have mx := hx.mays (Int.le_refl _)
  have my := hy.mays (Int.le_refl _)
  have rx : In4 40 x3 x2 x1 x0 := by unfold In4 at *; omega
  have ry : In4 40 y3 y2 y1 y0 := by unfold In4 at *; omega
  have dx : degv x0 x1 x2 x3 = x0 + x1 + x2 + x3 := if_pos mx
  have dy : degv y0 y1 y2 y3 = y0 + y1 + y2 + y3 := if_pos my
  unfold mcmp wt
  rw [if_pos ⟨mx, my⟩]
  rcases ho with rfl | rfl | rfl
  · rw [if_pos rfl, if_pos rfl, if_pos rfl, lexv_eq hx hy]
  · rw [if_neg (by decide), if_pos rfl, if_neg (by decide), if_pos rfl, if_neg (by decide), if_pos rfl, dx, dy, lexv_eq hx hy]
    unfold In4 at hx hy
    exact or2_eq (by omega) (by omega) rfl rfl
  · rw [if_neg (by decide), if_neg (by decide), if_pos rfl, if_neg (by decide), if_neg (by decide), if_neg (by decide), if_neg (by decide), dx, dy, lexv_eq ry rx]
    unfold In4 at hx hy
    have e : cmpi (68921 * y3 + 1681 * y2 + 41 * y1 + y0) (68921 * x3 + 1681 * x2 + 41 * x1 + x0) = cmpi (2825760 - (68921 * x3 + 1681 * x2 + 41 * x1 + x0)) (2825760 - (68921 * y3 + 1681 * y2 + 41 * y1 + y0)) := by
      rcases cmpi_cases (68921 * y3 + 1681 * y2 + 41 * y1 + y0) (68921 * x3 + 1681 * x2 + 41 * x1 + x0) with ⟨e1, h1⟩ | ⟨e1, h1⟩ | ⟨e1, h1⟩
      · rw [e1, cmpi_lt (by omega)]
      · rw [e1, cmpi_gt (by omega)]
      · rw [h1, cmpi_self, cmpi_self]
    rw [e]
    have e2 : cmpi (2825761 * (x0 + x1 + x2 + x3) - (68921 * x3 + 1681 * x2 + 41 * x1 + x0)) (2825761 * (y0 + y1 + y2 + y3) - (68921 * y3 + 1681 * y2 + 41 * y1 + y0)) = cmpi (2825761 * (x0 + x1 + x2 + x3) + (2825760 - (68921 * x3 + 1681 * x2 + 41 * x1 + x0))) (2825761 * (y0 + y1 + y2 + y3) + (2825760 - (68921 * y3 + 1681 * y2 + 41 * y1 + y0))) := by
      rw [← cmpi_add _ _ 2825760]
      congr 1 <;> omega
    rw [e2]
    exact or2_eq (by omega) (by omega) rfl rfl
theorem wt_pos {o x0 x1 x2 x3 : Int} {n : Int} (hx : In4 n x0 x1 x2 x3) : 0 ≤ wt o x0 x1 x2 x3 := by
  unfold In4 at hx
  unfold wt
  split
  · omega
  · split <;> omega
theorem wt_zero (o : Int) : wt o 0 0 0 0 = 0 := by
  unfold wt
  split
  · rfl
  · split <;> rfl
theorem mx_bd {x y n : Int} (hx : 0 ≤ x ∧ x ≤ n) (hy : 0 ≤ y ∧ y ≤ n) : 0 ≤ mx x y ∧ mx x y ≤ n := by unfold mx; split <;> omega
theorem lcm_eq {x0 x1 x2 x3 y0 y1 y2 y3 : Int} (hx : In4 40 x0 x1 x2 x3) (hy : In4 40 y0 y1 y2 y3) : mono_Lcm.f x0 x1 x2 x3 y0 y1 y2 y3 = some (mx x0 y0, mx x1 y1, mx x2 y2, mx x3 y3) := by
  unfold mono_Lcm.f mono_May.f
  rw [some_bind, if_pos (hx.mays (Int.le_refl _)), some_bind, if_pos (hy.mays (Int.le_refl _))]
  rfl
theorem lcm_in {n x0 x1 x2 x3 y0 y1 y2 y3 : Int} (hx : In4 n x0 x1 x2 x3) (hy : In4 n y0 y1 y2 y3) : In4 n (mx x0 y0) (mx x1 y1) (mx x2 y2) (mx x3 y3) :=
  ⟨mx_bd hx.1 hy.1, mx_bd hx.2.1 hy.2.1, mx_bd hx.2.2.1 hy.2.2.1, mx_bd hx.2.2.2 hy.2.2.2⟩
end Go.Proofs.Ytfoickaangjmnaa.EOQueueAll
end
section
set_option linter.unusedVariables false
set_option linter.unusedSimpArgs false
namespace Go.Proofs.Ytfoickaangjmnaa.EOQueueAll
open Go.RowKit Go.Proofs.Ytfoickaangjmnaa.POQueueAll Go.Proofs.YtfoickaangjmnaaN Go.Proofs.YtfoickaangjmnaaW.PrintWords Go.Proofs.YtfoickaangjmnaaW.PrintLast Go.Proofs.YtfoickaangjmnaaW.PrintMore
theorem may_r (x0 x1 x2 x3 : Int) : syzygyref08_May.v x0 x1 x2 x3 = mays x0 x1 x2 x3 := by
  unfold syzygyref08_May.v mays bad
  have e : ∀ n : Int, decide (n > 40) = decide (40 < n) := fun _ => rfl
  rw [e, e, e, e]
  generalize decide (x0 < 0) = a0
  generalize decide (40 < x0) = b0
  generalize decide (x1 < 0) = a1
  generalize decide (40 < x1) = b1
  generalize decide (x2 < 0) = a2
  generalize decide (40 < x2) = b2
  generalize decide (x3 < 0) = a3
  generalize decide (40 < x3) = b3
  revert a0 b0 a1 b1 a2 b2 a3 b3
  decide
theorem in_of {x0 x1 x2 x3 : Int} (h : mays x0 x1 x2 x3 = true) : In4 40 x0 x1 x2 x3 := mays_iff.1 h
theorem degree_r (x0 x1 x2 x3 : Int) : syzygyref08_Degree.v x0 x1 x2 x3 = degv x0 x1 x2 x3 := by
  unfold syzygyref08_Degree.v degv
  rw [may_r]
  cases h : mays x0 x1 x2 x3 with
  | false => rfl
  | true =>
    have := in_of h
    unfold In4 at this
    rw [cond_true, if_pos rfl, w64 (x := x0) (by omega), w64 (x := x0 + x1) (by omega), w64 (x := x0 + x1 + x2) (by omega), w64 (by omega)]
theorem lcm_r (x0 x1 x2 x3 y0 y1 y2 y3 : Int) : mono_Lcm.f x0 x1 x2 x3 y0 y1 y2 y3 = some (syzygyref08_Lcm.v x0 x1 x2 x3 y0 y1 y2 y3) := by
  unfold mono_Lcm.f mono_May.f syzygyref08_Lcm.v
  rw [may_r, may_r, some_bind]
  cases mays x0 x1 x2 x3 with
  | false => rfl
  | true =>
    rw [if_pos rfl, some_bind]
    cases mays y0 y1 y2 y3 with
    | false => rfl
    | true => rfl
theorem sgn_r {x y : Int} (h : -2000 ≤ x - y ∧ x - y ≤ 2000) : sgn8 (wrap64 (x - y)) = cmpi x y := by
  rw [w64 (by omega)]
  unfold sgn8 cmpi
  by_cases h0 : x < y
  · rw [if_pos (by omega), if_pos h0]
  · rw [if_neg (by omega), if_neg h0]
    by_cases h1 : y < x
    · rw [if_pos (by omega), if_pos h1]
    · rw [if_neg (by omega), if_neg h1]
theorem step_r {x y r : Int} (h : -2000 ≤ x - y ∧ x - y ≤ 2000) : cond (x != y) (sgn8 (wrap64 (x - y))) r = if cmpi x y = 0 then r else cmpi x y := by
  rw [sgn_r h]
  by_cases e : x = y
  · subst e; simp [cmpi_self]
  · have : cmpi x y ≠ 0 := by rcases cmpi_cases x y with ⟨h, _⟩ | ⟨h, _⟩ | ⟨_, h⟩ <;> omega
    rw [if_neg this, bne_iff_ne.mpr e]; rfl
theorem lex_r {x0 x1 x2 x3 y0 y1 y2 y3 : Int} (hx : In4 40 x0 x1 x2 x3) (hy : In4 40 y0 y1 y2 y3) : syzygyref08_lex.v x0 x1 x2 x3 y0 y1 y2 y3 = lexv x0 x1 x2 x3 y0 y1 y2 y3 := by
  unfold In4 at hx hy
  unfold syzygyref08_lex.v lexv
  rw [step_r (by omega), step_r (by omega), step_r (by omega), step_r (by omega)]
  congr 3
  rcases cmpi_cases x3 y3 with ⟨h, _⟩ | ⟨h, _⟩ | ⟨h, _⟩ <;> rw [h] <;> rfl
theorem rev_r {x0 x1 x2 x3 y0 y1 y2 y3 : Int} (hx : In4 40 x0 x1 x2 x3) (hy : In4 40 y0 y1 y2 y3) : syzygyref08_Cmp.rev x0 x1 x2 x3 y0 y1 y2 y3 = lexv y3 y2 y1 y0 x3 x2 x1 x0 := by
  rw [← lex_r hy.rev hx.rev]
  unfold syzygyref08_Cmp.rev syzygyref08_lex.v
  have e : ∀ a b : Int, (a != b) = (b != a) := fun a b => by rw [Bool.eq_iff_iff, bne_iff_ne, bne_iff_ne]; exact ⟨Ne.symm, Ne.symm⟩
  rw [e x3 y3, e x2 y2, e x1 y1, e x0 y0]
theorem cmp_r (o x0 x1 x2 x3 y0 y1 y2 y3 : Int) : mono_Cmp.f o x0 x1 x2 x3 y0 y1 y2 y3 = some (syzygyref08_Cmp.v o x0 x1 x2 x3 y0 y1 y2 y3) := by
  unfold mono_Cmp.f mcmp syzygyref08_Cmp.v
  rw [may_r, may_r, degree_r, degree_r]
  cases hx : mays x0 x1 x2 x3 with
  | false => rfl
  | true =>
    cases hy : mays y0 y1 y2 y3 with
    | false => rfl
    | true =>
      rw [if_pos ⟨rfl, rfl⟩, cond_true, cond_true, lex_r (in_of hx) (in_of hy), rev_r (in_of hx) (in_of hy)]
      by_cases h0 : o = 0
      · subst h0; rfl
      · rw [if_neg h0]
        have hd : -2000 ≤ degv x0 x1 x2 x3 - degv y0 y1 y2 y3 ∧ degv x0 x1 x2 x3 - degv y0 y1 y2 y3 ≤ 2000 := by
          unfold degv
          rw [if_pos hx, if_pos hy]
          have hx := in_of hx
          have hy := in_of hy
          unfold In4 at hx hy
          omega
        by_cases hr : o < 0 ∨ o > 2
        · rw [if_neg (by omega), if_neg (by omega)]
          rcases hr with hr | hr
          · rw [decide_eq_true hr]; rfl
          · rw [decide_eq_false (by omega : ¬ o < 0), decide_eq_true hr]; rfl
        · rw [decide_eq_false (by omega : ¬ o < 0), decide_eq_false (by omega : ¬ o > 2), cond_false, cond_false, beq_eq_false_iff_ne.mpr h0, cond_false, step_r hd]
          by_cases h1 : o = 1
          · subst h1; rfl
          · obtain rfl : o = 2 := by omega
            rfl
end Go.Proofs.Ytfoickaangjmnaa.EOQueueAll
end
section
set_option linter.unusedVariables false
set_option linter.unusedSimpArgs false
namespace Go.Proofs.Ytfoickaangjmnaa.EOQueueAll
open Go.RowKit Go.Proofs.Ytfoickaangjmnaa.POQueueAll Go.Proofs.YtfoickaangjmnaaN Go.Proofs.YtfoickaangjmnaaW.PrintWords Go.Proofs.YtfoickaangjmnaaW.PrintLast Go.Proofs.YtfoickaangjmnaaW.PrintMore
theorem rdp (l : List S26) (k : Nat) (h : k < l.length) : rd_T26 l (k : Int) = l[k] := by
  unfold rd_T26
  simp [h]
theorem ws (k : Nat) (h : k < 4611686018427387904) : wrap64 ((k : Int) + 1) = ((k + 1 : Nat) : Int) := by unfold wrap64; omega
def tp (p : S26) : Int × Int := (p.f0, p.f1)
theorem tp_inj {p q : S26} (h : tp p = tp q) : p = q := by
  cases p; cases q
  simp only [tp, Prod.mk.injEq] at h
  rw [h.1, h.2]
theorem withq (n : Int) (hn : n < 24) : ∀ (m i : Nat) (l : List S26), ((i + m : Nat) : Int) = mx n 0 → l.length + m < 4398046511104 → Ev (fun k => queue_With.l0 k n l (mx n 0) (i : Int)) (l ++ (List.range' i m).map (fun j => ⟨(j : Int), n⟩))
  | 0, i, l, hi, hl => by
    refine Ev.step (f := _) (fun k => rfl) (Ev.neg (by omega) ?_)
    rw [List.range'_zero, List.map_nil, List.append_nil]
    exact Ev.now _
  | m + 1, i, l, hi, hl => by
    refine Ev.step (f := _) (fun k => rfl) (Ev.pos (by omega) (Ev.pos (by omega) ?_))
    have hb : mx n 0 ≤ 24 := by unfold mx; split <;> omega
    rw [ws i (by omega)]
    refine Ev.eq (withq n hn m (i + 1) _ (by omega) (by rw [List.length_append, List.length_singleton]; omega)) ?_
    rw [List.range'_succ, List.map_cons, List.append_assoc]
    rfl
def withv (n : Int) (l : List S26) : List S26 := if n < 24 then l ++ (List.range' 0 (mx n 0).toNat).map (fun j => ⟨(j : Int), n⟩) else l
theorem with_ev (n : Int) (l : List S26) (hl : l.length < 2199023255552) : Ev (fun k => queue_With.f k n l) (withv n l) := by
  unfold queue_With.f withv
  refine Ev.bind_const (a := l) (by unfold api_Pair_52.f; rw [if_pos (by omega)]) ?_
  by_cases h : n < 24
  · have hb : 0 ≤ mx n 0 ∧ mx n 0 ≤ 24 := by unfold mx; split <;> omega
    rw [if_pos h]
    exact Ev.pos h (withq n h _ 0 l (by omega) (by omega))
  · rw [if_neg h]
    exact Ev.neg h (Ev.now _)
theorem compare_r (x y : Int) : cmp_Compare_int.f x y = some (cmpi x y) := by
  unfold cmp_Compare_int.f cmp_isNaN_int.f cmpi
  have e : ∀ a : Int, (a != a) = false := fun a => by simp
  rw [some_bind, some_bind, e, e, if_neg (by decide), if_neg (by decide)]
  by_cases h : x < y
  · rw [if_pos h, if_pos h]
  · rw [if_neg h, if_neg h]
    by_cases h2 : y < x
    · rw [if_pos h2, if_pos h2]
    · rw [if_neg h2, if_neg h2]
theorem first_r (a b c : Int) : (queue_first.f 5 [a, b, c]).getD 0 = if a = 0 then (if b = 0 then c else b) else a := by
  unfold queue_first.f
  by_cases ha : a = 0
  · by_cases hb : b = 0
    · by_cases hc : c = 0
      · subst ha hb hc; simp [queue_first.l0, rd, wrap64]
      · subst ha hb; simp [queue_first.l0, rd, wrap64, hc]
    · subst ha; simp [queue_first.l0, rd, wrap64, hb]
  · simp [queue_first.l0, rd, ha]
theorem lcmv_r (a b : S36) : lcmv a b = syzygyref08_Lcm.v a.f0 a.f1 a.f2 a.f3 b.f0 b.f1 b.f2 b.f3 := by
  unfold lcmv
  rw [lcm_r]
  rfl
theorem mcmp_r (o x0 x1 x2 x3 y0 y1 y2 y3 : Int) : mcmp o x0 x1 x2 x3 y0 y1 y2 y3 = syzygyref08_Cmp.v o x0 x1 x2 x3 y0 y1 y2 y3 := Option.some.inj (cmp_r o x0 x1 x2 x3 y0 y1 y2 y3)
def nextv (o : Int) (ls : List S36) (l : List S26) : Int × Int × List S26 × Bool := if stop_ o ls l = true then (0, 0, [], false) else ((bestp o ls l).f0, (bestp o ls l).f1, l.eraseIdx (ixp l (bestp o ls l)), true)
theorem next_q (o : Int) (ls : List S36) (l : List S26) (hl : l.length < 2199023255552) : queue_Next.f o ls l = some (nextv o ls l) := by
  unfold queue_Next.f nextv
  rw [if_pos (by omega)]
theorem qshown : syzygylaw15_shown.f = some true := by decide +kernel
def allp (n : Nat) : List S26 := (List.range n).flatMap (fun (j : Nat) => (List.range j).map (fun (i : Nat) => (⟨(i : Int), (j : Int)⟩ : S26)))
theorem allp_succ (n : Nat) : allp (n + 1) = allp n ++ (List.range n).map (fun (i : Nat) => (⟨(i : Int), (n : Int)⟩ : S26)) := by
  unfold allp
  rw [List.range_succ, List.flatMap_append, List.flatMap_singleton]
theorem allp_len : ∀ n : Nat, 2 * (allp n).length + n = n * n
  | 0 => rfl
  | n + 1 => by
    have ih := allp_len n
    rw [allp_succ, List.length_append, List.length_map, List.length_range]
    have : (n + 1) * (n + 1) = n * n + 2 * n + 1 := by rw [Nat.add_mul, Nat.mul_add]; omega
    omega
theorem allp_in : ∀ (n : Nat) (p : S26), p ∈ allp n → 0 ≤ p.f0 ∧ p.f0 < p.f1 ∧ p.f1 < n
  | 0, p, h => by cases h
  | n + 1, p, h => by
    rw [allp_succ, List.mem_append] at h
    rcases h with h | h
    · have := allp_in n p h
      omega
    · obtain ⟨i, hi, rfl⟩ := List.mem_map.1 h
      have := List.mem_range.1 hi
      show 0 ≤ (i : Int) ∧ (i : Int) < (n : Int) ∧ (n : Int) < ((n + 1 : Nat) : Int)
      omega
theorem allp_nodup : ∀ n : Nat, ((allp n).map tp).Nodup
  | 0 => List.nodup_nil
  | n + 1 => by
    rw [allp_succ, List.map_append, List.nodup_append]
    refine ⟨allp_nodup n, ?_, fun a ha b hb e => ?_⟩
    · rw [List.map_map]
      unfold List.Nodup
      rw [List.pairwise_map]
      exact List.Pairwise.imp (fun {x y} (h : x < y) e => by
        have e1 := congrArg Prod.fst e
        have e2 : (x : Int) = (y : Int) := e1
        omega) List.pairwise_lt_range
    · obtain ⟨p, hp, rfl⟩ := List.mem_map.1 ha
      obtain ⟨q, hq, rfl⟩ := List.mem_map.1 hb
      obtain ⟨i, _, rfl⟩ := List.mem_map.1 hq
      have h1 := (allp_in n p hp).2.2
      have h2 : p.f1 = (n : Int) := congrArg Prod.snd e
      omega
theorem with_allp (i : Nat) (h : i < 24) : withv (i : Int) (allp i) = allp (i + 1) := by
  unfold withv
  have e : (mx (i : Int) 0).toNat = i := by unfold mx; rw [if_neg (by omega)]; exact Int.toNat_natCast i
  rw [if_pos (by omega), e, ← List.range_eq_range', allp_succ]
theorem ev_all {α : Type} {g : Nat → Nat → Option α} {r : Nat → α} : ∀ n : Nat, (∀ i, i < n → Ev (fun k => g k i) (r i)) → ∃ K, ∀ k, K ≤ k → ∀ i, i < n → g k i = some (r i)
  | 0, _ => ⟨0, fun _ _ i hi => absurd hi (Nat.not_lt_zero i)⟩
  | n + 1, h => by
    obtain ⟨K1, h1⟩ := ev_all n (fun i hi => h i (by omega))
    obtain ⟨K2, h2⟩ := h n (Nat.lt_succ_self n)
    refine ⟨K1 + K2, fun k hk i hi => ?_⟩
    by_cases c : i < n
    · exact h1 k (by omega) i c
    · obtain rfl : i = n := by omega
      exact h2 k (by omega)
theorem may_of (n : Int) (hn : 0 ≤ n ∧ n ≤ 24) : ∀ (l : List S26) (d : List (Int × Int)), (∀ p ∈ l, 0 ≤ p.f0 ∧ p.f0 < p.f1 ∧ p.f1 < n) → (l.map tp).Nodup → (∀ p ∈ l.map tp, p ∉ d) → queue_May.go n d l = true
  | [], d, _, _, _ => by
    unfold queue_May.go
    rw [decide_eq_true hn.1, decide_eq_true hn.2]
    rfl
  | p :: t, d, h0, h1, h2 => by
    have hp := h0 p (List.mem_cons_self ..)
    rw [List.map_cons, List.nodup_cons] at h1
    unfold queue_May.go
    rw [if_neg (by omega), if_neg (by omega), if_neg (by omega : ¬ 24 < n), if_neg (by omega), if_neg (fun c => h2 (p.f0, p.f1) (List.mem_map.2 ⟨p, List.mem_cons_self .., rfl⟩) (List.contains_iff_mem.1 c))]
    refine may_of n hn t _ (fun q hq => h0 q (List.mem_cons_of_mem _ hq)) h1.2 (fun q hq hm => ?_)
    rcases List.mem_cons.1 hm with rfl | hm
    · exact h1.1 hq
    · exact h2 q (by rw [List.map_cons]; exact List.mem_cons_of_mem _ hq) hm
def lw (o : Int) (ms : List S36) (x : S26) : Int := wt o (mx (rd_T36 ms x.f0).f0 (rd_T36 ms x.f1).f0) (mx (rd_T36 ms x.f0).f1 (rd_T36 ms x.f1).f1) (mx (rd_T36 ms x.f0).f2 (rd_T36 ms x.f1).f2) (mx (rd_T36 ms x.f0).f3 (rd_T36 ms x.f1).f3)
def key (o : Int) (ms : List S36) (x : S26) : Int := 576 * lw o ms x + (24 * x.f1 + x.f0)
def Small (ms : List S36) : Prop := ∀ i : Int, In4 8 (rd_T36 ms i).f0 (rd_T36 ms i).f1 (rd_T36 ms i).f2 (rd_T36 ms i).f3
def InP (x : S26) : Prop := 0 ≤ x.f0 ∧ x.f0 < x.f1 ∧ x.f1 < 24
theorem in40 {x0 x1 x2 x3 : Int} (h : In4 8 x0 x1 x2 x3) : In4 40 x0 x1 x2 x3 := h.le (by omega)
theorem lcmv_s {ms : List S36} (hs : Small ms) (i j : Int) : lcmv (rd_T36 ms i) (rd_T36 ms j) = (mx (rd_T36 ms i).f0 (rd_T36 ms j).f0, mx (rd_T36 ms i).f1 (rd_T36 ms j).f1, mx (rd_T36 ms i).f2 (rd_T36 ms j).f2, mx (rd_T36 ms i).f3 (rd_T36 ms j).f3) := by
  unfold lcmv
  rw [lcm_eq (in40 (hs i)) (in40 (hs j))]
  rfl
theorem ord_lt {o : Int} (ho : o = 0 ∨ o = 1 ∨ o = 2) {ms : List S36} (hs : Small ms) {x y : S26} (hx : InP x) (hy : InP y) : ord3 o ms x y < 0 ↔ key o ms x < key o ms y := by
  unfold ord3
  rw [lcmv_s hs, lcmv_s hs, compare_r, compare_r, Option.getD_some, Option.getD_some, first_r, mcmp_eq ho (in40 (lcm_in (hs x.f0) (hs x.f1))) (in40 (lcm_in (hs y.f0) (hs y.f1)))]
  unfold key
  have e1 : lw o ms x = wt o (mx (rd_T36 ms x.f0).f0 (rd_T36 ms x.f1).f0) (mx (rd_T36 ms x.f0).f1 (rd_T36 ms x.f1).f1) (mx (rd_T36 ms x.f0).f2 (rd_T36 ms x.f1).f2) (mx (rd_T36 ms x.f0).f3 (rd_T36 ms x.f1).f3) := rfl
  have e2 : lw o ms y = wt o (mx (rd_T36 ms y.f0).f0 (rd_T36 ms y.f1).f0) (mx (rd_T36 ms y.f0).f1 (rd_T36 ms y.f1).f1) (mx (rd_T36 ms y.f0).f2 (rd_T36 ms y.f1).f2) (mx (rd_T36 ms y.f0).f3 (rd_T36 ms y.f1).f3) := rfl
  rw [← e1, ← e2]
  generalize lw o ms x = p
  generalize lw o ms y = q
  unfold InP at hx hy
  rcases cmpi_cases p q with ⟨e, h⟩ | ⟨e, h⟩ | ⟨e, h⟩
  · rw [e, if_neg (by decide)]; omega
  · rw [e, if_neg (by decide)]; omega
  · rw [e, if_pos rfl]
    rcases cmpi_cases x.f1 y.f1 with ⟨e, h⟩ | ⟨e, h⟩ | ⟨e, h⟩
    · rw [e, if_neg (by decide)]; omega
    · rw [e, if_neg (by decide)]; omega
    · rw [e, if_pos rfl]
      rcases cmpi_cases x.f0 y.f0 with ⟨e, h⟩ | ⟨e, h⟩ | ⟨e, h⟩
      · rw [e]; omega
      · rw [e]; omega
      · rw [e]; omega
theorem minp_least {o : Int} (ho : o = 0 ∨ o = 1 ∨ o = 2) {ms : List S36} (hs : Small ms) : ∀ (l : List S26) (m : S26), InP m → (∀ x ∈ l, InP x) → ∀ x ∈ m :: l, key o ms (minp (ord3 o ms) m l) ≤ key o ms x
  | [], m, _, _, x, hx => by
    rw [List.mem_singleton] at hx
    subst hx
    exact Int.le_refl _
  | y :: t, m, hm, hl, x, hx => by
    have hy := hl y (List.mem_cons_self ..)
    have ht := fun z hz => hl z (List.mem_cons_of_mem _ hz)
    unfold minp
    by_cases c : ord3 o ms y m < 0
    · rw [if_pos c]
      have ih := minp_least ho hs t y hy ht
      have hc := (ord_lt ho hs hy hm).1 c
      rcases List.mem_cons.1 hx with rfl | hx
      · have := ih y (List.mem_cons_self ..)
        omega
      · exact ih x hx
    · rw [if_neg c]
      have ih := minp_least ho hs t m hm ht
      have hc : ¬ key o ms y < key o ms m := fun h => c ((ord_lt ho hs hy hm).2 h)
      rcases List.mem_cons.1 hx with rfl | hx
      · exact ih x (List.mem_cons_self ..)
      · rcases List.mem_cons.1 hx with rfl | hx
        · have := ih m (List.mem_cons_self ..)
          omega
        · exact ih x (List.mem_cons_of_mem _ hx)
theorem best_least {o : Int} (ho : o = 0 ∨ o = 1 ∨ o = 2) {ms : List S36} (hs : Small ms) {l : List S26} (hp : 0 < l.length) (hl : ∀ x ∈ l, InP x) : ∀ x ∈ l, key o ms (bestp o ms l) ≤ key o ms x := by
  intro x hx
  have e : rd_T26 l 0 = l[0] := rdp l 0 hp
  have hd : l.drop 0 = _ := List.drop_eq_getElem_cons hp
  rw [List.drop_zero] at hd
  unfold bestp
  rw [e]
  exact minp_least ho hs (l.drop 1) l[0] (hl _ (List.getElem_mem hp)) (fun z hz => hl z (List.mem_of_mem_drop hz)) x (hd ▸ hx)
def qs (o : Int) (ms : List S36) (l : List S26) : Nat → List S26
  | 0 => l
  | j + 1 => (qs o ms l j).eraseIdx (ixp (qs o ms l j) (bestp o ms (qs o ms l j)))
theorem ixp_at {l : List S26} {b : S26} (hb : b ∈ l) : ∃ h : ixp l b < l.length, l[ixp l b] = b := by
  have h := ixp_lt l b hb
  refine ⟨h, ?_⟩
  have h2 := List.findIdx_getElem (p := fun p : S26 => b.f0 == p.f0 && b.f1 == p.f1) (w := h)
  rw [Bool.and_eq_true, beq_iff_eq, beq_iff_eq] at h2
  exact (tp_inj (Prod.ext h2.1 h2.2)).symm
theorem erase_gone {l : List S26} (hn : (l.map tp).Nodup) {b : S26} (hb : b ∈ l) : b ∉ l.eraseIdx (ixp l b) := by
  intro h
  obtain ⟨h0, e0⟩ := ixp_at hb
  obtain ⟨i, hi, hne, hx⟩ := List.mem_eraseIdx_iff_getElem.1 h
  have hpw : l.Pairwise (fun a c => tp a ≠ tp c) := List.pairwise_map.1 hn
  rcases Nat.lt_or_gt_of_ne hne with c | c
  · exact (List.pairwise_iff_getElem.1 hpw) i (ixp l b) hi h0 c (by rw [hx, e0])
  · exact (List.pairwise_iff_getElem.1 hpw) (ixp l b) i h0 hi c (by rw [hx, e0])
theorem qs_sub (o : Int) (ms : List S36) (l : List S26) : ∀ j d : Nat, (qs o ms l (j + d)).Sublist (qs o ms l j)
  | j, 0 => List.Sublist.refl _
  | j, d + 1 => (List.eraseIdx_sublist ..).trans (qs_sub o ms l j d)
theorem qs_len (o : Int) (ms : List S36) (l : List S26) : ∀ j : Nat, j ≤ l.length → (qs o ms l j).length + j = l.length
  | 0, _ => rfl
  | j + 1, h => by
    have ih := qs_len o ms l j (by omega)
    have hp : 0 < (qs o ms l j).length := by omega
    have := List.length_eraseIdx_of_lt (ixp_lt _ _ (bestp_mem o ms _ hp))
    show ((qs o ms l j).eraseIdx (ixp (qs o ms l j) (bestp o ms (qs o ms l j)))).length + (j + 1) = l.length
    omega
end Go.Proofs.Ytfoickaangjmnaa.EOQueueAll
end
section
set_option linter.unusedVariables false
set_option linter.unusedSimpArgs false
namespace Go.Proofs.YtfoickaangjmnaaN
open Go.ChangeShapes Go.WideShapes Go.ChangeAt Go.RowKit Go.Proofs.YtfoickaangjmnaaW.PrintWords
def Opens (P : Program) (t : TypeId) {α : Type} (K : Kd α) (p : α → Prop) : Prop :=
  ∀ (H : Type) (enc : TypeId × Value → H) (w : World) (base : Nat) (spare : Nat → Bool) (held : Bool) (fuel : Nat) (cs : List Value) (x : DataW H × List MemPlace), DataW.trod enc P w base spare held fuel t cs = some x → ∃ a, K.K w a cs ∧ p a
namespace Opens
theorem choose_list {α : Type} {n : Nat} {Q : Nat → α → Prop} (h : ∀ i, i < n → ∃ a, Q i a) : ∃ l : List α, l.length = n ∧ ∀ i x, l[i]? = some x → Q i x := by
  induction n with
  | zero => exact ⟨[], rfl, fun i x hx => by simp at hx⟩
  | succ n ih =>
    obtain ⟨l, hl, hq⟩ := ih (fun i hi => h i (by omega))
    obtain ⟨a, ha⟩ := h n (by omega)
    refine ⟨l ++ [a], by simp [hl], fun i x hx => ?_⟩
    by_cases hi : i < l.length
    · rw [List.getElem?_append_left hi] at hx; exact hq i x hx
    · rw [List.getElem?_append_right (by omega)] at hx
      have h1 : i - l.length < [a].length := (List.getElem?_eq_some_iff.1 hx).1
      have h2 : i - l.length = 0 := by simpa using h1
      rw [h2] at hx
      obtain rfl := Option.some.inj hx
      have : i = n := by omega
      subst this
      exact ha
theorem add_add (a : Addr) (m n : Nat) : (a.add m).add n = a.add (m + n) := by
  unfold Addr.add
  by_cases hn : n = 0
  · subst hn; simp
  · by_cases hm : m = 0
    · subst hm; simp
    · rw [if_neg hn, if_neg hm, if_neg (by omega)]
      simp [Nat.add_assoc]
section
variable {P : Program} {t e : TypeId} {α β γ δ : Type} {K : Kd α} {p : α → Prop} {K0 : Kd α} {K1 : Kd β} {K2 : Kd γ} {p0 : α → Prop} {p1 : β → Prop} {p2 : γ → Prop}
theorem imp {q : α → Prop} (h : Opens P t K p) (hq : ∀ x, p x → q x) : Opens P t K q := fun _ _ _ _ _ _ _ _ _ h0 => let ⟨a, ka, pa⟩ := h _ _ _ _ _ _ _ _ _ h0; ⟨a, ka, hq a pa⟩
theorem int {k : IntKind} (ht : P.underlying t = some (.int k)) : Opens P t (Kd.int k) (fun n => (Lit.int k n).wf = true) := by
  intro H enc w base spare held fuel cs x h
  obtain ⟨n, rfl, _, hw⟩ := DataW.trod_int ht h
  exact ⟨n, rfl, hw⟩
theorem bool (ht : P.underlying t = some .bool) : Opens P t Kd.bool (fun _ => True) := by
  intro H enc w base spare held fuel cs x h
  obtain ⟨n, rfl, _⟩ := DataW.trod_bool ht h
  exact ⟨n, rfl, trivial⟩
theorem row {H : Type} {enc : TypeId × Value → H} {w : World} {base : Nat} {spare : Nat → Bool} {held : Bool} {fuel : Nat} {cs : List Value} {x : DataW H × List MemPlace} (ht : P.underlying t = some (.slice e)) (hc : P.cellsOf e = K.sz) (he : Opens P e K p) (h : DataW.trod enc P w base spare held fuel t cs = some x) :
    ∃ A c l, cs = [.slice A l.length c] ∧ l.length ≤ c ∧ K.C w A l.length l ∧ l.length ≤ maxLen ∧ ∀ x ∈ l, p x := by
  rcases DataW.trod_slice ht h with ⟨rfl, _⟩ | ⟨a, len, cap, elems, rest, n, _, rfl, rfl, hb, hl, hm, hlen, hel, hsp, hns⟩
  · exact ⟨none, 0, [], rfl, Nat.le_refl _, ⟨rfl, (show (0 : Nat) ≤ 9223372036854775807 by decide), fun h => absurd h (Nat.lt_irrefl _)⟩, Nat.zero_le _, fun x hx => absurd hx List.not_mem_nil⟩
  · obtain ⟨l, hll, hq⟩ := choose_list (n := len) (Q := fun i v => ∃ c, w.cells? base (a.add (i * K.sz)) K.sz = some c ∧ K.K w v c ∧ p v) (fun i hi => by
      have h1 := hel i hi
      rw [List.getElem?_eq_getElem (by omega), Option.bind_eq_some_iff, hc] at h1
      obtain ⟨c, h2, h3⟩ := h1
      obtain ⟨v, h4, h5⟩ := he _ _ _ _ _ _ _ _ _ h3
      exact ⟨v, c, h2, h4, h5⟩)
    subst hll
    refine ⟨some a, cap, l, rfl, hl, ⟨rfl, by unfold maxLen at hm; omega, fun _ => ⟨a, rfl, fun j v hj => ?_⟩⟩, Nat.le_trans hl hm, fun x hx => ?_⟩
    · obtain ⟨c, h2, h4, _⟩ := hq j v hj
      obtain ⟨_, h6, h7⟩ := World.cells?_some h2
      refine ⟨c, h6, h4, fun i u hu => ?_⟩
      have hi : i < K.sz := by rw [← h6]; exact (List.getElem?_eq_some_iff.1 hu).1
      rw [← add_add, h7 i hi, hu]
    · obtain ⟨i, hi, rfl⟩ := List.getElem_of_mem hx
      obtain ⟨_, _, _, h5⟩ := hq i _ (List.getElem?_eq_getElem hi)
      exact h5
theorem slice (ht : P.underlying t = some (.slice e)) (hc : P.cellsOf e = K.sz) (he : Opens P e K p) : Opens P t (Kd.slice e K) (fun l => l.length ≤ maxLen ∧ ∀ x ∈ l, p x) := by
  intro H enc w base spare held fuel cs x h
  obtain ⟨A, c, l, rfl, h1, h2, h3, h4⟩ := row ht hc he h
  exact ⟨l, ⟨A, c, rfl, h1, h2⟩, h3, h4⟩
theorem arr_len {H : Type} {enc : TypeId × Value → H} {w : World} {base : Nat} {spare : Nat → Bool} {held : Bool} {fuel n : Nat} {cs : List Value} {x : DataW H × List MemPlace} (ht : P.underlying t = some (.array n e)) (h : DataW.trod enc P w base spare held fuel t cs = some x) : cs.length = P.cellsOf t := by
  cases fuel with
  | zero => simp [DataW.trod] at h
  | succ m =>
    unfold DataW.trod at h
    rw [ht] at h
    split at h <;> simp_all
theorem array3 (f : δ → α × (α × α)) (g : α → α → α → δ) (hfg : ∀ a b c, f (g a b c) = (a, (b, c))) (ht : P.underlying t = some (.array 3 e)) (hce : P.cellsOf e = 1) (hct : P.cellsOf t = 3)
    (he : Opens P e K p) : Opens P t (Kd.iso (Kd.pair K (Kd.pair K K)) f) (fun x => p (f x).1 ∧ (p (f x).2.1 ∧ p (f x).2.2)) := by
  intro H enc w base spare held fuel cs x h
  have hl := arr_len ht h
  rw [hct] at hl
  match cs, hl with
  | [c0, c1, c2], _ =>
    obtain ⟨y0, y1, y2, n, _, e0, e1, e2⟩ := trod_array3 ht hce h
    obtain ⟨a, ka, pa⟩ := he _ _ _ _ _ _ _ _ _ e0
    obtain ⟨b, kb, pb⟩ := he _ _ _ _ _ _ _ _ _ e1
    obtain ⟨c, kc, pc⟩ := he _ _ _ _ _ _ _ _ _ e2
    refine ⟨g a b c, ?_, ?_⟩
    · show (Kd.pair K (Kd.pair K K)).K w (f (g a b c)) _
      rw [hfg]
      exact ⟨[c0], [c1, c2], rfl, ka, [c1], [c2], rfl, kb, kc⟩
    · show p (f (g a b c)).1 ∧ (p (f (g a b c)).2.1 ∧ p (f (g a b c)).2.2)
      rw [hfg]; exact ⟨pa, pb, pc⟩
variable {H : Type} {enc : TypeId × Value → H} {w : World} {base : Nat} {spare : Nat → Bool} {held : Bool} {r : Reach} {b0 : Nat} {v : Value} {d : DataW H} {ps : List MemPlace}
theorem arg_row (ht : P.underlying t = some (.slice e)) (hc : P.cellsOf e = K.sz) (he : Opens P e K p) (hv : Value.okWide P w r b0 t v) (h : DataW.Trod enc P w base spare held t v d ps) : ∃ A c l, v = .slice A l.length c ∧ l.length ≤ c ∧ K.C w A l.length l ∧ l.length ≤ maxLen ∧ ∀ x ∈ l, p x := by
  obtain ⟨a, len, cap, rfl⟩ := okWide_slice ht hv
  obtain ⟨fuel, hf⟩ := h
  obtain ⟨A, c, l, hcs, h1⟩ := row ht hc he hf
  simp [Value.cells] at hcs
  obtain ⟨rfl, rfl, rfl⟩ := hcs
  exact ⟨_, _, l, rfl, h1⟩
end
end Opens
end Go.Proofs.YtfoickaangjmnaaN
end
