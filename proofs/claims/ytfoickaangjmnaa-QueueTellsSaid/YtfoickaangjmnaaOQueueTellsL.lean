-- Written by a program of this session (shake.py): of the words and of this session's own texts what this claim names.
import Derived.Test.YtfoickaangjmnaaPOQueueTellsx
import Derived.WalkKit
import Derived.ProofKit
import Derived.OpenShut
import Derived.ChangeOld
import Derived.ChangeSame
import Derived.DataReads
import Derived.Deep.Strs
import Derived.Laws.IdiomArrays
import Derived.Test.YtfoickaangjmnaaOQueueTellsW
set_option linter.unusedVariables false
set_option linter.unusedSimpArgs false
section
set_option linter.unusedVariables false
set_option linter.unusedSimpArgs false
namespace Go.Proofs.Ytfoickaangjmnaa.EOQueueTells
open Go.RowKit Go.Proofs.Ytfoickaangjmnaa.POQueueTells Go.Proofs.YtfoickaangjmnaaN Go.Proofs.YtfoickaangjmnaaW.PrintWords Go.Proofs.YtfoickaangjmnaaW.PrintLast Go.Proofs.YtfoickaangjmnaaW.PrintMore
theorem some_bind {α β : Type} (a : α) (f : α → Option β) : (some a).bind f = f a := rfl
theorem Ev.pos {α : Type} {c : Prop} [Decidable c] {f g : Nat → Option α} {r : α} (hc : c) (h : Ev f r) : Ev (fun k => if c then f k else g k) r := by
  simp only [if_pos hc]; exact h
theorem Ev.neg {α : Type} {c : Prop} [Decidable c] {f g : Nat → Option α} {r : α} (hc : ¬ c) (h : Ev g r) : Ev (fun k => if c then f k else g k) r := by
  simp only [if_neg hc]; exact h
theorem Ev.bind_const {α β : Type} {g : Option α} {f : Nat → α → Option β} {a : α} {r : β} (h : g = some a) (k : Ev (fun n => f n a) r) : Ev (fun n => g.bind (f n)) r := by
  rw [h]; exact k
theorem Ev.eq {α : Type} {g : Nat → Option α} {r s : α} (h : Ev g r) (e : r = s) : Ev g s := e ▸ h
theorem w64 {x : Int} (h : -4611686018427387904 ≤ x ∧ x ≤ 4611686018427387904) : wrap64 x = x := by unfold wrap64; omega
def In4 (n x0 x1 x2 x3 : Int) : Prop := (0 ≤ x0 ∧ x0 ≤ n) ∧ (0 ≤ x1 ∧ x1 ≤ n) ∧ (0 ≤ x2 ∧ x2 ≤ n) ∧ 0 ≤ x3 ∧ x3 ≤ n
theorem bad_eq (n : Int) : bad n = false ↔ 0 ≤ n ∧ n ≤ 40 := by
  unfold bad
  rw [Bool.or_eq_false_iff, decide_eq_false_iff_not, decide_eq_false_iff_not]
  omega
theorem mays_iff {x0 x1 x2 x3 : Int} : mays x0 x1 x2 x3 = true ↔ In4 40 x0 x1 x2 x3 := by
  unfold mays In4
  rw [Bool.not_eq_true', Bool.or_eq_false_iff, Bool.or_eq_false_iff, Bool.or_eq_false_iff, bad_eq, bad_eq, bad_eq, bad_eq]
theorem In4.rev {n x0 x1 x2 x3 : Int} (h : In4 n x0 x1 x2 x3) : In4 n x3 x2 x1 x0 := ⟨h.2.2.2, h.2.2.1, h.2.1, h.1⟩
theorem cmpi_lt {x y : Int} (h : x < y) : cmpi x y = -1 := if_pos h
theorem cmpi_gt {x y : Int} (h : y < x) : cmpi x y = 1 := by unfold cmpi; rw [if_neg (by omega), if_pos h]
theorem cmpi_self (x : Int) : cmpi x x = 0 := by unfold cmpi; rw [if_neg (by omega), if_neg (by omega)]
theorem cmpi_cases (x y : Int) : (cmpi x y = -1 ∧ x < y) ∨ (cmpi x y = 1 ∧ y < x) ∨ (cmpi x y = 0 ∧ x = y) := by
  rcases Int.lt_trichotomy x y with h | h | h
  · exact .inl ⟨cmpi_lt h, h⟩
  · subst h; exact .inr (.inr ⟨cmpi_self x, rfl⟩)
  · exact .inr (.inl ⟨cmpi_gt h, h⟩)
theorem may_r (x0 x1 x2 x3 : Int) : syzygyref08_May.v x0 x1 x2 x3 = mays x0 x1 x2 x3 := by
  unfold syzygyref08_May.v mays bad
  have e : ∀ n : Int, decide (n > 40) = decide (40 < n) := fun _ => rfl
  rw [e, e, e, e]
  generalize decide (x0 < 0) = a0
  generalize decide (40 < x0) = b0
  generalize decide (x1 < 0) = a1
  generalize decide (40 < x1) = b1
  generalize decide (x2 < 0) = a2
  generalize decide (40 < x2) = b2
  generalize decide (x3 < 0) = a3
  generalize decide (40 < x3) = b3
  revert a0 b0 a1 b1 a2 b2 a3 b3
  decide
theorem in_of {x0 x1 x2 x3 : Int} (h : mays x0 x1 x2 x3 = true) : In4 40 x0 x1 x2 x3 := mays_iff.1 h
theorem degree_r (x0 x1 x2 x3 : Int) : syzygyref08_Degree.v x0 x1 x2 x3 = degv x0 x1 x2 x3 := by
  unfold syzygyref08_Degree.v degv
  rw [may_r]
  cases h : mays x0 x1 x2 x3 with
  | false => rfl
  | true =>
    have := in_of h
    unfold In4 at this
    rw [cond_true, if_pos rfl, w64 (x := x0) (by omega), w64 (x := x0 + x1) (by omega), w64 (x := x0 + x1 + x2) (by omega), w64 (by omega)]
theorem lcm_r (x0 x1 x2 x3 y0 y1 y2 y3 : Int) : mono_Lcm.f x0 x1 x2 x3 y0 y1 y2 y3 = some (syzygyref08_Lcm.v x0 x1 x2 x3 y0 y1 y2 y3) := by
  unfold mono_Lcm.f mono_May.f syzygyref08_Lcm.v
  rw [may_r, may_r, some_bind]
  cases mays x0 x1 x2 x3 with
  | false => rfl
  | true =>
    rw [if_pos rfl, some_bind]
    cases mays y0 y1 y2 y3 with
    | false => rfl
    | true => rfl
theorem sgn_r {x y : Int} (h : -2000 ≤ x - y ∧ x - y ≤ 2000) : sgn8 (wrap64 (x - y)) = cmpi x y := by
  rw [w64 (by omega)]
  unfold sgn8 cmpi
  by_cases h0 : x < y
  · rw [if_pos (by omega), if_pos h0]
  · rw [if_neg (by omega), if_neg h0]
    by_cases h1 : y < x
    · rw [if_pos (by omega), if_pos h1]
    · rw [if_neg (by omega), if_neg h1]
theorem step_r {x y r : Int} (h : -2000 ≤ x - y ∧ x - y ≤ 2000) : cond (x != y) (sgn8 (wrap64 (x - y))) r = if cmpi x y = 0 then r else cmpi x y := by
  rw [sgn_r h]
  by_cases e : x = y
  · subst e; simp [cmpi_self]
  · have : cmpi x y ≠ 0 := by rcases cmpi_cases x y with ⟨h, _⟩ | ⟨h, _⟩ | ⟨_, h⟩ <;> omega
    rw [if_neg this, bne_iff_ne.mpr e]; rfl
theorem lex_r {x0 x1 x2 x3 y0 y1 y2 y3 : Int} (hx : In4 40 x0 x1 x2 x3) (hy : In4 40 y0 y1 y2 y3) : syzygyref08_lex.v x0 x1 x2 x3 y0 y1 y2 y3 = lexv x0 x1 x2 x3 y0 y1 y2 y3 := by
  unfold In4 at hx hy
  unfold syzygyref08_lex.v lexv
  rw [step_r (by omega), step_r (by omega), step_r (by omega), step_r (by omega)]
  congr 3
  rcases cmpi_cases x3 y3 with ⟨h, _⟩ | ⟨h, _⟩ | ⟨h, _⟩ <;> rw [h] <;> rfl
theorem rev_r {x0 x1 x2 x3 y0 y1 y2 y3 : Int} (hx : In4 40 x0 x1 x2 x3) (hy : In4 40 y0 y1 y2 y3) : syzygyref08_Cmp.rev x0 x1 x2 x3 y0 y1 y2 y3 = lexv y3 y2 y1 y0 x3 x2 x1 x0 := by
  rw [← lex_r hy.rev hx.rev]
  unfold syzygyref08_Cmp.rev syzygyref08_lex.v
  have e : ∀ a b : Int, (a != b) = (b != a) := fun a b => by rw [Bool.eq_iff_iff, bne_iff_ne, bne_iff_ne]; exact ⟨Ne.symm, Ne.symm⟩
  rw [e x3 y3, e x2 y2, e x1 y1, e x0 y0]
theorem cmp_r (o x0 x1 x2 x3 y0 y1 y2 y3 : Int) : mono_Cmp.f o x0 x1 x2 x3 y0 y1 y2 y3 = some (syzygyref08_Cmp.v o x0 x1 x2 x3 y0 y1 y2 y3) := by
  unfold mono_Cmp.f mcmp syzygyref08_Cmp.v
  rw [may_r, may_r, degree_r, degree_r]
  cases hx : mays x0 x1 x2 x3 with
  | false => rfl
  | true =>
    cases hy : mays y0 y1 y2 y3 with
    | false => rfl
    | true =>
      rw [if_pos ⟨rfl, rfl⟩, cond_true, cond_true, lex_r (in_of hx) (in_of hy), rev_r (in_of hx) (in_of hy)]
      by_cases h0 : o = 0
      · subst h0; rfl
      · rw [if_neg h0]
        have hd : -2000 ≤ degv x0 x1 x2 x3 - degv y0 y1 y2 y3 ∧ degv x0 x1 x2 x3 - degv y0 y1 y2 y3 ≤ 2000 := by
          unfold degv
          rw [if_pos hx, if_pos hy]
          have hx := in_of hx
          have hy := in_of hy
          unfold In4 at hx hy
          omega
        by_cases hr : o < 0 ∨ o > 2
        · rw [if_neg (by omega), if_neg (by omega)]
          rcases hr with hr | hr
          · rw [decide_eq_true hr]; rfl
          · rw [decide_eq_false (by omega : ¬ o < 0), decide_eq_true hr]; rfl
        · rw [decide_eq_false (by omega : ¬ o < 0), decide_eq_false (by omega : ¬ o > 2), cond_false, cond_false, beq_eq_false_iff_ne.mpr h0, cond_false, step_r hd]
          by_cases h1 : o = 1
          · subst h1; rfl
          · obtain rfl : o = 2 := by omega
            rfl
end Go.Proofs.Ytfoickaangjmnaa.EOQueueTells
end
section
set_option linter.unusedVariables false
set_option linter.unusedSimpArgs false
namespace Go.Proofs.Ytfoickaangjmnaa.EOQueueTells
open Go.RowKit Go.Proofs.Ytfoickaangjmnaa.POQueueTells Go.Proofs.YtfoickaangjmnaaN Go.Proofs.YtfoickaangjmnaaW.PrintWords Go.Proofs.YtfoickaangjmnaaW.PrintLast Go.Proofs.YtfoickaangjmnaaW.PrintMore
theorem rdp (l : List S26) (k : Nat) (h : k < l.length) : rd_T26 l (k : Int) = l[k] := by
  unfold rd_T26
  simp [h]
theorem ws (k : Nat) (h : k < 4611686018427387904) : wrap64 ((k : Int) + 1) = ((k + 1 : Nat) : Int) := by unfold wrap64; omega
def tp (p : S26) : Int × Int := (p.f0, p.f1)
theorem tp_inj {p q : S26} (h : tp p = tp q) : p = q := by
  cases p; cases q
  simp only [tp, Prod.mk.injEq] at h
  rw [h.1, h.2]
theorem j2_true (n : Int) (l : List S26) (i : Int) : Ev (fun k => syzygyref15_May.j2 k n l i true) false := ⟨1, fun k hk => by cases k with | zero => omega | succ k => rfl⟩
theorem j2_false {n : Int} {l : List S26} {i : Int} {r : Bool} (h : Ev (fun k => syzygyref15_May.l1 k n l i 0) r) : Ev (fun k => syzygyref15_May.j2 k n l i false) r := Ev.step (f := fun k => syzygyref15_May.l1 k n l i 0) (fun k => rfl) h
theorem j0_true (n : Int) (l : List S26) : Ev (fun k => syzygyref15_May.j0 k n l true) false := ⟨1, fun k hk => by cases k with | zero => omega | succ k => rfl⟩
theorem j0_false {n : Int} {l : List S26} {r : Bool} (h : Ev (fun k => syzygyref15_May.l0 k n l 0) r) : Ev (fun k => syzygyref15_May.j0 k n l false) r := Ev.step (f := fun k => syzygyref15_May.l0 k n l 0) (fun k => rfl) h
theorem mayin (n : Int) (l : List S26) (hl : l.length < 4398046511104) (i : Nat) (hi : i < l.length) (r : Bool) (h : Ev (fun k => syzygyref15_May.l0 k n l ((i + 1 : Nat) : Int)) r) : ∀ m q : Nat, q + m = i → Ev (fun k => syzygyref15_May.l1 k n l (i : Int) (q : Int)) (if tp l[i] ∈ ((l.take i).drop q).map tp then false else r)
  | 0, q, hq => by
    refine Ev.step (f := _) (fun k => rfl) (Ev.neg (by omega) ?_)
    rw [List.drop_eq_nil_of_le (by rw [List.length_take]; omega), if_neg (by simp), ws i (by omega)]
    exact h
  | m + 1, q, hq => by
    have hql : q < l.length := by omega
    have hlt : q < (l.take i).length := by rw [List.length_take]; omega
    have hd : (l.take i).drop q = l[q] :: (l.take i).drop (q + 1) := by rw [List.drop_eq_getElem_cons hlt, List.getElem_take]
    refine Ev.step (f := _) (fun k => rfl) (Ev.pos (by omega) (Ev.pos (by omega) (Ev.pos (by omega) (Ev.pos (by omega) (Ev.pos (by omega) ?_)))))
    rw [rdp l q hql, rdp l i hi, hd, ws q (by omega)]
    by_cases e : l[q] = l[i]
    · refine Ev.pos (by rw [e]; simp) ?_
      rw [if_pos (by rw [e]; exact List.mem_cons_self ..)]
      exact Ev.now false
    · refine Ev.neg (fun c => e ?_) ?_
      · rw [Bool.and_eq_true, beq_iff_eq, beq_iff_eq] at c
        exact tp_inj (Prod.ext c.1 c.2)
      · refine Ev.eq (mayin n l hl i hi r h m (q + 1) (by omega)) ?_
        have : (tp l[i] ∈ (l[q] :: (l.take i).drop (q + 1)).map tp) ↔ (tp l[i] ∈ ((l.take i).drop (q + 1)).map tp) := by
          rw [List.map_cons, List.mem_cons]
          exact ⟨fun h => h.resolve_left (fun x => e (tp_inj x).symm), Or.inr⟩
        simp only [this]
theorem mayout (n : Int) (hn : 0 ≤ n ∧ n ≤ 24) (l : List S26) (hl : l.length < 4398046511104) : ∀ m i : Nat, i + m = l.length → Ev (fun k => syzygyref15_May.l0 k n l (i : Int)) (queue_May.go n ((l.take i).reverse.map tp) (l.drop i))
  | 0, i, hi => by
    refine Ev.step (f := _) (fun k => rfl) (Ev.neg (by omega) ?_)
    rw [List.drop_eq_nil_of_le (by omega)]
    unfold queue_May.go
    rw [decide_eq_true hn.1, decide_eq_true hn.2]
    exact Ev.now true
  | m + 1, i, hi => by
    have hil : i < l.length := by omega
    have ih := mayout n hn l hl m (i + 1) (by omega)
    refine Ev.step (f := _) (fun k => rfl) (Ev.pos (by omega) (Ev.pos (by omega) ?_))
    rw [rdp l i hil, List.drop_eq_getElem_cons hil]
    unfold queue_May.go
    by_cases c0 : l[i].f0 < 0
    · rw [if_pos c0]
      exact Ev.pos c0 (j2_true ..)
    · rw [if_neg c0]
      refine Ev.neg c0 ?_
      by_cases c1 : l[i].f1 ≤ l[i].f0
      · rw [if_pos c1]
        exact Ev.pos c1 (j2_true ..)
      · rw [if_neg c1]
        refine Ev.neg c1 ?_
        rw [if_neg (by omega : ¬ 24 < n)]
        by_cases c2 : n ≤ l[i].f1
        · rw [if_pos c2, decide_eq_true c2]
          exact j2_true ..
        · rw [if_neg c2, decide_eq_false c2]
          refine j2_false ?_
          have := mayin n l hl i hil _ ih i 0 (by omega)
          rw [List.drop_zero] at this
          refine Ev.eq this ?_
          have e1 : ((l.take i).reverse.map tp).contains (l[i].f0, l[i].f1) = true ↔ tp l[i] ∈ (l.take i).map tp := by
            rw [List.contains_iff_mem, List.map_reverse, List.mem_reverse]
            exact Iff.rfl
          have e2 : (l.take (i + 1)).reverse.map tp = (l[i].f0, l[i].f1) :: (l.take i).reverse.map tp := by
            rw [List.take_succ_eq_append_getElem hil, List.reverse_append]
            rfl
          by_cases hm : tp l[i] ∈ (l.take i).map tp
          · rw [if_pos hm, if_pos (e1.2 hm)]
          · rw [if_neg hm, if_neg (fun h => hm (e1.1 h)), e2]
theorem go_out (n : Int) (hn : ¬ (0 ≤ n ∧ n ≤ 24)) : ∀ (l : List S26) (d : List (Int × Int)), queue_May.go n d l = false
  | [], d => by
    unfold queue_May.go
    rw [Bool.and_eq_false_iff, decide_eq_false_iff_not, decide_eq_false_iff_not]
    omega
  | p :: t, d => by
    unfold queue_May.go
    rw [go_out n hn t]
    simp only [ite_self]
theorem may_ev (n : Int) (l : List S26) (hl : l.length < 4398046511104) : Ev (fun k => syzygyref15_May.f k n l) (queue_May.go n [] l) := by
  unfold syzygyref15_May.f
  by_cases h0 : n < 0
  · rw [go_out n (by omega)]
    exact Ev.pos h0 (j0_true ..)
  · refine Ev.neg h0 ?_
    by_cases h1 : n > 24
    · rw [go_out n (by omega), decide_eq_true h1]
      exact j0_true ..
    · rw [decide_eq_false h1]
      refine j0_false ?_
      have := mayout n (by omega) l hl l.length 0 (by omega)
      rw [List.take_zero, List.drop_zero] at this
      exact this
theorem withq (n : Int) (hn : n < 24) : ∀ (m i : Nat) (l : List S26), ((i + m : Nat) : Int) = mx n 0 → l.length + m < 4398046511104 → Ev (fun k => queue_With.l0 k n l (mx n 0) (i : Int)) (l ++ (List.range' i m).map (fun j => ⟨(j : Int), n⟩))
  | 0, i, l, hi, hl => by
    refine Ev.step (f := _) (fun k => rfl) (Ev.neg (by omega) ?_)
    rw [List.range'_zero, List.map_nil, List.append_nil]
    exact Ev.now _
  | m + 1, i, l, hi, hl => by
    refine Ev.step (f := _) (fun k => rfl) (Ev.pos (by omega) (Ev.pos (by omega) ?_))
    have hb : mx n 0 ≤ 24 := by unfold mx; split <;> omega
    rw [ws i (by omega)]
    refine Ev.eq (withq n hn m (i + 1) _ (by omega) (by rw [List.length_append, List.length_singleton]; omega)) ?_
    rw [List.range'_succ, List.map_cons, List.append_assoc]
    rfl
theorem withr (n : Int) (hn : n < 24) : ∀ (m i : Nat) (l : List S26), ((i + m : Nat) : Int) = mx n 0 → l.length + m < 4398046511104 → Ev (fun k => syzygyref15_With.l0 k n l (i : Int)) (l ++ (List.range' i m).map (fun j => ⟨(j : Int), n⟩))
  | 0, i, l, hi, hl => by
    have hb : n ≤ mx n 0 := by unfold mx; split <;> omega
    refine Ev.step (f := _) (fun k => rfl) (Ev.neg (by omega) ?_)
    rw [List.range'_zero, List.map_nil, List.append_nil]
    exact Ev.now _
  | m + 1, i, l, hi, hl => by
    have hb : mx n 0 ≤ 24 ∧ (0 < mx n 0 → mx n 0 = n) := by unfold mx; split <;> omega
    refine Ev.step (f := _) (fun k => rfl) (Ev.pos (by omega) (Ev.pos (by omega) ?_))
    rw [ws i (by omega)]
    refine Ev.eq (withr n hn m (i + 1) _ (by omega) (by rw [List.length_append, List.length_singleton]; omega)) ?_
    rw [List.range'_succ, List.map_cons, List.append_assoc]
    rfl
def withv (n : Int) (l : List S26) : List S26 := if n < 24 then l ++ (List.range' 0 (mx n 0).toNat).map (fun j => ⟨(j : Int), n⟩) else l
theorem with_ev (n : Int) (l : List S26) (hl : l.length < 2199023255552) : Ev (fun k => queue_With.f k n l) (withv n l) := by
  unfold queue_With.f withv
  refine Ev.bind_const (a := l) (by unfold api_Pair_52.f; rw [if_pos (by omega)]) ?_
  by_cases h : n < 24
  · have hb : 0 ≤ mx n 0 ∧ mx n 0 ≤ 24 := by unfold mx; split <;> omega
    rw [if_pos h]
    exact Ev.pos h (withq n h _ 0 l (by omega) (by omega))
  · rw [if_neg h]
    exact Ev.neg h (Ev.now _)
theorem withr_ev (n : Int) (l : List S26) (hl : l.length < 2199023255552) : Ev (fun k => syzygyref15_With.f k n l) (withv n l) := by
  unfold syzygyref15_With.f withv
  refine Ev.bind_const rfl (Ev.pos (by rw [List.length_nil]; omega) (Ev.bind_const rfl ?_))
  rw [List.nil_append]
  by_cases h : n < 24
  · have hb : 0 ≤ mx n 0 ∧ mx n 0 ≤ 24 := by unfold mx; split <;> omega
    rw [if_pos h]
    exact Ev.neg (by omega) (withr n h _ 0 l (by omega) (by omega))
  · rw [if_neg h]
    exact Ev.pos (by omega) (Ev.now _)
theorem same_ev (l : List S26) (hl : l.length < 4398046511104) : ∀ m i : Nat, i + m = l.length → Ev (fun k => syzygyref13_Same.l0 k l l (i : Int)) true
  | 0, i, hi => Ev.step (f := _) (fun k => rfl) (Ev.neg (by omega) (Ev.now true))
  | m + 1, i, hi => by
    refine Ev.step (f := _) (fun k => rfl) (Ev.pos (by omega) (Ev.pos (by omega) (Ev.pos (by omega) (Ev.neg (by simp) ?_))))
    rw [ws i (by omega)]
    exact same_ev l hl m (i + 1) (by omega)
theorem same_self (l : List S26) (hl : l.length < 4398046511104) : Ev (fun k => syzygyref13_Same.f k l l) true := by
  unfold syzygyref13_Same.f
  exact Ev.pos rfl (same_ev l hl l.length 0 (by omega))
end Go.Proofs.Ytfoickaangjmnaa.EOQueueTells
end
section
set_option linter.unusedVariables false
set_option linter.unusedSimpArgs false
namespace Go.Proofs.Ytfoickaangjmnaa.EOQueueTells
open Go.RowKit Go.Proofs.Ytfoickaangjmnaa.POQueueTells Go.Proofs.YtfoickaangjmnaaN Go.Proofs.YtfoickaangjmnaaW.PrintWords Go.Proofs.YtfoickaangjmnaaW.PrintLast Go.Proofs.YtfoickaangjmnaaW.PrintMore
theorem compare_r (x y : Int) : cmp_Compare_int.f x y = some (cmpi x y) := by
  unfold cmp_Compare_int.f cmp_isNaN_int.f cmpi
  have e : ∀ a : Int, (a != a) = false := fun a => by simp
  rw [some_bind, some_bind, e, e, if_neg (by decide), if_neg (by decide)]
  by_cases h : x < y
  · rw [if_pos h, if_pos h]
  · rw [if_neg h, if_neg h]
    by_cases h2 : y < x
    · rw [if_pos h2, if_pos h2]
    · rw [if_neg h2, if_neg h2]
theorem first_r (a b c : Int) : (queue_first.f 5 [a, b, c]).getD 0 = if a = 0 then (if b = 0 then c else b) else a := by
  unfold queue_first.f
  by_cases ha : a = 0
  · by_cases hb : b = 0
    · by_cases hc : c = 0
      · subst ha hb hc; simp [queue_first.l0, rd, wrap64]
      · subst ha hb; simp [queue_first.l0, rd, wrap64, hc]
    · subst ha; simp [queue_first.l0, rd, wrap64, hb]
  · simp [queue_first.l0, rd, ha]
theorem lcmv_r (a b : S36) : lcmv a b = syzygyref08_Lcm.v a.f0 a.f1 a.f2 a.f3 b.f0 b.f1 b.f2 b.f3 := by
  unfold lcmv
  rw [lcm_r]
  rfl
theorem mcmp_r (o x0 x1 x2 x3 y0 y1 y2 y3 : Int) : mcmp o x0 x1 x2 x3 y0 y1 y2 y3 = syzygyref08_Cmp.v o x0 x1 x2 x3 y0 y1 y2 y3 := Option.some.inj (cmp_r o x0 x1 x2 x3 y0 y1 y2 y3)
theorem ahead_r (o : Int) (ls : List S36) (a b : S26) (ha : (0 ≤ a.f0 ∧ a.f0 < ls.length) ∧ (0 ≤ a.f1 ∧ a.f1 < ls.length)) (hb : (0 ≤ b.f0 ∧ b.f0 < ls.length) ∧ (0 ≤ b.f1 ∧ b.f1 < ls.length)) : syzygyref15_ahead.f o ls a.f0 a.f1 b.f0 b.f1 = some (decide (ord3 o ls a b < 0)) := by
  unfold syzygyref15_ahead.f ord3
  rw [if_pos ha.1.1, if_pos ha.1.2, if_pos ha.2.1, if_pos ha.2.2]
  unfold syzygyref08_Lcm.f
  rw [some_bind, if_pos hb.1.1, if_pos hb.1.2, if_pos hb.2.1, if_pos hb.2.2, some_bind]
  unfold syzygyref08_Cmp.f
  rw [some_bind, compare_r, compare_r, Option.getD_some, Option.getD_some, first_r, mcmp_r, lcmv_r, lcmv_r]
  generalize syzygyref08_Cmp.v o _ _ _ _ _ _ _ _ = t
  by_cases h : t = 0
  · rw [if_pos h, if_pos h]
    rcases cmpi_cases a.f1 b.f1 with ⟨e, q⟩ | ⟨e, q⟩ | ⟨e, q⟩
    · rw [e, if_neg (by omega), if_neg (by decide), decide_eq_true q]; rfl
    · rw [e, if_neg (by omega), if_neg (by decide), decide_eq_false (by omega)]; rfl
    · rw [e, if_pos q, if_pos rfl]
      rcases cmpi_cases a.f0 b.f0 with ⟨e, q⟩ | ⟨e, q⟩ | ⟨e, q⟩
      · rw [e, decide_eq_true q]; rfl
      · rw [e, decide_eq_false (by omega)]; rfl
      · rw [e, decide_eq_false (by omega)]; rfl
  · rw [if_neg h, if_neg h]
def bix (cmp : S26 → S26 → Int) (l : List S26) : Nat → Nat → Nat → Nat
  | 0, b, _ => b
  | m + 1, b, i => bix cmp l m (if cmp (rd_T26 l (i : Int)) (rd_T26 l (b : Int)) < 0 then i else b) (i + 1)
theorem bix_minp (cmp : S26 → S26 → Int) (l : List S26) : ∀ m b i : Nat, i + m = l.length → minp cmp (rd_T26 l (b : Int)) (l.drop i) = rd_T26 l ((bix cmp l m b i : Nat) : Int)
  | 0, b, i, h => by
    rw [List.drop_eq_nil_of_le (by omega)]
    rfl
  | m + 1, b, i, h => by
    rw [minp_cons cmp _ l i (by omega)]
    unfold bix
    by_cases c : cmp (rd_T26 l (i : Int)) (rd_T26 l (b : Int)) < 0
    · rw [if_pos c, if_pos c]; exact bix_minp cmp l m i (i + 1) (by omega)
    · rw [if_neg c, if_neg c]; exact bix_minp cmp l m b (i + 1) (by omega)
theorem bix_lt (cmp : S26 → S26 → Int) (l : List S26) : ∀ m b i : Nat, i + m = l.length → b < l.length → bix cmp l m b i < l.length
  | 0, b, i, h, hb => hb
  | m + 1, b, i, h, hb => by
    unfold bix
    split
    · exact bix_lt cmp l m i (i + 1) (by omega) (by omega)
    · exact bix_lt cmp l m b (i + 1) (by omega) hb
theorem may_nodup (n : Int) : ∀ (l : List S26) (d : List (Int × Int)), queue_May.go n d l = true → (l.map tp).Nodup ∧ ∀ p ∈ l.map tp, p ∉ d
  | [], d, h => ⟨List.nodup_nil, fun p hp => by cases hp⟩
  | p :: t, d, h => by
    unfold queue_May.go at h
    by_cases c0 : p.f0 < 0
    · rw [if_pos c0] at h; exact absurd h (by decide)
    rw [if_neg c0] at h
    by_cases c1 : p.f1 ≤ p.f0
    · rw [if_pos c1] at h; exact absurd h (by decide)
    rw [if_neg c1] at h
    by_cases c2 : (if 24 < n then 24 else n) ≤ p.f1
    · rw [if_pos c2] at h; exact absurd h (by decide)
    rw [if_neg c2] at h
    by_cases c3 : d.contains (p.f0, p.f1) = true
    · rw [if_pos c3] at h; exact absurd h (by decide)
    rw [if_neg c3] at h
    obtain ⟨h1, h2⟩ := may_nodup n t _ h
    refine ⟨?_, fun q hq => ?_⟩
    · rw [List.map_cons, List.nodup_cons]
      exact ⟨fun hm => h2 _ hm (List.mem_cons_self ..), h1⟩
    · rw [List.map_cons, List.mem_cons] at hq
      rcases hq with rfl | hq
      · exact fun hd => c3 (List.contains_iff_mem.2 hd)
      · exact fun hd => h2 q hq (List.mem_cons_of_mem _ hd)
theorem ixp_self (l : List S26) (h : (l.map tp).Nodup) (b : Nat) (hb : b < l.length) : ixp l l[b] = b := by
  unfold ixp
  rw [List.findIdx_eq hb]
  refine ⟨by simp, fun j hj => ?_⟩
  rw [Bool.and_eq_false_iff]
  by_cases e : tp l[b] = tp l[j]
  · exfalso
    have h1 : (l.map tp)[b]'(by rw [List.length_map]; exact hb) = (l.map tp)[j]'(by rw [List.length_map]; omega) := by rw [List.getElem_map, List.getElem_map]; exact e
    exact (List.pairwise_iff_getElem.1 h) j b (by rw [List.length_map]; omega) (by rw [List.length_map]; exact hb) hj h1.symm
  · by_cases q : l[b].f0 = l[j].f0
    · refine Or.inr (beq_eq_false_iff_ne.2 fun q2 => e ?_)
      unfold tp
      rw [q, q2]
    · exact Or.inl (beq_eq_false_iff_ne.2 q)
theorem loop_r (o : Int) (ls : List S36) (l : List S26) (hl : l.length < 2199023255552) (hr : ∀ a ∈ l, (0 ≤ a.f0 ∧ a.f0 < ls.length) ∧ (0 ≤ a.f1 ∧ a.f1 < ls.length)) : ∀ m b i : Nat, i + m = l.length → b < l.length → Ev (fun k => syzygyref15_Next.l0 k o ls l (b : Int) (i : Int)) ((rd_T26 l ((bix (ord3 o ls) l m b i : Nat) : Int)).f0, (rd_T26 l ((bix (ord3 o ls) l m b i : Nat) : Int)).f1, l.eraseIdx (bix (ord3 o ls) l m b i), true)
  | 0, b, i, h, hb => by
    refine Ev.step (f := _) (fun k => rfl) (Ev.neg (by omega) (Ev.bind_const rfl (Ev.pos (by omega) (Ev.pos (by omega) (Ev.bind_const rfl (Ev.pos ?_ (Ev.bind_const rfl (Ev.pos (by omega) (Ev.pos ?_ (Ev.pos ?_ (Ev.bind_const rfl (Ev.pos ?_ ?_))))))))))))
    · rw [List.length_nil, List.length_take]; omega
    · unfold wrap64; omega
    · unfold wrap64; omega
    · rw [List.length_append, List.length_nil, List.length_take, List.length_drop]; omega
    · rw [ws b (by omega), Int.toNat_natCast, Int.toNat_natCast, List.nil_append, ← List.eraseIdx_eq_take_drop_succ]
      exact Ev.now _
  | m + 1, b, i, h, hb => by
    have hi : i < l.length := by omega
    refine Ev.step (f := _) (fun k => rfl) (Ev.pos (by omega) (Ev.pos (by omega) (Ev.pos (by omega) (Ev.pos (by omega) (Ev.bind_const (ahead_r o ls _ _ (by rw [rdp l i hi]; exact hr _ (List.getElem_mem hi)) (by rw [rdp l b hb]; exact hr _ (List.getElem_mem hb))) ?_)))))
    rw [ws i (by omega)]
    unfold bix
    by_cases c : ord3 o ls (rd_T26 l (i : Int)) (rd_T26 l (b : Int)) < 0
    · rw [if_pos c]
      exact Ev.pos (decide_eq_true c) (loop_r o ls l hl hr m i (i + 1) (by omega) hi)
    · rw [if_neg c]
      exact Ev.neg (fun h => c (of_decide_eq_true h)) (loop_r o ls l hl hr m b (i + 1) (by omega) hb)
theorem n0_true (o : Int) (ls : List S36) (l : List S26) : Ev (fun k => syzygyref15_Next.j0 k o ls l true) (0, 0, [], false) := ⟨1, fun k hk => by cases k with | zero => omega | succ k => rfl⟩
theorem n0_false {o : Int} {ls : List S36} {l : List S26} {r : Int × Int × List S26 × Bool} (h : Ev (fun k => syzygyref15_Next.l0 k o ls l 0 1) r) : Ev (fun k => syzygyref15_Next.j0 k o ls l false) r := Ev.step (f := fun k => syzygyref15_Next.l0 k o ls l 0 1) (fun k => rfl) h
def nextv (o : Int) (ls : List S36) (l : List S26) : Int × Int × List S26 × Bool := if stop_ o ls l = true then (0, 0, [], false) else ((bestp o ls l).f0, (bestp o ls l).f1, l.eraseIdx (ixp l (bestp o ls l)), true)
theorem next_q (o : Int) (ls : List S36) (l : List S26) (hl : l.length < 2199023255552) : queue_Next.f o ls l = some (nextv o ls l) := by
  unfold queue_Next.f nextv
  rw [if_pos (by omega)]
theorem next_ev (o : Int) (ls : List S36) (l : List S26) (hl : l.length < 2199023255552) : Ev (fun k => syzygyref15_Next.f k o ls l) (nextv o ls l) := by
  unfold syzygyref15_Next.f nextv
  refine Ev.bind (may_ev (ls.length : Int) l (by omega)) ?_
  cases hm : queue_May.go (ls.length : Int) [] l with
  | false =>
    have hs : stop_ o ls l = true := by
      unfold stop_
      rw [hm]
      split
      · rfl
      · rfl
    rw [hs, if_pos rfl]
    exact Ev.neg (by decide) (n0_true ..)
  | true =>
    refine Ev.pos rfl ?_
    by_cases h0 : (l.length : Int) = 0
    · have hs : stop_ o ls l = true := by unfold stop_; rw [if_pos h0]
      rw [hs, if_pos rfl]
      exact Ev.pos h0 (n0_true ..)
    · refine Ev.neg h0 ?_
      by_cases h1 : o < 0
      · have hs : stop_ o ls l = true := by unfold stop_; rw [if_neg h0, hm, if_neg (by decide), if_pos h1]
        rw [hs, if_pos rfl]
        exact Ev.pos h1 (n0_true ..)
      · refine Ev.neg h1 ?_
        by_cases h2 : 2 < o
        · have hs : stop_ o ls l = true := by unfold stop_; rw [if_neg h0, hm, if_neg (by decide), if_neg h1, decide_eq_true h2]
          rw [hs, if_pos rfl, show decide (o > 2) = true from decide_eq_true h2]
          exact n0_true ..
        · have hs : stop_ o ls l = false := by unfold stop_; rw [if_neg h0, hm, if_neg (by decide), if_neg h1, decide_eq_false h2]
          rw [show decide (o > 2) = false from decide_eq_false h2]
          refine n0_false ?_
          have hp : 0 < l.length := by omega
          refine Ev.eq (loop_r o ls l hl (stop_no hs).2 (l.length - 1) 0 1 (by omega) hp) ?_
          have e1 : bestp o ls l = rd_T26 l ((bix (ord3 o ls) l (l.length - 1) 0 1 : Nat) : Int) := bix_minp (ord3 o ls) l (l.length - 1) 0 1 (by omega)
          have hb := bix_lt (ord3 o ls) l (l.length - 1) 0 1 (by omega) hp
          have e2 : ixp l (bestp o ls l) = bix (ord3 o ls) l (l.length - 1) 0 1 := by
            rw [e1, rdp l _ hb]
            exact ixp_self l (may_nodup _ l [] hm).1 _ hb
          rw [hs, if_neg (by decide), e2, e1]
theorem qshown : syzygylaw15_shown.f = some true := by decide +kernel
end Go.Proofs.Ytfoickaangjmnaa.EOQueueTells
end
section
set_option linter.unusedVariables false
set_option linter.unusedSimpArgs false
namespace Go.Proofs.YtfoickaangjmnaaN
open Go.ChangeShapes Go.WideShapes Go.ChangeAt Go.RowKit Go.Proofs.YtfoickaangjmnaaW.PrintWords
def Opens (P : Program) (t : TypeId) {α : Type} (K : Kd α) (p : α → Prop) : Prop :=
  ∀ (H : Type) (enc : TypeId × Value → H) (w : World) (base : Nat) (spare : Nat → Bool) (held : Bool) (fuel : Nat) (cs : List Value) (x : DataW H × List MemPlace), DataW.trod enc P w base spare held fuel t cs = some x → ∃ a, K.K w a cs ∧ p a
namespace Opens
theorem choose_list {α : Type} {n : Nat} {Q : Nat → α → Prop} (h : ∀ i, i < n → ∃ a, Q i a) : ∃ l : List α, l.length = n ∧ ∀ i x, l[i]? = some x → Q i x := by
  induction n with
  | zero => exact ⟨[], rfl, fun i x hx => by simp at hx⟩
  | succ n ih =>
    obtain ⟨l, hl, hq⟩ := ih (fun i hi => h i (by omega))
    obtain ⟨a, ha⟩ := h n (by omega)
    refine ⟨l ++ [a], by simp [hl], fun i x hx => ?_⟩
    by_cases hi : i < l.length
    · rw [List.getElem?_append_left hi] at hx; exact hq i x hx
    · rw [List.getElem?_append_right (by omega)] at hx
      have h1 : i - l.length < [a].length := (List.getElem?_eq_some_iff.1 hx).1
      have h2 : i - l.length = 0 := by simpa using h1
      rw [h2] at hx
      obtain rfl := Option.some.inj hx
      have : i = n := by omega
      subst this
      exact ha
theorem add_add (a : Addr) (m n : Nat) : (a.add m).add n = a.add (m + n) := by
  unfold Addr.add
  by_cases hn : n = 0
  · subst hn; simp
  · by_cases hm : m = 0
    · subst hm; simp
    · rw [if_neg hn, if_neg hm, if_neg (by omega)]
      simp [Nat.add_assoc]
section
variable {P : Program} {t e : TypeId} {α β γ δ : Type} {K : Kd α} {p : α → Prop} {K0 : Kd α} {K1 : Kd β} {K2 : Kd γ} {p0 : α → Prop} {p1 : β → Prop} {p2 : γ → Prop}
theorem imp {q : α → Prop} (h : Opens P t K p) (hq : ∀ x, p x → q x) : Opens P t K q := fun _ _ _ _ _ _ _ _ _ h0 => let ⟨a, ka, pa⟩ := h _ _ _ _ _ _ _ _ _ h0; ⟨a, ka, hq a pa⟩
theorem int {k : IntKind} (ht : P.underlying t = some (.int k)) : Opens P t (Kd.int k) (fun n => (Lit.int k n).wf = true) := by
  intro H enc w base spare held fuel cs x h
  obtain ⟨n, rfl, _, hw⟩ := DataW.trod_int ht h
  exact ⟨n, rfl, hw⟩
theorem bool (ht : P.underlying t = some .bool) : Opens P t Kd.bool (fun _ => True) := by
  intro H enc w base spare held fuel cs x h
  obtain ⟨n, rfl, _⟩ := DataW.trod_bool ht h
  exact ⟨n, rfl, trivial⟩
theorem row {H : Type} {enc : TypeId × Value → H} {w : World} {base : Nat} {spare : Nat → Bool} {held : Bool} {fuel : Nat} {cs : List Value} {x : DataW H × List MemPlace} (ht : P.underlying t = some (.slice e)) (hc : P.cellsOf e = K.sz) (he : Opens P e K p) (h : DataW.trod enc P w base spare held fuel t cs = some x) :
    ∃ A c l, cs = [.slice A l.length c] ∧ l.length ≤ c ∧ K.C w A l.length l ∧ l.length ≤ maxLen ∧ ∀ x ∈ l, p x := by
  rcases DataW.trod_slice ht h with ⟨rfl, _⟩ | ⟨a, len, cap, elems, rest, n, _, rfl, rfl, hb, hl, hm, hlen, hel, hsp, hns⟩
  · exact ⟨none, 0, [], rfl, Nat.le_refl _, ⟨rfl, (show (0 : Nat) ≤ 9223372036854775807 by decide), fun h => absurd h (Nat.lt_irrefl _)⟩, Nat.zero_le _, fun x hx => absurd hx List.not_mem_nil⟩
  · obtain ⟨l, hll, hq⟩ := choose_list (n := len) (Q := fun i v => ∃ c, w.cells? base (a.add (i * K.sz)) K.sz = some c ∧ K.K w v c ∧ p v) (fun i hi => by
      have h1 := hel i hi
      rw [List.getElem?_eq_getElem (by omega), Option.bind_eq_some_iff, hc] at h1
      obtain ⟨c, h2, h3⟩ := h1
      obtain ⟨v, h4, h5⟩ := he _ _ _ _ _ _ _ _ _ h3
      exact ⟨v, c, h2, h4, h5⟩)
    subst hll
    refine ⟨some a, cap, l, rfl, hl, ⟨rfl, by unfold maxLen at hm; omega, fun _ => ⟨a, rfl, fun j v hj => ?_⟩⟩, Nat.le_trans hl hm, fun x hx => ?_⟩
    · obtain ⟨c, h2, h4, _⟩ := hq j v hj
      obtain ⟨_, h6, h7⟩ := World.cells?_some h2
      refine ⟨c, h6, h4, fun i u hu => ?_⟩
      have hi : i < K.sz := by rw [← h6]; exact (List.getElem?_eq_some_iff.1 hu).1
      rw [← add_add, h7 i hi, hu]
    · obtain ⟨i, hi, rfl⟩ := List.getElem_of_mem hx
      obtain ⟨_, _, _, h5⟩ := hq i _ (List.getElem?_eq_getElem hi)
      exact h5
theorem slice (ht : P.underlying t = some (.slice e)) (hc : P.cellsOf e = K.sz) (he : Opens P e K p) : Opens P t (Kd.slice e K) (fun l => l.length ≤ maxLen ∧ ∀ x ∈ l, p x) := by
  intro H enc w base spare held fuel cs x h
  obtain ⟨A, c, l, rfl, h1, h2, h3, h4⟩ := row ht hc he h
  exact ⟨l, ⟨A, c, rfl, h1, h2⟩, h3, h4⟩
theorem struct2 {f0 f1 : Field} (f : δ → α × β) (g : α → β → δ) (hfg : ∀ a b, f (g a b) = (a, b)) (ht : P.underlying t = some (.struct #[f0, f1])) (o0 : f0.offset = 0) (o1 : f1.offset = K0.sz) (c0 : P.cellsOf f0.type = K0.sz) (c1 : P.cellsOf f1.type = K1.sz) (hct : P.cellsOf t = K0.sz + K1.sz)
    (h0 : Opens P f0.type K0 p0) (h1 : Opens P f1.type K1 p1) : Opens P t (Kd.iso (Kd.pair K0 K1) f) (fun x => p0 (f x).1 ∧ p1 (f x).2) := by
  intro H enc w base spare held fuel cs x h
  obtain ⟨y0, y1, n, _, hl, e0, e1⟩ := trod_struct2 ht h
  obtain ⟨a, ka, pa⟩ := h0 _ _ _ _ _ _ _ _ _ e0
  obtain ⟨b, kb, pb⟩ := h1 _ _ _ _ _ _ _ _ _ e1
  rw [o0, c0, List.drop_zero] at ka
  rw [o1, c1, List.take_of_length_le (by rw [List.length_drop, hl, hct]; omega)] at kb
  refine ⟨g a b, ?_, ?_⟩
  · show (Kd.pair K0 K1).K w (f (g a b)) cs
    rw [hfg]
    exact ⟨cs.take K0.sz, cs.drop K0.sz, (List.take_append_drop _ _).symm, ka, kb⟩
  · show p0 (f (g a b)).1 ∧ p1 (f (g a b)).2
    rw [hfg]; exact ⟨pa, pb⟩
theorem arr_len {H : Type} {enc : TypeId × Value → H} {w : World} {base : Nat} {spare : Nat → Bool} {held : Bool} {fuel n : Nat} {cs : List Value} {x : DataW H × List MemPlace} (ht : P.underlying t = some (.array n e)) (h : DataW.trod enc P w base spare held fuel t cs = some x) : cs.length = P.cellsOf t := by
  cases fuel with
  | zero => simp [DataW.trod] at h
  | succ m =>
    unfold DataW.trod at h
    rw [ht] at h
    split at h <;> simp_all
theorem array4 (f : δ → α × (α × (α × α))) (g : α → α → α → α → δ) (hfg : ∀ a b c d, f (g a b c d) = (a, (b, (c, d)))) (ht : P.underlying t = some (.array 4 e)) (hce : P.cellsOf e = 1) (hct : P.cellsOf t = 4)
    (he : Opens P e K p) : Opens P t (Kd.iso (Kd.pair K (Kd.pair K (Kd.pair K K))) f) (fun x => p (f x).1 ∧ (p (f x).2.1 ∧ (p (f x).2.2.1 ∧ p (f x).2.2.2))) := by
  intro H enc w base spare held fuel cs x h
  have hl := arr_len ht h
  rw [hct] at hl
  match cs, hl with
  | [c0, c1, c2, c3], _ =>
    obtain ⟨y0, y1, y2, y3, n, _, e0, e1, e2, e3⟩ := trod_array4 ht hce h
    obtain ⟨a, ka, pa⟩ := he _ _ _ _ _ _ _ _ _ e0
    obtain ⟨b, kb, pb⟩ := he _ _ _ _ _ _ _ _ _ e1
    obtain ⟨c, kc, pc⟩ := he _ _ _ _ _ _ _ _ _ e2
    obtain ⟨d, kd, pd⟩ := he _ _ _ _ _ _ _ _ _ e3
    refine ⟨g a b c d, ?_, ?_⟩
    · show (Kd.pair K (Kd.pair K (Kd.pair K K))).K w (f (g a b c d)) _
      rw [hfg]
      exact ⟨[c0], [c1, c2, c3], rfl, ka, [c1], [c2, c3], rfl, kb, [c2], [c3], rfl, kc, kd⟩
    · show p (f (g a b c d)).1 ∧ (p (f (g a b c d)).2.1 ∧ (p (f (g a b c d)).2.2.1 ∧ p (f (g a b c d)).2.2.2))
      rw [hfg]; exact ⟨pa, pb, pc, pd⟩
variable {H : Type} {enc : TypeId × Value → H} {w : World} {base : Nat} {spare : Nat → Bool} {held : Bool} {r : Reach} {b0 : Nat} {v : Value} {d : DataW H} {ps : List MemPlace}
theorem arg_row (ht : P.underlying t = some (.slice e)) (hc : P.cellsOf e = K.sz) (he : Opens P e K p) (hv : Value.okWide P w r b0 t v) (h : DataW.Trod enc P w base spare held t v d ps) : ∃ A c l, v = .slice A l.length c ∧ l.length ≤ c ∧ K.C w A l.length l ∧ l.length ≤ maxLen ∧ ∀ x ∈ l, p x := by
  obtain ⟨a, len, cap, rfl⟩ := okWide_slice ht hv
  obtain ⟨fuel, hf⟩ := h
  obtain ⟨A, c, l, hcs, h1⟩ := row ht hc he hf
  simp [Value.cells] at hcs
  obtain ⟨rfl, rfl, rfl⟩ := hcs
  exact ⟨_, _, l, rfl, h1⟩
end
end Opens
end Go.Proofs.YtfoickaangjmnaaN
end
