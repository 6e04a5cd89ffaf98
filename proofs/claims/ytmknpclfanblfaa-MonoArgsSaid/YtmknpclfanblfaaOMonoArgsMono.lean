/- mono's functions on exponents that may be, as numbers. -/
import Derived.Test.YtmknpclfanblfaaPOMonoArgsx
set_option linter.unusedVariables false
set_option linter.unusedSimpArgs false
namespace Go.Proofs.Ytmknpclfanblfaa.EOMonoArgs
open Go.RowKit Go.Proofs.Ytmknpclfanblfaa.POMonoArgs Go.Proofs.YtmknpclfanblfaaN Go.Proofs.YtmknpclfanblfaaW.PrintWords Go.Proofs.YtmknpclfanblfaaW.PrintLast Go.Proofs.YtmknpclfanblfaaW.PrintMore
theorem some_bind {α β : Type} (a : α) (f : α → Option β) : (some a).bind f = f a := rfl
theorem Ev.pos {α : Type} {c : Prop} [Decidable c] {f g : Nat → Option α} {r : α} (hc : c) (h : Ev f r) : Ev (fun k => if c then f k else g k) r := by
  simp only [if_pos hc]; exact h
theorem Ev.neg {α : Type} {c : Prop} [Decidable c] {f g : Nat → Option α} {r : α} (hc : ¬ c) (h : Ev g r) : Ev (fun k => if c then f k else g k) r := by
  simp only [if_neg hc]; exact h
theorem Ev.const {α : Type} {g : Option α} {r : α} (h : g = some r) : Ev (fun _ => g) r := ⟨0, fun _ _ => h⟩
theorem Ev.bind_const {α β : Type} {g : Option α} {f : Nat → α → Option β} {a : α} {r : β} (h : g = some a) (k : Ev (fun n => f n a) r) : Ev (fun n => g.bind (f n)) r := by
  rw [h]; exact k
theorem Ev.eq {α : Type} {g : Nat → Option α} {r s : α} (h : Ev g r) (e : r = s) : Ev g s := e ▸ h
theorem w64 {x : Int} (h : -4611686018427387904 ≤ x ∧ x ≤ 4611686018427387904) : wrap64 x = x := by unfold wrap64; omega
/-- Exponents from 0 to n. -/
def In4 (n x0 x1 x2 x3 : Int) : Prop := (0 ≤ x0 ∧ x0 ≤ n) ∧ (0 ≤ x1 ∧ x1 ≤ n) ∧ (0 ≤ x2 ∧ x2 ≤ n) ∧ 0 ≤ x3 ∧ x3 ≤ n
theorem bad_eq (n : Int) : bad n = false ↔ 0 ≤ n ∧ n ≤ 40 := by
  unfold bad
  rw [Bool.or_eq_false_iff, decide_eq_false_iff_not, decide_eq_false_iff_not]
  omega
theorem mays_iff {x0 x1 x2 x3 : Int} : mays x0 x1 x2 x3 = true ↔ In4 40 x0 x1 x2 x3 := by
  unfold mays In4
  rw [Bool.not_eq_true', Bool.or_eq_false_iff, Bool.or_eq_false_iff, Bool.or_eq_false_iff, bad_eq, bad_eq, bad_eq, bad_eq]
theorem In4.mays {n x0 x1 x2 x3 : Int} (h : In4 n x0 x1 x2 x3) (hn : n ≤ 40) : mays x0 x1 x2 x3 = true := by
  rw [mays_iff]; unfold In4 at *; omega
theorem In4.le {n m x0 x1 x2 x3 : Int} (h : In4 n x0 x1 x2 x3) (hn : n ≤ m) : In4 m x0 x1 x2 x3 := by unfold In4 at *; omega
/-- What an order goes by: one number. -/
def wt (o x0 x1 x2 x3 : Int) : Int := if o = 0 then 68921 * x0 + 1681 * x1 + 41 * x2 + x3 else if o = 1 then 2825761 * (x0 + x1 + x2 + x3) + (68921 * x0 + 1681 * x1 + 41 * x2 + x3) else 2825761 * (x0 + x1 + x2 + x3) - (68921 * x3 + 1681 * x2 + 41 * x1 + x0)
theorem cmpi_lt {x y : Int} (h : x < y) : cmpi x y = -1 := if_pos h
theorem cmpi_gt {x y : Int} (h : y < x) : cmpi x y = 1 := by unfold cmpi; rw [if_neg (by omega), if_pos h]
theorem cmpi_self (x : Int) : cmpi x x = 0 := by unfold cmpi; rw [if_neg (by omega), if_neg (by omega)]
theorem cmpi_cases (x y : Int) : (cmpi x y = -1 ∧ x < y) ∨ (cmpi x y = 1 ∧ y < x) ∨ (cmpi x y = 0 ∧ x = y) := by
  rcases Int.lt_trichotomy x y with h | h | h
  · exact .inl ⟨cmpi_lt h, h⟩
  · subst h; exact .inr (.inr ⟨cmpi_self x, rfl⟩)
  · exact .inr (.inl ⟨cmpi_gt h, h⟩)
theorem cmpi_add (x y c : Int) : cmpi (x + c) (y + c) = cmpi x y := by
  rcases cmpi_cases x y with ⟨e, h⟩ | ⟨e, h⟩ | ⟨e, h⟩
  · rw [e, cmpi_lt (by omega)]
  · rw [e, cmpi_gt (by omega)]
  · rw [h, cmpi_self, cmpi_self]
theorem dig41 {A B a b : Int} (ha : 0 ≤ a ∧ a ≤ 40) (hb : 0 ≤ b ∧ b ≤ 40) (h : 41 * A + a = 41 * B + b) : A = B ∧ a = b := by omega
theorem n4_inj {x0 x1 x2 x3 y0 y1 y2 y3 : Int} (hx : In4 40 x0 x1 x2 x3) (hy : In4 40 y0 y1 y2 y3) (h : 68921 * x0 + 1681 * x1 + 41 * x2 + x3 = 68921 * y0 + 1681 * y1 + 41 * y2 + y3) : x0 = y0 ∧ x1 = y1 ∧ x2 = y2 ∧ x3 = y3 := by
  obtain ⟨hx0, hx1, hx2, hx3⟩ := hx
  obtain ⟨hy0, hy1, hy2, hy3⟩ := hy
  obtain ⟨h1, e3⟩ := dig41 (A := 1681 * x0 + 41 * x1 + x2) (B := 1681 * y0 + 41 * y1 + y2) hx3 hy3 (by omega)
  obtain ⟨h2, e2⟩ := dig41 (A := 41 * x0 + x1) (B := 41 * y0 + y1) hx2 hy2 (by omega)
  obtain ⟨e0, e1⟩ := dig41 hx1 hy1 h2
  exact ⟨e0, e1, e2, e3⟩
theorem n4_bd {x0 x1 x2 x3 : Int} (hx : In4 40 x0 x1 x2 x3) : 0 ≤ 68921 * x0 + 1681 * x1 + 41 * x2 + x3 ∧ 68921 * x0 + 1681 * x1 + 41 * x2 + x3 < 2825761 := by unfold In4 at hx; omega
theorem In4.rev {n x0 x1 x2 x3 : Int} (h : In4 n x0 x1 x2 x3) : In4 n x3 x2 x1 x0 := ⟨h.2.2.2, h.2.2.1, h.2.1, h.1⟩
theorem top_inj {d e a b : Int} (ha : 0 ≤ a ∧ a < 2825761) (hb : 0 ≤ b ∧ b < 2825761) (h : 2825761 * d + a = 2825761 * e + b) : a = b := by omega
theorem top_inj' {d e a b : Int} (ha : 0 ≤ a ∧ a < 2825761) (hb : 0 ≤ b ∧ b < 2825761) (h : 2825761 * d - a = 2825761 * e - b) : a = b := by omega
theorem lexv_eq {x0 x1 x2 x3 y0 y1 y2 y3 : Int} (hx : In4 40 x0 x1 x2 x3) (hy : In4 40 y0 y1 y2 y3) : lexv x0 x1 x2 x3 y0 y1 y2 y3 = cmpi (68921 * x0 + 1681 * x1 + 41 * x2 + x3) (68921 * y0 + 1681 * y1 + 41 * y2 + y3) := by
  unfold In4 at hx hy
  unfold lexv
  rcases cmpi_cases x0 y0 with ⟨e0, h0⟩ | ⟨e0, h0⟩ | ⟨e0, h0⟩
  · rw [e0, if_neg (by decide), cmpi_lt (by omega)]
  · rw [e0, if_neg (by decide), cmpi_gt (by omega)]
  · rw [e0, if_pos rfl]
    rcases cmpi_cases x1 y1 with ⟨e1, h1⟩ | ⟨e1, h1⟩ | ⟨e1, h1⟩
    · rw [e1, if_neg (by decide), cmpi_lt (by omega)]
    · rw [e1, if_neg (by decide), cmpi_gt (by omega)]
    · rw [e1, if_pos rfl]
      rcases cmpi_cases x2 y2 with ⟨e2, h2⟩ | ⟨e2, h2⟩ | ⟨e2, h2⟩
      · rw [e2, if_neg (by decide), cmpi_lt (by omega)]
      · rw [e2, if_neg (by decide), cmpi_gt (by omega)]
      · rw [e2, if_pos rfl]
        rcases cmpi_cases x3 y3 with ⟨e3, h3⟩ | ⟨e3, h3⟩ | ⟨e3, h3⟩
        · rw [e3, cmpi_lt (by omega)]
        · rw [e3, cmpi_gt (by omega)]
        · subst h0 h1 h2 h3; rw [e3, cmpi_self]
theorem or2_eq {d e a b A B : Int} (ha : 0 ≤ a ∧ a < 2825761) (hb : 0 ≤ b ∧ b < 2825761) (hA : A = 2825761 * d + a) (hB : B = 2825761 * e + b) : or2 (cmpi d e) (cmpi a b) = cmpi A B := by
  unfold or2
  rcases cmpi_cases d e with ⟨e0, h0⟩ | ⟨e0, h0⟩ | ⟨e0, h0⟩
  · rw [e0, if_neg (by decide), cmpi_lt (by omega)]
  · rw [e0, if_neg (by decide), cmpi_gt (by omega)]
  · rw [e0, if_pos rfl]
    rcases cmpi_cases a b with ⟨e1, h1⟩ | ⟨e1, h1⟩ | ⟨e1, h1⟩
    · rw [e1, cmpi_lt (by omega)]
    · rw [e1, cmpi_gt (by omega)]
    · subst h0 h1 hA hB; rw [cmpi_self, cmpi_self]
theorem mcmp_eq {o x0 x1 x2 x3 y0 y1 y2 y3 : Int} (ho : o = 0 ∨ o = 1 ∨ o = 2) (hx : In4 40 x0 x1 x2 x3) (hy : In4 40 y0 y1 y2 y3) : mcmp o x0 x1 x2 x3 y0 y1 y2 y3 = cmpi (wt o x0 x1 x2 x3) (wt o y0 y1 y2 y3) := by
  have mx := hx.mays (Int.le_refl _)
  have my := hy.mays (Int.le_refl _)
  have rx : In4 40 x3 x2 x1 x0 := by unfold In4 at *; omega
  have ry : In4 40 y3 y2 y1 y0 := by unfold In4 at *; omega
  have dx : degv x0 x1 x2 x3 = x0 + x1 + x2 + x3 := if_pos mx
  have dy : degv y0 y1 y2 y3 = y0 + y1 + y2 + y3 := if_pos my
  unfold mcmp wt
  rw [if_pos ⟨mx, my⟩]
  rcases ho with rfl | rfl | rfl
  · rw [if_pos rfl, if_pos rfl, if_pos rfl, lexv_eq hx hy]
  · rw [if_neg (by decide), if_pos rfl, if_neg (by decide), if_pos rfl, if_neg (by decide), if_pos rfl, dx, dy, lexv_eq hx hy]
    unfold In4 at hx hy
    exact or2_eq (by omega) (by omega) rfl rfl
  · rw [if_neg (by decide), if_neg (by decide), if_pos rfl, if_neg (by decide), if_neg (by decide), if_neg (by decide), if_neg (by decide), dx, dy, lexv_eq ry rx]
    unfold In4 at hx hy
    -- what is below from behind is above
    have e : cmpi (68921 * y3 + 1681 * y2 + 41 * y1 + y0) (68921 * x3 + 1681 * x2 + 41 * x1 + x0) = cmpi (2825760 - (68921 * x3 + 1681 * x2 + 41 * x1 + x0)) (2825760 - (68921 * y3 + 1681 * y2 + 41 * y1 + y0)) := by
      rcases cmpi_cases (68921 * y3 + 1681 * y2 + 41 * y1 + y0) (68921 * x3 + 1681 * x2 + 41 * x1 + x0) with ⟨e1, h1⟩ | ⟨e1, h1⟩ | ⟨e1, h1⟩
      · rw [e1, cmpi_lt (by omega)]
      · rw [e1, cmpi_gt (by omega)]
      · rw [h1, cmpi_self, cmpi_self]
    rw [e]
    have e2 : cmpi (2825761 * (x0 + x1 + x2 + x3) - (68921 * x3 + 1681 * x2 + 41 * x1 + x0)) (2825761 * (y0 + y1 + y2 + y3) - (68921 * y3 + 1681 * y2 + 41 * y1 + y0)) = cmpi (2825761 * (x0 + x1 + x2 + x3) + (2825760 - (68921 * x3 + 1681 * x2 + 41 * x1 + x0))) (2825761 * (y0 + y1 + y2 + y3) + (2825760 - (68921 * y3 + 1681 * y2 + 41 * y1 + y0))) := by
      rw [← cmpi_add _ _ 2825760]
      congr 1 <;> omega
    rw [e2]
    exact or2_eq (by omega) (by omega) rfl rfl
theorem wt_inj {o x0 x1 x2 x3 y0 y1 y2 y3 : Int} (hx : In4 40 x0 x1 x2 x3) (hy : In4 40 y0 y1 y2 y3) (h : wt o x0 x1 x2 x3 = wt o y0 y1 y2 y3) : x0 = y0 ∧ x1 = y1 ∧ x2 = y2 ∧ x3 = y3 := by
  unfold wt at h
  by_cases h0 : o = 0
  · rw [if_pos h0, if_pos h0] at h
    exact n4_inj hx hy h
  · rw [if_neg h0, if_neg h0] at h
    by_cases h1 : o = 1
    · rw [if_pos h1, if_pos h1] at h
      exact n4_inj hx hy (top_inj (n4_bd hx) (n4_bd hy) h)
    · rw [if_neg h1, if_neg h1] at h
      obtain ⟨e3, e2, e1, e0⟩ := n4_inj hx.rev hy.rev (top_inj' (n4_bd hx.rev) (n4_bd hy.rev) h)
      exact ⟨e0, e1, e2, e3⟩
theorem wt_pos {o x0 x1 x2 x3 : Int} {n : Int} (hx : In4 n x0 x1 x2 x3) : 0 ≤ wt o x0 x1 x2 x3 := by
  unfold In4 at hx
  unfold wt
  split
  · omega
  · split <;> omega
theorem wt_zero (o : Int) : wt o 0 0 0 0 = 0 := by
  unfold wt
  split
  · rfl
  · split <;> rfl
theorem wt_add (o x0 x1 x2 x3 y0 y1 y2 y3 : Int) : wt o (x0 + y0) (x1 + y1) (x2 + y2) (x3 + y3) = wt o x0 x1 x2 x3 + wt o y0 y1 y2 y3 := by
  unfold wt
  by_cases h0 : o = 0
  · rw [if_pos h0, if_pos h0, if_pos h0]; omega
  · rw [if_neg h0, if_neg h0, if_neg h0]
    by_cases h1 : o = 1
    · rw [if_pos h1, if_pos h1, if_pos h1]; omega
    · rw [if_neg h1, if_neg h1, if_neg h1]; omega
theorem mshown : syzygylaw08_shown.f = some true := by
  have h1 : mono_Cmp.f 0 1 0 0 0 0 9 0 0 = some 1 := by
    unfold mono_Cmp.f
    rw [mcmp_eq (.inl rfl) (by unfold In4; omega) (by unfold In4; omega)]
    rfl
  have h2 : mono_Cmp.f 1 1 0 0 0 0 9 0 0 = some (-1) := by
    unfold mono_Cmp.f
    rw [mcmp_eq (.inr (.inl rfl)) (by unfold In4; omega) (by unfold In4; omega)]
    rfl
  unfold syzygylaw08_shown.f
  rw [h1, some_bind, if_pos rfl, h2]
  rfl
theorem mul_ev {x0 x1 x2 x3 y0 y1 y2 y3 : Int} (hx : In4 40 x0 x1 x2 x3) (hy : In4 40 y0 y1 y2 y3) (hs : In4 40 (x0 + y0) (x1 + y1) (x2 + y2) (x3 + y3)) : Ev (fun k => mono_Mul.f k x0 x1 x2 x3 y0 y1 y2 y3) (x0 + y0, x1 + y1, x2 + y2, x3 + y3, 0) := by
  unfold mono_Mul.f mono_May.f
  refine Ev.bind_const rfl (Ev.pos (hx.mays (Int.le_refl _)) (Ev.bind_const rfl ?_))
  rw [hy.mays (Int.le_refl _)]
  refine Ev.step (fun k => by rw [mono_Mul.j0]) (Ev.neg (by decide) ?_)
  have h := hs
  unfold In4 at h
  unfold mono_zipped_58.f mono_May.f
  rw [w64 (by omega), w64 (by omega), w64 (by omega), w64 (by omega)]
  exact Ev.bind_const rfl (Ev.bind_const rfl (Ev.pos (hs.mays (Int.le_refl _)) (Ev.now _)))
def divd (x0 x1 x2 x3 y0 y1 y2 y3 : Int) : Int × Int × Int × Int × Bool := if y0 ≤ x0 ∧ y1 ≤ x1 ∧ y2 ≤ x2 ∧ y3 ≤ x3 then (x0 - y0, x1 - y1, x2 - y2, x3 - y3, true) else (0, 0, 0, 0, false)
theorem div_ev {x0 x1 x2 x3 y0 y1 y2 y3 : Int} (hx : In4 40 x0 x1 x2 x3) (hy : In4 40 y0 y1 y2 y3) : Ev (fun k => mono_Div.f k x0 x1 x2 x3 y0 y1 y2 y3) (divd x0 x1 x2 x3 y0 y1 y2 y3) := by
  unfold mono_Div.f mono_May.f
  refine Ev.bind_const rfl (Ev.pos (hx.mays (Int.le_refl _)) (Ev.bind_const rfl ?_))
  rw [hy.mays (Int.le_refl _)]
  refine Ev.step (fun k => by rw [mono_Div.j0]) (Ev.neg (by decide) ?_)
  unfold mono_zipped_59.f mono_May.f
  unfold In4 at hx hy
  rw [w64 (by omega), w64 (by omega), w64 (by omega), w64 (by omega)]
  refine Ev.bind_const rfl (Ev.bind_const rfl ?_)
  unfold divd
  by_cases h : y0 ≤ x0 ∧ y1 ≤ x1 ∧ y2 ≤ x2 ∧ y3 ≤ x3
  · rw [if_pos h]
    exact Ev.pos (mays_iff.2 (by unfold In4; simp only; omega)) (Ev.now _)
  · rw [if_neg h]
    exact Ev.neg (fun q => h (by have := mays_iff.1 q; unfold In4 at this; simp only at this; omega)) (Ev.now _)
theorem divd_yes {x0 x1 x2 x3 y0 y1 y2 y3 : Int} (h : y0 ≤ x0 ∧ y1 ≤ x1 ∧ y2 ≤ x2 ∧ y3 ≤ x3) : divd x0 x1 x2 x3 y0 y1 y2 y3 = (x0 - y0, x1 - y1, x2 - y2, x3 - y3, true) := if_pos h
theorem divd_is (x0 x1 x2 x3 y0 y1 y2 y3 : Int) : (divd x0 x1 x2 x3 y0 y1 y2 y3).2.2.2.2 = decide (y0 ≤ x0 ∧ y1 ≤ x1 ∧ y2 ≤ x2 ∧ y3 ≤ x3) := by
  unfold divd
  split
  · next h => rw [decide_eq_true h]
  · next h => rw [decide_eq_false h]
theorem mx_eq (x y : Int) : mx x y = if x < y then y else x := rfl
theorem mn_eq (x y : Int) : mn x y = if y < x then y else x := rfl
theorem mx_self (x : Int) : mx x x = x := by unfold mx; split <;> rfl
theorem mx_comm (x y : Int) : mx x y = mx y x := by unfold mx; split <;> split <;> omega
theorem mx_le (x y : Int) : x ≤ mx x y ∧ y ≤ mx x y := by unfold mx; split <;> omega
theorem mx_bd {x y n : Int} (hx : 0 ≤ x ∧ x ≤ n) (hy : 0 ≤ y ∧ y ≤ n) : 0 ≤ mx x y ∧ mx x y ≤ n := by unfold mx; split <;> omega
theorem mx_right (x y : Int) : mx x y = y ↔ x ≤ y := by unfold mx; split <;> omega
theorem lcm_eq {x0 x1 x2 x3 y0 y1 y2 y3 : Int} (hx : In4 40 x0 x1 x2 x3) (hy : In4 40 y0 y1 y2 y3) : mono_Lcm.f x0 x1 x2 x3 y0 y1 y2 y3 = some (mx x0 y0, mx x1 y1, mx x2 y2, mx x3 y3) := by
  unfold mono_Lcm.f mono_May.f
  rw [some_bind, if_pos (hx.mays (Int.le_refl _)), some_bind, if_pos (hy.mays (Int.le_refl _))]
  rfl
theorem lcm_in {n x0 x1 x2 x3 y0 y1 y2 y3 : Int} (hx : In4 n x0 x1 x2 x3) (hy : In4 n y0 y1 y2 y3) : In4 n (mx x0 y0) (mx x1 y1) (mx x2 y2) (mx x3 y3) :=
  ⟨mx_bd hx.1 hy.1, mx_bd hx.2.1 hy.2.1, mx_bd hx.2.2.1 hy.2.2.1, mx_bd hx.2.2.2 hy.2.2.2⟩
theorem cop_eq {x0 x1 x2 x3 y0 y1 y2 y3 : Int} (hx : In4 40 x0 x1 x2 x3) (hy : In4 40 y0 y1 y2 y3) : mono_Coprime.f x0 x1 x2 x3 y0 y1 y2 y3 = some (mn x0 y0 == 0 && (mn x1 y1 == 0 && (mn x2 y2 == 0 && (mn x3 y3 == 0)))) := by
  unfold mono_Coprime.f mono_May.f
  rw [some_bind, if_pos (hx.mays (Int.le_refl _)), some_bind, if_pos (hy.mays (Int.le_refl _))]
  rfl
theorem mn_zero {x y : Int} (hx : 0 ≤ x) (hy : 0 ≤ y) : (mn x y == 0) = (mx x y == x + y) := by
  unfold mx mn
  rw [Bool.eq_iff_iff, beq_iff_eq, beq_iff_eq]
  split <;> split <;> omega
end Go.Proofs.Ytmknpclfanblfaa.EOMonoArgs
