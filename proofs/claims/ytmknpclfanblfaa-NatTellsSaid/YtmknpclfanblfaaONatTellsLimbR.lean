/- Rows with what they are worth and how long they are at most. -/
import Derived.Test.YtmknpclfanblfaaONatTellsLimbB
set_option linter.unusedVariables false
set_option linter.unusedSimpArgs false
namespace Go.Proofs.Ytmknpclfanblfaa.EONatTells
open Go.RowKit Go.Proofs.Ytmknpclfanblfaa.PONatTells Go.Proofs.YtmknpclfanblfaaN Go.Proofs.YtmknpclfanblfaaW.PrintWords Go.Proofs.YtmknpclfanblfaaW.PrintLast Go.Proofs.YtmknpclfanblfaaW.PrintMore
def Row (l : List Int) (x : Int) (n : Nat) : Prop := Ok l ∧ val l = x ∧ l.length ≤ n
theorem Row.of {l : List Int} {n : Nat} (h : Ok l) (hl : l.length ≤ n) : Row l (val l) n := ⟨h, rfl, hl⟩
theorem Row.pos {l : List Int} {x : Int} {n : Nat} (h : Row l x n) : 0 ≤ x := h.2.1 ▸ val_nonneg h.1
theorem Row.lt {l : List Int} {x : Int} {n : Nat} (h : Row l x n) : x < B ^ n := by
  have h1 := val_lt h.1
  have h2 := Bpow_mono h.2.2
  rw [h.2.1] at h1
  omega
theorem Row.dg {x : Int} {n : Nat} (h0 : 0 ≤ x) (h1 : x < B ^ n) : Row (dg x) x n := ⟨ok_dg x, val_dg h0, dg_len h1⟩
theorem Row.same {l : List Int} {x : Int} {n : Nat} (h : Row l x n) : Row (Go.Proofs.YtmknpclfanblfaaN.dg x) x n := Row.dg h.pos h.lt
theorem Row.le {l : List Int} {x : Int} {n m : Nat} (h : Row l x n) (hm : n ≤ m) : Row l x m := ⟨h.1, h.2.1, Nat.le_trans h.2.2 hm⟩
theorem Row.add {a b : List Int} {x y : Int} {n m p : Nat} (ha : Row a x n) (hb : Row b y m) (h1 : n + 1 ≤ p) (h2 : m + 1 ≤ p) : Row (Go.Proofs.YtmknpclfanblfaaN.dg (x + y)) (x + y) p := by
  have p0 := ha.pos
  have p1 := hb.pos
  have l0 := (ha.le (m := p - 1) (by omega)).lt
  have l1 := (hb.le (m := p - 1) (by omega)).lt
  obtain ⟨q, rfl⟩ : ∃ q, p = q + 1 := ⟨p - 1, by omega⟩
  simp only [Nat.add_sub_cancel] at l0 l1
  refine Row.dg (by omega) ?_
  have h6 : B ^ q * 2 ≤ B ^ q * B := Int.mul_le_mul_of_nonneg_left (by decide) (Int.le_of_lt (Bpow_pos q))
  rw [Bpow_succ]
  omega
theorem Row.sub {a b : List Int} {x y : Int} {n m : Nat} (ha : Row a x n) (hb : Row b y m) (h : y ≤ x) : Row (Go.Proofs.YtmknpclfanblfaaN.dg (x - y)) (x - y) n := by
  have p1 := hb.pos
  have l0 := ha.lt
  exact Row.dg (by omega) (by omega)
theorem Row.mul {a b : List Int} {x y : Int} {n m p : Nat} (ha : Row a x n) (hb : Row b y m) (h1 : n + m ≤ p) : Row (Go.Proofs.YtmknpclfanblfaaN.dg (x * y)) (x * y) p := by
  have p0 := ha.pos
  have p1 := hb.pos
  have l0 := ha.lt
  have l1 := hb.lt
  refine Row.dg (Int.mul_nonneg p0 p1) ?_
  have h2 := Bpow_mono h1
  rw [Int.pow_add] at h2
  have h3 := Bpow_pos n
  have h4 := Bpow_pos m
  have h5 : x * y ≤ x * B ^ m := Int.mul_le_mul_of_nonneg_left (by omega) p0
  have h6 : (x + 1) * B ^ m ≤ B ^ n * B ^ m := Int.mul_le_mul_of_nonneg_right (by omega) (by omega)
  rw [Int.add_mul, Int.one_mul] at h6
  omega
theorem Ev.eq {α : Type} {g : Nat → Option α} {r s : α} (h : Ev g r) (e : r = s) : Ev g s := e ▸ h
theorem addR {a b : List Int} {x y : Int} {n m : Nat} (ha : Row a x n) (hb : Row b y m) (h1 : n ≤ 4294967296) (h2 : m ≤ 4294967296) : Ev (fun k => limb_Add.f k a b) (dg (x + y)) := by
  have := add_ev ha.1 hb.1 (Nat.le_trans ha.2.2 h1) (Nat.le_trans hb.2.2 h2)
  rwa [ha.2.1, hb.2.1] at this
theorem cmpR {a b : List Int} {x y : Int} {n m : Nat} (ha : Row a x n) (hb : Row b y m) (h1 : n ≤ 17592186044416) (h2 : m ≤ 17592186044416) : Ev (fun k => limb_Cmp.f k a b) (cmpv x y) := by
  have := cmp_ev ha.1 hb.1 (Nat.le_trans ha.2.2 h1) (Nat.le_trans hb.2.2 h2)
  rwa [ha.2.1, hb.2.1] at this
theorem trimR {a : List Int} {x : Int} {n : Nat} (ha : Row a x n) (h1 : n ≤ 17592186044416) : Ev (fun k => limb_trim.f k a) (dg x) := by
  have := trim_ev ha.1 (Nat.le_trans ha.2.2 h1)
  rwa [ha.2.1] at this
theorem TrimR {a : List Int} {x : Int} {n : Nat} (ha : Row a x n) (h1 : n < 17592186044416) : Ev (fun k => limb_Trim.f k a) (dg x) := by
  have := Trim_ev ha.1 (Nat.lt_of_le_of_lt ha.2.2 h1)
  rwa [ha.2.1] at this
theorem rtrimR {a : List Int} {x : Int} {n : Nat} (ha : Row a x n) (h1 : n < 17592186044416) : Ev (fun k => syzygyref01_Trim.f k a) (dg x) := by
  have := rtrim_ev ha.1 (Nat.lt_of_le_of_lt ha.2.2 h1)
  rwa [ha.2.1] at this
theorem subR {a b : List Int} {x y : Int} {n m : Nat} (ha : Row a x n) (hb : Row b y m) (h1 : n ≤ 4294967296) (h2 : m ≤ 4294967296) : Ev (fun k => limb_Sub.f k a b) (if x < y then ([], false) else (dg (x - y), true)) := by
  have := sub_ev ha.1 hb.1 (Nat.le_trans ha.2.2 h1) (Nat.le_trans hb.2.2 h2)
  rwa [ha.2.1, hb.2.1] at this
theorem subR_yes {a b : List Int} {x y : Int} {n m : Nat} (ha : Row a x n) (hb : Row b y m) (h1 : n ≤ 4294967296) (h2 : m ≤ 4294967296) (h : y ≤ x) : Ev (fun k => limb_Sub.f k a b) (dg (x - y), true) := Ev.eq (subR ha hb h1 h2) (if_neg (by omega))
theorem subR_no {a b : List Int} {x y : Int} {n m : Nat} (ha : Row a x n) (hb : Row b y m) (h1 : n ≤ 4294967296) (h2 : m ≤ 4294967296) (h : x < y) : Ev (fun k => limb_Sub.f k a b) ([], false) := Ev.eq (subR ha hb h1 h2) (if_pos h)
theorem mulR {a b : List Int} {x y : Int} {n m : Nat} (ha : Row a x n) (hb : Row b y m) (h1 : n ≤ 4294967295) (h2 : m ≤ 4294967295) : Ev (fun k => limb_Mul.f k a b) (dg (x * y)) := by
  have := mul_ev ha.1 hb.1 (Nat.le_trans ha.2.2 h1) (Nat.le_trans hb.2.2 h2)
  rwa [ha.2.1, hb.2.1] at this
/-- Two rows that are each the one of its number. -/
theorem sameR {x y : Int} {n : Nat} (h0 : 0 ≤ x) (h1 : 0 ≤ y) (hx : x < B ^ n) (hn : n ≤ 17592186044416) : Ev (fun k => syzygyref01_Same.f k (dg x) (dg y)) (decide (x = y)) :=
  Ev.eq (same_ev _ _ (Nat.le_trans (dg_len hx) hn)) (same_dg h0 h1)
theorem sameT {x y : Int} {n : Nat} (h0 : 0 ≤ x) (hx : x < B ^ n) (hn : n ≤ 17592186044416) (h : x = y) : Ev (fun k => syzygyref01_Same.f k (dg x) (dg y)) true := by
  subst h
  exact Ev.eq (sameR h0 h0 hx hn) (by simp)
end Go.Proofs.Ytmknpclfanblfaa.EONatTells
