/- What the references on rows of limbs come to, as numbers. -/
import Derived.Test.YtmknpclfanblfaaONatPowersLimbR
import Derived.Test.YtmknpclfanblfaaNumH
set_option linter.unusedVariables false
set_option linter.unusedSimpArgs false
namespace Go.Proofs.Ytmknpclfanblfaa.EONatPowers
open Go.RowKit Go.Proofs.Ytmknpclfanblfaa.PONatPowers Go.Proofs.YtmknpclfanblfaaN Go.Proofs.YtmknpclfanblfaaW.PrintWords Go.Proofs.YtmknpclfanblfaaW.PrintLast Go.Proofs.YtmknpclfanblfaaW.PrintMore
theorem u64n {x : Int} (h : 0 ≤ x ∧ x < B) : IntKind.u64.wrap x = x := by rw [IntKind.wrap_u64]; rw [B_eq] at h; omega
theorem tmod_pos {x y : Int} (h : 0 ≤ x) : Int.tmod x y = x % y := Int.tmod_eq_emod_of_nonneg h
theorem tdiv_pos {x y : Int} (h : 0 ≤ x) : Int.tdiv x y = x / y := Int.tdiv_eq_ediv_of_nonneg h
theorem at_eq (l : List Int) (i : Nat) : syzygyref01_at.f l i = some (l.getD i 0) := by
  unfold syzygyref01_at.f
  by_cases h : i < l.length
  · rw [if_pos (by omega), if_pos (by omega), rd_nat]
  · rw [if_neg (by omega), getD_none (by omega)]
theorem digits_go (a : List Int) (ha : Ok a) (hl : a.length ≤ 4294967296) : ∀ (d : Nat) (out : List Int) (i : Nat), a.length - i = d → i ≤ a.length → out.length = 2 * i → Ev (fun k => syzygyref01_Digits.l0 k a out i) (out ++ halves (a.drop i)) := by
  intro d
  induction d with
  | zero =>
    intro out i hd hi ho
    refine Ev.step (fun k => by simp only [syzygyref01_Digits.l0]; rw [if_neg (by omega)]) (Ev.eq (Ev.now _) ?_)
    rw [List.drop_eq_nil_of_le (by omega), halves, List.append_nil]
  | succ d ih =>
    intro out i hd hi ho
    have hia : i < a.length := by omega
    have hx := ha.at i
    have e1 : IntKind.u64.wrap (Int.tdiv (rd a (i : Int)) 4294967296) = a.getD i 0 / H := by
      rw [rd_nat, tdiv_pos hx.1]
      rw [B_eq] at hx
      exact u64n (by rw [B_eq]; omega)
    have e2 : Int.tmod (rd a (i : Int)) 4294967296 = a.getD i 0 % H := by rw [rd_nat, tmod_pos hx.1]; rfl
    have hs : out ++ halves (a.drop i) = (out ++ [a.getD i 0 % H, a.getD i 0 / H]) ++ halves (a.drop (i + 1)) := by
      rw [List.drop_eq_getElem_cons hia, halves, List.append_assoc]
      rw [show a.getD i 0 = a[i] from by rw [List.getD_eq_getElem?_getD, List.getElem?_eq_getElem hia]; rfl]
      rfl
    rw [hs]
    refine Ev.step (fun k => ?_) (ih (out ++ [a.getD i 0 % H, a.getD i 0 / H]) (i + 1) (by omega) (by omega) (by simp; omega))
    simp only [syzygyref01_Digits.l0, e1, e2]
    rw [if_pos (by omega), if_pos (by omega), some_bind, if_pos (by simp; omega), w64 (by omega), show (i : Int) + 1 = ((i + 1 : Nat) : Int) from by omega]
theorem digits_ev {a : List Int} (ha : Ok a) (hl : a.length ≤ 4294967296) : Ev (fun k => syzygyref01_Digits.f k a) (halves a) := by
  unfold syzygyref01_Digits.f
  have := digits_go a ha hl _ [] 0 rfl (by omega) rfl
  simpa using this
theorem whole_go (d : List Int) (hd : OkH d) (hl : d.length ≤ 17179869184) : ∀ (n : Nat) (out : List Int) (i : Nat), d.length - i ≤ n → Ok out → out.length ≤ i → i ≤ d.length + 1 → Ev (fun k => syzygyref01_Whole.l0 k d out i) (dg (val out + B ^ out.length * hval (d.drop i))) := by
  intro n
  induction n with
  | zero =>
    intro out i hn ho hoi hi
    refine Ev.step (f := fun k => (syzygyref01_Trim.f k out).bind fun t => some t) (fun k => by simp only [syzygyref01_Whole.l0]; rw [if_neg (by omega)]) ?_
    rw [List.drop_eq_nil_of_le (by omega), hval_nil, Int.mul_zero, Int.add_zero]
    exact Ev.bind (rtrim_ev ho (by omega)) (Ev.now _)
  | succ n ih =>
    intro out i hn ho hoi hi
    by_cases hid : i < d.length
    · have h0 := hd.at i
      have h1 := hd.at (i + 1)
      have hwi : wrap64 ((i : Int) + 1) = ((i + 1 : Nat) : Int) := by rw [w64 (by omega)]; omega
      have hwi2 : wrap64 ((i : Int) + 2) = ((i + 2 : Nat) : Int) := by rw [w64 (by omega)]; omega
      have hB : d.getD i 0 + d.getD (i + 1) 0 * 4294967296 < B := by rw [H_eq] at h0 h1; rw [B_eq]; omega
      have hnew : 0 ≤ d.getD i 0 + d.getD (i + 1) 0 * 4294967296 := by omega
      have hv : val out + B ^ out.length * hval (d.drop i) = val (out ++ [d.getD i 0 + d.getD (i + 1) 0 * 4294967296]) + B ^ (out ++ [d.getD i 0 + d.getD (i + 1) 0 * 4294967296]).length * hval (d.drop (i + 2)) := by
        have e : d.getD i 0 + H * (d.getD (i + 1) 0 + H * hval (d.drop (i + 2))) = (d.getD i 0 + d.getD (i + 1) 0 * 4294967296) + B * hval (d.drop (i + 2)) := by
          rw [Int.mul_add, ← Int.mul_assoc, HH, show H * d.getD (i + 1) 0 = d.getD (i + 1) 0 * 4294967296 from Int.mul_comm _ _]
          omega
        rw [hval_drop', hval_drop' d (i + 1), show i + 1 + 1 = i + 2 from rfl, e, val_snoc, List.length_append, List.length_singleton, Bpow_succ]
        generalize d.getD i 0 + d.getD (i + 1) 0 * 4294967296 = u
        rw [Int.mul_add, Int.mul_assoc, Int.add_assoc]
      rw [hv]
      have hok := ho.append (Ok.one hnew hB)
      refine Ev.step (fun k => ?_) (ih (out ++ [d.getD i 0 + d.getD (i + 1) 0 * 4294967296]) (i + 2) (by omega) hok (by simp; omega) (by omega))
      simp only [syzygyref01_Whole.l0, hwi, hwi2]
      rw [if_pos (by omega), if_pos (by omega)]
      by_cases hi1 : i + 1 < d.length
      · rw [if_pos (by omega), if_pos (by omega), if_pos (by omega), rd_nat, rd_nat, u64n (x := d.getD (i + 1) 0 * 4294967296) (by omega), u64n ⟨hnew, hB⟩]
      · rw [if_neg (by omega), if_pos (by omega), rd_nat, getD_none (by omega : d.length ≤ i + 1)]
        simp
    · refine Ev.step (f := fun k => (syzygyref01_Trim.f k out).bind fun t => some t) (fun k => by simp only [syzygyref01_Whole.l0]; rw [if_neg (by omega)]) ?_
      rw [List.drop_eq_nil_of_le (by omega), hval_nil, Int.mul_zero, Int.add_zero]
      exact Ev.bind (rtrim_ev ho (by omega)) (Ev.now _)
theorem whole_ev {d : List Int} (hd : OkH d) (hl : d.length ≤ 17179869184) : Ev (fun k => syzygyref01_Whole.f k d) (dg (hval d)) := by
  unfold syzygyref01_Whole.f
  have := whole_go d hd hl d.length [] 0 (by omega) Ok.nil (by simp) (by omega)
  simpa [val] using this
end Go.Proofs.Ytmknpclfanblfaa.EONatPowers
