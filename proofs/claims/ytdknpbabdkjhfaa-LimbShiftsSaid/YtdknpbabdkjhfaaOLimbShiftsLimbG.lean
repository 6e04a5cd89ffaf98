/- the references' half -/
import Derived.Test.YtdknpbabdkjhfaaOLimbShiftsLimbC
set_option linter.unusedVariables false
set_option linter.unusedSimpArgs false
namespace Go.Proofs.Ytdknpbabdkjhfaa.EOLimbShifts
open Go.RowKit Go.Proofs.Ytdknpbabdkjhfaa.POLimbShifts Go.Proofs.YtdknpbabdkjhfaaN Go.Proofs.YtdknpbabdkjhfaaW.PrintWords Go.Proofs.YtdknpbabdkjhfaaW.PrintLast Go.Proofs.YtdknpbabdkjhfaaW.PrintMore
theorem half_step {a b V : Int} (ha : 0 ≤ a) (hb : 0 ≤ b) (hV : 0 ≤ V) : (a + B * (b + B * V)) / 2 = (a / 2 + b % 2 * 9223372036854775808) + B * ((b + B * V) / 2) := by
  rw [B_eq]
  omega
theorem half_stp {a out : List Int} {i : Nat} (hl : a.length ≤ 4294967296) (hol : out.length = i) (hia : i < a.length) (hx : 0 ≤ a.getD i 0 ∧ a.getD i 0 < B) (hy : 0 ≤ a.getD (i + 1) 0 ∧ a.getD (i + 1) 0 < B) (hn : 0 ≤ a.getD i 0 / 2 + a.getD (i + 1) 0 % 2 * 9223372036854775808 ∧ a.getD i 0 / 2 + a.getD (i + 1) 0 % 2 * 9223372036854775808 < B) (k : Nat) : syzygyref01_half.l0 (k + 1) a out i = syzygyref01_half.l0 k a (out ++ [a.getD i 0 / 2 + a.getD (i + 1) 0 % 2 * 9223372036854775808]) ((i + 1 : Nat) : Int) := by
  have hw : wrap64 ((i : Int) + 1) = ((i + 1 : Nat) : Int) := by rw [w64 (by omega)]; omega
  have b1 : IntKind.u64.wrap (a.getD i 0 / 2) = a.getD i 0 / 2 := u64n (by rw [B_eq] at hx ⊢; omega)
  have b2 : IntKind.u64.wrap (a.getD (i + 1) 0 % 2 * 9223372036854775808) = a.getD (i + 1) 0 % 2 * 9223372036854775808 := u64n (by rw [B_eq]; omega)
  have b3 := u64n hn
  have c0 : (0 : Int) ≤ (i : Int) := by omega
  have c1 : (i : Int) < (a.length : Int) := by omega
  have c2 : (0 : Int) ≤ ((i + 1 : Nat) : Int) := by omega
  have h1 := hx.1
  have h2 := hy.1
  have hz : ¬ i + 1 < a.length → a.getD (i + 1) 0 = 0 := fun h => getD_none (by omega)
  have c4 : out.length < 17592186044416 := by omega
  clear hx hy hn
  simp only [syzygyref01_half.l0, hw, rd_nat, tdiv_pos h1, tmod_pos h2, b1, b2, b3]
  clear b1 b2 b3 h1 h2
  rw [if_pos c1, if_pos c0]
  by_cases h : i + 1 < a.length
  · have c3 : ((i + 1 : Nat) : Int) < (a.length : Int) := by omega
    rw [if_pos c3, if_pos c2, if_pos c4]
  · have c3 : ¬ ((i + 1 : Nat) : Int) < (a.length : Int) := by omega
    rw [if_neg c3, if_pos c4, hz h]
    simp
theorem half_go (a : List Int) (ha : Ok a) (hl : a.length ≤ 4294967296) : ∀ (d : Nat) (out : List Int) (i : Nat), a.length - i = d → i ≤ a.length → Ok out → out.length = i → Ev (fun k => syzygyref01_half.l0 k a out i) (dg (val out + B ^ i * (val (a.drop i) / 2))) := by
  intro d
  induction d with
  | zero =>
    intro out i hd hi ho hol
    have e : a.drop i = [] := List.drop_eq_nil_of_le (by omega)
    refine Ev.step (f := fun k => (syzygyref01_Trim.f k out).bind fun t => some t) (fun k => by simp only [syzygyref01_half.l0]; rw [if_neg (by omega)]) ?_
    rw [e, val_nil]
    simp only [Int.zero_ediv, Int.mul_zero, Int.add_zero]
    exact Ev.bind (rtrim_ev ho (by omega)) (Ev.now _)
  | succ d ih =>
    intro out i hd hi ho hol
    have hia : i < a.length := by omega
    have hx := ha.at i
    have hy := ha.at (i + 1)
    have hV := val_nonneg (ha.drop (i + 2))
    have e1 : val (a.drop (i + 1)) = a.getD (i + 1) 0 + B * val (a.drop (i + 2)) := by
      by_cases h : i + 1 < a.length
      · exact val_drop h
      · have e : a.drop (i + 1) = [] := List.drop_eq_nil_of_le (by omega)
        have e' : a.drop (i + 2) = [] := List.drop_eq_nil_of_le (by omega)
        rw [e, e', getD_none (by omega), val_nil]; simp
    have hs : val (a.drop i) / 2 = (a.getD i 0 / 2 + a.getD (i + 1) 0 % 2 * 9223372036854775808) + B * (val (a.drop (i + 1)) / 2) := by
      rw [val_drop hia, e1]
      exact half_step hx.1 hy.1 hV
    have hn : 0 ≤ a.getD i 0 / 2 + a.getD (i + 1) 0 % 2 * 9223372036854775808 ∧ a.getD i 0 / 2 + a.getD (i + 1) 0 % 2 * 9223372036854775808 < B := by
      rw [B_eq] at *
      omega
    have hv : val out + B ^ i * (val (a.drop i) / 2) = val (out ++ [a.getD i 0 / 2 + a.getD (i + 1) 0 % 2 * 9223372036854775808]) + B ^ (i + 1) * (val (a.drop (i + 1)) / 2) := by
      rw [hs, val_snoc, hol, Bpow_succ]
      generalize a.getD i 0 / 2 + a.getD (i + 1) 0 % 2 * 9223372036854775808 = u
      rw [Int.mul_add, Int.mul_assoc, Int.add_assoc]
    rw [hv]
    refine Ev.step (half_stp hl hol hia hx hy hn) (ih (out ++ [a.getD i 0 / 2 + a.getD (i + 1) 0 % 2 * 9223372036854775808]) (i + 1) (by omega) (by omega) (ho.append (Ok.one hn.1 hn.2)) (by simp [hol]))
theorem half_ev {a : List Int} (ha : Ok a) (hl : a.length ≤ 4294967296) : Ev (fun k => syzygyref01_half.f k a) (dg (val a / 2)) := by
  unfold syzygyref01_half.f
  have := half_go a ha hl _ [] 0 rfl (by omega) Ok.nil rfl
  simpa [val] using this
end Go.Proofs.Ytdknpbabdkjhfaa.EOLimbShifts
