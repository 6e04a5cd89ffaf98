/- OctetNumbers: numbers are told apart by their bytes; of a greater one there are no fewer. -/
import Derived.Test.YtijgeonhbmgikaaOOctetNumbersOct
set_option linter.unusedVariables false
set_option linter.unusedSimpArgs false
namespace Go.Proofs.Ytijgeonhbmgikaa.Pure
open Go.RowKit Go.Proofs.Ytijgeonhbmgikaa.POOctetNumbers Go.Proofs.Ytijgeonhbmgikaa.EOOctetNumbers Go.Proofs.YtijgeonhbmgikaaN Go.Proofs.YtijgeonhbmgikaaW.PrintWords Go.Proofs.YtijgeonhbmgikaaW.PrintLast
theorem OctetNumbers : syzygylaw06_OctetNumbers.Pure := by
  intro a0 a1 h0 h1
  obtain ⟨h0, h0'⟩ := u64_of h0
  obtain ⟨h1, h1'⟩ := u64_of h1
  refine ⟨9, ?_⟩
  have hm : (0 ≤ mn a0 a1 ∧ mn a0 a1 < B) ∧ (0 ≤ mx a0 a1 ∧ mx a0 a1 < B) ∧ mn a0 a1 ≤ mx a0 a1 ∧ (mn a0 a1 = mx a0 a1 ↔ a0 = a1) := by
    unfold mn mx; rw [B_eq] at *; split <;> split <;> omega
  obtain ⟨hn, hx, hle, he⟩ := hm
  have c1 : (((strOfNums (putB (mn a0 a1))).toList == (strOfNums (putB (mx a0 a1))).toList) == (a0 == a1)) = true := by
    rw [put_beq hn hx, beq_iff_eq, Bool.eq_iff_iff, beq_iff_eq, beq_iff_eq]
    exact he
  have hw := wd_mono hx.2 hle
  have hw8 := wd_le hx.2
  have c2 : ((strOfNums (putB (mn a0 a1))).size : Int) ≤ ((strOfNums (putB (mx a0 a1))).size : Int) := by
    rw [strOfNums_size, strOfNums_size, putB_len, putB_len]; omega
  have c3 : ((strOfNums (putB (mx a0 a1))).size : Int) ≤ 9 := by
    rw [strOfNums_size, putB_len]; omega
  unfold syzygylaw06_OctetNumbers.f
  rw [put_eq hn.1 hn.2 (by decide), Option.bind_some, put_eq hx.1 hx.2 (by decide), Option.bind_some, if_pos c1, if_pos c2, if_pos c3, oshown (by decide)]
  rfl
end Go.Proofs.Ytijgeonhbmgikaa.Pure
