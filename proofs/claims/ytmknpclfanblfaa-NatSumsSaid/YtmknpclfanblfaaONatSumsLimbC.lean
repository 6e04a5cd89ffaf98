/- What the references on rows of limbs come to, as numbers. -/
import Derived.Test.YtmknpclfanblfaaONatSumsLimbR
import Derived.Test.YtmknpclfanblfaaNumH
set_option linter.unusedVariables false
set_option linter.unusedSimpArgs false
namespace Go.Proofs.Ytmknpclfanblfaa.EONatSums
open Go.RowKit Go.Proofs.Ytmknpclfanblfaa.PONatSums Go.Proofs.YtmknpclfanblfaaN Go.Proofs.YtmknpclfanblfaaW.PrintWords Go.Proofs.YtmknpclfanblfaaW.PrintLast Go.Proofs.YtmknpclfanblfaaW.PrintMore
theorem u64n {x : Int} (h : 0 ≤ x ∧ x < B) : IntKind.u64.wrap x = x := by rw [IntKind.wrap_u64]; rw [B_eq] at h; omega
theorem tmod_pos {x y : Int} (h : 0 ≤ x) : Int.tmod x y = x % y := Int.tmod_eq_emod_of_nonneg h
theorem tdiv_pos {x y : Int} (h : 0 ≤ x) : Int.tdiv x y = x / y := Int.tdiv_eq_ediv_of_nonneg h
end Go.Proofs.Ytmknpclfanblfaa.EONatSums
