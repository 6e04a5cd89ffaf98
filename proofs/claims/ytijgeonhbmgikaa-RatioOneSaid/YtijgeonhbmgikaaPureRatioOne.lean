/- RatioOne: whatever makes a number, it is in lowest terms. -/
import Derived.Test.YtijgeonhbmgikaaORatioOneL
set_option linter.unusedVariables false
set_option linter.unusedSimpArgs false
namespace Go.Proofs.Ytijgeonhbmgikaa.Pure
open Go.RowKit Go.Proofs.Ytijgeonhbmgikaa.PORatioOne Go.Proofs.Ytijgeonhbmgikaa.EORatioOne Go.Proofs.YtijgeonhbmgikaaN Go.Proofs.YtijgeonhbmgikaaW.PrintWords Go.Proofs.YtijgeonhbmgikaaW.PrintLast Go.Proofs.YtijgeonhbmgikaaW.PrintMore
theorem may_ev {q : Rat} {m : Nat} (h : Sm q m) (hm : m ≤ 512) : Ev (fun k => ratio_May.f k (rn q) (rN q) (rD q)) true := Ev.eq (rmay4_ev _ (ok_dg _) (ok_dg _)) (may_rat h hm)
theorem sgn_mul (neg : Bool) (x k : Nat) : sgn neg (x * k) = sgn neg x * k := by
  unfold sgn
  cases neg with
  | true => rw [if_pos rfl, if_pos rfl, Int.natCast_mul, Int.neg_mul]
  | false => rw [if_neg (by decide), if_neg (by decide), Int.natCast_mul]
theorem one_core (neg : Bool) {x y z : Nat} (hx : x < 4294967296) (hy : y < 4294967296) (hz : z < 4294967296) : Ev (fun k => syzygylaw05_RatioOne.f k neg (x : Int) (y : Int) (z : Int)) true := by
  have hxB : (x : Int) < B := by rw [B_eq]; omega
  have hyB : ((y + 1 : Nat) : Int) < B := by rw [B_eq]; omega
  have hzB : ((z + 1 : Nat) : Int) < B := by rw [B_eq]; omega
  have w1 : IntKind.u64.wrap (x : Int) = (x : Int) := wr_id (by omega) hxB
  have w2 : IntKind.u64.wrap (y : Int) = (y : Int) := wr_id (by omega) (by omega)
  have w3 : IntKind.u64.wrap ((y : Int) + 1) = ((y + 1 : Nat) : Int) := by rw [wr_id (by omega) (by omega)]; omega
  have w4 : IntKind.u64.wrap (z : Int) = (z : Int) := wr_id (by omega) (by omega)
  have w5 : IntKind.u64.wrap ((z : Int) + 1) = ((z + 1 : Nat) : Int) := by rw [wr_id (by omega) (by omega)]; omega
  unfold syzygylaw05_RatioOne.f
  rw [w1, w2, w3, w4, w5]
  have ox : Ok [(x : Int)] := Ok.one (by omega) hxB
  have oy : Ok [((y + 1 : Nat) : Int)] := Ok.one (by omega) hyB
  have oz : Ok [((z + 1 : Nat) : Int)] := Ok.one (by omega) hzB
  have m1 := rmul_ev ox oz (by simp) (by simp)
  have m2 := rmul_ev oy oz (by simp) (by simp)
  rw [val_one, val_one, ← Int.natCast_mul] at m1 m2
  refine Ev.bind m1 (Ev.bind m2 ?_)
  have p33 : (4294967296 : Nat) < 2 ^ 33 := by decide
  have x33 : x < 2 ^ 33 := by omega
  have y33 : y + 1 < 2 ^ 33 := by omega
  have z33 : z + 1 < 2 ^ 33 := by omega
  have bx := two512 (pow_add_mul x33 z33) (by decide)
  have by' := two512 (pow_add_mul y33 z33) (by decide)
  have k1 := make_ev neg (ok_dg ((x * (z + 1) : Nat) : Int)) (ok_dg (((y + 1) * (z + 1) : Nat) : Int))
  rw [maked_rat neg bx by' (Nat.mul_ne_zero (by omega) (by omega)) (sgn neg (x * (z + 1))) rfl] at k1
  refine Ev.bind k1 ?_
  have ht := rtrim_ev ox (by simp)
  rw [val_one] at ht
  refine Ev.bind ht ?_
  have k2 := make_ev neg (ok_dg (x : Int)) oy
  rw [one_row (by omega) hyB, maked_rat neg (by have := B8; omega) (by have := B8; omega) (by omega) (sgn neg x) rfl] at k2
  rw [one_row (by omega) hyB]
  have e : mkRat (sgn neg (x * (z + 1))) ((y + 1) * (z + 1)) = mkRat (sgn neg x) (y + 1) := by
    rw [Rat.mkRat_eq_iff (Nat.mul_ne_zero (by omega) (by omega)) (by omega), sgn_mul, Int.natCast_mul, Int.mul_assoc, Int.mul_comm ((z + 1 : Nat) : Int)]
  have s := made_small neg x33 y33
  rw [e]
  have hs := rsame_rat (q := mkRat (sgn neg x) (y + 1)) s (by decide)
  rw [decide_eq_true rfl] at hs
  exact Ev.bind k2 (Ev.pos rfl (Ev.pos rfl (Ev.bind hs (Ev.pos rfl (Ev.bind (may_ev s (by decide)) (Ev.pos rfl (Ev.bind rshown_ev (Ev.now _))))))))
theorem RatioOne : syzygylaw05_RatioOne.Pure := by
  intro neg a1 a2 a3 h1 h2 h3
  refine Ev.rounds ?_
  have b1 : 0 ≤ a1 ∧ a1 < 4294967296 := by simp [Lit.wf, IntKind.min, IntKind.max, IntKind.signed, IntKind.bits] at h1; omega
  have b2 : 0 ≤ a2 ∧ a2 < 4294967296 := by simp [Lit.wf, IntKind.min, IntKind.max, IntKind.signed, IntKind.bits] at h2; omega
  have b3 : 0 ≤ a3 ∧ a3 < 4294967296 := by simp [Lit.wf, IntKind.min, IntKind.max, IntKind.signed, IntKind.bits] at h3; omega
  have h := one_core neg (x := a1.toNat) (y := a2.toNat) (z := a3.toNat) (by omega) (by omega) (by omega)
  rw [Int.toNat_of_nonneg b1.1, Int.toNat_of_nonneg b2.1, Int.toNat_of_nonneg b3.1] at h
  exact h
end Go.Proofs.Ytijgeonhbmgikaa.Pure
