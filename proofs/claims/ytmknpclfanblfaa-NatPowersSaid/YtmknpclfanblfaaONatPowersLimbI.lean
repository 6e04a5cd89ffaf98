/- How many bits a row of limbs has: the program's answer and the references'. -/
import Derived.Test.YtmknpclfanblfaaONatPowersLimbR
import Derived.Test.YtmknpclfanblfaaNumT
set_option linter.unusedVariables false
set_option linter.unusedSimpArgs false
namespace Go.Proofs.Ytmknpclfanblfaa.EONatPowers
open Go.RowKit Go.Proofs.Ytmknpclfanblfaa.PONatPowers Go.Proofs.YtmknpclfanblfaaN Go.Proofs.YtmknpclfanblfaaW.PrintWords Go.Proofs.YtmknpclfanblfaaW.PrintLast Go.Proofs.YtmknpclfanblfaaW.PrintMore
theorem bitLen_is : ∀ (n x : Nat), x < 2 ^ n → n ≤ 64 → IsBits (x : Int) (Lib.bitLen x) := by
  intro n
  induction n with
  | zero =>
    intro x h _
    have : x = 0 := by simp at h; omega
    subst this
    exact .inl ⟨rfl, by decide⟩
  | succ n ih =>
    intro x h hn
    by_cases hz : x = 0
    · subst hz
      exact .inl ⟨rfl, by decide⟩
    · have h64 : x < 2 ^ 64 := Nat.lt_of_lt_of_le h (Nat.pow_le_pow_right (by decide) hn)
      rw [Lib.bitLen_half x hz h64, Nat.add_comm]
      have := ih (x / 2) (by rw [Nat.pow_succ] at h; omega) (by omega)
      exact IsBits.up (by omega) (by simpa using this)
theorem bits_ev {a : List Int} (ha : Ok a) (hl : a.length ≤ 4294967296) {n : Nat} (hn : IsBits (val a) n) : Ev (fun k => limb_Bits.f k a) (n : Int) := by
  unfold limb_Bits.f
  have hdl := dg_len_val ha
  have hv := val_nonneg ha
  refine Ev.bind (trim_ev ha (by omega)) ?_
  by_cases h0 : val a = 0
  · rw [h0, dg_zero]
    rw [h0] at hn
    have : n = 0 := hn.uniq (.inl ⟨rfl, rfl⟩)
    subst this
    exact Ev.pos rfl (Ev.now _)
  · have hne : dg (val a) ≠ [] := fun e => h0 ((dg_nil_iff hv).1 e)
    have hlen := List.length_pos_iff.2 hne
    have hw : wrap64 (((dg (val a)).length : Int) - 1) = (((dg (val a)).length - 1 : Nat) : Int) := by rw [w64 (by omega)]; omega
    have hw2 : wrap64 (64 * (((dg (val a)).length - 1 : Nat) : Int)) = ((64 * ((dg (val a)).length - 1) : Nat) : Int) := by rw [w64 (by omega)]; omega
    have ht := (ok_dg (val a)).at ((dg (val a)).length - 1)
    have hb : IsBits ((dg (val a)).getD ((dg (val a)).length - 1) 0) (Lib.bitLen ((dg (val a)).getD ((dg (val a)).length - 1) 0).toNat) := by
      have := bitLen_is 64 ((dg (val a)).getD ((dg (val a)).length - 1) 0).toNat (by rw [B_eq] at ht; omega) (by omega)
      rw [Int.toNat_of_nonneg ht.1] at this
      exact this
    have hu := hn.uniq (hb.top (by omega))
    have h64 : Lib.bitLen ((dg (val a)).getD ((dg (val a)).length - 1) 0).toNat ≤ 64 := Lib.bitLen_le _ 64 (by omega) (by rw [B_eq] at ht; omega)
    simp only [hw, hw2, rd_nat]
    refine Ev.neg (by omega) (Ev.pos (by omega) (Ev.pos (by omega) ?_))
    refine Ev.bind_const (if_pos ht) (Ev.eq (Ev.now _) ?_)
    rw [w64 (by omega), hu]
    omega
end Go.Proofs.Ytmknpclfanblfaa.EONatPowers
