/- the references' power of two -/
import Derived.Test.YtdknpbabdkjhfaaOLimbShiftsLimbC
import Derived.Test.YtdknpbabdkjhfaaNumS
set_option linter.unusedVariables false
set_option linter.unusedSimpArgs false
namespace Go.Proofs.Ytdknpbabdkjhfaa.EOLimbShifts
open Go.RowKit Go.Proofs.Ytdknpbabdkjhfaa.POLimbShifts Go.Proofs.YtdknpbabdkjhfaaN Go.Proofs.YtdknpbabdkjhfaaW.PrintWords Go.Proofs.YtdknpbabdkjhfaaW.PrintLast Go.Proofs.YtdknpbabdkjhfaaW.PrintMore
theorem shl_one {r : Nat} (h : r < 64) : shl .u64 1 (r : Int) = 2 ^ r := by
  unfold shl
  have e : min (Int.toNat (r : Int)) IntKind.u64.bits = r := by
    rw [Int.toNat_natCast]
    exact Nat.min_eq_left (by show r ≤ 64; omega)
  rw [e, Int.one_mul]
  have h1 := two_mono (show r ≤ 63 from by omega)
  have h2 := two_pos r
  exact u64n ⟨by omega, by rw [B_two]; exact Int.lt_of_le_of_lt h1 two_lt⟩
theorem power_go (n : Nat) (hn : n ≤ 100000) : ∀ (d i : Nat), n / 64 - i = d → i ≤ n / 64 → Ev (fun k => syzygyref01_power.l0 k n (List.replicate i 0) i) (List.replicate (n / 64) 0 ++ [2 ^ (n % 64)]) := by
  have hq : wrap64 (Int.tdiv (n : Int) 64) = ((n / 64 : Nat) : Int) := by rw [tdiv_pos (by omega), w64 (by omega)]; omega
  have hr : Int.tmod (n : Int) 64 = ((n % 64 : Nat) : Int) := by rw [tmod_pos (by omega)]; omega
  intro d
  induction d with
  | zero =>
    intro i hd hi
    have e : i = n / 64 := by omega
    subst e
    refine Ev.step (fun k => ?_) (Ev.now _)
    simp only [syzygyref01_power.l0, hq, hr]
    rw [if_neg (by omega), if_pos (by omega), if_pos (by simp; omega), shl_one (by omega)]
  | succ d ih =>
    intro i hd hi
    refine Ev.step (fun k => ?_) (ih (i + 1) (by omega) (by omega))
    simp only [syzygyref01_power.l0, hq, hr]
    rw [if_pos (by omega), if_pos (by simp; omega), w64 (by omega), show (i : Int) + 1 = ((i + 1 : Nat) : Int) from by omega, List.replicate_succ']
theorem power_ev (n : Nat) (hn : n ≤ 100000) : Ev (fun k => syzygyref01_power.f k n) (List.replicate (n / 64) 0 ++ [2 ^ (n % 64)]) := by
  unfold syzygyref01_power.f
  exact power_go n hn _ 0 rfl (by omega)
theorem power_row (n : Nat) : Row (List.replicate (n / 64) 0 ++ [(2 : Int) ^ (n % 64)]) (2 ^ n) (n / 64 + 1) := by
  have h1 := two_mono (show n % 64 ≤ 63 from by omega)
  have h2 := two_pos (n % 64)
  have h3 : (2 : Int) ^ 63 < 2 ^ 64 := two_lt
  refine ⟨(Ok.rep _).append (Ok.one (by omega) (by rw [B_two]; omega)), ?_, by simp⟩
  rw [val_snoc, val_rep, List.length_replicate, Bpow_two, ← Int.pow_add, Int.zero_add, show 64 * (n / 64) + n % 64 = n from by omega]
end Go.Proofs.Ytdknpbabdkjhfaa.EOLimbShifts
