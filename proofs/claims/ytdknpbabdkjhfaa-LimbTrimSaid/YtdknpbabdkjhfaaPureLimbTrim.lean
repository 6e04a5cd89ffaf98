/- LimbTrim: zeros on top change nothing. -/
import Derived.Test.YtdknpbabdkjhfaaOLimbTrimLimbE
import Derived.Test.YtdknpbabdkjhfaaOLimbTrimLimbI
set_option linter.unusedVariables false
set_option linter.unusedSimpArgs false
namespace Go.Proofs.Ytdknpbabdkjhfaa.Pure
open Go.RowKit Go.Proofs.Ytdknpbabdkjhfaa.POLimbTrim Go.Proofs.Ytdknpbabdkjhfaa.EOLimbTrim Go.Proofs.YtdknpbabdkjhfaaN Go.Proofs.YtdknpbabdkjhfaaW.PrintWords Go.Proofs.YtdknpbabdkjhfaaW.PrintLast

theorem val_zeros (l : List Int) (n : Nat) : val (l ++ List.replicate n 0) = val l := by
  rw [val_append, val_rep, Int.mul_zero, Int.add_zero]
theorem trim_core {l0 l1 : List Int} {a : Int} (h0 : Ok l0) (h1 : Ok l1) (n0 : l0.length ≤ 30) (n1 : l1.length ≤ 30) (ha : 0 ≤ a ∧ a ≤ 255) : Ev (fun k => syzygylaw01_LimbTrim.j0 k l0 l1 a false) true := by
  have hp : Int.tmod (wrap64 a) 10 = ((a.toNat % 10 : Nat) : Int) := by rw [w64 (by omega), Int.tmod_eq_emod_of_nonneg ha.1]; omega
  have hp2 : a.toNat % 10 ≤ 9 := by omega
  refine Ev.step (fun k => by rw [syzygylaw01_LimbTrim.j0]) (Ev.neg (by simp) ?_)
  rw [hp]
  generalize a.toNat % 10 = p at *
  have hv := val_nonneg h0
  have r0 := Row.of h0 n0
  have r1 := Row.of h1 n1
  have hy : Ok (l0 ++ List.replicate p 0) := h0.append (Ok.rep p)
  have hyl : (l0 ++ List.replicate p 0).length ≤ 39 := by simp; omega
  have ry : Row (l0 ++ List.replicate p 0) (val l0) 39 := ⟨hy, val_zeros _ _, hyl⟩
  have s := r0.add r1 (p := 31) (by omega) (by omega)
  have m := r1.mul r0 (p := 60) (by omega)
  obtain ⟨n, hn, hb⟩ := IsBits.ex (n := 64 * 30) hv (by rw [← Bpow_two]; exact Int.lt_of_lt_of_le (val_lt h0) (Bpow_mono n0))
  have hby : IsBits (val (l0 ++ List.replicate p 0)) n := by rw [val_zeros]; exact hb
  have hsh : Ev (fun k => limb_Shift.f k (l0 ++ List.replicate p 0) 5) (dg (val l0 * 2 ^ 5)) := by
    have := shift_pos hy (by omega) (n := 5) (by decide)
    rw [val_zeros] at this
    exact this
  have hsh0 : Ev (fun k => limb_Shift.f k l0 5) (dg (val l0 * 2 ^ 5)) := shift_pos h0 (by omega) (n := 5) (by decide)
  have hs5 : 0 ≤ val l0 * 2 ^ 5 ∧ val l0 * 2 ^ 5 < B ^ 31 := by
    refine ⟨by omega, ?_⟩
    have := r0.lt
    have hB := Bpow_pos 30
    rw [show 31 = 30 + 1 from rfl, Bpow_succ, B_eq] at *
    generalize B ^ 30 = z at *
    omega
  have hcmp := cmpv_self (val l0)
  have tail : Ev (fun k => (limb_Add.f k (l0 ++ List.replicate p 0) l1).bind fun t590 => ((limb_Add.f k l0 l1).bind fun t593 => ((syzygyref01_Same.f k t590 t593).bind fun t596 => (if t596 = true then ((limb_Mul.f k l1 (l0 ++ List.replicate p 0)).bind fun t597 => ((limb_Mul.f k l1 l0).bind fun t600 => ((syzygyref01_Same.f k t597 t600).bind fun t603 => (if t603 = true then ((limb_Cmp.f k l0 (l0 ++ List.replicate p 0)).bind fun t604 => (if t604 = 0 then ((limb_Bits.f k l0).bind fun t605 => ((limb_Bits.f k (l0 ++ List.replicate p 0)).bind fun t606 => (if t605 = t606 then ((limb_Shift.f k (l0 ++ List.replicate p 0) 5).bind fun t607 => ((limb_Shift.f k l0 5).bind fun t610 => ((syzygyref01_Same.f k t607 t610).bind fun t613 => (some t613)))) else (some false)))) else (some false))) else (some false))))) else (some false))))) true :=
    Ev.bind (addR ry r1 (by omega) (by omega)) (Ev.bind (addR r0 r1 (by omega) (by omega)) (Ev.bind (sameT (n := 31) s.pos s.lt (by omega) rfl) (Ev.pos rfl (Ev.bind (mulR r1 ry (by omega) (by omega)) (Ev.bind (mulR r1 r0 (by omega) (by omega)) (Ev.bind (sameT (n := 60) m.pos m.lt (by omega) rfl) (Ev.pos rfl (Ev.bind (cmpR r0 ry (by omega) (by omega)) (Ev.pos hcmp (Ev.bind (bits_ev h0 (by omega) hb) (Ev.bind (bits_ev hy (by omega) hby) (Ev.pos rfl (Ev.bind hsh (Ev.bind hsh0 (Ev.bind (sameT (n := 31) hs5.1 hs5.2 (by omega) rfl) (Ev.now _))))))))))))))))
  simp only [some_bind, List.nil_append, Int.toNat_natCast]
  refine Ev.pos (by simp; omega) (Ev.pos (by omega) (Ev.pos (by omega) (Ev.bind (TrimR ry (by omega)) (Ev.bind (TrimR r0 (by omega)) (Ev.bind (sameT (n := 30) hv r0.lt (by omega) rfl) (Ev.pos rfl ?_))))))
  by_cases hz : ((dg (val l0)).length : Int) = 0
  · exact Ev.pos hz tail
  · have hdl := dg_len_val h0
    have hw : wrap64 (((dg (val l0)).length : Int) - 1) = (((dg (val l0)).length - 1 : Nat) : Int) := by rw [w64 (by omega)]; omega
    simp only [hw, rd_nat]
    have hne : dg (val l0) ≠ [] := fun e => hz (by rw [e]; rfl)
    exact Ev.neg hz (Ev.pos (by omega) (Ev.pos (by omega) (Ev.neg ((dg_last _).resolve_left hne) tail)))
theorem trim_shown (l0 l1 : List Int) (a : Int) : Ev (fun k => syzygylaw01_LimbTrim.j0 k l0 l1 a true) true :=
  Ev.step (fun k => by rw [syzygylaw01_LimbTrim.j0]) (Ev.pos rfl (Ev.bind shown_ev (Ev.now _)))
theorem u8_of_wf {a : Int} (h : (Lit.int .u8 a).wf = true) : 0 ≤ a ∧ a ≤ 255 := by
  simp [Lit.wf, IntKind.min, IntKind.max, IntKind.signed, IntKind.bits] at h
  omega
theorem LimbTrim : syzygylaw01_LimbTrim.Pure := by
  intro l0 l1 a _ _ h0 _ _ h1 ha
  refine Ev.rounds ?_
  unfold syzygylaw01_LimbTrim.f
  refine Ev.bind_const (heavy_eq _ _) ?_
  by_cases c1 : 30 < l0.length ∨ 30 < l1.length
  · exact Ev.pos (decide_eq_true c1) (trim_shown ..)
  · refine Ev.neg (by simpa using c1) (Ev.bind shown_ev ?_)
    exact trim_core (ok_of_wf h0) (ok_of_wf h1) (by omega) (by omega) (u8_of_wf ha)
end Go.Proofs.Ytdknpbabdkjhfaa.Pure
