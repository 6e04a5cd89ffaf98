/- RatioSigns: a whole number's sign and size. -/
import Derived.Test.YtijgeonhbmgikaaORatioSignsL
set_option linter.unusedVariables false
set_option linter.unusedSimpArgs false
namespace Go.Proofs.Ytijgeonhbmgikaa.Pure
open Go.RowKit Go.Proofs.Ytijgeonhbmgikaa.PORatioSigns Go.Proofs.Ytijgeonhbmgikaa.EORatioSigns Go.Proofs.YtijgeonhbmgikaaN Go.Proofs.YtijgeonhbmgikaaW.PrintWords Go.Proofs.YtijgeonhbmgikaaW.PrintLast Go.Proofs.YtijgeonhbmgikaaW.PrintMore
theorem jDT (n : Int) : cmpq (n : Rat) ((0 : Int) : Rat) = if n < 0 then -1 else if n = 0 then 0 else 1 := by
  unfold cmpq
  have h1 : ((n : Rat) < ((0 : Int) : Rat)) ↔ n < 0 := Rat.intCast_lt_intCast
  have h2 : ((n : Rat) = ((0 : Int) : Rat)) ↔ n = 0 := Rat.intCast_inj
  simp only [h1, h2]
theorem jFm {q : Rat} {m : Nat} (h : Sm q m) (hm : m ≤ 512) : Ev (fun k => jm.f k (rn q) (rN q) (rD q)) true := Ev.eq (jAr _ (zx _) (zx _)) (jBY h hm)
theorem jEw (n : Int) : jy.f (rn (n : Rat)) (rN (n : Rat)) (rD (n : Rat)) = some (n == 0) := by
  unfold jy.f
  show some (((dg (n.natAbs : Int)).length : Int) == 0) = _
  rw [jBL (by omega)]
  congr 1
  rw [Bool.eq_iff_iff, decide_eq_true_iff, beq_iff_eq]
  omega
theorem jCB {n : Int} (h0 : -9223372036854775808 ≤ n) (h1 : n ≤ 9223372036854775807) {w : Int} (hw : w = if n < 0 then -1 else if n = 0 then 0 else 1) : Ev (fun k => syzygylaw05_RatioSigns.j1 k n w (rn (n : Rat)) (rN (n : Rat)) (rD (n : Rat)) (rn (-(n : Rat))) (rN (-(n : Rat))) (rD (-(n : Rat))) (rn ((0 : Int) : Rat)) (rN ((0 : Int) : Rat)) (rD ((0 : Int) : Rat))) true := by
  have sa : Sm (n : Rat) 65 := Sm.int (Nat.lt_of_le_of_lt (show n.natAbs ≤ 9223372036854775808 by omega) (by decide)) (by decide)
  have sz : Sm ((0 : Int) : Rat) 1 := Sm.int (by decide) (by decide)
  have hc1 := jEV sa sz (by decide)
  have hc2 := jEV sa.neg sz (by decide)
  have l1 := qP (qy sa.1 (by decide))
  have l2 := qP (qy sa.2 (by decide))
  refine Ev.step (fun k => by rw [syzygylaw05_RatioSigns.j1]) (Ev.bind hc1 (Ev.pos ((jDT n).trans hw.symm) (Ev.bind hc2 (Ev.pos ?_ (Ev.vv (jEE sa.neg (by decide)) ?_)))))
  · rw [hw, ← Rat.intCast_neg, jDT]
    by_cases c1 : n < 0
    · rw [if_pos c1, if_neg (by omega), if_neg (by omega), w64 (by omega)]; rfl
    · by_cases c2 : n = 0
      · rw [if_neg c1, if_pos c2, if_neg (by omega), if_pos (by omega), w64 (by omega)]; rfl
      · rw [if_neg c1, if_neg c2, if_pos (by omega), w64 (by omega)]
  · rw [Rat.neg_neg]
    refine Ev.bind (jDr _ l1 l2) (Ev.pos rfl (Ev.bind (jFm sa (by decide)) (Ev.pos rfl (Ev.bind (jFm sa.neg (by decide)) (Ev.pos rfl (Ev.vv (jEw n) (Ev.pos (beq_self_eq_true _) (Ev.bind (jGH h0 h1) ?_))))))))
    exact Ev.bind (jFh l1 l2 ⟨rfl, rfl, rfl⟩) (Ev.pos rfl (Ev.bind jDs (Ev.now _)))
theorem RatioSigns : syzygylaw05_RatioSigns.Pure := by
  intro n hn
  refine Ev.rounds ?_
  have hn' : -9223372036854775808 ≤ n ∧ n ≤ 9223372036854775807 := by simp [Lit.wf, IntKind.min, IntKind.max, IntKind.signed, IntKind.bits] at hn; omega
  obtain ⟨h0, h1⟩ := hn'
  have sa : Sm (n : Rat) 65 := Sm.int (Nat.lt_of_le_of_lt (show n.natAbs ≤ 9223372036854775808 by omega) (by decide)) (by decide)
  unfold syzygylaw05_RatioSigns.f
  refine Ev.vv (jFk h0 h1) (Ev.vv (jEE sa (by decide)) (Ev.vv (jFk (n := 0) (by decide) (by decide)) ?_))
  by_cases c : n > 0
  · refine Ev.pos c (Ev.step (fun k => by rw [syzygylaw05_RatioSigns.j0]) (Ev.neg (by omega) ?_))
    exact jCB h0 h1 (by rw [if_neg (by omega), if_neg (by omega)])
  · refine Ev.neg c (Ev.step (fun k => by rw [syzygylaw05_RatioSigns.j0]) ?_)
    by_cases d : n < 0
    · exact Ev.pos d (jCB h0 h1 (by rw [if_pos d]))
    · exact Ev.neg d (jCB h0 h1 (by rw [if_neg d, if_pos (by omega)]))
end Go.Proofs.Ytijgeonhbmgikaa.Pure
