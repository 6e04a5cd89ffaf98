/- RatioOrder: just one of below, the same and above; sums and products keep the order. -/
import Derived.Test.YtijgeonhbmgikaaORatioOrderL
set_option linter.unusedVariables false
set_option linter.unusedSimpArgs false
namespace Go.Proofs.Ytijgeonhbmgikaa.Pure
open Go.RowKit Go.Proofs.Ytijgeonhbmgikaa.PORatioOrder Go.Proofs.Ytijgeonhbmgikaa.EORatioOrder Go.Proofs.YtijgeonhbmgikaaN Go.Proofs.YtijgeonhbmgikaaW.PrintWords Go.Proofs.YtijgeonhbmgikaaW.PrintLast Go.Proofs.YtijgeonhbmgikaaW.PrintMore
theorem jAk {p q : Rat} (h : p < q) : cmpq p q = -1 := if_pos h
theorem jAL (p : Rat) : cmpq p p = 0 := by
  unfold cmpq
  rw [if_neg Rat.lt_irrefl, if_pos rfl]
theorem jAl {p q : Rat} (h : q < p) : cmpq p q = 1 := by
  unfold cmpq
  rw [if_neg (Rat.not_lt.2 (Rat.le_of_lt h)), if_neg (fun e => Rat.ne_of_lt h e.symm)]
theorem tri (p q : Rat) : p < q ∨ p = q ∨ q < p := by
  by_cases h1 : p < q
  · exact .inl h1
  · by_cases h2 : p = q
    · exact .inr (.inl h2)
    · exact .inr (.inr (Rat.lt_of_le_of_ne (Rat.not_lt.1 h1) (fun e => h2 e.symm)))
theorem jDs (p q : Rat) : cmpq q p = - cmpq p q := by
  rcases tri p q with h | h | h
  · rw [jAk h, jAl h]; rfl
  · subst h; rw [jAL]; rfl
  · rw [jAl h, jAk h]
theorem jHP (p q : Rat) : (cmpq p q == 0) = decide (p = q) := by
  rcases tri p q with h | h | h
  · rw [jAk h, decide_eq_false (Rat.ne_of_lt h)]; rfl
  · subst h; rw [jAL, decide_eq_true rfl]; rfl
  · rw [jAl h, decide_eq_false (fun e => Rat.ne_of_lt h e.symm)]; rfl
theorem jCr (p q : Rat) : cmpq p q = -1 ∨ cmpq p q = 0 ∨ cmpq p q = 1 := by
  rcases tri p q with h | h | h
  · exact .inl (jAk h)
  · subst h; exact .inr (.inl (jAL p))
  · exact .inr (.inr (jAl h))
theorem jHQ (p q c : Rat) : cmpq (p + c) (q + c) = cmpq p q := by
  rcases tri p q with h | h | h
  · rw [jAk h, jAk (Rat.add_lt_add_right.2 h)]
  · subst h; rw [jAL, jAL]
  · rw [jAl h, jAl (Rat.add_lt_add_right.2 h)]
theorem jBv (p q : Rat) {c : Rat} (hc : 0 < c) : cmpq (p * c) (q * c) = cmpq p q := by
  rcases tri p q with h | h | h
  · rw [jAk h, jAk ((Rat.mul_lt_mul_right hc).2 h)]
  · subst h; rw [jAL, jAL]
  · rw [jAl h, jAl ((Rat.mul_lt_mul_right hc).2 h)]
theorem jHN (p q : Rat) : cmpq (-p) (-q) = cmpq q p := by
  rcases tri p q with h | h | h
  · rw [jAl h, jAl (Rat.neg_lt_neg h)]
  · subst h; rw [jAL, jAL]
  · rw [jAk h, jAk (Rat.neg_lt_neg h)]
theorem jHO (p q c : Rat) : cmpq (p * c) (q * c) = cmpq p q * cmpq c 0 := by
  rcases tri c 0 with h | h | h
  · have hc : 0 < -c := by have := Rat.neg_lt_neg h; rwa [Rat.neg_zero] at this
    have e : ∀ x : Rat, x * c = -(x * -c) := fun x => by rw [Rat.mul_neg, Rat.neg_neg]
    rw [e p, e q, jHN, jBv _ _ hc, jAk h, jDs p q]
    omega
  · subst h; rw [Rat.mul_zero, Rat.mul_zero, jAL]; omega
  · rw [jBv _ _ h, jAl h]; omega
theorem jFJ (s0 s1 s2 : Bool) {x0 x1 x2 y0 y1 y2 : Nat} (hx0 : x0 < 4294967296) (hx1 : x1 < 4294967296) (hx2 : x2 < 4294967296) (hy0 : y0 < 4294967296) (hy1 : y1 < 4294967296) (hy2 : y2 < 4294967296) : Ev (fun k => syzygylaw05_RatioOrder.f k s0 s1 s2 (x0 : Int) (x1 : Int) (x2 : Int) (y0 : Int) (y1 : Int) (y2 : Int)) true := by
  have p33 : (4294967296 : Nat) < 2 ^ 33 := by decide
  have hp := jDF s0 hx0 hy0
  have sp := jBn (m := 33) s0 (x := x0) (y := y0) (by omega) (by omega)
  have hq := jDF s1 hx1 hy1
  have sq := jBn (m := 33) s1 (x := x1) (y := y1) (by omega) (by omega)
  have hr := jDF s2 hx2 hy2
  have sr := jBn (m := 33) s2 (x := x2) (y := y2) (by omega) (by omega)
  generalize mkRat (sgn s0 x0) (y0 + 1) = p at hp sp
  generalize mkRat (sgn s1 x1) (y1 + 1) = q at hq sq
  generalize mkRat (sgn s2 x2) (y2 + 1) = r at hr sr
  have sz : Sm ((0 : Int) : Rat) 8 := Sm.int (by decide) (by decide)
  have k3 := jCr p q
  have kr3 := jCr r ((0 : Int) : Rat)
  unfold syzygylaw05_RatioOrder.f
  refine Ev.bind hp (Ev.bind hq (Ev.bind hr (Ev.bind (jEO sp sr (by decide)) (Ev.bind (jEO sq sr (by decide)) (Ev.bind (jFq sp sr (by decide)) (Ev.bind (jFq sq sr (by decide)) (Ev.bind (jCX sp sq (by decide)) (Ev.zK (jIz (n := 0) (by decide) (by decide)) (Ev.bind (jCX sr sz (by decide)) (Ev.pos rfl (Ev.pos rfl (Ev.pos rfl (Ev.pos rfl (Ev.bind (jCX sq sp (by decide)) (Ev.pos ?_ (Ev.bind (jFY (q := q) sp (by decide)) (Ev.pos ?_ (Ev.bind (jCX (sp.add sr) (sq.add sr) (by decide)) (Ev.pos ?_ (Ev.bind (jCX (sp.mul sr) (sq.mul sr) (by decide)) (Ev.pos ?_ (Ev.bind jFX (Ev.now _)))))))))))))))))))))))
  · have h := jDs p q
    rw [h]
    have e : wrap64 (- - cmpq p q) = - - cmpq p q := w64 (by omega)
    rw [e]; omega
  · rw [jHP]; exact beq_self_eq_true _
  · exact jHQ p q r
  · have h := jHO p q r
    have b : -1 ≤ cmpq p q * cmpq r ((0 : Int) : Rat) ∧ cmpq p q * cmpq r ((0 : Int) : Rat) ≤ 1 := by
      rcases k3 with e | e | e <;> rcases kr3 with e2 | e2 | e2 <;> rw [e, e2] <;> decide
    rw [w64 (by omega)]
    exact h
theorem RatioOrder : syzygylaw05_RatioOrder.Pure := by
  intro s0 s1 s2 x0 x1 x2 y0 y1 y2 h
  refine Ev.rounds ?_
  obtain ⟨_, ⟨h0, h1, h2⟩, ⟨h3, h4, h5⟩⟩ := h
  have u32 : ∀ {x : Int}, (Lit.int .u32 x).wf = true → 0 ≤ x ∧ x < 4294967296 := by
    intro x hx
    simp [Lit.wf, IntKind.min, IntKind.max, IntKind.signed, IntKind.bits] at hx; omega
  have b0 := u32 h0
  have b1 := u32 h1
  have b2 := u32 h2
  have b3 := u32 h3
  have b4 := u32 h4
  have b5 := u32 h5
  dsimp only at b0 b1 b2 b3 b4 b5
  have h := jFJ s0 s1 s2 (x0 := x0.toNat) (x1 := x1.toNat) (x2 := x2.toNat) (y0 := y0.toNat) (y1 := y1.toNat) (y2 := y2.toNat) (by omega) (by omega) (by omega) (by omega) (by omega) (by omega)
  rw [Int.toNat_of_nonneg b0.1, Int.toNat_of_nonneg b1.1, Int.toNat_of_nonneg b2.1, Int.toNat_of_nonneg b3.1, Int.toNat_of_nonneg b4.1, Int.toNat_of_nonneg b5.1] at h
  exact h
end Go.Proofs.Ytijgeonhbmgikaa.Pure
