/- RatioMakes: what makes a number, a whole number, a sum: the document's, or its error. -/
import Derived.Test.YtijgeonhbmgikaaORatioMakesL
set_option linter.unusedVariables false
set_option linter.unusedSimpArgs false
namespace Go.Proofs.Ytijgeonhbmgikaa.Pure
open Go.RowKit Go.Proofs.Ytijgeonhbmgikaa.PORatioMakes Go.Proofs.Ytijgeonhbmgikaa.EORatioMakes Go.Proofs.YtijgeonhbmgikaaN Go.Proofs.YtijgeonhbmgikaaW.PrintWords Go.Proofs.YtijgeonhbmgikaaW.PrintLast Go.Proofs.YtijgeonhbmgikaaW.PrintMore
theorem jHI {l : List Int} (h : ∀ x ∈ l, (Lit.int .u64 x).wf = true) : Ok l := by
  intro x hx
  have := h x hx
  simp [Lit.wf, IntKind.min, IntKind.max, IntKind.signed, IntKind.bits] at this
  rw [B_eq]; omega
theorem jHP (n : Bool) (a b : List Int) : qA.f n a b = some (decide (20 < a.length ∨ 20 < b.length)) := by
  unfold qA.f
  by_cases h : 20 < a.length
  · rw [if_pos (by omega), decide_eq_true (.inl h)]
  · rw [if_neg (by omega)]
    congr 1
    rw [decide_eq_decide]
    omega
theorem jHK (neg : Bool) {a b : List Int} {n : Int} {l : List S44} (ha : Ok a) (hb : Ok b) (hn0 : -9223372036854775808 ≤ n) (hn1 : n ≤ 9223372036854775807) (hl : l.length ≤ 20) (hs : ∀ q ∈ l, jHe q) : ∀ (d i : Nat), l.length - i = d → i ≤ l.length → Ev (fun k => syzygylaw05_RatioMakes.l0 k neg a b n l (i : Int)) true := by
  intro d
  induction d with
  | zero =>
    intro i hd hi
    obtain ⟨r, s1, s2, r1, r2⟩ := jGk (l := l) (by omega) hs
    have hm := jDp neg ha hb
    have sn : Sm (n : Rat) 64 := Sm.int (by have : (2 : Nat) ^ 64 = 18446744073709551616 := by decide
                                            omega) (by decide)
    have q1 := jFY (n1 := (jBe neg a b).1) (n2 := (jBe neg a b).1) hm.1 hm.2.1 ⟨rfl, rfl, rfl⟩
    have q2 := jFX (q := (n : Rat)) sn (by decide)
    rw [decide_eq_true rfl] at q2
    have q3 := jFY (n1 := r.1) (n2 := r.1) r1 r2 ⟨rfl, rfl, rfl⟩
    refine Ev.step (fun k => by rw [syzygylaw05_RatioMakes.l0]) (Ev.neg (by omega) (Ev.bind (jEL neg ha hb) (Ev.bind (jEg neg ha hb) (Ev.bind s1 (Ev.bind s2 (Ev.bind q1 (Ev.pos rfl (Ev.pos rfl (Ev.vZ (jHi hn0 hn1) (Ev.bind (jFZ hn0 hn1) (Ev.bind q2 (Ev.pos rfl (Ev.bind q3 (Ev.pos rfl (Ev.eq (Ev.now _) ?_)))))))))))))))
    exact beq_self_eq_true _
  | succ d ih =>
    intro i hd hi
    have hil : i < l.length := by omega
    have e : wrap64 ((i : Int) + 1) = ((i + 1 : Nat) : Int) := by rw [w64 (by omega)]; omega
    refine Ev.step (fun k => by rw [syzygylaw05_RatioMakes.l0, e]) (Ev.pos (by omega) (Ev.pos (by omega) (Ev.vZ (jHP _ _ _) ?_)))
    by_cases hv : 20 < (vH l (i : Int)).f1.length ∨ 20 < (vH l (i : Int)).f2.length
    · exact Ev.pos (decide_eq_true hv) (Ev.bind jCK (Ev.now _))
    · exact Ev.neg (fun q => hv (of_decide_eq_true q)) (ih (i + 1) (by omega) (by omega))
theorem RatioMakes : syzygylaw05_RatioMakes.Pure := by
  intro neg a b n l _ ha _ hb hn _ hl
  refine Ev.rounds ?_
  have oa := jHI ha
  have ob := jHI hb
  have bn : -9223372036854775808 ≤ n ∧ n ≤ 9223372036854775807 := by simp [Lit.wf, IntKind.min, IntKind.max, IntKind.signed, IntKind.bits] at hn; omega
  have hs : ∀ q ∈ l, jHe q := fun q hq => ⟨jHI (hl q hq).2.1.2, jHI (hl q hq).2.2.2⟩
  have hsh : ∀ b', b' = true → Ev (fun k => syzygylaw05_RatioMakes.j0 k neg a b n l b') true := fun b' hb' => Ev.step (fun k => by rw [syzygylaw05_RatioMakes.j0]) (Ev.pos hb' (Ev.bind jCK (Ev.now _)))
  unfold syzygylaw05_RatioMakes.f
  by_cases c0 : (a.length : Int) > 20
  · exact Ev.pos c0 (hsh _ rfl)
  · refine Ev.neg c0 ?_
    by_cases c1 : (b.length : Int) > 20
    · exact Ev.pos c1 (hsh _ rfl)
    · refine Ev.neg c1 ?_
      by_cases c2 : (l.length : Int) > 20
      · exact Ev.pos c2 (hsh _ rfl)
      · refine Ev.neg c2 (Ev.bind jCK (Ev.step (fun k => by rw [syzygylaw05_RatioMakes.j0]) (Ev.neg (by decide) ?_)))
        exact jHK neg oa ob bn.1 bn.2 (by omega) hs _ 0 rfl (Nat.zero_le _)
end Go.Proofs.Ytijgeonhbmgikaa.Pure
