/- RatioField: numbers make a field. -/
import Derived.Test.YtijgeonhbmgikaaORatioFieldL
set_option linter.unusedVariables false
set_option linter.unusedSimpArgs false
namespace Go.Proofs.Ytijgeonhbmgikaa.Pure
open Go.RowKit Go.Proofs.Ytijgeonhbmgikaa.PORatioField Go.Proofs.Ytijgeonhbmgikaa.EORatioField Go.Proofs.YtijgeonhbmgikaaN Go.Proofs.YtijgeonhbmgikaaW.PrintWords Go.Proofs.YtijgeonhbmgikaaW.PrintLast Go.Proofs.YtijgeonhbmgikaaW.PrintMore
/-- From some number of rounds on. -/
def Al (P : Nat → Prop) : Prop := ∃ K, ∀ k, K ≤ k → P k
theorem Al.and {P Q : Nat → Prop} (h1 : Al P) (h2 : Al Q) : Al (fun k => P k ∧ Q k) := by
  obtain ⟨K, h1⟩ := h1
  obtain ⟨L, h2⟩ := h2
  exact ⟨K + L, fun k hk => ⟨h1 k (by omega), h2 k (by omega)⟩⟩
theorem Al.of {P : Nat → Prop} {Q : Prop} (h1 : Al P) (h : ∀ k, P k → Q) : Q := by
  obtain ⟨K, h1⟩ := h1
  exact h K (h1 K (Nat.le_refl _))
theorem Al.ev {α : Type} {f : Nat → Option α} {r : α} (h : Ev f r) : Al (fun k => f k = some r) := h
def T (q : Rat) : Bool × List Int × List Int := (rn q, rN q, rD q)
theorem jER (neg : Bool) {x y : Nat} (hx : x < 4294967296) (hy : y < 4294967296) : Al (fun k => jEG k neg (x : Int) (y : Int) (T (mkRat (sgn neg x) (y + 1)))) := Al.ev (jHR neg hx hy)
theorem jCg {p q : Rat} {m n : Nat} (hp : Sm p m) (hq : Sm q n) (h : m + n + 1 ≤ 512) : Al (fun k => jDg k (T p) (T q) (T (p + q))) := Al.ev (Ev.bind (jGe hp hq h) (Ev.now _))
theorem jBk {p q : Rat} {m n : Nat} (hp : Sm p m) (hq : Sm q n) (h : m + n ≤ 512) : Al (fun k => jCk k (T p) (T q) (T (p * q))) := Al.ev (Ev.bind (jIf hp hq h) (Ev.now _))
theorem jBK {p q : Rat} {m : Nat} (hp : Sm p m) (h : m ≤ 512) (e : p = q) : Al (fun k => jBZ k (T p) (T q)) := Al.ev (Ev.eq (jFj hp h) (decide_eq_true e))
theorem jDG (q : Rat) : zF.f (rn q) (rN q) (rD q) = some (decide (q.num = 0)) := by
  unfold zF.f rN
  rw [jCI (by omega)]
  congr 1
  rw [decide_eq_decide]
  omega
/-- One over a number. -/
def iv (p : Rat) : Rat := mkRat (sgn (rn p) p.den) p.num.natAbs
theorem jEu {p : Rat} (h : p.num ≠ 0) : T (iv p) = (rn p, rD p, rN p) ∧ p * iv p = ((1 : Int) : Rat) := by
  have hd : p.num.natAbs ≠ 0 := by omega
  have hg : Nat.gcd (sgn (rn p) p.den).natAbs p.num.natAbs = 1 := by rw [jDM, Nat.gcd_comm]; exact p.reduced
  have e1 := jBX (n := sgn (rn p) p.den) hd
  have e2 := jHs (n := sgn (rn p) p.den) hd
  have hp0 := p.den_nz
  rw [hg] at e1
  have e3 : (iv p).num = sgn (rn p) p.den := e1.1.trans (Int.ediv_one _)
  have e4 : (iv p).den = p.num.natAbs := e1.2.trans (Nat.div_one _)
  have hs : sgn (rn p) p.den = if p.num < 0 then -(p.den : Int) else (p.den : Int) := by unfold sgn rn; simp
  constructor
  · unfold T
    have a1 : rn (iv p) = rn p := by
      unfold iv
      rw [e2, hs]
      unfold rn
      rw [decide_eq_decide]
      by_cases c : p.num < 0
      · rw [if_pos c]; omega
      · rw [if_neg c]; omega
    have a2 : rN (iv p) = rD p := by unfold rN rD; rw [e3, jDM]
    have a3 : rD (iv p) = rN p := by unfold rN rD; rw [e4]
    rw [a1, a2, a3]
  · rw [jGB, e3, e4, hs]
    have : p.num * (if p.num < 0 then -(p.den : Int) else (p.den : Int)) = ((p.den * p.num.natAbs : Nat) : Int) := by
      rw [Int.natCast_mul]
      by_cases c : p.num < 0
      · rw [if_pos c, show ((p.num.natAbs : Nat) : Int) = -p.num from by omega, Int.mul_neg, Int.mul_neg, Int.mul_comm]
      · rw [if_neg c, show ((p.num.natAbs : Nat) : Int) = p.num from by omega, Int.mul_comm]
    rw [this]
    have hm : p.den * p.num.natAbs ≠ 0 := Nat.mul_ne_zero hp0 hd
    generalize p.den * p.num.natAbs = M at hm
    have e1 : ((1 : Int) : Rat) = mkRat 1 1 := by decide
    rw [e1, Rat.mkRat_eq_iff hm (by decide)]
    simp
theorem inv_zero {p : Rat} {m : Nat} (hp : Sm p m) (hm : m ≤ 512) (h : p.num = 0) : Al (fun k => jHm k (T p) (false, [], []) 30) := by
  refine Al.ev (Ev.bind (Ev.eq (jBR _ (zy _) (zy _)) (jBt hp hm)) (Ev.pos rfl (Ev.vU (jDG p) (Ev.pos (decide_eq_true h) (Ev.now _)))))
theorem jHW {p : Rat} {m : Nat} (hp : Sm p m) (hm : m ≤ 512) (h : p.num ≠ 0) : Al (fun k => jHm k (T p) (T (iv p)) 0) := by
  have l1 := qN (jAA hp.1 hm)
  have l2 := qN (jAA hp.2 hm)
  rw [(jEu h).1]
  refine Al.ev (Ev.bind (Ev.eq (jBR _ (zy _) (zy _)) (jBt hp hm)) (Ev.pos rfl (Ev.vU (jDG p) (Ev.neg (by rw [decide_eq_false h]; decide) ?_))))
  refine Ev.vU (jCJ (l := rD p) (by unfold rD; omega)) (Ev.vU (jCJ (l := rN p) (by unfold rN; omega)) (Ev.now _))
theorem jHV {p : Rat} {m : Nat} (hp : Sm p m) (h : p.num ≠ 0) : Sm (iv p) m := jBT (by omega) (by rw [jDM]; exact hp.2) hp.1
theorem jFV (s1 s2 s3 : Bool) {x1 x2 x3 y1 y2 y3 : Nat} (hx1 : x1 < 4294967296) (hx2 : x2 < 4294967296) (hx3 : x3 < 4294967296) (hy1 : y1 < 4294967296) (hy2 : y2 < 4294967296) (hy3 : y3 < 4294967296) : ∃ k, syzygylaw05_RatioField.Field k s1 s2 s3 (x1 : Int) (x2 : Int) (x3 : Int) (y1 : Int) (y2 : Int) (y3 : Int) := by
  have p33 : (4294967296 : Nat) < 2 ^ 33 := by decide
  have m1 := jER s1 hx1 hy1
  have m2 := jER s2 hx2 hy2
  have m3 := jER s3 hx3 hy3
  have ap := jBu s1 (x := x1) (y := y1) (m := 33) (by omega) (by omega)
  have aq := jBu s2 (x := x2) (y := y2) (m := 33) (by omega) (by omega)
  have ar := jBu s3 (x := x3) (y := y3) (m := 33) (by omega) (by omega)
  generalize mkRat (sgn s1 x1) (y1 + 1) = p at m1 ap
  generalize mkRat (sgn s2 x2) (y2 + 1) = q at m2 aq
  generalize mkRat (sgn s3 x3) (y3 + 1) = r at m3 ar
  clear p33 hx1 hx2 hx3 hy1 hy2 hy3
  have sab := ap.add aq
  have pab := ap.mul aq
  have sbc := aq.add ar
  have pbc := aq.mul ar
  have pac := ap.mul ar
  have pba := aq.mul ap
  have A1 := (jCg ap aq (by decide)).and ((jCg aq ap (by decide)).and ((jBk ap aq (by decide)).and ((jBk aq ap (by decide)).and ((jCg sab ar (by decide)).and ((jCg aq ar (by decide)).and (jCg ap sbc (by decide)))))))
  have A2 := (jBk pab ar (by decide)).and ((jBk aq ar (by decide)).and ((jBk ap pbc (by decide)).and ((jBk ap sbc (by decide)).and ((jBk ap ar (by decide)).and ((jCg pab pac (by decide)).and (jCg ap ap.neg (by decide)))))))
  have A3 := (jBK sab (by decide) (Rat.add_comm p q)).and ((jBK pab (by decide) (Rat.mul_comm p q)).and ((jBK (sab.add ar) (by decide) (Rat.add_assoc p q r)).and ((jBK (pab.mul ar) (by decide) (Rat.mul_assoc p q r)).and ((jBK (ap.mul sbc) (by decide) (Rat.mul_add p q r)).and (jBK (q := ((0 : Int) : Rat)) (ap.add ap.neg) (by decide) (Rat.add_neg_cancel p))))))
  have S := Al.ev jFi
  have N := jIc ap (by decide)
  have O0 := jHr (n := 0) (by decide) (by decide)
  have O1 := jHr (n := 1) (by decide) (by decide)
  have Z := jDG p
  by_cases h : p.num = 0
  · have I := inv_zero ap (by decide) h
    refine Al.of (m1.and (m2.and (m3.and (S.and (A1.and (A2.and (A3.and I))))))) ?_
    rintro k ⟨h1, h2, h3, hs, ⟨b1, b2, b3, b4, b5, b6, b7⟩, ⟨c1, c2, c3, c4, c5, c6, c7⟩, ⟨d1, d2, d3, d4, d5, d6⟩, hi⟩
    refine ⟨k, T p, T q, T r, T (p + q), T (q + p), T (p * q), T (q * p), T (p + q + r), T (q + r), T (p + (q + r)), T (p * q * r), T (q * r), T (p * (q * r)), T (p * (q + r)), T (p * r), T (p * q + p * r), T (-p), T (p + -p), T ((0 : Int) : Rat), (false, [], []), T 0, T 0, T 0, 30, decide (p.num = 0), h1, h2, h3, hs, b1, b2, b3, b4, b5, b6, b7, c1, c2, c3, c4, c5, c6, N, c7, O0, d1, d2, d3, d4, d5, d6, Z, hi, fun _ => rfl, fun e => ?_⟩
    exact absurd h (of_decide_eq_false e)
  · have I := jHW ap (by decide) h
    have ai := jHV ap h
    have e1 := (jEu h).2
    have U := (jBk ap ai (by decide)).and ((jBK (ap.mul ai) (by decide) e1).and ((jBk pba ai (by decide)).and (jBK (pba.mul ai) (by decide) (show q * p * iv p = q by rw [Rat.mul_assoc, e1]; exact Rat.mul_one q))))
    refine Al.of (m1.and (m2.and (m3.and (S.and (A1.and (A2.and (A3.and (I.and U)))))))) ?_
    rintro k ⟨h1, h2, h3, hs, ⟨b1, b2, b3, b4, b5, b6, b7⟩, ⟨c1, c2, c3, c4, c5, c6, c7⟩, ⟨d1, d2, d3, d4, d5, d6⟩, hi, u1, u2, u3, u4⟩
    refine ⟨k, T p, T q, T r, T (p + q), T (q + p), T (p * q), T (q * p), T (p + q + r), T (q + r), T (p + (q + r)), T (p * q * r), T (q * r), T (p * (q * r)), T (p * (q + r)), T (p * r), T (p * q + p * r), T (-p), T (p + -p), T ((0 : Int) : Rat), T (iv p), T (p * iv p), T ((1 : Int) : Rat), T (q * p * iv p), 0, decide (p.num = 0), h1, h2, h3, hs, b1, b2, b3, b4, b5, b6, b7, c1, c2, c3, c4, c5, c6, N, c7, O0, d1, d2, d3, d4, d5, d6, Z, hi, fun e => absurd (of_decide_eq_true e) h, fun _ => ⟨rfl, u1, O1, u2, u3, u4⟩⟩
theorem RatioField : syzygylaw05_RatioField.Pure := by
  intro s1 s2 s3 a1 a2 a3 b1 b2 b3 h
  obtain ⟨_, ⟨h1, h2, h3⟩, ⟨g1, g2, g3⟩⟩ := h
  have w : ∀ {a : Int}, (Lit.int .u32 a).wf = true → 0 ≤ a ∧ a < 4294967296 := by
    intro a h
    simp [Lit.wf, IntKind.min, IntKind.max, IntKind.signed, IntKind.bits] at h
    omega
  have h1 : 0 ≤ a1 ∧ a1 < 4294967296 := w h1
  have h2 : 0 ≤ a2 ∧ a2 < 4294967296 := w h2
  have h3 : 0 ≤ a3 ∧ a3 < 4294967296 := w h3
  have g1 : 0 ≤ b1 ∧ b1 < 4294967296 := w g1
  have g2 : 0 ≤ b2 ∧ b2 < 4294967296 := w g2
  have g3 : 0 ≤ b3 ∧ b3 < 4294967296 := w g3
  have H := jFV s1 s2 s3 (x1 := a1.toNat) (x2 := a2.toNat) (x3 := a3.toNat) (y1 := b1.toNat) (y2 := b2.toNat) (y3 := b3.toNat) (by omega) (by omega) (by omega) (by omega) (by omega) (by omega)
  rw [Int.toNat_of_nonneg h1.1, Int.toNat_of_nonneg h2.1, Int.toNat_of_nonneg h3.1, Int.toNat_of_nonneg g1.1, Int.toNat_of_nonneg g2.1, Int.toNat_of_nonneg g3.1] at H
  exact H
end Go.Proofs.Ytijgeonhbmgikaa.Pure
