-- Written by a program of this session (shake.py): of the words and of this session's own texts what this claim names.
import Derived.Test.YtijgeonhbmgikaaPORatioSignsx
import Derived.Laws.Bits64b
import Derived.Test.YtijgeonhbmgikaaORatioSignsW
set_option linter.unusedVariables false
set_option linter.unusedSimpArgs false
section
set_option linter.unusedVariables false
set_option linter.unusedSimpArgs false
namespace Go.Proofs.YtijgeonhbmgikaaN
theorem jFa (x y : Int) : (cmpv x y == 0) = decide (x = y) := by
 unfold cmpv
 by_cases h : x < y
 ·
  rw [if_pos h]
  have : x ≠ y := by omega
  simp [this]
 ·
  rw [if_neg h]
  by_cases h2 : x = y <;> simp [h2]
theorem jAf {x y : Int} : cmpv x y < 0 ↔ x < y := by unfold cmpv; split <;> (try split) <;> omega
end Go.Proofs.YtijgeonhbmgikaaN
end
section
set_option linter.unusedVariables false
set_option linter.unusedSimpArgs false
namespace Go.Proofs.Ytijgeonhbmgikaa.EORatioSigns
open Go.RowKit Go.Proofs.Ytijgeonhbmgikaa.PORatioSigns Go.Proofs.YtijgeonhbmgikaaN Go.Proofs.YtijgeonhbmgikaaW.PrintWords Go.Proofs.YtijgeonhbmgikaaW.PrintLast Go.Proofs.YtijgeonhbmgikaaW.PrintMore
theorem w64 {x : Int} (h : -4611686018427387904 ≤ x ∧ x ≤ 4611686018427387904) : wrap64 x = x := by unfold wrap64; omega
theorem ql (l : List Int) (n : Nat) : rd l (n : Int) = l.getD n 0 := rfl
theorem qJ {α β : Type} (a : α) (f : α → Option β) : (some a).bind f = f a := rfl
theorem Ev.qJ {α β : Type} {a : α} {f : Nat → α → Option β} {r : β} (h : Ev (fun k => f k a) r) : Ev (fun k => (some a).bind (f k)) r := h
theorem Ev.pos {α : Type} {c : Prop} [Decidable c] {f g : Nat → Option α} {r : α} (hc : c) (h : Ev f r) : Ev (fun k => if c then f k else g k) r := by
 simp only [if_pos hc]; exact h
theorem Ev.neg {α : Type} {c : Prop} [Decidable c] {f g : Nat → Option α} {r : α} (hc : ¬ c) (h : Ev g r) : Ev (fun k => if c then f k else g k) r := by
 simp only [if_neg hc]; exact h
theorem Ev.vv {α β : Type} {g : Option α} {f : Nat → α → Option β} {a : α} {r : β} (h : g = some a) (k : Ev (fun n => f n a) r) : Ev (fun n => g.bind (f n)) r := by
 rw [h]; exact k
theorem jFd {x y c : Int} (hx : 0 ≤ x ∧ x < B) (hy : 0 ≤ y ∧ y < B) (hc : 0 ≤ c ∧ c ≤ 1) : ad64 x y c + B * ac64 x y c = x + y + c ∧ (0 ≤ ad64 x y c ∧ ad64 x y c < B) ∧ 0 ≤ ac64 x y c ∧ ac64 x y c ≤ 1 := by
 unfold ad64 ac64
 rw [B_eq] at *
 omega
theorem jDW {c : Int} (hc : 0 ≤ c ∧ c ≤ 1) : ac64 0 0 c = 0 := by
 unfold ac64
 omega
theorem jFz : ∀ (n : Nat) (l : List Int), l.length = n → n ≤ 17592186044416 → Ok l → ∀ k, n < k → jK.l0 k l = some (dg (val l)) := by
 intro n
 induction n with
 | zero =>
  intro l hl _ _ k hk
  obtain ⟨k, rfl⟩ : ∃ m, k = m + 1 := ⟨k - 1, by omega⟩
  obtain rfl : l = [] := List.eq_nil_of_length_eq_zero hl
  rw [qM, jAL]
  rfl
 | succ n ih =>
  intro l hl hn ho k hk
  obtain ⟨k, rfl⟩ : ∃ m, k = m + 1 := ⟨k - 1, by omega⟩
  have hw : wrap64 ((l.length : Int) - 1) = (n : Int) := by rw [w64 (by omega)]; omega
  simp only [jK.l0, hw]
  rw [if_pos (by omega), if_pos (by omega), if_pos (by omega), ql]
  by_cases hz : l.getD n 0 = 0
  ·
   rw [if_pos hz, if_pos (by omega), Int.toNat_natCast, ih (l.take n) (by rw [List.length_take]; omega) (by omega) (ho.take n) k (by omega)]
   have e := vW l n (by omega)
   rw [qC (by omega), hz, List.drop_eq_nil_of_le (by omega), qM] at e
   rw [e]
   simp
  ·
   rw [if_neg hz, jCd ho (.inr (by rw [hl]; exact hz))]
theorem qc {l : List Int} (ho : Ok l) (hl : l.length ≤ 17592186044416) : Ev (fun k => jK.f k l) (dg (val l)) := ⟨l.length + 1, fun k hk => jFz l.length l rfl hl ho k (by omega)⟩
theorem jBM {l : List Int} (hl : l.length < 17592186044416) : jP.f l = some l := if_pos hl
theorem jAe {l : List Int} (ho : Ok l) (hl : l.length < 17592186044416) : Ev (fun k => jv.f k l) (dg (val l)) := by
 unfold jv.f
 exact Ev.bind (qc ho (by omega)) (Ev.vv (jBM (by have := zn ho; omega)) (Ev.now _))
theorem jGF (a b : List Int) (hab : a.length = b.length) (hl : a.length ≤ 17592186044416) : ∀ (d i : Nat), a.length - i = d → i ≤ a.length → ∀ k, d < k → jX.l0 k a b i = some (decide (a.drop i = b.drop i)) := by
 intro d
 induction d with
 | zero =>
  intro i hd hi k hk
  obtain ⟨k, rfl⟩ : ∃ m, k = m + 1 := ⟨k - 1, by omega⟩
  simp only [jX.l0]
  rw [if_neg (by omega), List.drop_eq_nil_of_le (by omega), List.drop_eq_nil_of_le (by omega)]
  simp
 | succ d ih =>
  intro i hd hi k hk
  obtain ⟨k, rfl⟩ : ∃ m, k = m + 1 := ⟨k - 1, by omega⟩
  simp only [jX.l0]
  rw [if_pos (by omega), if_pos (by omega), if_pos (by omega), ql, ql, w64 (by omega)]
  have ha : i < a.length := by omega
  have hb : i < b.length := by omega
  have e1 : a.getD i 0 = a[i] := by rw [List.getD_eq_getElem?_getD, List.getElem?_eq_getElem ha]; rfl
  have e2 : b.getD i 0 = b[i] := by rw [List.getD_eq_getElem?_getD, List.getElem?_eq_getElem hb]; rfl
  have e3 : (a.drop i = b.drop i) = (a[i] = b[i] ∧ a.drop (i + 1) = b.drop (i + 1)) := by rw [List.drop_eq_getElem_cons ha, List.drop_eq_getElem_cons hb, List.cons.injEq]
  simp only [e1, e2, e3]
  by_cases h : a[i] = b[i]
  ·
   rw [if_pos h, show ((i : Int) + 1) = ((i + 1 : Nat) : Int) from by omega, ih (i + 1) (by omega) (by omega) k (by omega)]
   simp only [h, true_and]
  ·
   rw [if_neg h]
   simp only [h, false_and, decide_false]
theorem jGG (a b : List Int) (hl : a.length ≤ 17592186044416) : Ev (fun k => jX.f k a b) (decide (a = b)) := by
 unfold jX.f
 by_cases h : a.length = b.length
 ·
  refine Ev.pos (by omega) ⟨a.length + 1, fun k hk => ?_⟩
  have := jGF a b h hl a.length 0 (by omega) (by omega) k (by omega)
  simpa using this
 ·
  refine Ev.neg (by omega) ?_
  have : a ≠ b := fun e => h (by rw [e])
  simp only [this, decide_false]
  exact Ev.now _
theorem jCy {v p s t y c c' r r' : Int} (h1 : s + B * c' = t + y + c) (h2 : r = y + B * r') : v + p * (s - t) + p * B * (c' + r') = v + p * (c + r) := by
 have e : s - t + B * (c' + r') = c + r := by rw [Int.mul_add]; omega
 have e2 : p * (c + r) = p * (s - t) + p * (B * (c' + r')) := by rw [← e, Int.mul_add]
 rw [e2, Int.mul_assoc, Int.add_assoc]
theorem getD_none {l : List Int} {i : Nat} (h : l.length ≤ i) : l.getD i 0 = 0 := by rw [List.getD_eq_getElem?_getD, List.getElem?_eq_none h]; rfl
theorem jBn (l : List Int) (x : Int) : (l ++ [x]).getD l.length 0 = x := by simp
theorem jFb {b x : List Int} {c : Int} {i : Nat} (hi : i = x.length) (hx : x.length < 17592186044416) (hb : b.length < 17592186044416) (hc : c ≤ 1) (k : Nat) :
  jh.j1 (k + 1) b x c i true = jh.l0 k b ((x ++ [0]).set i (ad64 ((x ++ [0]).getD i 0) (b.getD i 0) c)) (ac64 ((x ++ [0]).getD i 0) (b.getD i 0) c) ((i + 1 : Nat) : Int) := by
 have e64 : wrap64 ((i : Int) + 1) = ((i + 1 : Nat) : Int) := by rw [w64 (by omega)]; omega
 have hl : (x ++ [0]).length = x.length + 1 := by rw [List.length_append]; rfl
 simp only [jh.j1, e64, qJ]
 generalize x ++ [0] = y at *
 rw [if_pos trivial, if_pos (by omega), if_pos (by omega)]
 by_cases hib : i < b.length
 ·
  rw [if_pos (by omega), if_pos (by omega), if_pos (by omega), if_pos hc, ql, ql, Int.toNat_natCast]
 ·
  rw [if_neg (by omega), if_pos (by omega), if_pos (by omega), if_pos hc, ql, Int.toNat_natCast, getD_none (by omega : b.length ≤ i)]
theorem jFc {b x : List Int} {c : Int} {i : Nat} (hi : i < x.length) (hx : x.length < 17592186044416) (hb : b.length < 17592186044416) (hc : c ≤ 1) (k : Nat) :
  jh.j1 (k + 1) b x c i true = jh.l0 k b (x.set i (ad64 (x.getD i 0) (b.getD i 0) c)) (ac64 (x.getD i 0) (b.getD i 0) c) ((i + 1 : Nat) : Int) := by
 have e64 : wrap64 ((i : Int) + 1) = ((i + 1 : Nat) : Int) := by rw [w64 (by omega)]; omega
 simp only [jh.j1, e64]
 rw [if_pos trivial, if_neg (by omega)]
 by_cases hib : i < b.length
 ·
  rw [if_pos (by omega), if_pos (by omega), if_pos (by omega), if_pos hc, ql, ql, Int.toNat_natCast]
 ·
  rw [if_neg (by omega), if_pos (by omega), if_pos (by omega), if_pos hc, ql, Int.toNat_natCast, getD_none (by omega : b.length ≤ i)]
theorem jHc (b : List Int) (M : Nat) (hb : Ok b) (hbM : b.length ≤ M) (hM : M < 4294967296 + 4294967296) : ∀ (d : Nat) (x : List Int) (c : Int) (i : Nat), M + 1 - i = d → Ok x → i ≤ x.length → x.length ≤ max M i → (0 ≤ c ∧ c ≤ 1) → (i ≤ M ∨ c = 0 ∧ i = M + 1) →
  Ev (fun k => jh.l0 k b x c i) (dg (val x + B ^ i * (c + val (b.drop i)))) := by
 intro d
 induction d with
 | zero =>
  intro x c i hd hx hix hxl hc hi
  obtain ⟨rfl, hi⟩ : c = 0 ∧ i = M + 1 := by omega
  refine Ev.step (f := fun k => jh.j1 k b x 0 i (decide ((0 : Int) > 0))) (fun k => by simp only [jh.l0]; rw [if_neg (by omega)]) (Ev.step (f := fun k => (jK.f k x).bind fun t => some t) (fun k => by simp only [jh.j1]; rw [if_neg (by simp)]) ?_)
  rw [List.drop_eq_nil_of_le (by omega), qM]
  simp only [Int.add_zero, Int.mul_zero]
  exact Ev.bind (qc hx (by omega)) (Ev.now _)
 | succ d ih =>
  intro x c i hd hx hix hxl hc hi
  by_cases hgo : i < b.length ∨ 0 < c
  ·
   have h0 : ∀ k, jh.l0 (k + 1) b x c i = jh.j1 k b x c i true := by
    intro k
    simp only [jh.l0]
    by_cases hib : i < b.length
    ·
     rw [if_pos (by omega)]
    ·
     rw [if_neg (by omega), decide_eq_true (by omega)]
   refine Ev.step h0 ?_
   have hy : 0 ≤ b.getD i 0 ∧ b.getD i 0 < B := hb.at i
   obtain ⟨x', hx', hvx, hl1, hl2, hstep⟩ : ∃ x', Ok x' ∧ val x' = val x ∧ i < x'.length ∧ x'.length ≤ max M (i + 1) ∧
     ∀ k, jh.j1 (k + 1) b x c i true = jh.l0 k b (x'.set i (ad64 (x'.getD i 0) (b.getD i 0) c)) (ac64 (x'.getD i 0) (b.getD i 0) c) ((i + 1 : Nat) : Int) := by
    by_cases hx1 : x.length = i
    ·
     have hl : (x ++ [0]).length = x.length + 1 := by rw [List.length_append]; rfl
     exact ⟨x ++ [0], hx.append (Ok.one (Int.le_refl _) jAU), jBy x, by omega, by omega, jFb hx1.symm (by omega) (by omega) hc.2⟩
    ·
     exact ⟨x, hx, rfl, by omega, by omega, jFc (by omega) (by omega) (by omega) hc.2⟩
   refine Ev.step hstep ?_
   have hxi := hx'.at i
   obtain ⟨hs, hok, hcc⟩ := jFd hxi hy hc
   have hr : val (b.drop i) = b.getD i 0 + B * val (b.drop (i + 1)) := by
    by_cases hib : i < b.length
    ·
     exact qC hib
    ·
     rw [List.drop_eq_nil_of_le (by omega), List.drop_eq_nil_of_le (by omega), getD_none (by omega), qM]; simp
   have hval : val x + B ^ i * (c + val (b.drop i)) = val (x'.set i (ad64 (x'.getD i 0) (b.getD i 0) c)) + B ^ (i + 1) * (ac64 (x'.getD i 0) (b.getD i 0) c + val (b.drop (i + 1))) := by
    rw [jAY hl1, hvx, ze, jCy hs hr]
   rw [hval]
   have hsl : (x'.set i (ad64 (x'.getD i 0) (b.getD i 0) c)).length = x'.length := List.length_set
   refine ih _ _ (i + 1) (by omega) (hx'.set i hok.1 hok.2) (by omega) (by omega) hcc ?_
   by_cases hiM : i < M
   ·
    exact .inl (by omega)
   ·
    refine .inr ⟨?_, by omega⟩
    have hx1 : x'.getD i 0 = 0 := by
     have hxi' : x.length = i := by omega
     have hlen : x'.length = i + 1 := by omega
     have e := vW x' i (by omega)
     rw [qC (by omega), List.drop_eq_nil_of_le (by omega), qM] at e
     have h1 : val x < B ^ i := by rw [← hxi']; exact qh hx
     rw [hvx] at e
     have h2 := jo (hx'.take i)
     have hp := zi i
     rcases Int.lt_or_le 0 (x'.getD i 0) with h3 | h3
     ·
      have : B ^ i * 1 ≤ B ^ i * (x'.getD i 0) := Int.mul_le_mul_of_nonneg_left (by omega) (by omega)
      simp only [Int.mul_zero, Int.add_zero] at e
      omega
     ·
      omega
    rw [hx1, getD_none (by omega)]
    exact jDW hc
  ·
   have hc0 : c = 0 := by omega
   subst hc0
   refine Ev.step (f := fun k => jh.j1 k b x 0 i (decide ((0 : Int) > 0))) (fun k => by simp only [jh.l0]; rw [if_neg (by omega)]) (Ev.step (f := fun k => (jK.f k x).bind fun t => some t) (fun k => by simp only [jh.j1]; rw [if_neg (by simp)]) ?_)
   rw [List.drop_eq_nil_of_le (by omega), qM]
   simp only [Int.add_zero, Int.mul_zero]
   exact Ev.bind (qc hx (by omega)) (Ev.now _)
theorem jBA {n : Int} (h : 0 ≤ n) : (((dg n).length : Int) = 0) ↔ n = 0 := by
 rw [← jBs h]
 constructor
 ·
  intro e; exact List.eq_nil_of_length_eq_zero (by omega)
 ·
  intro e; rw [e]; rfl
theorem jHd {a b : List Int} (ha : Ok a) (hb : Ok b) (hal : a.length ≤ 4294967296) (hbl : b.length ≤ 4294967296) : Ev (fun k => jh.f k a b) (dg (val a + val b)) := by
 unfold jh.f
 refine Ev.bind (qc ha (by omega)) ?_
 have h0 := jo ha
 by_cases hz : val a = 0
 ·
  refine Ev.pos ((jBA h0).2 hz) ?_
  rw [hz, Int.zero_add]
  exact Ev.bind (jAe hb (by omega)) (Ev.now _)
 ·
  refine Ev.neg (fun e => hz ((jBA h0).1 e)) (Ev.bind (jAe ha (by omega)) ?_)
  have hl := zn ha
  have h := jHc b (max a.length b.length) hb (by omega) (by omega) _ (dg (val a)) 0 0 rfl (zx _) (by omega) (by omega) (by omega) (by omega)
  simpa [zu h0] using h
theorem jFp {a b : List Int} (ha : Ok a) (hb : Ok b) {i : Nat} (hab : a.length = b.length) (hi : i < a.length) (hd : a.drop (i + 1) = b.drop (i + 1)) (h : a.getD i 0 < b.getD i 0) : val a < val b := by
 have e1 := vW a i (by omega)
 have e2 := vW b i (by omega)
 rw [qC hi] at e1
 rw [qC (by omega)] at e2
 rw [hd] at e1
 have h1 := qh (ha.take i)
 have h2 := jo (hb.take i)
 rw [List.length_take, Nat.min_eq_left (by omega)] at h1
 have h3 : B ^ i * (a.getD i 0 + B * val (b.drop (i + 1)) + 1) ≤ B ^ i * (b.getD i 0 + B * val (b.drop (i + 1))) := Int.mul_le_mul_of_nonneg_left (by omega) (Int.le_of_lt (zi i))
 rw [Int.mul_add] at h3
 omega
theorem jHX {a b : List Int} (ha : Ok a) (hb : Ok b) (hab : a.length = b.length) (hl : a.length ≤ 17592186044416) : ∀ (n : Nat), n ≤ a.length → a.drop n = b.drop n → ∀ k, n < k → vG.l0 k a b ((n : Int) - 1) = some (cmpv (val a) (val b)) := by
 intro n
 induction n with
 | zero =>
  intro _ hd k hk
  obtain ⟨k, rfl⟩ : ∃ m, k = m + 1 := ⟨k - 1, by omega⟩
  have : a = b := by simpa using hd
  subst this
  simp only [vG.l0]
  rw [if_neg (by omega), jEU]
 | succ n ih =>
  intro hn hd k hk
  obtain ⟨k, rfl⟩ : ∃ m, k = m + 1 := ⟨k - 1, by omega⟩
  have e : (((n + 1 : Nat) : Int) - 1) = (n : Int) := by omega
  rw [e]
  simp only [vG.l0]
  rw [if_pos (by omega), if_pos (by omega), if_pos (by omega), if_pos (by omega), ql, ql, w64 (by omega)]
  by_cases h1 : a.getD n 0 < b.getD n 0
  ·
   have := jFp ha hb hab (by omega) hd h1
   rw [if_pos h1]
   simp [cmpv, this]
  ·
   rw [if_neg h1]
   by_cases h2 : b.getD n 0 < a.getD n 0
   ·
    have := jFp hb ha hab.symm (by omega) hd.symm h2
    rw [if_pos h2]
    unfold cmpv
    rw [if_neg (by omega), if_neg (by omega)]
   ·
    rw [if_neg h2]
    refine ih (by omega) ?_ k (by omega)
    have ha' : n < a.length := by omega
    have hb' : n < b.length := by omega
    have e1 : a.getD n 0 = a[n] := by rw [List.getD_eq_getElem?_getD, List.getElem?_eq_getElem ha']; rfl
    have e2 : b.getD n 0 = b[n] := by rw [List.getD_eq_getElem?_getD, List.getElem?_eq_getElem hb']; rfl
    rw [List.drop_eq_getElem_cons ha', List.drop_eq_getElem_cons hb', hd, ← e1, ← e2, show a.getD n 0 = b.getD n 0 from by omega]
theorem jCe {m n : Int} (h0 : 0 ≤ m) (h : (dg m).length < (dg n).length) : m < n := by
 rcases Int.lt_or_le m n with h1 | h1
 ·
  exact h1
 ·
  exfalso
  have h2 : m < B ^ (dg m).length := jEI (Nat.le_refl _)
  have := qP (n := n) (m := (dg m).length) (by omega)
  omega
theorem jDU {a b : List Int} (ha : Ok a) (hb : Ok b) (hal : a.length ≤ 17592186044416) (hbl : b.length ≤ 17592186044416) : Ev (fun k => vG.f k a b) (cmpv (val a) (val b)) := by
 unfold vG.f
 have h0 := jo ha
 have h1 := jo hb
 have l0 := zn ha
 have l1 := zn hb
 refine Ev.bind (qc ha hal) (Ev.bind (qc hb hbl) ?_)
 by_cases h : (dg (val a)).length = (dg (val b)).length
 ·
  refine Ev.pos (by omega) ⟨(dg (val a)).length + 1, fun k hk => ?_⟩
  have := jHX (zx (val a)) (zx (val b)) h (by omega) (dg (val a)).length (by omega) (by rw [List.drop_eq_nil_of_le (by omega), List.drop_eq_nil_of_le (by omega)]) k (by omega)
  rw [zu h0, zu h1] at this
  rw [w64 (by omega)]
  exact this
 ·
  refine Ev.neg (by omega) ?_
  by_cases h2 : (dg (val a)).length < (dg (val b)).length
  ·
   refine Ev.pos (by omega) ?_
   have := jCe h0 h2
   simp only [cmpv, this, if_true]
   exact Ev.now _
  ·
   refine Ev.neg (by omega) ?_
   have := jCe h1 (show (dg (val b)).length < (dg (val a)).length by omega)
   unfold cmpv
   rw [if_neg (by omega), if_neg (by omega)]
   exact Ev.now _
theorem jFA (l : List Int) (ho : Ok l) (hl : l.length < 17592186044416) : ∀ (n : Nat), n ≤ l.length → val (l.drop n) = 0 → ∀ k, n < k → jW.l0 k l n = some (dg (val l)) := by
 intro n
 induction n with
 | zero =>
  intro _ hd k hk
  obtain ⟨k, rfl⟩ : ∃ m, k = m + 1 := ⟨k - 1, by omega⟩
  have hv : val l = 0 := by simpa using hd
  simp only [jW.l0]
  rw [if_neg (by omega), qJ, if_pos (by omega), if_pos (by omega), if_pos (by simp), hv, jAL]
  simp
 | succ n ih =>
  intro hn hd k hk
  obtain ⟨k, rfl⟩ : ∃ m, k = m + 1 := ⟨k - 1, by omega⟩
  have hw : wrap64 (((n + 1 : Nat) : Int) - 1) = (n : Int) := by rw [w64 (by omega)]; omega
  simp only [jW.l0, hw]
  rw [if_pos (by omega), if_pos (by omega), if_pos (by omega), ql]
  by_cases hz : l.getD n 0 = 0
  ·
   rw [if_pos hz]
   exact ih (by omega) (by rw [qC (by omega), hz, hd]; simp) k (by omega)
  ·
   rw [if_neg hz, qJ, if_pos (by omega), if_pos (by omega), if_pos (by simp; omega), Int.toNat_natCast, List.nil_append]
   have e := vW l (n + 1) hn
   rw [hd, Int.mul_zero, Int.add_zero] at e
   rw [e, jCd (ho.take _) (.inr ?_)]
   rw [List.length_take, Nat.min_eq_left hn]
   simpa [List.getD_eq_getElem?_getD] using hz
theorem jFB {l : List Int} (ho : Ok l) (hl : l.length < 17592186044416) : Ev (fun k => jW.f k l) (dg (val l)) :=
 ⟨l.length + 1, fun k hk => jFA l ho hl l.length (Nat.le_refl _) (by rw [List.drop_eq_nil_of_le (Nat.le_refl _)]; rfl) k (by omega)⟩
end Go.Proofs.Ytijgeonhbmgikaa.EORatioSigns
end
section
set_option linter.unusedVariables false
set_option linter.unusedSimpArgs false
namespace Go.Proofs.Ytijgeonhbmgikaa.EORatioSigns
open Go.RowKit Go.Proofs.Ytijgeonhbmgikaa.PORatioSigns Go.Proofs.YtijgeonhbmgikaaN Go.Proofs.YtijgeonhbmgikaaW.PrintWords Go.Proofs.YtijgeonhbmgikaaW.PrintLast Go.Proofs.YtijgeonhbmgikaaW.PrintMore
theorem jIA {x y c : Int} (hx : 0 ≤ x ∧ x < B) (hy : 0 ≤ y ∧ y < B) (hc : 0 ≤ c ∧ c ≤ 1) : sb64 x y c - B * bb64 x y c = x - y - c ∧ (0 ≤ sb64 x y c ∧ sb64 x y c < B) ∧ 0 ≤ bb64 x y c ∧ bb64 x y c ≤ 1 := by
 unfold sb64 bb64
 rw [B_eq] at *
 split <;> omega
theorem jGC {V v p s t y c c' r' Q : Int} (h1 : s - B * c' = t - y - c) (ih : V + p * B * (c' + r') = v + p * (s - t) + Q) : V + p * (c + (y + B * r')) = v + Q := by
 have e : c + (y + B * r') = (t - s) + B * (c' + r') := by rw [Int.mul_add]; omega
 have e2 : p * (c + (y + B * r')) = p * (t - s) + p * B * (c' + r') := by rw [e, Int.mul_add, Int.mul_assoc]
 have e3 : p * (t - s) = - (p * (s - t)) := by rw [← Int.mul_neg]; congr 1; omega
 omega
theorem jDw (b : List Int) (d i : Nat) : val ((b.drop i).take (d + 1)) = b.getD i 0 + B * val ((b.drop (i + 1)).take d) := by
 by_cases h : i < b.length
 ·
  rw [List.drop_eq_getElem_cons h, List.take_succ_cons, qb, List.getD_eq_getElem?_getD, List.getElem?_eq_getElem h]; rfl
 ·
  rw [List.drop_eq_nil_of_le (by omega), List.drop_eq_nil_of_le (by omega), getD_none (by omega)]
  simp [val]
theorem jGt (b : List Int) (hb : Ok b) : ∀ (d : Nat) (x : List Int) (c : Int) (i : Nat), Ok x → (0 ≤ c ∧ c ≤ 1) → i + d = x.length →
  Ok (vJ.l0 d x b c i) ∧ (vJ.l0 d x b c i).length = x.length ∧ ∃ ce, (0 ≤ ce ∧ ce ≤ 1) ∧ val (vJ.l0 d x b c i) + B ^ i * (c + val ((b.drop i).take d)) = val x + B ^ (i + d) * ce := by
 intro d
 induction d with
 | zero =>
  intro x c i hx hc hi
  refine ⟨hx, rfl, c, hc, ?_⟩
  simp [vJ.l0, val]
 | succ d ih =>
  intro x c i hx hc hi
  have hxi := hx.at i
  obtain ⟨hs, hok, hcc⟩ := jIA hxi (hb.at i) hc
  obtain ⟨h1, h2, ce, h3, h4⟩ := ih (x.set i (sb64 (x.getD i 0) (b.getD i 0) c)) (bb64 (x.getD i 0) (b.getD i 0) c) (i + 1) (hx.set i hok.1 hok.2) hcc (by rw [List.length_set]; omega)
  rw [vJ.l0]
  refine ⟨h1, by rw [h2, List.length_set], ce, h3, ?_⟩
  rw [jDw, show i + (d + 1) = i + 1 + d from by omega]
  refine jGC hs ?_
  rw [jAY (by omega : i < x.length), ze] at h4
  exact h4
theorem jGD {x b : List Int} (hx : Ok x) (hb : Ok b) (h : val b ≤ val x) : Ok (vJ.l0 x.length x b 0 0) ∧ (vJ.l0 x.length x b 0 0).length = x.length ∧ val (vJ.l0 x.length x b 0 0) = val x - val b := by
 obtain ⟨h1, h2, ce, h3, h4⟩ := jGt b hb x.length x 0 0 hx (by omega) (by omega)
 refine ⟨h1, h2, ?_⟩
 have hp := zi x.length
 have hxl := qh hx
 have hy0 := jo h1
 have hyl := qh h1
 rw [h2] at hyl
 have hbt : val (b.take x.length) = val b := by
  by_cases hl : b.length ≤ x.length
  ·
   rw [List.take_of_length_le hl]
  ·
   have e := vW b x.length (by omega)
   have n1 := jo (hb.take x.length)
   have n2 := jo (hb.drop x.length)
   have : val (b.drop x.length) = 0 := by
    rcases Int.lt_or_le 0 (val (b.drop x.length)) with h5 | h5
    ·
     have : B ^ x.length * 1 ≤ B ^ x.length * val (b.drop x.length) := Int.mul_le_mul_of_nonneg_left (by omega) (by omega)
     omega
    ·
     omega
   rw [this] at e
   omega
 simp only [List.drop_zero, Int.pow_zero, Int.one_mul, Int.zero_add, hbt, Nat.zero_add] at h4
 have : ce = 0 := by
  rcases Int.lt_or_le 0 ce with h5 | h5
  ·
   have e1 : ce = 1 := by omega
   rw [e1] at h4
   have n1 := jo hb
   omega
  ·
   omega
 rw [this] at h4
 omega
theorem jGu {a b : List Int} (ha : Ok a) (hb : Ok b) (hal : a.length ≤ 4294967296) (hbl : b.length ≤ 4294967296) : Ev (fun k => vJ.f k a b) (if val a < val b then ([], false) else (dg (val a - val b), true)) := by
 unfold vJ.f
 refine Ev.bind (jDU ha hb (by omega) (by omega)) ?_
 by_cases h : val a < val b
 ·
  rw [if_pos h]
  exact Ev.pos (jAf.2 h) (Ev.now _)
 ·
  rw [if_neg h]
  refine Ev.neg (fun e => h (jAf.1 e)) (Ev.bind (jAe ha (by omega)) ?_)
  have h0 := jo ha
  have hl := zn ha
  obtain ⟨h1, h2, h3⟩ := jGD (zx (val a)) hb (by rw [zu h0]; omega)
  rw [zu h0] at h3
  have := qc h1 (by rw [h2]; omega)
  rw [h3] at this
  exact Ev.bind this (Ev.now _)
theorem jDx (out : List Int) (n : Nat) : val (jL.pad out n) = val out := by unfold jL.pad; rw [val_append, jAZ]; simp
theorem jFi {out : List Int} (h : Ok out) (n : Nat) : Ok (jL.pad out n) := h.append (Ok.rep _)
theorem jDy (out : List Int) (n : Nat) : (jL.pad out n).length = max out.length n := by unfold jL.pad; simp; omega
theorem jID : ∀ (row out : List Int) (i : Nat) (c : Int), Ok row → Ok out → (0 ≤ c ∧ c ≤ 1) → i + row.length ≤ out.length →
  ∃ o c', jL.l3 row out i c = some (o, c') ∧ Ok o ∧ o.length = out.length ∧ (0 ≤ c' ∧ c' ≤ 1) ∧ val o + B ^ (i + row.length) * c' = val out + B ^ i * (c + val row) := by
 intro row
 induction row with
 | nil =>
  intro out i c _ ho hc _
  exact ⟨out, c, rfl, ho, rfl, hc, by simp [val]⟩
 | cons x row ih =>
  intro out i c hr ho hc hl
  simp only [List.length_cons] at hl
  obtain ⟨hs, hok, hcc⟩ := jFd (ho.at i) hr.head hc
  obtain ⟨o, c', e, h1, h2, h3, h4⟩ := ih (out.set i (ad64 (out.getD i 0) x c)) (i + 1) (ac64 (out.getD i 0) x c) hr.tail (ho.set i hok.1 hok.2) hcc (by rw [List.length_set]; omega)
  refine ⟨o, c', ?_, h1, by rw [h2, List.length_set], h3, ?_⟩
  ·
   rw [jL.l3, if_pos ⟨hc.2, by omega⟩]; exact e
  ·
   rw [List.length_cons, show i + (row.length + 1) = i + 1 + row.length from by omega, h4, jAY (by omega), ze]
   exact jCy hs rfl
theorem jIC : ∀ (d : Nat) (out : List Int) (i : Nat) (c : Int), Ok out → (0 ≤ c ∧ c ≤ 1) → i ≤ out.length → out.length - i + c.toNat = d → (out.length < 17592186044414 ∨ c = 0) →
  ∃ o, Ev (fun k => jL.l4 k out i c) o ∧ Ok o ∧ o.length ≤ out.length + 1 ∧ val o = val out + B ^ i * c := by
 intro d
 induction d using Nat.strongRecOn with
 | _ d ih =>
  intro out i c ho hc hi hd hl
  by_cases h0 : 0 < c
  ·
   have hc1 : c = 1 := by omega
   have hp := jFi ho (i + 1)
   obtain ⟨hs, hok, hcc⟩ := jFd (hp.at i) ⟨Int.le_refl 0, jAU⟩ hc
   have hpl := jDy out (i + 1)
   have hstep : ∀ k, jL.l4 (k + 1) out i c = jL.l4 k ((jL.pad out (i + 1)).set i (ad64 ((jL.pad out (i + 1)).getD i 0) 0 c)) (i + 1) (ac64 ((jL.pad out (i + 1)).getD i 0) 0 c) := fun k => by
    rw [jL.l4, if_pos h0, if_pos ⟨hc.2, hi, by omega⟩]
   have hcn : i = out.length → ac64 ((jL.pad out (i + 1)).getD i 0) 0 c = 0 := by
    intro e
    have : (jL.pad out (i + 1)).getD i 0 = 0 := by rw [jL.jDK e, e]; exact jBn _ _
    rw [this]
    exact jDW hc
   obtain ⟨o, h1, h2, h3, h4⟩ := ih ((jL.pad out (i + 1)).length - (i + 1) + (ac64 ((jL.pad out (i + 1)).getD i 0) 0 c).toNat) (by
     by_cases e : i = out.length
     ·
      rw [hcn e]; omega
     ·
      omega) ((jL.pad out (i + 1)).set i (ad64 ((jL.pad out (i + 1)).getD i 0) 0 c)) (i + 1) (ac64 ((jL.pad out (i + 1)).getD i 0) 0 c) (hp.set i hok.1 hok.2) hcc (by rw [List.length_set]; omega) (by rw [List.length_set]) (by
     rw [List.length_set]
     by_cases e : i = out.length
     ·
      exact .inr (hcn e)
     ·
      exact .inl (by omega))
   refine ⟨o, Ev.step hstep h1, h2, ?_, ?_⟩
   ·
    rw [List.length_set] at h3
    by_cases e : i = out.length
    ·
     have hz := hcn e
     rw [hz] at h1
     have hnow : Ev (fun k => jL.l4 k ((jL.pad out (i + 1)).set i (ad64 ((jL.pad out (i + 1)).getD i 0) 0 c)) (i + 1) 0) ((jL.pad out (i + 1)).set i (ad64 ((jL.pad out (i + 1)).getD i 0) 0 c)) :=
      Ev.step (fun k => by rw [jL.l4, if_neg (by omega)]) (Ev.now _)
     obtain ⟨K1, e1⟩ := h1
     obtain ⟨K2, e2⟩ := hnow
     have e3 := (e1 (max K1 K2) (by omega)).symm.trans (e2 (max K1 K2) (by omega))
     injection e3 with e3
     rw [e3, List.length_set]
     omega
    ·
     omega
   ·
    rw [h4, jAY (by omega), jDx, ze]
    have := jCy (v := val out) (p := B ^ i) (r := 0) (r' := 0) hs (by omega)
    simp only [Int.add_zero] at this
    exact this
  ·
   have hc0 : c = 0 := by omega
   subst hc0
   exact ⟨out, Ev.step (fun k => by rw [jL.l4, if_neg (by omega)]) (Ev.now _), ho, by omega, by omega⟩
theorem jIE (L : Nat) (hL : L ≤ 4294967296) : ∀ (rows : List (List Int)) (j : Nat) (out : List Int), (∀ r ∈ rows, Ok r ∧ r.length ≤ L) → Ok out → out.length ≤ 2 * j + L → j + rows.length ≤ 4294967296 →
  ∃ o, Ev (fun k => jL.l1 k rows j out) o ∧ Ok o ∧ o.length ≤ 2 * (j + rows.length) + L ∧ val o = val out + B ^ j * sumv rows := by
 intro rows
 induction rows with
 | nil =>
  intro j out _ ho hl _
  refine ⟨out, Ev.now _, ho, by simpa using hl, by simp [sumv]⟩
 | cons r rows ih =>
  intro j out hr ho hl hj
  simp only [List.length_cons] at hj
  obtain ⟨hrk, hrl⟩ := hr r (List.mem_cons_self ..)
  have hdl := zn hrk
  have hpl := jDy out (j + (dg (val r)).length)
  obtain ⟨o1, c1, e1, a1, a2, a3, a4⟩ := jID (dg (val r)) (jL.pad out (j + (dg (val r)).length)) j 0 (zx _) (jFi ho _) (by omega) (by omega)
  obtain ⟨o2, b0, b1, b2, b3⟩ := jIC _ o1 (j + (dg (val r)).length) c1 a1 a3 (by omega) rfl (.inl (by omega))
  obtain ⟨o3, d0, d1, d2, d3⟩ := ih (j + 1) o2 (fun r' h' => hr r' (List.mem_cons_of_mem _ h')) b1 (by omega) (by omega)
  refine ⟨o3, ?_, d1, by simp only [List.length_cons]; omega, ?_⟩
  ·
   simp only [jL.l1]
   refine Ev.bind (qc hrk (by omega)) (Ev.pos (by omega) (Ev.vv e1 (Ev.bind b0 d0)))
  ·
   rw [d3, b3, a4, jDx, zu (jo hrk), sumv, ze, Int.zero_add, Int.mul_add, Int.mul_assoc]
   omega
theorem jGs {rows : List (List Int)} {L : Nat} (hL : L ≤ 4294967296) (hr : ∀ r ∈ rows, Ok r ∧ r.length ≤ L) (hn : rows.length ≤ 4294967296) : Ev (fun k => jL.f k rows) (dg (sumv rows)) := by
 obtain ⟨o, h1, h2, h3, h4⟩ := jIE L hL rows 0 [] hr Ok.nil (by simp) (by omega)
 unfold jL.f
 have e : val o = sumv rows := by rw [h4]; simp [val]
 have hl := zn h2
 refine Ev.bind h1 (Ev.bind (qc h2 (by omega)) ?_)
 rw [← e]
 exact Ev.vv (jBM (by omega)) (Ev.now _)
theorem jHA {x y : Int} (hx : 0 ≤ x ∧ x < B) (hy : 0 ≤ y ∧ y < B) : 0 ≤ x * y / B ∧ x * y / B ≤ B - 2 ∧ (0 ≤ x * y % B ∧ x * y % B < B) ∧ x * y % B + B * (x * y / B) = x * y := by
 have h1 : x * y ≤ (B - 1) * (B - 1) := Int.mul_le_mul (by omega) (by omega) hy.1 (by have := jAU; omega)
 have h0 : 0 ≤ x * y := Int.mul_nonneg hx.1 hy.1
 have e := Int.emod_add_mul_ediv (x * y) B
 refine ⟨Int.ediv_nonneg h0 (Int.le_of_lt jAU), ?_, ⟨Int.emod_nonneg _ (Int.ne_of_gt jAU), Int.emod_lt_of_pos _ jAU⟩, e⟩
 rw [B_eq] at *
 generalize x * y = z at *
 omega
theorem u64w {x : Int} (h : 0 ≤ x ∧ x < B) : IntKind.u64.wrap x = x := by rw [IntKind.wrap_u64]; rw [B_eq] at h; omega
theorem jFN {x y : Int} (hx : 0 ≤ x ∧ x < B) (hy : 0 ≤ y ∧ y < B) : bits_Mul64.f x y = some (x * y / B, x * y % B) := if_pos ⟨hx, hy⟩
theorem jCI {l : List Int} {i : Nat} {v : Int} (h : ∀ j, i ≤ j → l.getD j 0 = 0) : ∀ j, i + 1 ≤ j → (l.set i v).getD j 0 = 0 := by
 intro j hj
 have := h j (by omega)
 rw [List.getD_eq_getElem?_getD] at this ⊢
 rw [List.getElem?_set_ne (by omega)]
 exact this
theorem jGL {v p x n t y c c' P : Int} (h0 : v + p * c = x * P) (h1 : n + B * c' = t + x * y + c) (ht : t = 0) : v + p * (n - t) + p * B * c' = x * (P + p * y) := by
 have e : n - t + B * c' = x * y + c := by omega
 have e2 : v + p * (n - t) + p * B * c' = v + p * (n - t + B * c') := by rw [Int.mul_add, Int.mul_assoc, Int.add_assoc]
 rw [e2, e, Int.mul_add, Int.mul_add, ← h0]
 have e3 : p * (x * y) = x * (p * y) := by rw [← Int.mul_assoc, Int.mul_comm p x, Int.mul_assoc]
 omega
theorem jGM (b : List Int) (hb : Ok b) (hbl : b.length ≤ 4294967296) (x : Int) (hx : 0 ≤ x ∧ x < B) (rows : List (List Int)) (hrl : rows.length < 5864062014805) (a : List Int) (al j : Int) : ∀ (d : Nat) (r : List Int) (c : Int) (i : Nat), b.length - i = d → i ≤ b.length → Ok r → r.length = b.length + 1 → (0 ≤ c ∧ c < B) → (∀ m, i ≤ m → r.getD m 0 = 0) → val r + B ^ i * c = x * val (b.take i) →
  ∃ r', Ok r' ∧ r'.length = b.length + 1 ∧ val r' = x * val b ∧ ∀ res, Ev (fun k => jg.l0 k b (rows ++ [r']) a al (wrap64 (j + 1))) res → Ev (fun k => jg.l1 k b rows x r c a al j b (b.length : Int) i) res := by
 intro d
 induction d with
 | zero =>
  intro r c i hd hi hr hrlen hc hz hv
  have hib : i = b.length := by omega
  subst hib
  refine ⟨r.set b.length c, hr.set _ hc.1 hc.2, by rw [List.length_set]; exact hrlen, ?_, fun res hres => Ev.step (fun k => ?_) hres⟩
  ·
   rw [jAY (by omega), hz _ (Nat.le_refl _), Int.sub_zero, hv, List.take_length]
  ·
   simp only [jg.l1]
   rw [if_neg (by omega), if_pos (by omega), if_pos (by omega), if_pos hrl, Int.toNat_natCast]
 | succ d ih =>
  intro r c i hd hi hr hrlen hc hz hv
  have hib : i < b.length := by omega
  have hbi := hb.at i
  obtain ⟨m1, m2, m3, m4⟩ := jHA hx hbi
  have hlo : (0 ≤ x * b.getD i 0 % B ∧ x * b.getD i 0 % B < B) := m3
  have ha := jFd (c := 0) hlo hc (by omega)
  obtain ⟨s1, s2, s3⟩ := ha
  have hwr : IntKind.u64.wrap (x * b.getD i 0 / B + ac64 (x * b.getD i 0 % B) c 0) = x * b.getD i 0 / B + ac64 (x * b.getD i 0 % B) c 0 := u64w (by omega)
  have hnew : val (r.set i (ad64 (x * b.getD i 0 % B) c 0)) + B ^ (i + 1) * (x * b.getD i 0 / B + ac64 (x * b.getD i 0 % B) c 0) = x * val (b.take (i + 1)) := by
   rw [jAY (by omega), jAF hib, ze]
   refine jGL hv ?_ (hz i (Nat.le_refl _))
   rw [hz i (Nat.le_refl _), Int.mul_add]
   omega
  obtain ⟨r', h1, h2, h3, h4⟩ := ih (r.set i (ad64 (x * b.getD i 0 % B) c 0)) (x * b.getD i 0 / B + ac64 (x * b.getD i 0 % B) c 0) (i + 1) (by omega) (by omega) (hr.set i s2.1 s2.2) (by rw [List.length_set]; exact hrlen) (by omega) (jCI hz) hnew
  refine ⟨r', h1, h2, h3, fun res hres => Ev.step (fun k => ?_) (h4 res hres)⟩
  simp only [jg.l1]
  rw [if_pos (by omega), if_pos (by omega), if_pos (by omega), ql, jFN hx hbi, qJ, if_pos (by omega), Int.toNat_natCast, w64 (by omega), hwr, show (i : Int) + 1 = ((i + 1 : Nat) : Int) from by omega]
theorem jCj (u : List (List Int)) (r : List Int) : sumv (u ++ [r]) = sumv u + B ^ u.length * val r := by
 induction u with
 | nil => simp [sumv]
 | cons x u ih => rw [List.cons_append, sumv, sumv, ih, List.length_cons, ze, Int.mul_add, Int.mul_comm (B ^ u.length) B, Int.mul_assoc, Int.add_assoc]
theorem jHB (a b : List Int) (ha : Ok a) (hb : Ok b) (hal : a.length ≤ 4294967295) (hbl : b.length ≤ 4294967295) : ∀ (d j : Nat) (rows : List (List Int)), a.length - j = d → j ≤ a.length → rows.length = j → (∀ r ∈ rows, Ok r ∧ r.length ≤ b.length + 1) → sumv rows = val (a.take j) * val b →
  Ev (fun k => jg.l0 k b rows a (a.length : Int) j) (dg (val a * val b)) := by
 intro d
 induction d with
 | zero =>
  intro j rows hd hj hrl hr hs
  have hja : j = a.length := by omega
  refine Ev.step (f := fun k => (jL.f k rows).bind fun t => some t) (fun k => by simp only [jg.l0]; rw [if_neg (by omega)]) ?_
  rw [hja, List.take_length] at hs
  rw [← hs]
  exact Ev.bind (jGs (L := b.length + 1) (by omega) hr (by omega)) (Ev.now _)
 | succ d ih =>
  intro j rows hd hj hrl hr hs
  have hja : j < a.length := by omega
  have hw : wrap64 ((b.length : Int) + 1) = ((b.length + 1 : Nat) : Int) := by rw [w64 (by omega)]; omega
  obtain ⟨r', h1, h2, h3, h4⟩ := jGM b hb (by omega) (a.getD j 0) (ha.at j) rows (by omega) a (a.length : Int) j b.length (List.replicate (b.length + 1) 0) 0 0 (by omega) (by omega) (Ok.rep _) (by simp) ⟨Int.le_refl _, jAU⟩ (fun m _ => by rw [List.getD_eq_getElem?_getD, List.getElem?_replicate]; split <;> rfl) (by rw [jAZ]; simp [val])
  refine Ev.step (fun k => ?_) (h4 _ ?_)
  ·
   simp only [jg.l0]
   rw [if_pos (by omega), if_pos (by omega), if_pos (by omega), hw, if_pos (by omega), if_pos (by omega), ql, Int.toNat_natCast]
   rfl
  ·
   rw [w64 (by omega), show (j : Int) + 1 = ((j + 1 : Nat) : Int) from by omega]
   refine ih (j + 1) (rows ++ [r']) (by omega) (by omega) (by simp [hrl]) (fun r hr' => ?_) ?_
   ·
    rcases List.mem_append.1 hr' with hr' | hr'
    ·
     exact hr r hr'
    ·
     rw [List.mem_singleton.1 hr']
     exact ⟨h1, by omega⟩
   ·
    rw [jCj, hs, h3, hrl, jAF hja, Int.add_mul, Int.mul_assoc]
theorem jDM {a b : List Int} (ha : Ok a) (hb : Ok b) (hal : a.length ≤ 4294967295) (hbl : b.length ≤ 4294967295) : Ev (fun k => jg.f k a b) (dg (val a * val b)) := by
 unfold jg.f
 have h0 := jo ha
 have h1 := jo hb
 have l0 := zn ha
 have l1 := zn hb
 refine Ev.bind (qc hb (by omega)) (Ev.bind (qc ha (by omega)) ?_)
 have := jHB (dg (val a)) (dg (val b)) (zx _) (zx _) (by omega) (by omega) _ 0 [] rfl (by omega) rfl (fun r hr => absurd hr List.not_mem_nil) (by simp [sumv, val])
 rw [zu h0, zu h1] at this
 exact this
end Go.Proofs.Ytijgeonhbmgikaa.EORatioSigns
end
section
set_option linter.unusedVariables false
set_option linter.unusedSimpArgs false
namespace Go.Proofs.Ytijgeonhbmgikaa.EORatioSigns
open Go.RowKit Go.Proofs.Ytijgeonhbmgikaa.PORatioSigns Go.Proofs.YtijgeonhbmgikaaN Go.Proofs.YtijgeonhbmgikaaW.PrintWords Go.Proofs.YtijgeonhbmgikaaW.PrintLast Go.Proofs.YtijgeonhbmgikaaW.PrintMore
def Row (l : List Int) (x : Int) (n : Nat) : Prop := Ok l ∧ val l = x ∧ l.length ≤ n
theorem Row.of {l : List Int} {n : Nat} (h : Ok l) (hl : l.length ≤ n) : Row l (val l) n := ⟨h, rfl, hl⟩
theorem Row.pos {l : List Int} {x : Int} {n : Nat} (h : Row l x n) : 0 ≤ x := h.2.1 ▸ jo h.1
theorem Row.lt {l : List Int} {x : Int} {n : Nat} (h : Row l x n) : x < B ^ n := by
 have h1 := qh h.1
 have h2 := qZ h.2.2
 rw [h.2.1] at h1
 omega
theorem Row.dg {x : Int} {n : Nat} (h0 : 0 ≤ x) (h1 : x < B ^ n) : Row (dg x) x n := ⟨zx x, zu h0, qP h1⟩
theorem Row.le {l : List Int} {x : Int} {n m : Nat} (h : Row l x n) (hm : n ≤ m) : Row l x m := ⟨h.1, h.2.1, Nat.le_trans h.2.2 hm⟩
theorem Row.add {a b : List Int} {x y : Int} {n m p : Nat} (ha : Row a x n) (hb : Row b y m) (h1 : n + 1 ≤ p) (h2 : m + 1 ≤ p) : Row (Go.Proofs.YtijgeonhbmgikaaN.dg (x + y)) (x + y) p := by
 have p0 := ha.pos
 have p1 := hb.pos
 have l0 := (ha.le (m := p - 1) (by omega)).lt
 have l1 := (hb.le (m := p - 1) (by omega)).lt
 obtain ⟨q, rfl⟩ : ∃ q, p = q + 1 := ⟨p - 1, by omega⟩
 simp only [Nat.add_sub_cancel] at l0 l1
 refine Row.dg (by omega) ?_
 have h6 : B ^ q * 2 ≤ B ^ q * B := Int.mul_le_mul_of_nonneg_left (by decide) (Int.le_of_lt (zi q))
 rw [ze]
 omega
theorem Row.mul {a b : List Int} {x y : Int} {n m p : Nat} (ha : Row a x n) (hb : Row b y m) (h1 : n + m ≤ p) : Row (Go.Proofs.YtijgeonhbmgikaaN.dg (x * y)) (x * y) p := by
 have p0 := ha.pos
 have p1 := hb.pos
 have l0 := ha.lt
 have l1 := hb.lt
 refine Row.dg (Int.mul_nonneg p0 p1) ?_
 have h2 := qZ h1
 rw [Int.pow_add] at h2
 have h3 := zi n
 have h4 := zi m
 have h5 : x * y ≤ x * B ^ m := Int.mul_le_mul_of_nonneg_left (by omega) p0
 have h6 : (x + 1) * B ^ m ≤ B ^ n * B ^ m := Int.mul_le_mul_of_nonneg_right (by omega) (by omega)
 rw [Int.add_mul, Int.one_mul] at h6
 omega
theorem Ev.eq {α : Type} {g : Nat → Option α} {r s : α} (h : Ev g r) (e : r = s) : Ev g s := e ▸ h
theorem addR {a b : List Int} {x y : Int} {n m : Nat} (ha : Row a x n) (hb : Row b y m) (h1 : n ≤ 4294967296) (h2 : m ≤ 4294967296) : Ev (fun k => jh.f k a b) (dg (x + y)) := by
 have := jHd ha.1 hb.1 (Nat.le_trans ha.2.2 h1) (Nat.le_trans hb.2.2 h2)
 rwa [ha.2.1, hb.2.1] at this
theorem cmpR {a b : List Int} {x y : Int} {n m : Nat} (ha : Row a x n) (hb : Row b y m) (h1 : n ≤ 17592186044416) (h2 : m ≤ 17592186044416) : Ev (fun k => vG.f k a b) (cmpv x y) := by
 have := jDU ha.1 hb.1 (Nat.le_trans ha.2.2 h1) (Nat.le_trans hb.2.2 h2)
 rwa [ha.2.1, hb.2.1] at this
theorem subR {a b : List Int} {x y : Int} {n m : Nat} (ha : Row a x n) (hb : Row b y m) (h1 : n ≤ 4294967296) (h2 : m ≤ 4294967296) : Ev (fun k => vJ.f k a b) (if x < y then ([], false) else (dg (x - y), true)) := by
 have := jGu ha.1 hb.1 (Nat.le_trans ha.2.2 h1) (Nat.le_trans hb.2.2 h2)
 rwa [ha.2.1, hb.2.1] at this
theorem jBz {a b : List Int} {x y : Int} {n m : Nat} (ha : Row a x n) (hb : Row b y m) (h1 : n ≤ 4294967296) (h2 : m ≤ 4294967296) (h : y ≤ x) : Ev (fun k => vJ.f k a b) (dg (x - y), true) := Ev.eq (subR ha hb h1 h2) (if_neg (by omega))
theorem jGE {a b : List Int} {x y : Int} {n m : Nat} (ha : Row a x n) (hb : Row b y m) (h1 : n ≤ 4294967296) (h2 : m ≤ 4294967296) (h : x < y) : Ev (fun k => vJ.f k a b) ([], false) := Ev.eq (subR ha hb h1 h2) (if_pos h)
theorem mulR {a b : List Int} {x y : Int} {n m : Nat} (ha : Row a x n) (hb : Row b y m) (h1 : n ≤ 4294967295) (h2 : m ≤ 4294967295) : Ev (fun k => jg.f k a b) (dg (x * y)) := by
 have := jDM ha.1 hb.1 (Nat.le_trans ha.2.2 h1) (Nat.le_trans hb.2.2 h2)
 rwa [ha.2.1, hb.2.1] at this
end Go.Proofs.Ytijgeonhbmgikaa.EORatioSigns
end
section
set_option linter.unusedVariables false
set_option linter.unusedSimpArgs false
namespace Go.Proofs.YtijgeonhbmgikaaN
open Go
theorem jGp : B = 2 ^ 64 := by rw [B_eq]; simp
theorem two_pos (n : Nat) : (0 : Int) < 2 ^ n := Int.pow_pos (by decide)
theorem jDE {m n : Nat} (h : m ≤ n) : (2 : Int) ^ m ≤ 2 ^ n := by
 obtain ⟨k, rfl⟩ := Nat.le.dest h
 rw [Int.pow_add]
 have h1 := two_pos m
 have h2 := two_pos k
 have : (2 : Int) ^ m * 1 ≤ 2 ^ m * 2 ^ k := Int.mul_le_mul_of_nonneg_left (by omega) (by omega)
 omega
theorem jCP (q : Nat) : B ^ q = 2 ^ (64 * q) := by rw [jGp, Int.pow_mul]
theorem qj {r : Nat} (h : r ≤ 64) : (2 : Int) ^ r * 2 ^ (64 - r) = B := by
 rw [← Int.pow_add, jGp, show r + (64 - r) = 64 from by omega]
theorem jBP (r : Nat) : (2 : Int) ^ r = ((2 ^ r : Nat) : Int) := by simp
theorem or_hi {a b : Int} {r : Nat} (ha : 0 ≤ a) (hb : 0 ≤ b ∧ b < 2 ^ r) (hl : 2 ^ r * a < B) (hbB : b < B) : bits .or .u64 (2 ^ r * a) b = 2 ^ r * a + b := by
 obtain ⟨m, rfl⟩ := Int.eq_ofNat_of_zero_le ha
 obtain ⟨n, rfl⟩ := Int.eq_ofNat_of_zero_le hb.1
 have h2 := hb.2
 rw [jBP] at hl h2 ⊢
 rw [← Int.natCast_mul] at hl ⊢
 rw [B_eq] at hl hbB
 have h3 : n < 2 ^ r := Int.ofNat_lt.1 h2
 rw [bits_or_u64_nat _ _ (by omega) (by omega), ← Nat.two_pow_add_eq_or_of_lt h3]
 omega
theorem jIB {a b : Int} {r : Nat} (ha : 0 ≤ a) (hb : 0 ≤ b ∧ b < 2 ^ r) (hl : 2 ^ r * a < B) (hbB : b < B) : bits .or .u64 b (2 ^ r * a) = b + 2 ^ r * a := by
 obtain ⟨m, rfl⟩ := Int.eq_ofNat_of_zero_le ha
 obtain ⟨n, rfl⟩ := Int.eq_ofNat_of_zero_le hb.1
 have h2 := hb.2
 rw [jBP] at hl h2 ⊢
 rw [← Int.natCast_mul] at hl ⊢
 rw [B_eq] at hl hbB
 have h3 : n < 2 ^ r := Int.ofNat_lt.1 h2
 rw [bits_or_u64_nat _ _ (by omega) (by omega), Nat.or_comm, ← Nat.two_pow_add_eq_or_of_lt h3]
 omega
theorem jBr {x : Int} {r : Nat} (h : r ≤ 64) : 2 ^ r * (x % 2 ^ (64 - r)) + B * (x / 2 ^ (64 - r)) = 2 ^ r * x := by
 have e := Int.mul_ediv_add_emod x (2 ^ (64 - r))
 rw [← qj h]
 have : (2 : Int) ^ r * x = 2 ^ r * (2 ^ (64 - r) * (x / 2 ^ (64 - r)) + x % 2 ^ (64 - r)) := by rw [e]
 rw [this, Int.mul_add, Int.mul_assoc, Int.add_comm]
theorem jCm {x y V : Int} {r : Nat} (h : r ≤ 64) : (x + B * (y + B * V)) / 2 ^ r = (x / 2 ^ r + 2 ^ (64 - r) * (y % 2 ^ r)) + B * ((y + B * V) / 2 ^ r) := by
 have hp := two_pos r
 have e0 : (y + B * V) % 2 ^ r = y % 2 ^ r := by
  rw [← qj h, Int.mul_assoc, Int.add_mul_emod_self_left]
 generalize hz : y + B * V = Z at *
 have e := Int.mul_ediv_add_emod Z (2 ^ r)
 have e1 : B * Z = 2 ^ r * (2 ^ (64 - r) * Z) := by rw [← qj h, Int.mul_assoc]
 rw [e1, Int.add_mul_ediv_left _ _ (by omega), ← e0]
 have e2 : (2 : Int) ^ (64 - r) * Z = 2 ^ (64 - r) * (2 ^ r * (Z / 2 ^ r) + Z % 2 ^ r) := by rw [e]
 rw [e2, Int.mul_add, ← Int.mul_assoc, Int.mul_comm (2 ^ (64 - r)) (2 ^ r), qj h]
 omega
theorem jDo {x : Int} {r : Nat} (h : r ≤ 64) : 0 ≤ 2 ^ r * (x % 2 ^ (64 - r)) ∧ 2 ^ r * (x % 2 ^ (64 - r)) ≤ B - 2 ^ r := by
 have h1 := two_pos r
 have h2 := two_pos (64 - r)
 have h3 := Int.emod_nonneg x (b := 2 ^ (64 - r)) (by omega)
 have h4 := Int.emod_lt_of_pos x h2
 refine ⟨Int.mul_nonneg (by omega) h3, ?_⟩
 have h5 : (2 : Int) ^ r * (x % 2 ^ (64 - r)) ≤ 2 ^ r * (2 ^ (64 - r) - 1) := Int.mul_le_mul_of_nonneg_left (by omega) (by omega)
 rw [Int.mul_sub, qj h, Int.mul_one] at h5
 exact h5
theorem jAn {r : Nat} (h : r ≤ 64) : (2 : Int) ^ r ≤ B := by rw [jGp]; exact jDE h
end Go.Proofs.YtijgeonhbmgikaaN
end
section
set_option linter.unusedVariables false
set_option linter.unusedSimpArgs false
namespace Go.Proofs.Ytijgeonhbmgikaa.EORatioSigns
open Go.RowKit Go.Proofs.Ytijgeonhbmgikaa.PORatioSigns Go.Proofs.YtijgeonhbmgikaaN Go.Proofs.YtijgeonhbmgikaaW.PrintWords Go.Proofs.YtijgeonhbmgikaaW.PrintLast Go.Proofs.YtijgeonhbmgikaaW.PrintMore
theorem jCQ {x : Int} {r : Nat} (h : r ≤ 64) : shl .u64 x (r : Int) = 2 ^ r * (x % 2 ^ (64 - r)) := by
 unfold shl
 have e : min (Int.toNat (r : Int)) IntKind.u64.bits = r := by
  rw [Int.toNat_natCast]
  exact Nat.min_eq_left h
 have hp := two_pos r
 rw [e, IntKind.wrap_u64, show (18446744073709551616 : Int) = B from rfl, ← qj h, Int.mul_comm x, Int.mul_emod_mul_of_pos _ _ hp]
theorem jBQ {x : Int} {r : Nat} (h : r ≤ 64) : shr .u64 x (r : Int) = x / 2 ^ r := by
 unfold shr
 have e : min (Int.toNat (r : Int)) IntKind.u64.bits = r := by
  rw [Int.toNat_natCast]
  exact Nat.min_eq_left h
 rw [e]
theorem jEz {x : Int} {r : Nat} (h : r ≤ 63) : shr .u64 x ((63 - r : Nat) : Int) / 2 = x / 2 ^ (64 - r) := by
 rw [jBQ (by omega), Int.ediv_ediv_of_nonneg (Int.le_of_lt (two_pos _)), show 64 - r = 63 - r + 1 from by omega, Int.pow_succ]
theorem jFP {x c : Int} {r : Nat} (hr : r ≤ 63) (hx : 0 ≤ x ∧ x < B) (hc : 0 ≤ c ∧ c < 2 ^ r) : ∃ v c', shl .u64 x (r : Int) |> fun s => Go.bits .or .u64 s c = v ∧ shr .u64 x ((63 - r : Nat) : Int) / 2 = c' ∧ (0 ≤ v ∧ v < B) ∧ (0 ≤ c' ∧ c' < 2 ^ r) ∧ v + B * c' = c + 2 ^ r * x := by
 have h64 : r ≤ 64 := by omega
 have h1 := jDo (x := x) h64
 have h2 := jBr (x := x) h64
 have h3 := two_pos (64 - r)
 have h4 := jAn h64
 have h5 := Int.emod_nonneg x (b := 2 ^ (64 - r)) (by omega)
 have h6 : x / 2 ^ (64 - r) < 2 ^ r := by
  apply Int.ediv_lt_of_lt_mul h3
  rw [qj h64]
  exact hx.2
 have h7 : 0 ≤ x / 2 ^ (64 - r) := Int.ediv_nonneg hx.1 (by omega)
 refine ⟨2 ^ r * (x % 2 ^ (64 - r)) + c, x / 2 ^ (64 - r), ?_, jEz hr, ?_, ⟨h7, h6⟩, ?_⟩
 ·
  rw [jCQ h64, or_hi h5 hc (by omega) (by omega)]
 ·
  omega
 ·
  omega
theorem jFQ {out : List Int} {x c v c' V : Int} {r : Nat} (h : v + B * c' = c + 2 ^ r * x) : val (out ++ [v]) + B ^ (out ++ [v]).length * (c' + 2 ^ r * V) = val out + B ^ out.length * (c + 2 ^ r * (x + B * V)) := by
 have e : c + 2 ^ r * (x + B * V) = v + B * (c' + 2 ^ r * V) := by
  rw [Int.mul_add, Int.mul_add, ← Int.mul_assoc, ← Int.mul_assoc, Int.mul_comm B (2 ^ r)]
  omega
 rw [e, jAm, List.length_append, List.length_singleton, ze, Int.mul_add (B ^ out.length), Int.mul_assoc, Int.add_assoc]
theorem jHI {n : Nat} {out a : List Int} {c v c' : Int} {i : Nat} (hn : n ≤ 1000) (hl : a.length ≤ 4294967296) (hi : i < a.length) (ho : out.length ≤ i + 100) (h1 : Go.bits .or .u64 (shl .u64 (a.getD i 0) ((n % 64 : Nat) : Int)) c = v) (h2 : shr .u64 (a.getD i 0) ((63 - n % 64 : Nat) : Int) / 2 = c') (k : Nat) : jF.l1 (k + 1) n out c a a.length i = jF.l1 k n (out ++ [v]) c' a a.length ((i + 1 : Nat) : Int) := by
 have hw : wrap64 ((i : Int) + 1) = ((i + 1 : Nat) : Int) := by rw [w64 (by omega)]; omega
 have hr : Int.tmod (n : Int) 64 = ((n % 64 : Nat) : Int) := by rw [Int.tmod_eq_emod_of_nonneg (by omega)]; omega
 have hr' : wrap64 (63 - ((n % 64 : Nat) : Int)) = ((63 - n % 64 : Nat) : Int) := by rw [w64 (by omega)]; omega
 have c0 : (0 : Int) ≤ (i : Int) := by omega
 have c1 : (i : Int) < (a.length : Int) := by omega
 have c2 : (0 : Int) ≤ ((n % 64 : Nat) : Int) := by omega
 have c3 : (0 : Int) ≤ ((63 - n % 64 : Nat) : Int) := by omega
 have c4 : out.length < 17592186044416 := by omega
 simp only [jF.l1, hw, hr, hr', ql, h1, h2]
 rw [if_pos c1, if_pos c0, if_pos c1, if_pos c2, if_pos c4, if_pos c3]
theorem jGP (a : List Int) (ha : Ok a) (hl : a.length ≤ 4294967296) (n : Nat) (hn : n ≤ 1000) : ∀ (d : Nat) (out : List Int) (c : Int) (i : Nat), a.length - i = d → i ≤ a.length → Ok out → out.length ≤ i + 100 → (0 ≤ c ∧ c < 2 ^ (n % 64)) → Ev (fun k => jF.l1 k n out c a a.length i) (dg (val out + B ^ out.length * (c + 2 ^ (n % 64) * val (a.drop i)))) := by
 intro d
 induction d with
 | zero =>
  intro out c i hd hi ho hol hc
  have e : a.drop i = [] := List.drop_eq_nil_of_le (by omega)
  have hcB : c < B := Int.lt_of_lt_of_le hc.2 (jAn (by omega))
  have hok : Ok (out ++ [c]) := ho.append (Ok.one hc.1 hcB)
  have hll : (out ++ [c]).length ≤ 4294967397 := by simp; omega
  have c1 : ¬ ((i : Int) < (a.length : Int)) := by omega
  have c4 : out.length < 17592186044416 := by omega
  refine Ev.step (f := fun k => (jK.f k (out ++ [c])).bind fun t => ((jP.f t).bind fun t => (some t))) (fun k => by simp only [jF.l1]; rw [if_neg c1, if_pos c4]) ?_
  rw [e, qM, Int.mul_zero, Int.add_zero, ← jAm]
  have := zn hok
  exact Ev.bind (qc hok (by omega)) (Ev.vv (jBM (by omega)) (Ev.now _))
 | succ d ih =>
  intro out c i hd hi ho hol hc
  have hia : i < a.length := by omega
  obtain ⟨v, c', h1, h2, h3, h4, h5⟩ := jFP (r := n % 64) (by omega) (ha.at i) hc
  refine Ev.step (jHI hn hl hia hol h1 h2) ?_
  have := ih (out ++ [v]) c' (i + 1) (by omega) (by omega) (ho.append (Ok.one h3.1 h3.2)) (by simp; omega) h4
  rw [jFQ h5, ← qC hia] at this
  exact this
theorem jBR {a : List Int} (ha : Ok a) (hal : a.length ≤ 4294967296) {n : Int} (hn : 0 ≤ n) : Ev (fun k => jF.f k a n) (dg (val a * 2 ^ (min n.toNat 1000))) := by
 unfold jF.f
 have e : mn n 1000 = ((min n.toNat 1000 : Nat) : Int) := by unfold mn; split <;> omega
 rw [e]
 have hN : min n.toNat 1000 ≤ 1000 := Nat.min_le_right ..
 generalize min n.toNat 1000 = N at *
 have hq : wrap64 (Int.tdiv (N : Int) 64) = ((N / 64 : Nat) : Int) := by rw [Int.tdiv_eq_ediv_of_nonneg (by omega), w64 (by omega)]; omega
 have hdl := zn ha
 have hw : wrap64 (wrap64 (((N / 64 : Nat) : Int) + ((dg (val a)).length : Int)) + 1) = ((N / 64 + (dg (val a)).length + 1 : Nat) : Int) := by
  rw [w64 (x := ((N / 64 : Nat) : Int) + ((dg (val a)).length : Int)) (by omega), w64 (by omega)]
  omega
 refine Ev.bind (qc ha (by omega)) (Ev.neg (by omega) ?_)
 simp only [hq, hw, Int.toNat_natCast]
 refine Ev.pos (by omega) (Ev.pos (by omega) (Ev.pos (by omega) ?_))
 have h := jGP (dg (val a)) (zx _) (by omega) N hN _ (List.replicate (N / 64) 0) 0 0 rfl (by omega) (Ok.rep _) (by simp; omega) ⟨Int.le_refl _, two_pos _⟩
 rw [jAZ, List.length_replicate, List.drop_zero, zu (jo ha), Int.zero_add, Int.zero_add, jCP, ← Int.mul_assoc, ← Int.pow_add, show 64 * (N / 64) + N % 64 = N from by omega, Int.mul_comm] at h
 exact h
theorem jCU {x y : Int} {r : Nat} (hr : r ≤ 63) (hx : 0 ≤ x ∧ x < B) (hy : 0 ≤ y ∧ y < B) : (0 ≤ x / 2 ^ r + 2 ^ (64 - r) * (y % 2 ^ r) ∧ x / 2 ^ r + 2 ^ (64 - r) * (y % 2 ^ r) < B) ∧ Go.bits .or .u64 (shr .u64 x (r : Int)) (shl .u64 y ((64 - r : Nat) : Int)) = x / 2 ^ r + 2 ^ (64 - r) * (y % 2 ^ r) := by
 have hr4 : 64 - r ≤ 64 := by omega
 have h64 : r ≤ 64 := by omega
 have h1 := jDo (x := y) hr4
 rw [jBQ h64, jCQ hr4]
 rw [show 64 - (64 - r) = r from by omega] at h1 ⊢
 have h2 := two_pos r
 have h5 := Int.emod_nonneg y (b := 2 ^ r) (by omega)
 have h6 : x / 2 ^ r < 2 ^ (64 - r) := by
  apply Int.ediv_lt_of_lt_mul h2
  rw [Int.mul_comm, qj h64]
  exact hx.2
 have h7 : 0 ≤ x / 2 ^ r := Int.ediv_nonneg hx.1 (by omega)
 have h8 := jAn hr4
 have h9 := two_pos (64 - r)
 refine ⟨?_, jIB h5 ⟨h7, h6⟩ (by omega) (by omega)⟩
 omega
theorem set_mid (t : List Int) (x y : Int) (s : List Int) : (t ++ x :: s).set t.length y = t ++ y :: s := by
 rw [List.set_append_right _ _ (Nat.le_refl _), Nat.sub_self, List.set_cons_zero]
theorem jCF (t : List Int) (x : Int) (s : List Int) (j : Nat) : (t ++ x :: s).getD (t.length + j) 0 = (x :: s).getD j 0 := by
 rw [List.getD_eq_getElem?_getD, List.getD_eq_getElem?_getD, List.getElem?_append_right (by omega), Nat.add_sub_cancel_left]
theorem jGI {t s : List Int} {x : Int} {r : Nat} (hr : r ≤ 63) (ht : Ok (x :: s)) (hl : t.length + s.length ≤ 4294967296) (L : Nat) (hL : L = t.length + 1 + s.length) (k : Nat) : jF.l0 (k + 1) (t ++ x :: s) (r : Int) L t.length = jF.l0 k ((t ++ [x / 2 ^ r + 2 ^ (64 - r) * (s.getD 0 0 % 2 ^ r)]) ++ s) (r : Int) L ((t ++ [x / 2 ^ r + 2 ^ (64 - r) * (s.getD 0 0 % 2 ^ r)]).length : Int) := by
 obtain ⟨hv, hor⟩ := jCU hr ht.head (ht.tail.at 0)
 have hw : wrap64 ((t.length : Int) + 1) = ((t.length + 1 : Nat) : Int) := by rw [w64 (by omega)]; omega
 have hr' : wrap64 (64 - (r : Int)) = ((64 - r : Nat) : Int) := by rw [w64 (by omega)]; omega
 have g0 := jCF t x s 0
 have hlen : (t ++ x :: s).length = t.length + 1 + s.length := by simp; omega
 have c0 : (0 : Int) ≤ (t.length : Int) := by omega
 have c1 : (t.length : Int) < (L : Int) := by omega
 have c2 : (t.length : Int) < ((t ++ x :: s).length : Int) := by omega
 have c3 : (0 : Int) ≤ (r : Int) := by omega
 have e1 : (t ++ [x / 2 ^ r + 2 ^ (64 - r) * (s.getD 0 0 % 2 ^ r)]).length = t.length + 1 := by simp
 rw [List.append_assoc, List.singleton_append, e1]
 have g0' : (t ++ x :: s).getD t.length 0 = x := g0
 have g1 : (t ++ (x / 2 ^ r) :: s).getD t.length 0 = x / 2 ^ r := jCF t _ s 0
 have g2 : (t ++ (x / 2 ^ r) :: s).getD (t.length + 1) 0 = s.getD 0 0 := jCF t _ s 1
 simp only [jF.l0, hw, hr', ql, Int.toNat_natCast, qJ, g0', jBQ (show r ≤ 64 from by omega), set_mid, g1, g2]
 rw [jBQ (show r ≤ 64 from by omega)] at hor
 rw [hor, if_pos c1, if_pos c0, if_pos c2, if_pos c3]
 by_cases hs : s = []
 ·
  subst hs
  have c4 : ¬ ((t.length + 1 : Nat) : Int) < ((t ++ [x]).length : Int) := by simp
  rw [if_neg c4]
  simp
 ·
  have hsl := List.length_pos_iff.2 hs
  have c4 : ((t.length + 1 : Nat) : Int) < ((t ++ x :: s).length : Int) := by omega
  rw [if_pos c4]
  by_cases hr0 : r = 0
  ·
   subst hr0
   rw [if_neg (by omega)]
   simp [Int.emod_one]
  ·
   have c5 : (r : Int) > 0 := by omega
   have c6 : (0 : Int) ≤ ((t.length + 1 : Nat) : Int) := by omega
   have c7 : (0 : Int) ≤ ((64 - r : Nat) : Int) := by omega
   rw [if_pos c5, if_pos c6, if_pos c7]
theorem jFC (r : Nat) (hr : r ≤ 63) (L : Nat) : ∀ (s t : List Int), Ok t → Ok s → t.length + s.length ≤ 4294967296 → L = t.length + s.length → Ev (fun k => jF.l0 k (t ++ s) (r : Int) L t.length) (dg (val t + B ^ t.length * (val s / 2 ^ r))) := by
 intro s
 induction s with
 | nil =>
  intro t ht _ hl hL
  have c1 : ¬ (t.length : Int) < (L : Int) := by simp at hL; omega
  refine Ev.step (f := fun k => (jK.f k t).bind fun t => some t) (fun k => by simp only [jF.l0, List.append_nil]; rw [if_neg c1]) ?_
  rw [qM, Int.zero_ediv, Int.mul_zero, Int.add_zero]
  exact Ev.bind (qc ht (by simp at hl; omega)) (Ev.now _)
 | cons x s ih =>
  intro t ht hs hl hL
  have hl1 : t.length + (s.length + 1) ≤ 4294967296 := hl
  have hL1 : L = t.length + (s.length + 1) := hL
  refine Ev.step (jGI hr hs (by omega) L (by omega)) ?_
  obtain ⟨hv, _⟩ := jCU hr hs.head (hs.tail.at 0)
  have e1 : (t ++ [x / 2 ^ r + 2 ^ (64 - r) * (s.getD 0 0 % 2 ^ r)]).length = t.length + 1 := by simp
  have := ih (t ++ [x / 2 ^ r + 2 ^ (64 - r) * (s.getD 0 0 % 2 ^ r)]) (ht.append (Ok.one hv.1 hv.2)) hs.tail (by rw [e1]; omega) (by rw [e1]; omega)
  refine Ev.eq this ?_
  have e2 : val s = s.getD 0 0 + B * val (s.drop 1) := by
   cases s with
   | nil => simp [val]
   | cons y s => rfl
  have e3 : val (x :: s) / 2 ^ r = (x / 2 ^ r + 2 ^ (64 - r) * (s.getD 0 0 % 2 ^ r)) + B * (val s / 2 ^ r) := by
   rw [qb, e2]
   exact jCm (by omega)
  rw [e3, e1, jAm, ze]
  generalize x / 2 ^ r + 2 ^ (64 - r) * (s.getD 0 0 % 2 ^ r) = u
  rw [Int.mul_add (B ^ t.length), Int.mul_assoc, Int.add_assoc]
theorem jCR {v : Int} (hv : 0 ≤ v) {m : Nat} (h : (dg v).length ≤ m / 64) : v / 2 ^ m = 0 := by
 have h1 := jEI h
 rw [jCP] at h1
 have h2 : (2 : Int) ^ (64 * (m / 64)) ≤ 2 ^ m := jDE (by omega)
 exact Int.ediv_eq_zero_of_lt hv (by omega)
theorem jFD {v : Int} (hv : 0 ≤ v) {m : Nat} (hl : (dg v).length ≤ 4294967296) (h : m / 64 < (dg v).length) : Ev (fun k => jF.j0 k (dg v) m false) (dg (v / 2 ^ m)) := by
 have hq : wrap64 (Int.tdiv (m : Int) 64) = ((m / 64 : Nat) : Int) := by rw [Int.tdiv_eq_ediv_of_nonneg (by omega), w64 (by omega)]; omega
 have hr : Int.tmod (m : Int) 64 = ((m % 64 : Nat) : Int) := by rw [Int.tmod_eq_emod_of_nonneg (by omega)]; omega
 have c1 : (0 : Int) ≤ ((m / 64 : Nat) : Int) := by omega
 have c2 : ((m / 64 : Nat) : Int) ≤ ((dg v).length : Int) := by omega
 have c3 : ¬ (false = true) := by decide
 have hdl : ((dg v).drop (m / 64)).length ≤ (dg v).length := by rw [List.length_drop]; omega
 refine Ev.step (f := fun k => jF.l0 k ([] ++ (dg v).drop (m / 64)) ((m % 64 : Nat) : Int) (((dg v).drop (m / 64)).length : Int) (([] : List Int).length : Int)) (fun k => ?_) ?_
 ·
  simp only [jF.j0, hq, hr, Int.toNat_natCast]
  rw [if_neg c3, if_pos c1, if_pos c2, jBM (by omega)]
  rfl
 ·
  have := jFC (m % 64) (by omega) ((dg v).drop (m / 64)).length ((dg v).drop (m / 64)) [] Ok.nil ((zx v).drop _) (by simp; omega) (by simp)
  refine Ev.eq this ?_
  have e := vW (dg v) (m / 64) (by omega)
  rw [zu hv] at e
  have ht := qh ((zx v).take (m / 64))
  have htn := jo ((zx v).take (m / 64))
  rw [List.length_take, Nat.min_eq_left (by omega)] at ht
  have hB := zi (m / 64)
  have e2 : v / B ^ (m / 64) = val ((dg v).drop (m / 64)) := by
   rw [e, Int.add_mul_ediv_left _ _ (by omega), Int.ediv_eq_zero_of_lt htn ht, Int.zero_add, ← e]
  rw [qM, List.length_nil, Int.pow_zero, Int.one_mul, Int.zero_add, ← e2, Int.ediv_ediv_of_nonneg (by omega), jCP, ← Int.pow_add, show 64 * (m / 64) + m % 64 = m from by omega]
theorem jDp {a : List Int} (ha : Ok a) (hal : a.length ≤ 1000) {n : Int} (hn : n < 0) : Ev (fun k => jF.f k a n) (dg (val a / 2 ^ (-n).toNat)) := by
 unfold jF.f
 have hdl := zn ha
 have hv := jo ha
 refine Ev.bind (qc ha (by omega)) (Ev.pos (by omega) ?_)
 by_cases hm : n < -100000
 ·
  have e : wrap64 (-(mx n (-100001))) = 100001 := by
   have : mx n (-100001) = -100001 := by unfold mx; split <;> omega
   rw [this, w64 (by omega)]; omega
  rw [e]
  refine Ev.pos (by decide) ?_
  refine Ev.step (fun k => by simp only [jF.j0]; rw [if_pos trivial]) (Ev.eq (Ev.now _) ?_)
  rw [jCR hv (by omega), jAL]
 ·
  have e : wrap64 (-(mx n (-100001))) = (((-n).toNat : Nat) : Int) := by
   have : mx n (-100001) = n := by unfold mx; split <;> omega
   rw [this, w64 (by omega)]; omega
  rw [e]
  have hM : (-n).toNat ≤ 100000 := by omega
  generalize (-n).toNat = M at *
  refine Ev.neg (by omega) ?_
  have hq : wrap64 (Int.tdiv (M : Int) 64) = ((M / 64 : Nat) : Int) := by rw [Int.tdiv_eq_ediv_of_nonneg (by omega), w64 (by omega)]; omega
  rw [hq]
  by_cases h : M / 64 < (dg (val a)).length
  ·
   have c : decide (((M / 64 : Nat) : Int) ≥ ((dg (val a)).length : Int)) = false := by simp; omega
   rw [c]
   exact jFD hv (by omega) h
  ·
   have c : decide (((M / 64 : Nat) : Int) ≥ ((dg (val a)).length : Int)) = true := by simp; omega
   rw [c]
   refine Ev.step (fun k => by simp only [jF.j0]; rw [if_pos trivial]) (Ev.eq (Ev.now _) ?_)
   rw [jCR hv (by omega), jAL]
end Go.Proofs.Ytijgeonhbmgikaa.EORatioSigns
end
section
set_option linter.unusedVariables false
set_option linter.unusedSimpArgs false
namespace Go.Proofs.YtijgeonhbmgikaaN
def H : Int := 4294967296
theorem H_eq : H = 4294967296 := rfl
theorem jBg : 0 < H := by unfold H; decide
theorem HH : H * H = B := by decide
def OkH (l : List Int) : Prop := ∀ x ∈ l, 0 ≤ x ∧ x < H
def hval : List Int → Int
 | [] => 0
 | x :: xs => x + H * hval xs
theorem OkH.nil : OkH [] := fun _ h => absurd h List.not_mem_nil
theorem OkH.cons {x : Int} {l : List Int} (h0 : 0 ≤ x) (h1 : x < H) (h : OkH l) : OkH (x :: l) := by
 intro y hy
 rcases List.mem_cons.1 hy with rfl | hy
 ·
  exact ⟨h0, h1⟩
 ·
  exact h y hy
theorem OkH.head {x : Int} {l : List Int} (h : OkH (x :: l)) : 0 ≤ x ∧ x < H := h x (List.mem_cons_self ..)
theorem OkH.tail {x : Int} {l : List Int} (h : OkH (x :: l)) : OkH l := fun y hy => h y (List.mem_cons_of_mem _ hy)
theorem OkH.append {a b : List Int} (ha : OkH a) (hb : OkH b) : OkH (a ++ b) := fun x hx => (List.mem_append.1 hx).elim (ha x) (hb x)
theorem OkH.take {a : List Int} (ha : OkH a) (n : Nat) : OkH (a.take n) := fun x hx => ha x (List.mem_of_mem_take hx)
theorem OkH.drop {a : List Int} (ha : OkH a) (n : Nat) : OkH (a.drop n) := fun x hx => ha x (List.mem_of_mem_drop hx)
theorem OkH.set {a : List Int} (ha : OkH a) (n : Nat) {x : Int} (h0 : 0 ≤ x) (h1 : x < H) : OkH (a.set n x) := fun y hy => by
 rcases List.mem_or_eq_of_mem_set hy with hy | rfl
 ·
  exact ha y hy
 ·
  exact ⟨h0, h1⟩
theorem OkH.one {x : Int} (h0 : 0 ≤ x) (h1 : x < H) : OkH [x] := OkH.cons h0 h1 OkH.nil
theorem OkH.rep (n : Nat) : OkH (List.replicate n 0) := fun x hx => by
 rw [List.eq_of_mem_replicate hx]
 exact ⟨Int.le_refl _, jBg⟩
theorem OkH.at {a : List Int} (ha : OkH a) (i : Nat) : 0 ≤ a.getD i 0 ∧ a.getD i 0 < H := by
 rw [List.getD_eq_getElem?_getD]
 by_cases h : i < a.length
 ·
  rw [List.getElem?_eq_getElem h]
  exact ha _ (List.getElem_mem h)
 ·
  rw [List.getElem?_eq_none (by omega)]
  exact ⟨Int.le_refl _, jBg⟩
end Go.Proofs.YtijgeonhbmgikaaN
end
section
set_option linter.unusedVariables false
set_option linter.unusedSimpArgs false
namespace Go.Proofs.YtijgeonhbmgikaaN
theorem jHT {a b n u q rh Q : Int} (hY : 0 < a * H + b) (hq : q * a + rh = n) (h2 : q * b ≤ H * rh + u) (hQ2 : n * H + u < (Q + 1) * (a * H + b)) : q ≤ Q := by
 have e : q * (a * H + b) ≤ n * H + u := by
  rw [Int.mul_add, ← Int.mul_assoc, ← hq, Int.add_mul, Int.mul_comm rh H]
  omega
 rcases Int.lt_or_le Q q with h | h
 ·
  have := Int.mul_le_mul_of_nonneg_right (show Q + 1 ≤ q from h) (Int.le_of_lt hY)
  omega
 ·
  exact h
theorem jGU {a b n u q rh Q : Int} (hq : q * a + rh = n) (hQ : Q ≤ q) (hQH : Q < H) (hQ1 : Q * (a * H + b) ≤ n * H + u) (hc : H ≤ q ∨ H * rh + u < q * b) : Q ≤ q - 1 := by
 rcases hc with hc | hc
 ·
  omega
 ·
  rcases Int.lt_or_le Q q with h | h
  ·
   omega
  ·
   exfalso
   have e : Q = q := by omega
   subst e
   rw [Int.mul_add, ← Int.mul_assoc, ← hq, Int.add_mul, Int.mul_comm rh H] at hQ1
   omega
theorem jFX {a b n u q rh Q : Int} (ha : 0 < a) (hb : 0 ≤ b ∧ b < H) (hu : 0 ≤ u) (hn : n < a * H + b) (hq : q * a + rh = n) (hQ : Q ≤ q) (hQ0 : 0 ≤ Q) (hr : H ≤ rh) (hQ2 : n * H + u < (Q + 1) * (a * H + b)) : q = Q := by
 have hH := jBg
 have h0 : 0 < a * H := Int.mul_pos ha hH
 have hqH : q < H := by
  rcases Int.lt_or_le q H with h | h
  ·
   exact h
  ·
   have h1 := Int.mul_le_mul_of_nonneg_right h (Int.le_of_lt ha)
   rw [Int.mul_comm H a] at h1
   omega
 have h2 : q * b ≤ H * b := Int.mul_le_mul_of_nonneg_right (by omega) hb.1
 have h3 : H * b ≤ H * rh := Int.mul_le_mul_of_nonneg_left (by omega) (by omega)
 have := jHT (by omega) hq (by omega) hQ2
 omega
theorem jGT {a b n u q rh Q : Int} (hY : 0 < a * H + b) (hq : q * a + rh = n) (hQ : Q ≤ q) (h2 : q * b ≤ H * rh + u) (hQ2 : n * H + u < (Q + 1) * (a * H + b)) : q = Q := by
 have := jHT hY hq h2 hQ2
 omega
theorem jFW {a b n u Q : Int} (ha : 0 < a) (hb : 0 ≤ b) (hu : u < H) (hQ0 : 0 ≤ Q) (hQ1 : Q * (a * H + b) ≤ n * H + u) : Q ≤ n / a := by
 have hH := jBg
 refine Int.le_ediv_of_mul_le ha ?_
 have h1 : 0 ≤ Q * b := Int.mul_nonneg hQ0 hb
 rw [Int.mul_add, ← Int.mul_assoc] at hQ1
 rcases Int.lt_or_le n (Q * a) with h | h
 ·
  exfalso
  have := Int.mul_le_mul_of_nonneg_right (show n + 1 ≤ Q * a from h) (Int.le_of_lt hH)
  rw [Int.add_mul, Int.one_mul] at this
  omega
 ·
  exact h
theorem jIF {Y n u : Int} (hn : 0 ≤ n ∧ n < Y) (hu : 0 ≤ u ∧ u < H) : ∃ Q, 0 ≤ Q ∧ Q < H ∧ Q * Y ≤ n * H + u ∧ n * H + u < (Q + 1) * Y := by
 have hH := jBg
 have hY : 0 < Y := by omega
 have h0 : 0 ≤ n * H := Int.mul_nonneg hn.1 (by omega)
 refine ⟨(n * H + u) / Y, Int.ediv_nonneg (by omega) (by omega), Int.ediv_lt_of_lt_mul hY ?_, Int.ediv_mul_le _ (by omega), ?_⟩
 ·
  have h3 : (n + 1) * H ≤ Y * H := Int.mul_le_mul_of_nonneg_right (by omega) (by omega)
  rw [Int.add_mul, Int.one_mul] at h3
  rw [Int.mul_comm H]
  omega
 ·
  have := Int.lt_ediv_add_one_mul_self (n * H + u) hY
  exact this
theorem jHS {n u1 u0 Y Q1 Q0 r1 r0 : Int} (h1 : n * H + u1 = Q1 * Y + r1) (h0 : r1 * H + u0 = Q0 * Y + r0) : n * B + (u1 * H + u0) = (Q1 * H + Q0) * Y + r0 := by
 have e : n * B + (u1 * H + u0) = (n * H + u1) * H + u0 := by
  rw [Int.add_mul, Int.mul_assoc, HH, Int.add_assoc]
 rw [e, h1, Int.add_mul, Int.add_assoc, h0, Int.add_mul, Int.mul_assoc, Int.mul_comm Y H, ← Int.mul_assoc, Int.add_assoc]
theorem jDQ {N y p Q r : Int} (hp : 0 < p) (hy : 0 < y) (h : N * p = Q * (y * p) + r) (hr : 0 ≤ r ∧ r < y * p) : Q = N / y ∧ r / p = N % y := by
 have e : r = (N - Q * y) * p := by rw [Int.sub_mul, Int.mul_assoc]; omega
 have h1 : 0 ≤ N - Q * y := by
  rcases Int.lt_or_le (N - Q * y) 0 with h2 | h2
  ·
   have := Int.mul_neg_of_neg_of_pos h2 hp
   omega
  ·
   exact h2
 have h2 : N - Q * y < y := by
  rw [e] at hr
  exact Int.lt_of_mul_lt_mul_right hr.2 (Int.le_of_lt hp)
 have e1 : N / y = Q := by
  rw [show N = (N - Q * y) + Q * y from by omega, Int.add_mul_ediv_right _ _ (by omega), Int.ediv_eq_zero_of_lt h1 h2]
  omega
 refine ⟨e1.symm, ?_⟩
 rw [e, Int.mul_ediv_cancel _ (by omega), Int.emod_def, e1, Int.mul_comm y]
end Go.Proofs.YtijgeonhbmgikaaN
end
section
set_option linter.unusedVariables false
set_option linter.unusedSimpArgs false
namespace Go.Proofs.Ytijgeonhbmgikaa.EORatioSigns
open Go.RowKit Go.Proofs.Ytijgeonhbmgikaa.PORatioSigns Go.Proofs.YtijgeonhbmgikaaN Go.Proofs.YtijgeonhbmgikaaW.PrintWords Go.Proofs.YtijgeonhbmgikaaW.PrintLast Go.Proofs.YtijgeonhbmgikaaW.PrintMore
theorem wr3 (p u r : Int) : IntKind.u64.wrap (IntKind.u64.wrap (IntKind.u64.wrap p + u) - IntKind.u64.wrap r) = IntKind.u64.wrap (p + u - r) := by
 simp only [IntKind.wrap_u64]
 omega
theorem jAv {x : Int} (h0 : 0 ≤ x) (h1 : x < B) : IntKind.u64.wrap x = x := by
 rw [IntKind.wrap_u64]
 rw [B_eq] at h1
 omega
theorem jCb {x y : Int} (hx : 0 ≤ x ∧ x < H) (hy : 0 ≤ y ∧ y < H) : 0 ≤ x * y ∧ x * y ≤ B - 2 * H + 1 := by
 have h1 : x * y ≤ (H - 1) * y := Int.mul_le_mul_of_nonneg_right (by omega) hy.1
 have h2 : (H - 1) * y ≤ (H - 1) * (H - 1) := Int.mul_le_mul_of_nonneg_left (by omega) (by have := jBg; omega)
 have h3 : (H - 1) * (H - 1) = B - 2 * H + 1 := by decide
 exact ⟨Int.mul_nonneg hx.1 hy.1, by omega⟩
theorem H2B : 2 * H < B := by decide
theorem jCn {n u Q Y : Int} (h1 : Q * Y ≤ n * H + u) (h2 : n * H + u < (Q + 1) * Y) (hY : Y < B) : IntKind.u64.wrap (IntKind.u64.wrap (IntKind.u64.wrap (n * 4294967296) + u) - IntKind.u64.wrap (Q * Y)) = n * H + u - Q * Y := by
 rw [wr3, show (4294967296 : Int) = H from rfl]
 rw [Int.add_mul, Int.one_mul] at h2
 exact jAv (by omega) (by omega)
structure jAT (Y a b n u q rh Q : Int) : Prop where
 Y_ : Y = a * H + b
 a_ : 0 < a
 b_ : 0 ≤ b ∧ b < H
 YB : Y < B
 n_ : 0 ≤ n ∧ n < Y
 u_ : 0 ≤ u ∧ u < H
 Q0 : 0 ≤ Q ∧ Q < H
 Q1 : Q * Y ≤ n * H + u
 Q2 : n * H + u < (Q + 1) * Y
 q_ : q * a + rh = n
 qQ : Q ≤ q
 qB : q < B
 rh_ : 0 ≤ rh ∧ rh < H
theorem jAT.aH {Y a b n u q rh Q : Int} (g : jAT Y a b n u q rh Q) : a < H := by
 rcases Int.lt_or_le a H with h | h
 ·
  exact h
 ·
  have h1 := Int.mul_le_mul_of_nonneg_right h (Int.le_of_lt jBg)
  rw [HH] at h1
  have h2 := g.Y_
  have h3 := g.YB
  have h4 := g.b_
  omega
theorem jAT.test {Y a b n u q rh Q : Int} (g : jAT Y a b n u q rh Q) (hq : q < H) : decide (IntKind.u64.wrap (q * b) > IntKind.u64.wrap (IntKind.u64.wrap (4294967296 * rh) + u)) = decide (H * rh + u < q * b) := by
 have h1 := jCb (x := q) (y := b) ⟨by have := g.Q0; have := g.qQ; omega, hq⟩ g.b_
 have h2 := jCb (x := H - 1) (y := rh) (by decide) g.rh_
 have h3 := H2B
 have e : (H - 1) * rh = H * rh - rh := by rw [Int.sub_mul, Int.one_mul]
 have h4 := g.rh_
 have h5 := g.u_
 have h6 := jBg
 have e2 : IntKind.u64.wrap (4294967296 * rh) = H * rh := by
  rw [show (4294967296 : Int) = H from rfl]
  exact jAv (by omega) (by omega)
 have e3 : IntKind.u64.wrap (H * rh + u) = H * rh + u := jAv (by omega) (by omega)
 have e4 : IntKind.u64.wrap (q * b) = q * b := jAv h1.1 (by omega)
 rw [e2, e3, e4]
theorem jAT.dec {Y a b n u q rh Q : Int} (g : jAT Y a b n u q rh Q) (hc : H ≤ q ∨ H * rh + u < q * b) : Q ≤ q - 1 ∧ IntKind.u64.wrap (q - 1) = q - 1 ∧ IntKind.u64.wrap (rh + a) = rh + a ∧ (q - 1) * a + (rh + a) = n := by
 have h1 : Q ≤ q - 1 := jGU (a := a) (b := b) (n := n) (u := u) (rh := rh) g.q_ g.qQ g.Q0.2 (by have := g.Q1; rwa [g.Y_] at this) hc
 have h2 := g.Q0
 have h3 := g.qB
 have h4 := g.rh_
 have h5 := g.aH
 have h6 := g.a_
 have h7 := H2B
 refine ⟨h1, jAv (by omega) (by omega), jAv (by omega) (by omega), ?_⟩
 have := g.q_
 rw [Int.sub_mul, Int.one_mul]
 omega
theorem jAT.brk {Y a b n u q rh Q : Int} (g : jAT Y a b n u q rh Q) (hc : H ≤ q ∨ H * rh + u < q * b) (hr : H ≤ rh + a) : q - 1 = Q := by
 obtain ⟨h1, _, _, h4⟩ := g.dec hc
 refine jFX (a := a) (b := b) (n := n) (u := u) g.a_ g.b_ g.u_.1 ?_ h4 h1 g.Q0.1 hr ?_
 ·
  have := g.n_.2; rwa [g.Y_] at this
 ·
  have := g.Q2; rwa [g.Y_] at this
theorem jAT.next {Y a b n u q rh Q : Int} (g : jAT Y a b n u q rh Q) (hc : H ≤ q ∨ H * rh + u < q * b) (hr : ¬ H ≤ rh + a) : jAT Y a b n u (q - 1) (rh + a) Q := by
 obtain ⟨h1, _, _, h4⟩ := g.dec hc
 exact ⟨g.Y_, g.a_, g.b_, g.YB, g.n_, g.u_, g.Q0, g.Q1, g.Q2, h4, h1, by have := g.qB; omega, by have := g.rh_; have := g.a_; omega⟩
theorem jAT.stop {Y a b n u q rh Q : Int} (g : jAT Y a b n u q rh Q) (hc : ¬ H * rh + u < q * b) : q = Q := by
 refine jGT (a := a) (b := b) (n := n) (u := u) (rh := rh) ?_ g.q_ g.qQ (by omega) ?_
 ·
  have := g.n_; rw [g.Y_] at this; omega
 ·
  have := g.Q2; rwa [g.Y_] at this
theorem jAT.make {Y a b n u : Int} (hY : Y = a * H + b) (ha : 0 < a) (hb : 0 ≤ b ∧ b < H) (hYB : Y < B) (hn : 0 ≤ n ∧ n < Y) (hu : 0 ≤ u ∧ u < H) (haH : a < H) : ∃ Q, jAT Y a b n u (n / a) (n % a) Q := by
 obtain ⟨Q, h0, h1, h2, h3⟩ := jIF hn hu
 have h4 := Int.emod_nonneg n (Int.ne_of_gt ha)
 have h5 := Int.emod_lt_of_pos n ha
 refine ⟨Q, hY, ha, hb, hYB, hn, hu, ⟨h0, h1⟩, h2, h3, ?_, ?_, ?_, ⟨h4, by omega⟩⟩
 ·
  rw [Int.mul_comm]; exact Int.mul_ediv_add_emod n a
 ·
  exact jFW ha hb.1 hu.2 h0 (by rwa [hY] at h2)
 ·
  have := Int.ediv_le_self a hn.1; omega
theorem jCq {n a : Int} (hn : 0 ≤ n ∧ n < B) (ha : 0 < a) : IntKind.u64.wrap (Int.tdiv n a) = n / a ∧ IntKind.u64.wrap (n - IntKind.u64.wrap (IntKind.u64.wrap (Int.tdiv n a) * a)) = n % a := by
 have h0 : 0 ≤ n / a := Int.ediv_nonneg hn.1 (Int.le_of_lt ha)
 have h1 := Int.ediv_le_self a hn.1
 have e1 : IntKind.u64.wrap (Int.tdiv n a) = n / a := by
  rw [Int.tdiv_eq_ediv_of_nonneg hn.1]
  exact jAv h0 (by omega)
 have h2 := Int.emod_nonneg n (Int.ne_of_gt ha)
 have h3 : n / a * a = n - n % a := by have := Int.mul_ediv_add_emod n a; rw [Int.mul_comm] at this; omega
 have h4 := Int.mul_nonneg h0 (Int.le_of_lt ha)
 refine ⟨e1, ?_⟩
 rw [e1, jAv h4 (by omega), h3, jAv (by omega) (by omega)]
 omega
theorem jHU {Y a b n u Q : Int} {s : Nat} (hs : s ≤ 63) {q1 : Int} (h1 : 0 ≤ q1 ∧ q1 < H) : ∀ (d : Nat) (q rh : Int), (q - Q).toNat = d → jAT Y a b n u q rh Q → Ev (fun k => jJ.l1 k Y (s : Int) a b u q1 rh n q) (q1 * H + Q, (n * H + u - Q * Y) / 2 ^ s) := by
 have hsum : ∀ {Q : Int}, 0 ≤ Q ∧ Q < H → IntKind.u64.wrap (IntKind.u64.wrap (q1 * 4294967296) + Q) = q1 * H + Q := by
  intro Q hQ
  have h2 : q1 * H ≤ (H - 1) * H := Int.mul_le_mul_of_nonneg_right (by omega) (Int.le_of_lt jBg)
  have h3 : (H - 1) * H = B - H := by decide
  have h4 := Int.mul_nonneg h1.1 (Int.le_of_lt jBg)
  have h5 := jBg
  rw [show (4294967296 : Int) = H from rfl, jAv h4 (by omega), jAv (by omega) (by omega)]
 intro d
 induction d with
 | zero =>
  intro q rh hd g
  obtain rfl : q = Q := by have := g.qQ; omega
  have hqH : ¬ q ≥ 4294967296 := by have := g.Q0.2; rw [H_eq] at this; omega
  have hno : ¬ H * rh + u < q * b := fun hc => by have := (g.dec (.inr hc)).1; omega
  refine Ev.step (f := fun k => jJ.j4 k Y (s : Int) a b u q1 rh n q false) (fun k => ?_) (Ev.step (fun k => by rw [jJ.j4]) (Ev.neg (by simp) (Ev.pos (by omega) (Ev.eq (Ev.now _) ?_))))
  ·
   rw [jJ.l1, if_neg hqH, g.test g.Q0.2, decide_eq_false hno]
  ·
   rw [hsum g.Q0, jCn g.Q1 g.Q2 g.YB, jBQ (by omega)]
 | succ d ih =>
  intro q rh hd g
  by_cases hc : H ≤ q ∨ H * rh + u < q * b
  ·
   obtain ⟨g1, g2, g3, _⟩ := g.dec hc
   refine Ev.step (f := fun k => jJ.j4 k Y (s : Int) a b u q1 rh n q true) (fun k => ?_) (Ev.step (fun k => by rw [jJ.j4]) (Ev.pos rfl ?_))
   ·
    rw [jJ.l1]
    by_cases hq : q < H
    ·
     have hqH : ¬ q ≥ 4294967296 := by rw [H_eq] at hq; omega
     rw [if_neg hqH, g.test hq, decide_eq_true (by omega)]
    ·
     have hqH : q ≥ 4294967296 := by rw [H_eq] at hq; omega
     rw [if_pos hqH]
   ·
    rw [g2, g3]
    by_cases hr : H ≤ rh + a
    ·
     have hb := g.brk hc hr
     refine Ev.pos (by rw [H_eq] at hr; omega) (Ev.pos (by omega) (Ev.eq (Ev.now _) ?_))
     rw [hb, hsum g.Q0, jCn g.Q1 g.Q2 g.YB, jBQ (by omega)]
    ·
     exact Ev.neg (by rw [H_eq] at hr; omega) (ih _ _ (by omega) (g.next hc hr))
  ·
   exfalso
   have := g.stop (fun h => hc (.inr h))
   omega
theorem jHW {Y a b n u1 u0 Q1 : Int} {s : Nat} (hs : s ≤ 63) (hY : Y = a * H + b) (ha : 0 < a) (hb : 0 ≤ b ∧ b < H) (haH : a < H) (hYB : Y < B) (hu0 : 0 ≤ u0 ∧ u0 < H) (hQ0 : 0 ≤ Q1 ∧ Q1 < H) (h1 : Q1 * Y ≤ n * H + u1) (h2 : n * H + u1 < (Q1 + 1) * Y) : ∃ Q0 r0, 0 ≤ r0 ∧ r0 < Y ∧ n * B + (u1 * H + u0) = (Q1 * H + Q0) * Y + r0 ∧ Ev (fun k => jJ.j2 k Y (s : Int) a b n u1 u0 Q1) (Q1 * H + Q0, r0 / 2 ^ s) := by
 have hr1 : 0 ≤ n * H + u1 - Q1 * Y ∧ n * H + u1 - Q1 * Y < Y := by rw [Int.add_mul, Int.one_mul] at h2; omega
 obtain ⟨Q0, g⟩ := jAT.make (n := n * H + u1 - Q1 * Y) (u := u0) hY ha hb hYB hr1 hu0 haH
 obtain ⟨e1, e2⟩ := jCq (n := n * H + u1 - Q1 * Y) ⟨hr1.1, by omega⟩ ha
 have g1 := g.Q1
 have g2 := g.Q2
 refine ⟨Q0, (n * H + u1 - Q1 * Y) * H + u0 - Q0 * Y, by omega, by rw [Int.add_mul, Int.one_mul] at g2; omega, ?_, ?_⟩
 ·
  exact jHS (r1 := n * H + u1 - Q1 * Y) (by omega) (by omega)
 ·
  refine Ev.step (fun k => by rw [jJ.j2]) (Ev.neg (by omega) ?_)
  rw [jCn h1 h2 hYB, e2, e1]
  exact jHU hs hQ0 _ _ _ rfl g
theorem jHV {Y a b n u1 u0 Q1 : Int} {s : Nat} (hu0 : 0 ≤ u0 ∧ u0 < H) {R : Int × Int} (hR : Ev (fun k => jJ.j2 k Y (s : Int) a b n u1 u0 Q1) R) : ∀ (d : Nat) (q rh : Int), (q - Q1).toNat = d → jAT Y a b n u1 q rh Q1 → Ev (fun k => jJ.l0 k Y (s : Int) a b n u1 u0 q rh) R := by
 intro d
 induction d with
 | zero =>
  intro q rh hd g
  obtain rfl : q = Q1 := by have := g.qQ; omega
  have hqH : ¬ q ≥ 4294967296 := by have := g.Q0.2; rw [H_eq] at this; omega
  have hno : ¬ H * rh + u1 < q * b := fun hc => by have := (g.dec (.inr hc)).1; omega
  refine Ev.step (f := fun k => jJ.j1 k Y (s : Int) a b n u1 u0 q rh false) (fun k => ?_) (Ev.step (fun k => by rw [jJ.j1]) (Ev.neg (by simp) hR))
  rw [jJ.l0, if_neg hqH, g.test g.Q0.2, decide_eq_false hno]
 | succ d ih =>
  intro q rh hd g
  by_cases hc : H ≤ q ∨ H * rh + u1 < q * b
  ·
   obtain ⟨g1, g2, g3, _⟩ := g.dec hc
   refine Ev.step (f := fun k => jJ.j1 k Y (s : Int) a b n u1 u0 q rh true) (fun k => ?_) (Ev.step (fun k => by rw [jJ.j1]) (Ev.pos rfl ?_))
   ·
    rw [jJ.l0]
    by_cases hq : q < H
    ·
     have hqH : ¬ q ≥ 4294967296 := by rw [H_eq] at hq; omega
     rw [if_neg hqH, g.test hq, decide_eq_true (by omega)]
    ·
     have hqH : q ≥ 4294967296 := by rw [H_eq] at hq; omega
     rw [if_pos hqH]
   ·
    rw [g2, g3]
    by_cases hr : H ≤ rh + a
    ·
     have hb := g.brk hc hr
     exact Ev.pos (by rw [H_eq] at hr; omega) (by rw [hb]; exact hR)
    ·
     exact Ev.neg (by rw [H_eq] at hr; omega) (ih _ _ (by omega) (g.next hc hr))
  ·
   exfalso
   have := g.stop (fun h => hc (.inr h))
   omega
theorem jEb : ∀ (n x : Nat), x < 2 ^ n → n ≤ 64 → (x = 0 ∧ Lib.bitLen x = 0) ∨ ∃ m, Lib.bitLen x = m + 1 ∧ m < n ∧ 2 ^ m ≤ x ∧ x < 2 ^ (m + 1) := by
 intro n
 induction n with
 | zero =>
  intro x h _
  have : x = 0 := by simp at h; omega
  subst this
  exact .inl ⟨rfl, by decide⟩
 | succ n ih =>
  intro x h hn
  by_cases hz : x = 0
  ·
   subst hz
   exact .inl ⟨rfl, by decide⟩
  ·
   have h64 : x < 2 ^ 64 := Nat.lt_of_lt_of_le h (Nat.pow_le_pow_right (by decide) hn)
   rw [Lib.bitLen_half x hz h64]
   refine .inr ?_
   have h2 : x / 2 < 2 ^ n := by rw [Nat.pow_succ] at h; omega
   rcases ih (x / 2) h2 (by omega) with ⟨e, f⟩ | ⟨m, e, hm, h3, h4⟩
   ·
    refine ⟨0, by omega, by omega, by simp; omega, by simp; omega⟩
   ·
    refine ⟨m + 1, by omega, by omega, ?_, ?_⟩
    ·
     rw [Nat.pow_succ]; omega
    ·
     rw [Nat.pow_succ]; omega
theorem jHG {x : Int} (h0 : 0 ≤ x) (h1 : x < B) : Go.bits .and .u64 x 4294967295 = x % 4294967296 := by
 obtain ⟨n, rfl⟩ := Int.eq_ofNat_of_zero_le h0
 rw [bits_Mul64.maskN n (by rw [B_eq] at h1; omega)]
 omega
theorem jEJ {y : Int} (h0 : 0 < y) (h1 : y < B) : ∃ s : Nat, s ≤ 63 ∧ bits_LeadingZeros64.f y = some (s : Int) ∧ y < 2 ^ (64 - s) ∧ 2 ^ s * y < B ∧ B ≤ 2 * (2 ^ s * y) := by
 obtain ⟨n, rfl⟩ := Int.eq_ofNat_of_zero_le (Int.le_of_lt h0)
 have hn : n < 2 ^ 64 := by rw [B_eq] at h1; omega
 rcases jEb 64 n hn (Nat.le_refl _) with ⟨e, _⟩ | ⟨m, e, hm, h2, h3⟩
 ·
  omega
 ·
  have e64 : (2 : Nat) ^ (63 - m) * 2 ^ (m + 1) = 18446744073709551616 := by rw [← Nat.pow_add, show 63 - m + (m + 1) = 64 from by omega]
  have h4 : 2 ^ (63 - m) * n < 2 ^ (63 - m) * 2 ^ (m + 1) := Nat.mul_lt_mul_of_pos_left h3 (Nat.pow_pos (by decide))
  have h5 : 2 ^ (63 - m) * 2 ^ m ≤ 2 ^ (63 - m) * n := Nat.mul_le_mul_left _ h2
  have e5 : (2 : Nat) ^ (63 - m) * 2 ^ (m + 1) = 2 * (2 ^ (63 - m) * 2 ^ m) := by rw [Nat.pow_succ, ← Nat.mul_assoc, Nat.mul_comm]
  refine ⟨63 - m, by omega, ?_, ?_, ?_, ?_⟩
  ·
   unfold bits_LeadingZeros64.f bits_Len64.f
   rw [if_pos ⟨Int.le_of_lt h0, h1⟩, Option.bind_some, Int.toNat_natCast, e, w64 (by omega)]
   congr 1
   omega
  ·
   rw [show 64 - (63 - m) = m + 1 from by omega, jBP]
   exact_mod_cast h3
  ·
   rw [jBP, ← Int.natCast_mul, B_eq]; omega
  ·
   rw [jBP, ← Int.natCast_mul, B_eq]; omega
theorem jDS {hi lo y : Int} (h0 : 0 ≤ hi) (hy : hi < y) (hlo : 0 ≤ lo ∧ lo < B) (hyB : y < B) : Ev (fun k => jJ.f k hi lo y) ((hi * B + lo) / y, (hi * B + lo) % y) := by
 unfold jJ.f
 refine Ev.neg (by omega) (Ev.neg (by omega) ?_)
 by_cases hz : hi = 0
 ·
  subst hz
  refine Ev.pos rfl (Ev.eq (Ev.now _) ?_)
  rw [Int.zero_mul, Int.zero_add, Int.tmod_eq_emod_of_nonneg hlo.1, (jCq hlo hy).1]
 ·
  refine Ev.neg hz ?_
  obtain ⟨s, hs, he, hy1, hy2, hy3⟩ := jEJ (by omega) hyB
  have hs64 : s ≤ 64 := by omega
  have hp := two_pos s
  have hp2 := two_pos (64 - s)
  have hsp := qj hs64
  have e1 : IntKind.u64.wrap (s : Int) = (s : Int) := jAv (by omega) (by rw [B_eq]; omega)
  have e2 : IntKind.u64.wrap (64 - (s : Int)) = ((64 - s : Nat) : Int) := by rw [jAv (by omega) (by rw [B_eq]; omega)]; omega
  have ey : shl .u64 y (s : Int) = 2 ^ s * y := by rw [jCQ hs64, Int.emod_eq_of_lt (by omega) hy1]
  have eh : shl .u64 hi (s : Int) = 2 ^ s * hi := by rw [jCQ hs64, Int.emod_eq_of_lt h0 (by omega)]
  have el : shl .u64 lo (s : Int) = 2 ^ s * (lo % 2 ^ (64 - s)) := jCQ hs64
  have er : shr .u64 lo ((64 - s : Nat) : Int) = lo / 2 ^ (64 - s) := jBQ (by omega)
  have hlq : 0 ≤ lo / 2 ^ (64 - s) := Int.ediv_nonneg hlo.1 (by omega)
  have hlq2 : lo / 2 ^ (64 - s) < 2 ^ s := Int.ediv_lt_of_lt_mul hp2 (by rw [hsp]; exact hlo.2)
  have hb := jDo (x := lo) hs64
  have hls := jBr (x := lo) hs64
  have h2B := jAn hs64
  have hhy : 2 ^ s * hi + 2 ^ s ≤ 2 ^ s * y := by
   have := Int.mul_le_mul_of_nonneg_left (show hi + 1 ≤ y from hy) (Int.le_of_lt hp)
   rw [Int.mul_add, Int.mul_one] at this
   exact this
  have h20 : 0 ≤ 2 ^ s * hi := Int.mul_nonneg (Int.le_of_lt hp) h0
  have eo : Go.bits .or .u64 (2 ^ s * hi) (lo / 2 ^ (64 - s)) = 2 ^ s * hi + lo / 2 ^ (64 - s) := or_hi h0 ⟨hlq, hlq2⟩ (by omega) (by omega)
  refine Ev.vv he ?_
  simp only [e1, e2, ey, eh, el, er, eo]
  have hn : 0 ≤ 2 ^ s * hi + lo / 2 ^ (64 - s) ∧ 2 ^ s * hi + lo / 2 ^ (64 - s) < 2 ^ s * y := by omega
  have hN : (hi * B + lo) * 2 ^ s = (2 ^ s * hi + lo / 2 ^ (64 - s)) * B + 2 ^ s * (lo % 2 ^ (64 - s)) := by
   rw [Int.add_mul, Int.add_mul, Int.mul_comm lo, ← hls, Int.mul_comm (hi * B), ← Int.mul_assoc, Int.mul_comm B]
   omega
  have hnB : 2 ^ s * hi + lo / 2 ^ (64 - s) < B := by omega
  have hu := Int.mul_nonneg (Int.le_of_lt hp) (Int.emod_nonneg lo (Int.ne_of_gt hp2))
  have huB : 2 ^ s * (lo % 2 ^ (64 - s)) < B := by omega
  have hsc : ∀ Q r : Int, 0 ≤ r → r < 2 ^ s * y → (2 ^ s * hi + lo / 2 ^ (64 - s)) * B + 2 ^ s * (lo % 2 ^ (64 - s)) = Q * (2 ^ s * y) + r → Q = (hi * B + lo) / y ∧ r / 2 ^ s = (hi * B + lo) % y := by
   intro Q r hr0 hr1 hq
   refine jDQ (p := 2 ^ s) hp (by omega) ?_ ⟨hr0, by rw [Int.mul_comm]; exact hr1⟩
   rw [hN, hq, Int.mul_comm y]
  clear hN hls hb e1 e2 ey eh el er eo h2B hsp hlq hlq2 hhy h20
  generalize 2 ^ s * hi + lo / 2 ^ (64 - s) = n at *
  generalize 2 ^ s * (lo % 2 ^ (64 - s)) = u at *
  generalize 2 ^ s * y = Y at *
  have hYa : Y = Y / 4294967296 * H + Y % 4294967296 := by rw [H_eq]; omega
  have hYa0 : 0 < Y / 4294967296 := by rw [B_eq] at hy3; omega
  have hYaH : Y / 4294967296 < H := by rw [H_eq]; rw [B_eq] at hy2; omega
  have hYb : 0 ≤ Y % 4294967296 ∧ Y % 4294967296 < H := by rw [H_eq]; omega
  have hu1 : 0 ≤ u / 4294967296 ∧ u / 4294967296 < H := by rw [H_eq]; rw [B_eq] at huB; omega
  have hu0 : 0 ≤ u % 4294967296 ∧ u % 4294967296 < H := by rw [H_eq]; omega
  have hua : u / 4294967296 * H + u % 4294967296 = u := by rw [H_eq]; omega
  rw [jHG (by omega) hy2, jHG hu huB]
  obtain ⟨Q1, g⟩ := jAT.make (n := n) (u := u / 4294967296) hYa hYa0 hYb hy2 hn hu1 hYaH
  obtain ⟨q1, q2⟩ := jCq (n := n) (a := Y / 4294967296) ⟨hn.1, hnB⟩ hYa0
  obtain ⟨Q0, r0, hr0, hr1, hq, hR⟩ := jHW (n := n) (u1 := u / 4294967296) (u0 := u % 4294967296) (s := s) hs hYa hYa0 hYb hYaH hy2 hu0 g.Q0 g.Q1 g.Q2
  rw [hua] at hq
  obtain ⟨f1, f2⟩ := hsc _ _ hr0 hr1 hq
  rw [q2, q1]
  refine Ev.pos (by omega) (Ev.pos (by omega) (Ev.neg (by omega) ?_))
  rw [← f1, ← f2]
  exact jHV hu0 hR _ _ _ rfl g
theorem jDR {hi lo y : Int} (h0 : 0 ≤ hi) (hy : hi < y) (hlo : 0 ≤ lo ∧ lo < B) : (hi * B + lo) / y < B := by
 refine Int.ediv_lt_of_lt_mul (by omega) ?_
 have := Int.mul_le_mul_of_nonneg_right (show hi + 1 ≤ y from hy) (Int.le_of_lt jAU)
 rw [Int.add_mul, Int.one_mul] at this
 rw [Int.mul_comm B]
 omega
end Go.Proofs.Ytijgeonhbmgikaa.EORatioSigns
end
section
set_option linter.unusedVariables false
set_option linter.unusedSimpArgs false
namespace Go.Proofs.Ytijgeonhbmgikaa.EORatioSigns
open Go.RowKit Go.Proofs.Ytijgeonhbmgikaa.PORatioSigns Go.Proofs.YtijgeonhbmgikaaN Go.Proofs.YtijgeonhbmgikaaW.PrintWords Go.Proofs.YtijgeonhbmgikaaW.PrintLast Go.Proofs.YtijgeonhbmgikaaW.PrintMore
def jCC (n : Nat) (l : List Int) : List Int := l ++ List.replicate (n - l.length) 0
theorem jEA {n : Nat} {l : List Int} (h : l.length ≤ n) : (jCC n l).length = n := by unfold jCC; simp; omega
theorem jDz (n : Nat) (l : List Int) : val (jCC n l) = val l := by unfold jCC; rw [val_append, jAZ]; omega
theorem jFK {n : Nat} {l : List Int} (h : Ok l) : Ok (jCC n l) := h.append (Ok.rep _)
theorem jEO {u v : List Int} (hu : Ok u) (hv : Ok v) (hul : u.length ≤ 1000) (hvl : v.length ≤ 1000) (hV : 0 < val v) : ∀ (d : Nat) (q : Int), (q - val u / val v).toNat = d → val u / val v ≤ q → q < B → Ev (fun k => jT.l v k u q) (val u / val v, jCC u.length (dg (val u % val v))) := by
 have hU := jo hu
 have hQ0 : 0 ≤ val u / val v := Int.ediv_nonneg hU (Int.le_of_lt hV)
 intro d
 induction d with
 | zero =>
  intro q hd h1 h2
  obtain rfl : q = val u / val v := by omega
  have hle : val v * (val u / val v) ≤ val u := Int.mul_ediv_self_le (Int.ne_of_gt hV)
  have rv := Row.of hv hvl
  have r1 : Row [val u / val v] (val u / val v) 1 := ⟨Ok.one hQ0 h2, val_one _, Nat.le_refl _⟩
  have rm := rv.mul r1 (p := 1001) (Nat.le_refl _)
  have hmod : val u - val v * (val u / val v) = val u % val v := (Int.emod_def _ _).symm
  have hs := jBz (Row.of hu hul) rm (by decide) (by decide) hle
  rw [hmod] at hs
  have hlt : val u % val v ≤ val u := by rw [← hmod]; have := Int.mul_nonneg (Int.le_of_lt hV) hQ0; omega
  have hlen : (dg (val u % val v)).length ≤ u.length := qP (Int.lt_of_le_of_lt hlt (qh hu))
  refine Ev.step (fun k => by rw [jT.l]) (Ev.bind (mulR rv r1 (by decide) (by decide)) (Ev.bind hs (Ev.pos rfl ?_)))
  exact Ev.pos (c := (dg (val u % val v)).length ≤ u.length ∧ u.length < 17592186044416) ⟨hlen, by omega⟩ (Ev.now _)
 | succ d ih =>
  intro q hd h1 h2
  have hlt : val u < val v * q := by
   have := Int.lt_ediv_add_one_mul_self (val u) hV
   have h3 : (val u / val v + 1) * val v ≤ q * val v := Int.mul_le_mul_of_nonneg_right (by omega) (Int.le_of_lt hV)
   rw [Int.mul_comm (val v)]
   omega
  have rv := Row.of hv hvl
  have r1 : Row [q] q 1 := ⟨Ok.one (by omega) h2, val_one _, Nat.le_refl _⟩
  have rm := rv.mul r1 (p := 1001) (Nat.le_refl _)
  have hs := jGE (Row.of hu hul) rm (by decide) (by decide) hlt
  have hw : IntKind.u64.wrap (q - 1) = q - 1 := by
   have h5 : 0 ≤ q - 1 := by omega
   have h6 : q - 1 < 18446744073709551616 := by rw [← B_eq]; omega
   rw [IntKind.wrap_u64]
   exact Int.emod_eq_of_lt h5 h6
  refine Ev.step (fun k => by rw [jT.l]) (Ev.bind (mulR rv r1 (by decide) (by decide)) (Ev.bind hs (Ev.neg (fun h => Bool.noConfusion h) ?_)))
  rw [hw]
  exact ih (q - 1) (by omega) (by omega) (by omega)
theorem jCu {u v : List Int} (hu : Ok u) (hv : Ok v) {n : Nat} (hn : v.length = n + 1) (hul : u.length = n + 2) (hV : 0 < v.getD n 0) : val u / val v ≤ (u.getD (n + 1) 0 * B + u.getD n 0) / v.getD n 0 := by
 have hVp : B ^ n * v.getD n 0 ≤ val v := by
  have e := vW v n (by omega)
  rw [qC (by omega), List.drop_eq_nil_of_le (by omega), qM, Int.mul_zero, Int.add_zero] at e
  have := jo (hv.take n)
  omega
 have hB := zi n
 have hVpos : 0 < val v := by have := Int.mul_pos hB hV; omega
 have hU : val u < B ^ n * (u.getD (n + 1) 0 * B + u.getD n 0 + 1) := by
  have e := vW u n (by omega)
  rw [qC (by omega), qC (by omega), List.drop_eq_nil_of_le (by omega), qM, Int.mul_zero, Int.add_zero] at e
  have h1 := qh (hu.take n)
  rw [List.length_take, Nat.min_eq_left (by omega)] at h1
  rw [Int.mul_add (B ^ n), Int.mul_one, Int.mul_comm _ B, Int.add_comm (B * u.getD (n + 1) 0)]
  omega
 have hQ0 : 0 ≤ val u / val v := Int.ediv_nonneg (jo hu) (Int.le_of_lt hVpos)
 have hle : val u / val v * val v ≤ val u := Int.ediv_mul_le _ (Int.ne_of_gt hVpos)
 generalize val u / val v = Q at *
 refine Int.le_ediv_of_mul_le hV ?_
 have h2 : Q * (B ^ n * v.getD n 0) ≤ Q * val v := Int.mul_le_mul_of_nonneg_left hVp hQ0
 rw [← Int.mul_assoc, Int.mul_comm Q, Int.mul_assoc] at h2
 have h3 : B ^ n * (Q * v.getD n 0) < B ^ n * (u.getD (n + 1) 0 * B + u.getD n 0 + 1) := by omega
 have := Int.lt_of_mul_lt_mul_left h3 (Int.le_of_lt hB)
 omega
theorem jFY {u v : List Int} (hu : Ok u) (hv : Ok v) (hul : u.length = v.length + 1) (hvl : v.length ≤ 900) (hv0 : 0 < v.length) (hV : 0 < v.getD (v.length - 1) 0) (hlt : val u < val v * B) : Ev (fun k => jT.f k u v) (val u / val v, jCC u.length (dg (val u % val v))) := by
 obtain ⟨n, hn⟩ : ∃ n, v.length = n + 1 := ⟨v.length - 1, by omega⟩
 have e1 : v.length - 1 = n := by omega
 rw [e1] at hV
 have hVp : B ^ n * v.getD n 0 ≤ val v := by
  have e := vW v n (by omega)
  rw [qC (by omega), List.drop_eq_nil_of_le (by omega), qM, Int.mul_zero, Int.add_zero] at e
  have := jo (hv.take n)
  omega
 have hVpos : 0 < val v := by have := Int.mul_pos (zi n) hV; omega
 have hQB : val u / val v < B := Int.ediv_lt_of_lt_mul hVpos (by rw [Int.mul_comm]; exact hlt)
 have h0 := hu.at (n + 1)
 have h1 := hu.at n
 have h2 := hv.at n
 unfold jT.f
 refine Ev.pos (c := 0 < v.length ∧ v.length < u.length) ⟨hv0, by omega⟩ ?_
 rw [e1, hn]
 by_cases hc : u.getD (n + 1) 0 < v.getD n 0
 ·
  refine Ev.pos hc (Ev.bind (jDS h0.1 hc h1 h2.2) ?_)
  refine jEO hu hv (by omega) (by omega) hVpos _ _ rfl ?_ ?_
  ·
   exact jCu hu hv hn (by omega) hV
  ·
   exact (jDR h0.1 hc h1)
 ·
  refine Ev.neg hc (jEO hu hv (by omega) (by omega) hVpos _ _ rfl ?_ ?_)
  ·
   rw [B_eq] at hQB; omega
  ·
   rw [B_eq]; decide
end Go.Proofs.Ytijgeonhbmgikaa.EORatioSigns
end
section
set_option linter.unusedVariables false
set_option linter.unusedSimpArgs false
namespace Go.Proofs.Ytijgeonhbmgikaa.EORatioSigns
open Go.RowKit Go.Proofs.Ytijgeonhbmgikaa.PORatioSigns Go.Proofs.YtijgeonhbmgikaaN Go.Proofs.YtijgeonhbmgikaaW.PrintWords Go.Proofs.YtijgeonhbmgikaaW.PrintLast Go.Proofs.YtijgeonhbmgikaaW.PrintMore
def Held (l : List Int) : Prop := l.length ≤ 8 ∧ (l = [] ∨ l.getD (l.length - 1) 0 ≠ 0)
instance (l : List Int) : Decidable (Held l) := by unfold Held; infer_instance
theorem Held.dg {l : List Int} (h : Held l) (ho : Ok l) : Go.Proofs.YtijgeonhbmgikaaN.dg (val l) = l := jCd ho h.2
theorem jGR {n : Int} {l : List Int} (h : (dg n).length ≤ 8) : Held (dg n) := ⟨h, jCw n⟩
theorem jFR {l : List Int} (h : l.length ≤ 8) (h0 : ¬ l = []) : (l.getD (l.length - 1) 0 != 0) = decide (Held l) := by
 rw [Bool.eq_iff_iff, bne_iff_ne]
 exact ⟨fun q => decide_eq_true ⟨h, .inr q⟩, fun q => ((of_decide_eq_true q).2).elim (fun e => absurd e h0) id⟩
theorem jBZ (l : List Int) : zP.f l = some (decide (Held l)) := by
 unfold zP.f
 by_cases h : l.length ≤ 8
 ·
  rw [if_pos (by omega)]
  by_cases h0 : l = []
  ·
   subst h0
   rfl
  ·
   have hl := List.length_pos_iff.2 h0
   have hw : wrap64 ((l.length : Int) - 1) = ((l.length - 1 : Nat) : Int) := by rw [w64 (by omega)]; omega
   rw [if_neg (by omega), hw, if_pos (by omega), if_pos (by omega), ql, jFR h h0]
 ·
  rw [if_neg (by omega), decide_eq_false (fun q => h q.1)]
theorem of_eq {n : Int} (h : 0 ≤ n ∧ n < B) : jAM.f n = some (dg n) := by
 unfold jAM.f
 by_cases hz : n = 0
 ·
  rw [if_pos hz, hz, jAL]
 ·
  rw [if_neg hz]
  have := jCd (Ok.one h.1 h.2) (.inr (by simpa using hz))
  rw [val_one] at this
  rw [this]
theorem jGK {a b : List Int} (ha : Ok a) (hb : Ok b) (hal : a.length ≤ 17592186044416) (hbl : b.length ≤ 17592186044416) : Ev (fun k => qX.f k a b) (cmpv (val a) (val b)) := Ev.bind (jDU ha hb hal hbl) (Ev.now _)
theorem jDL (a b : List Int) (h : a.length ≤ 17592186044416) : Ev (fun k => vF.f k a b) (decide (a = b)) := Ev.bind (jGG a b h) (Ev.now _)
theorem jAG {x : Int} (h : x < B ^ 8) : Held (dg x) := jGR (l := []) (qP h)
theorem jBG {x : Int} (h : 0 < x) (hb : x < B) : dg x = [x] := by
 have := jCd (Ok.one (Int.le_of_lt h) hb) (.inr (by simp; omega))
 rwa [val_one] at this
end Go.Proofs.Ytijgeonhbmgikaa.EORatioSigns
end
section
set_option linter.unusedVariables false
set_option linter.unusedSimpArgs false
end
section
set_option linter.unusedVariables false
set_option linter.unusedSimpArgs false
end
section
set_option linter.unusedVariables false
set_option linter.unusedSimpArgs false
namespace Go.Proofs.Ytijgeonhbmgikaa.EORatioSigns
open Go.RowKit Go.Proofs.Ytijgeonhbmgikaa.PORatioSigns Go.Proofs.YtijgeonhbmgikaaN Go.Proofs.YtijgeonhbmgikaaW.PrintWords Go.Proofs.YtijgeonhbmgikaaW.PrintLast Go.Proofs.YtijgeonhbmgikaaW.PrintMore
theorem jGv {n : Int} (h : 0 ≤ n ∧ n < B) : Ev (fun k => vX.f k n) (dg n) := by
 have := jFB (Ok.one h.1 h.2) (show [n].length < 17592186044416 from by simp)
 rw [val_one] at this
 exact Ev.bind this (Ev.now _)
end Go.Proofs.Ytijgeonhbmgikaa.EORatioSigns
end
section
set_option linter.unusedVariables false
set_option linter.unusedSimpArgs false
namespace Go.Proofs.Ytijgeonhbmgikaa.EORatioSigns
open Go.RowKit Go.Proofs.Ytijgeonhbmgikaa.PORatioSigns Go.Proofs.YtijgeonhbmgikaaN Go.Proofs.YtijgeonhbmgikaaW.PrintWords Go.Proofs.YtijgeonhbmgikaaW.PrintLast Go.Proofs.YtijgeonhbmgikaaW.PrintMore
def divd (a b : List Int) : List Int × List Int × Int := if Held a ∧ Held b then (if val b = 0 then ([], [], 30) else (dg (val a / val b), dg (val a % val b), 0)) else ([], [], 1)
def jDn (a : List Int) (n : Int) : List Int × Int × Int := if Held a then (if n = 0 then ([], 0, 30) else (dg (val a / n), val a % n, 0)) else ([], 0, 1)
theorem jEd {q : List Int} (hq : Ok q) {j : Nat} (h : val (q.take (j + 1)) = 0) : val (q.take j) = 0 ∧ (j < q.length → q.getD j 0 = 0) := by
 by_cases hj : j < q.length
 ·
  rw [jAF hj] at h
  have h1 := jo (hq.take j)
  have h2 := Int.mul_nonneg (Int.le_of_lt (zi j)) (hq.at j).1
  refine ⟨by omega, fun _ => ?_⟩
  rcases Int.mul_eq_zero.1 (show B ^ j * q.getD j 0 = 0 by omega) with h3 | h3
  ·
   have := zi j; omega
  ·
   exact h3
 ·
  rw [List.take_of_length_le (by omega)] at h
  rw [List.take_of_length_le (by omega)]
  exact ⟨h, fun h' => absurd h' hj⟩
theorem jEY {P r q r' a n T : Int} (hn : 0 < n) (h : r * B + a = n * q + r') (P0 : 0 ≤ P) : (r * (P * B) + (T + P * a)) / n = P * q + (r' * P + T) / n ∧ (r * (P * B) + (T + P * a)) % n = (r' * P + T) % n := by
 have e : r * (P * B) + (T + P * a) = (r' * P + T) + n * (P * q) := by
  have h1 : P * (r * B + a) = P * (n * q + r') := by rw [h]
  rw [Int.mul_add, Int.mul_add] at h1
  have h2 : r * (P * B) = P * (r * B) := by rw [← Int.mul_assoc, Int.mul_comm r P, Int.mul_assoc]
  have h3 : n * (P * q) = P * (n * q) := by rw [← Int.mul_assoc, Int.mul_comm n P, Int.mul_assoc]
  rw [h2, h3, Int.mul_comm r' P]
  omega
 rw [e]
 constructor
 ·
  rw [Int.add_mul_ediv_left _ _ (Int.ne_of_gt hn)]; omega
 ·
  rw [Int.add_mul_emod_self_left]
theorem jEx {a : List Int} (ha : Ok a) (hal : a.length ≤ 1000) {n : Int} (h0 : 0 < n) (hnB : n < B) : ∀ (j : Nat) (q : List Int) (r : Int), j ≤ a.length → q.length = a.length → Ok q → val (q.take j) = 0 → (0 ≤ r ∧ r < n) → Ev (fun k => vC.l0 k a n q r ((j : Int) - 1)) (dg (val q + (r * B ^ j + val (a.take j)) / n), (r * B ^ j + val (a.take j)) % n, 0) := by
 intro j
 induction j with
 | zero =>
  intro q r hj hql hq hz hr
  refine Ev.step (fun k => by rw [vC.l0]) (Ev.neg (by omega) (Ev.bind (jAe hq (by omega)) (Ev.eq (Ev.now _) ?_)))
  rw [List.take_zero, qM, Int.pow_zero, Int.mul_one, Int.add_zero, Int.ediv_eq_zero_of_lt hr.1 hr.2, Int.emod_eq_of_lt hr.1 hr.2, Int.add_zero]
 | succ j ih =>
  intro q r hj hql hq hz hr
  obtain ⟨hz1, hz2⟩ := jEd hq hz
  have hj1 : j < q.length := by omega
  have hzj := hz2 hj1
  have haj := ha.at j
  have e : (((j + 1 : Nat) : Int) - 1) = (j : Int) := by omega
  have hd := jDS hr.1 hr.2 haj hnB
  have hlt := jDR hr.1 hr.2 haj
  have hge : 0 ≤ (r * B + a.getD j 0) / n := Int.ediv_nonneg (by have := Int.mul_nonneg hr.1 (Int.le_of_lt jAU); omega) (by omega)
  have hm0 := Int.emod_nonneg (r * B + a.getD j 0) (Int.ne_of_gt h0)
  have hm1 := Int.emod_lt_of_pos (r * B + a.getD j 0) h0
  have hdm := Int.mul_ediv_add_emod (r * B + a.getD j 0) n
  rw [e]
  refine Ev.step (fun k => by rw [vC.l0, ql]) (Ev.pos (by omega) (Ev.pos (by omega) (Ev.pos (by omega) (Ev.bind hd ?_))))
  refine Ev.pos (c := (j : Int) < (q.length : Int)) (by omega) ?_
  rw [w64 (by omega), Int.toNat_natCast]
  have hq' := hq.set j hge hlt
  have hv : val (q.set j ((r * B + a.getD j 0) / n)) = val q + B ^ j * ((r * B + a.getD j 0) / n) := by rw [jAY hj1, hzj, Int.sub_zero]
  have ht : val ((q.set j ((r * B + a.getD j 0) / n)).take j) = 0 := by rw [List.take_set_of_le (Nat.le_refl j)]; exact hz1
  refine Ev.eq (ih _ _ (by omega) (by rw [List.length_set]; exact hql) hq' ht ⟨hm0, hm1⟩) ?_
  have hja : j < a.length := by omega
  obtain ⟨c1, c2⟩ := jEY (P := B ^ j) (T := val (a.take j)) h0 hdm.symm (Int.le_of_lt (zi j))
  rw [hv, jAF hja, ze, c1, c2, Int.add_assoc]
theorem jEy {a : List Int} (ha : Ok a) {n : Int} (h0 : 0 ≤ n) (hnB : n < B) : Ev (fun k => vC.f k a n) (jDn a n) := by
 unfold vC.f jDn
 refine Ev.vv (jBZ a) ?_
 by_cases hh : Held a
 ·
  rw [if_pos hh]
  refine Ev.pos (decide_eq_true hh) ?_
  by_cases hn : n = 0
  ·
   rw [if_pos hn]; exact Ev.pos hn (Ev.now _)
  ·
   rw [if_neg hn]
   have hl := hh.1
   refine Ev.neg hn (Ev.pos (by omega) (Ev.pos (by omega) ?_))
   rw [Int.toNat_natCast, w64 (by omega)]
   have := jEx ha (by omega) (by omega) hnB a.length (List.replicate a.length 0) 0 (Nat.le_refl _) List.length_replicate (Ok.rep _) (by rw [List.take_of_length_le (by simp)]; exact jAZ _) ⟨Int.le_refl _, by omega⟩
   rw [jAZ, List.take_length, Int.zero_mul, Int.zero_add, Int.zero_add] at this
   exact this
 ·
  rw [if_neg hh]
  exact Ev.neg (by simpa using hh) (Ev.now _)
theorem jCk {l : List Int} {i : Nat} (x : List Int) (h : i ≤ l.length) : (Go.splice l i x).take i = l.take i := by
 unfold Go.splice
 rw [List.take_append_of_le_length (by rw [List.length_take]; omega), List.take_take, Nat.min_self]
theorem jCl {l : List Int} {i : Nat} (x : List Int) (h : i ≤ l.length) : (Go.splice l i x).drop i = x ++ l.drop (i + x.length) := by
 unfold Go.splice
 rw [List.drop_append_of_le_length (by rw [List.length_take]; omega), List.drop_eq_nil_of_le (by rw [List.length_take]; omega), List.nil_append]
theorem jDm {l x : List Int} {i : Nat} (hl : Ok l) (hx : Ok x) : Ok (Go.splice l i x) := by
 unfold Go.splice
 exact (hl.take _).append (hx.append (hl.drop _))
theorem drop_zero {l : List Int} (hl : Ok l) {n : Nat} (h : val l < B ^ n) (hn : n ≤ l.length) : val (l.drop n) = 0 := by
 have e := vW l n hn
 have h1 := jo (hl.take n)
 have h2 := jo (hl.drop n)
 rcases Int.lt_or_le 0 (val (l.drop n)) with h3 | h3
 ·
  have : B ^ n * 1 ≤ B ^ n * val (l.drop n) := Int.mul_le_mul_of_nonneg_left (by omega) (Int.le_of_lt (zi n))
  omega
 ·
  omega
theorem jGX {u q : List Int} (hu : Ok u) (hul : u.length ≤ 1000) (hq : Ok q) (hql : q.length ≤ 1000) {V : Int} (hV : val u < V) {s : Nat} (hs : s ≤ 63) : Ev (fun k => (jv.f k q).bind fun t => (jF.f k u (wrap64 (-(s : Int)))).bind fun r => some (t, r, (0 : Int))) (dg ((val u + V * val q) / V), dg ((val u + V * val q) % V / 2 ^ s), 0) := by
 have h0 := jo hu
 have hVp : 0 < V := by omega
 rw [Int.add_mul_ediv_left _ _ (Int.ne_of_gt hVp), Int.add_mul_emod_self_left, Int.ediv_eq_zero_of_lt h0 hV, Int.emod_eq_of_lt h0 hV, Int.zero_add, w64 (by omega)]
 refine Ev.bind (jAe hq (by omega)) ?_
 have hsh : Ev (fun k => jF.f k u (-(s : Int))) (dg (val u / 2 ^ s)) := by
  by_cases hz : s = 0
  ·
   subst hz
   have := jBR hu (by omega) (n := 0) (Int.le_refl _)
   simpa using this
  ·
   have := jDp hu (by omega) (n := -(s : Int)) (by omega)
   rw [show (-(-(s : Int))).toNat = s from by omega] at this
   exact this
 exact Ev.bind hsh (Ev.now _)
theorem jDk {u W : List Int} {j n : Nat} (h : j + n + 1 ≤ u.length) (hW : (u.take (j + n + 1)).drop j = W) : W.length = n + 1 ∧ u.drop j = W ++ u.drop (j + (n + 1)) := by
 constructor
 ·
  rw [← hW, List.length_drop, List.length_take]; omega
 ·
  rw [← hW, List.drop_take, ← List.drop_drop, show j + n + 1 - j = n + 1 from by omega, List.take_append_drop]
theorem jGw {x y : Int} (hy : 0 < y) (hx : 0 ≤ x) : x % y ≤ x := by
 have h1 := Int.mul_nonneg (Int.le_of_lt hy) (Int.ediv_nonneg hx (Int.le_of_lt hy))
 have h2 := Int.mul_ediv_add_emod x y
 omega
theorem jHE {j n m : Nat} (h : j + n + 1 ≤ m) (hm : m ≤ 900) : mn (wrap64 (wrap64 ((j : Int) + (n : Int)) + 1)) (m : Int) = ((j + n + 1 : Nat) : Int) := by
 rw [w64 (x := (j : Int) + (n : Int)) (by omega), w64 (by omega)]
 unfold mn
 split <;> omega
theorem jGV {u v q : List Int} {s : Int} {j : Nat} (hmn : mn (wrap64 (wrap64 ((j : Int) + (v.length : Int)) + 1)) (u.length : Int) = ((j + v.length + 1 : Nat) : Int)) (hj : j < q.length) (hu : j + v.length + 1 ≤ u.length) (hq : q.length ≤ 1000) (k : Nat) : jZ.l0 (k + 1) s u v q (j : Int) = (jT.f k ((u.take (j + v.length + 1)).drop j) v).bind fun t => jZ.l0 k s (Go.splice u j t.2) v (q.set j t.1) ((j : Int) - 1) := by
 have c0 : (j : Int) ≥ 0 := by omega
 have c1 : (0 : Int) ≤ (j : Int) := by omega
 have c2 : (j : Int) ≤ ((j + v.length + 1 : Nat) : Int) := by omega
 have c3 : ((j + v.length + 1 : Nat) : Int) ≤ (u.length : Int) := by omega
 have c4 : (j : Int) < (q.length : Int) := by omega
 have hw : wrap64 ((j : Int) - 1) = (j : Int) - 1 := w64 (by omega)
 rw [jZ.l0, hmn, if_pos c0, if_pos c1, if_pos c2, if_pos c3]
 simp only [if_pos c4, Int.toNat_natCast, hw]
theorem jGW {v : List Int} (hv : Ok v) (hvl : v.length ≤ 900) (hv0 : 0 < v.length) (hvt : 0 < v.getD (v.length - 1) 0) {s : Nat} (hs : s ≤ 63) : ∀ (j : Nat) (u q : List Int), j = j → Ok u → Ok q → u.length ≤ 900 → q.length + v.length = u.length → j ≤ q.length → val (q.take j) = 0 → val (u.drop j) < val v → Ev (fun k => jZ.l0 k (s : Int) u v q ((j : Int) - 1)) (dg ((val u + val v * val q) / val v), dg ((val u + val v * val q) % val v / 2 ^ s), 0) := by
 intro j
 induction j with
 | zero =>
  intro u q _ hu hq hul hl hj hz hlt
  refine Ev.step (fun k => by rw [jZ.l0]) (Ev.neg (by omega) ?_)
  exact jGX hu (by omega) hq (by omega) (by simpa using hlt) hs
 | succ j ih =>
  intro u q _ hu hq hul hl hj hz hlt
  obtain ⟨hz1, hz2⟩ := jEd hq hz
  have hj1 : j < q.length := by omega
  have hzj := hz2 hj1
  have hju : j < u.length := by omega
  have e : (((j + 1 : Nat) : Int) - 1) = (j : Int) := by omega
  have hu1 : j + v.length + 1 ≤ u.length := by omega
  have hstp := jGV (s := (s : Int)) (jHE hu1 hul) hj1 hu1 (by omega)
  have hV0 := jo hv
  have hwd : ∃ W, (u.take (j + v.length + 1)).drop j = W := ⟨_, rfl⟩
  obtain ⟨W, hW⟩ := hwd
  obtain ⟨hWl, hWd⟩ := jDk (u := u) (j := j) (n := v.length) (by omega) hW
  have hWo : Ok W := by rw [← hW]; exact (hu.take _).drop _
  have hup := drop_zero (hu.drop (j + 1)) (n := v.length) (Int.lt_trans hlt (qh hv)) (by rw [List.length_drop]; omega)
  rw [List.drop_drop, show j + 1 + v.length = j + (v.length + 1) from by omega] at hup
  have hWv : val W = val (u.drop j) := by rw [hWd, val_append, hup, Int.mul_zero, Int.add_zero]
  have hWlt : val W < val v * B := by
   rw [hWv, qC hju]
   have h1 := (hu.at j).2
   have h2 : B * (val (u.drop (j + 1)) + 1) ≤ B * val v := Int.mul_le_mul_of_nonneg_left (by omega) (Int.le_of_lt jAU)
   rw [Int.mul_add, Int.mul_comm B (val v)] at h2
   omega
  have hd := jFY hWo hv hWl hvl hv0 hvt hWlt
  have hVpos : 0 < val v := by
   rcases Int.lt_or_le 0 (val v) with h | h
   ·
    exact h
   ·
    have h0 : val v = 0 := by omega
    rw [h0, Int.zero_mul] at hWlt
    have := jo hWo
    omega
  have hQ0 : 0 ≤ val W / val v := Int.ediv_nonneg (jo hWo) hV0
  have hQB : val W / val v < B := Int.ediv_lt_of_lt_mul hVpos (by rw [Int.mul_comm]; exact hWlt)
  have hR0 := Int.emod_nonneg (val W) (Int.ne_of_gt hVpos)
  have hR1 := Int.emod_lt_of_pos (val W) hVpos
  have hpl : (jCC W.length (dg (val W % val v))).length = W.length := jEA (qP (Int.lt_of_le_of_lt (jGw hVpos (jo hWo)) (qh hWo)))
  rw [e]
  rw [hW] at hstp
  refine Ev.step hstp (Ev.bind hd ?_)
  generalize hP : jCC W.length (dg (val W % val v)) = P at hpl
  have hPv : val P = val W % val v := by rw [← hP, jDz, zu hR0]
  have hPo : Ok P := by rw [← hP]; exact jFK (zx _)
  have hu' : Ok (Go.splice u j P) := jDm hu hPo
  have hul' : (Go.splice u j P).length = u.length := Go.length_splice u j P (by omega)
  have hdr : val ((Go.splice u j P).drop j) = val W % val v := by
   rw [jCl P (by omega), val_append, hPv, hpl, hWl, hup, Int.mul_zero, Int.add_zero]
  have hval' : val (Go.splice u j P) + B ^ j * (val v * (val W / val v)) = val u := by
   have e1 := vW (Go.splice u j P) j (by omega)
   have e2 := vW u j (by omega)
   rw [jCk P (by omega), hdr] at e1
   rw [e1, e2, ← hWv, Int.add_assoc, ← Int.mul_add, Int.add_comm (val W % val v), Int.mul_ediv_add_emod]
  have hv' : val (q.set j (val W / val v)) = val q + B ^ j * (val W / val v) := by rw [jAY hj1, hzj, Int.sub_zero]
  have ht : val ((q.set j (val W / val v)).take j) = 0 := by rw [List.take_set_of_le (Nat.le_refl j)]; exact hz1
  have hfin : val (Go.splice u j P) + val v * val (q.set j (val W / val v)) = val u + val v * val q := by
   rw [hv', Int.mul_add, ← hval', ← Int.mul_assoc (val v), Int.mul_comm (val v) (B ^ j), Int.mul_assoc (B ^ j)]
   omega
  have := ih (Go.splice u j P) (q.set j (val W / val v)) rfl hu' (hq.set j hQ0 hQB) (by omega) (by rw [List.length_set]; omega) (by rw [List.length_set]; omega) ht (by rw [hdr]; exact hR1)
  rw [hfin] at this
  exact this
theorem jEN {a b : List Int} (ha : Ok a) (hb : Ok b) : Ev (fun k => jZ.f k a b) (divd a b) := by
 unfold jZ.f divd
 refine Ev.vv (jBZ a) ?_
 by_cases hha : Held a
 ·
  by_cases hhb : Held b
  ·
   rw [if_pos ⟨hha, hhb⟩]
   refine Ev.pos (decide_eq_true hha) (Ev.vv (jBZ b) ?_)
   rw [decide_eq_true hhb]
   refine Ev.step (fun k => by rw [jZ.j0]) (Ev.neg (by simp) ?_)
   have hal := hha.1
   have hbl := hhb.1
   have ha0 := jo ha
   have hb0 := jo hb
   by_cases h0 : b.length = 0
   ·
    have hbn : b = [] := List.eq_nil_of_length_eq_zero h0
    subst hbn
    rw [if_pos qM]
    exact Ev.pos (by simp) (Ev.now _)
   ·
    have hbt : b.getD (b.length - 1) 0 ≠ 0 := by
     rcases hhb.2 with h | h
     ·
      subst h; simp at h0
     ·
      exact h
    have hbtp : 0 < b.getD (b.length - 1) 0 := by have := (hb.at (b.length - 1)).1; omega
    have hbv : 0 < val b := by
     have e := vW b (b.length - 1) (by omega)
     rw [qC (by omega), List.drop_eq_nil_of_le (by omega), qM, Int.mul_zero, Int.add_zero] at e
     have h1 := jo (hb.take (b.length - 1))
     have h2 := Int.mul_pos (zi (b.length - 1)) hbtp
     omega
    rw [if_neg (Int.ne_of_gt hbv)]
    refine Ev.neg (by omega) ?_
    by_cases h1 : b.length = 1
    ·
     obtain ⟨b0, hb1⟩ : ∃ b0, b = [b0] := by
      match b, h1 with
      | [b0], _ => exact ⟨b0, rfl⟩
     subst hb1
     have hbo := hb.at 0
     have hs := jEy ha (n := b0) hbo.1 hbo.2
     have hbz : b0 ≠ 0 := hbt
     unfold jDn at hs
     rw [if_pos hha, if_neg hbz] at hs
     have hb0' : 0 < b0 := by have := hbo.1; have e : [b0].getD 0 0 = b0 := rfl; rw [e] at this; omega
     have hm0 := Int.emod_nonneg (val a) hbz
     have hm1 := Int.emod_lt_of_pos (val a) hb0'
     have hbB : b0 < B := hbo.2
     refine Ev.pos (by simp) (Ev.pos (by simp) (Ev.bind hs (Ev.vv (of_eq (n := val a % b0) ⟨hm0, by omega⟩) (Ev.eq (Ev.now _) ?_))))
     rw [val_one]
    ·
     refine Ev.neg (by omega) (Ev.bind (jDU ha hb (by omega) (by omega)) ?_)
     by_cases hc : val a < val b
     ·
      refine Ev.pos (jAf.2 hc) (Ev.bind (jAe ha (by omega)) (Ev.eq (Ev.now _) ?_))
      rw [Int.ediv_eq_zero_of_lt ha0 hc, Int.emod_eq_of_lt ha0 hc, jAL]
     ·
      refine Ev.neg (fun h => hc (jAf.1 h)) ?_
      have hwl : wrap64 ((b.length : Int) - 1) = ((b.length - 1 : Nat) : Int) := by rw [w64 (by omega)]; omega
      rw [hwl, ql]
      refine Ev.pos (by omega) (Ev.pos (by omega) ?_)
      obtain ⟨s, hs, he, _, _, _⟩ := jEJ hbtp (hb.at _).2
      refine Ev.vv he ?_
      have hp := two_pos s
      have hsa := jBR ha (by omega) (n := (s : Int)) (by omega)
      have hsb := jBR hb (by omega) (n := (s : Int)) (by omega)
      rw [Int.toNat_natCast, Nat.min_eq_left (by omega)] at hsa hsb
      have hUV : val b * 2 ^ s ≤ val a * 2 ^ s := Int.mul_le_mul_of_nonneg_right (by omega) (Int.le_of_lt hp)
      have hVp : 0 < val b * 2 ^ s := Int.mul_pos hbv hp
      have hB2 : (2 : Int) ^ s ≤ B := jAn (by omega)
      have hlenU : (dg (val a * 2 ^ s)).length ≤ 9 := by
       refine qP ?_
       have h1 := qh ha
       have h2 := qZ hal
       have h3 : val a * 2 ^ s ≤ val a * B := Int.mul_le_mul_of_nonneg_left hB2 ha0
       have h4 : val a * B < B ^ 8 * B := Int.mul_lt_mul_of_pos_right (by omega) jAU
       rw [ze]
       omega
      have hlenV : (dg (val b * 2 ^ s)).length ≤ (dg (val a * 2 ^ s)).length := by
       refine qP ?_
       have := jEI (n := val a * 2 ^ s) (Nat.le_refl _)
       omega
      have hV0 : 0 < (dg (val b * 2 ^ s)).length := by
       rcases Nat.eq_zero_or_pos (dg (val b * 2 ^ s)).length with h | h
       ·
        have := (jBs (Int.le_of_lt hVp)).1 (List.eq_nil_of_length_eq_zero h)
        omega
       ·
        exact h
      have hvt : 0 < (dg (val b * 2 ^ s)).getD ((dg (val b * 2 ^ s)).length - 1) 0 := by
       rcases jCw (val b * 2 ^ s) with h | h
       ·
        rw [h] at hV0; simp at hV0
       ·
        have := ((zx (val b * 2 ^ s)).at ((dg (val b * 2 ^ s)).length - 1)).1; omega
      refine Ev.bind hsa ?_
      refine Ev.qJ (Ev.pos (by simp; omega) (Ev.qJ (Ev.bind hsb ?_)))
      have hvv := zu (Int.le_of_lt hVp)
      have huv := zu (n := val a * 2 ^ s) (by omega)
      have huo := zx (val a * 2 ^ s)
      have hvo := zx (val b * 2 ^ s)
      have hVlow := (jCw (val b * 2 ^ s))
      generalize hU : dg (val a * 2 ^ s) = U at *
      generalize hV : dg (val b * 2 ^ s) = V at *
      have hul2 : (U ++ [0, 0]).length = U.length + 2 := by simp
      have hwq : wrap64 (((U ++ [0, 0]).length : Int) - (V.length : Int)) = ((U.length + 2 - V.length : Nat) : Int) := by rw [w64 (by omega)]; omega
      rw [hwq, Int.toNat_natCast]
      refine Ev.pos (by omega) (Ev.pos (by omega) (Ev.qJ ?_))
      rw [List.length_replicate, w64 (by omega)]
      have huo2 : Ok (U ++ [0, 0]) := huo.append (by decide)
      have huv2 : val (U ++ [0, 0]) = val a * 2 ^ s := by rw [val_append, huv]; simp [val]
      have hlow : B ^ (V.length - 1) ≤ val V := by
       have e := vW V (V.length - 1) (by omega)
       rw [qC (by omega), List.drop_eq_nil_of_le (by omega), qM, Int.mul_zero, Int.add_zero] at e
       have h1 := jo (hvo.take (V.length - 1))
       have h2 : B ^ (V.length - 1) * 1 ≤ B ^ (V.length - 1) * V.getD (V.length - 1) 0 := Int.mul_le_mul_of_nonneg_left (by omega) (Int.le_of_lt (zi _))
       omega
      have hdlt : val ((U ++ [0, 0]).drop (U.length + 2 - V.length)) < val V := by
       rcases Int.lt_or_le (val ((U ++ [0, 0]).drop (U.length + 2 - V.length))) (val V) with h | h
       ·
        exact h
       ·
        exfalso
        have e := vW (U ++ [0, 0]) (U.length + 2 - V.length) (by omega)
        have h1 := jo (huo2.take (U.length + 2 - V.length))
        have h2 : B ^ (U.length + 2 - V.length) * B ^ (V.length - 1) ≤ B ^ (U.length + 2 - V.length) * val ((U ++ [0, 0]).drop (U.length + 2 - V.length)) := Int.mul_le_mul_of_nonneg_left (by omega) (Int.le_of_lt (zi _))
        rw [← Int.pow_add, show U.length + 2 - V.length + (V.length - 1) = U.length + 1 from by omega] at h2
        have h3 := qh huo
        have h4 := qZ (show U.length ≤ U.length + 1 from by omega)
        omega
      have h := jGW hvo (by omega) hV0 hvt hs (U.length + 2 - V.length) (U ++ [0, 0]) (List.replicate (U.length + 2 - V.length) 0) rfl huo2 (Ok.rep _) (by omega) (by rw [List.length_replicate]; omega) (by rw [List.length_replicate]; exact Nat.le_refl _) (by rw [List.take_of_length_le (by simp)]; exact jAZ _) hdlt
      rw [jAZ, Int.mul_zero, Int.add_zero, huv2, hvv] at h
      obtain ⟨f1, f2⟩ := jDQ (N := val a) (y := val b) (p := 2 ^ s) (Q := val a * 2 ^ s / (val b * 2 ^ s)) (r := val a * 2 ^ s % (val b * 2 ^ s)) hp hbv (by have := Int.mul_ediv_add_emod (val a * 2 ^ s) (val b * 2 ^ s); rw [Int.mul_comm (val b * 2 ^ s) (_ / _)] at this; exact this.symm) ⟨Int.emod_nonneg _ (Int.ne_of_gt hVp), Int.emod_lt_of_pos _ hVp⟩
      rw [f1, f2] at h
      exact h
  ·
   rw [if_neg (fun h => hhb h.2)]
   refine Ev.pos (decide_eq_true hha) (Ev.vv (jBZ b) ?_)
   rw [decide_eq_false hhb]
   exact Ev.step (fun k => by rw [jZ.j0]) (Ev.pos (c := (!false) = true) rfl (Ev.now _))
 ·
  rw [if_neg (fun h => hha h.1)]
  refine Ev.neg (by simpa using hha) ?_
  exact Ev.step (fun k => by rw [jZ.j0]) (Ev.pos rfl (Ev.now _))
end Go.Proofs.Ytijgeonhbmgikaa.EORatioSigns
end
section
set_option linter.unusedVariables false
set_option linter.unusedSimpArgs false
namespace Go.Proofs.Ytijgeonhbmgikaa.EORatioSigns
open Go.RowKit Go.Proofs.Ytijgeonhbmgikaa.PORatioSigns Go.Proofs.YtijgeonhbmgikaaN Go.Proofs.YtijgeonhbmgikaaW.PrintWords Go.Proofs.YtijgeonhbmgikaaW.PrintLast Go.Proofs.YtijgeonhbmgikaaW.PrintMore
def gcdv (x y : Int) : Int := (Nat.gcd x.toNat y.toNat : Nat)
theorem jEK {x : Int} (h : 0 ≤ x) : gcdv x 0 = x := by unfold gcdv; simp; omega
theorem jFT {x y : Int} (hx : 0 ≤ x) (hy : 0 < y) : gcdv y (x % y) = gcdv x y := by
 unfold gcdv
 obtain ⟨n, rfl⟩ := Int.eq_ofNat_of_zero_le hx
 obtain ⟨m, rfl⟩ := Int.eq_ofNat_of_zero_le (Int.le_of_lt hy)
 rw [← Int.natCast_emod, Int.toNat_natCast, Int.toNat_natCast, Int.toNat_natCast, Nat.gcd_comm m, ← Nat.gcd_rec, Nat.gcd_comm]
theorem jCs (x y : Int) : 0 ≤ gcdv x y := by unfold gcdv; omega
theorem jCG {x y : Int} (hx : 0 ≤ x) (hy : 0 ≤ y) (h : x ≠ 0 ∨ y ≠ 0) : 0 < gcdv x y := by
 unfold gcdv
 have : 0 < Nat.gcd x.toNat y.toNat := Nat.gcd_pos_iff.2 (by omega)
 omega
theorem jDP {x y : Int} (hx : 0 ≤ x) (hy : 0 ≤ y) : gcdv x y ∣ x ∧ gcdv x y ∣ y := by
 unfold gcdv
 have h1 := Nat.gcd_dvd_left x.toNat y.toNat
 have h2 := Nat.gcd_dvd_right x.toNat y.toNat
 constructor
 ·
  have := Int.natCast_dvd_natCast.2 h1
  rwa [Int.toNat_of_nonneg hx] at this
 ·
  have := Int.natCast_dvd_natCast.2 h2
  rwa [Int.toNat_of_nonneg hy] at this
theorem jEL {x y : Int} (hx : 0 ≤ x) (hy : 0 ≤ y) {M : Int} (h1 : x < M) (h2 : y < M) : gcdv x y < M := by
 by_cases hz : x = 0
 ·
  subst hz
  unfold gcdv
  rw [Int.toNat_zero, Nat.gcd_zero_left]
  omega
 ·
  have := Int.le_of_dvd (by omega) (jDP hx hy).1
  omega
def gcdd (a b : List Int) : List Int × Int := if Held a ∧ Held b then (dg (gcdv (val a) (val b)), 0) else ([], 1)
theorem jCt {x y : Int} (hx : 0 ≤ x) (hy : 0 < y) (hx8 : x < B ^ 8) (hy8 : y < B ^ 8) : divd (dg x) (dg y) = (dg (x / y), dg (x % y), 0) := by
 unfold divd
 rw [if_pos ⟨jAG hx8, jAG hy8⟩, zu hx, zu (Int.le_of_lt hy), if_neg (Int.ne_of_gt hy)]
theorem jCp {y : Int} (hy : 0 ≤ y) : ((dg y).length : Int) > 0 ↔ y ≠ 0 := by
 have := jBA hy
 constructor
 ·
  intro h e; have := this.2 e; omega
 ·
  intro h; rcases Nat.eq_zero_or_pos (dg y).length with h0 | h0
  ·
   exact absurd (this.1 (by omega)) h
  ·
   omega
theorem jHN : ∀ (n : Nat) (x y : Int), y.toNat = n → 0 ≤ x → 0 ≤ y → x < B ^ 8 → y < B ^ 8 → Ev (fun k => jk.l0 k (dg x) (dg y)) (dg (gcdv x y), 0) := by
 intro n
 induction n using Nat.strongRecOn with
 | _ n ih =>
  intro x y hn hx hy hx8 hy8
  by_cases hz : y = 0
  ·
   subst hz
   rw [jEK hx]
   exact Ev.step (fun k => by rw [jk.l0]) (Ev.neg (mt (jCp (Int.le_refl 0)).1 (by simp)) (Ev.now _))
  ·
   have hyp : 0 < y := by omega
   have h1 := Int.emod_nonneg x hz
   have h2 := Int.emod_lt_of_pos x hyp
   have hd := jEN (zx x) (zx y)
   rw [jCt hx hyp hx8 hy8] at hd
   refine Ev.step (fun k => by rw [jk.l0]) (Ev.pos ((jCp hy).2 hz) (Ev.bind hd ?_))
   rw [← jFT hx hyp]
   exact ih (x % y).toNat (by omega) y (x % y) rfl hy h1 hy8 (by omega)
theorem jDO {a : List Int} (ha : Ok a) (h : Held a) : 0 ≤ val a ∧ val a < B ^ 8 := ⟨jo ha, by have := qh ha; have := qZ h.1; omega⟩
theorem jFn {a b : List Int} (ha : Ok a) (hb : Ok b) : Ev (fun k => jk.f k a b) (gcdd a b) := by
 unfold jk.f gcdd
 refine Ev.vv (jBZ a) ?_
 by_cases hha : Held a
 ·
  by_cases hhb : Held b
  ·
   rw [if_pos ⟨hha, hhb⟩]
   refine Ev.pos (decide_eq_true hha) (Ev.vv (jBZ b) ?_)
   rw [decide_eq_true hhb]
   have va := jDO ha hha
   have vb := jDO hb hhb
   have hal := hha.1
   have hbl := hhb.1
   exact Ev.step (fun k => by rw [jk.j0]) (Ev.neg (by simp) (Ev.bind (jAe ha (by omega)) (Ev.bind (jAe hb (by omega)) (jHN _ _ _ rfl va.1 vb.1 va.2 vb.2))))
  ·
   rw [if_neg (fun h => hhb h.2)]
   refine Ev.pos (decide_eq_true hha) (Ev.vv (jBZ b) ?_)
   rw [decide_eq_false hhb]
   exact Ev.step (fun k => by rw [jk.j0]) (Ev.pos (c := (!false) = true) rfl (Ev.now _))
 ·
  rw [if_neg (fun h => hha h.1)]
  refine Ev.neg (by simpa using hha) ?_
  exact Ev.step (fun k => by rw [jk.j0]) (Ev.pos rfl (Ev.now _))
end Go.Proofs.Ytijgeonhbmgikaa.EORatioSigns
end
section
set_option linter.unusedVariables false
set_option linter.unusedSimpArgs false
namespace Go.Proofs.YtijgeonhbmgikaaN
def rn (q : Rat) : Bool := decide (q.num < 0)
def rN (q : Rat) : List Int := dg (q.num.natAbs : Int)
def rD (q : Rat) : List Int := dg (q.den : Int)
def Sm (q : Rat) (m : Nat) : Prop := q.num.natAbs < 2 ^ m ∧ q.den < 2 ^ m
theorem jHx {K : Nat} (h : 512 = K) : B ^ 8 = 2 ^ K := by
 have e : 64 * 8 = K := by omega
 rw [show B = (2 : Int) ^ 64 from by decide, ← Int.pow_mul, e]
theorem qy {n m : Nat} (h : n < 2 ^ m) (hm : m ≤ 512) : (n : Int) < B ^ 8 := by
 obtain ⟨K, hK⟩ : ∃ K : Nat, 512 = K := ⟨_, rfl⟩
 rw [hK] at hm
 rw [jHx hK]
 have h1 : n < 2 ^ K := Nat.lt_of_lt_of_le h (Nat.pow_le_pow_right (by decide) hm)
 have h2 : ((2 ^ K : Nat) : Int) = (2 : Int) ^ K := by rw [Int.natCast_pow]; rfl
 rw [← h2]
 exact Int.ofNat_lt.2 h1
theorem Sm.mono {q : Rat} {m n : Nat} (h : Sm q m) (hm : m ≤ n) : Sm q n := by
 have := Nat.pow_le_pow_right (n := 2) (by decide) hm
 exact ⟨Nat.lt_of_lt_of_le h.1 this, Nat.lt_of_lt_of_le h.2 this⟩
theorem jAQ {a b m n : Nat} (h1 : a < 2 ^ m) (h2 : b < 2 ^ n) : a * b < 2 ^ (m + n) := by
 rw [Nat.pow_add]
 rcases Nat.eq_zero_or_pos a with h | h
 ·
  subst h; rw [Nat.zero_mul]; exact Nat.mul_pos (Nat.pow_pos (by decide)) (Nat.pow_pos (by decide))
 ·
  exact Nat.mul_lt_mul_of_lt_of_lt h1 h2
theorem jAu {n : Int} {d : Nat} (hd : d ≠ 0) : (mkRat n d).num = n / (Nat.gcd n.natAbs d : Nat) ∧ (mkRat n d).den = d / Nat.gcd n.natAbs d := by
 rw [← Rat.normalize_eq_mkRat hd, Rat.normalize_eq]
 exact ⟨rfl, rfl⟩
theorem jFl {n : Int} {d : Nat} (hd : d ≠ 0) : (mkRat n d).num.natAbs = n.natAbs / Nat.gcd n.natAbs d := by
 rw [(jAu hd).1, Int.natAbs_ediv_of_dvd (Int.ofNat_dvd_left.2 (Nat.gcd_dvd_left _ _)), Int.natAbs_natCast]
theorem jHF {n : Int} {d : Nat} (hd : d ≠ 0) : rn (mkRat n d) = decide (n < 0) := by
 unfold rn
 have hg : 0 < Nat.gcd n.natAbs d := Nat.gcd_pos_of_pos_right _ (Nat.pos_of_ne_zero hd)
 have h := Int.ediv_mul_cancel (Int.ofNat_dvd_left.2 (Nat.gcd_dvd_left n.natAbs d) : ((Nat.gcd n.natAbs d : Nat) : Int) ∣ n)
 rw [(jAu hd).1]
 generalize n / ((Nat.gcd n.natAbs d : Nat) : Int) = m at *
 generalize hG : ((Nat.gcd n.natAbs d : Nat) : Int) = G at *
 have hG0 : 0 < G := by omega
 rw [Bool.eq_iff_iff, decide_eq_true_iff, decide_eq_true_iff, ← h]
 constructor
 ·
  intro hm; exact Int.mul_neg_of_neg_of_pos hm hG0
 ·
  intro hm
  rcases Int.lt_or_le m 0 with h1 | h1
  ·
   exact h1
  ·
   have := Int.mul_nonneg h1 (Int.le_of_lt hG0); omega
theorem jBJ {n : Int} {d m : Nat} (hd : d ≠ 0) (h1 : n.natAbs < 2 ^ m) (h2 : d < 2 ^ m) : Sm (mkRat n d) m := by
 unfold Sm
 rw [jFl hd, (jAu hd).2]
 exact ⟨Nat.lt_of_le_of_lt (Nat.div_le_self _ _) h1, Nat.lt_of_le_of_lt (Nat.div_le_self _ _) h2⟩
theorem jEf (p q : Rat) : p + q = mkRat (p.num * q.den + q.num * p.den) (p.den * q.den) := by rw [Rat.add_def, Rat.normalize_eq_mkRat]
theorem jGz (p q : Rat) : p * q = mkRat (p.num * q.num) (p.den * q.den) := by rw [Rat.mul_def, Rat.normalize_eq_mkRat]
theorem jER (p q : Rat) : p.den * q.den ≠ 0 := Nat.mul_ne_zero p.den_nz q.den_nz
theorem Sm.cross {p q : Rat} {m n : Nat} (hp : Sm p m) (hq : Sm q n) : p.num.natAbs * q.den < 2 ^ (m + n) ∧ q.num.natAbs * p.den < 2 ^ (m + n) ∧ p.den * q.den < 2 ^ (m + n) ∧ p.num.natAbs * q.num.natAbs < 2 ^ (m + n) := by
 refine ⟨jAQ hp.1 hq.2, ?_, jAQ hp.2 hq.2, jAQ hp.1 hq.1⟩
 rw [Nat.add_comm m n]
 exact jAQ hq.1 hp.2
theorem Sm.add {p q : Rat} {m n : Nat} (hp : Sm p m) (hq : Sm q n) : Sm (p + q) (m + n + 1) := by
 obtain ⟨h1, h2, h3, _⟩ := hp.cross hq
 rw [jEf]
 have e : (2 : Nat) ^ (m + n + 1) = 2 * 2 ^ (m + n) := by rw [Nat.pow_succ, Nat.mul_comm]
 refine jBJ (jER p q) ?_ (by omega)
 have h4 := Int.natAbs_add_le (p.num * q.den) (q.num * p.den)
 rw [Int.natAbs_mul, Int.natAbs_mul, Int.natAbs_natCast, Int.natAbs_natCast] at h4
 omega
theorem Sm.mul {p q : Rat} {m n : Nat} (hp : Sm p m) (hq : Sm q n) : Sm (p * q) (m + n) := by
 obtain ⟨_, _, h3, h4⟩ := hp.cross hq
 rw [jGz]
 exact jBJ (jER p q) (by rw [Int.natAbs_mul]; exact h4) h3
theorem Sm.neg {q : Rat} {m : Nat} (h : Sm q m) : Sm (-q) m := by
 unfold Sm at *
 rw [Rat.neg_num, Rat.neg_den, Int.natAbs_neg]
 exact h
theorem Sm.int {n : Int} {m : Nat} (h : n.natAbs < 2 ^ m) (hm : 0 < m) : Sm (n : Rat) m := ⟨h, Nat.one_lt_two_pow (by omega)⟩
end Go.Proofs.YtijgeonhbmgikaaN
end
section
set_option linter.unusedVariables false
set_option linter.unusedSimpArgs false
namespace Go.Proofs.Ytijgeonhbmgikaa.EORatioSigns
open Go.RowKit Go.Proofs.Ytijgeonhbmgikaa.PORatioSigns Go.Proofs.YtijgeonhbmgikaaN Go.Proofs.YtijgeonhbmgikaaW.PrintWords Go.Proofs.YtijgeonhbmgikaaW.PrintLast Go.Proofs.YtijgeonhbmgikaaW.PrintMore
def rat4 (q : Rat) : Bool × List Int × List Int × Int := (rn q, rN q, rD q, 0)
def jFO (neg : Bool) (a b : List Int) : Bool × List Int × List Int × Int := if Held a ∧ Held b then (if val b = 0 then (false, [], [], 30) else (neg && decide (val a ≠ 0), dg (val a / gcdv (val a) (val b)), dg (val b / gcdv (val a) (val b)), 0)) else (false, [], [], 1)
theorem jFS {x y : Int} (hx : 0 ≤ x) (hy : 0 < y) : decide (x / gcdv x y ≠ 0) = decide (x ≠ 0) := by
 have hg := jCG hx (Int.le_of_lt hy) (.inr (Int.ne_of_gt hy))
 have h := Int.ediv_mul_cancel (jDP hx (Int.le_of_lt hy)).1
 rw [decide_eq_decide]
 constructor
 ·
  intro h1 h2; subst h2; rw [Int.zero_ediv] at h1; exact h1 rfl
 ·
  intro h1 h2; rw [h2, Int.zero_mul] at h; exact h1 h.symm
theorem jDh {n : Int} (h : 0 ≤ n) : decide (((dg n).length : Int) > 0) = decide (n ≠ 0) := by
 rw [decide_eq_decide]; exact jCp h
theorem jBL {n : Int} (h : 0 ≤ n) : (((dg n).length : Int) == 0) = decide (n = 0) := by
 rw [Bool.eq_iff_iff, beq_iff_eq, decide_eq_true_iff]; exact jBA h
theorem jDg {a b : List Int} (ha : Ok a) (hb : Ok b) (hha : Held a) (hhb : Held b) (h0 : val b ≠ 0) : divd a (dg (gcdv (val a) (val b))) = (dg (val a / gcdv (val a) (val b)), dg (val a % gcdv (val a) (val b)), 0) ∧ divd b (dg (gcdv (val a) (val b))) = (dg (val b / gcdv (val a) (val b)), dg (val b % gcdv (val a) (val b)), 0) := by
 have a0 := jo ha
 have b0 := jo hb
 have a8 : val a < B ^ 8 := by have := qh ha; have := qZ hha.1; omega
 have b8 : val b < B ^ 8 := by have := qh hb; have := qZ hhb.1; omega
 have hg := jCG a0 b0 (.inr h0)
 have hg8 := jEL a0 b0 a8 b8
 have h1 := jCt a0 hg a8 hg8
 have h2 := jCt b0 hg b8 hg8
 rw [hha.dg ha] at h1
 rw [hhb.dg hb] at h2
 exact ⟨h1, h2⟩
theorem jGN (neg : Bool) {a b : List Int} (ha : Ok a) (hb : Ok b) : Ev (fun k => zD.f k neg a b) (jFO neg a b) := by
 unfold zD.f jFO
 have hg := jFn ha hb
 unfold gcdd at hg
 by_cases hh : Held a ∧ Held b
 ·
  rw [if_pos hh] at hg ⊢
  refine Ev.bind hg (Ev.pos rfl ?_)
  have a0 := jo ha
  have b0 := jo hb
  by_cases hz : val b = 0
  ·
   rw [if_pos hz]
   have hl : (b.length : Int) = 0 := by
    have e := hh.2.dg hb
    rw [hz, jAL] at e
    rw [← e]; rfl
   exact Ev.pos hl (Ev.now _)
  ·
   rw [if_neg hz]
   have hl : ¬ (b.length : Int) = 0 := fun h => hz (by rw [List.eq_nil_of_length_eq_zero (l := b) (by omega)]; rfl)
   have hgp := jCG a0 b0 (.inr hz)
   obtain ⟨e1, e2⟩ := jDg ha hb hh.1 hh.2 hz
   have d1 := jEN ha (zx (gcdv (val a) (val b)))
   have d2 := jEN hb (zx (gcdv (val a) (val b)))
   rw [e1] at d1
   rw [e2] at d2
   refine Ev.neg hl (Ev.bind d1 (Ev.bind d2 ?_))
   have q0 := Int.ediv_nonneg a0 (Int.le_of_lt hgp)
   have hb0 : 0 < val b := by omega
   cases neg with
   | true =>
    refine Ev.pos rfl (Ev.vv (a := decide (val a = 0)) ?_ (Ev.eq (Ev.now _) ?_))
    ·
     unfold jy.f
     rw [jBL q0]
     have := jFS a0 hb0
     have h2 : decide (val a / gcdv (val a) (val b) = 0) = decide (val a = 0) := by
      rw [decide_eq_decide] at this ⊢
      exact Decidable.not_iff_not.1 this
     rw [h2]
    ·
     simp
   | false => exact Ev.neg (by simp) (Ev.eq (Ev.now _) (by simp))
 ·
  rw [if_neg hh] at hg ⊢
  exact Ev.bind hg (Ev.neg (by decide) (Ev.now _))
theorem jEG (neg : Bool) {x y : Nat} (hx : (x : Int) < B ^ 8) (hy : (y : Int) < B ^ 8) (h0 : y ≠ 0) (n : Int) (hn : (if neg = true then -(x : Int) else x) = n) : jFO neg (dg x) (dg y) = rat4 (mkRat n y) := by
 have e0 : n.natAbs = x := by subst hn; cases neg <;> simp
 unfold jFO rat4
 rw [if_pos ⟨jAG hx, jAG hy⟩, zu (by omega), zu (by omega), if_neg (by omega), jHF h0]
 unfold rN rD gcdv
 rw [jFl h0, (jAu h0).2, e0, Int.toNat_natCast, Int.toNat_natCast, Int.natCast_ediv, Int.natCast_ediv]
 refine Prod.ext ?_ rfl
 show (neg && decide ((x : Int) ≠ 0)) = decide (n < 0)
 subst hn
 cases neg with
 | true =>
  rw [Bool.eq_iff_iff]
  simp
  omega
 | false =>
  rw [Bool.eq_iff_iff]
  simp
def mayd (neg : Bool) (a b : List Int) : Bool := decide (Held a ∧ Held b ∧ val b ≠ 0 ∧ gcdv (val a) (val b) = 1 ∧ ¬ (neg = true ∧ val a = 0))
theorem jAr (neg : Bool) {a b : List Int} (ha : Ok a) (hb : Ok b) : Ev (fun k => jm.f k neg a b) (mayd neg a b) := by
 unfold jm.f mayd
 have hg := jFn ha hb
 unfold gcdd at hg
 by_cases hh : Held a ∧ Held b
 ·
  rw [if_pos hh] at hg
  refine Ev.bind hg (Ev.pos rfl ?_)
  have ea := hh.1.dg ha
  have eb := hh.2.dg hb
  have a0 := jo ha
  have b0 := jo hb
  have hlb := jDh b0
  rw [eb] at hlb
  have hla := jBL a0
  rw [ea] at hla
  by_cases hz : val b = 0
  ·
   rw [decide_eq_false (fun h => h.2.2.1 hz)]
   refine Ev.neg ?_ (Ev.now _)
   rw [hz] at hlb
   exact of_decide_eq_false (hlb.trans (by simp))
  ·
   refine Ev.pos (of_decide_eq_true (hlb.trans (decide_eq_true hz))) ?_
   have a8 : val a < B ^ 8 := by have := qh ha; have := qZ hh.1.1; omega
   have b8 : val b < B ^ 8 := by have := qh hb; have := qZ hh.2.1; omega
   have hg8 := jEL a0 b0 a8 b8
   have lg := qP hg8
   have hc := jGK (zx (gcdv (val a) (val b))) (b := [1]) (by decide) (by omega) (by decide)
   rw [zu (jCs _ _), val_one] at hc
   refine Ev.bind hc ?_
   have hce := jFa (gcdv (val a) (val b)) 1
   by_cases hg1 : gcdv (val a) (val b) = 1
   ·
    refine Ev.pos (by rw [← beq_iff_eq, hce]; exact decide_eq_true hg1) ?_
    cases neg with
    | true =>
     refine Ev.pos rfl (Ev.vv (a := decide (val a = 0)) (by unfold jy.f; rw [hla]) (Ev.eq (Ev.now _) ?_))
     by_cases hv : val a = 0
     ·
      rw [decide_eq_true hv, decide_eq_false (fun h => h.2.2.2.2 ⟨rfl, hv⟩)]; rfl
     ·
      rw [decide_eq_false hv, decide_eq_true ⟨hh.1, hh.2, hz, hg1, fun h => hv h.2⟩]; rfl
    | false =>
     refine Ev.neg (by simp) (Ev.eq (Ev.now _) ?_)
     rw [decide_eq_true ⟨hh.1, hh.2, hz, hg1, fun h => Bool.noConfusion h.1⟩]
   ·
    refine Ev.neg (by rw [← beq_iff_eq, hce, decide_eq_true_iff]; exact hg1) (Ev.eq (Ev.now _) ?_)
    rw [decide_eq_false (fun h => hg1 h.2.2.2.1)]
 ·
  rw [if_neg hh] at hg
  rw [decide_eq_false (fun h => hh ⟨h.1, h.2.1⟩)]
  exact Ev.bind hg (Ev.neg (by decide) (Ev.now _))
theorem jBY {q : Rat} {m : Nat} (h : Sm q m) (hm : m ≤ 512) : mayd (rn q) (rN q) (rD q) = true := by
 have h1 := qy h.1 hm
 have h2 := qy h.2 hm
 unfold mayd rN rD
 rw [zu (by omega), zu (by omega)]
 refine decide_eq_true ⟨jAG h1, jAG h2, by have := q.den_nz; omega, ?_, ?_⟩
 ·
  unfold gcdv
  rw [Int.toNat_natCast, Int.toNat_natCast]
  have := q.reduced
  unfold Nat.Coprime at this
  rw [this]; rfl
 ·
  rintro ⟨ha, hb⟩
  unfold rn at ha
  have := of_decide_eq_true ha
  omega
theorem jDt {n1 n2 : Bool} {a1 a2 b1 b2 : List Int} (ha : a1.length ≤ 17592186044416) (hb : b1.length ≤ 17592186044416) : Ev (fun k => jQ.f k n1 a1 b1 n2 a2 b2) (decide (n1 = n2 ∧ a1 = a2 ∧ b1 = b2)) := by
 unfold jQ.f
 by_cases h1 : n1 = n2
 ·
  refine Ev.pos (by rw [h1]; exact beq_self_eq_true _) (Ev.bind (jDL a1 a2 ha) ?_)
  by_cases h2 : a1 = a2
  ·
   refine Ev.pos (decide_eq_true h2) (Ev.bind (jDL b1 b2 hb) (Ev.eq (Ev.now _) ?_))
   rw [decide_eq_decide]; exact ⟨fun h => ⟨h1, h2, h⟩, fun h => h.2.2⟩
  ·
   refine Ev.neg (by simpa using h2) (Ev.eq (Ev.now _) ?_)
   rw [decide_eq_false (fun h => h2 h.2.1)]
 ·
  refine Ev.neg (by simpa using h1) (Ev.eq (Ev.now _) ?_)
  rw [decide_eq_false (fun h => h1 h.1)]
theorem jFh {n1 n2 : Bool} {a1 a2 b1 b2 : List Int} (ha : a1.length ≤ 8) (hb : b1.length ≤ 8) (h : n1 = n2 ∧ a1 = a2 ∧ b1 = b2) : Ev (fun k => jQ.f k n1 a1 b1 n2 a2 b2) true := Ev.eq (jDt (by omega) (by omega)) (decide_eq_true h)
theorem jBd {p q : Rat} {m n : Nat} (hp : Sm p m) (hq : Sm q n) (h : m + n ≤ 512) : Ev (fun k => jl.f k (rn p) (rN p) (rD p) (rn q) (rN q) (rD q)) (dg ((p.num.natAbs * q.den : Nat) : Int), dg ((q.num.natAbs * p.den : Nat) : Int)) := by
 unfold jl.f rN rD
 have l1 := qP (qy hp.1 (by omega))
 have l2 := qP (qy hp.2 (by omega))
 have l3 := qP (qy hq.1 (by omega))
 have l4 := qP (qy hq.2 (by omega))
 have h1 := jDM (zx (p.num.natAbs : Int)) (zx (q.den : Int)) (by omega) (by omega)
 have h2 := jDM (zx (q.num.natAbs : Int)) (zx (p.den : Int)) (by omega) (by omega)
 rw [zu (by omega), zu (by omega), ← Int.natCast_mul] at h1 h2
 exact Ev.bind h1 (Ev.bind h2 (Ev.now _))
theorem jDJ (neg : Bool) {x y : Nat} (too : Bool) (hx : (x : Int) < B ^ 8) (hy : (y : Int) < B ^ 8) : ∃ s : Bool, ∃ z : Nat, Ev (fun k => vY.f k neg (dg x) too (dg y)) (s, dg z) ∧ (if s = true then -(z : Int) else z) = (if neg = true then -(x : Int) else x) + (if too = true then -(y : Int) else y) := by
 unfold vY.f
 have rx := Row.dg (x := (x : Int)) (n := 8) (by omega) hx
 have ry := Row.dg (x := (y : Int)) (n := 8) (by omega) hy
 by_cases h : neg = too
 ·
  subst h
  have ha := addR rx ry (by decide) (by decide)
  refine ⟨neg, x + y, Ev.pos (beq_self_eq_true _) (Ev.bind ha (Ev.eq (Ev.now _) ?_)), ?_⟩
  ·
   rw [Int.natCast_add]
  ·
   cases neg <;> simp <;> omega
 ·
  have hc := cmpR rx ry (by decide) (by decide)
  by_cases hl : (x : Int) < y
  ·
   have hs := jBz ry rx (by decide) (by decide) (Int.le_of_lt hl)
   refine ⟨too, y - x, Ev.neg (by simpa using h) (Ev.bind hc (Ev.pos (jAf.2 hl) (Ev.bind hs (Ev.eq (Ev.now _) ?_)))), ?_⟩
   ·
    rw [Int.ofNat_sub (by omega)]
   ·
    cases neg <;> cases too <;> simp at h ⊢ <;> omega
  ·
   have hs := jBz rx ry (by decide) (by decide) (by omega)
   refine ⟨neg, x - y, Ev.neg (by simpa using h) (Ev.bind hc (Ev.neg (fun h => hl (jAf.1 h)) (Ev.bind hs (Ev.eq (Ev.now _) ?_)))), ?_⟩
   ·
    rw [Int.ofNat_sub (by omega)]
   ·
    cases neg <;> cases too <;> simp at h ⊢ <;> omega
theorem signed (q : Rat) (d : Nat) : (if rn q = true then -((q.num.natAbs * d : Nat) : Int) else ((q.num.natAbs * d : Nat) : Int)) = q.num * d := by
 unfold rn
 rw [Int.natCast_mul]
 by_cases h : q.num < 0
 ·
  rw [if_pos (decide_eq_true h), ← Int.neg_mul]; congr 1; omega
 ·
  rw [if_neg (by simpa using h)]; congr 1; omega
theorem jHb {l : List (List Int)} (h : ∀ x ∈ l, x.length ≤ 8) : vO.f l = some false := by
 unfold vO.f vO.any
 have hi : ∀ (l : List (List Int)) (i : Int), (∀ x ∈ l, x.length ≤ 8) → vO.idx l i = -1 := by
  intro l
  induction l with
  | nil => intro i _; rfl
  | cons x r ih =>
   intro i hx
   have := hx x (List.mem_cons_self ..)
   rw [vO.idx, if_neg (by omega)]
   exact ih _ (fun y hy => hx y (List.mem_cons_of_mem _ hy))
 rw [hi l 0 h]
 rfl
theorem jGa {p q : Rat} {m n : Nat} (hp : Sm p m) (hq : Sm q n) (h : m + n + 1 ≤ 512) : Ev (fun k => vI.f k (rn p) (rN p) (rD p) (rn q) (rN q) (rD q)) (rat4 (p + q)) := by
 unfold vI.f
 have m1 := jAr (rn p) (zx (p.num.natAbs : Int)) (zx (p.den : Int))
 have m2 := jAr (rn q) (zx (q.num.natAbs : Int)) (zx (q.den : Int))
 have t1 := jBY hp (by omega)
 have t2 := jBY hq (by omega)
 unfold rN rD at t1 t2
 rw [t1] at m1
 rw [t2] at m2
 refine Ev.bind m1 (Ev.pos rfl (Ev.bind m2 (Ev.step (fun k => by rw [vI.j0]) (Ev.neg (by simp) ?_))))
 obtain ⟨c1, c2, c3, _⟩ := hp.cross hq
 have b1 := qy c1 (by omega)
 have b2 := qy c2 (by omega)
 have b3 := qy c3 (by omega)
 obtain ⟨s, z, hpl, hz⟩ := jDJ (rn p) (rn q) b1 b2
 rw [signed, signed] at hz
 have hsum := hp.add hq
 have zb : z < 2 ^ (m + n + 1) := by
  have h4 := Int.natAbs_add_le (p.num * q.den) (q.num * p.den)
  rw [Int.natAbs_mul, Int.natAbs_mul, Int.natAbs_natCast, Int.natAbs_natCast, ← hz] at h4
  have e : (2 : Nat) ^ (m + n + 1) = 2 * 2 ^ (m + n) := by rw [Nat.pow_succ, Nat.mul_comm]
  have e2 : (if s = true then -(z : Int) else (z : Int)).natAbs = z := by cases s <;> simp
  omega
 have b4 := qy zb h
 have l2 := qP (qy hp.2 (by omega))
 have l4 := qP (qy hq.2 (by omega))
 have hd := jDM (zx (p.den : Int)) (zx (q.den : Int)) (by omega) (by omega)
 rw [zu (by omega), zu (by omega), ← Int.natCast_mul] at hd
 refine Ev.bind (jBd hp hq (by omega)) (Ev.bind hpl (Ev.bind hd (Ev.vv (jHb ?_) (Ev.neg (by simp) ?_))))
 ·
  intro x hx
  simp only [List.mem_cons, List.not_mem_nil, or_false] at hx
  rcases hx with rfl | rfl | rfl | rfl
  ·
   exact qP b1
  ·
   exact qP b2
  ·
   exact qP b4
  ·
   exact qP b3
 ·
  have hm := jGN s (zx (z : Int)) (zx ((p.den * q.den : Nat) : Int))
  rw [jEG s b4 b3 (jER p q) _ hz, ← jEf] at hm
  exact Ev.bind hm (Ev.now _)
def cmpq (p q : Rat) : Int := if p < q then -1 else if p = q then 0 else 1
theorem jEV {p q : Rat} {m n : Nat} (hp : Sm p m) (hq : Sm q n) (h : m + n + 1 ≤ 512) : Ev (fun k => vM.f k (rn p) (rN p) (rD p) (rn q) (rN q) (rD q)) (cmpq p q) := by
 unfold vM.f
 have m1 := jAr (rn p) (zx (p.num.natAbs : Int)) (zx (p.den : Int))
 have m2 := jAr (rn q) (zx (q.num.natAbs : Int)) (zx (q.den : Int))
 have t1 := jBY hp (by omega)
 have t2 := jBY hq (by omega)
 unfold rN rD at t1 t2
 rw [t1] at m1
 rw [t2] at m2
 refine Ev.bind m1 (Ev.pos rfl (Ev.bind m2 (Ev.step (fun k => by rw [vM.j0]) (Ev.neg (by simp) ?_))))
 obtain ⟨c1, c2, _, _⟩ := hp.cross hq
 have b1 := qy c1 (by omega)
 have b2 := qy c2 (by omega)
 obtain ⟨s, z, hpl, hz⟩ := jDJ (rn p) (!rn q) b1 b2
 have hflip : (if (!rn q) = true then -((q.num.natAbs * p.den : Nat) : Int) else ((q.num.natAbs * p.den : Nat) : Int)) = -(q.num * p.den) := by
  rw [← signed]
  cases rn q <;> simp
 rw [signed, hflip] at hz
 refine Ev.bind (jBd hp hq (by omega)) (Ev.bind hpl ?_)
 unfold cmpq
 have hlt := Rat.lt_iff p q
 by_cases h0 : z = 0
 ·
  subst h0
  have e : p.num * q.den = q.num * p.den := by cases s <;> simp at hz <;> omega
  have eq : p = q := by
   have := Rat.mkRat_eq_iff (n₁ := p.num) (n₂ := q.num) p.den_nz q.den_nz
   rw [Rat.mkRat_self, Rat.mkRat_self] at this
   exact this.2 e
  have nlt : ¬ p < q := fun h => by have := hlt.1 h; omega
  rw [if_neg nlt, if_pos eq]
  exact Ev.pos ((jBA (by omega)).2 rfl) (Ev.now _)
 ·
  have hne : p ≠ q := fun e => by
   subst e
   apply h0
   cases s <;> simp at hz <;> omega
  refine Ev.neg (fun h => h0 (by have := (jBA (n := (z : Int)) (by omega)).1 h; omega)) ?_
  cases s with
  | true =>
   rw [if_pos (hlt.2 (by simp at hz; omega))]
   exact Ev.pos rfl (Ev.now _)
  | false =>
   have nlt : ¬ p < q := fun h => by have := hlt.1 h; simp at hz; omega
   have e : (if p < q then -1 else if p = q then 0 else 1 : Int) = 1 := by rw [if_neg nlt, if_neg hne]
   rw [e]
   exact Ev.neg (fun h => Bool.noConfusion h) (Ev.now _)
theorem jFk {n : Int} (h0 : -9223372036854775808 ≤ n) (h1 : n ≤ 9223372036854775807) : vV.f n = some (rn (n : Rat), rN (n : Rat), rD (n : Rat)) := by
 have hs : vV.sz n = (n.natAbs : Int) := by
  unfold vV.sz
  simp only [IntKind.wrap_u64]
  split <;> omega
 unfold vV.f
 rw [hs, of_eq (n := (n.natAbs : Int)) ⟨by omega, by rw [B_eq]; omega⟩]
 show some (decide (n < 0), dg (n.natAbs : Int), [1]) = _
 have e1 : rD (n : Rat) = [1] := jBG (x := 1) (by decide) (by decide)
 rw [e1]
 rfl
theorem jDV {l : List Int} (h : l.length ≤ 8) : vP.f l = some l := if_pos (by omega)
theorem r16 : rat4 (mkRat 1 6) = (false, [1], [6], 0) := by
 have e := jAu (n := 1) (d := 6) (by decide)
 have e1 : (mkRat 1 6).num = 1 := by rw [e.1]; decide
 have e2 : (mkRat 1 6).den = 6 := by rw [e.2]; decide
 unfold rat4 rn rN rD
 rw [e1, e2]
 have d1 : dg ((Int.natAbs 1 : Nat) : Int) = [1] := jBG (x := 1) (by decide) (by decide)
 have d2 : dg ((6 : Nat) : Int) = [6] := jBG (x := 6) (by decide) (by decide)
 rw [d1, d2]
 rfl
theorem r13 : rat4 (mkRat 1 3) = (false, [1], [3], 0) := by
 have e := jAu (n := 1) (d := 3) (by decide)
 have e1 : (mkRat 1 3).num = 1 := by rw [e.1]; decide
 have e2 : (mkRat 1 3).den = 3 := by rw [e.2]; decide
 unfold rat4 rn rN rD
 rw [e1, e2]
 have d1 : dg ((Int.natAbs 1 : Nat) : Int) = [1] := jBG (x := 1) (by decide) (by decide)
 have d2 : dg ((3 : Nat) : Int) = [3] := jBG (x := 3) (by decide) (by decide)
 rw [d1, d2]
 rfl
theorem r12 : rat4 (mkRat 1 6 + mkRat 1 3) = (false, [1], [2], 0) := by
 have e6 := jAu (n := 1) (d := 6) (by decide)
 have e61 : (mkRat 1 6).num = 1 := by rw [e6.1]; decide
 have e62 : (mkRat 1 6).den = 6 := by rw [e6.2]; decide
 have e3 := jAu (n := 1) (d := 3) (by decide)
 have e31 : (mkRat 1 3).num = 1 := by rw [e3.1]; decide
 have e32 : (mkRat 1 3).den = 3 := by rw [e3.2]; decide
 rw [jEf, e61, e62, e31, e32]
 have e := jAu (n := 1 * ((3 : Nat) : Int) + 1 * ((6 : Nat) : Int)) (d := 6 * 3) (by decide)
 have e1 : (mkRat (1 * ((3 : Nat) : Int) + 1 * ((6 : Nat) : Int)) (6 * 3)).num = 1 := by rw [e.1]; decide
 have e2 : (mkRat (1 * ((3 : Nat) : Int) + 1 * ((6 : Nat) : Int)) (6 * 3)).den = 2 := by rw [e.2]; decide
 unfold rat4 rn rN rD
 rw [e1, e2]
 have d1 : dg ((Int.natAbs 1 : Nat) : Int) = [1] := jBG (x := 1) (by decide) (by decide)
 have d2 : dg ((2 : Nat) : Int) = [2] := jBG (x := 2) (by decide) (by decide)
 rw [d1, d2]
 rfl
theorem jDs : Ev (fun k => je.f k) true := by
 unfold je.f
 have s6 : Sm (mkRat 1 6) 3 := jBJ (by decide) (by decide) (by decide)
 have s3 : Sm (mkRat 1 3) 3 := jBJ (by decide) (by decide) (by decide)
 have h := jGa s6 s3 (by decide)
 have h6 := r16
 have h3 := r13
 unfold rat4 at h6 h3
 simp only [Prod.mk.injEq] at h6 h3
 rw [h6.1, h6.2.1, h6.2.2.1, h3.1, h3.2.1, h3.2.2.1, r12] at h
 exact Ev.bind h (Ev.pos rfl (Ev.bind (jFh (by decide) (by decide) ⟨rfl, rfl, rfl⟩) (Ev.now _)))
end Go.Proofs.Ytijgeonhbmgikaa.EORatioSigns
end
section
set_option linter.unusedVariables false
set_option linter.unusedSimpArgs false
namespace Go.Proofs.Ytijgeonhbmgikaa.EORatioSigns
open Go.RowKit Go.Proofs.Ytijgeonhbmgikaa.PORatioSigns Go.Proofs.YtijgeonhbmgikaaN Go.Proofs.YtijgeonhbmgikaaW.PrintWords Go.Proofs.YtijgeonhbmgikaaW.PrintLast Go.Proofs.YtijgeonhbmgikaaW.PrintMore
theorem jEE {q : Rat} {m : Nat} (h : Sm q m) (hm : m ≤ 512) : zJ.f (rn q) (rN q) (rD q) = some (rn (-q), rN (-q), rD (-q)) := by
 have h1 := qP (qy h.1 hm)
 have h2 := qP (qy h.2 hm)
 have e1 : rN (-q) = rN q := by unfold rN; rw [Rat.neg_num, Int.natAbs_neg]
 have e2 : rD (-q) = rD q := by unfold rD; rw [Rat.neg_den]
 have hz : jy.f (rn q) (rN q) (rD q) = some (decide (q.num = 0)) := by
  unfold jy.f rN
  rw [jBL (by omega)]
  congr 1
  rw [decide_eq_decide]
  omega
 unfold zJ.f
 rw [hz, e1, e2, qJ, jDV (l := rN q) (by unfold rN; omega), qJ, jDV (l := rD q) (by unfold rD; omega), qJ]
 refine congrArg (fun b => some (b, rN q, rD q)) ?_
 unfold rn
 rw [Rat.neg_num]
 by_cases h1 : q.num < 0
 ·
  rw [decide_eq_true h1, decide_eq_false (show ¬ q.num = 0 by omega), decide_eq_false (show ¬ -q.num < 0 by omega)]; rfl
 ·
  by_cases h2 : q.num = 0
  ·
   rw [h2]; rfl
  ·
   rw [decide_eq_false h1, decide_eq_false h2, decide_eq_true (show -q.num < 0 by omega)]; rfl
theorem jHQ (a : List Int) (hl : a.length ≤ 1000) : ∀ (d i : Nat), a.length - i = d → i ≤ a.length → Ev (fun k => jN.l0 k a a a.length i) true := by
 intro d
 induction d with
 | zero =>
  intro i hd hi
  exact Ev.step (fun k => by rw [jN.l0]) (Ev.neg (by omega) (Ev.now _))
 | succ d ih =>
  intro i hd hi
  have e : wrap64 ((i : Int) + 1) = ((i + 1 : Nat) : Int) := by rw [w64 (by omega)]; omega
  refine Ev.step (fun k => by rw [jN.l0, e]) (Ev.pos (by omega) (Ev.pos (by omega) (Ev.pos (by omega) (Ev.pos (by omega) (Ev.pos rfl ?_)))))
  exact ih (i + 1) (by omega) (by omega)
theorem jFo {a : List Int} (hl : a.length ≤ 1000) : Ev (fun k => jN.f k a a) true := by
 unfold jN.f
 exact Ev.pos rfl (jHQ a hl _ 0 rfl (Nat.zero_le _))
theorem jDr (n : Bool) {a b : List Int} (ha : a.length ≤ 8) (hb : b.length ≤ 8) : Ev (fun k => zN.f k n a b n a b) true := by
 unfold zN.f
 exact Ev.pos (beq_self_eq_true _) (Ev.bind (jFo (by omega)) (Ev.pos rfl (Ev.bind (jFo (by omega)) (Ev.now _))))
theorem jGH {n : Int} (h0 : -9223372036854775808 ≤ n) (h1 : n ≤ 9223372036854775807) : Ev (fun k => vB.f k n) (rn (n : Rat), rN (n : Rat), rD (n : Rat)) := by
 have e1 : rD (n : Rat) = [1] := jBG (x := 1) (by decide) (by decide)
 have hr := jGv (n := (n.natAbs : Int)) ⟨by omega, by rw [B_eq]; omega⟩
 rw [e1]
 unfold vB.f
 by_cases h : n < 0
 ·
  have hs : IntKind.u64.wrap (-(IntKind.u64.wrap n)) = (n.natAbs : Int) := by simp only [IntKind.wrap_u64]; omega
  rw [hs]
  exact Ev.pos h (Ev.bind hr (Ev.now _))
 ·
  have hs : IntKind.u64.wrap n = (n.natAbs : Int) := by simp only [IntKind.wrap_u64]; omega
  rw [hs]
  exact Ev.neg h (Ev.bind hr (Ev.now _))
end Go.Proofs.Ytijgeonhbmgikaa.EORatioSigns
end
