-- Written by a program of this session (shake.py): of the words and of this session's own texts what this claim names.
import Derived.Test.YtijgeonhbmgikaaPORatioFieldx
import Derived.Laws.Bits64b
import Derived.WalkKit
import Derived.ProofKit
import Derived.OpenShut
import Derived.ChangeOld
import Derived.ChangeSame
import Derived.DataReads
import Derived.Deep.Strs
import Derived.Laws.IdiomArrays
import Derived.Test.YtijgeonhbmgikaaORatioFieldW
set_option linter.unusedVariables false
set_option linter.unusedSimpArgs false
section
set_option linter.unusedVariables false
set_option linter.unusedSimpArgs false
namespace Go.Proofs.YtijgeonhbmgikaaN
theorem jHe (x y : Int) : (cmpv x y == 0) = decide (x = y) := by
 unfold cmpv
 by_cases h : x < y
 ·
  rw [if_pos h]
  have : x ≠ y := by omega
  simp [this]
 ·
  rw [if_neg h]
  by_cases h2 : x = y <;> simp [h2]
theorem jFG {x y : Int} : 0 < cmpv x y ↔ y < x := by unfold cmpv; split <;> (try split) <;> omega
theorem jAa {x y : Int} : cmpv x y < 0 ↔ x < y := by unfold cmpv; split <;> (try split) <;> omega
end Go.Proofs.YtijgeonhbmgikaaN
end
section
set_option linter.unusedVariables false
set_option linter.unusedSimpArgs false
namespace Go.Proofs.Ytijgeonhbmgikaa.EORatioField
open Go.RowKit Go.Proofs.Ytijgeonhbmgikaa.PORatioField Go.Proofs.YtijgeonhbmgikaaN Go.Proofs.YtijgeonhbmgikaaW.PrintWords Go.Proofs.YtijgeonhbmgikaaW.PrintLast Go.Proofs.YtijgeonhbmgikaaW.PrintMore
theorem w64 {x : Int} (h : -4611686018427387904 ≤ x ∧ x ≤ 4611686018427387904) : wrap64 x = x := by unfold wrap64; omega
theorem qW (l : List Int) (n : Nat) : rd l (n : Int) = l.getD n 0 := rfl
theorem zi {α β : Type} (a : α) (f : α → Option β) : (some a).bind f = f a := rfl
theorem Ev.zi {α β : Type} {a : α} {f : Nat → α → Option β} {r : β} (h : Ev (fun k => f k a) r) : Ev (fun k => (some a).bind (f k)) r := h
theorem Ev.pos {α : Type} {c : Prop} [Decidable c] {f g : Nat → Option α} {r : α} (hc : c) (h : Ev f r) : Ev (fun k => if c then f k else g k) r := by
 simp only [if_pos hc]; exact h
theorem Ev.neg {α : Type} {c : Prop} [Decidable c] {f g : Nat → Option α} {r : α} (hc : ¬ c) (h : Ev g r) : Ev (fun k => if c then f k else g k) r := by
 simp only [if_neg hc]; exact h
theorem Ev.vU {α β : Type} {g : Option α} {f : Nat → α → Option β} {a : α} {r : β} (h : g = some a) (k : Ev (fun n => f n a) r) : Ev (fun n => g.bind (f n)) r := by
 rw [h]; exact k
theorem jHi {x y c : Int} (hx : 0 ≤ x ∧ x < B) (hy : 0 ≤ y ∧ y < B) (hc : 0 ≤ c ∧ c ≤ 1) : ad64 x y c + B * ac64 x y c = x + y + c ∧ (0 ≤ ad64 x y c ∧ ad64 x y c < B) ∧ 0 ≤ ac64 x y c ∧ ac64 x y c ≤ 1 := by
 unfold ad64 ac64
 rw [B_eq] at *
 omega
theorem jFJ {c : Int} (hc : 0 ≤ c ∧ c ≤ 1) : ac64 0 0 c = 0 := by
 unfold ac64
 omega
theorem jIH : ∀ (n : Nat) (l : List Int), l.length = n → n ≤ 17592186044416 → Ok l → ∀ k, n < k → jQ.l0 k l = some (dg (val l)) := by
 intro n
 induction n with
 | zero =>
  intro l hl _ _ k hk
  obtain ⟨k, rfl⟩ : ∃ m, k = m + 1 := ⟨k - 1, by omega⟩
  obtain rfl : l = [] := List.eq_nil_of_length_eq_zero hl
  rw [ql, jAe]
  rfl
 | succ n ih =>
  intro l hl hn ho k hk
  obtain ⟨k, rfl⟩ : ∃ m, k = m + 1 := ⟨k - 1, by omega⟩
  have hw : wrap64 ((l.length : Int) - 1) = (n : Int) := by rw [w64 (by omega)]; omega
  simp only [jQ.l0, hw]
  rw [if_pos (by omega), if_pos (by omega), if_pos (by omega), qW]
  by_cases hz : l.getD n 0 = 0
  ·
   rw [if_pos hz, if_pos (by omega), Int.toNat_natCast, ih (l.take n) (by rw [List.length_take]; omega) (by omega) (ho.take n) k (by omega)]
   have e := zG l n (by omega)
   rw [qm (by omega), hz, List.drop_eq_nil_of_le (by omega), ql] at e
   rw [e]
   simp
  ·
   rw [if_neg hz, jDz ho (.inr (by rw [hl]; exact hz))]
theorem jAM {l : List Int} (ho : Ok l) (hl : l.length ≤ 17592186044416) : Ev (fun k => jQ.f k l) (dg (val l)) := ⟨l.length + 1, fun k hk => jIH l.length l rfl hl ho k (by omega)⟩
theorem jCK {l : List Int} (hl : l.length < 17592186044416) : jf.f l = some l := if_pos hl
theorem jBP {l : List Int} (ho : Ok l) (hl : l.length < 17592186044416) : Ev (fun k => vP.f k l) (dg (val l)) := by
 unfold vP.f
 exact Ev.bind (jAM ho (by omega)) (Ev.vU (jCK (by have := qV ho; omega)) (Ev.now _))
theorem jIO (a b : List Int) (hab : a.length = b.length) (hl : a.length ≤ 17592186044416) : ∀ (d i : Nat), a.length - i = d → i ≤ a.length → ∀ k, d < k → ji.l0 k a b i = some (decide (a.drop i = b.drop i)) := by
 intro d
 induction d with
 | zero =>
  intro i hd hi k hk
  obtain ⟨k, rfl⟩ : ∃ m, k = m + 1 := ⟨k - 1, by omega⟩
  simp only [ji.l0]
  rw [if_neg (by omega), List.drop_eq_nil_of_le (by omega), List.drop_eq_nil_of_le (by omega)]
  simp
 | succ d ih =>
  intro i hd hi k hk
  obtain ⟨k, rfl⟩ : ∃ m, k = m + 1 := ⟨k - 1, by omega⟩
  simp only [ji.l0]
  rw [if_pos (by omega), if_pos (by omega), if_pos (by omega), qW, qW, w64 (by omega)]
  have ha : i < a.length := by omega
  have hb : i < b.length := by omega
  have e1 : a.getD i 0 = a[i] := by rw [List.getD_eq_getElem?_getD, List.getElem?_eq_getElem ha]; rfl
  have e2 : b.getD i 0 = b[i] := by rw [List.getD_eq_getElem?_getD, List.getElem?_eq_getElem hb]; rfl
  have e3 : (a.drop i = b.drop i) = (a[i] = b[i] ∧ a.drop (i + 1) = b.drop (i + 1)) := by rw [List.drop_eq_getElem_cons ha, List.drop_eq_getElem_cons hb, List.cons.injEq]
  simp only [e1, e2, e3]
  by_cases h : a[i] = b[i]
  ·
   rw [if_pos h, show ((i : Int) + 1) = ((i + 1 : Nat) : Int) from by omega, ih (i + 1) (by omega) (by omega) k (by omega)]
   simp only [h, true_and]
  ·
   rw [if_neg h]
   simp only [h, false_and, decide_false]
theorem jIP (a b : List Int) (hl : a.length ≤ 17592186044416) : Ev (fun k => ji.f k a b) (decide (a = b)) := by
 unfold ji.f
 by_cases h : a.length = b.length
 ·
  refine Ev.pos (by omega) ⟨a.length + 1, fun k hk => ?_⟩
  have := jIO a b h hl a.length 0 (by omega) (by omega) k (by omega)
  simpa using this
 ·
  refine Ev.neg (by omega) ?_
  have : a ≠ b := fun e => h (by rw [e])
  simp only [this, decide_false]
  exact Ev.now _
theorem jEa {v p s t y c c' r r' : Int} (h1 : s + B * c' = t + y + c) (h2 : r = y + B * r') : v + p * (s - t) + p * B * (c' + r') = v + p * (c + r) := by
 have e : s - t + B * (c' + r') = c + r := by rw [Int.mul_add]; omega
 have e2 : p * (c + r) = p * (s - t) + p * (B * (c' + r')) := by rw [← e, Int.mul_add]
 rw [e2, Int.mul_assoc, Int.add_assoc]
theorem getD_none {l : List Int} {i : Nat} (h : l.length ≤ i) : l.getD i 0 = 0 := by rw [List.getD_eq_getElem?_getD, List.getElem?_eq_none h]; rfl
theorem jCr (l : List Int) (x : Int) : (l ++ [x]).getD l.length 0 = x := by simp
theorem jHg {b x : List Int} {c : Int} {i : Nat} (hi : i = x.length) (hx : x.length < 17592186044416) (hb : b.length < 17592186044416) (hc : c ≤ 1) (k : Nat) :
  jw.j1 (k + 1) b x c i true = jw.l0 k b ((x ++ [0]).set i (ad64 ((x ++ [0]).getD i 0) (b.getD i 0) c)) (ac64 ((x ++ [0]).getD i 0) (b.getD i 0) c) ((i + 1 : Nat) : Int) := by
 have e64 : wrap64 ((i : Int) + 1) = ((i + 1 : Nat) : Int) := by rw [w64 (by omega)]; omega
 have hl : (x ++ [0]).length = x.length + 1 := by rw [List.length_append]; rfl
 simp only [jw.j1, e64, zi]
 generalize x ++ [0] = y at *
 rw [if_pos trivial, if_pos (by omega), if_pos (by omega)]
 by_cases hib : i < b.length
 ·
  rw [if_pos (by omega), if_pos (by omega), if_pos (by omega), if_pos hc, qW, qW, Int.toNat_natCast]
 ·
  rw [if_neg (by omega), if_pos (by omega), if_pos (by omega), if_pos hc, qW, Int.toNat_natCast, getD_none (by omega : b.length ≤ i)]
theorem jHh {b x : List Int} {c : Int} {i : Nat} (hi : i < x.length) (hx : x.length < 17592186044416) (hb : b.length < 17592186044416) (hc : c ≤ 1) (k : Nat) :
  jw.j1 (k + 1) b x c i true = jw.l0 k b (x.set i (ad64 (x.getD i 0) (b.getD i 0) c)) (ac64 (x.getD i 0) (b.getD i 0) c) ((i + 1 : Nat) : Int) := by
 have e64 : wrap64 ((i : Int) + 1) = ((i + 1 : Nat) : Int) := by rw [w64 (by omega)]; omega
 simp only [jw.j1, e64]
 rw [if_pos trivial, if_neg (by omega)]
 by_cases hib : i < b.length
 ·
  rw [if_pos (by omega), if_pos (by omega), if_pos (by omega), if_pos hc, qW, qW, Int.toNat_natCast]
 ·
  rw [if_neg (by omega), if_pos (by omega), if_pos (by omega), if_pos hc, qW, Int.toNat_natCast, getD_none (by omega : b.length ≤ i)]
theorem jJz (b : List Int) (M : Nat) (hb : Ok b) (hbM : b.length ≤ M) (hM : M < 4294967296 + 4294967296) : ∀ (d : Nat) (x : List Int) (c : Int) (i : Nat), M + 1 - i = d → Ok x → i ≤ x.length → x.length ≤ max M i → (0 ≤ c ∧ c ≤ 1) → (i ≤ M ∨ c = 0 ∧ i = M + 1) →
  Ev (fun k => jw.l0 k b x c i) (dg (val x + B ^ i * (c + val (b.drop i)))) := by
 intro d
 induction d with
 | zero =>
  intro x c i hd hx hix hxl hc hi
  obtain ⟨rfl, hi⟩ : c = 0 ∧ i = M + 1 := by omega
  refine Ev.step (f := fun k => jw.j1 k b x 0 i (decide ((0 : Int) > 0))) (fun k => by simp only [jw.l0]; rw [if_neg (by omega)]) (Ev.step (f := fun k => (jQ.f k x).bind fun t => some t) (fun k => by simp only [jw.j1]; rw [if_neg (by simp)]) ?_)
  rw [List.drop_eq_nil_of_le (by omega), ql]
  simp only [Int.add_zero, Int.mul_zero]
  exact Ev.bind (jAM hx (by omega)) (Ev.now _)
 | succ d ih =>
  intro x c i hd hx hix hxl hc hi
  by_cases hgo : i < b.length ∨ 0 < c
  ·
   have h0 : ∀ k, jw.l0 (k + 1) b x c i = jw.j1 k b x c i true := by
    intro k
    simp only [jw.l0]
    by_cases hib : i < b.length
    ·
     rw [if_pos (by omega)]
    ·
     rw [if_neg (by omega), decide_eq_true (by omega)]
   refine Ev.step h0 ?_
   have hy : 0 ≤ b.getD i 0 ∧ b.getD i 0 < B := hb.at i
   obtain ⟨x', hx', hvx, hl1, hl2, hstep⟩ : ∃ x', Ok x' ∧ val x' = val x ∧ i < x'.length ∧ x'.length ≤ max M (i + 1) ∧
     ∀ k, jw.j1 (k + 1) b x c i true = jw.l0 k b (x'.set i (ad64 (x'.getD i 0) (b.getD i 0) c)) (ac64 (x'.getD i 0) (b.getD i 0) c) ((i + 1 : Nat) : Int) := by
    by_cases hx1 : x.length = i
    ·
     have hl : (x ++ [0]).length = x.length + 1 := by rw [List.length_append]; rfl
     exact ⟨x ++ [0], hx.append (Ok.one (Int.le_refl _) jBD), jDJ x, by omega, by omega, jHg hx1.symm (by omega) (by omega) hc.2⟩
    ·
     exact ⟨x, hx, rfl, by omega, by omega, jHh (by omega) (by omega) (by omega) hc.2⟩
   refine Ev.step hstep ?_
   have hxi := hx'.at i
   obtain ⟨hs, hok, hcc⟩ := jHi hxi hy hc
   have hr : val (b.drop i) = b.getD i 0 + B * val (b.drop (i + 1)) := by
    by_cases hib : i < b.length
    ·
     exact qm hib
    ·
     rw [List.drop_eq_nil_of_le (by omega), List.drop_eq_nil_of_le (by omega), getD_none (by omega), ql]; simp
   have hval : val x + B ^ i * (c + val (b.drop i)) = val (x'.set i (ad64 (x'.getD i 0) (b.getD i 0) c)) + B ^ (i + 1) * (ac64 (x'.getD i 0) (b.getD i 0) c + val (b.drop (i + 1))) := by
    rw [jBG hl1, hvx, qD, jEa hs hr]
   rw [hval]
   have hsl : (x'.set i (ad64 (x'.getD i 0) (b.getD i 0) c)).length = x'.length := List.length_set
   refine ih _ _ (i + 1) (by omega) (hx'.set i hok.1 hok.2) (by omega) (by omega) hcc ?_
   by_cases hiM : i < M
   ·
    exact .inl (by omega)
   ·
    refine .inr ⟨?_, by omega⟩
    have hx1 : x'.getD i 0 = 0 := by
     have hxi' : x.length = i := by omega
     have hlen : x'.length = i + 1 := by omega
     have e := zG x' i (by omega)
     rw [qm (by omega), List.drop_eq_nil_of_le (by omega), ql] at e
     have h1 : val x < B ^ i := by rw [← hxi']; exact jAH hx
     rw [hvx] at e
     have h2 := jq (hx'.take i)
     have hp := qL i
     rcases Int.lt_or_le 0 (x'.getD i 0) with h3 | h3
     ·
      have : B ^ i * 1 ≤ B ^ i * (x'.getD i 0) := Int.mul_le_mul_of_nonneg_left (by omega) (by omega)
      simp only [Int.mul_zero, Int.add_zero] at e
      omega
     ·
      omega
    rw [hx1, getD_none (by omega)]
    exact jFJ hc
  ·
   have hc0 : c = 0 := by omega
   subst hc0
   refine Ev.step (f := fun k => jw.j1 k b x 0 i (decide ((0 : Int) > 0))) (fun k => by simp only [jw.l0]; rw [if_neg (by omega)]) (Ev.step (f := fun k => (jQ.f k x).bind fun t => some t) (fun k => by simp only [jw.j1]; rw [if_neg (by simp)]) ?_)
   rw [List.drop_eq_nil_of_le (by omega), ql]
   simp only [Int.add_zero, Int.mul_zero]
   exact Ev.bind (jAM hx (by omega)) (Ev.now _)
theorem jDX {n : Int} (h : 0 ≤ n) : (((dg n).length : Int) = 0) ↔ n = 0 := by
 rw [← jDA h]
 constructor
 ·
  intro e; exact List.eq_nil_of_length_eq_zero (by omega)
 ·
  intro e; rw [e]; rfl
theorem jKA {a b : List Int} (ha : Ok a) (hb : Ok b) (hal : a.length ≤ 4294967296) (hbl : b.length ≤ 4294967296) : Ev (fun k => jw.f k a b) (dg (val a + val b)) := by
 unfold jw.f
 refine Ev.bind (jAM ha (by omega)) ?_
 have h0 := jq ha
 by_cases hz : val a = 0
 ·
  refine Ev.pos ((jDX h0).2 hz) ?_
  rw [hz, Int.zero_add]
  exact Ev.bind (jBP hb (by omega)) (Ev.now _)
 ·
  refine Ev.neg (fun e => hz ((jDX h0).1 e)) (Ev.bind (jBP ha (by omega)) ?_)
  have hl := qV ha
  have h := jJz b (max a.length b.length) hb (by omega) (by omega) _ (dg (val a)) 0 0 rfl (zy _) (by omega) (by omega) (by omega) (by omega)
  simpa [qM h0] using h
theorem jFH {a b : List Int} (ha : Ok a) (hb : Ok b) {i : Nat} (hab : a.length = b.length) (hi : i < a.length) (hd : a.drop (i + 1) = b.drop (i + 1)) (h : a.getD i 0 < b.getD i 0) : val a < val b := by
 have e1 := zG a i (by omega)
 have e2 := zG b i (by omega)
 rw [qm hi] at e1
 rw [qm (by omega)] at e2
 rw [hd] at e1
 have h1 := jAH (ha.take i)
 have h2 := jq (hb.take i)
 rw [List.length_take, Nat.min_eq_left (by omega)] at h1
 have h3 : B ^ i * (a.getD i 0 + B * val (b.drop (i + 1)) + 1) ≤ B ^ i * (b.getD i 0 + B * val (b.drop (i + 1))) := Int.mul_le_mul_of_nonneg_left (by omega) (Int.le_of_lt (qL i))
 rw [Int.mul_add] at h3
 omega
theorem jJv {a b : List Int} (ha : Ok a) (hb : Ok b) (hab : a.length = b.length) (hl : a.length ≤ 17592186044416) : ∀ (n : Nat), n ≤ a.length → a.drop n = b.drop n → ∀ k, n < k → vN.l0 k a b ((n : Int) - 1) = some (cmpv (val a) (val b)) := by
 intro n
 induction n with
 | zero =>
  intro _ hd k hk
  obtain ⟨k, rfl⟩ : ∃ m, k = m + 1 := ⟨k - 1, by omega⟩
  have : a = b := by simpa using hd
  subst this
  simp only [vN.l0]
  rw [if_neg (by omega), jEB]
 | succ n ih =>
  intro hn hd k hk
  obtain ⟨k, rfl⟩ : ∃ m, k = m + 1 := ⟨k - 1, by omega⟩
  have e : (((n + 1 : Nat) : Int) - 1) = (n : Int) := by omega
  rw [e]
  simp only [vN.l0]
  rw [if_pos (by omega), if_pos (by omega), if_pos (by omega), if_pos (by omega), qW, qW, w64 (by omega)]
  by_cases h1 : a.getD n 0 < b.getD n 0
  ·
   have := jFH ha hb hab (by omega) hd h1
   rw [if_pos h1]
   simp [cmpv, this]
  ·
   rw [if_neg h1]
   by_cases h2 : b.getD n 0 < a.getD n 0
   ·
    have := jFH hb ha hab.symm (by omega) hd.symm h2
    rw [if_pos h2]
    unfold cmpv
    rw [if_neg (by omega), if_neg (by omega)]
   ·
    rw [if_neg h2]
    refine ih (by omega) ?_ k (by omega)
    have ha' : n < a.length := by omega
    have hb' : n < b.length := by omega
    have e1 : a.getD n 0 = a[n] := by rw [List.getD_eq_getElem?_getD, List.getElem?_eq_getElem ha']; rfl
    have e2 : b.getD n 0 = b[n] := by rw [List.getD_eq_getElem?_getD, List.getElem?_eq_getElem hb']; rfl
    rw [List.drop_eq_getElem_cons ha', List.drop_eq_getElem_cons hb', hd, ← e1, ← e2, show a.getD n 0 = b.getD n 0 from by omega]
theorem jEA {m n : Int} (h0 : 0 ≤ m) (h : (dg m).length < (dg n).length) : m < n := by
 rcases Int.lt_or_le m n with h1 | h1
 ·
  exact h1
 ·
  exfalso
  have h2 : m < B ^ (dg m).length := jGE (Nat.le_refl _)
  have := qN (n := n) (m := (dg m).length) (by omega)
  omega
theorem jFI {a b : List Int} (ha : Ok a) (hb : Ok b) (hal : a.length ≤ 17592186044416) (hbl : b.length ≤ 17592186044416) : Ev (fun k => vN.f k a b) (cmpv (val a) (val b)) := by
 unfold vN.f
 have h0 := jq ha
 have h1 := jq hb
 have l0 := qV ha
 have l1 := qV hb
 refine Ev.bind (jAM ha hal) (Ev.bind (jAM hb hbl) ?_)
 by_cases h : (dg (val a)).length = (dg (val b)).length
 ·
  refine Ev.pos (by omega) ⟨(dg (val a)).length + 1, fun k hk => ?_⟩
  have := jJv (zy (val a)) (zy (val b)) h (by omega) (dg (val a)).length (by omega) (by rw [List.drop_eq_nil_of_le (by omega), List.drop_eq_nil_of_le (by omega)]) k (by omega)
  rw [qM h0, qM h1] at this
  rw [w64 (by omega)]
  exact this
 ·
  refine Ev.neg (by omega) ?_
  by_cases h2 : (dg (val a)).length < (dg (val b)).length
  ·
   refine Ev.pos (by omega) ?_
   have := jEA h0 h2
   simp only [cmpv, this, if_true]
   exact Ev.now _
  ·
   refine Ev.neg (by omega) ?_
   have := jEA h1 (show (dg (val b)).length < (dg (val a)).length by omega)
   unfold cmpv
   rw [if_neg (by omega), if_neg (by omega)]
   exact Ev.now _
theorem jGz (l : List Int) (ho : Ok l) (hl : l.length < 17592186044416) : ∀ (n : Nat), n ≤ l.length → val (l.drop n) = 0 → ∀ k, n < k → jW.l0 k l n = some (dg (val l)) := by
 intro n
 induction n with
 | zero =>
  intro _ hd k hk
  obtain ⟨k, rfl⟩ : ∃ m, k = m + 1 := ⟨k - 1, by omega⟩
  have hv : val l = 0 := by simpa using hd
  simp only [jW.l0]
  rw [if_neg (by omega), zi, if_pos (by omega), if_pos (by omega), if_pos (by simp), hv, jAe]
  simp
 | succ n ih =>
  intro hn hd k hk
  obtain ⟨k, rfl⟩ : ∃ m, k = m + 1 := ⟨k - 1, by omega⟩
  have hw : wrap64 (((n + 1 : Nat) : Int) - 1) = (n : Int) := by rw [w64 (by omega)]; omega
  simp only [jW.l0, hw]
  rw [if_pos (by omega), if_pos (by omega), if_pos (by omega), qW]
  by_cases hz : l.getD n 0 = 0
  ·
   rw [if_pos hz]
   exact ih (by omega) (by rw [qm (by omega), hz, hd]; simp) k (by omega)
  ·
   rw [if_neg hz, zi, if_pos (by omega), if_pos (by omega), if_pos (by simp; omega), Int.toNat_natCast, List.nil_append]
   have e := zG l (n + 1) hn
   rw [hd, Int.mul_zero, Int.add_zero] at e
   rw [e, jDz (ho.take _) (.inr ?_)]
   rw [List.length_take, Nat.min_eq_left hn]
   simpa [List.getD_eq_getElem?_getD] using hz
theorem jCF {l : List Int} (ho : Ok l) (hl : l.length < 17592186044416) : Ev (fun k => jW.f k l) (dg (val l)) :=
 ⟨l.length + 1, fun k hk => jGz l ho hl l.length (Nat.le_refl _) (by rw [List.drop_eq_nil_of_le (Nat.le_refl _)]; rfl) k (by omega)⟩
end Go.Proofs.Ytijgeonhbmgikaa.EORatioField
end
section
set_option linter.unusedVariables false
set_option linter.unusedSimpArgs false
namespace Go.Proofs.Ytijgeonhbmgikaa.EORatioField
open Go.RowKit Go.Proofs.Ytijgeonhbmgikaa.PORatioField Go.Proofs.YtijgeonhbmgikaaN Go.Proofs.YtijgeonhbmgikaaW.PrintWords Go.Proofs.YtijgeonhbmgikaaW.PrintLast Go.Proofs.YtijgeonhbmgikaaW.PrintMore
theorem jKX {x y c : Int} (hx : 0 ≤ x ∧ x < B) (hy : 0 ≤ y ∧ y < B) (hc : 0 ≤ c ∧ c ≤ 1) : sb64 x y c - B * bb64 x y c = x - y - c ∧ (0 ≤ sb64 x y c ∧ sb64 x y c < B) ∧ 0 ≤ bb64 x y c ∧ bb64 x y c ≤ 1 := by
 unfold sb64 bb64
 rw [B_eq] at *
 split <;> omega
theorem jIL {V v p s t y c c' r' Q : Int} (h1 : s - B * c' = t - y - c) (ih : V + p * B * (c' + r') = v + p * (s - t) + Q) : V + p * (c + (y + B * r')) = v + Q := by
 have e : c + (y + B * r') = (t - s) + B * (c' + r') := by rw [Int.mul_add]; omega
 have e2 : p * (c + (y + B * r')) = p * (t - s) + p * B * (c' + r') := by rw [e, Int.mul_add, Int.mul_assoc]
 have e3 : p * (t - s) = - (p * (s - t)) := by rw [← Int.mul_neg]; congr 1; omega
 omega
theorem jFr (b : List Int) (d i : Nat) : val ((b.drop i).take (d + 1)) = b.getD i 0 + B * val ((b.drop (i + 1)).take d) := by
 by_cases h : i < b.length
 ·
  rw [List.drop_eq_getElem_cons h, List.take_succ_cons, jAF, List.getD_eq_getElem?_getD, List.getElem?_eq_getElem h]; rfl
 ·
  rw [List.drop_eq_nil_of_le (by omega), List.drop_eq_nil_of_le (by omega), getD_none (by omega)]
  simp [val]
theorem jJO (b : List Int) (hb : Ok b) : ∀ (d : Nat) (x : List Int) (c : Int) (i : Nat), Ok x → (0 ≤ c ∧ c ≤ 1) → i + d = x.length →
  Ok (vM.l0 d x b c i) ∧ (vM.l0 d x b c i).length = x.length ∧ ∃ ce, (0 ≤ ce ∧ ce ≤ 1) ∧ val (vM.l0 d x b c i) + B ^ i * (c + val ((b.drop i).take d)) = val x + B ^ (i + d) * ce := by
 intro d
 induction d with
 | zero =>
  intro x c i hx hc hi
  refine ⟨hx, rfl, c, hc, ?_⟩
  simp [vM.l0, val]
 | succ d ih =>
  intro x c i hx hc hi
  have hxi := hx.at i
  obtain ⟨hs, hok, hcc⟩ := jKX hxi (hb.at i) hc
  obtain ⟨h1, h2, ce, h3, h4⟩ := ih (x.set i (sb64 (x.getD i 0) (b.getD i 0) c)) (bb64 (x.getD i 0) (b.getD i 0) c) (i + 1) (hx.set i hok.1 hok.2) hcc (by rw [List.length_set]; omega)
  rw [vM.l0]
  refine ⟨h1, by rw [h2, List.length_set], ce, h3, ?_⟩
  rw [jFr, show i + (d + 1) = i + 1 + d from by omega]
  refine jIL hs ?_
  rw [jBG (by omega : i < x.length), qD] at h4
  exact h4
theorem jIM {x b : List Int} (hx : Ok x) (hb : Ok b) (h : val b ≤ val x) : Ok (vM.l0 x.length x b 0 0) ∧ (vM.l0 x.length x b 0 0).length = x.length ∧ val (vM.l0 x.length x b 0 0) = val x - val b := by
 obtain ⟨h1, h2, ce, h3, h4⟩ := jJO b hb x.length x 0 0 hx (by omega) (by omega)
 refine ⟨h1, h2, ?_⟩
 have hp := qL x.length
 have hxl := jAH hx
 have hy0 := jq h1
 have hyl := jAH h1
 rw [h2] at hyl
 have hbt : val (b.take x.length) = val b := by
  by_cases hl : b.length ≤ x.length
  ·
   rw [List.take_of_length_le hl]
  ·
   have e := zG b x.length (by omega)
   have n1 := jq (hb.take x.length)
   have n2 := jq (hb.drop x.length)
   have : val (b.drop x.length) = 0 := by
    rcases Int.lt_or_le 0 (val (b.drop x.length)) with h5 | h5
    ·
     have : B ^ x.length * 1 ≤ B ^ x.length * val (b.drop x.length) := Int.mul_le_mul_of_nonneg_left (by omega) (by omega)
     omega
    ·
     omega
   rw [this] at e
   omega
 simp only [List.drop_zero, Int.pow_zero, Int.one_mul, Int.zero_add, hbt, Nat.zero_add] at h4
 have : ce = 0 := by
  rcases Int.lt_or_le 0 ce with h5 | h5
  ·
   have e1 : ce = 1 := by omega
   rw [e1] at h4
   have n1 := jq hb
   omega
  ·
   omega
 rw [this] at h4
 omega
theorem jJP {a b : List Int} (ha : Ok a) (hb : Ok b) (hal : a.length ≤ 4294967296) (hbl : b.length ≤ 4294967296) : Ev (fun k => vM.f k a b) (if val a < val b then ([], false) else (dg (val a - val b), true)) := by
 unfold vM.f
 refine Ev.bind (jFI ha hb (by omega) (by omega)) ?_
 by_cases h : val a < val b
 ·
  rw [if_pos h]
  exact Ev.pos (jAa.2 h) (Ev.now _)
 ·
  rw [if_neg h]
  refine Ev.neg (fun e => h (jAa.1 e)) (Ev.bind (jBP ha (by omega)) ?_)
  have h0 := jq ha
  have hl := qV ha
  obtain ⟨h1, h2, h3⟩ := jIM (zy (val a)) hb (by rw [qM h0]; omega)
  rw [qM h0] at h3
  have := jAM h1 (by rw [h2]; omega)
  rw [h3] at this
  exact Ev.bind this (Ev.now _)
theorem jFs (out : List Int) (n : Nat) : val (jS.pad out n) = val out := by unfold jS.pad; rw [val_append, jAt]; simp
theorem jHp {out : List Int} (h : Ok out) (n : Nat) : Ok (jS.pad out n) := h.append (Ok.rep _)
theorem jFt (out : List Int) (n : Nat) : (jS.pad out n).length = max out.length n := by unfold jS.pad; simp; omega
theorem jKb : ∀ (row out : List Int) (i : Nat) (c : Int), Ok row → Ok out → (0 ≤ c ∧ c ≤ 1) → i + row.length ≤ out.length →
  ∃ o c', jS.l3 row out i c = some (o, c') ∧ Ok o ∧ o.length = out.length ∧ (0 ≤ c' ∧ c' ≤ 1) ∧ val o + B ^ (i + row.length) * c' = val out + B ^ i * (c + val row) := by
 intro row
 induction row with
 | nil =>
  intro out i c _ ho hc _
  exact ⟨out, c, rfl, ho, rfl, hc, by simp [val]⟩
 | cons x row ih =>
  intro out i c hr ho hc hl
  simp only [List.length_cons] at hl
  obtain ⟨hs, hok, hcc⟩ := jHi (ho.at i) hr.head hc
  obtain ⟨o, c', e, h1, h2, h3, h4⟩ := ih (out.set i (ad64 (out.getD i 0) x c)) (i + 1) (ac64 (out.getD i 0) x c) hr.tail (ho.set i hok.1 hok.2) hcc (by rw [List.length_set]; omega)
  refine ⟨o, c', ?_, h1, by rw [h2, List.length_set], h3, ?_⟩
  ·
   rw [jS.l3, if_pos ⟨hc.2, by omega⟩]; exact e
  ·
   rw [List.length_cons, show i + (row.length + 1) = i + 1 + row.length from by omega, h4, jBG (by omega), qD]
   exact jEa hs rfl
theorem jKa : ∀ (d : Nat) (out : List Int) (i : Nat) (c : Int), Ok out → (0 ≤ c ∧ c ≤ 1) → i ≤ out.length → out.length - i + c.toNat = d → (out.length < 17592186044414 ∨ c = 0) →
  ∃ o, Ev (fun k => jS.l4 k out i c) o ∧ Ok o ∧ o.length ≤ out.length + 1 ∧ val o = val out + B ^ i * c := by
 intro d
 induction d using Nat.strongRecOn with
 | _ d ih =>
  intro out i c ho hc hi hd hl
  by_cases h0 : 0 < c
  ·
   have hc1 : c = 1 := by omega
   have hp := jHp ho (i + 1)
   obtain ⟨hs, hok, hcc⟩ := jHi (hp.at i) ⟨Int.le_refl 0, jBD⟩ hc
   have hpl := jFt out (i + 1)
   have hstep : ∀ k, jS.l4 (k + 1) out i c = jS.l4 k ((jS.pad out (i + 1)).set i (ad64 ((jS.pad out (i + 1)).getD i 0) 0 c)) (i + 1) (ac64 ((jS.pad out (i + 1)).getD i 0) 0 c) := fun k => by
    rw [jS.l4, if_pos h0, if_pos ⟨hc.2, hi, by omega⟩]
   have hcn : i = out.length → ac64 ((jS.pad out (i + 1)).getD i 0) 0 c = 0 := by
    intro e
    have : (jS.pad out (i + 1)).getD i 0 = 0 := by rw [jS.jEp e, e]; exact jCr _ _
    rw [this]
    exact jFJ hc
   obtain ⟨o, h1, h2, h3, h4⟩ := ih ((jS.pad out (i + 1)).length - (i + 1) + (ac64 ((jS.pad out (i + 1)).getD i 0) 0 c).toNat) (by
     by_cases e : i = out.length
     ·
      rw [hcn e]; omega
     ·
      omega) ((jS.pad out (i + 1)).set i (ad64 ((jS.pad out (i + 1)).getD i 0) 0 c)) (i + 1) (ac64 ((jS.pad out (i + 1)).getD i 0) 0 c) (hp.set i hok.1 hok.2) hcc (by rw [List.length_set]; omega) (by rw [List.length_set]) (by
     rw [List.length_set]
     by_cases e : i = out.length
     ·
      exact .inr (hcn e)
     ·
      exact .inl (by omega))
   refine ⟨o, Ev.step hstep h1, h2, ?_, ?_⟩
   ·
    rw [List.length_set] at h3
    by_cases e : i = out.length
    ·
     have hz := hcn e
     rw [hz] at h1
     have hnow : Ev (fun k => jS.l4 k ((jS.pad out (i + 1)).set i (ad64 ((jS.pad out (i + 1)).getD i 0) 0 c)) (i + 1) 0) ((jS.pad out (i + 1)).set i (ad64 ((jS.pad out (i + 1)).getD i 0) 0 c)) :=
      Ev.step (fun k => by rw [jS.l4, if_neg (by omega)]) (Ev.now _)
     obtain ⟨K1, e1⟩ := h1
     obtain ⟨K2, e2⟩ := hnow
     have e3 := (e1 (max K1 K2) (by omega)).symm.trans (e2 (max K1 K2) (by omega))
     injection e3 with e3
     rw [e3, List.length_set]
     omega
    ·
     omega
   ·
    rw [h4, jBG (by omega), jFs, qD]
    have := jEa (v := val out) (p := B ^ i) (r := 0) (r' := 0) hs (by omega)
    simp only [Int.add_zero] at this
    exact this
  ·
   have hc0 : c = 0 := by omega
   subst hc0
   exact ⟨out, Ev.step (fun k => by rw [jS.l4, if_neg (by omega)]) (Ev.now _), ho, by omega, by omega⟩
theorem jKc (L : Nat) (hL : L ≤ 4294967296) : ∀ (rows : List (List Int)) (j : Nat) (out : List Int), (∀ r ∈ rows, Ok r ∧ r.length ≤ L) → Ok out → out.length ≤ 2 * j + L → j + rows.length ≤ 4294967296 →
  ∃ o, Ev (fun k => jS.l1 k rows j out) o ∧ Ok o ∧ o.length ≤ 2 * (j + rows.length) + L ∧ val o = val out + B ^ j * sumv rows := by
 intro rows
 induction rows with
 | nil =>
  intro j out _ ho hl _
  refine ⟨out, Ev.now _, ho, by simpa using hl, by simp [sumv]⟩
 | cons r rows ih =>
  intro j out hr ho hl hj
  simp only [List.length_cons] at hj
  obtain ⟨hrk, hrl⟩ := hr r (List.mem_cons_self ..)
  have hdl := qV hrk
  have hpl := jFt out (j + (dg (val r)).length)
  obtain ⟨o1, c1, e1, a1, a2, a3, a4⟩ := jKb (dg (val r)) (jS.pad out (j + (dg (val r)).length)) j 0 (zy _) (jHp ho _) (by omega) (by omega)
  obtain ⟨o2, b0, b1, b2, b3⟩ := jKa _ o1 (j + (dg (val r)).length) c1 a1 a3 (by omega) rfl (.inl (by omega))
  obtain ⟨o3, d0, d1, d2, d3⟩ := ih (j + 1) o2 (fun r' h' => hr r' (List.mem_cons_of_mem _ h')) b1 (by omega) (by omega)
  refine ⟨o3, ?_, d1, by simp only [List.length_cons]; omega, ?_⟩
  ·
   simp only [jS.l1]
   refine Ev.bind (jAM hrk (by omega)) (Ev.pos (by omega) (Ev.vU e1 (Ev.bind b0 d0)))
  ·
   rw [d3, b3, a4, jFs, qM (jq hrk), sumv, qD, Int.zero_add, Int.mul_add, Int.mul_assoc]
   omega
theorem jJN {rows : List (List Int)} {L : Nat} (hL : L ≤ 4294967296) (hr : ∀ r ∈ rows, Ok r ∧ r.length ≤ L) (hn : rows.length ≤ 4294967296) : Ev (fun k => jS.f k rows) (dg (sumv rows)) := by
 obtain ⟨o, h1, h2, h3, h4⟩ := jKc L hL rows 0 [] hr Ok.nil (by simp) (by omega)
 unfold jS.f
 have e : val o = sumv rows := by rw [h4]; simp [val]
 have hl := qV h2
 refine Ev.bind h1 (Ev.bind (jAM h2 (by omega)) ?_)
 rw [← e]
 exact Ev.vU (jCK (by omega)) (Ev.now _)
theorem jJX {x y : Int} (hx : 0 ≤ x ∧ x < B) (hy : 0 ≤ y ∧ y < B) : 0 ≤ x * y / B ∧ x * y / B ≤ B - 2 ∧ (0 ≤ x * y % B ∧ x * y % B < B) ∧ x * y % B + B * (x * y / B) = x * y := by
 have h1 : x * y ≤ (B - 1) * (B - 1) := Int.mul_le_mul (by omega) (by omega) hy.1 (by have := jBD; omega)
 have h0 : 0 ≤ x * y := Int.mul_nonneg hx.1 hy.1
 have e := Int.emod_add_mul_ediv (x * y) B
 refine ⟨Int.ediv_nonneg h0 (Int.le_of_lt jBD), ?_, ⟨Int.emod_nonneg _ (Int.ne_of_gt jBD), Int.emod_lt_of_pos _ jBD⟩, e⟩
 rw [B_eq] at *
 generalize x * y = z at *
 omega
theorem u64w {x : Int} (h : 0 ≤ x ∧ x < B) : IntKind.u64.wrap x = x := by rw [IntKind.wrap_u64]; rw [B_eq] at h; omega
theorem jHQ {x y : Int} (hx : 0 ≤ x ∧ x < B) (hy : 0 ≤ y ∧ y < B) : bits_Mul64.f x y = some (x * y / B, x * y % B) := if_pos ⟨hx, hy⟩
theorem jDV {l : List Int} {i : Nat} {v : Int} (h : ∀ j, i ≤ j → l.getD j 0 = 0) : ∀ j, i + 1 ≤ j → (l.set i v).getD j 0 = 0 := by
 intro j hj
 have := h j (by omega)
 rw [List.getD_eq_getElem?_getD] at this ⊢
 rw [List.getElem?_set_ne (by omega)]
 exact this
theorem jIe {v p x n t y c c' P : Int} (h0 : v + p * c = x * P) (h1 : n + B * c' = t + x * y + c) (ht : t = 0) : v + p * (n - t) + p * B * c' = x * (P + p * y) := by
 have e : n - t + B * c' = x * y + c := by omega
 have e2 : v + p * (n - t) + p * B * c' = v + p * (n - t + B * c') := by rw [Int.mul_add, Int.mul_assoc, Int.add_assoc]
 rw [e2, e, Int.mul_add, Int.mul_add, ← h0]
 have e3 : p * (x * y) = x * (p * y) := by rw [← Int.mul_assoc, Int.mul_comm p x, Int.mul_assoc]
 omega
theorem jIg (b : List Int) (hb : Ok b) (hbl : b.length ≤ 4294967296) (x : Int) (hx : 0 ≤ x ∧ x < B) (rows : List (List Int)) (hrl : rows.length < 5864062014805) (a : List Int) (al j : Int) : ∀ (d : Nat) (r : List Int) (c : Int) (i : Nat), b.length - i = d → i ≤ b.length → Ok r → r.length = b.length + 1 → (0 ≤ c ∧ c < B) → (∀ m, i ≤ m → r.getD m 0 = 0) → val r + B ^ i * c = x * val (b.take i) →
  ∃ r', Ok r' ∧ r'.length = b.length + 1 ∧ val r' = x * val b ∧ ∀ res, Ev (fun k => jl.l0 k b (rows ++ [r']) a al (wrap64 (j + 1))) res → Ev (fun k => jl.l1 k b rows x r c a al j b (b.length : Int) i) res := by
 intro d
 induction d with
 | zero =>
  intro r c i hd hi hr hrlen hc hz hv
  have hib : i = b.length := by omega
  subst hib
  refine ⟨r.set b.length c, hr.set _ hc.1 hc.2, by rw [List.length_set]; exact hrlen, ?_, fun res hres => Ev.step (fun k => ?_) hres⟩
  ·
   rw [jBG (by omega), hz _ (Nat.le_refl _), Int.sub_zero, hv, List.take_length]
  ·
   simp only [jl.l1]
   rw [if_neg (by omega), if_pos (by omega), if_pos (by omega), if_pos hrl, Int.toNat_natCast]
 | succ d ih =>
  intro r c i hd hi hr hrlen hc hz hv
  have hib : i < b.length := by omega
  have hbi := hb.at i
  obtain ⟨m1, m2, m3, m4⟩ := jJX hx hbi
  have hlo : (0 ≤ x * b.getD i 0 % B ∧ x * b.getD i 0 % B < B) := m3
  have ha := jHi (c := 0) hlo hc (by omega)
  obtain ⟨s1, s2, s3⟩ := ha
  have hwr : IntKind.u64.wrap (x * b.getD i 0 / B + ac64 (x * b.getD i 0 % B) c 0) = x * b.getD i 0 / B + ac64 (x * b.getD i 0 % B) c 0 := u64w (by omega)
  have hnew : val (r.set i (ad64 (x * b.getD i 0 % B) c 0)) + B ^ (i + 1) * (x * b.getD i 0 / B + ac64 (x * b.getD i 0 % B) c 0) = x * val (b.take (i + 1)) := by
   rw [jBG (by omega), jAi hib, qD]
   refine jIe hv ?_ (hz i (Nat.le_refl _))
   rw [hz i (Nat.le_refl _), Int.mul_add]
   omega
  obtain ⟨r', h1, h2, h3, h4⟩ := ih (r.set i (ad64 (x * b.getD i 0 % B) c 0)) (x * b.getD i 0 / B + ac64 (x * b.getD i 0 % B) c 0) (i + 1) (by omega) (by omega) (hr.set i s2.1 s2.2) (by rw [List.length_set]; exact hrlen) (by omega) (jDV hz) hnew
  refine ⟨r', h1, h2, h3, fun res hres => Ev.step (fun k => ?_) (h4 res hres)⟩
  simp only [jl.l1]
  rw [if_pos (by omega), if_pos (by omega), if_pos (by omega), qW, jHQ hx hbi, zi, if_pos (by omega), Int.toNat_natCast, w64 (by omega), hwr, show (i : Int) + 1 = ((i + 1 : Nat) : Int) from by omega]
theorem jEH (u : List (List Int)) (r : List Int) : sumv (u ++ [r]) = sumv u + B ^ u.length * val r := by
 induction u with
 | nil => simp [sumv]
 | cons x u ih => rw [List.cons_append, sumv, sumv, ih, List.length_cons, qD, Int.mul_add, Int.mul_comm (B ^ u.length) B, Int.mul_assoc, Int.add_assoc]
theorem jJY (a b : List Int) (ha : Ok a) (hb : Ok b) (hal : a.length ≤ 4294967295) (hbl : b.length ≤ 4294967295) : ∀ (d j : Nat) (rows : List (List Int)), a.length - j = d → j ≤ a.length → rows.length = j → (∀ r ∈ rows, Ok r ∧ r.length ≤ b.length + 1) → sumv rows = val (a.take j) * val b →
  Ev (fun k => jl.l0 k b rows a (a.length : Int) j) (dg (val a * val b)) := by
 intro d
 induction d with
 | zero =>
  intro j rows hd hj hrl hr hs
  have hja : j = a.length := by omega
  refine Ev.step (f := fun k => (jS.f k rows).bind fun t => some t) (fun k => by simp only [jl.l0]; rw [if_neg (by omega)]) ?_
  rw [hja, List.take_length] at hs
  rw [← hs]
  exact Ev.bind (jJN (L := b.length + 1) (by omega) hr (by omega)) (Ev.now _)
 | succ d ih =>
  intro j rows hd hj hrl hr hs
  have hja : j < a.length := by omega
  have hw : wrap64 ((b.length : Int) + 1) = ((b.length + 1 : Nat) : Int) := by rw [w64 (by omega)]; omega
  obtain ⟨r', h1, h2, h3, h4⟩ := jIg b hb (by omega) (a.getD j 0) (ha.at j) rows (by omega) a (a.length : Int) j b.length (List.replicate (b.length + 1) 0) 0 0 (by omega) (by omega) (Ok.rep _) (by simp) ⟨Int.le_refl _, jBD⟩ (fun m _ => by rw [List.getD_eq_getElem?_getD, List.getElem?_replicate]; split <;> rfl) (by rw [jAt]; simp [val])
  refine Ev.step (fun k => ?_) (h4 _ ?_)
  ·
   simp only [jl.l0]
   rw [if_pos (by omega), if_pos (by omega), if_pos (by omega), hw, if_pos (by omega), if_pos (by omega), qW, Int.toNat_natCast]
   rfl
  ·
   rw [w64 (by omega), show (j : Int) + 1 = ((j + 1 : Nat) : Int) from by omega]
   refine ih (j + 1) (rows ++ [r']) (by omega) (by omega) (by simp [hrl]) (fun r hr' => ?_) ?_
   ·
    rcases List.mem_append.1 hr' with hr' | hr'
    ·
     exact hr r hr'
    ·
     rw [List.mem_singleton.1 hr']
     exact ⟨h1, by omega⟩
   ·
    rw [jEH, hs, h3, hrl, jAi hja, Int.add_mul, Int.mul_assoc]
theorem jCx {a b : List Int} (ha : Ok a) (hb : Ok b) (hal : a.length ≤ 4294967295) (hbl : b.length ≤ 4294967295) : Ev (fun k => jl.f k a b) (dg (val a * val b)) := by
 unfold jl.f
 have h0 := jq ha
 have h1 := jq hb
 have l0 := qV ha
 have l1 := qV hb
 refine Ev.bind (jAM hb (by omega)) (Ev.bind (jAM ha (by omega)) ?_)
 have := jJY (dg (val a)) (dg (val b)) (zy _) (zy _) (by omega) (by omega) _ 0 [] rfl (by omega) rfl (fun r hr => absurd hr List.not_mem_nil) (by simp [sumv, val])
 rw [qM h0, qM h1] at this
 exact this
end Go.Proofs.Ytijgeonhbmgikaa.EORatioField
end
section
set_option linter.unusedVariables false
set_option linter.unusedSimpArgs false
namespace Go.Proofs.Ytijgeonhbmgikaa.EORatioField
open Go.RowKit Go.Proofs.Ytijgeonhbmgikaa.PORatioField Go.Proofs.YtijgeonhbmgikaaN Go.Proofs.YtijgeonhbmgikaaW.PrintWords Go.Proofs.YtijgeonhbmgikaaW.PrintLast Go.Proofs.YtijgeonhbmgikaaW.PrintMore
def Row (l : List Int) (x : Int) (n : Nat) : Prop := Ok l ∧ val l = x ∧ l.length ≤ n
theorem Row.of {l : List Int} {n : Nat} (h : Ok l) (hl : l.length ≤ n) : Row l (val l) n := ⟨h, rfl, hl⟩
theorem Row.pos {l : List Int} {x : Int} {n : Nat} (h : Row l x n) : 0 ≤ x := h.2.1 ▸ jq h.1
theorem Row.lt {l : List Int} {x : Int} {n : Nat} (h : Row l x n) : x < B ^ n := by
 have h1 := jAH h.1
 have h2 := qx h.2.2
 rw [h.2.1] at h1
 omega
theorem Row.dg {x : Int} {n : Nat} (h0 : 0 ≤ x) (h1 : x < B ^ n) : Row (dg x) x n := ⟨zy x, qM h0, qN h1⟩
theorem Row.le {l : List Int} {x : Int} {n m : Nat} (h : Row l x n) (hm : n ≤ m) : Row l x m := ⟨h.1, h.2.1, Nat.le_trans h.2.2 hm⟩
theorem Row.add {a b : List Int} {x y : Int} {n m p : Nat} (ha : Row a x n) (hb : Row b y m) (h1 : n + 1 ≤ p) (h2 : m + 1 ≤ p) : Row (Go.Proofs.YtijgeonhbmgikaaN.dg (x + y)) (x + y) p := by
 have p0 := ha.pos
 have p1 := hb.pos
 have l0 := (ha.le (m := p - 1) (by omega)).lt
 have l1 := (hb.le (m := p - 1) (by omega)).lt
 obtain ⟨q, rfl⟩ : ∃ q, p = q + 1 := ⟨p - 1, by omega⟩
 simp only [Nat.add_sub_cancel] at l0 l1
 refine Row.dg (by omega) ?_
 have h6 : B ^ q * 2 ≤ B ^ q * B := Int.mul_le_mul_of_nonneg_left (by decide) (Int.le_of_lt (qL q))
 rw [qD]
 omega
theorem Row.mul {a b : List Int} {x y : Int} {n m p : Nat} (ha : Row a x n) (hb : Row b y m) (h1 : n + m ≤ p) : Row (Go.Proofs.YtijgeonhbmgikaaN.dg (x * y)) (x * y) p := by
 have p0 := ha.pos
 have p1 := hb.pos
 have l0 := ha.lt
 have l1 := hb.lt
 refine Row.dg (Int.mul_nonneg p0 p1) ?_
 have h2 := qx h1
 rw [Int.pow_add] at h2
 have h3 := qL n
 have h4 := qL m
 have h5 : x * y ≤ x * B ^ m := Int.mul_le_mul_of_nonneg_left (by omega) p0
 have h6 : (x + 1) * B ^ m ≤ B ^ n * B ^ m := Int.mul_le_mul_of_nonneg_right (by omega) (by omega)
 rw [Int.add_mul, Int.one_mul] at h6
 omega
theorem Ev.eq {α : Type} {g : Nat → Option α} {r s : α} (h : Ev g r) (e : r = s) : Ev g s := e ▸ h
theorem addR {a b : List Int} {x y : Int} {n m : Nat} (ha : Row a x n) (hb : Row b y m) (h1 : n ≤ 4294967296) (h2 : m ≤ 4294967296) : Ev (fun k => jw.f k a b) (dg (x + y)) := by
 have := jKA ha.1 hb.1 (Nat.le_trans ha.2.2 h1) (Nat.le_trans hb.2.2 h2)
 rwa [ha.2.1, hb.2.1] at this
theorem cmpR {a b : List Int} {x y : Int} {n m : Nat} (ha : Row a x n) (hb : Row b y m) (h1 : n ≤ 17592186044416) (h2 : m ≤ 17592186044416) : Ev (fun k => vN.f k a b) (cmpv x y) := by
 have := jFI ha.1 hb.1 (Nat.le_trans ha.2.2 h1) (Nat.le_trans hb.2.2 h2)
 rwa [ha.2.1, hb.2.1] at this
theorem subR {a b : List Int} {x y : Int} {n m : Nat} (ha : Row a x n) (hb : Row b y m) (h1 : n ≤ 4294967296) (h2 : m ≤ 4294967296) : Ev (fun k => vM.f k a b) (if x < y then ([], false) else (dg (x - y), true)) := by
 have := jJP ha.1 hb.1 (Nat.le_trans ha.2.2 h1) (Nat.le_trans hb.2.2 h2)
 rwa [ha.2.1, hb.2.1] at this
theorem jDK {a b : List Int} {x y : Int} {n m : Nat} (ha : Row a x n) (hb : Row b y m) (h1 : n ≤ 4294967296) (h2 : m ≤ 4294967296) (h : y ≤ x) : Ev (fun k => vM.f k a b) (dg (x - y), true) := Ev.eq (subR ha hb h1 h2) (if_neg (by omega))
theorem jIN {a b : List Int} {x y : Int} {n m : Nat} (ha : Row a x n) (hb : Row b y m) (h1 : n ≤ 4294967296) (h2 : m ≤ 4294967296) (h : x < y) : Ev (fun k => vM.f k a b) ([], false) := Ev.eq (subR ha hb h1 h2) (if_pos h)
theorem mulR {a b : List Int} {x y : Int} {n m : Nat} (ha : Row a x n) (hb : Row b y m) (h1 : n ≤ 4294967295) (h2 : m ≤ 4294967295) : Ev (fun k => jl.f k a b) (dg (x * y)) := by
 have := jCx ha.1 hb.1 (Nat.le_trans ha.2.2 h1) (Nat.le_trans hb.2.2 h2)
 rwa [ha.2.1, hb.2.1] at this
end Go.Proofs.Ytijgeonhbmgikaa.EORatioField
end
section
set_option linter.unusedVariables false
set_option linter.unusedSimpArgs false
namespace Go.Proofs.YtijgeonhbmgikaaN
open Go
theorem jJJ : B = 2 ^ 64 := by rw [B_eq]; simp
theorem two_pos (n : Nat) : (0 : Int) < 2 ^ n := Int.pow_pos (by decide)
theorem jEi {m n : Nat} (h : m ≤ n) : (2 : Int) ^ m ≤ 2 ^ n := by
 obtain ⟨k, rfl⟩ := Nat.le.dest h
 rw [Int.pow_add]
 have h1 := two_pos m
 have h2 := two_pos k
 have : (2 : Int) ^ m * 1 ≤ 2 ^ m * 2 ^ k := Int.mul_le_mul_of_nonneg_left (by omega) (by omega)
 omega
theorem jDf (q : Nat) : B ^ q = 2 ^ (64 * q) := by rw [jJJ, Int.pow_mul]
theorem jAO {r : Nat} (h : r ≤ 64) : (2 : Int) ^ r * 2 ^ (64 - r) = B := by
 rw [← Int.pow_add, jJJ, show r + (64 - r) = 64 from by omega]
theorem jCM (r : Nat) : (2 : Int) ^ r = ((2 ^ r : Nat) : Int) := by simp
theorem or_hi {a b : Int} {r : Nat} (ha : 0 ≤ a) (hb : 0 ≤ b ∧ b < 2 ^ r) (hl : 2 ^ r * a < B) (hbB : b < B) : bits .or .u64 (2 ^ r * a) b = 2 ^ r * a + b := by
 obtain ⟨m, rfl⟩ := Int.eq_ofNat_of_zero_le ha
 obtain ⟨n, rfl⟩ := Int.eq_ofNat_of_zero_le hb.1
 have h2 := hb.2
 rw [jCM] at hl h2 ⊢
 rw [← Int.natCast_mul] at hl ⊢
 rw [B_eq] at hl hbB
 have h3 : n < 2 ^ r := Int.ofNat_lt.1 h2
 rw [bits_or_u64_nat _ _ (by omega) (by omega), ← Nat.two_pow_add_eq_or_of_lt h3]
 omega
theorem jKZ {a b : Int} {r : Nat} (ha : 0 ≤ a) (hb : 0 ≤ b ∧ b < 2 ^ r) (hl : 2 ^ r * a < B) (hbB : b < B) : bits .or .u64 b (2 ^ r * a) = b + 2 ^ r * a := by
 obtain ⟨m, rfl⟩ := Int.eq_ofNat_of_zero_le ha
 obtain ⟨n, rfl⟩ := Int.eq_ofNat_of_zero_le hb.1
 have h2 := hb.2
 rw [jCM] at hl h2 ⊢
 rw [← Int.natCast_mul] at hl ⊢
 rw [B_eq] at hl hbB
 have h3 : n < 2 ^ r := Int.ofNat_lt.1 h2
 rw [bits_or_u64_nat _ _ (by omega) (by omega), Nat.or_comm, ← Nat.two_pow_add_eq_or_of_lt h3]
 omega
theorem jCy {x : Int} {r : Nat} (h : r ≤ 64) : 2 ^ r * (x % 2 ^ (64 - r)) + B * (x / 2 ^ (64 - r)) = 2 ^ r * x := by
 have e := Int.mul_ediv_add_emod x (2 ^ (64 - r))
 rw [← jAO h]
 have : (2 : Int) ^ r * x = 2 ^ r * (2 ^ (64 - r) * (x / 2 ^ (64 - r)) + x % 2 ^ (64 - r)) := by rw [e]
 rw [this, Int.mul_add, Int.mul_assoc, Int.add_comm]
theorem jEL {x y V : Int} {r : Nat} (h : r ≤ 64) : (x + B * (y + B * V)) / 2 ^ r = (x / 2 ^ r + 2 ^ (64 - r) * (y % 2 ^ r)) + B * ((y + B * V) / 2 ^ r) := by
 have hp := two_pos r
 have e0 : (y + B * V) % 2 ^ r = y % 2 ^ r := by
  rw [← jAO h, Int.mul_assoc, Int.add_mul_emod_self_left]
 generalize hz : y + B * V = Z at *
 have e := Int.mul_ediv_add_emod Z (2 ^ r)
 have e1 : B * Z = 2 ^ r * (2 ^ (64 - r) * Z) := by rw [← jAO h, Int.mul_assoc]
 rw [e1, Int.add_mul_ediv_left _ _ (by omega), ← e0]
 have e2 : (2 : Int) ^ (64 - r) * Z = 2 ^ (64 - r) * (2 ^ r * (Z / 2 ^ r) + Z % 2 ^ r) := by rw [e]
 rw [e2, Int.mul_add, ← Int.mul_assoc, Int.mul_comm (2 ^ (64 - r)) (2 ^ r), jAO h]
 omega
theorem jFf {x : Int} {r : Nat} (h : r ≤ 64) : 0 ≤ 2 ^ r * (x % 2 ^ (64 - r)) ∧ 2 ^ r * (x % 2 ^ (64 - r)) ≤ B - 2 ^ r := by
 have h1 := two_pos r
 have h2 := two_pos (64 - r)
 have h3 := Int.emod_nonneg x (b := 2 ^ (64 - r)) (by omega)
 have h4 := Int.emod_lt_of_pos x h2
 refine ⟨Int.mul_nonneg (by omega) h3, ?_⟩
 have h5 : (2 : Int) ^ r * (x % 2 ^ (64 - r)) ≤ 2 ^ r * (2 ^ (64 - r) - 1) := Int.mul_le_mul_of_nonneg_left (by omega) (by omega)
 rw [Int.mul_sub, jAO h, Int.mul_one] at h5
 exact h5
theorem jBe {r : Nat} (h : r ≤ 64) : (2 : Int) ^ r ≤ B := by rw [jJJ]; exact jEi h
end Go.Proofs.YtijgeonhbmgikaaN
end
section
set_option linter.unusedVariables false
set_option linter.unusedSimpArgs false
namespace Go.Proofs.Ytijgeonhbmgikaa.EORatioField
open Go.RowKit Go.Proofs.Ytijgeonhbmgikaa.PORatioField Go.Proofs.YtijgeonhbmgikaaN Go.Proofs.YtijgeonhbmgikaaW.PrintWords Go.Proofs.YtijgeonhbmgikaaW.PrintLast Go.Proofs.YtijgeonhbmgikaaW.PrintMore
theorem jDh {x : Int} {r : Nat} (h : r ≤ 64) : shl .u64 x (r : Int) = 2 ^ r * (x % 2 ^ (64 - r)) := by
 unfold shl
 have e : min (Int.toNat (r : Int)) IntKind.u64.bits = r := by
  rw [Int.toNat_natCast]
  exact Nat.min_eq_left h
 have hp := two_pos r
 rw [e, IntKind.wrap_u64, show (18446744073709551616 : Int) = B from rfl, ← jAO h, Int.mul_comm x, Int.mul_emod_mul_of_pos _ _ hp]
theorem jCO {x : Int} {r : Nat} (h : r ≤ 64) : shr .u64 x (r : Int) = x / 2 ^ r := by
 unfold shr
 have e : min (Int.toNat (r : Int)) IntKind.u64.bits = r := by
  rw [Int.toNat_natCast]
  exact Nat.min_eq_left h
 rw [e]
theorem jGy {x : Int} {r : Nat} (h : r ≤ 63) : shr .u64 x ((63 - r : Nat) : Int) / 2 = x / 2 ^ (64 - r) := by
 rw [jCO (by omega), Int.ediv_ediv_of_nonneg (Int.le_of_lt (two_pos _)), show 64 - r = 63 - r + 1 from by omega, Int.pow_succ]
theorem jHS {x c : Int} {r : Nat} (hr : r ≤ 63) (hx : 0 ≤ x ∧ x < B) (hc : 0 ≤ c ∧ c < 2 ^ r) : ∃ v c', shl .u64 x (r : Int) |> fun s => Go.bits .or .u64 s c = v ∧ shr .u64 x ((63 - r : Nat) : Int) / 2 = c' ∧ (0 ≤ v ∧ v < B) ∧ (0 ≤ c' ∧ c' < 2 ^ r) ∧ v + B * c' = c + 2 ^ r * x := by
 have h64 : r ≤ 64 := by omega
 have h1 := jFf (x := x) h64
 have h2 := jCy (x := x) h64
 have h3 := two_pos (64 - r)
 have h4 := jBe h64
 have h5 := Int.emod_nonneg x (b := 2 ^ (64 - r)) (by omega)
 have h6 : x / 2 ^ (64 - r) < 2 ^ r := by
  apply Int.ediv_lt_of_lt_mul h3
  rw [jAO h64]
  exact hx.2
 have h7 : 0 ≤ x / 2 ^ (64 - r) := Int.ediv_nonneg hx.1 (by omega)
 refine ⟨2 ^ r * (x % 2 ^ (64 - r)) + c, x / 2 ^ (64 - r), ?_, jGy hr, ?_, ⟨h7, h6⟩, ?_⟩
 ·
  rw [jDh h64, or_hi h5 hc (by omega) (by omega)]
 ·
  omega
 ·
  omega
theorem jHT {out : List Int} {x c v c' V : Int} {r : Nat} (h : v + B * c' = c + 2 ^ r * x) : val (out ++ [v]) + B ^ (out ++ [v]).length * (c' + 2 ^ r * V) = val out + B ^ out.length * (c + 2 ^ r * (x + B * V)) := by
 have e : c + 2 ^ r * (x + B * V) = v + B * (c' + 2 ^ r * V) := by
  rw [Int.mul_add, Int.mul_add, ← Int.mul_assoc, ← Int.mul_assoc, Int.mul_comm B (2 ^ r)]
  omega
 rw [e, jBQ, List.length_append, List.length_singleton, qD, Int.mul_add (B ^ out.length), Int.mul_assoc, Int.add_assoc]
theorem jJe {n : Nat} {out a : List Int} {c v c' : Int} {i : Nat} (hn : n ≤ 1000) (hl : a.length ≤ 4294967296) (hi : i < a.length) (ho : out.length ≤ i + 100) (h1 : Go.bits .or .u64 (shl .u64 (a.getD i 0) ((n % 64 : Nat) : Int)) c = v) (h2 : shr .u64 (a.getD i 0) ((63 - n % 64 : Nat) : Int) / 2 = c') (k : Nat) : jK.l1 (k + 1) n out c a a.length i = jK.l1 k n (out ++ [v]) c' a a.length ((i + 1 : Nat) : Int) := by
 have hw : wrap64 ((i : Int) + 1) = ((i + 1 : Nat) : Int) := by rw [w64 (by omega)]; omega
 have hr : Int.tmod (n : Int) 64 = ((n % 64 : Nat) : Int) := by rw [Int.tmod_eq_emod_of_nonneg (by omega)]; omega
 have hr' : wrap64 (63 - ((n % 64 : Nat) : Int)) = ((63 - n % 64 : Nat) : Int) := by rw [w64 (by omega)]; omega
 have c0 : (0 : Int) ≤ (i : Int) := by omega
 have c1 : (i : Int) < (a.length : Int) := by omega
 have c2 : (0 : Int) ≤ ((n % 64 : Nat) : Int) := by omega
 have c3 : (0 : Int) ≤ ((63 - n % 64 : Nat) : Int) := by omega
 have c4 : out.length < 17592186044416 := by omega
 simp only [jK.l1, hw, hr, hr', qW, h1, h2]
 rw [if_pos c1, if_pos c0, if_pos c1, if_pos c2, if_pos c4, if_pos c3]
theorem jIi (a : List Int) (ha : Ok a) (hl : a.length ≤ 4294967296) (n : Nat) (hn : n ≤ 1000) : ∀ (d : Nat) (out : List Int) (c : Int) (i : Nat), a.length - i = d → i ≤ a.length → Ok out → out.length ≤ i + 100 → (0 ≤ c ∧ c < 2 ^ (n % 64)) → Ev (fun k => jK.l1 k n out c a a.length i) (dg (val out + B ^ out.length * (c + 2 ^ (n % 64) * val (a.drop i)))) := by
 intro d
 induction d with
 | zero =>
  intro out c i hd hi ho hol hc
  have e : a.drop i = [] := List.drop_eq_nil_of_le (by omega)
  have hcB : c < B := Int.lt_of_lt_of_le hc.2 (jBe (by omega))
  have hok : Ok (out ++ [c]) := ho.append (Ok.one hc.1 hcB)
  have hll : (out ++ [c]).length ≤ 4294967397 := by simp; omega
  have c1 : ¬ ((i : Int) < (a.length : Int)) := by omega
  have c4 : out.length < 17592186044416 := by omega
  refine Ev.step (f := fun k => (jQ.f k (out ++ [c])).bind fun t => ((jf.f t).bind fun t => (some t))) (fun k => by simp only [jK.l1]; rw [if_neg c1, if_pos c4]) ?_
  rw [e, ql, Int.mul_zero, Int.add_zero, ← jBQ]
  have := qV hok
  exact Ev.bind (jAM hok (by omega)) (Ev.vU (jCK (by omega)) (Ev.now _))
 | succ d ih =>
  intro out c i hd hi ho hol hc
  have hia : i < a.length := by omega
  obtain ⟨v, c', h1, h2, h3, h4, h5⟩ := jHS (r := n % 64) (by omega) (ha.at i) hc
  refine Ev.step (jJe hn hl hia hol h1 h2) ?_
  have := ih (out ++ [v]) c' (i + 1) (by omega) (by omega) (ho.append (Ok.one h3.1 h3.2)) (by simp; omega) h4
  rw [jHT h5, ← qm hia] at this
  exact this
theorem jCP {a : List Int} (ha : Ok a) (hal : a.length ≤ 4294967296) {n : Int} (hn : 0 ≤ n) : Ev (fun k => jK.f k a n) (dg (val a * 2 ^ (min n.toNat 1000))) := by
 unfold jK.f
 have e : mn n 1000 = ((min n.toNat 1000 : Nat) : Int) := by unfold mn; split <;> omega
 rw [e]
 have hN : min n.toNat 1000 ≤ 1000 := Nat.min_le_right ..
 generalize min n.toNat 1000 = N at *
 have hq : wrap64 (Int.tdiv (N : Int) 64) = ((N / 64 : Nat) : Int) := by rw [Int.tdiv_eq_ediv_of_nonneg (by omega), w64 (by omega)]; omega
 have hdl := qV ha
 have hw : wrap64 (wrap64 (((N / 64 : Nat) : Int) + ((dg (val a)).length : Int)) + 1) = ((N / 64 + (dg (val a)).length + 1 : Nat) : Int) := by
  rw [w64 (x := ((N / 64 : Nat) : Int) + ((dg (val a)).length : Int)) (by omega), w64 (by omega)]
  omega
 refine Ev.bind (jAM ha (by omega)) (Ev.neg (by omega) ?_)
 simp only [hq, hw, Int.toNat_natCast]
 refine Ev.pos (by omega) (Ev.pos (by omega) (Ev.pos (by omega) ?_))
 have h := jIi (dg (val a)) (zy _) (by omega) N hN _ (List.replicate (N / 64) 0) 0 0 rfl (by omega) (Ok.rep _) (by simp; omega) ⟨Int.le_refl _, two_pos _⟩
 rw [jAt, List.length_replicate, List.drop_zero, qM (jq ha), Int.zero_add, Int.zero_add, jDf, ← Int.mul_assoc, ← Int.pow_add, show 64 * (N / 64) + N % 64 = N from by omega, Int.mul_comm] at h
 exact h
theorem jDn {x y : Int} {r : Nat} (hr : r ≤ 63) (hx : 0 ≤ x ∧ x < B) (hy : 0 ≤ y ∧ y < B) : (0 ≤ x / 2 ^ r + 2 ^ (64 - r) * (y % 2 ^ r) ∧ x / 2 ^ r + 2 ^ (64 - r) * (y % 2 ^ r) < B) ∧ Go.bits .or .u64 (shr .u64 x (r : Int)) (shl .u64 y ((64 - r : Nat) : Int)) = x / 2 ^ r + 2 ^ (64 - r) * (y % 2 ^ r) := by
 have hr4 : 64 - r ≤ 64 := by omega
 have h64 : r ≤ 64 := by omega
 have h1 := jFf (x := y) hr4
 rw [jCO h64, jDh hr4]
 rw [show 64 - (64 - r) = r from by omega] at h1 ⊢
 have h2 := two_pos r
 have h5 := Int.emod_nonneg y (b := 2 ^ r) (by omega)
 have h6 : x / 2 ^ r < 2 ^ (64 - r) := by
  apply Int.ediv_lt_of_lt_mul h2
  rw [Int.mul_comm, jAO h64]
  exact hx.2
 have h7 : 0 ≤ x / 2 ^ r := Int.ediv_nonneg hx.1 (by omega)
 have h8 := jBe hr4
 have h9 := two_pos (64 - r)
 refine ⟨?_, jKZ h5 ⟨h7, h6⟩ (by omega) (by omega)⟩
 omega
theorem set_mid (t : List Int) (x y : Int) (s : List Int) : (t ++ x :: s).set t.length y = t ++ y :: s := by
 rw [List.set_append_right _ _ (Nat.le_refl _), Nat.sub_self, List.set_cons_zero]
theorem jDU (t : List Int) (x : Int) (s : List Int) (j : Nat) : (t ++ x :: s).getD (t.length + j) 0 = (x :: s).getD j 0 := by
 rw [List.getD_eq_getElem?_getD, List.getD_eq_getElem?_getD, List.getElem?_append_right (by omega), Nat.add_sub_cancel_left]
theorem jIT {t s : List Int} {x : Int} {r : Nat} (hr : r ≤ 63) (ht : Ok (x :: s)) (hl : t.length + s.length ≤ 4294967296) (L : Nat) (hL : L = t.length + 1 + s.length) (k : Nat) : jK.l0 (k + 1) (t ++ x :: s) (r : Int) L t.length = jK.l0 k ((t ++ [x / 2 ^ r + 2 ^ (64 - r) * (s.getD 0 0 % 2 ^ r)]) ++ s) (r : Int) L ((t ++ [x / 2 ^ r + 2 ^ (64 - r) * (s.getD 0 0 % 2 ^ r)]).length : Int) := by
 obtain ⟨hv, hor⟩ := jDn hr ht.head (ht.tail.at 0)
 have hw : wrap64 ((t.length : Int) + 1) = ((t.length + 1 : Nat) : Int) := by rw [w64 (by omega)]; omega
 have hr' : wrap64 (64 - (r : Int)) = ((64 - r : Nat) : Int) := by rw [w64 (by omega)]; omega
 have g0 := jDU t x s 0
 have hlen : (t ++ x :: s).length = t.length + 1 + s.length := by simp; omega
 have c0 : (0 : Int) ≤ (t.length : Int) := by omega
 have c1 : (t.length : Int) < (L : Int) := by omega
 have c2 : (t.length : Int) < ((t ++ x :: s).length : Int) := by omega
 have c3 : (0 : Int) ≤ (r : Int) := by omega
 have e1 : (t ++ [x / 2 ^ r + 2 ^ (64 - r) * (s.getD 0 0 % 2 ^ r)]).length = t.length + 1 := by simp
 rw [List.append_assoc, List.singleton_append, e1]
 have g0' : (t ++ x :: s).getD t.length 0 = x := g0
 have g1 : (t ++ (x / 2 ^ r) :: s).getD t.length 0 = x / 2 ^ r := jDU t _ s 0
 have g2 : (t ++ (x / 2 ^ r) :: s).getD (t.length + 1) 0 = s.getD 0 0 := jDU t _ s 1
 simp only [jK.l0, hw, hr', qW, Int.toNat_natCast, zi, g0', jCO (show r ≤ 64 from by omega), set_mid, g1, g2]
 rw [jCO (show r ≤ 64 from by omega)] at hor
 rw [hor, if_pos c1, if_pos c0, if_pos c2, if_pos c3]
 by_cases hs : s = []
 ·
  subst hs
  have c4 : ¬ ((t.length + 1 : Nat) : Int) < ((t ++ [x]).length : Int) := by simp
  rw [if_neg c4]
  simp
 ·
  have hsl := List.length_pos_iff.2 hs
  have c4 : ((t.length + 1 : Nat) : Int) < ((t ++ x :: s).length : Int) := by omega
  rw [if_pos c4]
  by_cases hr0 : r = 0
  ·
   subst hr0
   rw [if_neg (by omega)]
   simp [Int.emod_one]
  ·
   have c5 : (r : Int) > 0 := by omega
   have c6 : (0 : Int) ≤ ((t.length + 1 : Nat) : Int) := by omega
   have c7 : (0 : Int) ≤ ((64 - r : Nat) : Int) := by omega
   rw [if_pos c5, if_pos c6, if_pos c7]
theorem jHE (r : Nat) (hr : r ≤ 63) (L : Nat) : ∀ (s t : List Int), Ok t → Ok s → t.length + s.length ≤ 4294967296 → L = t.length + s.length → Ev (fun k => jK.l0 k (t ++ s) (r : Int) L t.length) (dg (val t + B ^ t.length * (val s / 2 ^ r))) := by
 intro s
 induction s with
 | nil =>
  intro t ht _ hl hL
  have c1 : ¬ (t.length : Int) < (L : Int) := by simp at hL; omega
  refine Ev.step (f := fun k => (jQ.f k t).bind fun t => some t) (fun k => by simp only [jK.l0, List.append_nil]; rw [if_neg c1]) ?_
  rw [ql, Int.zero_ediv, Int.mul_zero, Int.add_zero]
  exact Ev.bind (jAM ht (by simp at hl; omega)) (Ev.now _)
 | cons x s ih =>
  intro t ht hs hl hL
  have hl1 : t.length + (s.length + 1) ≤ 4294967296 := hl
  have hL1 : L = t.length + (s.length + 1) := hL
  refine Ev.step (jIT hr hs (by omega) L (by omega)) ?_
  obtain ⟨hv, _⟩ := jDn hr hs.head (hs.tail.at 0)
  have e1 : (t ++ [x / 2 ^ r + 2 ^ (64 - r) * (s.getD 0 0 % 2 ^ r)]).length = t.length + 1 := by simp
  have := ih (t ++ [x / 2 ^ r + 2 ^ (64 - r) * (s.getD 0 0 % 2 ^ r)]) (ht.append (Ok.one hv.1 hv.2)) hs.tail (by rw [e1]; omega) (by rw [e1]; omega)
  refine Ev.eq this ?_
  have e2 : val s = s.getD 0 0 + B * val (s.drop 1) := by
   cases s with
   | nil => simp [val]
   | cons y s => rfl
  have e3 : val (x :: s) / 2 ^ r = (x / 2 ^ r + 2 ^ (64 - r) * (s.getD 0 0 % 2 ^ r)) + B * (val s / 2 ^ r) := by
   rw [jAF, e2]
   exact jEL (by omega)
  rw [e3, e1, jBQ, qD]
  generalize x / 2 ^ r + 2 ^ (64 - r) * (s.getD 0 0 % 2 ^ r) = u
  rw [Int.mul_add (B ^ t.length), Int.mul_assoc, Int.add_assoc]
theorem jDi {v : Int} (hv : 0 ≤ v) {m : Nat} (h : (dg v).length ≤ m / 64) : v / 2 ^ m = 0 := by
 have h1 := jGE h
 rw [jDf] at h1
 have h2 : (2 : Int) ^ (64 * (m / 64)) ≤ 2 ^ m := jEi (by omega)
 exact Int.ediv_eq_zero_of_lt hv (by omega)
theorem jHF {v : Int} (hv : 0 ≤ v) {m : Nat} (hl : (dg v).length ≤ 4294967296) (h : m / 64 < (dg v).length) : Ev (fun k => jK.j0 k (dg v) m false) (dg (v / 2 ^ m)) := by
 have hq : wrap64 (Int.tdiv (m : Int) 64) = ((m / 64 : Nat) : Int) := by rw [Int.tdiv_eq_ediv_of_nonneg (by omega), w64 (by omega)]; omega
 have hr : Int.tmod (m : Int) 64 = ((m % 64 : Nat) : Int) := by rw [Int.tmod_eq_emod_of_nonneg (by omega)]; omega
 have c1 : (0 : Int) ≤ ((m / 64 : Nat) : Int) := by omega
 have c2 : ((m / 64 : Nat) : Int) ≤ ((dg v).length : Int) := by omega
 have c3 : ¬ (false = true) := by decide
 have hdl : ((dg v).drop (m / 64)).length ≤ (dg v).length := by rw [List.length_drop]; omega
 refine Ev.step (f := fun k => jK.l0 k ([] ++ (dg v).drop (m / 64)) ((m % 64 : Nat) : Int) (((dg v).drop (m / 64)).length : Int) (([] : List Int).length : Int)) (fun k => ?_) ?_
 ·
  simp only [jK.j0, hq, hr, Int.toNat_natCast]
  rw [if_neg c3, if_pos c1, if_pos c2, jCK (by omega)]
  rfl
 ·
  have := jHE (m % 64) (by omega) ((dg v).drop (m / 64)).length ((dg v).drop (m / 64)) [] Ok.nil ((zy v).drop _) (by simp; omega) (by simp)
  refine Ev.eq this ?_
  have e := zG (dg v) (m / 64) (by omega)
  rw [qM hv] at e
  have ht := jAH ((zy v).take (m / 64))
  have htn := jq ((zy v).take (m / 64))
  rw [List.length_take, Nat.min_eq_left (by omega)] at ht
  have hB := qL (m / 64)
  have e2 : v / B ^ (m / 64) = val ((dg v).drop (m / 64)) := by
   rw [e, Int.add_mul_ediv_left _ _ (by omega), Int.ediv_eq_zero_of_lt htn ht, Int.zero_add, ← e]
  rw [ql, List.length_nil, Int.pow_zero, Int.one_mul, Int.zero_add, ← e2, Int.ediv_ediv_of_nonneg (by omega), jDf, ← Int.pow_add, show 64 * (m / 64) + m % 64 = m from by omega]
theorem jFg {a : List Int} (ha : Ok a) (hal : a.length ≤ 1000) {n : Int} (hn : n < 0) : Ev (fun k => jK.f k a n) (dg (val a / 2 ^ (-n).toNat)) := by
 unfold jK.f
 have hdl := qV ha
 have hv := jq ha
 refine Ev.bind (jAM ha (by omega)) (Ev.pos (by omega) ?_)
 by_cases hm : n < -100000
 ·
  have e : wrap64 (-(mx n (-100001))) = 100001 := by
   have : mx n (-100001) = -100001 := by unfold mx; split <;> omega
   rw [this, w64 (by omega)]; omega
  rw [e]
  refine Ev.pos (by decide) ?_
  refine Ev.step (fun k => by simp only [jK.j0]; rw [if_pos trivial]) (Ev.eq (Ev.now _) ?_)
  rw [jDi hv (by omega), jAe]
 ·
  have e : wrap64 (-(mx n (-100001))) = (((-n).toNat : Nat) : Int) := by
   have : mx n (-100001) = n := by unfold mx; split <;> omega
   rw [this, w64 (by omega)]; omega
  rw [e]
  have hM : (-n).toNat ≤ 100000 := by omega
  generalize (-n).toNat = M at *
  refine Ev.neg (by omega) ?_
  have hq : wrap64 (Int.tdiv (M : Int) 64) = ((M / 64 : Nat) : Int) := by rw [Int.tdiv_eq_ediv_of_nonneg (by omega), w64 (by omega)]; omega
  rw [hq]
  by_cases h : M / 64 < (dg (val a)).length
  ·
   have c : decide (((M / 64 : Nat) : Int) ≥ ((dg (val a)).length : Int)) = false := by simp; omega
   rw [c]
   exact jHF hv (by omega) h
  ·
   have c : decide (((M / 64 : Nat) : Int) ≥ ((dg (val a)).length : Int)) = true := by simp; omega
   rw [c]
   refine Ev.step (fun k => by simp only [jK.j0]; rw [if_pos trivial]) (Ev.eq (Ev.now _) ?_)
   rw [jDi hv (by omega), jAe]
end Go.Proofs.Ytijgeonhbmgikaa.EORatioField
end
section
set_option linter.unusedVariables false
set_option linter.unusedSimpArgs false
namespace Go.Proofs.YtijgeonhbmgikaaN
def H : Int := 4294967296
theorem H_eq : H = 4294967296 := rfl
theorem jBB : 0 < H := by unfold H; decide
theorem HH : H * H = B := by decide
def OkH (l : List Int) : Prop := ∀ x ∈ l, 0 ≤ x ∧ x < H
def hval : List Int → Int
 | [] => 0
 | x :: xs => x + H * hval xs
def halves : List Int → List Int
 | [] => []
 | x :: xs => x % H :: x / H :: halves xs
theorem OkH.nil : OkH [] := fun _ h => absurd h List.not_mem_nil
theorem OkH.cons {x : Int} {l : List Int} (h0 : 0 ≤ x) (h1 : x < H) (h : OkH l) : OkH (x :: l) := by
 intro y hy
 rcases List.mem_cons.1 hy with rfl | hy
 ·
  exact ⟨h0, h1⟩
 ·
  exact h y hy
theorem OkH.head {x : Int} {l : List Int} (h : OkH (x :: l)) : 0 ≤ x ∧ x < H := h x (List.mem_cons_self ..)
theorem OkH.tail {x : Int} {l : List Int} (h : OkH (x :: l)) : OkH l := fun y hy => h y (List.mem_cons_of_mem _ hy)
theorem OkH.append {a b : List Int} (ha : OkH a) (hb : OkH b) : OkH (a ++ b) := fun x hx => (List.mem_append.1 hx).elim (ha x) (hb x)
theorem OkH.take {a : List Int} (ha : OkH a) (n : Nat) : OkH (a.take n) := fun x hx => ha x (List.mem_of_mem_take hx)
theorem OkH.drop {a : List Int} (ha : OkH a) (n : Nat) : OkH (a.drop n) := fun x hx => ha x (List.mem_of_mem_drop hx)
theorem OkH.set {a : List Int} (ha : OkH a) (n : Nat) {x : Int} (h0 : 0 ≤ x) (h1 : x < H) : OkH (a.set n x) := fun y hy => by
 rcases List.mem_or_eq_of_mem_set hy with hy | rfl
 ·
  exact ha y hy
 ·
  exact ⟨h0, h1⟩
theorem OkH.one {x : Int} (h0 : 0 ≤ x) (h1 : x < H) : OkH [x] := OkH.cons h0 h1 OkH.nil
theorem OkH.rep (n : Nat) : OkH (List.replicate n 0) := fun x hx => by
 rw [List.eq_of_mem_replicate hx]
 exact ⟨Int.le_refl _, jBB⟩
theorem OkH.at {a : List Int} (ha : OkH a) (i : Nat) : 0 ≤ a.getD i 0 ∧ a.getD i 0 < H := by
 rw [List.getD_eq_getElem?_getD]
 by_cases h : i < a.length
 ·
  rw [List.getElem?_eq_getElem h]
  exact ha _ (List.getElem_mem h)
 ·
  rw [List.getElem?_eq_none (by omega)]
  exact ⟨Int.le_refl _, jBB⟩
theorem jDe (n : Nat) : 0 < H ^ n := Int.pow_pos jBB
theorem jAc (n : Nat) : H ^ (n + 1) = H ^ n * H := Int.pow_succ ..
theorem jAK : hval [] = 0 := rfl
theorem jAD (x : Int) (l : List Int) : hval (x :: l) = x + H * hval l := rfl
theorem jHX (x : Int) : hval [x] = x := by simp [hval]
theorem jCa (a b : List Int) : hval (a ++ b) = hval a + H ^ a.length * hval b := by
 induction a with
 | nil => simp [hval]
 | cons x a ih => rw [List.cons_append, jAD, jAD, ih, List.length_cons, jAc, Int.mul_add, Int.mul_comm (H ^ a.length) H, Int.mul_assoc, Int.add_assoc]
theorem jCZ (a : List Int) (x : Int) : hval (a ++ [x]) = hval a + H ^ a.length * x := by rw [jCa, jHX]
theorem jDR (n : Nat) : hval (List.replicate n 0) = 0 := by
 induction n with
 | zero => rfl
 | succ n ih => rw [List.replicate_succ, jAD, ih]; omega
theorem jBA {l : List Int} (h : OkH l) : 0 ≤ hval l := by
 induction l with
 | nil => exact Int.le_refl _
 | cons x l ih =>
  have h1 := h.head
  have h2 := Int.mul_nonneg (Int.le_of_lt jBB) (ih h.tail)
  rw [jAD]
  omega
theorem jGJ {l : List Int} (h : OkH l) : hval l < H ^ l.length := by
 induction l with
 | nil => simp [hval]
 | cons x l ih =>
  have h1 := h.head
  have h2 := ih h.tail
  have h3 : H * (hval l + 1) ≤ H * H ^ l.length := Int.mul_le_mul_of_nonneg_left (by omega) (Int.le_of_lt jBB)
  rw [jAD, List.length_cons, jAc, Int.mul_comm (H ^ l.length) H]
  rw [Int.mul_add] at h3
  omega
theorem jEv {l : List Int} {i : Nat} (h : i < l.length) (x : Int) : hval (l.set i x) = hval l + H ^ i * (x - l.getD i 0) := by
 induction l generalizing i with
 | nil => simp at h
 | cons y l ih =>
  cases i with
  | zero => simp [hval]; omega
  | succ i =>
   have h' : i < l.length := by simpa using h
   have e : (y :: l).getD (i + 1) 0 = l.getD i 0 := rfl
   rw [List.set_cons_succ, jAD, jAD, ih h', e, jAc, Int.mul_add, Int.mul_comm (H ^ i) H, Int.mul_assoc, Int.add_assoc]
theorem jBY (l : List Int) (i : Nat) (h : i ≤ l.length) : hval l = hval (l.take i) + H ^ i * hval (l.drop i) := by
 have e := jCa (l.take i) (l.drop i)
 rw [List.take_append_drop, List.length_take, Nat.min_eq_left h] at e
 exact e
theorem jDv {l : List Int} {i : Nat} (h : i < l.length) : hval (l.drop i) = l.getD i 0 + H * hval (l.drop (i + 1)) := by
 rw [List.drop_eq_getElem_cons h, jAD, List.getD_eq_getElem?_getD, List.getElem?_eq_getElem h]
 rfl
theorem jAX (l : List Int) (i : Nat) : hval (l.drop i) = l.getD i 0 + H * hval (l.drop (i + 1)) := by
 by_cases h : i < l.length
 ·
  exact jDv h
 ·
  rw [List.drop_eq_nil_of_le (by omega), List.drop_eq_nil_of_le (by omega), List.getD_eq_getElem?_getD, List.getElem?_eq_none (by omega), jAK]; simp
theorem jFU (b : List Int) (d i : Nat) : hval ((b.drop i).take (d + 1)) = b.getD i 0 + H * hval ((b.drop (i + 1)).take d) := by
 by_cases h : i < b.length
 ·
  rw [List.drop_eq_getElem_cons h, List.take_succ_cons, jAD, List.getD_eq_getElem?_getD, List.getElem?_eq_getElem h]; rfl
 ·
  rw [List.drop_eq_nil_of_le (by omega), List.drop_eq_nil_of_le (by omega), List.getD_eq_getElem?_getD, List.getElem?_eq_none (by omega)]
  simp [hval]
theorem jAk (l : List Int) : (halves l).length = 2 * l.length := by
 induction l with
 | nil => rfl
 | cons x l ih => rw [halves, List.length_cons, List.length_cons, ih, List.length_cons]; omega
theorem jAY (l : List Int) : hval (halves l) = val l := by
 induction l with
 | nil => rfl
 | cons x l ih =>
  rw [halves, jAD, jAD, ih, jAF, Int.mul_add, ← Int.mul_assoc, HH]
  have := Int.emod_add_mul_ediv x H
  omega
theorem jAm {l : List Int} (h : Ok l) : OkH (halves l) := by
 induction l with
 | nil => exact OkH.nil
 | cons x l ih =>
  have hx := h.head
  have e1 : 0 ≤ x % H ∧ x % H < H := ⟨Int.emod_nonneg _ (Int.ne_of_gt jBB), Int.emod_lt_of_pos _ jBB⟩
  have e2 : 0 ≤ x / H ∧ x / H < H := by rw [B_eq] at hx; rw [H_eq]; omega
  exact OkH.cons e1.1 e1.2 (OkH.cons e2.1 e2.2 (ih h.tail))
end Go.Proofs.YtijgeonhbmgikaaN
end
section
set_option linter.unusedVariables false
set_option linter.unusedSimpArgs false
namespace Go.Proofs.YtijgeonhbmgikaaN
theorem jJr {a b n u q rh Q : Int} (hY : 0 < a * H + b) (hq : q * a + rh = n) (h2 : q * b ≤ H * rh + u) (hQ2 : n * H + u < (Q + 1) * (a * H + b)) : q ≤ Q := by
 have e : q * (a * H + b) ≤ n * H + u := by
  rw [Int.mul_add, ← Int.mul_assoc, ← hq, Int.add_mul, Int.mul_comm rh H]
  omega
 rcases Int.lt_or_le Q q with h | h
 ·
  have := Int.mul_le_mul_of_nonneg_right (show Q + 1 ≤ q from h) (Int.le_of_lt hY)
  omega
 ·
  exact h
theorem jIo {a b n u q rh Q : Int} (hq : q * a + rh = n) (hQ : Q ≤ q) (hQH : Q < H) (hQ1 : Q * (a * H + b) ≤ n * H + u) (hc : H ≤ q ∨ H * rh + u < q * b) : Q ≤ q - 1 := by
 rcases hc with hc | hc
 ·
  omega
 ·
  rcases Int.lt_or_le Q q with h | h
  ·
   omega
  ·
   exfalso
   have e : Q = q := by omega
   subst e
   rw [Int.mul_add, ← Int.mul_assoc, ← hq, Int.add_mul, Int.mul_comm rh H] at hQ1
   omega
theorem jHb {a b n u q rh Q : Int} (ha : 0 < a) (hb : 0 ≤ b ∧ b < H) (hu : 0 ≤ u) (hn : n < a * H + b) (hq : q * a + rh = n) (hQ : Q ≤ q) (hQ0 : 0 ≤ Q) (hr : H ≤ rh) (hQ2 : n * H + u < (Q + 1) * (a * H + b)) : q = Q := by
 have hH := jBB
 have h0 : 0 < a * H := Int.mul_pos ha hH
 have hqH : q < H := by
  rcases Int.lt_or_le q H with h | h
  ·
   exact h
  ·
   have h1 := Int.mul_le_mul_of_nonneg_right h (Int.le_of_lt ha)
   rw [Int.mul_comm H a] at h1
   omega
 have h2 : q * b ≤ H * b := Int.mul_le_mul_of_nonneg_right (by omega) hb.1
 have h3 : H * b ≤ H * rh := Int.mul_le_mul_of_nonneg_left (by omega) (by omega)
 have := jJr (by omega) hq (by omega) hQ2
 omega
theorem jIn {a b n u q rh Q : Int} (hY : 0 < a * H + b) (hq : q * a + rh = n) (hQ : Q ≤ q) (h2 : q * b ≤ H * rh + u) (hQ2 : n * H + u < (Q + 1) * (a * H + b)) : q = Q := by
 have := jJr hY hq h2 hQ2
 omega
theorem jHa {a b n u Q : Int} (ha : 0 < a) (hb : 0 ≤ b) (hu : u < H) (hQ0 : 0 ≤ Q) (hQ1 : Q * (a * H + b) ≤ n * H + u) : Q ≤ n / a := by
 have hH := jBB
 refine Int.le_ediv_of_mul_le ha ?_
 have h1 : 0 ≤ Q * b := Int.mul_nonneg hQ0 hb
 rw [Int.mul_add, ← Int.mul_assoc] at hQ1
 rcases Int.lt_or_le n (Q * a) with h | h
 ·
  exfalso
  have := Int.mul_le_mul_of_nonneg_right (show n + 1 ≤ Q * a from h) (Int.le_of_lt hH)
  rw [Int.add_mul, Int.one_mul] at this
  omega
 ·
  exact h
theorem jKh {Y n u : Int} (hn : 0 ≤ n ∧ n < Y) (hu : 0 ≤ u ∧ u < H) : ∃ Q, 0 ≤ Q ∧ Q < H ∧ Q * Y ≤ n * H + u ∧ n * H + u < (Q + 1) * Y := by
 have hH := jBB
 have hY : 0 < Y := by omega
 have h0 : 0 ≤ n * H := Int.mul_nonneg hn.1 (by omega)
 refine ⟨(n * H + u) / Y, Int.ediv_nonneg (by omega) (by omega), Int.ediv_lt_of_lt_mul hY ?_, Int.ediv_mul_le _ (by omega), ?_⟩
 ·
  have h3 : (n + 1) * H ≤ Y * H := Int.mul_le_mul_of_nonneg_right (by omega) (by omega)
  rw [Int.add_mul, Int.one_mul] at h3
  rw [Int.mul_comm H]
  omega
 ·
  have := Int.lt_ediv_add_one_mul_self (n * H + u) hY
  exact this
theorem jJq {n u1 u0 Y Q1 Q0 r1 r0 : Int} (h1 : n * H + u1 = Q1 * Y + r1) (h0 : r1 * H + u0 = Q0 * Y + r0) : n * B + (u1 * H + u0) = (Q1 * H + Q0) * Y + r0 := by
 have e : n * B + (u1 * H + u0) = (n * H + u1) * H + u0 := by
  rw [Int.add_mul, Int.mul_assoc, HH, Int.add_assoc]
 rw [e, h1, Int.add_mul, Int.add_assoc, h0, Int.add_mul, Int.mul_assoc, Int.mul_comm Y H, ← Int.mul_assoc, Int.add_assoc]
theorem jFB {N y p Q r : Int} (hp : 0 < p) (hy : 0 < y) (h : N * p = Q * (y * p) + r) (hr : 0 ≤ r ∧ r < y * p) : Q = N / y ∧ r / p = N % y := by
 have e : r = (N - Q * y) * p := by rw [Int.sub_mul, Int.mul_assoc]; omega
 have h1 : 0 ≤ N - Q * y := by
  rcases Int.lt_or_le (N - Q * y) 0 with h2 | h2
  ·
   have := Int.mul_neg_of_neg_of_pos h2 hp
   omega
  ·
   exact h2
 have h2 : N - Q * y < y := by
  rw [e] at hr
  exact Int.lt_of_mul_lt_mul_right hr.2 (Int.le_of_lt hp)
 have e1 : N / y = Q := by
  rw [show N = (N - Q * y) + Q * y from by omega, Int.add_mul_ediv_right _ _ (by omega), Int.ediv_eq_zero_of_lt h1 h2]
  omega
 refine ⟨e1.symm, ?_⟩
 rw [e, Int.mul_ediv_cancel _ (by omega), Int.emod_def, e1, Int.mul_comm y]
end Go.Proofs.YtijgeonhbmgikaaN
end
section
set_option linter.unusedVariables false
set_option linter.unusedSimpArgs false
namespace Go.Proofs.Ytijgeonhbmgikaa.EORatioField
open Go.RowKit Go.Proofs.Ytijgeonhbmgikaa.PORatioField Go.Proofs.YtijgeonhbmgikaaN Go.Proofs.YtijgeonhbmgikaaW.PrintWords Go.Proofs.YtijgeonhbmgikaaW.PrintLast Go.Proofs.YtijgeonhbmgikaaW.PrintMore
theorem wr3 (p u r : Int) : IntKind.u64.wrap (IntKind.u64.wrap (IntKind.u64.wrap p + u) - IntKind.u64.wrap r) = IntKind.u64.wrap (p + u - r) := by
 simp only [IntKind.wrap_u64]
 omega
theorem jAw {x : Int} (h0 : 0 ≤ x) (h1 : x < B) : IntKind.u64.wrap x = x := by
 rw [IntKind.wrap_u64]
 rw [B_eq] at h1
 omega
theorem jDw {x y : Int} (hx : 0 ≤ x ∧ x < H) (hy : 0 ≤ y ∧ y < H) : 0 ≤ x * y ∧ x * y ≤ B - 2 * H + 1 := by
 have h1 : x * y ≤ (H - 1) * y := Int.mul_le_mul_of_nonneg_right (by omega) hy.1
 have h2 : (H - 1) * y ≤ (H - 1) * (H - 1) := Int.mul_le_mul_of_nonneg_left (by omega) (by have := jBB; omega)
 have h3 : (H - 1) * (H - 1) = B - 2 * H + 1 := by decide
 exact ⟨Int.mul_nonneg hx.1 hy.1, by omega⟩
theorem H2B : 2 * H < B := by decide
theorem jEM {n u Q Y : Int} (h1 : Q * Y ≤ n * H + u) (h2 : n * H + u < (Q + 1) * Y) (hY : Y < B) : IntKind.u64.wrap (IntKind.u64.wrap (IntKind.u64.wrap (n * 4294967296) + u) - IntKind.u64.wrap (Q * Y)) = n * H + u - Q * Y := by
 rw [wr3, show (4294967296 : Int) = H from rfl]
 rw [Int.add_mul, Int.one_mul] at h2
 exact jAw (by omega) (by omega)
structure jBC (Y a b n u q rh Q : Int) : Prop where
 Y_ : Y = a * H + b
 a_ : 0 < a
 b_ : 0 ≤ b ∧ b < H
 YB : Y < B
 n_ : 0 ≤ n ∧ n < Y
 u_ : 0 ≤ u ∧ u < H
 Q0 : 0 ≤ Q ∧ Q < H
 Q1 : Q * Y ≤ n * H + u
 Q2 : n * H + u < (Q + 1) * Y
 q_ : q * a + rh = n
 qQ : Q ≤ q
 qB : q < B
 rh_ : 0 ≤ rh ∧ rh < H
theorem jBC.aH {Y a b n u q rh Q : Int} (g : jBC Y a b n u q rh Q) : a < H := by
 rcases Int.lt_or_le a H with h | h
 ·
  exact h
 ·
  have h1 := Int.mul_le_mul_of_nonneg_right h (Int.le_of_lt jBB)
  rw [HH] at h1
  have h2 := g.Y_
  have h3 := g.YB
  have h4 := g.b_
  omega
theorem jBC.test {Y a b n u q rh Q : Int} (g : jBC Y a b n u q rh Q) (hq : q < H) : decide (IntKind.u64.wrap (q * b) > IntKind.u64.wrap (IntKind.u64.wrap (4294967296 * rh) + u)) = decide (H * rh + u < q * b) := by
 have h1 := jDw (x := q) (y := b) ⟨by have := g.Q0; have := g.qQ; omega, hq⟩ g.b_
 have h2 := jDw (x := H - 1) (y := rh) (by decide) g.rh_
 have h3 := H2B
 have e : (H - 1) * rh = H * rh - rh := by rw [Int.sub_mul, Int.one_mul]
 have h4 := g.rh_
 have h5 := g.u_
 have h6 := jBB
 have e2 : IntKind.u64.wrap (4294967296 * rh) = H * rh := by
  rw [show (4294967296 : Int) = H from rfl]
  exact jAw (by omega) (by omega)
 have e3 : IntKind.u64.wrap (H * rh + u) = H * rh + u := jAw (by omega) (by omega)
 have e4 : IntKind.u64.wrap (q * b) = q * b := jAw h1.1 (by omega)
 rw [e2, e3, e4]
theorem jBC.dec {Y a b n u q rh Q : Int} (g : jBC Y a b n u q rh Q) (hc : H ≤ q ∨ H * rh + u < q * b) : Q ≤ q - 1 ∧ IntKind.u64.wrap (q - 1) = q - 1 ∧ IntKind.u64.wrap (rh + a) = rh + a ∧ (q - 1) * a + (rh + a) = n := by
 have h1 : Q ≤ q - 1 := jIo (a := a) (b := b) (n := n) (u := u) (rh := rh) g.q_ g.qQ g.Q0.2 (by have := g.Q1; rwa [g.Y_] at this) hc
 have h2 := g.Q0
 have h3 := g.qB
 have h4 := g.rh_
 have h5 := g.aH
 have h6 := g.a_
 have h7 := H2B
 refine ⟨h1, jAw (by omega) (by omega), jAw (by omega) (by omega), ?_⟩
 have := g.q_
 rw [Int.sub_mul, Int.one_mul]
 omega
theorem jBC.brk {Y a b n u q rh Q : Int} (g : jBC Y a b n u q rh Q) (hc : H ≤ q ∨ H * rh + u < q * b) (hr : H ≤ rh + a) : q - 1 = Q := by
 obtain ⟨h1, _, _, h4⟩ := g.dec hc
 refine jHb (a := a) (b := b) (n := n) (u := u) g.a_ g.b_ g.u_.1 ?_ h4 h1 g.Q0.1 hr ?_
 ·
  have := g.n_.2; rwa [g.Y_] at this
 ·
  have := g.Q2; rwa [g.Y_] at this
theorem jBC.next {Y a b n u q rh Q : Int} (g : jBC Y a b n u q rh Q) (hc : H ≤ q ∨ H * rh + u < q * b) (hr : ¬ H ≤ rh + a) : jBC Y a b n u (q - 1) (rh + a) Q := by
 obtain ⟨h1, _, _, h4⟩ := g.dec hc
 exact ⟨g.Y_, g.a_, g.b_, g.YB, g.n_, g.u_, g.Q0, g.Q1, g.Q2, h4, h1, by have := g.qB; omega, by have := g.rh_; have := g.a_; omega⟩
theorem jBC.stop {Y a b n u q rh Q : Int} (g : jBC Y a b n u q rh Q) (hc : ¬ H * rh + u < q * b) : q = Q := by
 refine jIn (a := a) (b := b) (n := n) (u := u) (rh := rh) ?_ g.q_ g.qQ (by omega) ?_
 ·
  have := g.n_; rw [g.Y_] at this; omega
 ·
  have := g.Q2; rwa [g.Y_] at this
theorem jBC.make {Y a b n u : Int} (hY : Y = a * H + b) (ha : 0 < a) (hb : 0 ≤ b ∧ b < H) (hYB : Y < B) (hn : 0 ≤ n ∧ n < Y) (hu : 0 ≤ u ∧ u < H) (haH : a < H) : ∃ Q, jBC Y a b n u (n / a) (n % a) Q := by
 obtain ⟨Q, h0, h1, h2, h3⟩ := jKh hn hu
 have h4 := Int.emod_nonneg n (Int.ne_of_gt ha)
 have h5 := Int.emod_lt_of_pos n ha
 refine ⟨Q, hY, ha, hb, hYB, hn, hu, ⟨h0, h1⟩, h2, h3, ?_, ?_, ?_, ⟨h4, by omega⟩⟩
 ·
  rw [Int.mul_comm]; exact Int.mul_ediv_add_emod n a
 ·
  exact jHa ha hb.1 hu.2 h0 (by rwa [hY] at h2)
 ·
  have := Int.ediv_le_self a hn.1; omega
theorem jDT {n a : Int} (hn : 0 ≤ n ∧ n < B) (ha : 0 < a) : IntKind.u64.wrap (Int.tdiv n a) = n / a ∧ IntKind.u64.wrap (n - IntKind.u64.wrap (IntKind.u64.wrap (Int.tdiv n a) * a)) = n % a := by
 have h0 : 0 ≤ n / a := Int.ediv_nonneg hn.1 (Int.le_of_lt ha)
 have h1 := Int.ediv_le_self a hn.1
 have e1 : IntKind.u64.wrap (Int.tdiv n a) = n / a := by
  rw [Int.tdiv_eq_ediv_of_nonneg hn.1]
  exact jAw h0 (by omega)
 have h2 := Int.emod_nonneg n (Int.ne_of_gt ha)
 have h3 : n / a * a = n - n % a := by have := Int.mul_ediv_add_emod n a; rw [Int.mul_comm] at this; omega
 have h4 := Int.mul_nonneg h0 (Int.le_of_lt ha)
 refine ⟨e1, ?_⟩
 rw [e1, jAw h4 (by omega), h3, jAw (by omega) (by omega)]
 omega
theorem jJs {Y a b n u Q : Int} {s : Nat} (hs : s ≤ 63) {q1 : Int} (h1 : 0 ≤ q1 ∧ q1 < H) : ∀ (d : Nat) (q rh : Int), (q - Q).toNat = d → jBC Y a b n u q rh Q → Ev (fun k => jP.l1 k Y (s : Int) a b u q1 rh n q) (q1 * H + Q, (n * H + u - Q * Y) / 2 ^ s) := by
 have hsum : ∀ {Q : Int}, 0 ≤ Q ∧ Q < H → IntKind.u64.wrap (IntKind.u64.wrap (q1 * 4294967296) + Q) = q1 * H + Q := by
  intro Q hQ
  have h2 : q1 * H ≤ (H - 1) * H := Int.mul_le_mul_of_nonneg_right (by omega) (Int.le_of_lt jBB)
  have h3 : (H - 1) * H = B - H := by decide
  have h4 := Int.mul_nonneg h1.1 (Int.le_of_lt jBB)
  have h5 := jBB
  rw [show (4294967296 : Int) = H from rfl, jAw h4 (by omega), jAw (by omega) (by omega)]
 intro d
 induction d with
 | zero =>
  intro q rh hd g
  obtain rfl : q = Q := by have := g.qQ; omega
  have hqH : ¬ q ≥ 4294967296 := by have := g.Q0.2; rw [H_eq] at this; omega
  have hno : ¬ H * rh + u < q * b := fun hc => by have := (g.dec (.inr hc)).1; omega
  refine Ev.step (f := fun k => jP.j4 k Y (s : Int) a b u q1 rh n q false) (fun k => ?_) (Ev.step (fun k => by rw [jP.j4]) (Ev.neg (by simp) (Ev.pos (by omega) (Ev.eq (Ev.now _) ?_))))
  ·
   rw [jP.l1, if_neg hqH, g.test g.Q0.2, decide_eq_false hno]
  ·
   rw [hsum g.Q0, jEM g.Q1 g.Q2 g.YB, jCO (by omega)]
 | succ d ih =>
  intro q rh hd g
  by_cases hc : H ≤ q ∨ H * rh + u < q * b
  ·
   obtain ⟨g1, g2, g3, _⟩ := g.dec hc
   refine Ev.step (f := fun k => jP.j4 k Y (s : Int) a b u q1 rh n q true) (fun k => ?_) (Ev.step (fun k => by rw [jP.j4]) (Ev.pos rfl ?_))
   ·
    rw [jP.l1]
    by_cases hq : q < H
    ·
     have hqH : ¬ q ≥ 4294967296 := by rw [H_eq] at hq; omega
     rw [if_neg hqH, g.test hq, decide_eq_true (by omega)]
    ·
     have hqH : q ≥ 4294967296 := by rw [H_eq] at hq; omega
     rw [if_pos hqH]
   ·
    rw [g2, g3]
    by_cases hr : H ≤ rh + a
    ·
     have hb := g.brk hc hr
     refine Ev.pos (by rw [H_eq] at hr; omega) (Ev.pos (by omega) (Ev.eq (Ev.now _) ?_))
     rw [hb, hsum g.Q0, jEM g.Q1 g.Q2 g.YB, jCO (by omega)]
    ·
     exact Ev.neg (by rw [H_eq] at hr; omega) (ih _ _ (by omega) (g.next hc hr))
  ·
   exfalso
   have := g.stop (fun h => hc (.inr h))
   omega
theorem jJu {Y a b n u1 u0 Q1 : Int} {s : Nat} (hs : s ≤ 63) (hY : Y = a * H + b) (ha : 0 < a) (hb : 0 ≤ b ∧ b < H) (haH : a < H) (hYB : Y < B) (hu0 : 0 ≤ u0 ∧ u0 < H) (hQ0 : 0 ≤ Q1 ∧ Q1 < H) (h1 : Q1 * Y ≤ n * H + u1) (h2 : n * H + u1 < (Q1 + 1) * Y) : ∃ Q0 r0, 0 ≤ r0 ∧ r0 < Y ∧ n * B + (u1 * H + u0) = (Q1 * H + Q0) * Y + r0 ∧ Ev (fun k => jP.j2 k Y (s : Int) a b n u1 u0 Q1) (Q1 * H + Q0, r0 / 2 ^ s) := by
 have hr1 : 0 ≤ n * H + u1 - Q1 * Y ∧ n * H + u1 - Q1 * Y < Y := by rw [Int.add_mul, Int.one_mul] at h2; omega
 obtain ⟨Q0, g⟩ := jBC.make (n := n * H + u1 - Q1 * Y) (u := u0) hY ha hb hYB hr1 hu0 haH
 obtain ⟨e1, e2⟩ := jDT (n := n * H + u1 - Q1 * Y) ⟨hr1.1, by omega⟩ ha
 have g1 := g.Q1
 have g2 := g.Q2
 refine ⟨Q0, (n * H + u1 - Q1 * Y) * H + u0 - Q0 * Y, by omega, by rw [Int.add_mul, Int.one_mul] at g2; omega, ?_, ?_⟩
 ·
  exact jJq (r1 := n * H + u1 - Q1 * Y) (by omega) (by omega)
 ·
  refine Ev.step (fun k => by rw [jP.j2]) (Ev.neg (by omega) ?_)
  rw [jEM h1 h2 hYB, e2, e1]
  exact jJs hs hQ0 _ _ _ rfl g
theorem jJt {Y a b n u1 u0 Q1 : Int} {s : Nat} (hu0 : 0 ≤ u0 ∧ u0 < H) {R : Int × Int} (hR : Ev (fun k => jP.j2 k Y (s : Int) a b n u1 u0 Q1) R) : ∀ (d : Nat) (q rh : Int), (q - Q1).toNat = d → jBC Y a b n u1 q rh Q1 → Ev (fun k => jP.l0 k Y (s : Int) a b n u1 u0 q rh) R := by
 intro d
 induction d with
 | zero =>
  intro q rh hd g
  obtain rfl : q = Q1 := by have := g.qQ; omega
  have hqH : ¬ q ≥ 4294967296 := by have := g.Q0.2; rw [H_eq] at this; omega
  have hno : ¬ H * rh + u1 < q * b := fun hc => by have := (g.dec (.inr hc)).1; omega
  refine Ev.step (f := fun k => jP.j1 k Y (s : Int) a b n u1 u0 q rh false) (fun k => ?_) (Ev.step (fun k => by rw [jP.j1]) (Ev.neg (by simp) hR))
  rw [jP.l0, if_neg hqH, g.test g.Q0.2, decide_eq_false hno]
 | succ d ih =>
  intro q rh hd g
  by_cases hc : H ≤ q ∨ H * rh + u1 < q * b
  ·
   obtain ⟨g1, g2, g3, _⟩ := g.dec hc
   refine Ev.step (f := fun k => jP.j1 k Y (s : Int) a b n u1 u0 q rh true) (fun k => ?_) (Ev.step (fun k => by rw [jP.j1]) (Ev.pos rfl ?_))
   ·
    rw [jP.l0]
    by_cases hq : q < H
    ·
     have hqH : ¬ q ≥ 4294967296 := by rw [H_eq] at hq; omega
     rw [if_neg hqH, g.test hq, decide_eq_true (by omega)]
    ·
     have hqH : q ≥ 4294967296 := by rw [H_eq] at hq; omega
     rw [if_pos hqH]
   ·
    rw [g2, g3]
    by_cases hr : H ≤ rh + a
    ·
     have hb := g.brk hc hr
     exact Ev.pos (by rw [H_eq] at hr; omega) (by rw [hb]; exact hR)
    ·
     exact Ev.neg (by rw [H_eq] at hr; omega) (ih _ _ (by omega) (g.next hc hr))
  ·
   exfalso
   have := g.stop (fun h => hc (.inr h))
   omega
theorem jGZ : ∀ (n x : Nat), x < 2 ^ n → n ≤ 64 → (x = 0 ∧ Lib.bitLen x = 0) ∨ ∃ m, Lib.bitLen x = m + 1 ∧ m < n ∧ 2 ^ m ≤ x ∧ x < 2 ^ (m + 1) := by
 intro n
 induction n with
 | zero =>
  intro x h _
  have : x = 0 := by simp at h; omega
  subst this
  exact .inl ⟨rfl, by decide⟩
 | succ n ih =>
  intro x h hn
  by_cases hz : x = 0
  ·
   subst hz
   exact .inl ⟨rfl, by decide⟩
  ·
   have h64 : x < 2 ^ 64 := Nat.lt_of_lt_of_le h (Nat.pow_le_pow_right (by decide) hn)
   rw [Lib.bitLen_half x hz h64]
   refine .inr ?_
   have h2 : x / 2 < 2 ^ n := by rw [Nat.pow_succ] at h; omega
   rcases ih (x / 2) h2 (by omega) with ⟨e, f⟩ | ⟨m, e, hm, h3, h4⟩
   ·
    refine ⟨0, by omega, by omega, by simp; omega, by simp; omega⟩
   ·
    refine ⟨m + 1, by omega, by omega, ?_, ?_⟩
    ·
     rw [Nat.pow_succ]; omega
    ·
     rw [Nat.pow_succ]; omega
theorem jJc {x : Int} (h0 : 0 ≤ x) (h1 : x < B) : Go.bits .and .u64 x 4294967295 = x % 4294967296 := by
 obtain ⟨n, rfl⟩ := Int.eq_ofNat_of_zero_le h0
 rw [bits_Mul64.maskN n (by rw [B_eq] at h1; omega)]
 omega
theorem jGF {y : Int} (h0 : 0 < y) (h1 : y < B) : ∃ s : Nat, s ≤ 63 ∧ bits_LeadingZeros64.f y = some (s : Int) ∧ y < 2 ^ (64 - s) ∧ 2 ^ s * y < B ∧ B ≤ 2 * (2 ^ s * y) := by
 obtain ⟨n, rfl⟩ := Int.eq_ofNat_of_zero_le (Int.le_of_lt h0)
 have hn : n < 2 ^ 64 := by rw [B_eq] at h1; omega
 rcases jGZ 64 n hn (Nat.le_refl _) with ⟨e, _⟩ | ⟨m, e, hm, h2, h3⟩
 ·
  omega
 ·
  have e64 : (2 : Nat) ^ (63 - m) * 2 ^ (m + 1) = 18446744073709551616 := by rw [← Nat.pow_add, show 63 - m + (m + 1) = 64 from by omega]
  have h4 : 2 ^ (63 - m) * n < 2 ^ (63 - m) * 2 ^ (m + 1) := Nat.mul_lt_mul_of_pos_left h3 (Nat.pow_pos (by decide))
  have h5 : 2 ^ (63 - m) * 2 ^ m ≤ 2 ^ (63 - m) * n := Nat.mul_le_mul_left _ h2
  have e5 : (2 : Nat) ^ (63 - m) * 2 ^ (m + 1) = 2 * (2 ^ (63 - m) * 2 ^ m) := by rw [Nat.pow_succ, ← Nat.mul_assoc, Nat.mul_comm]
  refine ⟨63 - m, by omega, ?_, ?_, ?_, ?_⟩
  ·
   unfold bits_LeadingZeros64.f bits_Len64.f
   rw [if_pos ⟨Int.le_of_lt h0, h1⟩, Option.bind_some, Int.toNat_natCast, e, w64 (by omega)]
   congr 1
   omega
  ·
   rw [show 64 - (63 - m) = m + 1 from by omega, jCM]
   exact_mod_cast h3
  ·
   rw [jCM, ← Int.natCast_mul, B_eq]; omega
  ·
   rw [jCM, ← Int.natCast_mul, B_eq]; omega
theorem jFD {hi lo y : Int} (h0 : 0 ≤ hi) (hy : hi < y) (hlo : 0 ≤ lo ∧ lo < B) (hyB : y < B) : Ev (fun k => jP.f k hi lo y) ((hi * B + lo) / y, (hi * B + lo) % y) := by
 unfold jP.f
 refine Ev.neg (by omega) (Ev.neg (by omega) ?_)
 by_cases hz : hi = 0
 ·
  subst hz
  refine Ev.pos rfl (Ev.eq (Ev.now _) ?_)
  rw [Int.zero_mul, Int.zero_add, Int.tmod_eq_emod_of_nonneg hlo.1, (jDT hlo hy).1]
 ·
  refine Ev.neg hz ?_
  obtain ⟨s, hs, he, hy1, hy2, hy3⟩ := jGF (by omega) hyB
  have hs64 : s ≤ 64 := by omega
  have hp := two_pos s
  have hp2 := two_pos (64 - s)
  have hsp := jAO hs64
  have e1 : IntKind.u64.wrap (s : Int) = (s : Int) := jAw (by omega) (by rw [B_eq]; omega)
  have e2 : IntKind.u64.wrap (64 - (s : Int)) = ((64 - s : Nat) : Int) := by rw [jAw (by omega) (by rw [B_eq]; omega)]; omega
  have ey : shl .u64 y (s : Int) = 2 ^ s * y := by rw [jDh hs64, Int.emod_eq_of_lt (by omega) hy1]
  have eh : shl .u64 hi (s : Int) = 2 ^ s * hi := by rw [jDh hs64, Int.emod_eq_of_lt h0 (by omega)]
  have el : shl .u64 lo (s : Int) = 2 ^ s * (lo % 2 ^ (64 - s)) := jDh hs64
  have er : shr .u64 lo ((64 - s : Nat) : Int) = lo / 2 ^ (64 - s) := jCO (by omega)
  have hlq : 0 ≤ lo / 2 ^ (64 - s) := Int.ediv_nonneg hlo.1 (by omega)
  have hlq2 : lo / 2 ^ (64 - s) < 2 ^ s := Int.ediv_lt_of_lt_mul hp2 (by rw [hsp]; exact hlo.2)
  have hb := jFf (x := lo) hs64
  have hls := jCy (x := lo) hs64
  have h2B := jBe hs64
  have hhy : 2 ^ s * hi + 2 ^ s ≤ 2 ^ s * y := by
   have := Int.mul_le_mul_of_nonneg_left (show hi + 1 ≤ y from hy) (Int.le_of_lt hp)
   rw [Int.mul_add, Int.mul_one] at this
   exact this
  have h20 : 0 ≤ 2 ^ s * hi := Int.mul_nonneg (Int.le_of_lt hp) h0
  have eo : Go.bits .or .u64 (2 ^ s * hi) (lo / 2 ^ (64 - s)) = 2 ^ s * hi + lo / 2 ^ (64 - s) := or_hi h0 ⟨hlq, hlq2⟩ (by omega) (by omega)
  refine Ev.vU he ?_
  simp only [e1, e2, ey, eh, el, er, eo]
  have hn : 0 ≤ 2 ^ s * hi + lo / 2 ^ (64 - s) ∧ 2 ^ s * hi + lo / 2 ^ (64 - s) < 2 ^ s * y := by omega
  have hN : (hi * B + lo) * 2 ^ s = (2 ^ s * hi + lo / 2 ^ (64 - s)) * B + 2 ^ s * (lo % 2 ^ (64 - s)) := by
   rw [Int.add_mul, Int.add_mul, Int.mul_comm lo, ← hls, Int.mul_comm (hi * B), ← Int.mul_assoc, Int.mul_comm B]
   omega
  have hnB : 2 ^ s * hi + lo / 2 ^ (64 - s) < B := by omega
  have hu := Int.mul_nonneg (Int.le_of_lt hp) (Int.emod_nonneg lo (Int.ne_of_gt hp2))
  have huB : 2 ^ s * (lo % 2 ^ (64 - s)) < B := by omega
  have hsc : ∀ Q r : Int, 0 ≤ r → r < 2 ^ s * y → (2 ^ s * hi + lo / 2 ^ (64 - s)) * B + 2 ^ s * (lo % 2 ^ (64 - s)) = Q * (2 ^ s * y) + r → Q = (hi * B + lo) / y ∧ r / 2 ^ s = (hi * B + lo) % y := by
   intro Q r hr0 hr1 hq
   refine jFB (p := 2 ^ s) hp (by omega) ?_ ⟨hr0, by rw [Int.mul_comm]; exact hr1⟩
   rw [hN, hq, Int.mul_comm y]
  clear hN hls hb e1 e2 ey eh el er eo h2B hsp hlq hlq2 hhy h20
  generalize 2 ^ s * hi + lo / 2 ^ (64 - s) = n at *
  generalize 2 ^ s * (lo % 2 ^ (64 - s)) = u at *
  generalize 2 ^ s * y = Y at *
  have hYa : Y = Y / 4294967296 * H + Y % 4294967296 := by rw [H_eq]; omega
  have hYa0 : 0 < Y / 4294967296 := by rw [B_eq] at hy3; omega
  have hYaH : Y / 4294967296 < H := by rw [H_eq]; rw [B_eq] at hy2; omega
  have hYb : 0 ≤ Y % 4294967296 ∧ Y % 4294967296 < H := by rw [H_eq]; omega
  have hu1 : 0 ≤ u / 4294967296 ∧ u / 4294967296 < H := by rw [H_eq]; rw [B_eq] at huB; omega
  have hu0 : 0 ≤ u % 4294967296 ∧ u % 4294967296 < H := by rw [H_eq]; omega
  have hua : u / 4294967296 * H + u % 4294967296 = u := by rw [H_eq]; omega
  rw [jJc (by omega) hy2, jJc hu huB]
  obtain ⟨Q1, g⟩ := jBC.make (n := n) (u := u / 4294967296) hYa hYa0 hYb hy2 hn hu1 hYaH
  obtain ⟨q1, q2⟩ := jDT (n := n) (a := Y / 4294967296) ⟨hn.1, hnB⟩ hYa0
  obtain ⟨Q0, r0, hr0, hr1, hq, hR⟩ := jJu (n := n) (u1 := u / 4294967296) (u0 := u % 4294967296) (s := s) hs hYa hYa0 hYb hYaH hy2 hu0 g.Q0 g.Q1 g.Q2
  rw [hua] at hq
  obtain ⟨f1, f2⟩ := hsc _ _ hr0 hr1 hq
  rw [q2, q1]
  refine Ev.pos (by omega) (Ev.pos (by omega) (Ev.neg (by omega) ?_))
  rw [← f1, ← f2]
  exact jJt hu0 hR _ _ _ rfl g
theorem jFC {hi lo y : Int} (h0 : 0 ≤ hi) (hy : hi < y) (hlo : 0 ≤ lo ∧ lo < B) : (hi * B + lo) / y < B := by
 refine Int.ediv_lt_of_lt_mul (by omega) ?_
 have := Int.mul_le_mul_of_nonneg_right (show hi + 1 ≤ y from hy) (Int.le_of_lt jBD)
 rw [Int.add_mul, Int.one_mul] at this
 rw [Int.mul_comm B]
 omega
end Go.Proofs.Ytijgeonhbmgikaa.EORatioField
end
section
set_option linter.unusedVariables false
set_option linter.unusedSimpArgs false
namespace Go.Proofs.Ytijgeonhbmgikaa.EORatioField
open Go.RowKit Go.Proofs.Ytijgeonhbmgikaa.PORatioField Go.Proofs.YtijgeonhbmgikaaN Go.Proofs.YtijgeonhbmgikaaW.PrintWords Go.Proofs.YtijgeonhbmgikaaW.PrintLast Go.Proofs.YtijgeonhbmgikaaW.PrintMore
def jDN (n : Nat) (l : List Int) : List Int := l ++ List.replicate (n - l.length) 0
theorem jFv {n : Nat} {l : List Int} (h : l.length ≤ n) : (jDN n l).length = n := by unfold jDN; simp; omega
theorem jFu (n : Nat) (l : List Int) : val (jDN n l) = val l := by unfold jDN; rw [val_append, jAt]; omega
theorem jHN {n : Nat} {l : List Int} (h : Ok l) : Ok (jDN n l) := h.append (Ok.rep _)
theorem jGO {u v : List Int} (hu : Ok u) (hv : Ok v) (hul : u.length ≤ 1000) (hvl : v.length ≤ 1000) (hV : 0 < val v) : ∀ (d : Nat) (q : Int), (q - val u / val v).toNat = d → val u / val v ≤ q → q < B → Ev (fun k => je.l v k u q) (val u / val v, jDN u.length (dg (val u % val v))) := by
 have hU := jq hu
 have hQ0 : 0 ≤ val u / val v := Int.ediv_nonneg hU (Int.le_of_lt hV)
 intro d
 induction d with
 | zero =>
  intro q hd h1 h2
  obtain rfl : q = val u / val v := by omega
  have hle : val v * (val u / val v) ≤ val u := Int.mul_ediv_self_le (Int.ne_of_gt hV)
  have rv := Row.of hv hvl
  have r1 : Row [val u / val v] (val u / val v) 1 := ⟨Ok.one hQ0 h2, val_one _, Nat.le_refl _⟩
  have rm := rv.mul r1 (p := 1001) (Nat.le_refl _)
  have hmod : val u - val v * (val u / val v) = val u % val v := (Int.emod_def _ _).symm
  have hs := jDK (Row.of hu hul) rm (by decide) (by decide) hle
  rw [hmod] at hs
  have hlt : val u % val v ≤ val u := by rw [← hmod]; have := Int.mul_nonneg (Int.le_of_lt hV) hQ0; omega
  have hlen : (dg (val u % val v)).length ≤ u.length := qN (Int.lt_of_le_of_lt hlt (jAH hu))
  refine Ev.step (fun k => by rw [je.l]) (Ev.bind (mulR rv r1 (by decide) (by decide)) (Ev.bind hs (Ev.pos rfl ?_)))
  exact Ev.pos (c := (dg (val u % val v)).length ≤ u.length ∧ u.length < 17592186044416) ⟨hlen, by omega⟩ (Ev.now _)
 | succ d ih =>
  intro q hd h1 h2
  have hlt : val u < val v * q := by
   have := Int.lt_ediv_add_one_mul_self (val u) hV
   have h3 : (val u / val v + 1) * val v ≤ q * val v := Int.mul_le_mul_of_nonneg_right (by omega) (Int.le_of_lt hV)
   rw [Int.mul_comm (val v)]
   omega
  have rv := Row.of hv hvl
  have r1 : Row [q] q 1 := ⟨Ok.one (by omega) h2, val_one _, Nat.le_refl _⟩
  have rm := rv.mul r1 (p := 1001) (Nat.le_refl _)
  have hs := jIN (Row.of hu hul) rm (by decide) (by decide) hlt
  have hw : IntKind.u64.wrap (q - 1) = q - 1 := by
   have h5 : 0 ≤ q - 1 := by omega
   have h6 : q - 1 < 18446744073709551616 := by rw [← B_eq]; omega
   rw [IntKind.wrap_u64]
   exact Int.emod_eq_of_lt h5 h6
  refine Ev.step (fun k => by rw [je.l]) (Ev.bind (mulR rv r1 (by decide) (by decide)) (Ev.bind hs (Ev.neg (fun h => Bool.noConfusion h) ?_)))
  rw [hw]
  exact ih (q - 1) (by omega) (by omega) (by omega)
theorem jEU {u v : List Int} (hu : Ok u) (hv : Ok v) {n : Nat} (hn : v.length = n + 1) (hul : u.length = n + 2) (hV : 0 < v.getD n 0) : val u / val v ≤ (u.getD (n + 1) 0 * B + u.getD n 0) / v.getD n 0 := by
 have hVp : B ^ n * v.getD n 0 ≤ val v := by
  have e := zG v n (by omega)
  rw [qm (by omega), List.drop_eq_nil_of_le (by omega), ql, Int.mul_zero, Int.add_zero] at e
  have := jq (hv.take n)
  omega
 have hB := qL n
 have hVpos : 0 < val v := by have := Int.mul_pos hB hV; omega
 have hU : val u < B ^ n * (u.getD (n + 1) 0 * B + u.getD n 0 + 1) := by
  have e := zG u n (by omega)
  rw [qm (by omega), qm (by omega), List.drop_eq_nil_of_le (by omega), ql, Int.mul_zero, Int.add_zero] at e
  have h1 := jAH (hu.take n)
  rw [List.length_take, Nat.min_eq_left (by omega)] at h1
  rw [Int.mul_add (B ^ n), Int.mul_one, Int.mul_comm _ B, Int.add_comm (B * u.getD (n + 1) 0)]
  omega
 have hQ0 : 0 ≤ val u / val v := Int.ediv_nonneg (jq hu) (Int.le_of_lt hVpos)
 have hle : val u / val v * val v ≤ val u := Int.ediv_mul_le _ (Int.ne_of_gt hVpos)
 generalize val u / val v = Q at *
 refine Int.le_ediv_of_mul_le hV ?_
 have h2 : Q * (B ^ n * v.getD n 0) ≤ Q * val v := Int.mul_le_mul_of_nonneg_left hVp hQ0
 rw [← Int.mul_assoc, Int.mul_comm Q, Int.mul_assoc] at h2
 have h3 : B ^ n * (Q * v.getD n 0) < B ^ n * (u.getD (n + 1) 0 * B + u.getD n 0 + 1) := by omega
 have := Int.lt_of_mul_lt_mul_left h3 (Int.le_of_lt hB)
 omega
theorem jHc {u v : List Int} (hu : Ok u) (hv : Ok v) (hul : u.length = v.length + 1) (hvl : v.length ≤ 900) (hv0 : 0 < v.length) (hV : 0 < v.getD (v.length - 1) 0) (hlt : val u < val v * B) : Ev (fun k => je.f k u v) (val u / val v, jDN u.length (dg (val u % val v))) := by
 obtain ⟨n, hn⟩ : ∃ n, v.length = n + 1 := ⟨v.length - 1, by omega⟩
 have e1 : v.length - 1 = n := by omega
 rw [e1] at hV
 have hVp : B ^ n * v.getD n 0 ≤ val v := by
  have e := zG v n (by omega)
  rw [qm (by omega), List.drop_eq_nil_of_le (by omega), ql, Int.mul_zero, Int.add_zero] at e
  have := jq (hv.take n)
  omega
 have hVpos : 0 < val v := by have := Int.mul_pos (qL n) hV; omega
 have hQB : val u / val v < B := Int.ediv_lt_of_lt_mul hVpos (by rw [Int.mul_comm]; exact hlt)
 have h0 := hu.at (n + 1)
 have h1 := hu.at n
 have h2 := hv.at n
 unfold je.f
 refine Ev.pos (c := 0 < v.length ∧ v.length < u.length) ⟨hv0, by omega⟩ ?_
 rw [e1, hn]
 by_cases hc : u.getD (n + 1) 0 < v.getD n 0
 ·
  refine Ev.pos hc (Ev.bind (jFD h0.1 hc h1 h2.2) ?_)
  refine jGO hu hv (by omega) (by omega) hVpos _ _ rfl ?_ ?_
  ·
   exact jEU hu hv hn (by omega) hV
  ·
   exact (jFC h0.1 hc h1)
 ·
  refine Ev.neg hc (jGO hu hv (by omega) (by omega) hVpos _ _ rfl ?_ ?_)
  ·
   rw [B_eq] at hQB; omega
  ·
   rw [B_eq]; decide
end Go.Proofs.Ytijgeonhbmgikaa.EORatioField
end
section
set_option linter.unusedVariables false
set_option linter.unusedSimpArgs false
namespace Go.Proofs.Ytijgeonhbmgikaa.EORatioField
open Go.RowKit Go.Proofs.Ytijgeonhbmgikaa.PORatioField Go.Proofs.YtijgeonhbmgikaaN Go.Proofs.YtijgeonhbmgikaaW.PrintWords Go.Proofs.YtijgeonhbmgikaaW.PrintLast Go.Proofs.YtijgeonhbmgikaaW.PrintMore
def Held (l : List Int) : Prop := l.length ≤ 8 ∧ (l = [] ∨ l.getD (l.length - 1) 0 ≠ 0)
instance (l : List Int) : Decidable (Held l) := by unfold Held; infer_instance
theorem Held.dg {l : List Int} (h : Held l) (ho : Ok l) : Go.Proofs.YtijgeonhbmgikaaN.dg (val l) = l := jDz ho h.2
theorem jIl {n : Int} {l : List Int} (h : (dg n).length ≤ 8) : Held (dg n) := ⟨h, jEW n⟩
theorem jEx {l : List Int} (h : l.length ≤ 8) (h0 : ¬ l = []) : (l.getD (l.length - 1) 0 != 0) = decide (Held l) := by
 rw [Bool.eq_iff_iff, bne_iff_ne]
 exact ⟨fun q => decide_eq_true ⟨h, .inr q⟩, fun q => ((of_decide_eq_true q).2).elim (fun e => absurd e h0) id⟩
theorem jCV (l : List Int) : qR.f l = some (decide (Held l)) := by
 unfold qR.f
 by_cases h : l.length ≤ 8
 ·
  rw [if_pos (by omega)]
  by_cases h0 : l = []
  ·
   subst h0
   rfl
  ·
   have hl := List.length_pos_iff.2 h0
   have hw : wrap64 ((l.length : Int) - 1) = ((l.length - 1 : Nat) : Int) := by rw [w64 (by omega)]; omega
   rw [if_neg (by omega), hw, if_pos (by omega), if_pos (by omega), qW, jEx h h0]
 ·
  rw [if_neg (by omega), decide_eq_false (fun q => h q.1)]
theorem of_eq {n : Int} (h : 0 ≤ n ∧ n < B) : jBW.f n = some (dg n) := by
 unfold jBW.f
 by_cases hz : n = 0
 ·
  rw [if_pos hz, hz, jAe]
 ·
  rw [if_neg hz]
  have := jDz (Ok.one h.1 h.2) (.inr (by simpa using hz))
  rw [val_one] at this
  rw [this]
theorem jBq (l : List Int) : vK.f l = some (decide (Held l)) := by
 unfold vK.f
 by_cases h : l.length ≤ 8
 ·
  rw [if_pos (by omega)]
  by_cases h0 : l = []
  ·
   subst h0
   rfl
  ·
   have hl := List.length_pos_iff.2 h0
   have hw : wrap64 ((l.length : Int) - 1) = ((l.length - 1 : Nat) : Int) := by rw [w64 (by omega)]; omega
   rw [if_neg (by omega), hw, if_pos (by omega), if_pos (by omega), qW, jEx h h0]
 ·
  rw [if_neg (by omega), decide_eq_false (fun q => h q.1)]
theorem jId {a b : List Int} (ha : Ok a) (hb : Ok b) (hal : a.length ≤ 17592186044416) (hbl : b.length ≤ 17592186044416) : Ev (fun k => jAP.f k a b) (cmpv (val a) (val b)) := Ev.bind (jFI ha hb hal hbl) (Ev.now _)
theorem jEq (a b : List Int) (h : a.length ≤ 17592186044416) : Ev (fun k => vT.f k a b) (decide (a = b)) := Ev.bind (jIP a b h) (Ev.now _)
theorem jAj {x : Int} (h : x < B ^ 8) : Held (dg x) := jIl (l := []) (qN h)
theorem B8 : B ≤ B ^ 8 := by decide
theorem jCB {x : Int} (h : 0 < x) (hb : x < B) : dg x = [x] := by
 have := jDz (Ok.one (Int.le_of_lt h) hb) (.inr (by simp; omega))
 rwa [val_one] at this
end Go.Proofs.Ytijgeonhbmgikaa.EORatioField
end
section
set_option linter.unusedVariables false
set_option linter.unusedSimpArgs false
namespace Go.Proofs.Ytijgeonhbmgikaa.EORatioField
open Go.RowKit Go.Proofs.Ytijgeonhbmgikaa.PORatioField Go.Proofs.YtijgeonhbmgikaaN Go.Proofs.YtijgeonhbmgikaaW.PrintWords Go.Proofs.YtijgeonhbmgikaaW.PrintLast Go.Proofs.YtijgeonhbmgikaaW.PrintMore
theorem u64n {x : Int} (h : 0 ≤ x ∧ x < B) : IntKind.u64.wrap x = x := by rw [IntKind.wrap_u64]; rw [B_eq] at h; omega
theorem jCD {x y : Int} (h : 0 ≤ x) : Int.tmod x y = x % y := Int.tmod_eq_emod_of_nonneg h
theorem jCE {x y : Int} (h : 0 ≤ x) : Int.tdiv x y = x / y := Int.tdiv_eq_ediv_of_nonneg h
theorem at_eq (l : List Int) (i : Nat) : jh.f l i = some (l.getD i 0) := by
 unfold jh.f
 by_cases h : i < l.length
 ·
  rw [if_pos (by omega), if_pos (by omega), qW]
 ·
  rw [if_neg (by omega), getD_none (by omega)]
theorem jGN (a : List Int) (ha : Ok a) (hl : a.length ≤ 4294967296) : ∀ (d : Nat) (out : List Int) (i : Nat), a.length - i = d → i ≤ a.length → out.length = 2 * i → Ev (fun k => jG.l0 k a out i) (out ++ halves (a.drop i)) := by
 intro d
 induction d with
 | zero =>
  intro out i hd hi ho
  refine Ev.step (fun k => by simp only [jG.l0]; rw [if_neg (by omega)]) (Ev.eq (Ev.now _) ?_)
  rw [List.drop_eq_nil_of_le (by omega), halves, List.append_nil]
 | succ d ih =>
  intro out i hd hi ho
  have hia : i < a.length := by omega
  have hx := ha.at i
  have e1 : IntKind.u64.wrap (Int.tdiv (rd a (i : Int)) 4294967296) = a.getD i 0 / H := by
   rw [qW, jCE hx.1]
   rw [B_eq] at hx
   exact u64n (by rw [B_eq]; omega)
  have e2 : Int.tmod (rd a (i : Int)) 4294967296 = a.getD i 0 % H := by rw [qW, jCD hx.1]; rfl
  have hs : out ++ halves (a.drop i) = (out ++ [a.getD i 0 % H, a.getD i 0 / H]) ++ halves (a.drop (i + 1)) := by
   rw [List.drop_eq_getElem_cons hia, halves, List.append_assoc]
   rw [show a.getD i 0 = a[i] from by rw [List.getD_eq_getElem?_getD, List.getElem?_eq_getElem hia]; rfl]
   rfl
  rw [hs]
  refine Ev.step (fun k => ?_) (ih (out ++ [a.getD i 0 % H, a.getD i 0 / H]) (i + 1) (by omega) (by omega) (by simp; omega))
  simp only [jG.l0, e1, e2]
  rw [if_pos (by omega), if_pos (by omega), zi, if_pos (by simp; omega), w64 (by omega), show (i : Int) + 1 = ((i + 1 : Nat) : Int) from by omega]
theorem jAo {a : List Int} (ha : Ok a) (hl : a.length ≤ 4294967296) : Ev (fun k => jG.f k a) (halves a) := by
 unfold jG.f
 have := jGN a ha hl _ [] 0 rfl (by omega) rfl
 simpa using this
theorem jGt (d : List Int) (hd : OkH d) (hl : d.length ≤ 17179869184) : ∀ (n : Nat) (out : List Int) (i : Nat), d.length - i ≤ n → Ok out → out.length ≤ i → i ≤ d.length + 1 → Ev (fun k => jM.l0 k d out i) (dg (val out + B ^ out.length * hval (d.drop i))) := by
 intro n
 induction n with
 | zero =>
  intro out i hn ho hoi hi
  refine Ev.step (f := fun k => (jW.f k out).bind fun t => some t) (fun k => by simp only [jM.l0]; rw [if_neg (by omega)]) ?_
  rw [List.drop_eq_nil_of_le (by omega), jAK, Int.mul_zero, Int.add_zero]
  exact Ev.bind (jCF ho (by omega)) (Ev.now _)
 | succ n ih =>
  intro out i hn ho hoi hi
  by_cases hid : i < d.length
  ·
   have h0 := hd.at i
   have h1 := hd.at (i + 1)
   have hwi : wrap64 ((i : Int) + 1) = ((i + 1 : Nat) : Int) := by rw [w64 (by omega)]; omega
   have hwi2 : wrap64 ((i : Int) + 2) = ((i + 2 : Nat) : Int) := by rw [w64 (by omega)]; omega
   have hB : d.getD i 0 + d.getD (i + 1) 0 * 4294967296 < B := by rw [H_eq] at h0 h1; rw [B_eq]; omega
   have hnew : 0 ≤ d.getD i 0 + d.getD (i + 1) 0 * 4294967296 := by omega
   have hv : val out + B ^ out.length * hval (d.drop i) = val (out ++ [d.getD i 0 + d.getD (i + 1) 0 * 4294967296]) + B ^ (out ++ [d.getD i 0 + d.getD (i + 1) 0 * 4294967296]).length * hval (d.drop (i + 2)) := by
    have e : d.getD i 0 + H * (d.getD (i + 1) 0 + H * hval (d.drop (i + 2))) = (d.getD i 0 + d.getD (i + 1) 0 * 4294967296) + B * hval (d.drop (i + 2)) := by
     rw [Int.mul_add, ← Int.mul_assoc, HH, show H * d.getD (i + 1) 0 = d.getD (i + 1) 0 * 4294967296 from Int.mul_comm _ _]
     omega
    rw [jAX, jAX d (i + 1), show i + 1 + 1 = i + 2 from rfl, e, jBQ, List.length_append, List.length_singleton, qD]
    generalize d.getD i 0 + d.getD (i + 1) 0 * 4294967296 = u
    rw [Int.mul_add, Int.mul_assoc, Int.add_assoc]
   rw [hv]
   have hok := ho.append (Ok.one hnew hB)
   refine Ev.step (fun k => ?_) (ih (out ++ [d.getD i 0 + d.getD (i + 1) 0 * 4294967296]) (i + 2) (by omega) hok (by simp; omega) (by omega))
   simp only [jM.l0, hwi, hwi2]
   rw [if_pos (by omega), if_pos (by omega)]
   by_cases hi1 : i + 1 < d.length
   ·
    rw [if_pos (by omega), if_pos (by omega), if_pos (by omega), qW, qW, u64n (x := d.getD (i + 1) 0 * 4294967296) (by omega), u64n ⟨hnew, hB⟩]
   ·
    rw [if_neg (by omega), if_pos (by omega), qW, getD_none (by omega : d.length ≤ i + 1)]
    simp
  ·
   refine Ev.step (f := fun k => (jW.f k out).bind fun t => some t) (fun k => by simp only [jM.l0]; rw [if_neg (by omega)]) ?_
   rw [List.drop_eq_nil_of_le (by omega), jAK, Int.mul_zero, Int.add_zero]
   exact Ev.bind (jCF ho (by omega)) (Ev.now _)
theorem jBd {d : List Int} (hd : OkH d) (hl : d.length ≤ 17179869184) : Ev (fun k => jM.f k d) (dg (hval d)) := by
 unfold jM.f
 have := jGt d hd hl d.length [] 0 (by omega) Ok.nil (by simp) (by omega)
 simpa [val] using this
theorem jFq {x y c : Int} (hx : 0 ≤ x ∧ x < H) (hy : 0 ≤ y ∧ y < H) (hc : 0 ≤ c ∧ c ≤ 1) : (0 ≤ (x + y + c) % H ∧ (x + y + c) % H < H) ∧ (0 ≤ (x + y + c) / H ∧ (x + y + c) / H ≤ 1) ∧ (x + y + c) % H + H * ((x + y + c) / H) = x + y + c := by
 rw [H_eq] at *
 omega
theorem jIZ (x y : List Int) (hx : OkH x) (hy : OkH y) (M : Nat) (hxM : x.length ≤ M) (hyM : y.length ≤ M) (hM : M ≤ 8589934592) : ∀ (d : Nat) (out : List Int) (c : Int) (i : Nat), M + 1 - i = d → OkH out → out.length = i → (0 ≤ c ∧ c ≤ 1) → (i ≤ M ∨ i = M + 1 ∧ c = 0) →
  Ev (fun k => jO.l0 k x y out c i) (dg (hval out + H ^ i * (c + (hval (x.drop i) + hval (y.drop i))))) := by
 intro d
 induction d with
 | zero =>
  intro out c i hd ho hol hc hi
  obtain ⟨hi, rfl⟩ : i = M + 1 ∧ c = 0 := by omega
  refine Ev.step (f := fun k => jO.j1 k x y out 0 i (decide ((0 : Int) > 0))) (fun k => by simp only [jO.l0]; rw [if_neg (by omega), if_neg (by omega)]) (Ev.step (f := fun k => (jM.f k out).bind fun t => some t) (fun k => by simp only [jO.j1]; rw [if_neg (by simp)]) ?_)
  rw [List.drop_eq_nil_of_le (by omega), List.drop_eq_nil_of_le (by omega), jAK]
  simp only [Int.add_zero, Int.mul_zero]
  exact Ev.bind (jBd ho (by omega)) (Ev.now _)
 | succ d ih =>
  intro out c i hd ho hol hc hi
  by_cases hgo : i < x.length ∨ i < y.length ∨ 0 < c
  ·
   have h0 : ∀ k, jO.l0 (k + 1) x y out c i = jO.j1 k x y out c i true := by
    intro k
    simp only [jO.l0]
    by_cases h1 : i < x.length
    ·
     rw [if_pos (by omega)]
    ·
     rw [if_neg (by omega)]
     by_cases h2 : i < y.length
     ·
      rw [if_pos (by omega)]
     ·
      rw [if_neg (by omega), decide_eq_true (by omega)]
   have hxi := hx.at i
   have hyi := hy.at i
   obtain ⟨s1, s2, s3⟩ := jFq hxi hyi hc
   have hv : hval out + H ^ i * (c + (hval (x.drop i) + hval (y.drop i))) = hval (out ++ [(x.getD i 0 + y.getD i 0 + c) % H]) + H ^ (i + 1) * ((x.getD i 0 + y.getD i 0 + c) / H + (hval (x.drop (i + 1)) + hval (y.drop (i + 1)))) := by
    have e : c + (hval (x.drop i) + hval (y.drop i)) = (x.getD i 0 + y.getD i 0 + c) % H + H * ((x.getD i 0 + y.getD i 0 + c) / H + (hval (x.drop (i + 1)) + hval (y.drop (i + 1)))) := by
     rw [jAX x i, jAX y i, Int.mul_add, Int.mul_add]
     omega
    rw [e, jCZ, hol, jAc]
    generalize (x.getD i 0 + y.getD i 0 + c) % H = s
    generalize (x.getD i 0 + y.getD i 0 + c) / H = c'
    rw [Int.mul_add, Int.mul_assoc, Int.add_assoc]
   rw [hv]
   refine Ev.step h0 (Ev.step (fun k => ?_) (ih (out ++ [(x.getD i 0 + y.getD i 0 + c) % H]) _ (i + 1) (by omega) (ho.append (OkH.one s1.1 s1.2)) (by simp [hol]) s2 ?_))
   ·
    simp only [jO.j1]
    have b1 : IntKind.u64.wrap (x.getD i 0 + y.getD i 0) = x.getD i 0 + y.getD i 0 := u64n (by rw [H_eq] at hxi hyi; rw [B_eq]; omega)
    have b2 : IntKind.u64.wrap (x.getD i 0 + y.getD i 0 + c) = x.getD i 0 + y.getD i 0 + c := u64n (by rw [H_eq] at hxi hyi; rw [B_eq]; omega)
    rw [if_pos trivial, at_eq, at_eq, zi, zi, if_pos (by omega), b1, b2, jCD (by omega), jCE (by omega), w64 (by omega), show (i : Int) + 1 = ((i + 1 : Nat) : Int) from by omega]
    rw [show IntKind.u64.wrap ((x.getD i 0 + y.getD i 0 + c) / 4294967296) = (x.getD i 0 + y.getD i 0 + c) / 4294967296 from u64n (by rw [H_eq] at hxi hyi; rw [B_eq]; omega)]
    rfl
   ·
    by_cases hiM : i < M
    ·
     exact .inl (by omega)
    ·
     refine .inr ⟨by omega, ?_⟩
     rw [getD_none (by omega : x.length ≤ i), getD_none (by omega : y.length ≤ i), H_eq]
     omega
  ·
   have hc0 : c = 0 := by omega
   subst hc0
   refine Ev.step (f := fun k => jO.j1 k x y out 0 i (decide ((0 : Int) > 0))) (fun k => by simp only [jO.l0]; rw [if_neg (by omega), if_neg (by omega)]) (Ev.step (f := fun k => (jM.f k out).bind fun t => some t) (fun k => by simp only [jO.j1]; rw [if_neg (by simp)]) ?_)
   rw [List.drop_eq_nil_of_le (by omega), List.drop_eq_nil_of_le (by omega), jAK]
   simp only [Int.add_zero, Int.mul_zero]
   exact Ev.bind (jBd ho (by omega)) (Ev.now _)
theorem jIa {a b : List Int} (ha : Ok a) (hb : Ok b) (hal : a.length ≤ 4294967296) (hbl : b.length ≤ 4294967296) : Ev (fun k => jO.f k a b) (dg (val a + val b)) := by
 unfold jO.f
 have l1 := jAk a
 have l2 := jAk b
 have := jIZ (halves a) (halves b) (jAm ha) (jAm hb) (2 * max a.length b.length) (by omega) (by omega) (by omega) _ [] 0 0 rfl OkH.nil rfl (by omega) (.inl (by omega))
 simp only [jAK, List.drop_zero, jAY, Int.pow_zero, Int.one_mul, Int.zero_add] at this
 exact Ev.bind (jAo ha hal) (Ev.bind (jAo hb hbl) this)
theorem jCw (a : List Int) (n i : Nat) : (a ++ List.replicate n 0).getD i 0 = a.getD i 0 := by
 simp only [List.getD_eq_getElem?_getD]
 by_cases h : i < a.length
 ·
  rw [List.getElem?_append_left h]
 ·
  rw [List.getElem?_append_right (by omega), List.getElem?_eq_none (by omega : a.length ≤ i), List.getElem?_replicate]
  split <;> rfl
theorem jIY {a b a' b' : List Int} (ha : Ok a') (hb : Ok b') (hab : a'.length = b'.length) (hl : a'.length ≤ 17592186044416) (ga : ∀ i, a.getD i 0 = a'.getD i 0) (gb : ∀ i, b.getD i 0 = b'.getD i 0) : ∀ (n : Nat), n ≤ a'.length → a'.drop n = b'.drop n → ∀ k, n < k → jR.l0 k a b ((n : Int) - 1) = some (cmpv (val a') (val b')) := by
 intro n
 induction n with
 | zero =>
  intro _ hd k hk
  obtain ⟨k, rfl⟩ : ∃ m, k = m + 1 := ⟨k - 1, by omega⟩
  have : a' = b' := by simpa using hd
  subst this
  simp only [jR.l0]
  rw [if_neg (by omega), jEB]
 | succ n ih =>
  intro hn hd k hk
  obtain ⟨k, rfl⟩ : ∃ m, k = m + 1 := ⟨k - 1, by omega⟩
  have e : (((n + 1 : Nat) : Int) - 1) = (n : Int) := by omega
  rw [e]
  simp only [jR.l0]
  rw [if_pos (by omega), at_eq, at_eq, zi, zi, zi, zi, w64 (by omega), ga, gb]
  by_cases h1 : a'.getD n 0 < b'.getD n 0
  ·
   have := jFH ha hb hab (by omega) hd h1
   rw [if_pos h1]
   simp [cmpv, this]
  ·
   rw [if_neg h1]
   by_cases h2 : b'.getD n 0 < a'.getD n 0
   ·
    have := jFH hb ha hab.symm (by omega) hd.symm h2
    rw [if_pos h2]
    unfold cmpv
    rw [if_neg (by omega), if_neg (by omega)]
   ·
    rw [if_neg h2]
    refine ih (by omega) ?_ k (by omega)
    have ha' : n < a'.length := by omega
    have hb' : n < b'.length := by omega
    have e1 : a'.getD n 0 = a'[n] := by rw [List.getD_eq_getElem?_getD, List.getElem?_eq_getElem ha']; rfl
    have e2 : b'.getD n 0 = b'[n] := by rw [List.getD_eq_getElem?_getD, List.getElem?_eq_getElem hb']; rfl
    rw [List.drop_eq_getElem_cons ha', List.drop_eq_getElem_cons hb', hd, ← e1, ← e2, show a'.getD n 0 = b'.getD n 0 from by omega]
theorem jEP {a b : List Int} (ha : Ok a) (hb : Ok b) (hal : a.length ≤ 4294967296) (hbl : b.length ≤ 4294967296) : Ev (fun k => jR.f k a b) (cmpv (val a) (val b)) := by
 refine ⟨max a.length b.length + 1, fun k hk => ?_⟩
 show jR.f k a b = _
 unfold jR.f
 have em : mx (a.length : Int) (b.length : Int) = ((max a.length b.length : Nat) : Int) := by unfold mx; split <;> omega
 have := jIY (a := a) (b := b) (a' := a ++ List.replicate (max a.length b.length - a.length) 0) (b' := b ++ List.replicate (max a.length b.length - b.length) 0) (ha.append (Ok.rep _)) (hb.append (Ok.rep _)) (by simp; omega) (by simp; omega) (fun i => (jCw _ _ _).symm) (fun i => (jCw _ _ _).symm) (max a.length b.length) (by simp; omega)
  (by rw [List.drop_eq_nil_of_le (by simp; omega), List.drop_eq_nil_of_le (by simp; omega)]) k (by omega)
 rw [em, w64 (by omega), this, val_append, val_append, jAt, jAt]
 simp
theorem jFh {x y c : Int} (hx : 0 ≤ x ∧ x < H) (hy : 0 ≤ y ∧ y < H) (hc : 0 ≤ c ∧ c ≤ 1) : (0 ≤ (x + H - y - c) % H ∧ (x + H - y - c) % H < H) ∧ (0 ≤ 1 - (x + H - y - c) / H ∧ 1 - (x + H - y - c) / H ≤ 1) ∧ (x + H - y - c) % H - H * (1 - (x + H - y - c) / H) = x - y - c := by
 rw [H_eq] at *
 omega
theorem jIQ (x y : List Int) (hx : OkH x) (hy : OkH y) (hl : x.length ≤ 8589934592) : ∀ (d : Nat) (out : List Int) (c : Int) (i : Nat), i + d = x.length → OkH out → out.length = i → (0 ≤ c ∧ c ≤ 1) →
  ∃ o ce, Ev (fun k => jc.l0 k x y out c i) (dg (hval o), true) ∧ OkH o ∧ o.length = x.length ∧ (0 ≤ ce ∧ ce ≤ 1) ∧ hval o + H ^ i * (c + hval ((y.drop i).take d)) = hval out + H ^ i * hval (x.drop i) + H ^ (i + d) * ce := by
 intro d
 induction d with
 | zero =>
  intro out c i hd ho hol hc
  refine ⟨out, c, Ev.step (f := fun k => (jM.f k out).bind fun t => some (t, true)) (fun k => by simp only [jc.l0]; rw [if_neg (by omega)]) (Ev.bind (jBd ho (by omega)) (Ev.now _)), ho, by omega, hc, ?_⟩
  have e : x.drop i = [] := List.drop_eq_nil_of_le (by omega)
  rw [e]
  simp [hval]
 | succ d ih =>
  intro out c i hd ho hol hc
  have hxi := hx.at i
  have hyi := hy.at i
  obtain ⟨s1, s2, s3⟩ := jFh hxi hyi hc
  obtain ⟨o, ce, h1, h2, h3, h4, h5⟩ := ih (out ++ [(x.getD i 0 + H - y.getD i 0 - c) % H]) (1 - (x.getD i 0 + H - y.getD i 0 - c) / H) (i + 1) (by omega) (ho.append (OkH.one s1.1 s1.2)) (by simp [hol]) s2
  refine ⟨o, ce, Ev.step (fun k => ?_) h1, h2, h3, h4, ?_⟩
  ·
   simp only [jc.l0]
   have b0 : IntKind.u64.wrap (rd x (i : Int) + 4294967296) = x.getD i 0 + H := u64n (by rw [H_eq] at hxi hyi; rw [B_eq, qW]; omega)
   have b1 : IntKind.u64.wrap (x.getD i 0 + H - y.getD i 0) = x.getD i 0 + H - y.getD i 0 := u64n (by rw [H_eq] at *; rw [B_eq]; omega)
   have b2 : IntKind.u64.wrap (x.getD i 0 + H - y.getD i 0 - c) = x.getD i 0 + H - y.getD i 0 - c := u64n (by rw [H_eq] at *; rw [B_eq]; omega)
   have b3 : IntKind.u64.wrap ((x.getD i 0 + H - y.getD i 0 - c) / H) = (x.getD i 0 + H - y.getD i 0 - c) / H := u64n (by rw [H_eq] at *; rw [B_eq]; omega)
   have b4 : IntKind.u64.wrap (1 - (x.getD i 0 + H - y.getD i 0 - c) / H) = 1 - (x.getD i 0 + H - y.getD i 0 - c) / H := u64n (by rw [H_eq] at *; rw [B_eq]; omega)
   have p : 0 ≤ x.getD i 0 + H - y.getD i 0 - c := by rw [H_eq] at *; omega
   rw [if_pos (by omega), if_pos (by omega), at_eq, zi, if_pos (by omega), b0, b1, b2, jCD p, jCE p, show (4294967296 : Int) = H from rfl, b3, b4, w64 (by omega), show (i : Int) + 1 = ((i + 1 : Nat) : Int) from by omega]
  ·
   rw [jCZ, hol, jAc] at h5
   rw [jFU, jAX x i, show i + (d + 1) = i + 1 + d from by omega]
   generalize hval ((y.drop (i + 1)).take d) = Y at *
   generalize hval (x.drop (i + 1)) = X at *
   generalize (1 - (x.getD i 0 + H - y.getD i 0 - c) / H) = c' at *
   generalize (x.getD i 0 + H - y.getD i 0 - c) % H = s at *
   have e1 : c + (y.getD i 0 + H * Y) = (x.getD i 0 - s) + H * (c' + Y) := by rw [Int.mul_add]; omega
   have e2 : H ^ i * (c + (y.getD i 0 + H * Y)) = H ^ i * (x.getD i 0 - s) + H ^ i * H * (c' + Y) := by rw [e1, Int.mul_add, Int.mul_assoc]
   have e3 : H ^ i * (x.getD i 0 + H * X) = H ^ i * x.getD i 0 + H ^ i * H * X := by rw [Int.mul_add, Int.mul_assoc]
   have e4 : H ^ i * (x.getD i 0 - s) = H ^ i * x.getD i 0 - H ^ i * s := Int.mul_sub ..
   omega
theorem jIR {a b : List Int} (ha : Ok a) (hb : Ok b) (hal : a.length ≤ 4294967296) (hbl : b.length ≤ 4294967296) : Ev (fun k => jc.f k a b) (if val a < val b then ([], false) else (dg (val a - val b), true)) := by
 unfold jc.f
 refine Ev.bind (jEP ha hb hal hbl) ?_
 by_cases h : val a < val b
 ·
  rw [if_pos h]
  exact Ev.pos (jAa.2 h) (Ev.now _)
 ·
  rw [if_neg h]
  refine Ev.neg (fun e => h (jAa.1 e)) (Ev.bind (jAo ha hal) (Ev.bind (jAo hb hbl) ?_))
  have l1 := jAk a
  have hx := jAm ha
  have hy := jAm hb
  obtain ⟨o, ce, h1, h2, h3, h4, h5⟩ := jIQ (halves a) (halves b) hx hy (by omega) (halves a).length [] 0 0 (by omega) OkH.nil rfl (by omega)
  simp only [jAK, List.drop_zero, jAY, Int.pow_zero, Int.one_mul, Int.zero_add, Nat.zero_add] at h5
  have hp := jDe (halves a).length
  have hxl := jGJ hx
  rw [jAY] at hxl
  have hy0 := jBA h2
  have hyl := jGJ h2
  rw [h3] at hyl
  have hbt : hval ((halves b).take (halves a).length) = val b := by
   by_cases hl : (halves b).length ≤ (halves a).length
   ·
    rw [List.take_of_length_le hl, jAY]
   ·
    have e := jBY (halves b) (halves a).length (by omega)
    rw [jAY] at e
    have n1 := jBA (hy.take (halves a).length)
    have n2 := jBA (hy.drop (halves a).length)
    have : hval ((halves b).drop (halves a).length) = 0 := by
     rcases Int.lt_or_le 0 (hval ((halves b).drop (halves a).length)) with h6 | h6
     ·
      have : H ^ (halves a).length * 1 ≤ H ^ (halves a).length * hval ((halves b).drop (halves a).length) := Int.mul_le_mul_of_nonneg_left (by omega) (by omega)
      omega
     ·
      omega
    rw [this] at e
    omega
  rw [hbt] at h5
  have hce : ce = 0 := by
   rcases Int.lt_or_le 0 ce with h6 | h6
   ·
    have e1 : ce = 1 := by omega
    rw [e1] at h5
    have n1 := jq hb
    omega
   ·
    omega
  rw [hce] at h5
  have : hval o = val a - val b := by omega
  rw [← this]
  exact h1
end Go.Proofs.Ytijgeonhbmgikaa.EORatioField
end
section
set_option linter.unusedVariables false
set_option linter.unusedSimpArgs false
namespace Go.Proofs.Ytijgeonhbmgikaa.EORatioField
open Go.RowKit Go.Proofs.Ytijgeonhbmgikaa.PORatioField Go.Proofs.YtijgeonhbmgikaaN Go.Proofs.YtijgeonhbmgikaaW.PrintWords Go.Proofs.YtijgeonhbmgikaaW.PrintLast Go.Proofs.YtijgeonhbmgikaaW.PrintMore
theorem H_B : H < B := by rw [H_eq, B_eq]; decide
theorem jIS {x y t c : Int} (hx : 0 ≤ x ∧ x < H) (hy : 0 ≤ y ∧ y < H) (ht : 0 ≤ t ∧ t < H) (hc : 0 ≤ c ∧ c < H) : (0 ≤ x * y ∧ x * y < B) ∧ (0 ≤ t + x * y ∧ t + x * y < B) ∧ (0 ≤ t + x * y + c ∧ t + x * y + c < B) ∧ (0 ≤ (t + x * y + c) % H ∧ (t + x * y + c) % H < H) ∧ (0 ≤ (t + x * y + c) / H ∧ (t + x * y + c) / H < H) ∧ (t + x * y + c) % H + H * ((t + x * y + c) / H) = t + x * y + c := by
 have h1 : x * y ≤ (H - 1) * (H - 1) := Int.mul_le_mul (by omega) (by omega) hy.1 (by have := jBB; omega)
 have h0 : 0 ≤ x * y := Int.mul_nonneg hx.1 hy.1
 rw [H_eq] at *
 rw [B_eq]
 generalize x * y = z at *
 omega
theorem getD_set_ne {l : List Int} {i j : Nat} {v : Int} (h : i ≠ j) : (l.set i v).getD j 0 = l.getD j 0 := by
 rw [List.getD_eq_getElem?_getD, List.getD_eq_getElem?_getD, List.getElem?_set_ne h]
theorem jHA {y out : List Int} {i k : Nat} {xi c s c' : Int} (hl : i + k < out.length) (hs : s + H * c' = out.getD (i + k) 0 + xi * y.getD k 0 + c) : hval (out.set (i + k) s) + H ^ (i + (k + 1)) * (c' + xi * hval (y.drop (k + 1))) = hval out + H ^ (i + k) * (c + xi * hval (y.drop k)) := by
 have e : c + xi * hval (y.drop k) = (s - out.getD (i + k) 0) + H * (c' + xi * hval (y.drop (k + 1))) := by
  rw [jAX y k, Int.mul_add, Int.mul_add, ← Int.mul_assoc xi H, Int.mul_comm xi H, Int.mul_assoc H xi]
  omega
 rw [jEv hl, e, show i + (k + 1) = i + k + 1 from by omega, jAc, Int.mul_add (H ^ (i + k)), Int.mul_assoc, Int.add_assoc]
theorem jHB {x y out : List Int} {i k : Nat} {c : Int} (hxl : x.length ≤ 8589934590) (hyl : y.length ≤ 8589934590) (hi : i < x.length) (hk : k ≤ y.length) (hol : out.length = x.length + y.length + 1) (hxi : 0 ≤ x.getD i 0 ∧ x.getD i 0 < H) (hyk : 0 ≤ y.getD k 0 ∧ y.getD k 0 < H) (ho : 0 ≤ out.getD (i + k) 0 ∧ out.getD (i + k) 0 < H) (hc : 0 ≤ c ∧ c < H) (hgo : k < y.length ∨ 0 < c) :
  ∃ s c', (0 ≤ s ∧ s < H) ∧ (0 ≤ c' ∧ c' < H) ∧ s + H * c' = out.getD (i + k) 0 + x.getD i 0 * y.getD k 0 + c ∧ ∀ f, jF.l2 (f + 1) x y out i c k = jF.l2 f x y (out.set (i + k) s) i c' ((k + 1 : Nat) : Int) := by
 have hA : wrap64 ((i : Int) + (k : Int)) = ((i + k : Nat) : Int) ∧ wrap64 ((k : Int) + 1) = ((k + 1 : Nat) : Int) ∧ (0 : Int) ≤ ((i + k : Nat) : Int) ∧ ((i + k : Nat) : Int) < (out.length : Int) ∧ (0 : Int) ≤ (i : Int) ∧ (i : Int) < (x.length : Int) := by
  clear hxi hyk ho hc hgo
  refine ⟨by rw [w64 (by omega)]; omega, by rw [w64 (by omega)]; omega, by omega, by omega, by omega, by omega⟩
 obtain ⟨hw, hw1, c1, c2, c3, c4⟩ := hA
 have c5 : (k : Int) < (y.length : Int) ∨ (¬ (k : Int) < (y.length : Int) ∧ c > 0) := by
  clear hxi hyk ho hc
  by_cases h : k < y.length
  ·
   exact .inl (Int.ofNat_lt.2 h)
  ·
   exact .inr ⟨fun h' => h (Int.ofNat_lt.1 h'), hgo.resolve_left h⟩
 obtain ⟨m1, m2, m3, m4, m5, m6⟩ := jIS hxi hyk ho hc
 refine ⟨_, _, m4, m5, m6, fun f => ?_⟩
 have n1 := u64n m1
 have n2 := u64n m2
 have n3 := u64n m3
 have n5 : IntKind.u64.wrap ((out.getD (i + k) 0 + x.getD i 0 * y.getD k 0 + c) / H) = (out.getD (i + k) 0 + x.getD i 0 * y.getD k 0 + c) / H := u64n ⟨m5.1, Int.lt_trans m5.2 H_B⟩
 have p3 := m3.1
 clear m1 m2 m3 m4 m5 m6 hxi hyk ho hc hgo
 rw [H_eq] at n5 ⊢
 simp only [jF.l2, hw, hw1, qW, at_eq, zi, Int.toNat_natCast, n1, n2, n3, jCD p3, jCE p3, n5]
 rcases c5 with c5 | ⟨c5, c6⟩
 ·
  rw [if_pos c5, if_pos c1, if_pos c2, if_pos c3, if_pos c4]
 ·
  rw [if_neg c5, if_pos c6, if_pos c1, if_pos c2, if_pos c3, if_pos c4]
theorem jEj {x y out : List Int} {i k : Nat} (hxl : x.length ≤ 8589934590) (hi : i < x.length) (hk : y.length ≤ k) (f : Nat) : jF.l2 (f + 1) x y out i 0 k = jF.l1 f x y out ((i + 1 : Nat) : Int) := by
 have hw : wrap64 ((i : Int) + 1) = ((i + 1 : Nat) : Int) := by rw [w64 (by omega)]; omega
 have c1 : ¬ (k : Int) < (y.length : Int) := by omega
 have c2 : ¬ (0 : Int) > 0 := by omega
 simp only [jF.l2, hw]
 rw [if_neg c1, if_neg c2]
theorem jHC (x y : List Int) (hx : OkH x) (hy : OkH y) (hxl : x.length ≤ 8589934590) (hyl : y.length ≤ 8589934590) (i : Nat) (hi : i < x.length) : ∀ (d : Nat) (out : List Int) (c : Int) (k : Nat), y.length + 1 - k = d → OkH out → out.length = x.length + y.length + 1 → (0 ≤ c ∧ c < H) → k ≤ y.length + 1 → (∀ m, i + max k y.length ≤ m → out.getD m 0 = 0) → (k = y.length + 1 → c = 0) →
  ∃ o, OkH o ∧ o.length = x.length + y.length + 1 ∧ (∀ m, i + y.length + 1 ≤ m → o.getD m 0 = 0) ∧ hval o = hval out + H ^ (i + k) * (c + x.getD i 0 * hval (y.drop k)) ∧ ∀ res, Ev (fun f => jF.l1 f x y o ((i + 1 : Nat) : Int)) res → Ev (fun f => jF.l2 f x y out i c k) res := by
 intro d
 induction d with
 | zero =>
  intro out c k hd ho hol hc hk hz hc0
  have hk1 : k = y.length + 1 := by omega
  have := hc0 hk1
  subst this
  refine ⟨out, ho, hol, fun m hm => hz m (by omega), ?_, fun res hres => Ev.step (fun f => jEj hxl hi (by omega) f) hres⟩
  have e : y.drop k = [] := List.drop_eq_nil_of_le (by omega)
  rw [e, jAK]; simp
 | succ d ih =>
  intro out c k hd ho hol hc hk hz hc0
  by_cases hgo : k < y.length ∨ 0 < c
  ·
   have hk2 : k ≤ y.length := by
    by_cases e : k = y.length + 1
    ·
     have := hc0 e; omega
    ·
     omega
   obtain ⟨s, c', hs, hc', hsum, hstep⟩ := jHB hxl hyl hi hk2 hol (hx.at i) (hy.at k) (ho.at (i + k)) hc hgo
   have hl : i + k < out.length := by omega
   have hv := jHA hl hsum
   have hcz : k + 1 = y.length + 1 → c' = 0 := by
    intro e
    rw [hz (i + k) (by omega), getD_none (by omega : y.length ≤ k), Int.mul_zero, H_eq] at hsum
    rw [H_eq] at hc hc' hs
    clear hv hstep ih
    omega
   clear hsum
   obtain ⟨o, h1, h2, h3, h4, h5⟩ := ih (out.set (i + k) s) c' (k + 1) (by clear hv; omega) (ho.set _ hs.1 hs.2) (by rw [List.length_set]; exact hol) hc' (by clear hv; omega) (fun m hm => by clear hv; rw [getD_set_ne (by omega)]; exact hz m (by omega)) hcz
   exact ⟨o, h1, h2, h3, h4.trans hv, fun res hres => Ev.step hstep (h5 res hres)⟩
  ·
   have hcz : c = 0 := by omega
   subst hcz
   refine ⟨out, ho, hol, fun m hm => hz m (by omega), ?_, fun res hres => Ev.step (fun f => jEj hxl hi (by omega) f) hres⟩
   have e : y.drop k = [] := List.drop_eq_nil_of_le (by omega)
   rw [e, jAK]; simp
theorem jFl (x y : List Int) (hx : OkH x) (hy : OkH y) (hxl : x.length ≤ 8589934590) (hyl : y.length ≤ 8589934590) : ∀ (d : Nat) (out : List Int) (i : Nat), x.length - i = d → i ≤ x.length → OkH out → out.length = x.length + y.length + 1 → (∀ m, i + y.length ≤ m → out.getD m 0 = 0) →
  Ev (fun f => jF.l1 f x y out i) (dg (hval out + H ^ i * (hval (x.drop i) * hval y))) := by
 intro d
 induction d with
 | zero =>
  intro out i hd hi ho hol hz
  have e : x.drop i = [] := List.drop_eq_nil_of_le (by omega)
  refine Ev.step (f := fun f => (jM.f f out).bind fun t => some t) (fun f => by simp only [jF.l1]; rw [if_neg (by omega)]) ?_
  rw [e, jAK]
  simp only [Int.zero_mul, Int.mul_zero, Int.add_zero]
  exact Ev.bind (jBd ho (by omega)) (Ev.now _)
 | succ d ih =>
  intro out i hd hi ho hol hz
  obtain ⟨o, h1, h2, h3, h4, h5⟩ := jHC x y hx hy hxl hyl i (by omega) (y.length + 1) out 0 0 (by omega) ho hol ⟨Int.le_refl _, jBB⟩ (by omega) (fun m hm => hz m (by omega)) (fun _ => rfl)
  refine Ev.step (f := fun f => jF.l2 f x y out i 0 0) (fun f => by simp only [jF.l1]; rw [if_pos (by omega)]) (h5 _ ?_)
  have := ih o (i + 1) (by omega) (by omega) h1 h2 (fun m hm => h3 m (by omega))
  have e : hval out + H ^ i * (hval (x.drop i) * hval y) = hval o + H ^ (i + 1) * (hval (x.drop (i + 1)) * hval y) := by
   rw [h4, jAX x i, List.drop_zero, show i + 0 = i from rfl, Int.zero_add, jAc, Int.add_mul, Int.mul_add, Int.mul_assoc H, Int.mul_assoc (H ^ i) H, Int.add_assoc]
  rw [e]
  exact this
theorem jFk (x y : List Int) (hxl : x.length ≤ 8589934590) (hyl : y.length ≤ 8589934590) (res : List Int) (h : Ev (fun f => jF.l1 f x y (List.replicate (x.length + y.length + 1) 0) 0) res) : ∀ (d i : Nat), x.length + y.length + 1 - i = d → i ≤ x.length + y.length + 1 → Ev (fun f => jF.l0 f x y (List.replicate i 0) i) res := by
 have hw : wrap64 (wrap64 ((x.length : Int) + (y.length : Int)) + 1) = ((x.length + y.length + 1 : Nat) : Int) := by
  rw [w64 (x := (x.length : Int) + (y.length : Int)) (by omega), w64 (by omega)]
  omega
 intro d
 induction d with
 | zero =>
  intro i hd hi
  have e : i = x.length + y.length + 1 := by omega
  subst e
  exact Ev.step (fun f => by simp only [jF.l0, hw]; rw [if_neg (by omega)]) h
 | succ d ih =>
  intro i hd hi
  refine Ev.step (fun f => ?_) (ih (i + 1) (by omega) (by omega))
  simp only [jF.l0, hw]
  rw [if_pos (by omega), if_pos (by simp; omega), w64 (by omega), show (i : Int) + 1 = ((i + 1 : Nat) : Int) from by omega, List.replicate_succ']
theorem jEK {a b : List Int} (ha : Ok a) (hb : Ok b) (hal : a.length ≤ 4294967295) (hbl : b.length ≤ 4294967295) : Ev (fun k => jF.f k a b) (dg (val a * val b)) := by
 unfold jF.f
 have l1 := jAk a
 have l2 := jAk b
 refine Ev.bind (jAo ha (by omega)) (Ev.bind (jAo hb (by omega)) ?_)
 have h := jFl (halves a) (halves b) (jAm ha) (jAm hb) (by omega) (by omega) _ (List.replicate ((halves a).length + (halves b).length + 1) 0) 0 rfl (by omega) (OkH.rep _) (by simp) (fun m _ => by rw [List.getD_eq_getElem?_getD, List.getElem?_replicate]; split <;> rfl)
 simp only [jDR, List.drop_zero, jAY, Int.pow_zero, Int.one_mul, Int.zero_add] at h
 exact jFk (halves a) (halves b) (by omega) (by omega) _ h _ 0 rfl (by omega)
end Go.Proofs.Ytijgeonhbmgikaa.EORatioField
end
section
set_option linter.unusedVariables false
set_option linter.unusedSimpArgs false
namespace Go.Proofs.Ytijgeonhbmgikaa.EORatioField
open Go.RowKit Go.Proofs.Ytijgeonhbmgikaa.PORatioField Go.Proofs.YtijgeonhbmgikaaN Go.Proofs.YtijgeonhbmgikaaW.PrintWords Go.Proofs.YtijgeonhbmgikaaW.PrintLast Go.Proofs.YtijgeonhbmgikaaW.PrintMore
theorem jHo {n : Int} (h : 0 ≤ n ∧ n < B) : Ev (fun k => zN.f k n) (dg n) := by
 have := jCF (Ok.one h.1 h.2) (show [n].length < 17592186044416 from by simp)
 rw [val_one] at this
 exact Ev.bind this (Ev.now _)
end Go.Proofs.Ytijgeonhbmgikaa.EORatioField
end
section
set_option linter.unusedVariables false
set_option linter.unusedSimpArgs false
namespace Go.Proofs.Ytijgeonhbmgikaa.EORatioField
open Go.RowKit Go.Proofs.Ytijgeonhbmgikaa.PORatioField Go.Proofs.YtijgeonhbmgikaaN Go.Proofs.YtijgeonhbmgikaaW.PrintWords Go.Proofs.YtijgeonhbmgikaaW.PrintLast Go.Proofs.YtijgeonhbmgikaaW.PrintMore
def divd (a b : List Int) : List Int × List Int × Int := if Held a ∧ Held b then (if val b = 0 then ([], [], 30) else (dg (val a / val b), dg (val a % val b), 0)) else ([], [], 1)
def jFe (a : List Int) (n : Int) : List Int × Int × Int := if Held a then (if n = 0 then ([], 0, 30) else (dg (val a / n), val a % n, 0)) else ([], 0, 1)
theorem jGb {q : List Int} (hq : Ok q) {j : Nat} (h : val (q.take (j + 1)) = 0) : val (q.take j) = 0 ∧ (j < q.length → q.getD j 0 = 0) := by
 by_cases hj : j < q.length
 ·
  rw [jAi hj] at h
  have h1 := jq (hq.take j)
  have h2 := Int.mul_nonneg (Int.le_of_lt (qL j)) (hq.at j).1
  refine ⟨by omega, fun _ => ?_⟩
  rcases Int.mul_eq_zero.1 (show B ^ j * q.getD j 0 = 0 by omega) with h3 | h3
  ·
   have := qL j; omega
  ·
   exact h3
 ·
  rw [List.take_of_length_le (by omega)] at h
  rw [List.take_of_length_le (by omega)]
  exact ⟨h, fun h' => absurd h' hj⟩
theorem jGU {P r q r' a n T : Int} (hn : 0 < n) (h : r * B + a = n * q + r') (P0 : 0 ≤ P) : (r * (P * B) + (T + P * a)) / n = P * q + (r' * P + T) / n ∧ (r * (P * B) + (T + P * a)) % n = (r' * P + T) % n := by
 have e : r * (P * B) + (T + P * a) = (r' * P + T) + n * (P * q) := by
  have h1 : P * (r * B + a) = P * (n * q + r') := by rw [h]
  rw [Int.mul_add, Int.mul_add] at h1
  have h2 : r * (P * B) = P * (r * B) := by rw [← Int.mul_assoc, Int.mul_comm r P, Int.mul_assoc]
  have h3 : n * (P * q) = P * (n * q) := by rw [← Int.mul_assoc, Int.mul_comm n P, Int.mul_assoc]
  rw [h2, h3, Int.mul_comm r' P]
  omega
 rw [e]
 constructor
 ·
  rw [Int.add_mul_ediv_left _ _ (Int.ne_of_gt hn)]; omega
 ·
  rw [Int.add_mul_emod_self_left]
theorem jGw {a : List Int} (ha : Ok a) (hal : a.length ≤ 1000) {n : Int} (h0 : 0 < n) (hnB : n < B) : ∀ (j : Nat) (q : List Int) (r : Int), j ≤ a.length → q.length = a.length → Ok q → val (q.take j) = 0 → (0 ≤ r ∧ r < n) → Ev (fun k => vO.l0 k a n q r ((j : Int) - 1)) (dg (val q + (r * B ^ j + val (a.take j)) / n), (r * B ^ j + val (a.take j)) % n, 0) := by
 intro j
 induction j with
 | zero =>
  intro q r hj hql hq hz hr
  refine Ev.step (fun k => by rw [vO.l0]) (Ev.neg (by omega) (Ev.bind (jBP hq (by omega)) (Ev.eq (Ev.now _) ?_)))
  rw [List.take_zero, ql, Int.pow_zero, Int.mul_one, Int.add_zero, Int.ediv_eq_zero_of_lt hr.1 hr.2, Int.emod_eq_of_lt hr.1 hr.2, Int.add_zero]
 | succ j ih =>
  intro q r hj hql hq hz hr
  obtain ⟨hz1, hz2⟩ := jGb hq hz
  have hj1 : j < q.length := by omega
  have hzj := hz2 hj1
  have haj := ha.at j
  have e : (((j + 1 : Nat) : Int) - 1) = (j : Int) := by omega
  have hd := jFD hr.1 hr.2 haj hnB
  have hlt := jFC hr.1 hr.2 haj
  have hge : 0 ≤ (r * B + a.getD j 0) / n := Int.ediv_nonneg (by have := Int.mul_nonneg hr.1 (Int.le_of_lt jBD); omega) (by omega)
  have hm0 := Int.emod_nonneg (r * B + a.getD j 0) (Int.ne_of_gt h0)
  have hm1 := Int.emod_lt_of_pos (r * B + a.getD j 0) h0
  have hdm := Int.mul_ediv_add_emod (r * B + a.getD j 0) n
  rw [e]
  refine Ev.step (fun k => by rw [vO.l0, qW]) (Ev.pos (by omega) (Ev.pos (by omega) (Ev.pos (by omega) (Ev.bind hd ?_))))
  refine Ev.pos (c := (j : Int) < (q.length : Int)) (by omega) ?_
  rw [w64 (by omega), Int.toNat_natCast]
  have hq' := hq.set j hge hlt
  have hv : val (q.set j ((r * B + a.getD j 0) / n)) = val q + B ^ j * ((r * B + a.getD j 0) / n) := by rw [jBG hj1, hzj, Int.sub_zero]
  have ht : val ((q.set j ((r * B + a.getD j 0) / n)).take j) = 0 := by rw [List.take_set_of_le (Nat.le_refl j)]; exact hz1
  refine Ev.eq (ih _ _ (by omega) (by rw [List.length_set]; exact hql) hq' ht ⟨hm0, hm1⟩) ?_
  have hja : j < a.length := by omega
  obtain ⟨c1, c2⟩ := jGU (P := B ^ j) (T := val (a.take j)) h0 hdm.symm (Int.le_of_lt (qL j))
  rw [hv, jAi hja, qD, c1, c2, Int.add_assoc]
theorem jGx {a : List Int} (ha : Ok a) {n : Int} (h0 : 0 ≤ n) (hnB : n < B) : Ev (fun k => vO.f k a n) (jFe a n) := by
 unfold vO.f jFe
 refine Ev.vU (jCV a) ?_
 by_cases hh : Held a
 ·
  rw [if_pos hh]
  refine Ev.pos (decide_eq_true hh) ?_
  by_cases hn : n = 0
  ·
   rw [if_pos hn]; exact Ev.pos hn (Ev.now _)
  ·
   rw [if_neg hn]
   have hl := hh.1
   refine Ev.neg hn (Ev.pos (by omega) (Ev.pos (by omega) ?_))
   rw [Int.toNat_natCast, w64 (by omega)]
   have := jGw ha (by omega) (by omega) hnB a.length (List.replicate a.length 0) 0 (Nat.le_refl _) List.length_replicate (Ok.rep _) (by rw [List.take_of_length_le (by simp)]; exact jAt _) ⟨Int.le_refl _, by omega⟩
   rw [jAt, List.take_length, Int.zero_mul, Int.zero_add, Int.zero_add] at this
   exact this
 ·
  rw [if_neg hh]
  exact Ev.neg (by simpa using hh) (Ev.now _)
theorem jEI {l : List Int} {i : Nat} (x : List Int) (h : i ≤ l.length) : (Go.splice l i x).take i = l.take i := by
 unfold Go.splice
 rw [List.take_append_of_le_length (by rw [List.length_take]; omega), List.take_take, Nat.min_self]
theorem jEJ {l : List Int} {i : Nat} (x : List Int) (h : i ≤ l.length) : (Go.splice l i x).drop i = x ++ l.drop (i + x.length) := by
 unfold Go.splice
 rw [List.drop_append_of_le_length (by rw [List.length_take]; omega), List.drop_eq_nil_of_le (by rw [List.length_take]; omega), List.nil_append]
theorem jFd {l x : List Int} {i : Nat} (hl : Ok l) (hx : Ok x) : Ok (Go.splice l i x) := by
 unfold Go.splice
 exact (hl.take _).append (hx.append (hl.drop _))
theorem drop_zero {l : List Int} (hl : Ok l) {n : Nat} (h : val l < B ^ n) (hn : n ≤ l.length) : val (l.drop n) = 0 := by
 have e := zG l n hn
 have h1 := jq (hl.take n)
 have h2 := jq (hl.drop n)
 rcases Int.lt_or_le 0 (val (l.drop n)) with h3 | h3
 ·
  have : B ^ n * 1 ≤ B ^ n * val (l.drop n) := Int.mul_le_mul_of_nonneg_left (by omega) (Int.le_of_lt (qL n))
  omega
 ·
  omega
theorem jIr {u q : List Int} (hu : Ok u) (hul : u.length ≤ 1000) (hq : Ok q) (hql : q.length ≤ 1000) {V : Int} (hV : val u < V) {s : Nat} (hs : s ≤ 63) : Ev (fun k => (vP.f k q).bind fun t => (jK.f k u (wrap64 (-(s : Int)))).bind fun r => some (t, r, (0 : Int))) (dg ((val u + V * val q) / V), dg ((val u + V * val q) % V / 2 ^ s), 0) := by
 have h0 := jq hu
 have hVp : 0 < V := by omega
 rw [Int.add_mul_ediv_left _ _ (Int.ne_of_gt hVp), Int.add_mul_emod_self_left, Int.ediv_eq_zero_of_lt h0 hV, Int.emod_eq_of_lt h0 hV, Int.zero_add, w64 (by omega)]
 refine Ev.bind (jBP hq (by omega)) ?_
 have hsh : Ev (fun k => jK.f k u (-(s : Int))) (dg (val u / 2 ^ s)) := by
  by_cases hz : s = 0
  ·
   subst hz
   have := jCP hu (by omega) (n := 0) (Int.le_refl _)
   simpa using this
  ·
   have := jFg hu (by omega) (n := -(s : Int)) (by omega)
   rw [show (-(-(s : Int))).toNat = s from by omega] at this
   exact this
 exact Ev.bind hsh (Ev.now _)
theorem jFb {u W : List Int} {j n : Nat} (h : j + n + 1 ≤ u.length) (hW : (u.take (j + n + 1)).drop j = W) : W.length = n + 1 ∧ u.drop j = W ++ u.drop (j + (n + 1)) := by
 constructor
 ·
  rw [← hW, List.length_drop, List.length_take]; omega
 ·
  rw [← hW, List.drop_take, ← List.drop_drop, show j + n + 1 - j = n + 1 from by omega, List.take_append_drop]
theorem jJR {x y : Int} (hy : 0 < y) (hx : 0 ≤ x) : x % y ≤ x := by
 have h1 := Int.mul_nonneg (Int.le_of_lt hy) (Int.ediv_nonneg hx (Int.le_of_lt hy))
 have h2 := Int.mul_ediv_add_emod x y
 omega
theorem jJb {j n m : Nat} (h : j + n + 1 ≤ m) (hm : m ≤ 900) : mn (wrap64 (wrap64 ((j : Int) + (n : Int)) + 1)) (m : Int) = ((j + n + 1 : Nat) : Int) := by
 rw [w64 (x := (j : Int) + (n : Int)) (by omega), w64 (by omega)]
 unfold mn
 split <;> omega
theorem jIp {u v q : List Int} {s : Int} {j : Nat} (hmn : mn (wrap64 (wrap64 ((j : Int) + (v.length : Int)) + 1)) (u.length : Int) = ((j + v.length + 1 : Nat) : Int)) (hj : j < q.length) (hu : j + v.length + 1 ≤ u.length) (hq : q.length ≤ 1000) (k : Nat) : jy.l0 (k + 1) s u v q (j : Int) = (je.f k ((u.take (j + v.length + 1)).drop j) v).bind fun t => jy.l0 k s (Go.splice u j t.2) v (q.set j t.1) ((j : Int) - 1) := by
 have c0 : (j : Int) ≥ 0 := by omega
 have c1 : (0 : Int) ≤ (j : Int) := by omega
 have c2 : (j : Int) ≤ ((j + v.length + 1 : Nat) : Int) := by omega
 have c3 : ((j + v.length + 1 : Nat) : Int) ≤ (u.length : Int) := by omega
 have c4 : (j : Int) < (q.length : Int) := by omega
 have hw : wrap64 ((j : Int) - 1) = (j : Int) - 1 := w64 (by omega)
 rw [jy.l0, hmn, if_pos c0, if_pos c1, if_pos c2, if_pos c3]
 simp only [if_pos c4, Int.toNat_natCast, hw]
theorem jIq {v : List Int} (hv : Ok v) (hvl : v.length ≤ 900) (hv0 : 0 < v.length) (hvt : 0 < v.getD (v.length - 1) 0) {s : Nat} (hs : s ≤ 63) : ∀ (j : Nat) (u q : List Int), j = j → Ok u → Ok q → u.length ≤ 900 → q.length + v.length = u.length → j ≤ q.length → val (q.take j) = 0 → val (u.drop j) < val v → Ev (fun k => jy.l0 k (s : Int) u v q ((j : Int) - 1)) (dg ((val u + val v * val q) / val v), dg ((val u + val v * val q) % val v / 2 ^ s), 0) := by
 intro j
 induction j with
 | zero =>
  intro u q _ hu hq hul hl hj hz hlt
  refine Ev.step (fun k => by rw [jy.l0]) (Ev.neg (by omega) ?_)
  exact jIr hu (by omega) hq (by omega) (by simpa using hlt) hs
 | succ j ih =>
  intro u q _ hu hq hul hl hj hz hlt
  obtain ⟨hz1, hz2⟩ := jGb hq hz
  have hj1 : j < q.length := by omega
  have hzj := hz2 hj1
  have hju : j < u.length := by omega
  have e : (((j + 1 : Nat) : Int) - 1) = (j : Int) := by omega
  have hu1 : j + v.length + 1 ≤ u.length := by omega
  have hstp := jIp (s := (s : Int)) (jJb hu1 hul) hj1 hu1 (by omega)
  have hV0 := jq hv
  have hwd : ∃ W, (u.take (j + v.length + 1)).drop j = W := ⟨_, rfl⟩
  obtain ⟨W, hW⟩ := hwd
  obtain ⟨hWl, hWd⟩ := jFb (u := u) (j := j) (n := v.length) (by omega) hW
  have hWo : Ok W := by rw [← hW]; exact (hu.take _).drop _
  have hup := drop_zero (hu.drop (j + 1)) (n := v.length) (Int.lt_trans hlt (jAH hv)) (by rw [List.length_drop]; omega)
  rw [List.drop_drop, show j + 1 + v.length = j + (v.length + 1) from by omega] at hup
  have hWv : val W = val (u.drop j) := by rw [hWd, val_append, hup, Int.mul_zero, Int.add_zero]
  have hWlt : val W < val v * B := by
   rw [hWv, qm hju]
   have h1 := (hu.at j).2
   have h2 : B * (val (u.drop (j + 1)) + 1) ≤ B * val v := Int.mul_le_mul_of_nonneg_left (by omega) (Int.le_of_lt jBD)
   rw [Int.mul_add, Int.mul_comm B (val v)] at h2
   omega
  have hd := jHc hWo hv hWl hvl hv0 hvt hWlt
  have hVpos : 0 < val v := by
   rcases Int.lt_or_le 0 (val v) with h | h
   ·
    exact h
   ·
    have h0 : val v = 0 := by omega
    rw [h0, Int.zero_mul] at hWlt
    have := jq hWo
    omega
  have hQ0 : 0 ≤ val W / val v := Int.ediv_nonneg (jq hWo) hV0
  have hQB : val W / val v < B := Int.ediv_lt_of_lt_mul hVpos (by rw [Int.mul_comm]; exact hWlt)
  have hR0 := Int.emod_nonneg (val W) (Int.ne_of_gt hVpos)
  have hR1 := Int.emod_lt_of_pos (val W) hVpos
  have hpl : (jDN W.length (dg (val W % val v))).length = W.length := jFv (qN (Int.lt_of_le_of_lt (jJR hVpos (jq hWo)) (jAH hWo)))
  rw [e]
  rw [hW] at hstp
  refine Ev.step hstp (Ev.bind hd ?_)
  generalize hP : jDN W.length (dg (val W % val v)) = P at hpl
  have hPv : val P = val W % val v := by rw [← hP, jFu, qM hR0]
  have hPo : Ok P := by rw [← hP]; exact jHN (zy _)
  have hu' : Ok (Go.splice u j P) := jFd hu hPo
  have hul' : (Go.splice u j P).length = u.length := Go.length_splice u j P (by omega)
  have hdr : val ((Go.splice u j P).drop j) = val W % val v := by
   rw [jEJ P (by omega), val_append, hPv, hpl, hWl, hup, Int.mul_zero, Int.add_zero]
  have hval' : val (Go.splice u j P) + B ^ j * (val v * (val W / val v)) = val u := by
   have e1 := zG (Go.splice u j P) j (by omega)
   have e2 := zG u j (by omega)
   rw [jEI P (by omega), hdr] at e1
   rw [e1, e2, ← hWv, Int.add_assoc, ← Int.mul_add, Int.add_comm (val W % val v), Int.mul_ediv_add_emod]
  have hv' : val (q.set j (val W / val v)) = val q + B ^ j * (val W / val v) := by rw [jBG hj1, hzj, Int.sub_zero]
  have ht : val ((q.set j (val W / val v)).take j) = 0 := by rw [List.take_set_of_le (Nat.le_refl j)]; exact hz1
  have hfin : val (Go.splice u j P) + val v * val (q.set j (val W / val v)) = val u + val v * val q := by
   rw [hv', Int.mul_add, ← hval', ← Int.mul_assoc (val v), Int.mul_comm (val v) (B ^ j), Int.mul_assoc (B ^ j)]
   omega
  have := ih (Go.splice u j P) (q.set j (val W / val v)) rfl hu' (hq.set j hQ0 hQB) (by omega) (by rw [List.length_set]; omega) (by rw [List.length_set]; omega) ht (by rw [hdr]; exact hR1)
  rw [hfin] at this
  exact this
theorem jGM {a b : List Int} (ha : Ok a) (hb : Ok b) : Ev (fun k => jy.f k a b) (divd a b) := by
 unfold jy.f divd
 refine Ev.vU (jCV a) ?_
 by_cases hha : Held a
 ·
  by_cases hhb : Held b
  ·
   rw [if_pos ⟨hha, hhb⟩]
   refine Ev.pos (decide_eq_true hha) (Ev.vU (jCV b) ?_)
   rw [decide_eq_true hhb]
   refine Ev.step (fun k => by rw [jy.j0]) (Ev.neg (by simp) ?_)
   have hal := hha.1
   have hbl := hhb.1
   have ha0 := jq ha
   have hb0 := jq hb
   by_cases h0 : b.length = 0
   ·
    have hbn : b = [] := List.eq_nil_of_length_eq_zero h0
    subst hbn
    rw [if_pos ql]
    exact Ev.pos (by simp) (Ev.now _)
   ·
    have hbt : b.getD (b.length - 1) 0 ≠ 0 := by
     rcases hhb.2 with h | h
     ·
      subst h; simp at h0
     ·
      exact h
    have hbtp : 0 < b.getD (b.length - 1) 0 := by have := (hb.at (b.length - 1)).1; omega
    have hbv : 0 < val b := by
     have e := zG b (b.length - 1) (by omega)
     rw [qm (by omega), List.drop_eq_nil_of_le (by omega), ql, Int.mul_zero, Int.add_zero] at e
     have h1 := jq (hb.take (b.length - 1))
     have h2 := Int.mul_pos (qL (b.length - 1)) hbtp
     omega
    rw [if_neg (Int.ne_of_gt hbv)]
    refine Ev.neg (by omega) ?_
    by_cases h1 : b.length = 1
    ·
     obtain ⟨b0, hb1⟩ : ∃ b0, b = [b0] := by
      match b, h1 with
      | [b0], _ => exact ⟨b0, rfl⟩
     subst hb1
     have hbo := hb.at 0
     have hs := jGx ha (n := b0) hbo.1 hbo.2
     have hbz : b0 ≠ 0 := hbt
     unfold jFe at hs
     rw [if_pos hha, if_neg hbz] at hs
     have hb0' : 0 < b0 := by have := hbo.1; have e : [b0].getD 0 0 = b0 := rfl; rw [e] at this; omega
     have hm0 := Int.emod_nonneg (val a) hbz
     have hm1 := Int.emod_lt_of_pos (val a) hb0'
     have hbB : b0 < B := hbo.2
     refine Ev.pos (by simp) (Ev.pos (by simp) (Ev.bind hs (Ev.vU (of_eq (n := val a % b0) ⟨hm0, by omega⟩) (Ev.eq (Ev.now _) ?_))))
     rw [val_one]
    ·
     refine Ev.neg (by omega) (Ev.bind (jFI ha hb (by omega) (by omega)) ?_)
     by_cases hc : val a < val b
     ·
      refine Ev.pos (jAa.2 hc) (Ev.bind (jBP ha (by omega)) (Ev.eq (Ev.now _) ?_))
      rw [Int.ediv_eq_zero_of_lt ha0 hc, Int.emod_eq_of_lt ha0 hc, jAe]
     ·
      refine Ev.neg (fun h => hc (jAa.1 h)) ?_
      have hwl : wrap64 ((b.length : Int) - 1) = ((b.length - 1 : Nat) : Int) := by rw [w64 (by omega)]; omega
      rw [hwl, qW]
      refine Ev.pos (by omega) (Ev.pos (by omega) ?_)
      obtain ⟨s, hs, he, _, _, _⟩ := jGF hbtp (hb.at _).2
      refine Ev.vU he ?_
      have hp := two_pos s
      have hsa := jCP ha (by omega) (n := (s : Int)) (by omega)
      have hsb := jCP hb (by omega) (n := (s : Int)) (by omega)
      rw [Int.toNat_natCast, Nat.min_eq_left (by omega)] at hsa hsb
      have hUV : val b * 2 ^ s ≤ val a * 2 ^ s := Int.mul_le_mul_of_nonneg_right (by omega) (Int.le_of_lt hp)
      have hVp : 0 < val b * 2 ^ s := Int.mul_pos hbv hp
      have hB2 : (2 : Int) ^ s ≤ B := jBe (by omega)
      have hlenU : (dg (val a * 2 ^ s)).length ≤ 9 := by
       refine qN ?_
       have h1 := jAH ha
       have h2 := qx hal
       have h3 : val a * 2 ^ s ≤ val a * B := Int.mul_le_mul_of_nonneg_left hB2 ha0
       have h4 : val a * B < B ^ 8 * B := Int.mul_lt_mul_of_pos_right (by omega) jBD
       rw [qD]
       omega
      have hlenV : (dg (val b * 2 ^ s)).length ≤ (dg (val a * 2 ^ s)).length := by
       refine qN ?_
       have := jGE (n := val a * 2 ^ s) (Nat.le_refl _)
       omega
      have hV0 : 0 < (dg (val b * 2 ^ s)).length := by
       rcases Nat.eq_zero_or_pos (dg (val b * 2 ^ s)).length with h | h
       ·
        have := (jDA (Int.le_of_lt hVp)).1 (List.eq_nil_of_length_eq_zero h)
        omega
       ·
        exact h
      have hvt : 0 < (dg (val b * 2 ^ s)).getD ((dg (val b * 2 ^ s)).length - 1) 0 := by
       rcases jEW (val b * 2 ^ s) with h | h
       ·
        rw [h] at hV0; simp at hV0
       ·
        have := ((zy (val b * 2 ^ s)).at ((dg (val b * 2 ^ s)).length - 1)).1; omega
      refine Ev.bind hsa ?_
      refine Ev.zi (Ev.pos (by simp; omega) (Ev.zi (Ev.bind hsb ?_)))
      have hvv := qM (Int.le_of_lt hVp)
      have huv := qM (n := val a * 2 ^ s) (by omega)
      have huo := zy (val a * 2 ^ s)
      have hvo := zy (val b * 2 ^ s)
      have hVlow := (jEW (val b * 2 ^ s))
      generalize hU : dg (val a * 2 ^ s) = U at *
      generalize hV : dg (val b * 2 ^ s) = V at *
      have hul2 : (U ++ [0, 0]).length = U.length + 2 := by simp
      have hwq : wrap64 (((U ++ [0, 0]).length : Int) - (V.length : Int)) = ((U.length + 2 - V.length : Nat) : Int) := by rw [w64 (by omega)]; omega
      rw [hwq, Int.toNat_natCast]
      refine Ev.pos (by omega) (Ev.pos (by omega) (Ev.zi ?_))
      rw [List.length_replicate, w64 (by omega)]
      have huo2 : Ok (U ++ [0, 0]) := huo.append (by decide)
      have huv2 : val (U ++ [0, 0]) = val a * 2 ^ s := by rw [val_append, huv]; simp [val]
      have hlow : B ^ (V.length - 1) ≤ val V := by
       have e := zG V (V.length - 1) (by omega)
       rw [qm (by omega), List.drop_eq_nil_of_le (by omega), ql, Int.mul_zero, Int.add_zero] at e
       have h1 := jq (hvo.take (V.length - 1))
       have h2 : B ^ (V.length - 1) * 1 ≤ B ^ (V.length - 1) * V.getD (V.length - 1) 0 := Int.mul_le_mul_of_nonneg_left (by omega) (Int.le_of_lt (qL _))
       omega
      have hdlt : val ((U ++ [0, 0]).drop (U.length + 2 - V.length)) < val V := by
       rcases Int.lt_or_le (val ((U ++ [0, 0]).drop (U.length + 2 - V.length))) (val V) with h | h
       ·
        exact h
       ·
        exfalso
        have e := zG (U ++ [0, 0]) (U.length + 2 - V.length) (by omega)
        have h1 := jq (huo2.take (U.length + 2 - V.length))
        have h2 : B ^ (U.length + 2 - V.length) * B ^ (V.length - 1) ≤ B ^ (U.length + 2 - V.length) * val ((U ++ [0, 0]).drop (U.length + 2 - V.length)) := Int.mul_le_mul_of_nonneg_left (by omega) (Int.le_of_lt (qL _))
        rw [← Int.pow_add, show U.length + 2 - V.length + (V.length - 1) = U.length + 1 from by omega] at h2
        have h3 := jAH huo
        have h4 := qx (show U.length ≤ U.length + 1 from by omega)
        omega
      have h := jIq hvo (by omega) hV0 hvt hs (U.length + 2 - V.length) (U ++ [0, 0]) (List.replicate (U.length + 2 - V.length) 0) rfl huo2 (Ok.rep _) (by omega) (by rw [List.length_replicate]; omega) (by rw [List.length_replicate]; exact Nat.le_refl _) (by rw [List.take_of_length_le (by simp)]; exact jAt _) hdlt
      rw [jAt, Int.mul_zero, Int.add_zero, huv2, hvv] at h
      obtain ⟨f1, f2⟩ := jFB (N := val a) (y := val b) (p := 2 ^ s) (Q := val a * 2 ^ s / (val b * 2 ^ s)) (r := val a * 2 ^ s % (val b * 2 ^ s)) hp hbv (by have := Int.mul_ediv_add_emod (val a * 2 ^ s) (val b * 2 ^ s); rw [Int.mul_comm (val b * 2 ^ s) (_ / _)] at this; exact this.symm) ⟨Int.emod_nonneg _ (Int.ne_of_gt hVp), Int.emod_lt_of_pos _ hVp⟩
      rw [f1, f2] at h
      exact h
  ·
   rw [if_neg (fun h => hhb h.2)]
   refine Ev.pos (decide_eq_true hha) (Ev.vU (jCV b) ?_)
   rw [decide_eq_false hhb]
   exact Ev.step (fun k => by rw [jy.j0]) (Ev.pos (c := (!false) = true) rfl (Ev.now _))
 ·
  rw [if_neg (fun h => hha h.1)]
  refine Ev.neg (by simpa using hha) ?_
  exact Ev.step (fun k => by rw [jy.j0]) (Ev.pos rfl (Ev.now _))
end Go.Proofs.Ytijgeonhbmgikaa.EORatioField
end
section
set_option linter.unusedVariables false
set_option linter.unusedSimpArgs false
namespace Go.Proofs.Ytijgeonhbmgikaa.EORatioField
open Go.RowKit Go.Proofs.Ytijgeonhbmgikaa.PORatioField Go.Proofs.YtijgeonhbmgikaaN Go.Proofs.YtijgeonhbmgikaaW.PrintWords Go.Proofs.YtijgeonhbmgikaaW.PrintLast Go.Proofs.YtijgeonhbmgikaaW.PrintMore
theorem jGu {r b : List Int} (hr : Ok r) (hb : Ok b) (hrl : r.length ≤ 1000) (hbl : b.length ≤ 1000) (hV : 0 < val b) : ∀ (d : Nat) (low high : Int), (high - low).toNat = d → 0 ≤ low → low < high → high ≤ H → low * val b ≤ val r → val r < high * val b → Ev (fun k => jY.l0 k r b low high) (val r / val b) := by
 intro d
 induction d using Nat.strongRecOn with
 | _ d ih =>
  intro low high hd h0 h1 h2 h3 h4
  have hH : high ≤ 4294967296 := by rw [H_eq] at h2; exact h2
  have hw1 : IntKind.u64.wrap (high - low) = high - low := jAw (by omega) (by rw [B_eq]; omega)
  have hw2 : IntKind.u64.wrap (low + high) = low + high := jAw (by omega) (by rw [B_eq]; omega)
  have hw3 : IntKind.u64.wrap (Int.tdiv (low + high) 2) = (low + high) / 2 := by rw [Int.tdiv_eq_ediv_of_nonneg (by omega)]; exact jAw (by omega) (by rw [B_eq]; omega)
  by_cases hc : high - low > 1
  ·
   have hm0 : low < (low + high) / 2 := by omega
   have hm1 : (low + high) / 2 < high := by omega
   obtain ⟨m, hm⟩ : ∃ m, (low + high) / 2 = m := ⟨_, rfl⟩
   rw [hm] at hw3 hm0 hm1
   clear hm
   have hmB : m < B := by rw [B_eq]; omega
   have rm := (Row.of hb hbl).mul (Row.of (Ok.one (x := m) (by omega) hmB) (Nat.le_refl 1)) (p := 1001) (Nat.le_refl _)
   rw [val_one] at rm
   have hmul := jEK hb (Ok.one (x := m) (by omega) hmB) (by omega) (by simp)
   rw [val_one] at hmul
   have hcmp := jEP rm.1 hr (by have := rm.2.2; omega) (by omega)
   rw [rm.2.1] at hcmp
   refine Ev.step (fun k => by rw [jY.l0, hw1, hw2, hw3]) (Ev.pos hc (Ev.bind hmul (Ev.bind hcmp ?_)))
   by_cases hq : val b * m ≤ val r
   ·
    refine Ev.pos ?_ (ih _ (by omega) m high rfl (by omega) (by omega) h2 (by rw [Int.mul_comm]; exact hq) h4)
    have := mt (jFG (x := val b * m) (y := val r)).1 (by omega)
    omega
   ·
    refine Ev.neg ?_ (ih _ (by omega) low m rfl h0 (by omega) (by omega) h3 (by rw [Int.mul_comm]; omega))
    have := (jFG (x := val b * m) (y := val r)).2 (by omega)
    omega
  ·
   have e : high = low + 1 := by omega
   subst e
   refine Ev.step (fun k => by rw [jY.l0, hw1]) (Ev.neg hc (Ev.eq (Ev.now _) ?_))
   have h5 : low ≤ val r / val b := Int.le_ediv_of_mul_le hV h3
   have h6 : val r / val b < low + 1 := Int.ediv_lt_of_lt_mul hV h4
   omega
theorem jGv {r b : List Int} (hr : Ok r) (hb : Ok b) (hrl : r.length ≤ 1000) (hbl : b.length ≤ 1000) (hV : 0 < val b) (h : val r < H * val b) : Ev (fun k => jY.f k r b) (val r / val b) := by
 have h2 : (0 : Int) * val b ≤ val r := by rw [Int.zero_mul]; exact jq hr
 exact jGu hr hb hrl hbl hV _ 0 4294967296 rfl (Int.le_refl _) (by decide) (by rw [H_eq]; decide) h2 h
theorem jHf {q : List Int} (hq : OkH q) {j : Nat} (hj : j < q.length) (h : hval (q.take (j + 1)) = 0) : hval (q.take j) = 0 ∧ q.getD j 0 = 0 := by
 have e := jBY (q.take (j + 1)) j (by rw [List.length_take]; omega)
 have hlt : j < (q.take (j + 1)).length := by rw [List.length_take]; omega
 have e2 : (q.take (j + 1)).getD j 0 = q.getD j 0 := by
  rw [List.getD_eq_getElem?_getD, List.getD_eq_getElem?_getD, List.getElem?_take_of_lt (by omega)]
 rw [jDv hlt, List.drop_eq_nil_of_le (by rw [List.length_take]; omega), jAK, Int.mul_zero, Int.add_zero, List.take_take, Nat.min_eq_left (by omega), e2, h] at e
 have h1 := jBA (hq.take j)
 have h2 := Int.mul_nonneg (Int.le_of_lt (jDe j)) (hq.at j).1
 refine ⟨by omega, ?_⟩
 rcases Int.mul_eq_zero.1 (show H ^ j * q.getD j 0 = 0 by omega) with h3 | h3
 ·
  have := jDe j; omega
 ·
  exact h3
theorem jCY {l : List Int} {i : Nat} (h : i < l.length) : hval (l.take (i + 1)) = hval (l.take i) + H ^ i * l.getD i 0 := by
 rw [List.take_succ_eq_append_getElem h, jCZ, List.length_take, Nat.min_eq_left (by omega), List.getD_eq_getElem?_getD, List.getElem?_eq_getElem h]
 rfl
theorem jFX {P r q r' a n T : Int} (hn : 0 < n) (h : r * H + a = n * q + r') : (r * (P * H) + (T + P * a)) / n = P * q + (r' * P + T) / n ∧ (r * (P * H) + (T + P * a)) % n = (r' * P + T) % n := by
 have e : r * (P * H) + (T + P * a) = (r' * P + T) + n * (P * q) := by
  have h1 : P * (r * H + a) = P * (n * q + r') := by rw [h]
  rw [Int.mul_add, Int.mul_add] at h1
  have h2 : r * (P * H) = P * (r * H) := by rw [← Int.mul_assoc, Int.mul_comm r P, Int.mul_assoc]
  have h3 : n * (P * q) = P * (n * q) := by rw [← Int.mul_assoc, Int.mul_comm n P, Int.mul_assoc]
  rw [h2, h3, Int.mul_comm r' P]
  omega
 rw [e]
 constructor
 ·
  rw [Int.add_mul_ediv_left _ _ (Int.ne_of_gt hn)]; omega
 ·
  rw [Int.add_mul_emod_self_left]
theorem jIX {b x : List Int} {R : List Int × List Int × Int} (hx : x.length ≤ 1000) (h : Ev (fun k => jD.l1 k b x (List.replicate x.length 0) [] ((x.length : Int) - 1)) R) : ∀ (d i : Nat), x.length - i = d → i ≤ x.length → Ev (fun k => jD.l0 k b x (List.replicate i 0) i) R := by
 intro d
 induction d with
 | zero =>
  intro i hd hi
  obtain rfl : i = x.length := by omega
  refine Ev.step (fun k => by rw [jD.l0]) (Ev.neg (by omega) ?_)
  rw [w64 (by omega)]
  exact h
 | succ d ih =>
  intro i hd hi
  refine Ev.step (fun k => by rw [jD.l0]) (Ev.pos (by omega) (Ev.pos (by rw [List.length_replicate]; omega) ?_))
  have e : wrap64 ((i : Int) + 1) = ((i + 1 : Nat) : Int) := by rw [w64 (by omega)]; omega
  rw [e, ← List.replicate_succ']
  exact ih (i + 1) (by omega) (by omega)
theorem jHG {b x q : List Int} {rv : Int} {j : Nat} (hj : j < x.length) (hx : x.length ≤ 1000) {R : List Int} (hm : ∀ k, jF.f k (dg rv) [4294967296] = jF.f k (dg rv) [4294967296]) (k : Nat) : jD.l1 (k + 1) b x q (dg rv) (j : Int) = (jF.f k (dg rv) [4294967296]).bind fun t => (jO.f k t [x.getD j 0]).bind fun t => (jR.f k t b).bind fun c => if c ≥ 0 then ((jY.f k t b).bind fun y => if (j : Int) < (q.length : Int) then ((jF.f k b [(q.set j y).getD j 0]).bind fun m => (jc.f k t m).bind fun s => jD.l1 k b x (q.set j y) s.1 ((j : Int) - 1)) else none) else jD.l1 k b x q t ((j : Int) - 1) := by
 have c0 : (j : Int) ≥ 0 := by omega
 have c1 : (0 : Int) ≤ (j : Int) := by omega
 have c2 : (j : Int) < (x.length : Int) := by omega
 have hw : wrap64 ((j : Int) - 1) = (j : Int) - 1 := w64 (by omega)
 rw [jD.l1, if_pos c0]
 simp only [if_pos c1, if_pos c2, hw, qW, Int.toNat_natCast, zi]
theorem jIW {b x : List Int} (hb : Ok b) (hbl : b.length ≤ 100) (hV : 0 < val b) (hx : OkH x) (hxl : x.length ≤ 1000) : ∀ (j : Nat) (q : List Int) (rv : Int), j ≤ x.length → q.length = x.length → OkH q → hval (q.take j) = 0 → (0 ≤ rv ∧ rv < val b) → Ev (fun k => jD.l1 k b x q (dg rv) ((j : Int) - 1)) (dg (hval q + (rv * H ^ j + hval (x.take j)) / val b), dg ((rv * H ^ j + hval (x.take j)) % val b), 0) := by
 intro j
 induction j with
 | zero =>
  intro q rv hj hql hq hz hr
  refine Ev.step (fun k => by rw [jD.l1]) (Ev.neg (by omega) (Ev.bind (jBd hq (by omega)) (Ev.eq (Ev.now _) ?_)))
  rw [List.take_zero, jAK, Int.pow_zero, Int.mul_one, Int.add_zero, Int.ediv_eq_zero_of_lt hr.1 hr.2, Int.emod_eq_of_lt hr.1 hr.2, Int.add_zero]
 | succ j ih =>
  intro q rv hj hql hq hz hr
  have hj1 : j < q.length := by omega
  have hjx : j < x.length := by omega
  obtain ⟨hz1, hzj⟩ := jHf hq hj1 hz
  have hxj := hx.at j
  have e : (((j + 1 : Nat) : Int) - 1) = (j : Int) := by omega
  have hbB := jAH hb
  have hrB : rv < B ^ 100 := by have := qx hbl; omega
  have rr := Row.dg hr.1 hrB
  have rH : Row [4294967296] H 1 := ⟨Ok.one (by decide) (by rw [B_eq]; decide), val_one _, Nat.le_refl _⟩
  have rx : Row [x.getD j 0] (x.getD j 0) 1 := ⟨Ok.one hxj.1 (by have := hxj.2; rw [H_eq] at this; rw [B_eq]; omega), val_one _, Nat.le_refl _⟩
  have rm := rr.mul rH (p := 101) (Nat.le_refl _)
  have hmul := jEK rr.1 rH.1 (by have := rr.2.2; omega) (by simp)
  rw [rr.2.1, rH.2.1] at hmul
  have ra := rm.add rx (p := 102) (Nat.le_refl _) (by decide)
  have hadd := jIa rm.1 rx.1 (by have := rm.2.2; omega) (by simp)
  rw [rm.2.1, rx.2.1] at hadd
  have hT0 := ra.pos
  have hTlt : rv * H + x.getD j 0 < H * val b := by
   have h1 : (rv + 1) * H ≤ val b * H := Int.mul_le_mul_of_nonneg_right (by omega) (Int.le_of_lt jBB)
   rw [Int.add_mul, Int.one_mul, Int.mul_comm (val b)] at h1
   have := hxj.2
   omega
  have hcmp := jEP ra.1 hb (by have := ra.2.2; omega) (by omega)
  rw [ra.2.1] at hcmp
  have htk : ∀ y : Int, hval ((q.set j y).take j) = 0 := fun y => by rw [List.take_set_of_le (Nat.le_refl j)]; exact hz1
  have hdm := Int.mul_ediv_add_emod (rv * H + x.getD j 0) (val b)
  obtain ⟨f1, f2⟩ := jFX (P := H ^ j) (T := hval (x.take j)) hV hdm.symm
  rw [e, jCY hjx, jAc, f1, f2]
  refine Ev.step (jHG hjx hxl (R := []) (fun _ => rfl)) (Ev.bind hmul (Ev.bind hadd (Ev.bind hcmp ?_)))
  have hm0 := Int.emod_nonneg (rv * H + x.getD j 0) (Int.ne_of_gt hV)
  have hm1 := Int.emod_lt_of_pos (rv * H + x.getD j 0) hV
  generalize hT : rv * H + x.getD j 0 = T at *
  by_cases hc : val b ≤ T
  ·
   have htm := jGv ra.1 hb (by have := ra.2.2; omega) (by omega) hV (by rw [ra.2.1]; exact hTlt)
   rw [ra.2.1] at htm
   have hQ0 : 0 ≤ T / val b := Int.ediv_nonneg hT0 (Int.le_of_lt hV)
   have hQH : T / val b < H := Int.ediv_lt_of_lt_mul hV (by omega)
   have hQB : T / val b < B := by rw [H_eq] at hQH; rw [B_eq]; omega
   have hgd : (q.set j (T / val b)).getD j 0 = T / val b := by
    rw [List.getD_eq_getElem?_getD, List.getElem?_set_self hj1]
    rfl
   have rq : Row [T / val b] (T / val b) 1 := ⟨Ok.one hQ0 hQB, val_one _, Nat.le_refl _⟩
   have rbm := (Row.of hb hbl).mul rq (p := 101) (Nat.le_refl _)
   have hbm := jEK hb rq.1 (by omega) (by simp)
   rw [rq.2.1] at hbm
   have hle : val b * (T / val b) ≤ T := Int.mul_ediv_self_le (Int.ne_of_gt hV)
   have hsub := jIR ra.1 rbm.1 (by have := ra.2.2; omega) (by have := rbm.2.2; omega)
   rw [ra.2.1, rbm.2.1, if_neg (by omega), show T - val b * (T / val b) = T % val b from by omega] at hsub
   refine Ev.pos ?_ (Ev.bind htm ?_)
   ·
    have := mt (jAa (x := T) (y := val b)).1 (by omega)
    omega
   ·
    refine Ev.pos (c := (j : Int) < (q.length : Int)) (by omega) ?_
    rw [hgd]
    refine Ev.bind hbm (Ev.bind hsub ?_)
    refine Ev.eq (ih (q.set j (T / val b)) (T % val b) (by omega) (by rw [List.length_set]; exact hql) (hq.set j hQ0 hQH) (htk _) ⟨hm0, hm1⟩) ?_
    rw [jEv hj1, hzj, Int.sub_zero, Int.add_assoc]
  ·
   have hQ : T / val b = 0 := Int.ediv_eq_zero_of_lt hT0 (by omega)
   have hM : T % val b = T := Int.emod_eq_of_lt hT0 (by omega)
   refine Ev.neg ?_ ?_
   ·
    have := (jAa (x := T) (y := val b)).2 (by omega)
    omega
   ·
    refine Ev.eq (ih q T (by omega) hql hq hz1 ⟨hT0, by omega⟩) ?_
    rw [hQ, hM, Int.mul_zero, Int.zero_add]
theorem jEO {a b : List Int} (ha : Ok a) (hb : Ok b) : Ev (fun k => jD.f k a b) (divd a b) := by
 unfold jD.f divd
 refine Ev.vU (jBq a) ?_
 by_cases hha : Held a
 ·
  by_cases hhb : Held b
  ·
   rw [if_pos ⟨hha, hhb⟩]
   refine Ev.pos (decide_eq_true hha) (Ev.vU (jBq b) ?_)
   rw [decide_eq_true hhb]
   refine Ev.step (fun k => by rw [jD.j0]) (Ev.neg (by simp) ?_)
   have hal := hha.1
   have hbl := hhb.1
   by_cases h0 : b.length = 0
   ·
    have hbn : b = [] := List.eq_nil_of_length_eq_zero h0
    subst hbn
    rw [if_pos ql]
    exact Ev.pos (by simp) (Ev.now _)
   ·
    have hbv : 0 < val b := by
     have h1 := hhb.dg hb
     have h2 := jq hb
     rcases Int.lt_or_le 0 (val b) with h | h
     ·
      exact h
     ·
      rw [jFE h] at h1; rw [← h1] at h0; simp at h0
    rw [if_neg (Int.ne_of_gt hbv)]
    refine Ev.neg (by omega) ?_
    have hlong : Ev (fun k => jD.j1 k a b false) (dg (val a / val b), dg (val a % val b), 0) := by
     refine Ev.step (fun k => by rw [jD.j1]) (Ev.neg (by simp) (Ev.bind (jAo ha (by omega)) ?_))
     have hl := jAk a
     have hlg := jIW hb (by omega) hbv (jAm ha) (by omega) (halves a).length (List.replicate (halves a).length 0) 0 (Nat.le_refl _) List.length_replicate (OkH.rep _) (by rw [List.take_of_length_le (by simp)]; exact jDR _) ⟨Int.le_refl _, hbv⟩
     rw [jDR, List.take_length, Int.zero_mul, Int.zero_add, Int.zero_add, jAY, jAe] at hlg
     exact jIX (by omega) hlg _ 0 rfl (Nat.zero_le _)
    by_cases h1 : a.length = 1
    ·
     refine Ev.pos (by omega) ?_
     by_cases h2 : b.length = 1
     ·
      have eb : ((b.length : Int) == 1) = true := by rw [h2]; rfl
      rw [eb]
      obtain ⟨a0, rfl⟩ : ∃ a0, a = [a0] := by
       match a, h1 with
       | [a0], _ => exact ⟨a0, rfl⟩
      obtain ⟨b0, rfl⟩ : ∃ b0, b = [b0] := by
       match b, h2 with
       | [b0], _ => exact ⟨b0, rfl⟩
      rw [val_one] at hbv ⊢
      rw [val_one]
      have ha0 := ha.head
      have hb0 := hb.head
      obtain ⟨g1, _⟩ := jDT (n := a0) (a := b0) ha0 hbv
      have g2 := Int.ediv_nonneg ha0.1 (Int.le_of_lt hbv)
      have g3 := Int.ediv_le_self b0 ha0.1
      have g4 := Int.emod_nonneg a0 (Int.ne_of_gt hbv)
      have g5 := Int.emod_lt_of_pos a0 hbv
      have r0 : rd [a0] 0 = a0 := rfl
      have r1 : rd [b0] 0 = b0 := rfl
      refine Ev.step (fun k => by rw [jD.j1, r0, r1, g1, Int.tmod_eq_emod_of_nonneg ha0.1]) (Ev.pos rfl (Ev.pos (by simp) (Ev.pos (by simp) (Ev.neg (by omega) ?_))))
      refine Ev.bind (jHo (n := a0 / b0) ⟨g2, by omega⟩) ?_
      refine Ev.bind (jHo (n := a0 % b0) ⟨g4, by omega⟩) ?_
      exact Ev.now _
     ·
      have eb : ((b.length : Int) == 1) = false := by simp; omega
      rw [eb]
      exact hlong
    ·
     exact Ev.neg (by omega) hlong
  ·
   rw [if_neg (fun h => hhb h.2)]
   refine Ev.pos (decide_eq_true hha) (Ev.vU (jBq b) ?_)
   rw [decide_eq_false hhb]
   exact Ev.step (fun k => by rw [jD.j0]) (Ev.pos (c := (!false) = true) rfl (Ev.now _))
 ·
  rw [if_neg (fun h => hha h.1)]
  refine Ev.neg (by simpa using hha) ?_
  exact Ev.step (fun k => by rw [jD.j0]) (Ev.pos rfl (Ev.now _))
def gcdv (x y : Int) : Int := (Nat.gcd x.toNat y.toNat : Nat)
theorem jDy {x : Int} (h : 0 ≤ x) : gcdv x 0 = x := by unfold gcdv; simp; omega
theorem jEz {x y : Int} (hx : 0 ≤ x) (hy : 0 < y) : gcdv y (x % y) = gcdv x y := by
 unfold gcdv
 obtain ⟨n, rfl⟩ := Int.eq_ofNat_of_zero_le hx
 obtain ⟨m, rfl⟩ := Int.eq_ofNat_of_zero_le (Int.le_of_lt hy)
 rw [← Int.natCast_emod, Int.toNat_natCast, Int.toNat_natCast, Int.toNat_natCast, Nat.gcd_comm m, ← Nat.gcd_rec, Nat.gcd_comm]
theorem jET (x y : Int) : 0 ≤ gcdv x y := by unfold gcdv; omega
theorem jCG {x y : Int} (hx : 0 ≤ x) (hy : 0 ≤ y) (h : x ≠ 0 ∨ y ≠ 0) : 0 < gcdv x y := by
 unfold gcdv
 have : 0 < Nat.gcd x.toNat y.toNat := Nat.gcd_pos_iff.2 (by omega)
 omega
theorem jFA {x y : Int} (hx : 0 ≤ x) (hy : 0 ≤ y) : gcdv x y ∣ x ∧ gcdv x y ∣ y := by
 unfold gcdv
 have h1 := Nat.gcd_dvd_left x.toNat y.toNat
 have h2 := Nat.gcd_dvd_right x.toNat y.toNat
 constructor
 ·
  have := Int.natCast_dvd_natCast.2 h1
  rwa [Int.toNat_of_nonneg hx] at this
 ·
  have := Int.natCast_dvd_natCast.2 h2
  rwa [Int.toNat_of_nonneg hy] at this
theorem jGK {x y : Int} (hx : 0 ≤ x) (hy : 0 ≤ y) {M : Int} (h1 : x < M) (h2 : y < M) : gcdv x y < M := by
 by_cases hz : x = 0
 ·
  subst hz
  unfold gcdv
  rw [Int.toNat_zero, Nat.gcd_zero_left]
  omega
 ·
  have := Int.le_of_dvd (by omega) (jFA hx hy).1
  omega
def gcdd (a b : List Int) : List Int × Int := if Held a ∧ Held b then (dg (gcdv (val a) (val b)), 0) else ([], 1)
theorem jDW {x y : Int} (hx : 0 ≤ x) (hy : 0 < y) (hx8 : x < B ^ 8) (hy8 : y < B ^ 8) : divd (dg x) (dg y) = (dg (x / y), dg (x % y), 0) := by
 unfold divd
 rw [if_pos ⟨jAj hx8, jAj hy8⟩, qM hx, qM (Int.le_of_lt hy), if_neg (Int.ne_of_gt hy)]
theorem jCX {y : Int} (hy : 0 ≤ y) : ((dg y).length : Int) > 0 ↔ y ≠ 0 := by
 have := jDX hy
 constructor
 ·
  intro h e; have := this.2 e; omega
 ·
  intro h; rcases Nat.eq_zero_or_pos (dg y).length with h0 | h0
  ·
   exact absurd (this.1 (by omega)) h
  ·
   omega
theorem jJm : ∀ (n : Nat) (x y : Int), y.toNat = n → 0 ≤ x → 0 ≤ y → x < B ^ 8 → y < B ^ 8 → Ev (fun k => vE.l0 k (dg x) (dg y)) (dg (gcdv x y), 0) := by
 intro n
 induction n using Nat.strongRecOn with
 | _ n ih =>
  intro x y hn hx hy hx8 hy8
  by_cases hz : y = 0
  ·
   subst hz
   rw [jDy hx]
   exact Ev.step (fun k => by rw [vE.l0]) (Ev.neg (mt (jCX (Int.le_refl 0)).1 (by simp)) (Ev.now _))
  ·
   have hyp : 0 < y := by omega
   have h1 := Int.emod_nonneg x hz
   have h2 := Int.emod_lt_of_pos x hyp
   have hd := jGM (zy x) (zy y)
   rw [jDW hx hyp hx8 hy8] at hd
   refine Ev.step (fun k => by rw [vE.l0]) (Ev.pos ((jCX hy).2 hz) (Ev.bind hd ?_))
   rw [← jEz hx hyp]
   exact ih (x % y).toNat (by omega) y (x % y) rfl hy h1 hy8 (by omega)
theorem jEw {a : List Int} (ha : Ok a) (h : Held a) : 0 ≤ val a ∧ val a < B ^ 8 := ⟨jq ha, by have := jAH ha; have := qx h.1; omega⟩
theorem jHx {a b : List Int} (ha : Ok a) (hb : Ok b) : Ev (fun k => vE.f k a b) (gcdd a b) := by
 unfold vE.f gcdd
 refine Ev.vU (jCV a) ?_
 by_cases hha : Held a
 ·
  by_cases hhb : Held b
  ·
   rw [if_pos ⟨hha, hhb⟩]
   refine Ev.pos (decide_eq_true hha) (Ev.vU (jCV b) ?_)
   rw [decide_eq_true hhb]
   have va := jEw ha hha
   have vb := jEw hb hhb
   have hal := hha.1
   have hbl := hhb.1
   exact Ev.step (fun k => by rw [vE.j0]) (Ev.neg (by simp) (Ev.bind (jBP ha (by omega)) (Ev.bind (jBP hb (by omega)) (jJm _ _ _ rfl va.1 vb.1 va.2 vb.2))))
  ·
   rw [if_neg (fun h => hhb h.2)]
   refine Ev.pos (decide_eq_true hha) (Ev.vU (jCV b) ?_)
   rw [decide_eq_false hhb]
   exact Ev.step (fun k => by rw [vE.j0]) (Ev.pos (c := (!false) = true) rfl (Ev.now _))
 ·
  rw [if_neg (fun h => hha h.1)]
  refine Ev.neg (by simpa using hha) ?_
  exact Ev.step (fun k => by rw [vE.j0]) (Ev.pos rfl (Ev.now _))
theorem jDo {a : List Int} (ha : Ok a) (h : Held a) : 0 ≤ val a ∧ val a < B ^ 8 := ⟨jq ha, by have := jAH ha; have := qx h.1; omega⟩
theorem jIU : ∀ (n : Nat) (x y : Int), y.toNat = n → 0 ≤ x → 0 ≤ y → x < B ^ 8 → y < B ^ 8 → Ev (fun k => jU.l0 k (dg x) (dg y)) (dg (gcdv x y), 0) := by
 intro n
 induction n using Nat.strongRecOn with
 | _ n ih =>
  intro x y hn hx hy hx8 hy8
  by_cases hz : y = 0
  ·
   subst hz
   rw [jDy hx]
   exact Ev.step (fun k => by rw [jU.l0]) (Ev.neg (mt (jCX (Int.le_refl 0)).1 (by simp)) (Ev.now _))
  ·
   have hyp : 0 < y := by omega
   have h1 := Int.emod_nonneg x hz
   have h2 := Int.emod_lt_of_pos x hyp
   have hd := jEO (zy x) (zy y)
   rw [jDW hx hyp hx8 hy8] at hd
   refine Ev.step (fun k => by rw [jU.l0]) (Ev.pos ((jCX hy).2 hz) (Ev.bind hd ?_))
   rw [← jEz hx hyp]
   exact ih (x % y).toNat (by omega) y (x % y) rfl hy h1 hy8 (by omega)
theorem jIV {a b : List Int} (ha : Ok a) (hb : Ok b) : Ev (fun k => jU.f k a b) (gcdd a b) := by
 unfold jU.f gcdd
 refine Ev.vU (jBq a) ?_
 by_cases hha : Held a
 ·
  by_cases hhb : Held b
  ·
   rw [if_pos ⟨hha, hhb⟩]
   refine Ev.pos (decide_eq_true hha) (Ev.vU (jBq b) ?_)
   rw [decide_eq_true hhb]
   have va := jDo ha hha
   have vb := jDo hb hhb
   have h := jIU _ _ _ rfl va.1 vb.1 va.2 vb.2
   rw [hha.dg ha, hhb.dg hb] at h
   exact Ev.step (fun k => by rw [jU.j0]) (Ev.neg (by simp) h)
  ·
   rw [if_neg (fun h => hhb h.2)]
   refine Ev.pos (decide_eq_true hha) (Ev.vU (jBq b) ?_)
   rw [decide_eq_false hhb]
   exact Ev.step (fun k => by rw [jU.j0]) (Ev.pos (c := (!false) = true) rfl (Ev.now _))
 ·
  rw [if_neg (fun h => hha h.1)]
  refine Ev.neg (by simpa using hha) ?_
  exact Ev.step (fun k => by rw [jU.j0]) (Ev.pos rfl (Ev.now _))
end Go.Proofs.Ytijgeonhbmgikaa.EORatioField
end
section
set_option linter.unusedVariables false
set_option linter.unusedSimpArgs false
namespace Go.Proofs.YtijgeonhbmgikaaN
def rn (q : Rat) : Bool := decide (q.num < 0)
def rN (q : Rat) : List Int := dg (q.num.natAbs : Int)
def rD (q : Rat) : List Int := dg (q.den : Int)
def Sm (q : Rat) (m : Nat) : Prop := q.num.natAbs < 2 ^ m ∧ q.den < 2 ^ m
theorem jKU {K : Nat} (h : 512 = K) : B ^ 8 = 2 ^ K := by
 have e : 64 * 8 = K := by omega
 rw [show B = (2 : Int) ^ 64 from by decide, ← Int.pow_mul, e]
theorem jAA {n m : Nat} (h : n < 2 ^ m) (hm : m ≤ 512) : (n : Int) < B ^ 8 := by
 obtain ⟨K, hK⟩ : ∃ K : Nat, 512 = K := ⟨_, rfl⟩
 rw [hK] at hm
 rw [jKU hK]
 have h1 : n < 2 ^ K := Nat.lt_of_lt_of_le h (Nat.pow_le_pow_right (by decide) hm)
 have h2 : ((2 ^ K : Nat) : Int) = (2 : Int) ^ K := by rw [Int.natCast_pow]; rfl
 rw [← h2]
 exact Int.ofNat_lt.2 h1
theorem Sm.mono {q : Rat} {m n : Nat} (h : Sm q m) (hm : m ≤ n) : Sm q n := by
 have := Nat.pow_le_pow_right (n := 2) (by decide) hm
 exact ⟨Nat.lt_of_lt_of_le h.1 this, Nat.lt_of_lt_of_le h.2 this⟩
theorem jAz {a b m n : Nat} (h1 : a < 2 ^ m) (h2 : b < 2 ^ n) : a * b < 2 ^ (m + n) := by
 rw [Nat.pow_add]
 rcases Nat.eq_zero_or_pos a with h | h
 ·
  subst h; rw [Nat.zero_mul]; exact Nat.mul_pos (Nat.pow_pos (by decide)) (Nat.pow_pos (by decide))
 ·
  exact Nat.mul_lt_mul_of_lt_of_lt h1 h2
theorem jBX {n : Int} {d : Nat} (hd : d ≠ 0) : (mkRat n d).num = n / (Nat.gcd n.natAbs d : Nat) ∧ (mkRat n d).den = d / Nat.gcd n.natAbs d := by
 rw [← Rat.normalize_eq_mkRat hd, Rat.normalize_eq]
 exact ⟨rfl, rfl⟩
theorem jHt {n : Int} {d : Nat} (hd : d ≠ 0) : (mkRat n d).num.natAbs = n.natAbs / Nat.gcd n.natAbs d := by
 rw [(jBX hd).1, Int.natAbs_ediv_of_dvd (Int.ofNat_dvd_left.2 (Nat.gcd_dvd_left _ _)), Int.natAbs_natCast]
theorem jHs {n : Int} {d : Nat} (hd : d ≠ 0) : rn (mkRat n d) = decide (n < 0) := by
 unfold rn
 have hg : 0 < Nat.gcd n.natAbs d := Nat.gcd_pos_of_pos_right _ (Nat.pos_of_ne_zero hd)
 have h := Int.ediv_mul_cancel (Int.ofNat_dvd_left.2 (Nat.gcd_dvd_left n.natAbs d) : ((Nat.gcd n.natAbs d : Nat) : Int) ∣ n)
 rw [(jBX hd).1]
 generalize n / ((Nat.gcd n.natAbs d : Nat) : Int) = m at *
 generalize hG : ((Nat.gcd n.natAbs d : Nat) : Int) = G at *
 have hG0 : 0 < G := by omega
 rw [Bool.eq_iff_iff, decide_eq_true_iff, decide_eq_true_iff, ← h]
 constructor
 ·
  intro hm; exact Int.mul_neg_of_neg_of_pos hm hG0
 ·
  intro hm
  rcases Int.lt_or_le m 0 with h1 | h1
  ·
   exact h1
  ·
   have := Int.mul_nonneg h1 (Int.le_of_lt hG0); omega
theorem jBT {n : Int} {d m : Nat} (hd : d ≠ 0) (h1 : n.natAbs < 2 ^ m) (h2 : d < 2 ^ m) : Sm (mkRat n d) m := by
 unfold Sm
 rw [jHt hd, (jBX hd).2]
 exact ⟨Nat.lt_of_le_of_lt (Nat.div_le_self _ _) h1, Nat.lt_of_le_of_lt (Nat.div_le_self _ _) h2⟩
theorem jGf (p q : Rat) : p + q = mkRat (p.num * q.den + q.num * p.den) (p.den * q.den) := by rw [Rat.add_def, Rat.normalize_eq_mkRat]
theorem jGB (p q : Rat) : p * q = mkRat (p.num * q.num) (p.den * q.den) := by rw [Rat.mul_def, Rat.normalize_eq_mkRat]
theorem jFF (p q : Rat) : p.den * q.den ≠ 0 := Nat.mul_ne_zero p.den_nz q.den_nz
theorem Sm.cross {p q : Rat} {m n : Nat} (hp : Sm p m) (hq : Sm q n) : p.num.natAbs * q.den < 2 ^ (m + n) ∧ q.num.natAbs * p.den < 2 ^ (m + n) ∧ p.den * q.den < 2 ^ (m + n) ∧ p.num.natAbs * q.num.natAbs < 2 ^ (m + n) := by
 refine ⟨jAz hp.1 hq.2, ?_, jAz hp.2 hq.2, jAz hp.1 hq.1⟩
 rw [Nat.add_comm m n]
 exact jAz hq.1 hp.2
theorem Sm.add {p q : Rat} {m n : Nat} (hp : Sm p m) (hq : Sm q n) : Sm (p + q) (m + n + 1) := by
 obtain ⟨h1, h2, h3, _⟩ := hp.cross hq
 rw [jGf]
 have e : (2 : Nat) ^ (m + n + 1) = 2 * 2 ^ (m + n) := by rw [Nat.pow_succ, Nat.mul_comm]
 refine jBT (jFF p q) ?_ (by omega)
 have h4 := Int.natAbs_add_le (p.num * q.den) (q.num * p.den)
 rw [Int.natAbs_mul, Int.natAbs_mul, Int.natAbs_natCast, Int.natAbs_natCast] at h4
 omega
theorem Sm.mul {p q : Rat} {m n : Nat} (hp : Sm p m) (hq : Sm q n) : Sm (p * q) (m + n) := by
 obtain ⟨_, _, h3, h4⟩ := hp.cross hq
 rw [jGB]
 exact jBT (jFF p q) (by rw [Int.natAbs_mul]; exact h4) h3
theorem jJS {p q : Rat} (h1 : rn p = rn q) (h2 : rN p = rN q) (h3 : rD p = rD q) : p = q := by
 unfold rN at h2
 unfold rD at h3
 have e2 := jHy (by omega) (by omega) h2
 have e3 := jHy (by omega) (by omega) h3
 unfold rn at h1
 refine Rat.ext ?_ (by omega)
 have h := decide_eq_decide.1 h1
 omega
theorem Sm.neg {q : Rat} {m : Nat} (h : Sm q m) : Sm (-q) m := by
 unfold Sm at *
 rw [Rat.neg_num, Rat.neg_den, Int.natAbs_neg]
 exact h
theorem Sm.int {n : Int} {m : Nat} (h : n.natAbs < 2 ^ m) (hm : 0 < m) : Sm (n : Rat) m := ⟨h, Nat.one_lt_two_pow (by omega)⟩
end Go.Proofs.YtijgeonhbmgikaaN
end
section
set_option linter.unusedVariables false
set_option linter.unusedSimpArgs false
namespace Go.Proofs.Ytijgeonhbmgikaa.EORatioField
open Go.RowKit Go.Proofs.Ytijgeonhbmgikaa.PORatioField Go.Proofs.YtijgeonhbmgikaaN Go.Proofs.YtijgeonhbmgikaaW.PrintWords Go.Proofs.YtijgeonhbmgikaaW.PrintLast Go.Proofs.YtijgeonhbmgikaaW.PrintMore
def rat4 (q : Rat) : Bool × List Int × List Int × Int := (rn q, rN q, rD q, 0)
def jFT (neg : Bool) (a b : List Int) : Bool × List Int × List Int × Int := if Held a ∧ Held b then (if val b = 0 then (false, [], [], 30) else (neg && decide (val a ≠ 0), dg (val a / gcdv (val a) (val b)), dg (val b / gcdv (val a) (val b)), 0)) else (false, [], [], 1)
theorem jEy {x y : Int} (hx : 0 ≤ x) (hy : 0 < y) : decide (x / gcdv x y ≠ 0) = decide (x ≠ 0) := by
 have hg := jCG hx (Int.le_of_lt hy) (.inr (Int.ne_of_gt hy))
 have h := Int.ediv_mul_cancel (jFA hx (Int.le_of_lt hy)).1
 rw [decide_eq_decide]
 constructor
 ·
  intro h1 h2; subst h2; rw [Int.zero_ediv] at h1; exact h1 rfl
 ·
  intro h1 h2; rw [h2, Int.zero_mul] at h; exact h1 h.symm
theorem jDB {n : Int} (h : 0 ≤ n) : decide (((dg n).length : Int) > 0) = decide (n ≠ 0) := by
 rw [decide_eq_decide]; exact jCX h
theorem jCI {n : Int} (h : 0 ≤ n) : (((dg n).length : Int) == 0) = decide (n = 0) := by
 rw [Bool.eq_iff_iff, beq_iff_eq, decide_eq_true_iff]; exact jDX h
theorem jCz {a b : List Int} (ha : Ok a) (hb : Ok b) (hha : Held a) (hhb : Held b) (h0 : val b ≠ 0) : divd a (dg (gcdv (val a) (val b))) = (dg (val a / gcdv (val a) (val b)), dg (val a % gcdv (val a) (val b)), 0) ∧ divd b (dg (gcdv (val a) (val b))) = (dg (val b / gcdv (val a) (val b)), dg (val b % gcdv (val a) (val b)), 0) := by
 have a0 := jq ha
 have b0 := jq hb
 have a8 : val a < B ^ 8 := by have := jAH ha; have := qx hha.1; omega
 have b8 : val b < B ^ 8 := by have := jAH hb; have := qx hhb.1; omega
 have hg := jCG a0 b0 (.inr h0)
 have hg8 := jGK a0 b0 a8 b8
 have h1 := jDW a0 hg a8 hg8
 have h2 := jDW b0 hg b8 hg8
 rw [hha.dg ha] at h1
 rw [hhb.dg hb] at h2
 exact ⟨h1, h2⟩
theorem jGC (neg : Bool) {a b : List Int} (ha : Ok a) (hb : Ok b) : Ev (fun k => zm.f k neg a b) (jFT neg a b) := by
 unfold zm.f jFT
 have hg := jHx ha hb
 unfold gcdd at hg
 by_cases hh : Held a ∧ Held b
 ·
  rw [if_pos hh] at hg ⊢
  refine Ev.bind hg (Ev.pos rfl ?_)
  have a0 := jq ha
  have b0 := jq hb
  by_cases hz : val b = 0
  ·
   rw [if_pos hz]
   have hl : (b.length : Int) = 0 := by
    have e := hh.2.dg hb
    rw [hz, jAe] at e
    rw [← e]; rfl
   exact Ev.pos hl (Ev.now _)
  ·
   rw [if_neg hz]
   have hl : ¬ (b.length : Int) = 0 := fun h => hz (by rw [List.eq_nil_of_length_eq_zero (l := b) (by omega)]; rfl)
   have hgp := jCG a0 b0 (.inr hz)
   obtain ⟨e1, e2⟩ := jCz ha hb hh.1 hh.2 hz
   have d1 := jGM ha (zy (gcdv (val a) (val b)))
   have d2 := jGM hb (zy (gcdv (val a) (val b)))
   rw [e1] at d1
   rw [e2] at d2
   refine Ev.neg hl (Ev.bind d1 (Ev.bind d2 ?_))
   have q0 := Int.ediv_nonneg a0 (Int.le_of_lt hgp)
   have hb0 : 0 < val b := by omega
   cases neg with
   | true =>
    refine Ev.pos rfl (Ev.vU (a := decide (val a = 0)) ?_ (Ev.eq (Ev.now _) ?_))
    ·
     unfold zF.f
     rw [jCI q0]
     have := jEy a0 hb0
     have h2 : decide (val a / gcdv (val a) (val b) = 0) = decide (val a = 0) := by
      rw [decide_eq_decide] at this ⊢
      exact Decidable.not_iff_not.1 this
     rw [h2]
    ·
     simp
   | false => exact Ev.neg (by simp) (Ev.eq (Ev.now _) (by simp))
 ·
  rw [if_neg hh] at hg ⊢
  exact Ev.bind hg (Ev.neg (by decide) (Ev.now _))
theorem jCW (neg : Bool) {x y : Nat} (hx : (x : Int) < B ^ 8) (hy : (y : Int) < B ^ 8) (h0 : y ≠ 0) (n : Int) (hn : (if neg = true then -(x : Int) else x) = n) : jFT neg (dg x) (dg y) = rat4 (mkRat n y) := by
 have e0 : n.natAbs = x := by subst hn; cases neg <;> simp
 unfold jFT rat4
 rw [if_pos ⟨jAj hx, jAj hy⟩, qM (by omega), qM (by omega), if_neg (by omega), jHs h0]
 unfold rN rD gcdv
 rw [jHt h0, (jBX h0).2, e0, Int.toNat_natCast, Int.toNat_natCast, Int.natCast_ediv, Int.natCast_ediv]
 refine Prod.ext ?_ rfl
 show (neg && decide ((x : Int) ≠ 0)) = decide (n < 0)
 subst hn
 cases neg with
 | true =>
  rw [Bool.eq_iff_iff]
  simp
  omega
 | false =>
  rw [Bool.eq_iff_iff]
  simp
def mayd (neg : Bool) (a b : List Int) : Bool := decide (Held a ∧ Held b ∧ val b ≠ 0 ∧ gcdv (val a) (val b) = 1 ∧ ¬ (neg = true ∧ val a = 0))
theorem jBR (neg : Bool) {a b : List Int} (ha : Ok a) (hb : Ok b) : Ev (fun k => vV.f k neg a b) (mayd neg a b) := by
 unfold vV.f mayd
 have hg := jHx ha hb
 unfold gcdd at hg
 by_cases hh : Held a ∧ Held b
 ·
  rw [if_pos hh] at hg
  refine Ev.bind hg (Ev.pos rfl ?_)
  have ea := hh.1.dg ha
  have eb := hh.2.dg hb
  have a0 := jq ha
  have b0 := jq hb
  have hlb := jDB b0
  rw [eb] at hlb
  have hla := jCI a0
  rw [ea] at hla
  by_cases hz : val b = 0
  ·
   rw [decide_eq_false (fun h => h.2.2.1 hz)]
   refine Ev.neg ?_ (Ev.now _)
   rw [hz] at hlb
   exact of_decide_eq_false (hlb.trans (by simp))
  ·
   refine Ev.pos (of_decide_eq_true (hlb.trans (decide_eq_true hz))) ?_
   have a8 : val a < B ^ 8 := by have := jAH ha; have := qx hh.1.1; omega
   have b8 : val b < B ^ 8 := by have := jAH hb; have := qx hh.2.1; omega
   have hg8 := jGK a0 b0 a8 b8
   have lg := qN hg8
   have hc := jId (zy (gcdv (val a) (val b))) (b := [1]) (by decide) (by omega) (by decide)
   rw [qM (jET _ _), val_one] at hc
   refine Ev.bind hc ?_
   have hce := jHe (gcdv (val a) (val b)) 1
   by_cases hg1 : gcdv (val a) (val b) = 1
   ·
    refine Ev.pos (by rw [← beq_iff_eq, hce]; exact decide_eq_true hg1) ?_
    cases neg with
    | true =>
     refine Ev.pos rfl (Ev.vU (a := decide (val a = 0)) (by unfold zF.f; rw [hla]) (Ev.eq (Ev.now _) ?_))
     by_cases hv : val a = 0
     ·
      rw [decide_eq_true hv, decide_eq_false (fun h => h.2.2.2.2 ⟨rfl, hv⟩)]; rfl
     ·
      rw [decide_eq_false hv, decide_eq_true ⟨hh.1, hh.2, hz, hg1, fun h => hv h.2⟩]; rfl
    | false =>
     refine Ev.neg (by simp) (Ev.eq (Ev.now _) ?_)
     rw [decide_eq_true ⟨hh.1, hh.2, hz, hg1, fun h => Bool.noConfusion h.1⟩]
   ·
    refine Ev.neg (by rw [← beq_iff_eq, hce, decide_eq_true_iff]; exact hg1) (Ev.eq (Ev.now _) ?_)
    rw [decide_eq_false (fun h => hg1 h.2.2.2.1)]
 ·
  rw [if_neg hh] at hg
  rw [decide_eq_false (fun h => hh ⟨h.1, h.2.1⟩)]
  exact Ev.bind hg (Ev.neg (by decide) (Ev.now _))
theorem jBt {q : Rat} {m : Nat} (h : Sm q m) (hm : m ≤ 512) : mayd (rn q) (rN q) (rD q) = true := by
 have h1 := jAA h.1 hm
 have h2 := jAA h.2 hm
 unfold mayd rN rD
 rw [qM (by omega), qM (by omega)]
 refine decide_eq_true ⟨jAj h1, jAj h2, by have := q.den_nz; omega, ?_, ?_⟩
 ·
  unfold gcdv
  rw [Int.toNat_natCast, Int.toNat_natCast]
  have := q.reduced
  unfold Nat.Coprime at this
  rw [this]; rfl
 ·
  rintro ⟨ha, hb⟩
  unfold rn at ha
  have := of_decide_eq_true ha
  omega
theorem jDm {n1 n2 : Bool} {a1 a2 b1 b2 : List Int} (ha : a1.length ≤ 17592186044416) (hb : b1.length ≤ 17592186044416) : Ev (fun k => vC.f k n1 a1 b1 n2 a2 b2) (decide (n1 = n2 ∧ a1 = a2 ∧ b1 = b2)) := by
 unfold vC.f
 by_cases h1 : n1 = n2
 ·
  refine Ev.pos (by rw [h1]; exact beq_self_eq_true _) (Ev.bind (jEq a1 a2 ha) ?_)
  by_cases h2 : a1 = a2
  ·
   refine Ev.pos (decide_eq_true h2) (Ev.bind (jEq b1 b2 hb) (Ev.eq (Ev.now _) ?_))
   rw [decide_eq_decide]; exact ⟨fun h => ⟨h1, h2, h⟩, fun h => h.2.2⟩
  ·
   refine Ev.neg (by simpa using h2) (Ev.eq (Ev.now _) ?_)
   rw [decide_eq_false (fun h => h2 h.2.1)]
 ·
  refine Ev.neg (by simpa using h1) (Ev.eq (Ev.now _) ?_)
  rw [decide_eq_false (fun h => h1 h.1)]
theorem jJQ {n1 n2 : Bool} {a1 a2 b1 b2 : List Int} (ha : a1.length ≤ 8) (hb : b1.length ≤ 8) (h : n1 = n2 ∧ a1 = a2 ∧ b1 = b2) : Ev (fun k => vC.f k n1 a1 b1 n2 a2 b2) true := Ev.eq (jDm (by omega) (by omega)) (decide_eq_true h)
theorem jFj {p q : Rat} {m : Nat} (h : Sm p m) (hm : m ≤ 512) : Ev (fun k => vC.f k (rn p) (rN p) (rD p) (rn q) (rN q) (rD q)) (decide (p = q)) := by
 have h1 := qN (jAA h.1 hm)
 have h2 := qN (jAA h.2 hm)
 refine Ev.eq (jDm (by unfold rN; omega) (by unfold rD; omega)) ?_
 rw [decide_eq_decide]
 exact ⟨fun h => jJS h.1 h.2.1 h.2.2, fun h => by subst h; exact ⟨rfl, rfl, rfl⟩⟩
theorem jEX {p q : Rat} {m n : Nat} (hp : Sm p m) (hq : Sm q n) (h : m + n ≤ 512) : Ev (fun k => vJ.f k (rn p) (rN p) (rD p) (rn q) (rN q) (rD q)) (dg ((p.num.natAbs * q.den : Nat) : Int), dg ((q.num.natAbs * p.den : Nat) : Int)) := by
 unfold vJ.f rN rD
 have l1 := qN (jAA hp.1 (by omega))
 have l2 := qN (jAA hp.2 (by omega))
 have l3 := qN (jAA hq.1 (by omega))
 have l4 := qN (jAA hq.2 (by omega))
 have h1 := jCx (zy (p.num.natAbs : Int)) (zy (q.den : Int)) (by omega) (by omega)
 have h2 := jCx (zy (q.num.natAbs : Int)) (zy (p.den : Int)) (by omega) (by omega)
 rw [qM (by omega), qM (by omega), ← Int.natCast_mul] at h1 h2
 exact Ev.bind h1 (Ev.bind h2 (Ev.now _))
theorem jHJ (neg : Bool) {x y : Nat} (too : Bool) (hx : (x : Int) < B ^ 8) (hy : (y : Int) < B ^ 8) : ∃ s : Bool, ∃ z : Nat, Ev (fun k => qO.f k neg (dg x) too (dg y)) (s, dg z) ∧ (if s = true then -(z : Int) else z) = (if neg = true then -(x : Int) else x) + (if too = true then -(y : Int) else y) := by
 unfold qO.f
 have rx := Row.dg (x := (x : Int)) (n := 8) (by omega) hx
 have ry := Row.dg (x := (y : Int)) (n := 8) (by omega) hy
 by_cases h : neg = too
 ·
  subst h
  have ha := addR rx ry (by decide) (by decide)
  refine ⟨neg, x + y, Ev.pos (beq_self_eq_true _) (Ev.bind ha (Ev.eq (Ev.now _) ?_)), ?_⟩
  ·
   rw [Int.natCast_add]
  ·
   cases neg <;> simp <;> omega
 ·
  have hc := cmpR rx ry (by decide) (by decide)
  by_cases hl : (x : Int) < y
  ·
   have hs := jDK ry rx (by decide) (by decide) (Int.le_of_lt hl)
   refine ⟨too, y - x, Ev.neg (by simpa using h) (Ev.bind hc (Ev.pos (jAa.2 hl) (Ev.bind hs (Ev.eq (Ev.now _) ?_)))), ?_⟩
   ·
    rw [Int.ofNat_sub (by omega)]
   ·
    cases neg <;> cases too <;> simp at h ⊢ <;> omega
  ·
   have hs := jDK rx ry (by decide) (by decide) (by omega)
   refine ⟨neg, x - y, Ev.neg (by simpa using h) (Ev.bind hc (Ev.neg (fun h => hl (jAa.1 h)) (Ev.bind hs (Ev.eq (Ev.now _) ?_)))), ?_⟩
   ·
    rw [Int.ofNat_sub (by omega)]
   ·
    cases neg <;> cases too <;> simp at h ⊢ <;> omega
theorem signed (q : Rat) (d : Nat) : (if rn q = true then -((q.num.natAbs * d : Nat) : Int) else ((q.num.natAbs * d : Nat) : Int)) = q.num * d := by
 unfold rn
 rw [Int.natCast_mul]
 by_cases h : q.num < 0
 ·
  rw [if_pos (decide_eq_true h), ← Int.neg_mul]; congr 1; omega
 ·
  rw [if_neg (by simpa using h)]; congr 1; omega
theorem jIA {l : List (List Int)} (h : ∀ x ∈ l, x.length ≤ 8) : vR.f l = some false := by
 unfold vR.f vR.any
 have hi : ∀ (l : List (List Int)) (i : Int), (∀ x ∈ l, x.length ≤ 8) → vR.idx l i = -1 := by
  intro l
  induction l with
  | nil => intro i _; rfl
  | cons x r ih =>
   intro i hx
   have := hx x (List.mem_cons_self ..)
   rw [vR.idx, if_neg (by omega)]
   exact ih _ (fun y hy => hx y (List.mem_cons_of_mem _ hy))
 rw [hi l 0 h]
 rfl
theorem jGe {p q : Rat} {m n : Nat} (hp : Sm p m) (hq : Sm q n) (h : m + n + 1 ≤ 512) : Ev (fun k => vL.f k (rn p) (rN p) (rD p) (rn q) (rN q) (rD q)) (rat4 (p + q)) := by
 unfold vL.f
 have m1 := jBR (rn p) (zy (p.num.natAbs : Int)) (zy (p.den : Int))
 have m2 := jBR (rn q) (zy (q.num.natAbs : Int)) (zy (q.den : Int))
 have t1 := jBt hp (by omega)
 have t2 := jBt hq (by omega)
 unfold rN rD at t1 t2
 rw [t1] at m1
 rw [t2] at m2
 refine Ev.bind m1 (Ev.pos rfl (Ev.bind m2 (Ev.step (fun k => by rw [vL.j0]) (Ev.neg (by simp) ?_))))
 obtain ⟨c1, c2, c3, _⟩ := hp.cross hq
 have b1 := jAA c1 (by omega)
 have b2 := jAA c2 (by omega)
 have b3 := jAA c3 (by omega)
 obtain ⟨s, z, hpl, hz⟩ := jHJ (rn p) (rn q) b1 b2
 rw [signed, signed] at hz
 have hsum := hp.add hq
 have zb : z < 2 ^ (m + n + 1) := by
  have h4 := Int.natAbs_add_le (p.num * q.den) (q.num * p.den)
  rw [Int.natAbs_mul, Int.natAbs_mul, Int.natAbs_natCast, Int.natAbs_natCast, ← hz] at h4
  have e : (2 : Nat) ^ (m + n + 1) = 2 * 2 ^ (m + n) := by rw [Nat.pow_succ, Nat.mul_comm]
  have e2 : (if s = true then -(z : Int) else (z : Int)).natAbs = z := by cases s <;> simp
  omega
 have b4 := jAA zb h
 have l2 := qN (jAA hp.2 (by omega))
 have l4 := qN (jAA hq.2 (by omega))
 have hd := jCx (zy (p.den : Int)) (zy (q.den : Int)) (by omega) (by omega)
 rw [qM (by omega), qM (by omega), ← Int.natCast_mul] at hd
 refine Ev.bind (jEX hp hq (by omega)) (Ev.bind hpl (Ev.bind hd (Ev.vU (jIA ?_) (Ev.neg (by simp) ?_))))
 ·
  intro x hx
  simp only [List.mem_cons, List.not_mem_nil, or_false] at hx
  rcases hx with rfl | rfl | rfl | rfl
  ·
   exact qN b1
  ·
   exact qN b2
  ·
   exact qN b4
  ·
   exact qN b3
 ·
  have hm := jGC s (zy (z : Int)) (zy ((p.den * q.den : Nat) : Int))
  rw [jCW s b4 b3 (jFF p q) _ hz, ← jGf] at hm
  exact Ev.bind hm (Ev.now _)
theorem jIf {p q : Rat} {m n : Nat} (hp : Sm p m) (hq : Sm q n) (h : m + n ≤ 512) : Ev (fun k => vG.f k (rn p) (rN p) (rD p) (rn q) (rN q) (rD q)) (rat4 (p * q)) := by
 unfold vG.f
 have m1 := jBR (rn p) (zy (p.num.natAbs : Int)) (zy (p.den : Int))
 have m2 := jBR (rn q) (zy (q.num.natAbs : Int)) (zy (q.den : Int))
 have t1 := jBt hp (by omega)
 have t2 := jBt hq (by omega)
 unfold rN rD at t1 t2
 rw [t1] at m1
 rw [t2] at m2
 refine Ev.bind m1 (Ev.pos rfl (Ev.bind m2 (Ev.step (fun k => by rw [vG.j0]) (Ev.neg (by simp) ?_))))
 obtain ⟨_, _, c3, c4⟩ := hp.cross hq
 have b3 := jAA c3 h
 have b4 := jAA c4 h
 have l1 := qN (jAA hp.1 (by omega))
 have l2 := qN (jAA hp.2 (by omega))
 have l3 := qN (jAA hq.1 (by omega))
 have l4 := qN (jAA hq.2 (by omega))
 have hd := jCx (zy (p.den : Int)) (zy (q.den : Int)) (by omega) (by omega)
 have hn := jCx (zy (p.num.natAbs : Int)) (zy (q.num.natAbs : Int)) (by omega) (by omega)
 rw [qM (by omega), qM (by omega), ← Int.natCast_mul] at hd hn
 refine Ev.bind hn (Ev.bind hd (Ev.vU (jIA ?_) (Ev.neg (by simp) ?_)))
 ·
  intro x hx
  simp only [List.mem_cons, List.not_mem_nil, or_false] at hx
  rcases hx with rfl | rfl
  ·
   exact qN b4
  ·
   exact qN b3
 ·
  have hm := jGC (rn p != rn q) (zy ((p.num.natAbs * q.num.natAbs : Nat) : Int)) (zy ((p.den * q.den : Nat) : Int))
  rw [jCW _ b4 b3 (jFF p q) (p.num * q.num) ?_, ← jGB] at hm
  ·
   exact Ev.bind hm (Ev.now _)
  ·
   rw [Int.natCast_mul]
   unfold rn
   by_cases h1 : p.num < 0
   ·
    have e1 : (p.num.natAbs : Int) = -p.num := by omega
    by_cases h2 : q.num < 0
    ·
     have e2 : (q.num.natAbs : Int) = -q.num := by omega
     simp [h1, h2, e1, e2, Int.neg_mul, Int.mul_neg]
    ·
     have e2 : (q.num.natAbs : Int) = q.num := by omega
     simp [h1, h2, e1, e2, Int.neg_mul, Int.mul_neg]
   ·
    have e1 : (p.num.natAbs : Int) = p.num := by omega
    by_cases h2 : q.num < 0
    ·
     have e2 : (q.num.natAbs : Int) = -q.num := by omega
     simp [h1, h2, e1, e2, Int.neg_mul, Int.mul_neg]
    ·
     have e2 : (q.num.natAbs : Int) = q.num := by omega
     simp [h1, h2, e1, e2, Int.neg_mul, Int.mul_neg]
theorem jHr {n : Int} (h0 : -9223372036854775808 ≤ n) (h1 : n ≤ 9223372036854775807) : zV.f n = some (rn (n : Rat), rN (n : Rat), rD (n : Rat)) := by
 have hs : zV.sz n = (n.natAbs : Int) := by
  unfold zV.sz
  simp only [IntKind.wrap_u64]
  split <;> omega
 unfold zV.f
 rw [hs, of_eq (n := (n.natAbs : Int)) ⟨by omega, by rw [B_eq]; omega⟩]
 show some (decide (n < 0), dg (n.natAbs : Int), [1]) = _
 have e1 : rD (n : Rat) = [1] := jCB (x := 1) (by decide) (by decide)
 rw [e1]
 rfl
theorem jCJ {l : List Int} (h : l.length ≤ 8) : zD.f l = some l := if_pos (by omega)
theorem r16 : rat4 (mkRat 1 6) = (false, [1], [6], 0) := by
 have e := jBX (n := 1) (d := 6) (by decide)
 have e1 : (mkRat 1 6).num = 1 := by rw [e.1]; decide
 have e2 : (mkRat 1 6).den = 6 := by rw [e.2]; decide
 unfold rat4 rn rN rD
 rw [e1, e2]
 have d1 : dg ((Int.natAbs 1 : Nat) : Int) = [1] := jCB (x := 1) (by decide) (by decide)
 have d2 : dg ((6 : Nat) : Int) = [6] := jCB (x := 6) (by decide) (by decide)
 rw [d1, d2]
 rfl
theorem r13 : rat4 (mkRat 1 3) = (false, [1], [3], 0) := by
 have e := jBX (n := 1) (d := 3) (by decide)
 have e1 : (mkRat 1 3).num = 1 := by rw [e.1]; decide
 have e2 : (mkRat 1 3).den = 3 := by rw [e.2]; decide
 unfold rat4 rn rN rD
 rw [e1, e2]
 have d1 : dg ((Int.natAbs 1 : Nat) : Int) = [1] := jCB (x := 1) (by decide) (by decide)
 have d2 : dg ((3 : Nat) : Int) = [3] := jCB (x := 3) (by decide) (by decide)
 rw [d1, d2]
 rfl
theorem r12 : rat4 (mkRat 1 6 + mkRat 1 3) = (false, [1], [2], 0) := by
 have e6 := jBX (n := 1) (d := 6) (by decide)
 have e61 : (mkRat 1 6).num = 1 := by rw [e6.1]; decide
 have e62 : (mkRat 1 6).den = 6 := by rw [e6.2]; decide
 have e3 := jBX (n := 1) (d := 3) (by decide)
 have e31 : (mkRat 1 3).num = 1 := by rw [e3.1]; decide
 have e32 : (mkRat 1 3).den = 3 := by rw [e3.2]; decide
 rw [jGf, e61, e62, e31, e32]
 have e := jBX (n := 1 * ((3 : Nat) : Int) + 1 * ((6 : Nat) : Int)) (d := 6 * 3) (by decide)
 have e1 : (mkRat (1 * ((3 : Nat) : Int) + 1 * ((6 : Nat) : Int)) (6 * 3)).num = 1 := by rw [e.1]; decide
 have e2 : (mkRat (1 * ((3 : Nat) : Int) + 1 * ((6 : Nat) : Int)) (6 * 3)).den = 2 := by rw [e.2]; decide
 unfold rat4 rn rN rD
 rw [e1, e2]
 have d1 : dg ((Int.natAbs 1 : Nat) : Int) = [1] := jCB (x := 1) (by decide) (by decide)
 have d2 : dg ((2 : Nat) : Int) = [2] := jCB (x := 2) (by decide) (by decide)
 rw [d1, d2]
 rfl
theorem jFi : Ev (fun k => zP.f k) true := by
 unfold zP.f
 have s6 : Sm (mkRat 1 6) 3 := jBT (by decide) (by decide) (by decide)
 have s3 : Sm (mkRat 1 3) 3 := jBT (by decide) (by decide) (by decide)
 have h := jGe s6 s3 (by decide)
 have h6 := r16
 have h3 := r13
 unfold rat4 at h6 h3
 simp only [Prod.mk.injEq] at h6 h3
 rw [h6.1, h6.2.1, h6.2.2.1, h3.1, h3.2.1, h3.2.2.1, r12] at h
 exact Ev.bind h (Ev.pos rfl (Ev.bind (jJQ (by decide) (by decide) ⟨rfl, rfl, rfl⟩) (Ev.now _)))
end Go.Proofs.Ytijgeonhbmgikaa.EORatioField
end
section
set_option linter.unusedVariables false
set_option linter.unusedSimpArgs false
namespace Go.Proofs.Ytijgeonhbmgikaa.EORatioField
open Go.RowKit Go.Proofs.Ytijgeonhbmgikaa.PORatioField Go.Proofs.YtijgeonhbmgikaaN Go.Proofs.YtijgeonhbmgikaaW.PrintWords Go.Proofs.YtijgeonhbmgikaaW.PrintLast Go.Proofs.YtijgeonhbmgikaaW.PrintMore
theorem jHD (neg : Bool) {a b : List Int} (ha : Ok a) (hb : Ok b) : Ev (fun k => vk.f k neg a b) (jFT neg a b) := by
 unfold vk.f jFT
 have hg := jIV ha hb
 unfold gcdd at hg
 by_cases hh : Held a ∧ Held b
 ·
  rw [if_pos hh] at hg ⊢
  refine Ev.bind hg (Ev.pos rfl ?_)
  have a0 := jq ha
  have b0 := jq hb
  by_cases hz : val b = 0
  ·
   rw [if_pos hz]
   have hl : (b.length : Int) = 0 := by
    have e := hh.2.dg hb
    rw [hz, jAe] at e
    rw [← e]; rfl
   exact Ev.pos hl (Ev.now _)
  ·
   rw [if_neg hz]
   have hl : ¬ (b.length : Int) = 0 := fun h => hz (by rw [List.eq_nil_of_length_eq_zero (l := b) (by omega)]; rfl)
   have hgp := jCG a0 b0 (.inr hz)
   obtain ⟨e1, e2⟩ := jCz ha hb hh.1 hh.2 hz
   have d1 := jEO ha (zy (gcdv (val a) (val b)))
   have d2 := jEO hb (zy (gcdv (val a) (val b)))
   rw [e1] at d1
   rw [e2] at d2
   refine Ev.neg hl (Ev.bind d1 (Ev.bind d2 ?_))
   have q0 := Int.ediv_nonneg a0 (Int.le_of_lt hgp)
   have hb0 : 0 < val b := by omega
   cases neg with
   | true =>
    refine Ev.pos rfl (Ev.eq (Ev.now _) ?_)
    show (decide (((dg (val a / gcdv (val a) (val b))).length : Int) > 0), _, _, (0 : Int)) = _
    rw [jDB q0, jEy a0 hb0]
    simp
   | false => exact Ev.neg (by simp) (Ev.eq (Ev.now _) (by simp))
 ·
  rw [if_neg hh] at hg ⊢
  exact Ev.bind hg (Ev.neg (by decide) (Ev.now _))
theorem jFz {x : Nat} (h : 0 < x) (hB : (x : Int) < B) : [(x : Int)] = dg (x : Int) := (jCB (by omega) hB).symm
def sgn (neg : Bool) (x : Nat) : Int := if neg = true then -(x : Int) else x
theorem jDM (neg : Bool) (x : Nat) : (sgn neg x).natAbs = x := by unfold sgn; cases neg <;> simp
theorem jHR (neg : Bool) {x y : Nat} (hx : x < 4294967296) (hy : y < 4294967296) : Ev (fun k => ze.f k neg (x : Int) (y : Int)) (rn (mkRat (sgn neg x) (y + 1)), rN (mkRat (sgn neg x) (y + 1)), rD (mkRat (sgn neg x) (y + 1))) := by
 have hxB : (x : Int) < B := by rw [B_eq]; omega
 have hyB : ((y + 1 : Nat) : Int) < B := by rw [B_eq]; omega
 have w1 : IntKind.u64.wrap (x : Int) = (x : Int) := jAw (by omega) hxB
 have w2 : IntKind.u64.wrap (y : Int) = (y : Int) := jAw (by omega) (by omega)
 have w3 : IntKind.u64.wrap ((y : Int) + 1) = ((y + 1 : Nat) : Int) := by rw [jAw (by omega) (by omega)]; omega
 unfold ze.f
 rw [w1, w2, w3]
 have ht := jCF (Ok.one (x := (x : Int)) (by omega) hxB) (by simp)
 rw [val_one] at ht
 refine Ev.bind ht ?_
 have hm := jHD neg (zy (x : Int)) (Ok.one (x := ((y + 1 : Nat) : Int)) (by omega) hyB)
 rw [jFz (by omega) hyB, jCW neg (by have := B8; omega) (by have := B8; omega) (by omega) (sgn neg x) rfl] at hm
 rw [jFz (by omega) hyB]
 exact Ev.bind hm (Ev.now _)
theorem jBu (neg : Bool) {x y m : Nat} (hx : x < 2 ^ m) (hy : y + 1 < 2 ^ m) : Sm (mkRat (sgn neg x) (y + 1)) m := jBT (by omega) (by rw [jDM]; exact hx) hy
theorem jIc {q : Rat} {m : Nat} (h : Sm q m) (hm : m ≤ 512) : qP.f (rn q) (rN q) (rD q) = some (rn (-q), rN (-q), rD (-q)) := by
 have h1 := qN (jAA h.1 hm)
 have h2 := qN (jAA h.2 hm)
 have e1 : rN (-q) = rN q := by unfold rN; rw [Rat.neg_num, Int.natAbs_neg]
 have e2 : rD (-q) = rD q := by unfold rD; rw [Rat.neg_den]
 have hz : zF.f (rn q) (rN q) (rD q) = some (decide (q.num = 0)) := by
  unfold zF.f rN
  rw [jCI (by omega)]
  congr 1
  rw [decide_eq_decide]
  omega
 unfold qP.f
 rw [hz, e1, e2, zi, jCJ (l := rN q) (by unfold rN; omega), zi, jCJ (l := rD q) (by unfold rD; omega), zi]
 refine congrArg (fun b => some (b, rN q, rD q)) ?_
 unfold rn
 rw [Rat.neg_num]
 by_cases h1 : q.num < 0
 ·
  rw [decide_eq_true h1, decide_eq_false (show ¬ q.num = 0 by omega), decide_eq_false (show ¬ -q.num < 0 by omega)]; rfl
 ·
  by_cases h2 : q.num = 0
  ·
   rw [h2]; rfl
  ·
   rw [decide_eq_false h1, decide_eq_false h2, decide_eq_true (show -q.num < 0 by omega)]; rfl
end Go.Proofs.Ytijgeonhbmgikaa.EORatioField
end
section
set_option linter.unusedVariables false
set_option linter.unusedSimpArgs false
namespace Go.Proofs.YtijgeonhbmgikaaN
open Go.ChangeShapes Go.WideShapes Go.ChangeAt Go.RowKit Go.Proofs.YtijgeonhbmgikaaW.PrintWords
def Opens (P : Program) (t : TypeId) {α : Type} (K : Kd α) (p : α → Prop) : Prop :=
 ∀ (H : Type) (enc : TypeId × Value → H) (w : World) (base : Nat) (spare : Nat → Bool) (held : Bool) (fuel : Nat) (cs : List Value) (x : DataW H × List MemPlace), DataW.trod enc P w base spare held fuel t cs = some x → ∃ a, K.K w a cs ∧ p a
namespace Opens
theorem jEZ {α : Type} {n : Nat} {Q : Nat → α → Prop} (h : ∀ i, i < n → ∃ a, Q i a) : ∃ l : List α, l.length = n ∧ ∀ i x, l[i]? = some x → Q i x := by
 induction n with
 | zero => exact ⟨[], rfl, fun i x hx => by simp at hx⟩
 | succ n ih =>
  obtain ⟨l, hl, hq⟩ := ih (fun i hi => h i (by omega))
  obtain ⟨a, ha⟩ := h n (by omega)
  refine ⟨l ++ [a], by simp [hl], fun i x hx => ?_⟩
  by_cases hi : i < l.length
  ·
   rw [List.getElem?_append_left hi] at hx; exact hq i x hx
  ·
   rw [List.getElem?_append_right (by omega)] at hx
   have h1 : i - l.length < [a].length := (List.getElem?_eq_some_iff.1 hx).1
   have h2 : i - l.length = 0 := by simpa using h1
   rw [h2] at hx
   obtain rfl := Option.some.inj hx
   have : i = n := by omega
   subst this
   exact ha
theorem add_add (a : Addr) (m n : Nat) : (a.add m).add n = a.add (m + n) := by
 unfold Addr.add
 by_cases hn : n = 0
 ·
  subst hn; simp
 ·
  by_cases hm : m = 0
  ·
   subst hm; simp
  ·
   rw [if_neg hn, if_neg hm, if_neg (by omega)]
   simp [Nat.add_assoc]
section
variable {P : Program} {t e : TypeId} {α β γ δ : Type} {K : Kd α} {p : α → Prop} {K0 : Kd α} {K1 : Kd β} {K2 : Kd γ} {p0 : α → Prop} {p1 : β → Prop} {p2 : γ → Prop}
theorem imp {q : α → Prop} (h : Opens P t K p) (hq : ∀ x, p x → q x) : Opens P t K q := fun _ _ _ _ _ _ _ _ _ h0 => let ⟨a, ka, pa⟩ := h _ _ _ _ _ _ _ _ _ h0; ⟨a, ka, hq a pa⟩
theorem int {k : IntKind} (ht : P.underlying t = some (.int k)) : Opens P t (Kd.int k) (fun n => (Lit.int k n).wf = true) := by
 intro H enc w base spare held fuel cs x h
 obtain ⟨n, rfl, _, hw⟩ := DataW.trod_int ht h
 exact ⟨n, rfl, hw⟩
theorem bool (ht : P.underlying t = some .bool) : Opens P t Kd.bool (fun _ => True) := by
 intro H enc w base spare held fuel cs x h
 obtain ⟨n, rfl, _⟩ := DataW.trod_bool ht h
 exact ⟨n, rfl, trivial⟩
theorem row {H : Type} {enc : TypeId × Value → H} {w : World} {base : Nat} {spare : Nat → Bool} {held : Bool} {fuel : Nat} {cs : List Value} {x : DataW H × List MemPlace} (ht : P.underlying t = some (.slice e)) (hc : P.cellsOf e = K.sz) (he : Opens P e K p) (h : DataW.trod enc P w base spare held fuel t cs = some x) :
  ∃ A c l, cs = [.slice A l.length c] ∧ l.length ≤ c ∧ K.C w A l.length l ∧ l.length ≤ maxLen ∧ ∀ x ∈ l, p x := by
 rcases DataW.trod_slice ht h with ⟨rfl, _⟩ | ⟨a, len, cap, elems, rest, n, _, rfl, rfl, hb, hl, hm, hlen, hel, hsp, hns⟩
 ·
  exact ⟨none, 0, [], rfl, Nat.le_refl _, ⟨rfl, (show (0 : Nat) ≤ 9223372036854775807 by decide), fun h => absurd h (Nat.lt_irrefl _)⟩, Nat.zero_le _, fun x hx => absurd hx List.not_mem_nil⟩
 ·
  obtain ⟨l, hll, hq⟩ := jEZ (n := len) (Q := fun i v => ∃ c, w.cells? base (a.add (i * K.sz)) K.sz = some c ∧ K.K w v c ∧ p v) (fun i hi => by
   have h1 := hel i hi
   rw [List.getElem?_eq_getElem (by omega), Option.bind_eq_some_iff, hc] at h1
   obtain ⟨c, h2, h3⟩ := h1
   obtain ⟨v, h4, h5⟩ := he _ _ _ _ _ _ _ _ _ h3
   exact ⟨v, c, h2, h4, h5⟩)
  subst hll
  refine ⟨some a, cap, l, rfl, hl, ⟨rfl, by unfold maxLen at hm; omega, fun _ => ⟨a, rfl, fun j v hj => ?_⟩⟩, Nat.le_trans hl hm, fun x hx => ?_⟩
  ·
   obtain ⟨c, h2, h4, _⟩ := hq j v hj
   obtain ⟨_, h6, h7⟩ := World.cells?_some h2
   refine ⟨c, h6, h4, fun i u hu => ?_⟩
   have hi : i < K.sz := by rw [← h6]; exact (List.getElem?_eq_some_iff.1 hu).1
   rw [← add_add, h7 i hi, hu]
  ·
   obtain ⟨i, hi, rfl⟩ := List.getElem_of_mem hx
   obtain ⟨_, _, _, h5⟩ := hq i _ (List.getElem?_eq_getElem hi)
   exact h5
theorem slice (ht : P.underlying t = some (.slice e)) (hc : P.cellsOf e = K.sz) (he : Opens P e K p) : Opens P t (Kd.slice e K) (fun l => l.length ≤ maxLen ∧ ∀ x ∈ l, p x) := by
 intro H enc w base spare held fuel cs x h
 obtain ⟨A, c, l, rfl, h1, h2, h3, h4⟩ := row ht hc he h
 exact ⟨l, ⟨A, c, rfl, h1, h2⟩, h3, h4⟩
theorem struct3 {f0 f1 f2 : Field} (f : δ → α × (β × γ)) (g : α → β → γ → δ) (hfg : ∀ a b c, f (g a b c) = (a, (b, c))) (ht : P.underlying t = some (.struct #[f0, f1, f2])) (o0 : f0.offset = 0) (o1 : f1.offset = K0.sz) (o2 : f2.offset = K0.sz + K1.sz) (c0 : P.cellsOf f0.type = K0.sz) (c1 : P.cellsOf f1.type = K1.sz) (c2 : P.cellsOf f2.type = K2.sz) (hct : P.cellsOf t = K0.sz + (K1.sz + K2.sz))
  (h0 : Opens P f0.type K0 p0) (h1 : Opens P f1.type K1 p1) (h2 : Opens P f2.type K2 p2) : Opens P t (Kd.iso (Kd.pair K0 (Kd.pair K1 K2)) f) (fun x => p0 (f x).1 ∧ (p1 (f x).2.1 ∧ p2 (f x).2.2)) := by
 intro H enc w base spare held fuel cs x h
 obtain ⟨y0, y1, y2, n, _, hl, e0, e1, e2⟩ := Go.Deep.trod_struct3 ht h
 obtain ⟨a, ka, pa⟩ := h0 _ _ _ _ _ _ _ _ _ e0
 obtain ⟨b, kb, pb⟩ := h1 _ _ _ _ _ _ _ _ _ e1
 obtain ⟨c, kc, pc⟩ := h2 _ _ _ _ _ _ _ _ _ e2
 rw [o0, c0, List.drop_zero] at ka
 rw [o1, c1] at kb
 rw [o2, c2, List.take_of_length_le (by rw [List.length_drop, hl, hct]; omega), ← List.drop_drop] at kc
 refine ⟨g a b c, ?_, ?_⟩
 ·
  show (Kd.pair K0 (Kd.pair K1 K2)).K w (f (g a b c)) cs
  rw [hfg]
  exact ⟨cs.take K0.sz, cs.drop K0.sz, (List.take_append_drop _ _).symm, ka, (cs.drop K0.sz).take K1.sz, (cs.drop K0.sz).drop K1.sz, (List.take_append_drop _ _).symm, kb, kc⟩
 ·
  show p0 (f (g a b c)).1 ∧ (p1 (f (g a b c)).2.1 ∧ p2 (f (g a b c)).2.2)
  rw [hfg]; exact ⟨pa, pb, pc⟩
theorem jGd {H : Type} {enc : TypeId × Value → H} {w : World} {base : Nat} {spare : Nat → Bool} {held : Bool} {fuel n : Nat} {cs : List Value} {x : DataW H × List MemPlace} (ht : P.underlying t = some (.array n e)) (h : DataW.trod enc P w base spare held fuel t cs = some x) : cs.length = P.cellsOf t := by
 cases fuel with
 | zero => simp [DataW.trod] at h
 | succ m =>
  unfold DataW.trod at h
  rw [ht] at h
  split at h <;> simp_all
theorem array3 (f : δ → α × (α × α)) (g : α → α → α → δ) (hfg : ∀ a b c, f (g a b c) = (a, (b, c))) (ht : P.underlying t = some (.array 3 e)) (hce : P.cellsOf e = 1) (hct : P.cellsOf t = 3)
  (he : Opens P e K p) : Opens P t (Kd.iso (Kd.pair K (Kd.pair K K)) f) (fun x => p (f x).1 ∧ (p (f x).2.1 ∧ p (f x).2.2)) := by
 intro H enc w base spare held fuel cs x h
 have hl := jGd ht h
 rw [hct] at hl
 match cs, hl with
 | [c0, c1, c2], _ =>
  obtain ⟨y0, y1, y2, n, _, e0, e1, e2⟩ := trod_array3 ht hce h
  obtain ⟨a, ka, pa⟩ := he _ _ _ _ _ _ _ _ _ e0
  obtain ⟨b, kb, pb⟩ := he _ _ _ _ _ _ _ _ _ e1
  obtain ⟨c, kc, pc⟩ := he _ _ _ _ _ _ _ _ _ e2
  refine ⟨g a b c, ?_, ?_⟩
  ·
   show (Kd.pair K (Kd.pair K K)).K w (f (g a b c)) _
   rw [hfg]
   exact ⟨[c0], [c1, c2], rfl, ka, [c1], [c2], rfl, kb, kc⟩
  ·
   show p (f (g a b c)).1 ∧ (p (f (g a b c)).2.1 ∧ p (f (g a b c)).2.2)
   rw [hfg]; exact ⟨pa, pb, pc⟩
variable {H : Type} {enc : TypeId × Value → H} {w : World} {base : Nat} {spare : Nat → Bool} {held : Bool} {r : Reach} {b0 : Nat} {v : Value} {d : DataW H} {ps : List MemPlace}
theorem arg_struct {fs : Array Field} (ht : P.underlying t = some (.struct fs)) (he : Opens P t K p) (hv : Value.okWide P w r b0 t v) (h : DataW.Trod enc P w base spare held t v d ps) : ∃ cs a, v = .agg ⟨cs⟩ ∧ K.K w a cs ∧ p a := by
 obtain ⟨cs, rfl, _⟩ : ∃ cs, v = .agg cs ∧ cs.size = P.cellsOf t ∧ Row.okWide P w r b0 t cs := by
  simpa [Value.okWide, ht] using hv
 obtain ⟨fuel, hf⟩ := h
 obtain ⟨l⟩ := cs
 obtain ⟨a, h1⟩ := he _ _ _ _ _ _ _ _ _ hf
 exact ⟨l, a, rfl, h1⟩
end
end Opens
end Go.Proofs.YtijgeonhbmgikaaN
end
