/- What the program's and the references' functions on rows of limbs come to, as numbers. -/
import Derived.Test.YtmknpclfanblfaaPONatTellsx
import Derived.Test.YtmknpclfanblfaaNumB
set_option linter.unusedVariables false
set_option linter.unusedSimpArgs false
namespace Go.Proofs.Ytmknpclfanblfaa.EONatTells
open Go.RowKit Go.Proofs.Ytmknpclfanblfaa.PONatTells Go.Proofs.YtmknpclfanblfaaN Go.Proofs.YtmknpclfanblfaaW.PrintWords Go.Proofs.YtmknpclfanblfaaW.PrintLast Go.Proofs.YtmknpclfanblfaaW.PrintMore

theorem w64 {x : Int} (h : -4611686018427387904 ≤ x ∧ x ≤ 4611686018427387904) : wrap64 x = x := by unfold wrap64; omega
theorem rd_nat (l : List Int) (n : Nat) : rd l (n : Int) = l.getD n 0 := rfl
theorem rd_ok {l : List Int} (h : Ok l) (i : Int) : 0 ≤ rd l i ∧ rd l i < B := h.at _
theorem some_bind {α β : Type} (a : α) (f : α → Option β) : (some a).bind f = f a := rfl
theorem Ev.some_bind {α β : Type} {a : α} {f : Nat → α → Option β} {r : β} (h : Ev (fun k => f k a) r) : Ev (fun k => (some a).bind (f k)) r := h
theorem Ev.pos {α : Type} {c : Prop} [Decidable c] {f g : Nat → Option α} {r : α} (hc : c) (h : Ev f r) : Ev (fun k => if c then f k else g k) r := by
  simp only [if_pos hc]; exact h
theorem Ev.neg {α : Type} {c : Prop} [Decidable c] {f g : Nat → Option α} {r : α} (hc : ¬ c) (h : Ev g r) : Ev (fun k => if c then f k else g k) r := by
  simp only [if_neg hc]; exact h
theorem Ev.const {α : Type} {g : Option α} {r : α} (h : g = some r) : Ev (fun _ => g) r := ⟨0, fun _ _ => h⟩
theorem Ev.bind_const {α β : Type} {g : Option α} {f : Nat → α → Option β} {a : α} {r : β} (h : g = some a) (k : Ev (fun n => f n a) r) : Ev (fun n => g.bind (f n)) r := by
  rw [h]; exact k
theorem ok_of_wf {l : List Int} (h : ∀ x ∈ l, (Lit.int .u64 x).wf = true) : Ok l := fun x hx => by
  have := h x hx
  simp [Lit.wf, IntKind.min, IntKind.max, IntKind.signed, IntKind.bits] at this
  rw [B_eq]
  omega

theorem ad_ac {x y c : Int} (hx : 0 ≤ x ∧ x < B) (hy : 0 ≤ y ∧ y < B) (hc : 0 ≤ c ∧ c ≤ 1) : ad64 x y c + B * ac64 x y c = x + y + c ∧ (0 ≤ ad64 x y c ∧ ad64 x y c < B) ∧ 0 ≤ ac64 x y c ∧ ac64 x y c ≤ 1 := by
  unfold ad64 ac64
  rw [B_eq] at *
  omega
theorem ac_small {c : Int} (hc : 0 ≤ c ∧ c ≤ 1) : ac64 0 0 c = 0 := by
  unfold ac64
  omega

/-! trim -/
theorem trim_go : ∀ (n : Nat) (l : List Int), l.length = n → n ≤ 17592186044416 → Ok l → ∀ k, n < k → limb_trim.l0 k l = some (dg (val l)) := by
  intro n
  induction n with
  | zero =>
    intro l hl _ _ k hk
    obtain ⟨k, rfl⟩ : ∃ m, k = m + 1 := ⟨k - 1, by omega⟩
    obtain rfl : l = [] := List.eq_nil_of_length_eq_zero hl
    rw [val_nil, dg_zero]
    rfl
  | succ n ih =>
    intro l hl hn ho k hk
    obtain ⟨k, rfl⟩ : ∃ m, k = m + 1 := ⟨k - 1, by omega⟩
    have hw : wrap64 ((l.length : Int) - 1) = (n : Int) := by rw [w64 (by omega)]; omega
    simp only [limb_trim.l0, hw]
    rw [if_pos (by omega), if_pos (by omega), if_pos (by omega), rd_nat]
    by_cases hz : l.getD n 0 = 0
    · rw [if_pos hz, if_pos (by omega), Int.toNat_natCast, ih (l.take n) (by rw [List.length_take]; omega) (by omega) (ho.take n) k (by omega)]
      have e := val_take_drop l n (by omega)
      rw [val_drop (by omega), hz, List.drop_eq_nil_of_le (by omega), val_nil] at e
      rw [e]
      simp
    · rw [if_neg hz, dg_val ho (.inr (by rw [hl]; exact hz))]
theorem trim_ev {l : List Int} (ho : Ok l) (hl : l.length ≤ 17592186044416) : Ev (fun k => limb_trim.f k l) (dg (val l)) := ⟨l.length + 1, fun k hk => trim_go l.length l rfl hl ho k (by omega)⟩
theorem clone_dg {l : List Int} (hl : l.length < 17592186044416) : slices_Clone_uint64_uint64.f l = some l := if_pos hl
theorem Trim_ev {l : List Int} (ho : Ok l) (hl : l.length < 17592186044416) : Ev (fun k => limb_Trim.f k l) (dg (val l)) := by
  unfold limb_Trim.f
  exact Ev.bind (trim_ev ho (by omega)) (Ev.bind_const (clone_dg (by have := dg_len_val ho; omega)) (Ev.now _))

/-! Same -/
theorem same_go (a b : List Int) (hab : a.length = b.length) (hl : a.length ≤ 17592186044416) : ∀ (d i : Nat), a.length - i = d → i ≤ a.length → ∀ k, d < k → syzygyref01_Same.l0 k a b i = some (decide (a.drop i = b.drop i)) := by
  intro d
  induction d with
  | zero =>
    intro i hd hi k hk
    obtain ⟨k, rfl⟩ : ∃ m, k = m + 1 := ⟨k - 1, by omega⟩
    simp only [syzygyref01_Same.l0]
    rw [if_neg (by omega), List.drop_eq_nil_of_le (by omega), List.drop_eq_nil_of_le (by omega)]
    simp
  | succ d ih =>
    intro i hd hi k hk
    obtain ⟨k, rfl⟩ : ∃ m, k = m + 1 := ⟨k - 1, by omega⟩
    simp only [syzygyref01_Same.l0]
    rw [if_pos (by omega), if_pos (by omega), if_pos (by omega), rd_nat, rd_nat, w64 (by omega)]
    have ha : i < a.length := by omega
    have hb : i < b.length := by omega
    have e1 : a.getD i 0 = a[i] := by rw [List.getD_eq_getElem?_getD, List.getElem?_eq_getElem ha]; rfl
    have e2 : b.getD i 0 = b[i] := by rw [List.getD_eq_getElem?_getD, List.getElem?_eq_getElem hb]; rfl
    have e3 : (a.drop i = b.drop i) = (a[i] = b[i] ∧ a.drop (i + 1) = b.drop (i + 1)) := by rw [List.drop_eq_getElem_cons ha, List.drop_eq_getElem_cons hb, List.cons.injEq]
    simp only [e1, e2, e3]
    by_cases h : a[i] = b[i]
    · rw [if_pos h, show ((i : Int) + 1) = ((i + 1 : Nat) : Int) from by omega, ih (i + 1) (by omega) (by omega) k (by omega)]
      simp only [h, true_and]
    · rw [if_neg h]
      simp only [h, false_and, decide_false]
theorem same_ev (a b : List Int) (hl : a.length ≤ 17592186044416) : Ev (fun k => syzygyref01_Same.f k a b) (decide (a = b)) := by
  unfold syzygyref01_Same.f
  by_cases h : a.length = b.length
  · refine Ev.pos (by omega) ⟨a.length + 1, fun k hk => ?_⟩
    have := same_go a b h hl a.length 0 (by omega) (by omega) k (by omega)
    simpa using this
  · refine Ev.neg (by omega) ?_
    have : a ≠ b := fun e => h (by rw [e])
    simp only [this, decide_false]
    exact Ev.now _

/-! Add -/
theorem add_val {v p s t y c c' r r' : Int} (h1 : s + B * c' = t + y + c) (h2 : r = y + B * r') : v + p * (s - t) + p * B * (c' + r') = v + p * (c + r) := by
  have e : s - t + B * (c' + r') = c + r := by rw [Int.mul_add]; omega
  have e2 : p * (c + r) = p * (s - t) + p * (B * (c' + r')) := by rw [← e, Int.mul_add]
  rw [e2, Int.mul_assoc, Int.add_assoc]
theorem getD_none {l : List Int} {i : Nat} (h : l.length ≤ i) : l.getD i 0 = 0 := by rw [List.getD_eq_getElem?_getD, List.getElem?_eq_none h]; rfl
theorem getD_snoc_last (l : List Int) (x : Int) : (l ++ [x]).getD l.length 0 = x := by simp
theorem add_more {b x : List Int} {c : Int} {i : Nat} (hi : i = x.length) (hx : x.length < 17592186044416) (hb : b.length < 17592186044416) (hc : c ≤ 1) (k : Nat) :
    limb_Add.j1 (k + 1) b x c i true = limb_Add.l0 k b ((x ++ [0]).set i (ad64 ((x ++ [0]).getD i 0) (b.getD i 0) c)) (ac64 ((x ++ [0]).getD i 0) (b.getD i 0) c) ((i + 1 : Nat) : Int) := by
  have e64 : wrap64 ((i : Int) + 1) = ((i + 1 : Nat) : Int) := by rw [w64 (by omega)]; omega
  have hl : (x ++ [0]).length = x.length + 1 := by rw [List.length_append]; rfl
  simp only [limb_Add.j1, e64, some_bind]
  generalize x ++ [0] = y at *
  rw [if_pos trivial, if_pos (by omega), if_pos (by omega)]
  by_cases hib : i < b.length
  · rw [if_pos (by omega), if_pos (by omega), if_pos (by omega), if_pos hc, rd_nat, rd_nat, Int.toNat_natCast]
  · rw [if_neg (by omega), if_pos (by omega), if_pos (by omega), if_pos hc, rd_nat, Int.toNat_natCast, getD_none (by omega : b.length ≤ i)]
theorem add_here {b x : List Int} {c : Int} {i : Nat} (hi : i < x.length) (hx : x.length < 17592186044416) (hb : b.length < 17592186044416) (hc : c ≤ 1) (k : Nat) :
    limb_Add.j1 (k + 1) b x c i true = limb_Add.l0 k b (x.set i (ad64 (x.getD i 0) (b.getD i 0) c)) (ac64 (x.getD i 0) (b.getD i 0) c) ((i + 1 : Nat) : Int) := by
  have e64 : wrap64 ((i : Int) + 1) = ((i + 1 : Nat) : Int) := by rw [w64 (by omega)]; omega
  simp only [limb_Add.j1, e64]
  rw [if_pos trivial, if_neg (by omega)]
  by_cases hib : i < b.length
  · rw [if_pos (by omega), if_pos (by omega), if_pos (by omega), if_pos hc, rd_nat, rd_nat, Int.toNat_natCast]
  · rw [if_neg (by omega), if_pos (by omega), if_pos (by omega), if_pos hc, rd_nat, Int.toNat_natCast, getD_none (by omega : b.length ≤ i)]
theorem add_go (b : List Int) (M : Nat) (hb : Ok b) (hbM : b.length ≤ M) (hM : M < 4294967296 + 4294967296) : ∀ (d : Nat) (x : List Int) (c : Int) (i : Nat), M + 1 - i = d → Ok x → i ≤ x.length → x.length ≤ max M i → (0 ≤ c ∧ c ≤ 1) → (i ≤ M ∨ c = 0 ∧ i = M + 1) →
    Ev (fun k => limb_Add.l0 k b x c i) (dg (val x + B ^ i * (c + val (b.drop i)))) := by
  intro d
  induction d with
  | zero =>
    intro x c i hd hx hix hxl hc hi
    obtain ⟨rfl, hi⟩ : c = 0 ∧ i = M + 1 := by omega
    refine Ev.step (f := fun k => limb_Add.j1 k b x 0 i (decide ((0 : Int) > 0))) (fun k => by simp only [limb_Add.l0]; rw [if_neg (by omega)]) (Ev.step (f := fun k => (limb_trim.f k x).bind fun t => some t) (fun k => by simp only [limb_Add.j1]; rw [if_neg (by simp)]) ?_)
    rw [List.drop_eq_nil_of_le (by omega), val_nil]
    simp only [Int.add_zero, Int.mul_zero]
    exact Ev.bind (trim_ev hx (by omega)) (Ev.now _)
  | succ d ih =>
    intro x c i hd hx hix hxl hc hi
    by_cases hgo : i < b.length ∨ 0 < c
    · have h0 : ∀ k, limb_Add.l0 (k + 1) b x c i = limb_Add.j1 k b x c i true := by
        intro k
        simp only [limb_Add.l0]
        by_cases hib : i < b.length
        · rw [if_pos (by omega)]
        · rw [if_neg (by omega), decide_eq_true (by omega)]
      refine Ev.step h0 ?_
      have hy : 0 ≤ b.getD i 0 ∧ b.getD i 0 < B := hb.at i
      obtain ⟨x', hx', hvx, hl1, hl2, hstep⟩ : ∃ x', Ok x' ∧ val x' = val x ∧ i < x'.length ∧ x'.length ≤ max M (i + 1) ∧
          ∀ k, limb_Add.j1 (k + 1) b x c i true = limb_Add.l0 k b (x'.set i (ad64 (x'.getD i 0) (b.getD i 0) c)) (ac64 (x'.getD i 0) (b.getD i 0) c) ((i + 1 : Nat) : Int) := by
        by_cases hx1 : x.length = i
        · have hl : (x ++ [0]).length = x.length + 1 := by rw [List.length_append]; rfl
          exact ⟨x ++ [0], hx.append (Ok.one (Int.le_refl _) B_pos), val_zero_snoc x, by omega, by omega, add_more hx1.symm (by omega) (by omega) hc.2⟩
        · exact ⟨x, hx, rfl, by omega, by omega, add_here (by omega) (by omega) (by omega) hc.2⟩
      refine Ev.step hstep ?_
      have hxi := hx'.at i
      obtain ⟨hs, hok, hcc⟩ := ad_ac hxi hy hc
      have hr : val (b.drop i) = b.getD i 0 + B * val (b.drop (i + 1)) := by
        by_cases hib : i < b.length
        · exact val_drop hib
        · rw [List.drop_eq_nil_of_le (by omega), List.drop_eq_nil_of_le (by omega), getD_none (by omega), val_nil]; simp
      have hval : val x + B ^ i * (c + val (b.drop i)) = val (x'.set i (ad64 (x'.getD i 0) (b.getD i 0) c)) + B ^ (i + 1) * (ac64 (x'.getD i 0) (b.getD i 0) c + val (b.drop (i + 1))) := by
        rw [val_set hl1, hvx, Bpow_succ, add_val hs hr]
      rw [hval]
      have hsl : (x'.set i (ad64 (x'.getD i 0) (b.getD i 0) c)).length = x'.length := List.length_set
      refine ih _ _ (i + 1) (by omega) (hx'.set i hok.1 hok.2) (by omega) (by omega) hcc ?_
      by_cases hiM : i < M
      · exact .inl (by omega)
      · refine .inr ⟨?_, by omega⟩
        have hx1 : x'.getD i 0 = 0 := by
          -- the row was just made longer
          have hxi' : x.length = i := by omega
          have hlen : x'.length = i + 1 := by omega
          have e := val_take_drop x' i (by omega)
          rw [val_drop (by omega), List.drop_eq_nil_of_le (by omega), val_nil] at e
          have h1 : val x < B ^ i := by rw [← hxi']; exact val_lt hx
          rw [hvx] at e
          have h2 := val_nonneg (hx'.take i)
          have hp := Bpow_pos i
          rcases Int.lt_or_le 0 (x'.getD i 0) with h3 | h3
          · have : B ^ i * 1 ≤ B ^ i * (x'.getD i 0) := Int.mul_le_mul_of_nonneg_left (by omega) (by omega)
            simp only [Int.mul_zero, Int.add_zero] at e
            omega
          · omega
        rw [hx1, getD_none (by omega)]
        exact ac_small hc
    · have hc0 : c = 0 := by omega
      subst hc0
      refine Ev.step (f := fun k => limb_Add.j1 k b x 0 i (decide ((0 : Int) > 0))) (fun k => by simp only [limb_Add.l0]; rw [if_neg (by omega)]) (Ev.step (f := fun k => (limb_trim.f k x).bind fun t => some t) (fun k => by simp only [limb_Add.j1]; rw [if_neg (by simp)]) ?_)
      rw [List.drop_eq_nil_of_le (by omega), val_nil]
      simp only [Int.add_zero, Int.mul_zero]
      exact Ev.bind (trim_ev hx (by omega)) (Ev.now _)
theorem dg_len0 {n : Int} (h : 0 ≤ n) : (((dg n).length : Int) = 0) ↔ n = 0 := by
  rw [← dg_nil_iff h]
  constructor
  · intro e; exact List.eq_nil_of_length_eq_zero (by omega)
  · intro e; rw [e]; rfl
theorem add_ev {a b : List Int} (ha : Ok a) (hb : Ok b) (hal : a.length ≤ 4294967296) (hbl : b.length ≤ 4294967296) : Ev (fun k => limb_Add.f k a b) (dg (val a + val b)) := by
  unfold limb_Add.f
  refine Ev.bind (trim_ev ha (by omega)) ?_
  have h0 := val_nonneg ha
  by_cases hz : val a = 0
  · refine Ev.pos ((dg_len0 h0).2 hz) ?_
    rw [hz, Int.zero_add]
    exact Ev.bind (Trim_ev hb (by omega)) (Ev.now _)
  · refine Ev.neg (fun e => hz ((dg_len0 h0).1 e)) (Ev.bind (Trim_ev ha (by omega)) ?_)
    have hl := dg_len_val ha
    have h := add_go b (max a.length b.length) hb (by omega) (by omega) _ (dg (val a)) 0 0 rfl (ok_dg _) (by omega) (by omega) (by omega) (by omega)
    simpa [val_dg h0] using h
theorem ok_lit1 : Ok [18446744073709551615] := by decide
theorem ok_lit2 : Ok [1] := by decide
theorem dg_B : dg B = [0, 1] := by
  have h := dg_cons (x := 0) (n := 1) (Int.le_refl _) B_pos (by decide) (by decide)
  have h1 := dg_cons (x := 1) (n := 0) (by decide) (by decide) (by decide) (by decide)
  simp only [Int.mul_one, Int.zero_add, Int.mul_zero, Int.add_zero] at h h1
  rw [h, h1, dg_zero]
/-! Cmp -/
theorem cmp_lt {a b : List Int} (ha : Ok a) (hb : Ok b) {i : Nat} (hab : a.length = b.length) (hi : i < a.length) (hd : a.drop (i + 1) = b.drop (i + 1)) (h : a.getD i 0 < b.getD i 0) : val a < val b := by
  have e1 := val_take_drop a i (by omega)
  have e2 := val_take_drop b i (by omega)
  rw [val_drop hi] at e1
  rw [val_drop (by omega)] at e2
  rw [hd] at e1
  have h1 := val_lt (ha.take i)
  have h2 := val_nonneg (hb.take i)
  rw [List.length_take, Nat.min_eq_left (by omega)] at h1
  have h3 : B ^ i * (a.getD i 0 + B * val (b.drop (i + 1)) + 1) ≤ B ^ i * (b.getD i 0 + B * val (b.drop (i + 1))) := Int.mul_le_mul_of_nonneg_left (by omega) (Int.le_of_lt (Bpow_pos i))
  rw [Int.mul_add] at h3
  omega
theorem cmp_go {a b : List Int} (ha : Ok a) (hb : Ok b) (hab : a.length = b.length) (hl : a.length ≤ 17592186044416) : ∀ (n : Nat), n ≤ a.length → a.drop n = b.drop n → ∀ k, n < k → limb_Cmp.l0 k a b ((n : Int) - 1) = some (cmpv (val a) (val b)) := by
  intro n
  induction n with
  | zero =>
    intro _ hd k hk
    obtain ⟨k, rfl⟩ : ∃ m, k = m + 1 := ⟨k - 1, by omega⟩
    have : a = b := by simpa using hd
    subst this
    simp only [limb_Cmp.l0]
    rw [if_neg (by omega), cmpv_self]
  | succ n ih =>
    intro hn hd k hk
    obtain ⟨k, rfl⟩ : ∃ m, k = m + 1 := ⟨k - 1, by omega⟩
    have e : (((n + 1 : Nat) : Int) - 1) = (n : Int) := by omega
    rw [e]
    simp only [limb_Cmp.l0]
    rw [if_pos (by omega), if_pos (by omega), if_pos (by omega), if_pos (by omega), rd_nat, rd_nat, w64 (by omega)]
    by_cases h1 : a.getD n 0 < b.getD n 0
    · have := cmp_lt ha hb hab (by omega) hd h1
      rw [if_pos h1]
      simp [cmpv, this]
    · rw [if_neg h1]
      by_cases h2 : b.getD n 0 < a.getD n 0
      · have := cmp_lt hb ha hab.symm (by omega) hd.symm h2
        rw [if_pos h2]
        unfold cmpv
        rw [if_neg (by omega), if_neg (by omega)]
      · rw [if_neg h2]
        refine ih (by omega) ?_ k (by omega)
        have ha' : n < a.length := by omega
        have hb' : n < b.length := by omega
        have e1 : a.getD n 0 = a[n] := by rw [List.getD_eq_getElem?_getD, List.getElem?_eq_getElem ha']; rfl
        have e2 : b.getD n 0 = b[n] := by rw [List.getD_eq_getElem?_getD, List.getElem?_eq_getElem hb']; rfl
        rw [List.drop_eq_getElem_cons ha', List.drop_eq_getElem_cons hb', hd, ← e1, ← e2, show a.getD n 0 = b.getD n 0 from by omega]
theorem dg_len_lt {m n : Int} (h0 : 0 ≤ m) (h : (dg m).length < (dg n).length) : m < n := by
  rcases Int.lt_or_le m n with h1 | h1
  · exact h1
  · exfalso
    have h2 : m < B ^ (dg m).length := len_dg (Nat.le_refl _)
    have := dg_len (n := n) (m := (dg m).length) (by omega)
    omega
theorem cmp_ev {a b : List Int} (ha : Ok a) (hb : Ok b) (hal : a.length ≤ 17592186044416) (hbl : b.length ≤ 17592186044416) : Ev (fun k => limb_Cmp.f k a b) (cmpv (val a) (val b)) := by
  unfold limb_Cmp.f
  have h0 := val_nonneg ha
  have h1 := val_nonneg hb
  have l0 := dg_len_val ha
  have l1 := dg_len_val hb
  refine Ev.bind (trim_ev ha hal) (Ev.bind (trim_ev hb hbl) ?_)
  by_cases h : (dg (val a)).length = (dg (val b)).length
  · refine Ev.pos (by omega) ⟨(dg (val a)).length + 1, fun k hk => ?_⟩
    have := cmp_go (ok_dg (val a)) (ok_dg (val b)) h (by omega) (dg (val a)).length (by omega) (by rw [List.drop_eq_nil_of_le (by omega), List.drop_eq_nil_of_le (by omega)]) k (by omega)
    rw [val_dg h0, val_dg h1] at this
    rw [w64 (by omega)]
    exact this
  · refine Ev.neg (by omega) ?_
    by_cases h2 : (dg (val a)).length < (dg (val b)).length
    · refine Ev.pos (by omega) ?_
      have := dg_len_lt h0 h2
      simp only [cmpv, this, if_true]
      exact Ev.now _
    · refine Ev.neg (by omega) ?_
      have := dg_len_lt h1 (show (dg (val b)).length < (dg (val a)).length by omega)
      unfold cmpv
      rw [if_neg (by omega), if_neg (by omega)]
      exact Ev.now _
/-! the reference's Trim -/
theorem rtrim_go (l : List Int) (ho : Ok l) (hl : l.length < 17592186044416) : ∀ (n : Nat), n ≤ l.length → val (l.drop n) = 0 → ∀ k, n < k → syzygyref01_Trim.l0 k l n = some (dg (val l)) := by
  intro n
  induction n with
  | zero =>
    intro _ hd k hk
    obtain ⟨k, rfl⟩ : ∃ m, k = m + 1 := ⟨k - 1, by omega⟩
    have hv : val l = 0 := by simpa using hd
    simp only [syzygyref01_Trim.l0]
    rw [if_neg (by omega), some_bind, if_pos (by omega), if_pos (by omega), if_pos (by simp), hv, dg_zero]
    simp
  | succ n ih =>
    intro hn hd k hk
    obtain ⟨k, rfl⟩ : ∃ m, k = m + 1 := ⟨k - 1, by omega⟩
    have hw : wrap64 (((n + 1 : Nat) : Int) - 1) = (n : Int) := by rw [w64 (by omega)]; omega
    simp only [syzygyref01_Trim.l0, hw]
    rw [if_pos (by omega), if_pos (by omega), if_pos (by omega), rd_nat]
    by_cases hz : l.getD n 0 = 0
    · rw [if_pos hz]
      exact ih (by omega) (by rw [val_drop (by omega), hz, hd]; simp) k (by omega)
    · rw [if_neg hz, some_bind, if_pos (by omega), if_pos (by omega), if_pos (by simp; omega), Int.toNat_natCast, List.nil_append]
      have e := val_take_drop l (n + 1) hn
      rw [hd, Int.mul_zero, Int.add_zero] at e
      rw [e, dg_val (ho.take _) (.inr ?_)]
      rw [List.length_take, Nat.min_eq_left hn]
      simpa [List.getD_eq_getElem?_getD] using hz
theorem rtrim_ev {l : List Int} (ho : Ok l) (hl : l.length < 17592186044416) : Ev (fun k => syzygyref01_Trim.f k l) (dg (val l)) :=
  ⟨l.length + 1, fun k hk => rtrim_go l ho hl l.length (Nat.le_refl _) (by rw [List.drop_eq_nil_of_le (Nat.le_refl _)]; rfl) k (by omega)⟩
theorem same_dg {m n : Int} (h0 : 0 ≤ m) (h1 : 0 ≤ n) : decide (dg m = dg n) = decide (m = n) := by
  by_cases h : m = n
  · subst h; simp
  · have : dg m ≠ dg n := fun e => h (dg_inj h0 h1 e)
    simp [h, this]
theorem add_lt {a b : List Int} (ha : Ok a) (hb : Ok b) {m : Nat} (h0 : a.length ≤ m) (h1 : b.length ≤ m) : val a + val b < B ^ (m + 1) := by
  have h2 := val_lt ha
  have h3 := val_lt hb
  have h4 := Bpow_mono h0
  have h5 := Bpow_mono h1
  have h6 : B ^ m * 2 ≤ B ^ m * B := Int.mul_le_mul_of_nonneg_left (by decide) (Int.le_of_lt (Bpow_pos m))
  rw [Bpow_succ]
  omega
end Go.Proofs.Ytmknpclfanblfaa.EONatTells
