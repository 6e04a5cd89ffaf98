/- What the references on rows of limbs come to, as numbers. -/
import Derived.Test.YtmknpclfanblfaaONatTellsLimbR
import Derived.Test.YtmknpclfanblfaaNumH
set_option linter.unusedVariables false
set_option linter.unusedSimpArgs false
namespace Go.Proofs.Ytmknpclfanblfaa.EONatTells
open Go.RowKit Go.Proofs.Ytmknpclfanblfaa.PONatTells Go.Proofs.YtmknpclfanblfaaN Go.Proofs.YtmknpclfanblfaaW.PrintWords Go.Proofs.YtmknpclfanblfaaW.PrintLast Go.Proofs.YtmknpclfanblfaaW.PrintMore
theorem u64n {x : Int} (h : 0 ≤ x ∧ x < B) : IntKind.u64.wrap x = x := by rw [IntKind.wrap_u64]; rw [B_eq] at h; omega
theorem tmod_pos {x y : Int} (h : 0 ≤ x) : Int.tmod x y = x % y := Int.tmod_eq_emod_of_nonneg h
theorem tdiv_pos {x y : Int} (h : 0 ≤ x) : Int.tdiv x y = x / y := Int.tdiv_eq_ediv_of_nonneg h
theorem at_eq (l : List Int) (i : Nat) : syzygyref01_at.f l i = some (l.getD i 0) := by
  unfold syzygyref01_at.f
  by_cases h : i < l.length
  · rw [if_pos (by omega), if_pos (by omega), rd_nat]
  · rw [if_neg (by omega), getD_none (by omega)]
theorem digits_go (a : List Int) (ha : Ok a) (hl : a.length ≤ 4294967296) : ∀ (d : Nat) (out : List Int) (i : Nat), a.length - i = d → i ≤ a.length → out.length = 2 * i → Ev (fun k => syzygyref01_Digits.l0 k a out i) (out ++ halves (a.drop i)) := by
  intro d
  induction d with
  | zero =>
    intro out i hd hi ho
    refine Ev.step (fun k => by simp only [syzygyref01_Digits.l0]; rw [if_neg (by omega)]) (Ev.eq (Ev.now _) ?_)
    rw [List.drop_eq_nil_of_le (by omega), halves, List.append_nil]
  | succ d ih =>
    intro out i hd hi ho
    have hia : i < a.length := by omega
    have hx := ha.at i
    have e1 : IntKind.u64.wrap (Int.tdiv (rd a (i : Int)) 4294967296) = a.getD i 0 / H := by
      rw [rd_nat, tdiv_pos hx.1]
      rw [B_eq] at hx
      exact u64n (by rw [B_eq]; omega)
    have e2 : Int.tmod (rd a (i : Int)) 4294967296 = a.getD i 0 % H := by rw [rd_nat, tmod_pos hx.1]; rfl
    have hs : out ++ halves (a.drop i) = (out ++ [a.getD i 0 % H, a.getD i 0 / H]) ++ halves (a.drop (i + 1)) := by
      rw [List.drop_eq_getElem_cons hia, halves, List.append_assoc]
      rw [show a.getD i 0 = a[i] from by rw [List.getD_eq_getElem?_getD, List.getElem?_eq_getElem hia]; rfl]
      rfl
    rw [hs]
    refine Ev.step (fun k => ?_) (ih (out ++ [a.getD i 0 % H, a.getD i 0 / H]) (i + 1) (by omega) (by omega) (by simp; omega))
    simp only [syzygyref01_Digits.l0, e1, e2]
    rw [if_pos (by omega), if_pos (by omega), some_bind, if_pos (by simp; omega), w64 (by omega), show (i : Int) + 1 = ((i + 1 : Nat) : Int) from by omega]
theorem digits_ev {a : List Int} (ha : Ok a) (hl : a.length ≤ 4294967296) : Ev (fun k => syzygyref01_Digits.f k a) (halves a) := by
  unfold syzygyref01_Digits.f
  have := digits_go a ha hl _ [] 0 rfl (by omega) rfl
  simpa using this
theorem whole_go (d : List Int) (hd : OkH d) (hl : d.length ≤ 17179869184) : ∀ (n : Nat) (out : List Int) (i : Nat), d.length - i ≤ n → Ok out → out.length ≤ i → i ≤ d.length + 1 → Ev (fun k => syzygyref01_Whole.l0 k d out i) (dg (val out + B ^ out.length * hval (d.drop i))) := by
  intro n
  induction n with
  | zero =>
    intro out i hn ho hoi hi
    refine Ev.step (f := fun k => (syzygyref01_Trim.f k out).bind fun t => some t) (fun k => by simp only [syzygyref01_Whole.l0]; rw [if_neg (by omega)]) ?_
    rw [List.drop_eq_nil_of_le (by omega), hval_nil, Int.mul_zero, Int.add_zero]
    exact Ev.bind (rtrim_ev ho (by omega)) (Ev.now _)
  | succ n ih =>
    intro out i hn ho hoi hi
    by_cases hid : i < d.length
    · have h0 := hd.at i
      have h1 := hd.at (i + 1)
      have hwi : wrap64 ((i : Int) + 1) = ((i + 1 : Nat) : Int) := by rw [w64 (by omega)]; omega
      have hwi2 : wrap64 ((i : Int) + 2) = ((i + 2 : Nat) : Int) := by rw [w64 (by omega)]; omega
      have hB : d.getD i 0 + d.getD (i + 1) 0 * 4294967296 < B := by rw [H_eq] at h0 h1; rw [B_eq]; omega
      have hnew : 0 ≤ d.getD i 0 + d.getD (i + 1) 0 * 4294967296 := by omega
      have hv : val out + B ^ out.length * hval (d.drop i) = val (out ++ [d.getD i 0 + d.getD (i + 1) 0 * 4294967296]) + B ^ (out ++ [d.getD i 0 + d.getD (i + 1) 0 * 4294967296]).length * hval (d.drop (i + 2)) := by
        have e : d.getD i 0 + H * (d.getD (i + 1) 0 + H * hval (d.drop (i + 2))) = (d.getD i 0 + d.getD (i + 1) 0 * 4294967296) + B * hval (d.drop (i + 2)) := by
          rw [Int.mul_add, ← Int.mul_assoc, HH, show H * d.getD (i + 1) 0 = d.getD (i + 1) 0 * 4294967296 from Int.mul_comm _ _]
          omega
        rw [hval_drop', hval_drop' d (i + 1), show i + 1 + 1 = i + 2 from rfl, e, val_snoc, List.length_append, List.length_singleton, Bpow_succ]
        generalize d.getD i 0 + d.getD (i + 1) 0 * 4294967296 = u
        rw [Int.mul_add, Int.mul_assoc, Int.add_assoc]
      rw [hv]
      have hok := ho.append (Ok.one hnew hB)
      refine Ev.step (fun k => ?_) (ih (out ++ [d.getD i 0 + d.getD (i + 1) 0 * 4294967296]) (i + 2) (by omega) hok (by simp; omega) (by omega))
      simp only [syzygyref01_Whole.l0, hwi, hwi2]
      rw [if_pos (by omega), if_pos (by omega)]
      by_cases hi1 : i + 1 < d.length
      · rw [if_pos (by omega), if_pos (by omega), if_pos (by omega), rd_nat, rd_nat, u64n (x := d.getD (i + 1) 0 * 4294967296) (by omega), u64n ⟨hnew, hB⟩]
      · rw [if_neg (by omega), if_pos (by omega), rd_nat, getD_none (by omega : d.length ≤ i + 1)]
        simp
    · refine Ev.step (f := fun k => (syzygyref01_Trim.f k out).bind fun t => some t) (fun k => by simp only [syzygyref01_Whole.l0]; rw [if_neg (by omega)]) ?_
      rw [List.drop_eq_nil_of_le (by omega), hval_nil, Int.mul_zero, Int.add_zero]
      exact Ev.bind (rtrim_ev ho (by omega)) (Ev.now _)
theorem whole_ev {d : List Int} (hd : OkH d) (hl : d.length ≤ 17179869184) : Ev (fun k => syzygyref01_Whole.f k d) (dg (hval d)) := by
  unfold syzygyref01_Whole.f
  have := whole_go d hd hl d.length [] 0 (by omega) Ok.nil (by simp) (by omega)
  simpa [val] using this
theorem radd_step {x y c : Int} (hx : 0 ≤ x ∧ x < H) (hy : 0 ≤ y ∧ y < H) (hc : 0 ≤ c ∧ c ≤ 1) : (0 ≤ (x + y + c) % H ∧ (x + y + c) % H < H) ∧ (0 ≤ (x + y + c) / H ∧ (x + y + c) / H ≤ 1) ∧ (x + y + c) % H + H * ((x + y + c) / H) = x + y + c := by
  rw [H_eq] at *
  omega
theorem radd_go (x y : List Int) (hx : OkH x) (hy : OkH y) (M : Nat) (hxM : x.length ≤ M) (hyM : y.length ≤ M) (hM : M ≤ 8589934592) : ∀ (d : Nat) (out : List Int) (c : Int) (i : Nat), M + 1 - i = d → OkH out → out.length = i → (0 ≤ c ∧ c ≤ 1) → (i ≤ M ∨ i = M + 1 ∧ c = 0) →
    Ev (fun k => syzygyref01_Add.l0 k x y out c i) (dg (hval out + H ^ i * (c + (hval (x.drop i) + hval (y.drop i))))) := by
  intro d
  induction d with
  | zero =>
    intro out c i hd ho hol hc hi
    obtain ⟨hi, rfl⟩ : i = M + 1 ∧ c = 0 := by omega
    refine Ev.step (f := fun k => syzygyref01_Add.j1 k x y out 0 i (decide ((0 : Int) > 0))) (fun k => by simp only [syzygyref01_Add.l0]; rw [if_neg (by omega), if_neg (by omega)]) (Ev.step (f := fun k => (syzygyref01_Whole.f k out).bind fun t => some t) (fun k => by simp only [syzygyref01_Add.j1]; rw [if_neg (by simp)]) ?_)
    rw [List.drop_eq_nil_of_le (by omega), List.drop_eq_nil_of_le (by omega), hval_nil]
    simp only [Int.add_zero, Int.mul_zero]
    exact Ev.bind (whole_ev ho (by omega)) (Ev.now _)
  | succ d ih =>
    intro out c i hd ho hol hc hi
    by_cases hgo : i < x.length ∨ i < y.length ∨ 0 < c
    · have h0 : ∀ k, syzygyref01_Add.l0 (k + 1) x y out c i = syzygyref01_Add.j1 k x y out c i true := by
        intro k
        simp only [syzygyref01_Add.l0]
        by_cases h1 : i < x.length
        · rw [if_pos (by omega)]
        · rw [if_neg (by omega)]
          by_cases h2 : i < y.length
          · rw [if_pos (by omega)]
          · rw [if_neg (by omega), decide_eq_true (by omega)]
      have hxi := hx.at i
      have hyi := hy.at i
      obtain ⟨s1, s2, s3⟩ := radd_step hxi hyi hc
      have hv : hval out + H ^ i * (c + (hval (x.drop i) + hval (y.drop i))) = hval (out ++ [(x.getD i 0 + y.getD i 0 + c) % H]) + H ^ (i + 1) * ((x.getD i 0 + y.getD i 0 + c) / H + (hval (x.drop (i + 1)) + hval (y.drop (i + 1)))) := by
        have e : c + (hval (x.drop i) + hval (y.drop i)) = (x.getD i 0 + y.getD i 0 + c) % H + H * ((x.getD i 0 + y.getD i 0 + c) / H + (hval (x.drop (i + 1)) + hval (y.drop (i + 1)))) := by
          rw [hval_drop' x i, hval_drop' y i, Int.mul_add, Int.mul_add]
          omega
        rw [e, hval_snoc, hol, Hpow_succ]
        generalize (x.getD i 0 + y.getD i 0 + c) % H = s
        generalize (x.getD i 0 + y.getD i 0 + c) / H = c'
        rw [Int.mul_add, Int.mul_assoc, Int.add_assoc]
      rw [hv]
      refine Ev.step h0 (Ev.step (fun k => ?_) (ih (out ++ [(x.getD i 0 + y.getD i 0 + c) % H]) _ (i + 1) (by omega) (ho.append (OkH.one s1.1 s1.2)) (by simp [hol]) s2 ?_))
      · simp only [syzygyref01_Add.j1]
        have b1 : IntKind.u64.wrap (x.getD i 0 + y.getD i 0) = x.getD i 0 + y.getD i 0 := u64n (by rw [H_eq] at hxi hyi; rw [B_eq]; omega)
        have b2 : IntKind.u64.wrap (x.getD i 0 + y.getD i 0 + c) = x.getD i 0 + y.getD i 0 + c := u64n (by rw [H_eq] at hxi hyi; rw [B_eq]; omega)
        rw [if_pos trivial, at_eq, at_eq, some_bind, some_bind, if_pos (by omega), b1, b2, tmod_pos (by omega), tdiv_pos (by omega), w64 (by omega), show (i : Int) + 1 = ((i + 1 : Nat) : Int) from by omega]
        rw [show IntKind.u64.wrap ((x.getD i 0 + y.getD i 0 + c) / 4294967296) = (x.getD i 0 + y.getD i 0 + c) / 4294967296 from u64n (by rw [H_eq] at hxi hyi; rw [B_eq]; omega)]
        rfl
      · by_cases hiM : i < M
        · exact .inl (by omega)
        · refine .inr ⟨by omega, ?_⟩
          rw [getD_none (by omega : x.length ≤ i), getD_none (by omega : y.length ≤ i), H_eq]
          omega
    · have hc0 : c = 0 := by omega
      subst hc0
      refine Ev.step (f := fun k => syzygyref01_Add.j1 k x y out 0 i (decide ((0 : Int) > 0))) (fun k => by simp only [syzygyref01_Add.l0]; rw [if_neg (by omega), if_neg (by omega)]) (Ev.step (f := fun k => (syzygyref01_Whole.f k out).bind fun t => some t) (fun k => by simp only [syzygyref01_Add.j1]; rw [if_neg (by simp)]) ?_)
      rw [List.drop_eq_nil_of_le (by omega), List.drop_eq_nil_of_le (by omega), hval_nil]
      simp only [Int.add_zero, Int.mul_zero]
      exact Ev.bind (whole_ev ho (by omega)) (Ev.now _)
theorem radd_ev {a b : List Int} (ha : Ok a) (hb : Ok b) (hal : a.length ≤ 4294967296) (hbl : b.length ≤ 4294967296) : Ev (fun k => syzygyref01_Add.f k a b) (dg (val a + val b)) := by
  unfold syzygyref01_Add.f
  have l1 := halves_len a
  have l2 := halves_len b
  have := radd_go (halves a) (halves b) (halves_ok ha) (halves_ok hb) (2 * max a.length b.length) (by omega) (by omega) (by omega) _ [] 0 0 rfl OkH.nil rfl (by omega) (.inl (by omega))
  simp only [hval_nil, List.drop_zero, halves_val, Int.pow_zero, Int.one_mul, Int.zero_add] at this
  exact Ev.bind (digits_ev ha hal) (Ev.bind (digits_ev hb hbl) this)
theorem padto_getD (a : List Int) (n i : Nat) : (a ++ List.replicate n 0).getD i 0 = a.getD i 0 := by
  simp only [List.getD_eq_getElem?_getD]
  by_cases h : i < a.length
  · rw [List.getElem?_append_left h]
  · rw [List.getElem?_append_right (by omega), List.getElem?_eq_none (by omega : a.length ≤ i), List.getElem?_replicate]
    split <;> rfl
theorem rcmp_go {a b a' b' : List Int} (ha : Ok a') (hb : Ok b') (hab : a'.length = b'.length) (hl : a'.length ≤ 17592186044416) (ga : ∀ i, a.getD i 0 = a'.getD i 0) (gb : ∀ i, b.getD i 0 = b'.getD i 0) : ∀ (n : Nat), n ≤ a'.length → a'.drop n = b'.drop n → ∀ k, n < k → syzygyref01_Cmp.l0 k a b ((n : Int) - 1) = some (cmpv (val a') (val b')) := by
  intro n
  induction n with
  | zero =>
    intro _ hd k hk
    obtain ⟨k, rfl⟩ : ∃ m, k = m + 1 := ⟨k - 1, by omega⟩
    have : a' = b' := by simpa using hd
    subst this
    simp only [syzygyref01_Cmp.l0]
    rw [if_neg (by omega), cmpv_self]
  | succ n ih =>
    intro hn hd k hk
    obtain ⟨k, rfl⟩ : ∃ m, k = m + 1 := ⟨k - 1, by omega⟩
    have e : (((n + 1 : Nat) : Int) - 1) = (n : Int) := by omega
    rw [e]
    simp only [syzygyref01_Cmp.l0]
    rw [if_pos (by omega), at_eq, at_eq, some_bind, some_bind, some_bind, some_bind, w64 (by omega), ga, gb]
    by_cases h1 : a'.getD n 0 < b'.getD n 0
    · have := cmp_lt ha hb hab (by omega) hd h1
      rw [if_pos h1]
      simp [cmpv, this]
    · rw [if_neg h1]
      by_cases h2 : b'.getD n 0 < a'.getD n 0
      · have := cmp_lt hb ha hab.symm (by omega) hd.symm h2
        rw [if_pos h2]
        unfold cmpv
        rw [if_neg (by omega), if_neg (by omega)]
      · rw [if_neg h2]
        refine ih (by omega) ?_ k (by omega)
        have ha' : n < a'.length := by omega
        have hb' : n < b'.length := by omega
        have e1 : a'.getD n 0 = a'[n] := by rw [List.getD_eq_getElem?_getD, List.getElem?_eq_getElem ha']; rfl
        have e2 : b'.getD n 0 = b'[n] := by rw [List.getD_eq_getElem?_getD, List.getElem?_eq_getElem hb']; rfl
        rw [List.drop_eq_getElem_cons ha', List.drop_eq_getElem_cons hb', hd, ← e1, ← e2, show a'.getD n 0 = b'.getD n 0 from by omega]
theorem rcmp_ev {a b : List Int} (ha : Ok a) (hb : Ok b) (hal : a.length ≤ 4294967296) (hbl : b.length ≤ 4294967296) : Ev (fun k => syzygyref01_Cmp.f k a b) (cmpv (val a) (val b)) := by
  refine ⟨max a.length b.length + 1, fun k hk => ?_⟩
  show syzygyref01_Cmp.f k a b = _
  unfold syzygyref01_Cmp.f
  have em : mx (a.length : Int) (b.length : Int) = ((max a.length b.length : Nat) : Int) := by unfold mx; split <;> omega
  have := rcmp_go (a := a) (b := b) (a' := a ++ List.replicate (max a.length b.length - a.length) 0) (b' := b ++ List.replicate (max a.length b.length - b.length) 0) (ha.append (Ok.rep _)) (hb.append (Ok.rep _)) (by simp; omega) (by simp; omega) (fun i => (padto_getD _ _ _).symm) (fun i => (padto_getD _ _ _).symm) (max a.length b.length) (by simp; omega)
    (by rw [List.drop_eq_nil_of_le (by simp; omega), List.drop_eq_nil_of_le (by simp; omega)]) k (by omega)
  rw [em, w64 (by omega), this, val_append, val_append, val_rep, val_rep]
  simp
theorem rsub_step {x y c : Int} (hx : 0 ≤ x ∧ x < H) (hy : 0 ≤ y ∧ y < H) (hc : 0 ≤ c ∧ c ≤ 1) : (0 ≤ (x + H - y - c) % H ∧ (x + H - y - c) % H < H) ∧ (0 ≤ 1 - (x + H - y - c) / H ∧ 1 - (x + H - y - c) / H ≤ 1) ∧ (x + H - y - c) % H - H * (1 - (x + H - y - c) / H) = x - y - c := by
  rw [H_eq] at *
  omega
theorem rsub_go (x y : List Int) (hx : OkH x) (hy : OkH y) (hl : x.length ≤ 8589934592) : ∀ (d : Nat) (out : List Int) (c : Int) (i : Nat), i + d = x.length → OkH out → out.length = i → (0 ≤ c ∧ c ≤ 1) →
    ∃ o ce, Ev (fun k => syzygyref01_Sub.l0 k x y out c i) (dg (hval o), true) ∧ OkH o ∧ o.length = x.length ∧ (0 ≤ ce ∧ ce ≤ 1) ∧ hval o + H ^ i * (c + hval ((y.drop i).take d)) = hval out + H ^ i * hval (x.drop i) + H ^ (i + d) * ce := by
  intro d
  induction d with
  | zero =>
    intro out c i hd ho hol hc
    refine ⟨out, c, Ev.step (f := fun k => (syzygyref01_Whole.f k out).bind fun t => some (t, true)) (fun k => by simp only [syzygyref01_Sub.l0]; rw [if_neg (by omega)]) (Ev.bind (whole_ev ho (by omega)) (Ev.now _)), ho, by omega, hc, ?_⟩
    have e : x.drop i = [] := List.drop_eq_nil_of_le (by omega)
    rw [e]
    simp [hval]
  | succ d ih =>
    intro out c i hd ho hol hc
    have hxi := hx.at i
    have hyi := hy.at i
    obtain ⟨s1, s2, s3⟩ := rsub_step hxi hyi hc
    obtain ⟨o, ce, h1, h2, h3, h4, h5⟩ := ih (out ++ [(x.getD i 0 + H - y.getD i 0 - c) % H]) (1 - (x.getD i 0 + H - y.getD i 0 - c) / H) (i + 1) (by omega) (ho.append (OkH.one s1.1 s1.2)) (by simp [hol]) s2
    refine ⟨o, ce, Ev.step (fun k => ?_) h1, h2, h3, h4, ?_⟩
    · simp only [syzygyref01_Sub.l0]
      have b0 : IntKind.u64.wrap (rd x (i : Int) + 4294967296) = x.getD i 0 + H := u64n (by rw [H_eq] at hxi hyi; rw [B_eq, rd_nat]; omega)
      have b1 : IntKind.u64.wrap (x.getD i 0 + H - y.getD i 0) = x.getD i 0 + H - y.getD i 0 := u64n (by rw [H_eq] at *; rw [B_eq]; omega)
      have b2 : IntKind.u64.wrap (x.getD i 0 + H - y.getD i 0 - c) = x.getD i 0 + H - y.getD i 0 - c := u64n (by rw [H_eq] at *; rw [B_eq]; omega)
      have b3 : IntKind.u64.wrap ((x.getD i 0 + H - y.getD i 0 - c) / H) = (x.getD i 0 + H - y.getD i 0 - c) / H := u64n (by rw [H_eq] at *; rw [B_eq]; omega)
      have b4 : IntKind.u64.wrap (1 - (x.getD i 0 + H - y.getD i 0 - c) / H) = 1 - (x.getD i 0 + H - y.getD i 0 - c) / H := u64n (by rw [H_eq] at *; rw [B_eq]; omega)
      have p : 0 ≤ x.getD i 0 + H - y.getD i 0 - c := by rw [H_eq] at *; omega
      rw [if_pos (by omega), if_pos (by omega), at_eq, some_bind, if_pos (by omega), b0, b1, b2, tmod_pos p, tdiv_pos p, show (4294967296 : Int) = H from rfl, b3, b4, w64 (by omega), show (i : Int) + 1 = ((i + 1 : Nat) : Int) from by omega]
    · rw [hval_snoc, hol, Hpow_succ] at h5
      rw [hpart_succ, hval_drop' x i, show i + (d + 1) = i + 1 + d from by omega]
      generalize hval ((y.drop (i + 1)).take d) = Y at *
      generalize hval (x.drop (i + 1)) = X at *
      generalize (1 - (x.getD i 0 + H - y.getD i 0 - c) / H) = c' at *
      generalize (x.getD i 0 + H - y.getD i 0 - c) % H = s at *
      have e1 : c + (y.getD i 0 + H * Y) = (x.getD i 0 - s) + H * (c' + Y) := by rw [Int.mul_add]; omega
      have e2 : H ^ i * (c + (y.getD i 0 + H * Y)) = H ^ i * (x.getD i 0 - s) + H ^ i * H * (c' + Y) := by rw [e1, Int.mul_add, Int.mul_assoc]
      have e3 : H ^ i * (x.getD i 0 + H * X) = H ^ i * x.getD i 0 + H ^ i * H * X := by rw [Int.mul_add, Int.mul_assoc]
      have e4 : H ^ i * (x.getD i 0 - s) = H ^ i * x.getD i 0 - H ^ i * s := Int.mul_sub ..
      omega
theorem rsub_ev {a b : List Int} (ha : Ok a) (hb : Ok b) (hal : a.length ≤ 4294967296) (hbl : b.length ≤ 4294967296) : Ev (fun k => syzygyref01_Sub.f k a b) (if val a < val b then ([], false) else (dg (val a - val b), true)) := by
  unfold syzygyref01_Sub.f
  refine Ev.bind (rcmp_ev ha hb hal hbl) ?_
  by_cases h : val a < val b
  · rw [if_pos h]
    exact Ev.pos (cmpv_neg.2 h) (Ev.now _)
  · rw [if_neg h]
    refine Ev.neg (fun e => h (cmpv_neg.1 e)) (Ev.bind (digits_ev ha hal) (Ev.bind (digits_ev hb hbl) ?_))
    have l1 := halves_len a
    have hx := halves_ok ha
    have hy := halves_ok hb
    obtain ⟨o, ce, h1, h2, h3, h4, h5⟩ := rsub_go (halves a) (halves b) hx hy (by omega) (halves a).length [] 0 0 (by omega) OkH.nil rfl (by omega)
    simp only [hval_nil, List.drop_zero, halves_val, Int.pow_zero, Int.one_mul, Int.zero_add, Nat.zero_add] at h5
    have hp := Hpow_pos (halves a).length
    have hxl := hval_lt hx
    rw [halves_val] at hxl
    have hy0 := hval_nonneg h2
    have hyl := hval_lt h2
    rw [h3] at hyl
    have hbt : hval ((halves b).take (halves a).length) = val b := by
      by_cases hl : (halves b).length ≤ (halves a).length
      · rw [List.take_of_length_le hl, halves_val]
      · have e := hval_take_drop (halves b) (halves a).length (by omega)
        rw [halves_val] at e
        have n1 := hval_nonneg (hy.take (halves a).length)
        have n2 := hval_nonneg (hy.drop (halves a).length)
        have : hval ((halves b).drop (halves a).length) = 0 := by
          rcases Int.lt_or_le 0 (hval ((halves b).drop (halves a).length)) with h6 | h6
          · have : H ^ (halves a).length * 1 ≤ H ^ (halves a).length * hval ((halves b).drop (halves a).length) := Int.mul_le_mul_of_nonneg_left (by omega) (by omega)
            omega
          · omega
        rw [this] at e
        omega
    rw [hbt] at h5
    have hce : ce = 0 := by
      rcases Int.lt_or_le 0 ce with h6 | h6
      · have e1 : ce = 1 := by omega
        rw [e1] at h5
        have n1 := val_nonneg hb
        omega
      · omega
    rw [hce] at h5
    have : hval o = val a - val b := by omega
    rw [← this]
    exact h1
end Go.Proofs.Ytmknpclfanblfaa.EONatTells
