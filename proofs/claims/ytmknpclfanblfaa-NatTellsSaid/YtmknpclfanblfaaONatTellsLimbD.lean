/- the references' product of rows of limbs, as numbers -/
import Derived.Test.YtmknpclfanblfaaONatTellsLimbC
set_option linter.unusedVariables false
set_option linter.unusedSimpArgs false
namespace Go.Proofs.Ytmknpclfanblfaa.EONatTells
open Go.RowKit Go.Proofs.Ytmknpclfanblfaa.PONatTells Go.Proofs.YtmknpclfanblfaaN Go.Proofs.YtmknpclfanblfaaW.PrintWords Go.Proofs.YtmknpclfanblfaaW.PrintLast Go.Proofs.YtmknpclfanblfaaW.PrintMore
theorem H_B : H < B := by rw [H_eq, B_eq]; decide
theorem rmul_bd {x y t c : Int} (hx : 0 ≤ x ∧ x < H) (hy : 0 ≤ y ∧ y < H) (ht : 0 ≤ t ∧ t < H) (hc : 0 ≤ c ∧ c < H) : (0 ≤ x * y ∧ x * y < B) ∧ (0 ≤ t + x * y ∧ t + x * y < B) ∧ (0 ≤ t + x * y + c ∧ t + x * y + c < B) ∧ (0 ≤ (t + x * y + c) % H ∧ (t + x * y + c) % H < H) ∧ (0 ≤ (t + x * y + c) / H ∧ (t + x * y + c) / H < H) ∧ (t + x * y + c) % H + H * ((t + x * y + c) / H) = t + x * y + c := by
  have h1 : x * y ≤ (H - 1) * (H - 1) := Int.mul_le_mul (by omega) (by omega) hy.1 (by have := H_pos; omega)
  have h0 : 0 ≤ x * y := Int.mul_nonneg hx.1 hy.1
  rw [H_eq] at *
  rw [B_eq]
  generalize x * y = z at *
  omega
theorem getD_set_ne {l : List Int} {i j : Nat} {v : Int} (h : i ≠ j) : (l.set i v).getD j 0 = l.getD j 0 := by
  rw [List.getD_eq_getElem?_getD, List.getD_eq_getElem?_getD, List.getElem?_set_ne h]
theorem rmul_val {y out : List Int} {i k : Nat} {xi c s c' : Int} (hl : i + k < out.length) (hs : s + H * c' = out.getD (i + k) 0 + xi * y.getD k 0 + c) : hval (out.set (i + k) s) + H ^ (i + (k + 1)) * (c' + xi * hval (y.drop (k + 1))) = hval out + H ^ (i + k) * (c + xi * hval (y.drop k)) := by
  have e : c + xi * hval (y.drop k) = (s - out.getD (i + k) 0) + H * (c' + xi * hval (y.drop (k + 1))) := by
    rw [hval_drop' y k, Int.mul_add, Int.mul_add, ← Int.mul_assoc xi H, Int.mul_comm xi H, Int.mul_assoc H xi]
    omega
  rw [hval_set hl, e, show i + (k + 1) = i + k + 1 from by omega, Hpow_succ, Int.mul_add (H ^ (i + k)), Int.mul_assoc, Int.add_assoc]
theorem rmul_stp {x y out : List Int} {i k : Nat} {c : Int} (hxl : x.length ≤ 8589934590) (hyl : y.length ≤ 8589934590) (hi : i < x.length) (hk : k ≤ y.length) (hol : out.length = x.length + y.length + 1) (hxi : 0 ≤ x.getD i 0 ∧ x.getD i 0 < H) (hyk : 0 ≤ y.getD k 0 ∧ y.getD k 0 < H) (ho : 0 ≤ out.getD (i + k) 0 ∧ out.getD (i + k) 0 < H) (hc : 0 ≤ c ∧ c < H) (hgo : k < y.length ∨ 0 < c) :
    ∃ s c', (0 ≤ s ∧ s < H) ∧ (0 ≤ c' ∧ c' < H) ∧ s + H * c' = out.getD (i + k) 0 + x.getD i 0 * y.getD k 0 + c ∧ ∀ f, syzygyref01_Mul.l2 (f + 1) x y out i c k = syzygyref01_Mul.l2 f x y (out.set (i + k) s) i c' ((k + 1 : Nat) : Int) := by
  have hA : wrap64 ((i : Int) + (k : Int)) = ((i + k : Nat) : Int) ∧ wrap64 ((k : Int) + 1) = ((k + 1 : Nat) : Int) ∧ (0 : Int) ≤ ((i + k : Nat) : Int) ∧ ((i + k : Nat) : Int) < (out.length : Int) ∧ (0 : Int) ≤ (i : Int) ∧ (i : Int) < (x.length : Int) := by
    clear hxi hyk ho hc hgo
    refine ⟨by rw [w64 (by omega)]; omega, by rw [w64 (by omega)]; omega, by omega, by omega, by omega, by omega⟩
  obtain ⟨hw, hw1, c1, c2, c3, c4⟩ := hA
  have c5 : (k : Int) < (y.length : Int) ∨ (¬ (k : Int) < (y.length : Int) ∧ c > 0) := by
    clear hxi hyk ho hc
    by_cases h : k < y.length
    · exact .inl (Int.ofNat_lt.2 h)
    · exact .inr ⟨fun h' => h (Int.ofNat_lt.1 h'), hgo.resolve_left h⟩
  obtain ⟨m1, m2, m3, m4, m5, m6⟩ := rmul_bd hxi hyk ho hc
  refine ⟨_, _, m4, m5, m6, fun f => ?_⟩
  have n1 := u64n m1
  have n2 := u64n m2
  have n3 := u64n m3
  have n5 : IntKind.u64.wrap ((out.getD (i + k) 0 + x.getD i 0 * y.getD k 0 + c) / H) = (out.getD (i + k) 0 + x.getD i 0 * y.getD k 0 + c) / H := u64n ⟨m5.1, Int.lt_trans m5.2 H_B⟩
  have p3 := m3.1
  clear m1 m2 m3 m4 m5 m6 hxi hyk ho hc hgo
  rw [H_eq] at n5 ⊢
  simp only [syzygyref01_Mul.l2, hw, hw1, rd_nat, at_eq, some_bind, Int.toNat_natCast, n1, n2, n3, tmod_pos p3, tdiv_pos p3, n5]
  rcases c5 with c5 | ⟨c5, c6⟩
  · rw [if_pos c5, if_pos c1, if_pos c2, if_pos c3, if_pos c4]
  · rw [if_neg c5, if_pos c6, if_pos c1, if_pos c2, if_pos c3, if_pos c4]
theorem rmul_end {x y out : List Int} {i k : Nat} (hxl : x.length ≤ 8589934590) (hi : i < x.length) (hk : y.length ≤ k) (f : Nat) : syzygyref01_Mul.l2 (f + 1) x y out i 0 k = syzygyref01_Mul.l1 f x y out ((i + 1 : Nat) : Int) := by
  have hw : wrap64 ((i : Int) + 1) = ((i + 1 : Nat) : Int) := by rw [w64 (by omega)]; omega
  have c1 : ¬ (k : Int) < (y.length : Int) := by omega
  have c2 : ¬ (0 : Int) > 0 := by omega
  simp only [syzygyref01_Mul.l2, hw]
  rw [if_neg c1, if_neg c2]
theorem rmul_row (x y : List Int) (hx : OkH x) (hy : OkH y) (hxl : x.length ≤ 8589934590) (hyl : y.length ≤ 8589934590) (i : Nat) (hi : i < x.length) : ∀ (d : Nat) (out : List Int) (c : Int) (k : Nat), y.length + 1 - k = d → OkH out → out.length = x.length + y.length + 1 → (0 ≤ c ∧ c < H) → k ≤ y.length + 1 → (∀ m, i + max k y.length ≤ m → out.getD m 0 = 0) → (k = y.length + 1 → c = 0) →
    ∃ o, OkH o ∧ o.length = x.length + y.length + 1 ∧ (∀ m, i + y.length + 1 ≤ m → o.getD m 0 = 0) ∧ hval o = hval out + H ^ (i + k) * (c + x.getD i 0 * hval (y.drop k)) ∧ ∀ res, Ev (fun f => syzygyref01_Mul.l1 f x y o ((i + 1 : Nat) : Int)) res → Ev (fun f => syzygyref01_Mul.l2 f x y out i c k) res := by
  intro d
  induction d with
  | zero =>
    intro out c k hd ho hol hc hk hz hc0
    have hk1 : k = y.length + 1 := by omega
    have := hc0 hk1
    subst this
    refine ⟨out, ho, hol, fun m hm => hz m (by omega), ?_, fun res hres => Ev.step (fun f => rmul_end hxl hi (by omega) f) hres⟩
    have e : y.drop k = [] := List.drop_eq_nil_of_le (by omega)
    rw [e, hval_nil]; simp
  | succ d ih =>
    intro out c k hd ho hol hc hk hz hc0
    by_cases hgo : k < y.length ∨ 0 < c
    · have hk2 : k ≤ y.length := by
        by_cases e : k = y.length + 1
        · have := hc0 e; omega
        · omega
      obtain ⟨s, c', hs, hc', hsum, hstep⟩ := rmul_stp hxl hyl hi hk2 hol (hx.at i) (hy.at k) (ho.at (i + k)) hc hgo
      have hl : i + k < out.length := by omega
      have hv := rmul_val hl hsum
      have hcz : k + 1 = y.length + 1 → c' = 0 := by
        intro e
        rw [hz (i + k) (by omega), getD_none (by omega : y.length ≤ k), Int.mul_zero, H_eq] at hsum
        rw [H_eq] at hc hc' hs
        clear hv hstep ih
        omega
      clear hsum
      obtain ⟨o, h1, h2, h3, h4, h5⟩ := ih (out.set (i + k) s) c' (k + 1) (by clear hv; omega) (ho.set _ hs.1 hs.2) (by rw [List.length_set]; exact hol) hc' (by clear hv; omega) (fun m hm => by clear hv; rw [getD_set_ne (by omega)]; exact hz m (by omega)) hcz
      exact ⟨o, h1, h2, h3, h4.trans hv, fun res hres => Ev.step hstep (h5 res hres)⟩
    · have hcz : c = 0 := by omega
      subst hcz
      refine ⟨out, ho, hol, fun m hm => hz m (by omega), ?_, fun res hres => Ev.step (fun f => rmul_end hxl hi (by omega) f) hres⟩
      have e : y.drop k = [] := List.drop_eq_nil_of_le (by omega)
      rw [e, hval_nil]; simp
theorem rmul_rows (x y : List Int) (hx : OkH x) (hy : OkH y) (hxl : x.length ≤ 8589934590) (hyl : y.length ≤ 8589934590) : ∀ (d : Nat) (out : List Int) (i : Nat), x.length - i = d → i ≤ x.length → OkH out → out.length = x.length + y.length + 1 → (∀ m, i + y.length ≤ m → out.getD m 0 = 0) →
    Ev (fun f => syzygyref01_Mul.l1 f x y out i) (dg (hval out + H ^ i * (hval (x.drop i) * hval y))) := by
  intro d
  induction d with
  | zero =>
    intro out i hd hi ho hol hz
    have e : x.drop i = [] := List.drop_eq_nil_of_le (by omega)
    refine Ev.step (f := fun f => (syzygyref01_Whole.f f out).bind fun t => some t) (fun f => by simp only [syzygyref01_Mul.l1]; rw [if_neg (by omega)]) ?_
    rw [e, hval_nil]
    simp only [Int.zero_mul, Int.mul_zero, Int.add_zero]
    exact Ev.bind (whole_ev ho (by omega)) (Ev.now _)
  | succ d ih =>
    intro out i hd hi ho hol hz
    obtain ⟨o, h1, h2, h3, h4, h5⟩ := rmul_row x y hx hy hxl hyl i (by omega) (y.length + 1) out 0 0 (by omega) ho hol ⟨Int.le_refl _, H_pos⟩ (by omega) (fun m hm => hz m (by omega)) (fun _ => rfl)
    refine Ev.step (f := fun f => syzygyref01_Mul.l2 f x y out i 0 0) (fun f => by simp only [syzygyref01_Mul.l1]; rw [if_pos (by omega)]) (h5 _ ?_)
    have := ih o (i + 1) (by omega) (by omega) h1 h2 (fun m hm => h3 m (by omega))
    have e : hval out + H ^ i * (hval (x.drop i) * hval y) = hval o + H ^ (i + 1) * (hval (x.drop (i + 1)) * hval y) := by
      rw [h4, hval_drop' x i, List.drop_zero, show i + 0 = i from rfl, Int.zero_add, Hpow_succ, Int.add_mul, Int.mul_add, Int.mul_assoc H, Int.mul_assoc (H ^ i) H, Int.add_assoc]
    rw [e]
    exact this
theorem rmul_zero (x y : List Int) (hxl : x.length ≤ 8589934590) (hyl : y.length ≤ 8589934590) (res : List Int) (h : Ev (fun f => syzygyref01_Mul.l1 f x y (List.replicate (x.length + y.length + 1) 0) 0) res) : ∀ (d i : Nat), x.length + y.length + 1 - i = d → i ≤ x.length + y.length + 1 → Ev (fun f => syzygyref01_Mul.l0 f x y (List.replicate i 0) i) res := by
  have hw : wrap64 (wrap64 ((x.length : Int) + (y.length : Int)) + 1) = ((x.length + y.length + 1 : Nat) : Int) := by
    rw [w64 (x := (x.length : Int) + (y.length : Int)) (by omega), w64 (by omega)]
    omega
  intro d
  induction d with
  | zero =>
    intro i hd hi
    have e : i = x.length + y.length + 1 := by omega
    subst e
    exact Ev.step (fun f => by simp only [syzygyref01_Mul.l0, hw]; rw [if_neg (by omega)]) h
  | succ d ih =>
    intro i hd hi
    refine Ev.step (fun f => ?_) (ih (i + 1) (by omega) (by omega))
    simp only [syzygyref01_Mul.l0, hw]
    rw [if_pos (by omega), if_pos (by simp; omega), w64 (by omega), show (i : Int) + 1 = ((i + 1 : Nat) : Int) from by omega, List.replicate_succ']
theorem rmul_ev {a b : List Int} (ha : Ok a) (hb : Ok b) (hal : a.length ≤ 4294967295) (hbl : b.length ≤ 4294967295) : Ev (fun k => syzygyref01_Mul.f k a b) (dg (val a * val b)) := by
  unfold syzygyref01_Mul.f
  have l1 := halves_len a
  have l2 := halves_len b
  refine Ev.bind (digits_ev ha (by omega)) (Ev.bind (digits_ev hb (by omega)) ?_)
  have h := rmul_rows (halves a) (halves b) (halves_ok ha) (halves_ok hb) (by omega) (by omega) _ (List.replicate ((halves a).length + (halves b).length + 1) 0) 0 rfl (by omega) (OkH.rep _) (by simp) (fun m _ => by rw [List.getD_eq_getElem?_getD, List.getElem?_replicate]; split <;> rfl)
  simp only [hval_rep, List.drop_zero, halves_val, Int.pow_zero, Int.one_mul, Int.zero_add] at h
  exact rmul_zero (halves a) (halves b) (by omega) (by omega) _ h _ 0 rfl (by omega)
end Go.Proofs.Ytmknpclfanblfaa.EONatTells
