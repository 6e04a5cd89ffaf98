/- The program's shift of a row of limbs, as a number. -/
import Derived.Test.YtdknpbabdkjhfaaOLimbPowersLimbR
import Derived.Test.YtdknpbabdkjhfaaNumS
set_option linter.unusedVariables false
set_option linter.unusedSimpArgs false
namespace Go.Proofs.Ytdknpbabdkjhfaa.EOLimbPowers
open Go.RowKit Go.Proofs.Ytdknpbabdkjhfaa.POLimbPowers Go.Proofs.YtdknpbabdkjhfaaN Go.Proofs.YtdknpbabdkjhfaaW.PrintWords Go.Proofs.YtdknpbabdkjhfaaW.PrintLast Go.Proofs.YtdknpbabdkjhfaaW.PrintMore
theorem shl_eq {x : Int} {r : Nat} (h : r ≤ 64) : shl .u64 x (r : Int) = 2 ^ r * (x % 2 ^ (64 - r)) := by
  unfold shl
  have e : min (Int.toNat (r : Int)) IntKind.u64.bits = r := by
    rw [Int.toNat_natCast]
    exact Nat.min_eq_left h
  have hp := two_pos r
  rw [e, IntKind.wrap_u64, show (18446744073709551616 : Int) = B from rfl, ← two_split h, Int.mul_comm x, Int.mul_emod_mul_of_pos _ _ hp]
theorem shr_eq {x : Int} {r : Nat} (h : r ≤ 64) : shr .u64 x (r : Int) = x / 2 ^ r := by
  unfold shr
  have e : min (Int.toNat (r : Int)) IntKind.u64.bits = r := by
    rw [Int.toNat_natCast]
    exact Nat.min_eq_left h
  rw [e]
theorem shr_half {x : Int} {r : Nat} (h : r ≤ 63) : shr .u64 x ((63 - r : Nat) : Int) / 2 = x / 2 ^ (64 - r) := by
  rw [shr_eq (by omega), Int.ediv_ediv_of_nonneg (Int.le_of_lt (two_pos _)), show 64 - r = 63 - r + 1 from by omega, Int.pow_succ]
theorem left_stp {x c : Int} {r : Nat} (hr : r ≤ 63) (hx : 0 ≤ x ∧ x < B) (hc : 0 ≤ c ∧ c < 2 ^ r) : ∃ v c', shl .u64 x (r : Int) |> fun s => Go.bits .or .u64 s c = v ∧ shr .u64 x ((63 - r : Nat) : Int) / 2 = c' ∧ (0 ≤ v ∧ v < B) ∧ (0 ≤ c' ∧ c' < 2 ^ r) ∧ v + B * c' = c + 2 ^ r * x := by
  have h64 : r ≤ 64 := by omega
  have h1 := shl_in (x := x) h64
  have h2 := left_split (x := x) h64
  have h3 := two_pos (64 - r)
  have h4 := two_le_B h64
  have h5 := Int.emod_nonneg x (b := 2 ^ (64 - r)) (by omega)
  have h6 : x / 2 ^ (64 - r) < 2 ^ r := by
    apply Int.ediv_lt_of_lt_mul h3
    rw [two_split h64]
    exact hx.2
  have h7 : 0 ≤ x / 2 ^ (64 - r) := Int.ediv_nonneg hx.1 (by omega)
  refine ⟨2 ^ r * (x % 2 ^ (64 - r)) + c, x / 2 ^ (64 - r), ?_, shr_half hr, ?_, ⟨h7, h6⟩, ?_⟩
  · rw [shl_eq h64, or_hi h5 hc (by omega) (by omega)]
  · omega
  · omega
theorem left_num {out : List Int} {x c v c' V : Int} {r : Nat} (h : v + B * c' = c + 2 ^ r * x) : val (out ++ [v]) + B ^ (out ++ [v]).length * (c' + 2 ^ r * V) = val out + B ^ out.length * (c + 2 ^ r * (x + B * V)) := by
  have e : c + 2 ^ r * (x + B * V) = v + B * (c' + 2 ^ r * V) := by
    rw [Int.mul_add, Int.mul_add, ← Int.mul_assoc, ← Int.mul_assoc, Int.mul_comm B (2 ^ r)]
    omega
  rw [e, val_snoc, List.length_append, List.length_singleton, Bpow_succ, Int.mul_add (B ^ out.length), Int.mul_assoc, Int.add_assoc]
theorem left_f {n : Nat} {out a : List Int} {c v c' : Int} {i : Nat} (hn : n ≤ 1000) (hl : a.length ≤ 4294967296) (hi : i < a.length) (ho : out.length ≤ i + 100) (h1 : Go.bits .or .u64 (shl .u64 (a.getD i 0) ((n % 64 : Nat) : Int)) c = v) (h2 : shr .u64 (a.getD i 0) ((63 - n % 64 : Nat) : Int) / 2 = c') (k : Nat) : limb_Shift.l1 (k + 1) n out c a a.length i = limb_Shift.l1 k n (out ++ [v]) c' a a.length ((i + 1 : Nat) : Int) := by
  have hw : wrap64 ((i : Int) + 1) = ((i + 1 : Nat) : Int) := by rw [w64 (by omega)]; omega
  have hr : Int.tmod (n : Int) 64 = ((n % 64 : Nat) : Int) := by rw [Int.tmod_eq_emod_of_nonneg (by omega)]; omega
  have hr' : wrap64 (63 - ((n % 64 : Nat) : Int)) = ((63 - n % 64 : Nat) : Int) := by rw [w64 (by omega)]; omega
  have c0 : (0 : Int) ≤ (i : Int) := by omega
  have c1 : (i : Int) < (a.length : Int) := by omega
  have c2 : (0 : Int) ≤ ((n % 64 : Nat) : Int) := by omega
  have c3 : (0 : Int) ≤ ((63 - n % 64 : Nat) : Int) := by omega
  have c4 : out.length < 17592186044416 := by omega
  simp only [limb_Shift.l1, hw, hr, hr', rd_nat, h1, h2]
  rw [if_pos c1, if_pos c0, if_pos c1, if_pos c2, if_pos c4, if_pos c3]
theorem left_go (a : List Int) (ha : Ok a) (hl : a.length ≤ 4294967296) (n : Nat) (hn : n ≤ 1000) : ∀ (d : Nat) (out : List Int) (c : Int) (i : Nat), a.length - i = d → i ≤ a.length → Ok out → out.length ≤ i + 100 → (0 ≤ c ∧ c < 2 ^ (n % 64)) → Ev (fun k => limb_Shift.l1 k n out c a a.length i) (dg (val out + B ^ out.length * (c + 2 ^ (n % 64) * val (a.drop i)))) := by
  intro d
  induction d with
  | zero =>
    intro out c i hd hi ho hol hc
    have e : a.drop i = [] := List.drop_eq_nil_of_le (by omega)
    have hcB : c < B := Int.lt_of_lt_of_le hc.2 (two_le_B (by omega))
    have hok : Ok (out ++ [c]) := ho.append (Ok.one hc.1 hcB)
    have hll : (out ++ [c]).length ≤ 4294967397 := by simp; omega
    have c1 : ¬ ((i : Int) < (a.length : Int)) := by omega
    have c4 : out.length < 17592186044416 := by omega
    refine Ev.step (f := fun k => (limb_trim.f k (out ++ [c])).bind fun t => ((slices_Clone_uint64_uint64.f t).bind fun t => (some t))) (fun k => by simp only [limb_Shift.l1]; rw [if_neg c1, if_pos c4]) ?_
    rw [e, val_nil, Int.mul_zero, Int.add_zero, ← val_snoc]
    have := dg_len_val hok
    exact Ev.bind (trim_ev hok (by omega)) (Ev.bind_const (clone_dg (by omega)) (Ev.now _))
  | succ d ih =>
    intro out c i hd hi ho hol hc
    have hia : i < a.length := by omega
    obtain ⟨v, c', h1, h2, h3, h4, h5⟩ := left_stp (r := n % 64) (by omega) (ha.at i) hc
    refine Ev.step (left_f hn hl hia hol h1 h2) ?_
    have := ih (out ++ [v]) c' (i + 1) (by omega) (by omega) (ho.append (Ok.one h3.1 h3.2)) (by simp; omega) h4
    rw [left_num h5, ← val_drop hia] at this
    exact this
theorem shift_pos {a : List Int} (ha : Ok a) (hal : a.length ≤ 4294967296) {n : Int} (hn : 0 ≤ n) : Ev (fun k => limb_Shift.f k a n) (dg (val a * 2 ^ (min n.toNat 1000))) := by
  unfold limb_Shift.f
  have e : mn n 1000 = ((min n.toNat 1000 : Nat) : Int) := by unfold mn; split <;> omega
  rw [e]
  have hN : min n.toNat 1000 ≤ 1000 := Nat.min_le_right ..
  generalize min n.toNat 1000 = N at *
  have hq : wrap64 (Int.tdiv (N : Int) 64) = ((N / 64 : Nat) : Int) := by rw [Int.tdiv_eq_ediv_of_nonneg (by omega), w64 (by omega)]; omega
  have hdl := dg_len_val ha
  have hw : wrap64 (wrap64 (((N / 64 : Nat) : Int) + ((dg (val a)).length : Int)) + 1) = ((N / 64 + (dg (val a)).length + 1 : Nat) : Int) := by
    rw [w64 (x := ((N / 64 : Nat) : Int) + ((dg (val a)).length : Int)) (by omega), w64 (by omega)]
    omega
  refine Ev.bind (trim_ev ha (by omega)) (Ev.neg (by omega) ?_)
  simp only [hq, hw, Int.toNat_natCast]
  refine Ev.pos (by omega) (Ev.pos (by omega) (Ev.pos (by omega) ?_))
  have h := left_go (dg (val a)) (ok_dg _) (by omega) N hN _ (List.replicate (N / 64) 0) 0 0 rfl (by omega) (Ok.rep _) (by simp; omega) ⟨Int.le_refl _, two_pos _⟩
  rw [val_rep, List.length_replicate, List.drop_zero, val_dg (val_nonneg ha), Int.zero_add, Int.zero_add, Bpow_two, ← Int.mul_assoc, ← Int.pow_add, show 64 * (N / 64) + N % 64 = N from by omega, Int.mul_comm] at h
  exact h
theorem right_stp {x y : Int} {r : Nat} (hr : r ≤ 63) (hx : 0 ≤ x ∧ x < B) (hy : 0 ≤ y ∧ y < B) : (0 ≤ x / 2 ^ r + 2 ^ (64 - r) * (y % 2 ^ r) ∧ x / 2 ^ r + 2 ^ (64 - r) * (y % 2 ^ r) < B) ∧ Go.bits .or .u64 (shr .u64 x (r : Int)) (shl .u64 y ((64 - r : Nat) : Int)) = x / 2 ^ r + 2 ^ (64 - r) * (y % 2 ^ r) := by
  have hr4 : 64 - r ≤ 64 := by omega
  have h64 : r ≤ 64 := by omega
  have h1 := shl_in (x := y) hr4
  rw [shr_eq h64, shl_eq hr4]
  rw [show 64 - (64 - r) = r from by omega] at h1 ⊢
  have h2 := two_pos r
  have h5 := Int.emod_nonneg y (b := 2 ^ r) (by omega)
  have h6 : x / 2 ^ r < 2 ^ (64 - r) := by
    apply Int.ediv_lt_of_lt_mul h2
    rw [Int.mul_comm, two_split h64]
    exact hx.2
  have h7 : 0 ≤ x / 2 ^ r := Int.ediv_nonneg hx.1 (by omega)
  have h8 := two_le_B hr4
  have h9 := two_pos (64 - r)
  refine ⟨?_, or_lo h5 ⟨h7, h6⟩ (by omega) (by omega)⟩
  omega
theorem set_mid (t : List Int) (x y : Int) (s : List Int) : (t ++ x :: s).set t.length y = t ++ y :: s := by
  rw [List.set_append_right _ _ (Nat.le_refl _), Nat.sub_self, List.set_cons_zero]
theorem getD_mid (t : List Int) (x : Int) (s : List Int) (j : Nat) : (t ++ x :: s).getD (t.length + j) 0 = (x :: s).getD j 0 := by
  rw [List.getD_eq_getElem?_getD, List.getD_eq_getElem?_getD, List.getElem?_append_right (by omega), Nat.add_sub_cancel_left]
theorem right_f {t s : List Int} {x : Int} {r : Nat} (hr : r ≤ 63) (ht : Ok (x :: s)) (hl : t.length + s.length ≤ 4294967296) (L : Nat) (hL : L = t.length + 1 + s.length) (k : Nat) : limb_Shift.l0 (k + 1) (t ++ x :: s) (r : Int) L t.length = limb_Shift.l0 k ((t ++ [x / 2 ^ r + 2 ^ (64 - r) * (s.getD 0 0 % 2 ^ r)]) ++ s) (r : Int) L ((t ++ [x / 2 ^ r + 2 ^ (64 - r) * (s.getD 0 0 % 2 ^ r)]).length : Int) := by
  obtain ⟨hv, hor⟩ := right_stp hr ht.head (ht.tail.at 0)
  have hw : wrap64 ((t.length : Int) + 1) = ((t.length + 1 : Nat) : Int) := by rw [w64 (by omega)]; omega
  have hr' : wrap64 (64 - (r : Int)) = ((64 - r : Nat) : Int) := by rw [w64 (by omega)]; omega
  have g0 := getD_mid t x s 0
  have hlen : (t ++ x :: s).length = t.length + 1 + s.length := by simp; omega
  have c0 : (0 : Int) ≤ (t.length : Int) := by omega
  have c1 : (t.length : Int) < (L : Int) := by omega
  have c2 : (t.length : Int) < ((t ++ x :: s).length : Int) := by omega
  have c3 : (0 : Int) ≤ (r : Int) := by omega
  have e1 : (t ++ [x / 2 ^ r + 2 ^ (64 - r) * (s.getD 0 0 % 2 ^ r)]).length = t.length + 1 := by simp
  rw [List.append_assoc, List.singleton_append, e1]
  have g0' : (t ++ x :: s).getD t.length 0 = x := g0
  have g1 : (t ++ (x / 2 ^ r) :: s).getD t.length 0 = x / 2 ^ r := getD_mid t _ s 0
  have g2 : (t ++ (x / 2 ^ r) :: s).getD (t.length + 1) 0 = s.getD 0 0 := getD_mid t _ s 1
  simp only [limb_Shift.l0, hw, hr', rd_nat, Int.toNat_natCast, some_bind, g0', shr_eq (show r ≤ 64 from by omega), set_mid, g1, g2]
  rw [shr_eq (show r ≤ 64 from by omega)] at hor
  rw [hor, if_pos c1, if_pos c0, if_pos c2, if_pos c3]
  by_cases hs : s = []
  · subst hs
    have c4 : ¬ ((t.length + 1 : Nat) : Int) < ((t ++ [x]).length : Int) := by simp
    rw [if_neg c4]
    simp
  · have hsl := List.length_pos_iff.2 hs
    have c4 : ((t.length + 1 : Nat) : Int) < ((t ++ x :: s).length : Int) := by omega
    rw [if_pos c4]
    by_cases hr0 : r = 0
    · subst hr0
      rw [if_neg (by omega)]
      simp [Int.emod_one]
    · have c5 : (r : Int) > 0 := by omega
      have c6 : (0 : Int) ≤ ((t.length + 1 : Nat) : Int) := by omega
      have c7 : (0 : Int) ≤ ((64 - r : Nat) : Int) := by omega
      rw [if_pos c5, if_pos c6, if_pos c7]
theorem right_go (r : Nat) (hr : r ≤ 63) (L : Nat) : ∀ (s t : List Int), Ok t → Ok s → t.length + s.length ≤ 4294967296 → L = t.length + s.length → Ev (fun k => limb_Shift.l0 k (t ++ s) (r : Int) L t.length) (dg (val t + B ^ t.length * (val s / 2 ^ r))) := by
  intro s
  induction s with
  | nil =>
    intro t ht _ hl hL
    have c1 : ¬ (t.length : Int) < (L : Int) := by simp at hL; omega
    refine Ev.step (f := fun k => (limb_trim.f k t).bind fun t => some t) (fun k => by simp only [limb_Shift.l0, List.append_nil]; rw [if_neg c1]) ?_
    rw [val_nil, Int.zero_ediv, Int.mul_zero, Int.add_zero]
    exact Ev.bind (trim_ev ht (by simp at hl; omega)) (Ev.now _)
  | cons x s ih =>
    intro t ht hs hl hL
    have hl1 : t.length + (s.length + 1) ≤ 4294967296 := hl
    have hL1 : L = t.length + (s.length + 1) := hL
    refine Ev.step (right_f hr hs (by omega) L (by omega)) ?_
    obtain ⟨hv, _⟩ := right_stp hr hs.head (hs.tail.at 0)
    have e1 : (t ++ [x / 2 ^ r + 2 ^ (64 - r) * (s.getD 0 0 % 2 ^ r)]).length = t.length + 1 := by simp
    have := ih (t ++ [x / 2 ^ r + 2 ^ (64 - r) * (s.getD 0 0 % 2 ^ r)]) (ht.append (Ok.one hv.1 hv.2)) hs.tail (by rw [e1]; omega) (by rw [e1]; omega)
    refine Ev.eq this ?_
    have e2 : val s = s.getD 0 0 + B * val (s.drop 1) := by
      cases s with
      | nil => simp [val]
      | cons y s => rfl
    have e3 : val (x :: s) / 2 ^ r = (x / 2 ^ r + 2 ^ (64 - r) * (s.getD 0 0 % 2 ^ r)) + B * (val s / 2 ^ r) := by
      rw [val_cons, e2]
      exact right_split (by omega)
    rw [e3, e1, val_snoc, Bpow_succ]
    generalize x / 2 ^ r + 2 ^ (64 - r) * (s.getD 0 0 % 2 ^ r) = u
    rw [Int.mul_add (B ^ t.length), Int.mul_assoc, Int.add_assoc]
theorem shift_far {v : Int} (hv : 0 ≤ v) {m : Nat} (h : (dg v).length ≤ m / 64) : v / 2 ^ m = 0 := by
  have h1 := len_dg h
  rw [Bpow_two] at h1
  have h2 : (2 : Int) ^ (64 * (m / 64)) ≤ 2 ^ m := two_mono (by omega)
  exact Int.ediv_eq_zero_of_lt hv (by omega)
theorem right_at {v : Int} (hv : 0 ≤ v) {m : Nat} (hl : (dg v).length ≤ 4294967296) (h : m / 64 < (dg v).length) : Ev (fun k => limb_Shift.j0 k (dg v) m false) (dg (v / 2 ^ m)) := by
  have hq : wrap64 (Int.tdiv (m : Int) 64) = ((m / 64 : Nat) : Int) := by rw [Int.tdiv_eq_ediv_of_nonneg (by omega), w64 (by omega)]; omega
  have hr : Int.tmod (m : Int) 64 = ((m % 64 : Nat) : Int) := by rw [Int.tmod_eq_emod_of_nonneg (by omega)]; omega
  have c1 : (0 : Int) ≤ ((m / 64 : Nat) : Int) := by omega
  have c2 : ((m / 64 : Nat) : Int) ≤ ((dg v).length : Int) := by omega
  have c3 : ¬ (false = true) := by decide
  have hdl : ((dg v).drop (m / 64)).length ≤ (dg v).length := by rw [List.length_drop]; omega
  refine Ev.step (f := fun k => limb_Shift.l0 k ([] ++ (dg v).drop (m / 64)) ((m % 64 : Nat) : Int) (((dg v).drop (m / 64)).length : Int) (([] : List Int).length : Int)) (fun k => ?_) ?_
  · simp only [limb_Shift.j0, hq, hr, Int.toNat_natCast]
    rw [if_neg c3, if_pos c1, if_pos c2, clone_dg (by omega)]
    rfl
  · have := right_go (m % 64) (by omega) ((dg v).drop (m / 64)).length ((dg v).drop (m / 64)) [] Ok.nil ((ok_dg v).drop _) (by simp; omega) (by simp)
    refine Ev.eq this ?_
    have e := val_take_drop (dg v) (m / 64) (by omega)
    rw [val_dg hv] at e
    have ht := val_lt ((ok_dg v).take (m / 64))
    have htn := val_nonneg ((ok_dg v).take (m / 64))
    rw [List.length_take, Nat.min_eq_left (by omega)] at ht
    have hB := Bpow_pos (m / 64)
    have e2 : v / B ^ (m / 64) = val ((dg v).drop (m / 64)) := by
      rw [e, Int.add_mul_ediv_left _ _ (by omega), Int.ediv_eq_zero_of_lt htn ht, Int.zero_add, ← e]
    rw [val_nil, List.length_nil, Int.pow_zero, Int.one_mul, Int.zero_add, ← e2, Int.ediv_ediv_of_nonneg (by omega), Bpow_two, ← Int.pow_add, show 64 * (m / 64) + m % 64 = m from by omega]
theorem shift_neg {a : List Int} (ha : Ok a) (hal : a.length ≤ 1000) {n : Int} (hn : n < 0) : Ev (fun k => limb_Shift.f k a n) (dg (val a / 2 ^ (-n).toNat)) := by
  unfold limb_Shift.f
  have hdl := dg_len_val ha
  have hv := val_nonneg ha
  refine Ev.bind (trim_ev ha (by omega)) (Ev.pos (by omega) ?_)
  by_cases hm : n < -100000
  · have e : wrap64 (-(mx n (-100001))) = 100001 := by
      have : mx n (-100001) = -100001 := by unfold mx; split <;> omega
      rw [this, w64 (by omega)]; omega
    rw [e]
    refine Ev.pos (by decide) ?_
    refine Ev.step (fun k => by simp only [limb_Shift.j0]; rw [if_pos trivial]) (Ev.eq (Ev.now _) ?_)
    rw [shift_far hv (by omega), dg_zero]
  · have e : wrap64 (-(mx n (-100001))) = (((-n).toNat : Nat) : Int) := by
      have : mx n (-100001) = n := by unfold mx; split <;> omega
      rw [this, w64 (by omega)]; omega
    rw [e]
    have hM : (-n).toNat ≤ 100000 := by omega
    generalize (-n).toNat = M at *
    refine Ev.neg (by omega) ?_
    have hq : wrap64 (Int.tdiv (M : Int) 64) = ((M / 64 : Nat) : Int) := by rw [Int.tdiv_eq_ediv_of_nonneg (by omega), w64 (by omega)]; omega
    rw [hq]
    by_cases h : M / 64 < (dg (val a)).length
    · have c : decide (((M / 64 : Nat) : Int) ≥ ((dg (val a)).length : Int)) = false := by simp; omega
      rw [c]
      exact right_at hv (by omega) h
    · have c : decide (((M / 64 : Nat) : Int) ≥ ((dg (val a)).length : Int)) = true := by simp; omega
      rw [c]
      refine Ev.step (fun k => by simp only [limb_Shift.j0]; rw [if_pos trivial]) (Ev.eq (Ev.now _) ?_)
      rw [shift_far hv (by omega), dg_zero]
end Go.Proofs.Ytdknpbabdkjhfaa.EOLimbPowers
