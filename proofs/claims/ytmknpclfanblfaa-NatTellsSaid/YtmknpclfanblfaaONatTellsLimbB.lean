/- Differences, sums of rows and products, as numbers. -/
import Derived.Test.YtmknpclfanblfaaONatTellsLimbA
set_option linter.unusedVariables false
set_option linter.unusedSimpArgs false
namespace Go.Proofs.Ytmknpclfanblfaa.EONatTells
open Go.RowKit Go.Proofs.Ytmknpclfanblfaa.PONatTells Go.Proofs.YtmknpclfanblfaaN Go.Proofs.YtmknpclfanblfaaW.PrintWords Go.Proofs.YtmknpclfanblfaaW.PrintLast Go.Proofs.YtmknpclfanblfaaW.PrintMore
/-! Sub -/
theorem sb_bb {x y c : Int} (hx : 0 ≤ x ∧ x < B) (hy : 0 ≤ y ∧ y < B) (hc : 0 ≤ c ∧ c ≤ 1) : sb64 x y c - B * bb64 x y c = x - y - c ∧ (0 ≤ sb64 x y c ∧ sb64 x y c < B) ∧ 0 ≤ bb64 x y c ∧ bb64 x y c ≤ 1 := by
  unfold sb64 bb64
  rw [B_eq] at *
  split <;> omega
theorem sub_val {V v p s t y c c' r' Q : Int} (h1 : s - B * c' = t - y - c) (ih : V + p * B * (c' + r') = v + p * (s - t) + Q) : V + p * (c + (y + B * r')) = v + Q := by
  have e : c + (y + B * r') = (t - s) + B * (c' + r') := by rw [Int.mul_add]; omega
  have e2 : p * (c + (y + B * r')) = p * (t - s) + p * B * (c' + r') := by rw [e, Int.mul_add, Int.mul_assoc]
  have e3 : p * (t - s) = - (p * (s - t)) := by rw [← Int.mul_neg]; congr 1; omega
  omega
theorem part_succ (b : List Int) (d i : Nat) : val ((b.drop i).take (d + 1)) = b.getD i 0 + B * val ((b.drop (i + 1)).take d) := by
  by_cases h : i < b.length
  · rw [List.drop_eq_getElem_cons h, List.take_succ_cons, val_cons, List.getD_eq_getElem?_getD, List.getElem?_eq_getElem h]; rfl
  · rw [List.drop_eq_nil_of_le (by omega), List.drop_eq_nil_of_le (by omega), getD_none (by omega)]
    simp [val]
theorem sub_go (b : List Int) (hb : Ok b) : ∀ (d : Nat) (x : List Int) (c : Int) (i : Nat), Ok x → (0 ≤ c ∧ c ≤ 1) → i + d = x.length →
    Ok (limb_Sub.l0 d x b c i) ∧ (limb_Sub.l0 d x b c i).length = x.length ∧ ∃ ce, (0 ≤ ce ∧ ce ≤ 1) ∧ val (limb_Sub.l0 d x b c i) + B ^ i * (c + val ((b.drop i).take d)) = val x + B ^ (i + d) * ce := by
  intro d
  induction d with
  | zero =>
    intro x c i hx hc hi
    refine ⟨hx, rfl, c, hc, ?_⟩
    simp [limb_Sub.l0, val]
  | succ d ih =>
    intro x c i hx hc hi
    have hxi := hx.at i
    obtain ⟨hs, hok, hcc⟩ := sb_bb hxi (hb.at i) hc
    obtain ⟨h1, h2, ce, h3, h4⟩ := ih (x.set i (sb64 (x.getD i 0) (b.getD i 0) c)) (bb64 (x.getD i 0) (b.getD i 0) c) (i + 1) (hx.set i hok.1 hok.2) hcc (by rw [List.length_set]; omega)
    rw [limb_Sub.l0]
    refine ⟨h1, by rw [h2, List.length_set], ce, h3, ?_⟩
    rw [part_succ, show i + (d + 1) = i + 1 + d from by omega]
    refine sub_val hs ?_
    rw [val_set (by omega : i < x.length), Bpow_succ] at h4
    exact h4
theorem sub_all {x b : List Int} (hx : Ok x) (hb : Ok b) (h : val b ≤ val x) : Ok (limb_Sub.l0 x.length x b 0 0) ∧ (limb_Sub.l0 x.length x b 0 0).length = x.length ∧ val (limb_Sub.l0 x.length x b 0 0) = val x - val b := by
  obtain ⟨h1, h2, ce, h3, h4⟩ := sub_go b hb x.length x 0 0 hx (by omega) (by omega)
  refine ⟨h1, h2, ?_⟩
  have hp := Bpow_pos x.length
  have hxl := val_lt hx
  have hy0 := val_nonneg h1
  have hyl := val_lt h1
  rw [h2] at hyl
  have hbt : val (b.take x.length) = val b := by
    by_cases hl : b.length ≤ x.length
    · rw [List.take_of_length_le hl]
    · have e := val_take_drop b x.length (by omega)
      have n1 := val_nonneg (hb.take x.length)
      have n2 := val_nonneg (hb.drop x.length)
      have : val (b.drop x.length) = 0 := by
        rcases Int.lt_or_le 0 (val (b.drop x.length)) with h5 | h5
        · have : B ^ x.length * 1 ≤ B ^ x.length * val (b.drop x.length) := Int.mul_le_mul_of_nonneg_left (by omega) (by omega)
          omega
        · omega
      rw [this] at e
      omega
  simp only [List.drop_zero, Int.pow_zero, Int.one_mul, Int.zero_add, hbt, Nat.zero_add] at h4
  have : ce = 0 := by
    rcases Int.lt_or_le 0 ce with h5 | h5
    · have e1 : ce = 1 := by omega
      rw [e1] at h4
      have n1 := val_nonneg hb
      omega
    · omega
  rw [this] at h4
  omega
theorem sub_ev {a b : List Int} (ha : Ok a) (hb : Ok b) (hal : a.length ≤ 4294967296) (hbl : b.length ≤ 4294967296) : Ev (fun k => limb_Sub.f k a b) (if val a < val b then ([], false) else (dg (val a - val b), true)) := by
  unfold limb_Sub.f
  refine Ev.bind (cmp_ev ha hb (by omega) (by omega)) ?_
  by_cases h : val a < val b
  · rw [if_pos h]
    exact Ev.pos (cmpv_neg.2 h) (Ev.now _)
  · rw [if_neg h]
    refine Ev.neg (fun e => h (cmpv_neg.1 e)) (Ev.bind (Trim_ev ha (by omega)) ?_)
    have h0 := val_nonneg ha
    have hl := dg_len_val ha
    obtain ⟨h1, h2, h3⟩ := sub_all (ok_dg (val a)) hb (by rw [val_dg h0]; omega)
    rw [val_dg h0] at h3
    have := trim_ev h1 (by rw [h2]; omega)
    rw [h3] at this
    exact Ev.bind this (Ev.now _)
/-! sum -/
theorem pad_val (out : List Int) (n : Nat) : val (limb_sum.pad out n) = val out := by unfold limb_sum.pad; rw [val_append, val_rep]; simp
theorem pad_ok {out : List Int} (h : Ok out) (n : Nat) : Ok (limb_sum.pad out n) := h.append (Ok.rep _)
theorem pad_len (out : List Int) (n : Nat) : (limb_sum.pad out n).length = max out.length n := by unfold limb_sum.pad; simp; omega
theorem l3_go : ∀ (row out : List Int) (i : Nat) (c : Int), Ok row → Ok out → (0 ≤ c ∧ c ≤ 1) → i + row.length ≤ out.length →
    ∃ o c', limb_sum.l3 row out i c = some (o, c') ∧ Ok o ∧ o.length = out.length ∧ (0 ≤ c' ∧ c' ≤ 1) ∧ val o + B ^ (i + row.length) * c' = val out + B ^ i * (c + val row) := by
  intro row
  induction row with
  | nil =>
    intro out i c _ ho hc _
    exact ⟨out, c, rfl, ho, rfl, hc, by simp [val]⟩
  | cons x row ih =>
    intro out i c hr ho hc hl
    simp only [List.length_cons] at hl
    obtain ⟨hs, hok, hcc⟩ := ad_ac (ho.at i) hr.head hc
    obtain ⟨o, c', e, h1, h2, h3, h4⟩ := ih (out.set i (ad64 (out.getD i 0) x c)) (i + 1) (ac64 (out.getD i 0) x c) hr.tail (ho.set i hok.1 hok.2) hcc (by rw [List.length_set]; omega)
    refine ⟨o, c', ?_, h1, by rw [h2, List.length_set], h3, ?_⟩
    · rw [limb_sum.l3, if_pos ⟨hc.2, by omega⟩]; exact e
    · rw [List.length_cons, show i + (row.length + 1) = i + 1 + row.length from by omega, h4, val_set (by omega), Bpow_succ]
      exact add_val hs rfl
theorem l4_go : ∀ (d : Nat) (out : List Int) (i : Nat) (c : Int), Ok out → (0 ≤ c ∧ c ≤ 1) → i ≤ out.length → out.length - i + c.toNat = d → (out.length < 17592186044414 ∨ c = 0) →
    ∃ o, Ev (fun k => limb_sum.l4 k out i c) o ∧ Ok o ∧ o.length ≤ out.length + 1 ∧ val o = val out + B ^ i * c := by
  intro d
  induction d using Nat.strongRecOn with
  | _ d ih =>
    intro out i c ho hc hi hd hl
    by_cases h0 : 0 < c
    · have hc1 : c = 1 := by omega
      have hp := pad_ok ho (i + 1)
      obtain ⟨hs, hok, hcc⟩ := ad_ac (hp.at i) ⟨Int.le_refl 0, B_pos⟩ hc
      have hpl := pad_len out (i + 1)
      have hstep : ∀ k, limb_sum.l4 (k + 1) out i c = limb_sum.l4 k ((limb_sum.pad out (i + 1)).set i (ad64 ((limb_sum.pad out (i + 1)).getD i 0) 0 c)) (i + 1) (ac64 ((limb_sum.pad out (i + 1)).getD i 0) 0 c) := fun k => by
        rw [limb_sum.l4, if_pos h0, if_pos ⟨hc.2, hi, by omega⟩]
      have hcn : i = out.length → ac64 ((limb_sum.pad out (i + 1)).getD i 0) 0 c = 0 := by
        intro e
        have : (limb_sum.pad out (i + 1)).getD i 0 = 0 := by rw [limb_sum.pad_more e, e]; exact getD_snoc_last _ _
        rw [this]
        exact ac_small hc
      obtain ⟨o, h1, h2, h3, h4⟩ := ih ((limb_sum.pad out (i + 1)).length - (i + 1) + (ac64 ((limb_sum.pad out (i + 1)).getD i 0) 0 c).toNat) (by
          by_cases e : i = out.length
          · rw [hcn e]; omega
          · omega) ((limb_sum.pad out (i + 1)).set i (ad64 ((limb_sum.pad out (i + 1)).getD i 0) 0 c)) (i + 1) (ac64 ((limb_sum.pad out (i + 1)).getD i 0) 0 c) (hp.set i hok.1 hok.2) hcc (by rw [List.length_set]; omega) (by rw [List.length_set]) (by
          rw [List.length_set]
          by_cases e : i = out.length
          · exact .inr (hcn e)
          · exact .inl (by omega))
      refine ⟨o, Ev.step hstep h1, h2, ?_, ?_⟩
      · rw [List.length_set] at h3
        by_cases e : i = out.length
        · -- nothing is carried on
          have hz := hcn e
          rw [hz] at h1
          have hnow : Ev (fun k => limb_sum.l4 k ((limb_sum.pad out (i + 1)).set i (ad64 ((limb_sum.pad out (i + 1)).getD i 0) 0 c)) (i + 1) 0) ((limb_sum.pad out (i + 1)).set i (ad64 ((limb_sum.pad out (i + 1)).getD i 0) 0 c)) :=
            Ev.step (fun k => by rw [limb_sum.l4, if_neg (by omega)]) (Ev.now _)
          obtain ⟨K1, e1⟩ := h1
          obtain ⟨K2, e2⟩ := hnow
          have e3 := (e1 (max K1 K2) (by omega)).symm.trans (e2 (max K1 K2) (by omega))
          injection e3 with e3
          rw [e3, List.length_set]
          omega
        · omega
      · rw [h4, val_set (by omega), pad_val, Bpow_succ]
        have := add_val (v := val out) (p := B ^ i) (r := 0) (r' := 0) hs (by omega)
        simp only [Int.add_zero] at this
        exact this
    · have hc0 : c = 0 := by omega
      subst hc0
      exact ⟨out, Ev.step (fun k => by rw [limb_sum.l4, if_neg (by omega)]) (Ev.now _), ho, by omega, by omega⟩
theorem l1_go (L : Nat) (hL : L ≤ 4294967296) : ∀ (rows : List (List Int)) (j : Nat) (out : List Int), (∀ r ∈ rows, Ok r ∧ r.length ≤ L) → Ok out → out.length ≤ 2 * j + L → j + rows.length ≤ 4294967296 →
    ∃ o, Ev (fun k => limb_sum.l1 k rows j out) o ∧ Ok o ∧ o.length ≤ 2 * (j + rows.length) + L ∧ val o = val out + B ^ j * sumv rows := by
  intro rows
  induction rows with
  | nil =>
    intro j out _ ho hl _
    refine ⟨out, Ev.now _, ho, by simpa using hl, by simp [sumv]⟩
  | cons r rows ih =>
    intro j out hr ho hl hj
    simp only [List.length_cons] at hj
    obtain ⟨hrk, hrl⟩ := hr r (List.mem_cons_self ..)
    have hdl := dg_len_val hrk
    have hpl := pad_len out (j + (dg (val r)).length)
    obtain ⟨o1, c1, e1, a1, a2, a3, a4⟩ := l3_go (dg (val r)) (limb_sum.pad out (j + (dg (val r)).length)) j 0 (ok_dg _) (pad_ok ho _) (by omega) (by omega)
    obtain ⟨o2, b0, b1, b2, b3⟩ := l4_go _ o1 (j + (dg (val r)).length) c1 a1 a3 (by omega) rfl (.inl (by omega))
    obtain ⟨o3, d0, d1, d2, d3⟩ := ih (j + 1) o2 (fun r' h' => hr r' (List.mem_cons_of_mem _ h')) b1 (by omega) (by omega)
    refine ⟨o3, ?_, d1, by simp only [List.length_cons]; omega, ?_⟩
    · simp only [limb_sum.l1]
      refine Ev.bind (trim_ev hrk (by omega)) (Ev.pos (by omega) (Ev.bind_const e1 (Ev.bind b0 d0)))
    · rw [d3, b3, a4, pad_val, val_dg (val_nonneg hrk), sumv, Bpow_succ, Int.zero_add, Int.mul_add, Int.mul_assoc]
      omega
theorem sumv_nonneg : ∀ (rows : List (List Int)), (∀ r ∈ rows, Ok r) → 0 ≤ sumv rows := by
  intro rows
  induction rows with
  | nil => intro _; exact Int.le_refl _
  | cons r rows ih =>
    intro h
    have h1 := val_nonneg (h r (List.mem_cons_self ..))
    have h2 := Int.mul_nonneg (Int.le_of_lt B_pos) (ih fun r' h' => h r' (List.mem_cons_of_mem _ h'))
    rw [sumv]
    omega
theorem sum_ev {rows : List (List Int)} {L : Nat} (hL : L ≤ 4294967296) (hr : ∀ r ∈ rows, Ok r ∧ r.length ≤ L) (hn : rows.length ≤ 4294967296) : Ev (fun k => limb_sum.f k rows) (dg (sumv rows)) := by
  obtain ⟨o, h1, h2, h3, h4⟩ := l1_go L hL rows 0 [] hr Ok.nil (by simp) (by omega)
  unfold limb_sum.f
  have e : val o = sumv rows := by rw [h4]; simp [val]
  have hl := dg_len_val h2
  refine Ev.bind h1 (Ev.bind (trim_ev h2 (by omega)) ?_)
  rw [← e]
  exact Ev.bind_const (clone_dg (by omega)) (Ev.now _)
/-! Mul -/
theorem mul_hi {x y : Int} (hx : 0 ≤ x ∧ x < B) (hy : 0 ≤ y ∧ y < B) : 0 ≤ x * y / B ∧ x * y / B ≤ B - 2 ∧ (0 ≤ x * y % B ∧ x * y % B < B) ∧ x * y % B + B * (x * y / B) = x * y := by
  have h1 : x * y ≤ (B - 1) * (B - 1) := Int.mul_le_mul (by omega) (by omega) hy.1 (by have := B_pos; omega)
  have h0 : 0 ≤ x * y := Int.mul_nonneg hx.1 hy.1
  have e := Int.emod_add_mul_ediv (x * y) B
  refine ⟨Int.ediv_nonneg h0 (Int.le_of_lt B_pos), ?_, ⟨Int.emod_nonneg _ (Int.ne_of_gt B_pos), Int.emod_lt_of_pos _ B_pos⟩, e⟩
  rw [B_eq] at *
  generalize x * y = z at *
  omega
theorem u64w {x : Int} (h : 0 ≤ x ∧ x < B) : IntKind.u64.wrap x = x := by rw [IntKind.wrap_u64]; rw [B_eq] at h; omega
theorem mul64_eq {x y : Int} (hx : 0 ≤ x ∧ x < B) (hy : 0 ≤ y ∧ y < B) : bits_Mul64.f x y = some (x * y / B, x * y % B) := if_pos ⟨hx, hy⟩
theorem drop_set_zero {l : List Int} {i : Nat} {v : Int} (h : ∀ j, i ≤ j → l.getD j 0 = 0) : ∀ j, i + 1 ≤ j → (l.set i v).getD j 0 = 0 := by
  intro j hj
  have := h j (by omega)
  rw [List.getD_eq_getElem?_getD] at this ⊢
  rw [List.getElem?_set_ne (by omega)]
  exact this
theorem mul_val {v p x n t y c c' P : Int} (h0 : v + p * c = x * P) (h1 : n + B * c' = t + x * y + c) (ht : t = 0) : v + p * (n - t) + p * B * c' = x * (P + p * y) := by
  have e : n - t + B * c' = x * y + c := by omega
  have e2 : v + p * (n - t) + p * B * c' = v + p * (n - t + B * c') := by rw [Int.mul_add, Int.mul_assoc, Int.add_assoc]
  rw [e2, e, Int.mul_add, Int.mul_add, ← h0]
  have e3 : p * (x * y) = x * (p * y) := by rw [← Int.mul_assoc, Int.mul_comm p x, Int.mul_assoc]
  omega
/-- One row of a product. -/
theorem mrow_go (b : List Int) (hb : Ok b) (hbl : b.length ≤ 4294967296) (x : Int) (hx : 0 ≤ x ∧ x < B) (rows : List (List Int)) (hrl : rows.length < 5864062014805) (a : List Int) (al j : Int) : ∀ (d : Nat) (r : List Int) (c : Int) (i : Nat), b.length - i = d → i ≤ b.length → Ok r → r.length = b.length + 1 → (0 ≤ c ∧ c < B) → (∀ m, i ≤ m → r.getD m 0 = 0) → val r + B ^ i * c = x * val (b.take i) →
    ∃ r', Ok r' ∧ r'.length = b.length + 1 ∧ val r' = x * val b ∧ ∀ res, Ev (fun k => limb_Mul.l0 k b (rows ++ [r']) a al (wrap64 (j + 1))) res → Ev (fun k => limb_Mul.l1 k b rows x r c a al j b (b.length : Int) i) res := by
  intro d
  induction d with
  | zero =>
    intro r c i hd hi hr hrlen hc hz hv
    have hib : i = b.length := by omega
    subst hib
    refine ⟨r.set b.length c, hr.set _ hc.1 hc.2, by rw [List.length_set]; exact hrlen, ?_, fun res hres => Ev.step (fun k => ?_) hres⟩
    · rw [val_set (by omega), hz _ (Nat.le_refl _), Int.sub_zero, hv, List.take_length]
    · simp only [limb_Mul.l1]
      rw [if_neg (by omega), if_pos (by omega), if_pos (by omega), if_pos hrl, Int.toNat_natCast]
  | succ d ih =>
    intro r c i hd hi hr hrlen hc hz hv
    have hib : i < b.length := by omega
    have hbi := hb.at i
    obtain ⟨m1, m2, m3, m4⟩ := mul_hi hx hbi
    have hlo : (0 ≤ x * b.getD i 0 % B ∧ x * b.getD i 0 % B < B) := m3
    have ha := ad_ac (c := 0) hlo hc (by omega)
    obtain ⟨s1, s2, s3⟩ := ha
    have hwr : IntKind.u64.wrap (x * b.getD i 0 / B + ac64 (x * b.getD i 0 % B) c 0) = x * b.getD i 0 / B + ac64 (x * b.getD i 0 % B) c 0 := u64w (by omega)
    have hnew : val (r.set i (ad64 (x * b.getD i 0 % B) c 0)) + B ^ (i + 1) * (x * b.getD i 0 / B + ac64 (x * b.getD i 0 % B) c 0) = x * val (b.take (i + 1)) := by
      rw [val_set (by omega), val_take_succ hib, Bpow_succ]
      refine mul_val hv ?_ (hz i (Nat.le_refl _))
      rw [hz i (Nat.le_refl _), Int.mul_add]
      omega
    obtain ⟨r', h1, h2, h3, h4⟩ := ih (r.set i (ad64 (x * b.getD i 0 % B) c 0)) (x * b.getD i 0 / B + ac64 (x * b.getD i 0 % B) c 0) (i + 1) (by omega) (by omega) (hr.set i s2.1 s2.2) (by rw [List.length_set]; exact hrlen) (by omega) (drop_set_zero hz) hnew
    refine ⟨r', h1, h2, h3, fun res hres => Ev.step (fun k => ?_) (h4 res hres)⟩
    simp only [limb_Mul.l1]
    rw [if_pos (by omega), if_pos (by omega), if_pos (by omega), rd_nat, mul64_eq hx hbi, some_bind, if_pos (by omega), Int.toNat_natCast, w64 (by omega), hwr, show (i : Int) + 1 = ((i + 1 : Nat) : Int) from by omega]
theorem sumv_append (u : List (List Int)) (r : List Int) : sumv (u ++ [r]) = sumv u + B ^ u.length * val r := by
  induction u with
  | nil => simp [sumv]
  | cons x u ih => rw [List.cons_append, sumv, sumv, ih, List.length_cons, Bpow_succ, Int.mul_add, Int.mul_comm (B ^ u.length) B, Int.mul_assoc, Int.add_assoc]
theorem mul_go (a b : List Int) (ha : Ok a) (hb : Ok b) (hal : a.length ≤ 4294967295) (hbl : b.length ≤ 4294967295) : ∀ (d j : Nat) (rows : List (List Int)), a.length - j = d → j ≤ a.length → rows.length = j → (∀ r ∈ rows, Ok r ∧ r.length ≤ b.length + 1) → sumv rows = val (a.take j) * val b →
    Ev (fun k => limb_Mul.l0 k b rows a (a.length : Int) j) (dg (val a * val b)) := by
  intro d
  induction d with
  | zero =>
    intro j rows hd hj hrl hr hs
    have hja : j = a.length := by omega
    refine Ev.step (f := fun k => (limb_sum.f k rows).bind fun t => some t) (fun k => by simp only [limb_Mul.l0]; rw [if_neg (by omega)]) ?_
    rw [hja, List.take_length] at hs
    rw [← hs]
    exact Ev.bind (sum_ev (L := b.length + 1) (by omega) hr (by omega)) (Ev.now _)
  | succ d ih =>
    intro j rows hd hj hrl hr hs
    have hja : j < a.length := by omega
    have hw : wrap64 ((b.length : Int) + 1) = ((b.length + 1 : Nat) : Int) := by rw [w64 (by omega)]; omega
    obtain ⟨r', h1, h2, h3, h4⟩ := mrow_go b hb (by omega) (a.getD j 0) (ha.at j) rows (by omega) a (a.length : Int) j b.length (List.replicate (b.length + 1) 0) 0 0 (by omega) (by omega) (Ok.rep _) (by simp) ⟨Int.le_refl _, B_pos⟩ (fun m _ => by rw [List.getD_eq_getElem?_getD, List.getElem?_replicate]; split <;> rfl) (by rw [val_rep]; simp [val])
    refine Ev.step (fun k => ?_) (h4 _ ?_)
    · simp only [limb_Mul.l0]
      rw [if_pos (by omega), if_pos (by omega), if_pos (by omega), hw, if_pos (by omega), if_pos (by omega), rd_nat, Int.toNat_natCast]
      rfl
    · rw [w64 (by omega), show (j : Int) + 1 = ((j + 1 : Nat) : Int) from by omega]
      refine ih (j + 1) (rows ++ [r']) (by omega) (by omega) (by simp [hrl]) (fun r hr' => ?_) ?_
      · rcases List.mem_append.1 hr' with hr' | hr'
        · exact hr r hr'
        · rw [List.mem_singleton.1 hr']
          exact ⟨h1, by omega⟩
      · rw [sumv_append, hs, h3, hrl, val_take_succ hja, Int.add_mul, Int.mul_assoc]
theorem mul_ev {a b : List Int} (ha : Ok a) (hb : Ok b) (hal : a.length ≤ 4294967295) (hbl : b.length ≤ 4294967295) : Ev (fun k => limb_Mul.f k a b) (dg (val a * val b)) := by
  unfold limb_Mul.f
  have h0 := val_nonneg ha
  have h1 := val_nonneg hb
  have l0 := dg_len_val ha
  have l1 := dg_len_val hb
  refine Ev.bind (trim_ev hb (by omega)) (Ev.bind (trim_ev ha (by omega)) ?_)
  have := mul_go (dg (val a)) (dg (val b)) (ok_dg _) (ok_dg _) (by omega) (by omega) _ 0 [] rfl (by omega) rfl (fun r hr => absurd hr List.not_mem_nil) (by simp [sumv, val])
  rw [val_dg h0, val_dg h1] at this
  exact this
end Go.Proofs.Ytmknpclfanblfaa.EONatTells
