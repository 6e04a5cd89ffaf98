/- Rows of limbs as numbers: what a row is worth, the one row of a number, and how they go together. Plain Lean: no program. -/
set_option linter.unusedVariables false
set_option linter.unusedSimpArgs false
namespace Go.Proofs.YtmknpclfanblfaaN

def B : Int := 18446744073709551616
theorem B_pos : 0 < B := by unfold B; decide
theorem B_eq : B = 18446744073709551616 := rfl

/-- Each limb is one. -/
def Ok (l : List Int) : Prop := ∀ x ∈ l, 0 ≤ x ∧ x < B
instance (l : List Int) : Decidable (Ok l) := by unfold Ok; infer_instance
def val : List Int → Int
  | [] => 0
  | x :: xs => x + B * val xs
/-- The one row of a number. -/
def dgn (n : Nat) : List Int := if h : n = 0 then [] else ((n % 18446744073709551616 : Nat) : Int) :: dgn (n / 18446744073709551616)
termination_by n
decreasing_by exact Nat.div_lt_self (Nat.pos_of_ne_zero h) (by decide)
def dg (n : Int) : List Int := dgn n.toNat
/-- Rows, each from a place on, as one number. -/
def sumv : List (List Int) → Int
  | [] => 0
  | r :: rs => val r + B * sumv rs
def cmpv (x y : Int) : Int := if x < y then -1 else if x = y then 0 else 1

theorem Ok.nil : Ok [] := fun _ h => absurd h List.not_mem_nil
theorem Ok.cons {x : Int} {l : List Int} (h0 : 0 ≤ x) (h1 : x < B) (h : Ok l) : Ok (x :: l) := by
  intro y hy
  rcases List.mem_cons.1 hy with rfl | hy
  · exact ⟨h0, h1⟩
  · exact h y hy
theorem Ok.head {x : Int} {l : List Int} (h : Ok (x :: l)) : 0 ≤ x ∧ x < B := h x (List.mem_cons_self ..)
theorem Ok.tail {x : Int} {l : List Int} (h : Ok (x :: l)) : Ok l := fun y hy => h y (List.mem_cons_of_mem _ hy)
theorem Ok.append {a b : List Int} (ha : Ok a) (hb : Ok b) : Ok (a ++ b) := fun x hx => (List.mem_append.1 hx).elim (ha x) (hb x)
theorem Ok.take {a : List Int} (ha : Ok a) (n : Nat) : Ok (a.take n) := fun x hx => ha x (List.mem_of_mem_take hx)
theorem Ok.drop {a : List Int} (ha : Ok a) (n : Nat) : Ok (a.drop n) := fun x hx => ha x (List.mem_of_mem_drop hx)
theorem Ok.set {a : List Int} (ha : Ok a) (n : Nat) {x : Int} (h0 : 0 ≤ x) (h1 : x < B) : Ok (a.set n x) := fun y hy => by
  rcases List.mem_or_eq_of_mem_set hy with hy | rfl
  · exact ha y hy
  · exact ⟨h0, h1⟩
theorem Ok.one {x : Int} (h0 : 0 ≤ x) (h1 : x < B) : Ok [x] := Ok.cons h0 h1 Ok.nil
theorem Ok.rep (n : Nat) : Ok (List.replicate n 0) := fun x hx => by
  rw [List.eq_of_mem_replicate hx]
  exact ⟨Int.le_refl _, B_pos⟩
theorem Ok.at {a : List Int} (ha : Ok a) (i : Nat) : 0 ≤ a.getD i 0 ∧ a.getD i 0 < B := by
  rw [List.getD_eq_getElem?_getD]
  by_cases h : i < a.length
  · rw [List.getElem?_eq_getElem h]
    exact ha _ (List.getElem_mem h)
  · rw [List.getElem?_eq_none (by omega)]
    exact ⟨Int.le_refl _, B_pos⟩

theorem Bpow_pos (n : Nat) : 0 < B ^ n := Int.pow_pos B_pos
theorem Bpow_succ (n : Nat) : B ^ (n + 1) = B ^ n * B := Int.pow_succ ..
theorem Bpow_mono {m n : Nat} (h : m ≤ n) : B ^ m ≤ B ^ n := by
  obtain ⟨k, rfl⟩ := Nat.le.dest h
  rw [Int.pow_add]
  have h1 := Bpow_pos m
  have h2 := Bpow_pos k
  have : B ^ m * 1 ≤ B ^ m * B ^ k := Int.mul_le_mul_of_nonneg_left (by omega) (by omega)
  omega

theorem val_nil : val [] = 0 := rfl
theorem val_cons (x : Int) (l : List Int) : val (x :: l) = x + B * val l := rfl
theorem val_one (x : Int) : val [x] = x := by simp [val]
theorem val_append (a b : List Int) : val (a ++ b) = val a + B ^ a.length * val b := by
  induction a with
  | nil => simp [val]
  | cons x a ih =>
    rw [List.cons_append, val_cons, val_cons, ih, List.length_cons, Bpow_succ, Int.mul_add, Int.mul_comm (B ^ a.length) B, Int.mul_assoc, Int.add_assoc]
theorem val_snoc (a : List Int) (x : Int) : val (a ++ [x]) = val a + B ^ a.length * x := by rw [val_append, val_one]
theorem val_zero_snoc (a : List Int) : val (a ++ [0]) = val a := by rw [val_snoc]; omega
theorem val_rep (n : Nat) : val (List.replicate n 0) = 0 := by
  induction n with
  | zero => rfl
  | succ n ih => rw [List.replicate_succ, val_cons, ih]; omega
theorem val_nonneg {l : List Int} (h : Ok l) : 0 ≤ val l := by
  induction l with
  | nil => exact Int.le_refl _
  | cons x l ih =>
    have h1 := h.head
    have h2 := Int.mul_nonneg (Int.le_of_lt B_pos) (ih h.tail)
    rw [val_cons]
    omega
theorem val_lt {l : List Int} (h : Ok l) : val l < B ^ l.length := by
  induction l with
  | nil => simp [val]
  | cons x l ih =>
    have h1 := h.head
    have h2 := ih h.tail
    have h3 : B * (val l + 1) ≤ B * B ^ l.length := Int.mul_le_mul_of_nonneg_left (by omega) (Int.le_of_lt B_pos)
    rw [val_cons, List.length_cons, Bpow_succ, Int.mul_comm (B ^ l.length) B]
    rw [Int.mul_add] at h3
    omega
theorem val_set {l : List Int} {i : Nat} (h : i < l.length) (x : Int) : val (l.set i x) = val l + B ^ i * (x - l.getD i 0) := by
  induction l generalizing i with
  | nil => simp at h
  | cons y l ih =>
    cases i with
    | zero => simp [val]; omega
    | succ i =>
      have h' : i < l.length := by simpa using h
      have e : (y :: l).getD (i + 1) 0 = l.getD i 0 := rfl
      rw [List.set_cons_succ, val_cons, val_cons, ih h', e, Bpow_succ, Int.mul_add, Int.mul_comm (B ^ i) B, Int.mul_assoc, Int.add_assoc]
theorem val_take_drop (l : List Int) (i : Nat) (h : i ≤ l.length) : val l = val (l.take i) + B ^ i * val (l.drop i) := by
  have e := val_append (l.take i) (l.drop i)
  rw [List.take_append_drop, List.length_take, Nat.min_eq_left h] at e
  exact e
theorem val_drop {l : List Int} {i : Nat} (h : i < l.length) : val (l.drop i) = l.getD i 0 + B * val (l.drop (i + 1)) := by
  rw [List.drop_eq_getElem_cons h, val_cons, List.getD_eq_getElem?_getD, List.getElem?_eq_getElem h]
  rfl
theorem val_take_succ {l : List Int} {i : Nat} (h : i < l.length) : val (l.take (i + 1)) = val (l.take i) + B ^ i * l.getD i 0 := by
  rw [List.take_succ_eq_append_getElem h, val_snoc, List.length_take, Nat.min_eq_left (by omega), List.getD_eq_getElem?_getD, List.getElem?_eq_getElem h]
  rfl

theorem dgn_zero : dgn 0 = [] := by rw [dgn]; simp
theorem dgn_pos {n : Nat} (h : n ≠ 0) : dgn n = ((n % 18446744073709551616 : Nat) : Int) :: dgn (n / 18446744073709551616) := by
  rw [dgn]
  simp [h]
theorem dg_zero : dg 0 = [] := dgn_zero
theorem dg_neg {n : Int} (h : n ≤ 0) : dg n = [] := by
  unfold dg
  rw [Int.toNat_of_nonpos h]
  exact dgn_zero
theorem val_dgn (n : Nat) : val (dgn n) = n := by
  induction n using Nat.strongRecOn with
  | _ n ih =>
    by_cases h : n = 0
    · subst h; rw [dgn_zero]; rfl
    · have hd := ih (n / 18446744073709551616) (Nat.div_lt_self (Nat.pos_of_ne_zero h) (by decide))
      rw [dgn_pos h, val_cons, hd, B_eq]
      omega
theorem val_dg {n : Int} (h : 0 ≤ n) : val (dg n) = n := by
  unfold dg
  rw [val_dgn]
  omega
theorem ok_dgn (n : Nat) : Ok (dgn n) := by
  induction n using Nat.strongRecOn with
  | _ n ih =>
    by_cases h : n = 0
    · subst h; rw [dgn_zero]; exact Ok.nil
    · rw [dgn_pos h]
      exact Ok.cons (by omega) (by rw [B_eq]; omega) (ih _ (Nat.div_lt_self (Nat.pos_of_ne_zero h) (by decide)))
theorem ok_dg (n : Int) : Ok (dg n) := ok_dgn _
theorem dg_cons {x n : Int} (h0 : 0 ≤ x) (h1 : x < B) (hn : 0 ≤ n) (hp : 0 < x + B * n) : dg (x + B * n) = x :: dg n := by
  unfold dg
  obtain ⟨x, rfl⟩ := Int.eq_ofNat_of_zero_le h0
  obtain ⟨n, rfl⟩ := Int.eq_ofNat_of_zero_le hn
  have hx : x < 18446744073709551616 := by rw [B_eq] at h1; omega
  have e : ((x : Int) + B * n).toNat = x + 18446744073709551616 * n := by rw [B_eq]; omega
  have hne : x + 18446744073709551616 * n ≠ 0 := by omega
  rw [e, dgn_pos hne, Nat.add_mul_mod_self_left, Nat.mod_eq_of_lt hx, Nat.add_mul_div_left _ _ (by decide), Nat.div_eq_of_lt hx, Nat.zero_add]
  rfl
/-- A row without a limb of 0 at its end is the one of its number. -/
theorem dg_val {l : List Int} (h : Ok l) (hl : l = [] ∨ l.getD (l.length - 1) 0 ≠ 0) : dg (val l) = l := by
  induction l with
  | nil => exact dg_zero
  | cons x l ih =>
    have hx := h.head
    have hv := val_nonneg h.tail
    have hm := Int.mul_nonneg (Int.le_of_lt B_pos) hv
    have hl' : l = [] ∨ l.getD (l.length - 1) 0 ≠ 0 := by
      cases l with
      | nil => exact .inl rfl
      | cons y l => exact .inr (by simpa using hl)
    have ihl := ih h.tail hl'
    have hp : 0 < x + B * val l := by
      cases l with
      | nil =>
        have : x ≠ 0 := by simpa using hl
        simp only [val_nil]
        omega
      | cons y l =>
        have hv' : val (y :: l) ≠ 0 := fun e => by rw [e, dg_zero] at ihl; cases ihl
        have : 0 < B * val (y :: l) := Int.mul_pos B_pos (by omega)
        omega
    rw [val_cons, dg_cons hx.1 hx.2 hv hp, ihl]
theorem dg_inj {m n : Int} (hm : 0 ≤ m) (hn : 0 ≤ n) (h : dg m = dg n) : m = n := by
  have := congrArg val h
  rwa [val_dg hm, val_dg hn] at this
theorem dg_len {n : Int} {m : Nat} (h : n < B ^ m) : (dg n).length ≤ m := by
  induction m generalizing n with
  | zero =>
    rw [dg_neg (by simpa using Int.le_of_lt_add_one (by simpa using h))]
    simp
  | succ m ih =>
    by_cases hn : n ≤ 0
    · rw [dg_neg hn]; simp
    · have hB := B_pos
      have e : n = n % B + B * (n / B) := by rw [Int.emod_add_mul_ediv]
      have h0 := Int.emod_nonneg n (Int.ne_of_gt hB)
      have h1 := Int.emod_lt_of_pos n hB
      have hd : 0 ≤ n / B := Int.ediv_nonneg (by omega) (by omega)
      have hlt : n / B < B ^ m := Int.ediv_lt_of_lt_mul hB (by rw [← Bpow_succ]; exact h)
      rw [e, dg_cons h0 h1 hd (by omega)]
      have := ih hlt
      simp
      omega
theorem len_dg {n : Int} {m : Nat} (h : (dg n).length ≤ m) : n < B ^ m := by
  by_cases hn : n ≤ 0
  · have := Bpow_pos m; omega
  · have h1 := val_lt (ok_dg n)
    rw [val_dg (by omega)] at h1
    have := Bpow_mono h
    omega
theorem dg_len_iff {n : Int} {m : Nat} : (dg n).length ≤ m ↔ n < B ^ m := ⟨len_dg, dg_len⟩
theorem dg_len_val {l : List Int} (h : Ok l) : (dg (val l)).length ≤ l.length := dg_len (val_lt h)
/-- The row of a number has no limb of 0 at its end. -/
theorem dg_last (n : Int) : dg n = [] ∨ (dg n).getD ((dg n).length - 1) 0 ≠ 0 := by
  by_cases hn : n ≤ 0
  · exact .inl (dg_neg hn)
  · by_cases he : dg n = []
    · exact .inl he
    · refine .inr fun hz => ?_
      have hlen : 0 < (dg n).length := List.length_pos_iff.2 he
      have e := val_take_drop (dg n) ((dg n).length - 1) (by omega)
      rw [val_drop (by omega), hz, List.drop_eq_nil_of_le (by omega), val_nil, val_dg (by omega)] at e
      have h1 := val_lt (Ok.take (ok_dg n) ((dg n).length - 1))
      rw [List.length_take, Nat.min_eq_left (by omega)] at h1
      have h2 := dg_len (n := n) (m := (dg n).length - 1) (by simp at e; omega)
      omega
theorem dg_nil_iff {n : Int} (h : 0 ≤ n) : dg n = [] ↔ n = 0 := by
  constructor
  · intro e
    have := val_dg h
    rw [e] at this
    exact this.symm
  · rintro rfl; exact dg_zero
theorem cmpv_self (x : Int) : cmpv x x = 0 := by simp [cmpv]
theorem cmpv_swap (x y : Int) : cmpv y x = - cmpv x y := by unfold cmpv; split <;> split <;> (try split) <;> (try split) <;> omega
end Go.Proofs.YtmknpclfanblfaaN
