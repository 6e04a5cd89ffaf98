/- Rows of halves of limbs (digits below 2^32) as numbers. -/
import Derived.Test.YtmknpclfanblfaaNumB
set_option linter.unusedVariables false
set_option linter.unusedSimpArgs false
namespace Go.Proofs.YtmknpclfanblfaaN
def H : Int := 4294967296
theorem H_eq : H = 4294967296 := rfl
theorem H_pos : 0 < H := by unfold H; decide
theorem HH : H * H = B := by decide
def OkH (l : List Int) : Prop := ∀ x ∈ l, 0 ≤ x ∧ x < H
def hval : List Int → Int
  | [] => 0
  | x :: xs => x + H * hval xs
def halves : List Int → List Int
  | [] => []
  | x :: xs => x % H :: x / H :: halves xs
theorem OkH.nil : OkH [] := fun _ h => absurd h List.not_mem_nil
theorem OkH.cons {x : Int} {l : List Int} (h0 : 0 ≤ x) (h1 : x < H) (h : OkH l) : OkH (x :: l) := by
  intro y hy
  rcases List.mem_cons.1 hy with rfl | hy
  · exact ⟨h0, h1⟩
  · exact h y hy
theorem OkH.head {x : Int} {l : List Int} (h : OkH (x :: l)) : 0 ≤ x ∧ x < H := h x (List.mem_cons_self ..)
theorem OkH.tail {x : Int} {l : List Int} (h : OkH (x :: l)) : OkH l := fun y hy => h y (List.mem_cons_of_mem _ hy)
theorem OkH.append {a b : List Int} (ha : OkH a) (hb : OkH b) : OkH (a ++ b) := fun x hx => (List.mem_append.1 hx).elim (ha x) (hb x)
theorem OkH.take {a : List Int} (ha : OkH a) (n : Nat) : OkH (a.take n) := fun x hx => ha x (List.mem_of_mem_take hx)
theorem OkH.drop {a : List Int} (ha : OkH a) (n : Nat) : OkH (a.drop n) := fun x hx => ha x (List.mem_of_mem_drop hx)
theorem OkH.set {a : List Int} (ha : OkH a) (n : Nat) {x : Int} (h0 : 0 ≤ x) (h1 : x < H) : OkH (a.set n x) := fun y hy => by
  rcases List.mem_or_eq_of_mem_set hy with hy | rfl
  · exact ha y hy
  · exact ⟨h0, h1⟩
theorem OkH.one {x : Int} (h0 : 0 ≤ x) (h1 : x < H) : OkH [x] := OkH.cons h0 h1 OkH.nil
theorem OkH.rep (n : Nat) : OkH (List.replicate n 0) := fun x hx => by
  rw [List.eq_of_mem_replicate hx]
  exact ⟨Int.le_refl _, H_pos⟩
theorem OkH.at {a : List Int} (ha : OkH a) (i : Nat) : 0 ≤ a.getD i 0 ∧ a.getD i 0 < H := by
  rw [List.getD_eq_getElem?_getD]
  by_cases h : i < a.length
  · rw [List.getElem?_eq_getElem h]
    exact ha _ (List.getElem_mem h)
  · rw [List.getElem?_eq_none (by omega)]
    exact ⟨Int.le_refl _, H_pos⟩
theorem Hpow_pos (n : Nat) : 0 < H ^ n := Int.pow_pos H_pos
theorem Hpow_succ (n : Nat) : H ^ (n + 1) = H ^ n * H := Int.pow_succ ..
theorem Hpow_two (n : Nat) : H ^ (2 * n) = B ^ n := by
  induction n with
  | zero => rfl
  | succ n ih => rw [show 2 * (n + 1) = 2 * n + 1 + 1 from by omega, Hpow_succ, Hpow_succ, ih, Int.mul_assoc, HH, Bpow_succ]
theorem hval_nil : hval [] = 0 := rfl
theorem hval_cons (x : Int) (l : List Int) : hval (x :: l) = x + H * hval l := rfl
theorem hval_one (x : Int) : hval [x] = x := by simp [hval]
theorem hval_append (a b : List Int) : hval (a ++ b) = hval a + H ^ a.length * hval b := by
  induction a with
  | nil => simp [hval]
  | cons x a ih => rw [List.cons_append, hval_cons, hval_cons, ih, List.length_cons, Hpow_succ, Int.mul_add, Int.mul_comm (H ^ a.length) H, Int.mul_assoc, Int.add_assoc]
theorem hval_snoc (a : List Int) (x : Int) : hval (a ++ [x]) = hval a + H ^ a.length * x := by rw [hval_append, hval_one]
theorem hval_rep (n : Nat) : hval (List.replicate n 0) = 0 := by
  induction n with
  | zero => rfl
  | succ n ih => rw [List.replicate_succ, hval_cons, ih]; omega
theorem hval_nonneg {l : List Int} (h : OkH l) : 0 ≤ hval l := by
  induction l with
  | nil => exact Int.le_refl _
  | cons x l ih =>
    have h1 := h.head
    have h2 := Int.mul_nonneg (Int.le_of_lt H_pos) (ih h.tail)
    rw [hval_cons]
    omega
theorem hval_lt {l : List Int} (h : OkH l) : hval l < H ^ l.length := by
  induction l with
  | nil => simp [hval]
  | cons x l ih =>
    have h1 := h.head
    have h2 := ih h.tail
    have h3 : H * (hval l + 1) ≤ H * H ^ l.length := Int.mul_le_mul_of_nonneg_left (by omega) (Int.le_of_lt H_pos)
    rw [hval_cons, List.length_cons, Hpow_succ, Int.mul_comm (H ^ l.length) H]
    rw [Int.mul_add] at h3
    omega
theorem hval_set {l : List Int} {i : Nat} (h : i < l.length) (x : Int) : hval (l.set i x) = hval l + H ^ i * (x - l.getD i 0) := by
  induction l generalizing i with
  | nil => simp at h
  | cons y l ih =>
    cases i with
    | zero => simp [hval]; omega
    | succ i =>
      have h' : i < l.length := by simpa using h
      have e : (y :: l).getD (i + 1) 0 = l.getD i 0 := rfl
      rw [List.set_cons_succ, hval_cons, hval_cons, ih h', e, Hpow_succ, Int.mul_add, Int.mul_comm (H ^ i) H, Int.mul_assoc, Int.add_assoc]
theorem hval_take_drop (l : List Int) (i : Nat) (h : i ≤ l.length) : hval l = hval (l.take i) + H ^ i * hval (l.drop i) := by
  have e := hval_append (l.take i) (l.drop i)
  rw [List.take_append_drop, List.length_take, Nat.min_eq_left h] at e
  exact e
theorem hval_drop {l : List Int} {i : Nat} (h : i < l.length) : hval (l.drop i) = l.getD i 0 + H * hval (l.drop (i + 1)) := by
  rw [List.drop_eq_getElem_cons h, hval_cons, List.getD_eq_getElem?_getD, List.getElem?_eq_getElem h]
  rfl
/-- Behind the end, too. -/
theorem hval_drop' (l : List Int) (i : Nat) : hval (l.drop i) = l.getD i 0 + H * hval (l.drop (i + 1)) := by
  by_cases h : i < l.length
  · exact hval_drop h
  · rw [List.drop_eq_nil_of_le (by omega), List.drop_eq_nil_of_le (by omega), List.getD_eq_getElem?_getD, List.getElem?_eq_none (by omega), hval_nil]; simp
theorem hpart_succ (b : List Int) (d i : Nat) : hval ((b.drop i).take (d + 1)) = b.getD i 0 + H * hval ((b.drop (i + 1)).take d) := by
  by_cases h : i < b.length
  · rw [List.drop_eq_getElem_cons h, List.take_succ_cons, hval_cons, List.getD_eq_getElem?_getD, List.getElem?_eq_getElem h]; rfl
  · rw [List.drop_eq_nil_of_le (by omega), List.drop_eq_nil_of_le (by omega), List.getD_eq_getElem?_getD, List.getElem?_eq_none (by omega)]
    simp [hval]
theorem halves_len (l : List Int) : (halves l).length = 2 * l.length := by
  induction l with
  | nil => rfl
  | cons x l ih => rw [halves, List.length_cons, List.length_cons, ih, List.length_cons]; omega
theorem halves_val (l : List Int) : hval (halves l) = val l := by
  induction l with
  | nil => rfl
  | cons x l ih =>
    rw [halves, hval_cons, hval_cons, ih, val_cons, Int.mul_add, ← Int.mul_assoc, HH]
    have := Int.emod_add_mul_ediv x H
    omega
theorem halves_ok {l : List Int} (h : Ok l) : OkH (halves l) := by
  induction l with
  | nil => exact OkH.nil
  | cons x l ih =>
    have hx := h.head
    have e1 : 0 ≤ x % H ∧ x % H < H := ⟨Int.emod_nonneg _ (Int.ne_of_gt H_pos), Int.emod_lt_of_pos _ H_pos⟩
    have e2 : 0 ≤ x / H ∧ x / H < H := by rw [B_eq] at hx; rw [H_eq]; omega
    exact OkH.cons e1.1 e1.2 (OkH.cons e2.1 e2.2 (ih h.tail))
end Go.Proofs.YtmknpclfanblfaaN
