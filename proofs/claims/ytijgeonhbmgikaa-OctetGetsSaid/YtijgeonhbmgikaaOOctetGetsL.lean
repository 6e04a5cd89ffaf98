-- Written by a program of this session (shake.py): of the words and of this session's own texts what this claim names.
import Derived.Test.YtijgeonhbmgikaaPOOctetGetsx
import Derived.Lib.ItoaNum
import Derived.Laws.Bits64b
import Derived.Shelf.Spec.RuneCount
import Derived.Test.YtijgeonhbmgikaaOOctetGetsW
set_option linter.unusedVariables false
set_option linter.unusedSimpArgs false
section
set_option linter.unusedVariables false
set_option linter.unusedSimpArgs false
namespace Go.Proofs.Ytijgeonhbmgikaa.EOOctetGets
open Go.RowKit Go.Proofs.Ytijgeonhbmgikaa.POOctetGets Go.Proofs.YtijgeonhbmgikaaN Go.Proofs.YtijgeonhbmgikaaW.PrintWords Go.Proofs.YtijgeonhbmgikaaW.PrintLast Go.Proofs.YtijgeonhbmgikaaW.PrintMore
def lows (n : Int) : Nat → List Int
 | 0 => []
 | i + 1 => n / 256 ^ i % 256 :: lows n i
theorem jFA (n : Int) : ∀ w, (lows n w).length = w
 | 0 => rfl
 | w + 1 => by rw [lows, List.length_cons, jFA n w]
theorem jHu (i : Nat) : (256 : Int) ^ i = 2 ^ (8 * i) := by rw [Int.pow_mul]; rfl
theorem jHZ (n : Int) {i : Nat} (h : i ≤ 8) : shr .u64 n (8 * (i : Int)) = n / 256 ^ i := by
 unfold shr
 have e : min (Int.toNat (8 * (i : Int))) IntKind.u64.bits = 8 * i := by
  rw [show 8 * (i : Int) = ((8 * i : Nat) : Int) by omega, Int.toNat_natCast]
  exact Nat.min_eq_left (by show 8 * i ≤ 64; omega)
 rw [e, jHu]
theorem jGl {n : Int} {w : Nat} (hw : w ≤ 8) : ∀ (d i k : Nat), i + d = w → d < k → vB.l0 k n w (List.replicate d 0 ++ lows n i) w i = some (strOfNums (lows n w))
 | 0, i, k, hi, hk => by
  obtain ⟨k, rfl⟩ : ∃ j, k = j + 1 := ⟨k - 1, by omega⟩
  have : ¬ ((i : Int) < (w : Int)) := by omega
  rw [vB.l0, if_neg this]
  obtain rfl : i = w := by omega
  rfl
 | d + 1, i, k, hi, hk => by
  obtain ⟨k, rfl⟩ : ∃ j, k = j + 1 := ⟨k - 1, by omega⟩
  have e1 : wrap64 (8 * (i : Int)) = 8 * (i : Int) := by unfold wrap64; omega
  have e2 : wrap64 (wrap64 ((w : Int) - 1) - (i : Int)) = (d : Int) := by unfold wrap64; omega
  have e3 : wrap64 ((i : Int) + 1) = ((i + 1 : Nat) : Int) := by unfold wrap64; omega
  have c1 : (i : Int) < (w : Int) := by omega
  have c4 : (d : Int) < ((List.replicate (d + 1) (0 : Int) ++ lows n i).length : Int) := by
   rw [List.length_append, List.length_replicate]; omega
  have hs : (List.replicate (d + 1) (0 : Int) ++ lows n i).set d (n / 256 ^ i % 256) = List.replicate d 0 ++ lows n (i + 1) := by
   rw [List.replicate_succ', List.append_assoc, List.set_append_right _ _ (by rw [List.length_replicate]; exact Nat.le_refl _), List.length_replicate, Nat.sub_self]
   rfl
  rw [vB.l0, e1, e2, e3, if_pos c1, if_pos (by omega), if_pos (by omega), if_pos c4, jHZ n (by omega), Int.toNat_natCast, hs]
  exact jGl hw d (i + 1) k (by omega) (by omega)
theorem jII {n : Int} {w k : Nat} (hw : w ≤ 8) (hk : 8 < k) : vB.f k n w = some (strOfNums (lows n w)) := by
 unfold vB.f
 rw [if_pos (by omega), if_pos (by omega), Option.bind_some, List.length_replicate, Int.toNat_natCast]
 have := jGl (n := n) hw w 0 k (by omega) (by omega)
 rwa [show List.replicate w (0 : Int) ++ lows n 0 = List.replicate w 0 from List.append_nil _] at this
def wd (n : Int) : Nat := (Lib.bitLen n.toNat + 7) / 8
theorem jLM {n : Int} (h : n < B) : wd n ≤ 8 := by
 have := Lib.bitLen_le n.toNat 64 (Nat.le_refl _) (by rw [B_eq] at h; show n.toNat < 18446744073709551616; omega)
 unfold wd; omega
def putB (n : Int) : List Int := (wd n : Int) :: lows n (wd n)
theorem jDg (a b : List Int) : strOfNums a ++ strOfNums b = strOfNums (a ++ b) := by
 apply ByteArray.ext
 unfold strOfNums
 simp
theorem put_eq {n : Int} {k : Nat} (h0 : 0 ≤ n) (h1 : n < B) (hk : 8 < k) : zG.f k n = some (strOfNums (putB n)) := by
 have hw := jLM h1
 have hb := Lib.bitLen_le n.toNat 64 (Nat.le_refl _) (by rw [B_eq] at h1; show n.toNat < 18446744073709551616; omega)
 have e1 : wrap64 (Int.tdiv (wrap64 ((Lib.bitLen n.toNat : Int) + 7)) 8) = (wd n : Int) := by
  unfold wd
  generalize Lib.bitLen n.toNat = m at hb ⊢
  have : wrap64 ((m : Int) + 7) = ((m + 7 : Nat) : Int) := by unfold wrap64; omega
  rw [this, show Int.tdiv ((m + 7 : Nat) : Int) 8 = (((m + 7) / 8 : Nat) : Int) from rfl]
  unfold wrap64; omega
 have e2 : (wd n : Int) % 256 = (wd n : Int) := by omega
 unfold zG.f bits_Len64.f
 rw [if_pos ⟨h0, h1⟩, Option.bind_some, e1, e2, Option.bind_some, jII hw hk, Option.bind_some, if_pos (by rw [strOfNums_size, strOfNums_size, jFA]; simp; omega), jDg]
 rfl
def unb (l : List Int) : Int := l.foldl (fun a c => a * 256 + c) 0
theorem jKJ {k : Nat} (hk : 8 < k) : vG.f k = some true := by
 have h1 := put_eq (n := 258) (k := k) (by decide) (by decide) hk
 have e1 : strOfNums (putB 258) = ⟨#[2, 1, 2]⟩ := by decide +kernel
 have e2 : zY.f (⟨#[2, 1, 2]⟩ ++ (⟨#[122]⟩ : ByteArray)) = some (258, ⟨#[122]⟩, 0) := by kernel_rfl
 rw [e1] at h1
 unfold vG.f
 rw [h1, Option.bind_some, if_pos (by decide), e2, Option.bind_some, if_pos rfl, if_pos (by decide +kernel), if_pos rfl, Option.bind_some]
 decide +kernel
end Go.Proofs.Ytijgeonhbmgikaa.EOOctetGets
end
section
set_option linter.unusedVariables false
set_option linter.unusedSimpArgs false
namespace Go.Proofs.Ytijgeonhbmgikaa.EOOctetGets
open Go.RowKit Go.Proofs.Ytijgeonhbmgikaa.POOctetGets Go.Proofs.YtijgeonhbmgikaaN Go.Proofs.YtijgeonhbmgikaaW.PrintWords Go.Proofs.YtijgeonhbmgikaaW.PrintLast Go.Proofs.YtijgeonhbmgikaaW.PrintMore
def Bytes (l : List Int) : Prop := ∀ x ∈ l, 0 ≤ x ∧ x < 256
theorem Bytes.append {a b : List Int} (ha : Bytes a) (hb : Bytes b) : Bytes (a ++ b) := fun x hx => (List.mem_append.1 hx).elim (ha x) (hb x)
theorem Bytes.take {a : List Int} (ha : Bytes a) (n : Nat) : Bytes (a.take n) := fun x hx => ha x (List.mem_of_mem_take hx)
theorem Bytes.drop {a : List Int} (ha : Bytes a) (n : Nat) : Bytes (a.drop n) := fun x hx => ha x (List.mem_of_mem_drop hx)
theorem jFO (s : ByteArray) : Bytes (bytesOf s) := fun x hx => by
 unfold bytesOf at hx
 obtain ⟨b, _, rfl⟩ := List.mem_map.1 hx
 have := b.toNat_lt
 omega
theorem jFy (s : ByteArray) : strOfNums (bytesOf s) = s := by
 apply ByteArray.ext
 apply Array.ext'
 show (strOfNums (bytesOf s)).data.toList = s.data.toList
 rw [strOfNums_data, bytesOf, List.map_map]
 conv => rhs; rw [← List.map_id s.data.toList]
 apply List.map_congr_left
 intro b _
 simp
theorem jGz {l : List Int} (h : Bytes l) : bytesOf (strOfNums l) = l := by
 unfold bytesOf
 rw [strOfNums_data, List.map_map]
 conv => rhs; rw [← List.map_id l]
 apply List.map_congr_left
 intro x hx
 have := h x hx
 simp
 omega
theorem jKp {l : List Int} (h : Bytes l) (i : Nat) : bt (strOfNums l) i = l.getD i 0 := by
 rw [← jFZ, jGz h]
 rfl
theorem jEr (l : List Int) : (strOfNums l).size = l.length := strOfNums_size l
theorem jKC {a c : Int} (ha : 0 ≤ a) (hc : 0 ≤ c ∧ c < 256) (h : a * 256 + c < B) : Oct.stp a c = a * 256 + c := by
 rw [B_eq] at h
 obtain ⟨x, rfl⟩ := Int.eq_ofNat_of_zero_le ha
 obtain ⟨y, rfl⟩ := Int.eq_ofNat_of_zero_le hc.1
 unfold Oct.stp
 have e1 : IntKind.u64.wrap ((x : Int) * 256) = ((2 ^ 8 * x : Nat) : Int) := by rw [IntKind.wrap_u64]; omega
 have e2 : IntKind.u64.wrap (y : Int) = ((y : Nat) : Int) := by rw [IntKind.wrap_u64]; omega
 have h3 := bits_or_u64_nat (2 ^ 8 * x) y (by omega) (by omega)
 rw [e1, e2]
 refine Eq.trans h3 ?_
 rw [← Nat.two_pow_add_eq_or_of_lt (by omega : y < 2 ^ 8)]
 omega
end Go.Proofs.Ytijgeonhbmgikaa.EOOctetGets
end
section
set_option linter.unusedVariables false
set_option linter.unusedSimpArgs false
namespace Go.Proofs.YtijgeonhbmgikaaN
theorem jIO (x y : Int) : (cmpv x y == 0) = decide (x = y) := by
 unfold cmpv
 by_cases h : x < y
 ·
  rw [if_pos h]
  have : x ≠ y := by omega
  simp [this]
 ·
  rw [if_neg h]
  by_cases h2 : x = y <;> simp [h2]
theorem jFM {x y : Int} : 0 < cmpv x y ↔ y < x := by unfold cmpv; split <;> (try split) <;> omega
theorem jAq {x y : Int} : cmpv x y < 0 ↔ x < y := by unfold cmpv; split <;> (try split) <;> omega
end Go.Proofs.YtijgeonhbmgikaaN
end
section
set_option linter.unusedVariables false
set_option linter.unusedSimpArgs false
namespace Go.Proofs.Ytijgeonhbmgikaa.EOOctetGets
open Go.RowKit Go.Proofs.Ytijgeonhbmgikaa.POOctetGets Go.Proofs.YtijgeonhbmgikaaN Go.Proofs.YtijgeonhbmgikaaW.PrintWords Go.Proofs.YtijgeonhbmgikaaW.PrintLast Go.Proofs.YtijgeonhbmgikaaW.PrintMore
theorem w64 {x : Int} (h : -4611686018427387904 ≤ x ∧ x ≤ 4611686018427387904) : wrap64 x = x := by unfold wrap64; omega
theorem qj (l : List Int) (n : Nat) : rd l (n : Int) = l.getD n 0 := rfl
theorem zo {α β : Type} (a : α) (f : α → Option β) : (some a).bind f = f a := rfl
theorem Ev.zo {α β : Type} {a : α} {f : Nat → α → Option β} {r : β} (h : Ev (fun k => f k a) r) : Ev (fun k => (some a).bind (f k)) r := h
theorem Ev.pos {α : Type} {c : Prop} [Decidable c] {f g : Nat → Option α} {r : α} (hc : c) (h : Ev f r) : Ev (fun k => if c then f k else g k) r := by
 simp only [if_pos hc]; exact h
theorem Ev.neg {α : Type} {c : Prop} [Decidable c] {f g : Nat → Option α} {r : α} (hc : ¬ c) (h : Ev g r) : Ev (fun k => if c then f k else g k) r := by
 simp only [if_neg hc]; exact h
theorem Ev.vY {α β : Type} {g : Option α} {f : Nat → α → Option β} {a : α} {r : β} (h : g = some a) (k : Ev (fun n => f n a) r) : Ev (fun n => g.bind (f n)) r := by
 rw [h]; exact k
theorem jJd {x y c : Int} (hx : 0 ≤ x ∧ x < B) (hy : 0 ≤ y ∧ y < B) (hc : 0 ≤ c ∧ c ≤ 1) : ad64 x y c + B * ac64 x y c = x + y + c ∧ (0 ≤ ad64 x y c ∧ ad64 x y c < B) ∧ 0 ≤ ac64 x y c ∧ ac64 x y c ≤ 1 := by
 unfold ad64 ac64
 rw [B_eq] at *
 omega
theorem jIS {c : Int} (hc : 0 ≤ c ∧ c ≤ 1) : ac64 0 0 c = 0 := by
 unfold ac64
 omega
theorem jIm : ∀ (n : Nat) (l : List Int), l.length = n → n ≤ 17592186044416 → Ok l → ∀ k, n < k → jQ.l0 k l = some (dg (val l)) := by
 intro n
 induction n with
 | zero =>
  intro l hl _ _ k hk
  obtain ⟨k, rfl⟩ : ∃ m, k = m + 1 := ⟨k - 1, by omega⟩
  obtain rfl : l = [] := List.eq_nil_of_length_eq_zero hl
  rw [jAF, jAs]
  rfl
 | succ n ih =>
  intro l hl hn ho k hk
  obtain ⟨k, rfl⟩ : ∃ m, k = m + 1 := ⟨k - 1, by omega⟩
  have hw : wrap64 ((l.length : Int) - 1) = (n : Int) := by rw [w64 (by omega)]; omega
  simp only [jQ.l0, hw]
  rw [if_pos (by omega), if_pos (by omega), if_pos (by omega), qj]
  by_cases hz : l.getD n 0 = 0
  ·
   rw [if_pos hz, if_pos (by omega), Int.toNat_natCast, ih (l.take n) (by rw [List.length_take]; omega) (by omega) (ho.take n) k (by omega)]
   have e := zH l n (by omega)
   rw [qw (by omega), hz, List.drop_eq_nil_of_le (by omega), jAF] at e
   rw [e]
   simp
  ·
   rw [if_neg hz, jDz ho (.inr (by rw [hl]; exact hz))]
theorem jAb {l : List Int} (ho : Ok l) (hl : l.length ≤ 17592186044416) : Ev (fun k => jQ.f k l) (dg (val l)) := ⟨l.length + 1, fun k hk => jIm l.length l rfl hl ho k (by omega)⟩
theorem jCN {l : List Int} (hl : l.length < 17592186044416) : je.f l = some l := if_pos hl
theorem jBz {l : List Int} (ho : Ok l) (hl : l.length < 17592186044416) : Ev (fun k => vX.f k l) (dg (val l)) := by
 unfold vX.f
 exact Ev.bind (jAb ho (by omega)) (Ev.vY (jCN (by have := qU ho; omega)) (Ev.now _))
theorem jIt (a b : List Int) (hab : a.length = b.length) (hl : a.length ≤ 17592186044416) : ∀ (d i : Nat), a.length - i = d → i ≤ a.length → ∀ k, d < k → jl.l0 k a b i = some (decide (a.drop i = b.drop i)) := by
 intro d
 induction d with
 | zero =>
  intro i hd hi k hk
  obtain ⟨k, rfl⟩ : ∃ m, k = m + 1 := ⟨k - 1, by omega⟩
  simp only [jl.l0]
  rw [if_neg (by omega), List.drop_eq_nil_of_le (by omega), List.drop_eq_nil_of_le (by omega)]
  simp
 | succ d ih =>
  intro i hd hi k hk
  obtain ⟨k, rfl⟩ : ∃ m, k = m + 1 := ⟨k - 1, by omega⟩
  simp only [jl.l0]
  rw [if_pos (by omega), if_pos (by omega), if_pos (by omega), qj, qj, w64 (by omega)]
  have ha : i < a.length := by omega
  have hb : i < b.length := by omega
  have e1 : a.getD i 0 = a[i] := by rw [List.getD_eq_getElem?_getD, List.getElem?_eq_getElem ha]; rfl
  have e2 : b.getD i 0 = b[i] := by rw [List.getD_eq_getElem?_getD, List.getElem?_eq_getElem hb]; rfl
  have e3 : (a.drop i = b.drop i) = (a[i] = b[i] ∧ a.drop (i + 1) = b.drop (i + 1)) := by rw [List.drop_eq_getElem_cons ha, List.drop_eq_getElem_cons hb, List.cons.injEq]
  simp only [e1, e2, e3]
  by_cases h : a[i] = b[i]
  ·
   rw [if_pos h, show ((i : Int) + 1) = ((i + 1 : Nat) : Int) from by omega, ih (i + 1) (by omega) (by omega) k (by omega)]
   simp only [h, true_and]
  ·
   rw [if_neg h]
   simp only [h, false_and, decide_false]
theorem jIu (a b : List Int) (hl : a.length ≤ 17592186044416) : Ev (fun k => jl.f k a b) (decide (a = b)) := by
 unfold jl.f
 by_cases h : a.length = b.length
 ·
  refine Ev.pos (by omega) ⟨a.length + 1, fun k hk => ?_⟩
  have := jIt a b h hl a.length 0 (by omega) (by omega) k (by omega)
  simpa using this
 ·
  refine Ev.neg (by omega) ?_
  have : a ≠ b := fun e => h (by rw [e])
  simp only [this, decide_false]
  exact Ev.now _
theorem jHF {v p s t y c c' r r' : Int} (h1 : s + B * c' = t + y + c) (h2 : r = y + B * r') : v + p * (s - t) + p * B * (c' + r') = v + p * (c + r) := by
 have e : s - t + B * (c' + r') = c + r := by rw [Int.mul_add]; omega
 have e2 : p * (c + r) = p * (s - t) + p * (B * (c' + r')) := by rw [← e, Int.mul_add]
 rw [e2, Int.mul_assoc, Int.add_assoc]
theorem getD_none {l : List Int} {i : Nat} (h : l.length ≤ i) : l.getD i 0 = 0 := by rw [List.getD_eq_getElem?_getD, List.getElem?_eq_none h]; rfl
theorem jCp (l : List Int) (x : Int) : (l ++ [x]).getD l.length 0 = x := by simp
theorem jGp {n : Int} (h : 0 ≤ n) : (((dg n).length : Int) = 0) ↔ n = 0 := by
 rw [← jDB h]
 constructor
 ·
  intro e; exact List.eq_nil_of_length_eq_zero (by omega)
 ·
  intro e; rw [e]; rfl
theorem jFN {a b : List Int} (ha : Ok a) (hb : Ok b) {i : Nat} (hab : a.length = b.length) (hi : i < a.length) (hd : a.drop (i + 1) = b.drop (i + 1)) (h : a.getD i 0 < b.getD i 0) : val a < val b := by
 have e1 := zH a i (by omega)
 have e2 := zH b i (by omega)
 rw [qw hi] at e1
 rw [qw (by omega)] at e2
 rw [hd] at e1
 have h1 := jAB (ha.take i)
 have h2 := vC (hb.take i)
 rw [List.length_take, Nat.min_eq_left (by omega)] at h1
 have h3 : B ^ i * (a.getD i 0 + B * val (b.drop (i + 1)) + 1) ≤ B ^ i * (b.getD i 0 + B * val (b.drop (i + 1))) := Int.mul_le_mul_of_nonneg_left (by omega) (Int.le_of_lt (qN i))
 rw [Int.mul_add] at h3
 omega
theorem jKn {a b : List Int} (ha : Ok a) (hb : Ok b) (hab : a.length = b.length) (hl : a.length ≤ 17592186044416) : ∀ (n : Nat), n ≤ a.length → a.drop n = b.drop n → ∀ k, n < k → vV.l0 k a b ((n : Int) - 1) = some (cmpv (val a) (val b)) := by
 intro n
 induction n with
 | zero =>
  intro _ hd k hk
  obtain ⟨k, rfl⟩ : ∃ m, k = m + 1 := ⟨k - 1, by omega⟩
  have : a = b := by simpa using hd
  subst this
  simp only [vV.l0]
  rw [if_neg (by omega), jEB]
 | succ n ih =>
  intro hn hd k hk
  obtain ⟨k, rfl⟩ : ∃ m, k = m + 1 := ⟨k - 1, by omega⟩
  have e : (((n + 1 : Nat) : Int) - 1) = (n : Int) := by omega
  rw [e]
  simp only [vV.l0]
  rw [if_pos (by omega), if_pos (by omega), if_pos (by omega), if_pos (by omega), qj, qj, w64 (by omega)]
  by_cases h1 : a.getD n 0 < b.getD n 0
  ·
   have := jFN ha hb hab (by omega) hd h1
   rw [if_pos h1]
   simp [cmpv, this]
  ·
   rw [if_neg h1]
   by_cases h2 : b.getD n 0 < a.getD n 0
   ·
    have := jFN hb ha hab.symm (by omega) hd.symm h2
    rw [if_pos h2]
    unfold cmpv
    rw [if_neg (by omega), if_neg (by omega)]
   ·
    rw [if_neg h2]
    refine ih (by omega) ?_ k (by omega)
    have ha' : n < a.length := by omega
    have hb' : n < b.length := by omega
    have e1 : a.getD n 0 = a[n] := by rw [List.getD_eq_getElem?_getD, List.getElem?_eq_getElem ha']; rfl
    have e2 : b.getD n 0 = b[n] := by rw [List.getD_eq_getElem?_getD, List.getElem?_eq_getElem hb']; rfl
    rw [List.drop_eq_getElem_cons ha', List.drop_eq_getElem_cons hb', hd, ← e1, ← e2, show a.getD n 0 = b.getD n 0 from by omega]
theorem jEA {m n : Int} (h0 : 0 ≤ m) (h : (dg m).length < (dg n).length) : m < n := by
 rcases Int.lt_or_le m n with h1 | h1
 ·
  exact h1
 ·
  exfalso
  have h2 : m < B ^ (dg m).length := jGc (Nat.le_refl _)
  have := jBU (n := n) (m := (dg m).length) (by omega)
  omega
theorem jGu {a b : List Int} (ha : Ok a) (hb : Ok b) (hal : a.length ≤ 17592186044416) (hbl : b.length ≤ 17592186044416) : Ev (fun k => vV.f k a b) (cmpv (val a) (val b)) := by
 unfold vV.f
 have h0 := vC ha
 have h1 := vC hb
 have l0 := qU ha
 have l1 := qU hb
 refine Ev.bind (jAb ha hal) (Ev.bind (jAb hb hbl) ?_)
 by_cases h : (dg (val a)).length = (dg (val b)).length
 ·
  refine Ev.pos (by omega) ⟨(dg (val a)).length + 1, fun k hk => ?_⟩
  have := jKn (jAo (val a)) (jAo (val b)) h (by omega) (dg (val a)).length (by omega) (by rw [List.drop_eq_nil_of_le (by omega), List.drop_eq_nil_of_le (by omega)]) k (by omega)
  rw [jAC h0, jAC h1] at this
  rw [w64 (by omega)]
  exact this
 ·
  refine Ev.neg (by omega) ?_
  by_cases h2 : (dg (val a)).length < (dg (val b)).length
  ·
   refine Ev.pos (by omega) ?_
   have := jEA h0 h2
   simp only [cmpv, this, if_true]
   exact Ev.now _
  ·
   refine Ev.neg (by omega) ?_
   have := jEA h1 (show (dg (val b)).length < (dg (val a)).length by omega)
   unfold cmpv
   rw [if_neg (by omega), if_neg (by omega)]
   exact Ev.now _
theorem jHa (l : List Int) (ho : Ok l) (hl : l.length < 17592186044416) : ∀ (n : Nat), n ≤ l.length → val (l.drop n) = 0 → ∀ k, n < k → jX.l0 k l n = some (dg (val l)) := by
 intro n
 induction n with
 | zero =>
  intro _ hd k hk
  obtain ⟨k, rfl⟩ : ∃ m, k = m + 1 := ⟨k - 1, by omega⟩
  have hv : val l = 0 := by simpa using hd
  simp only [jX.l0]
  rw [if_neg (by omega), zo, if_pos (by omega), if_pos (by omega), if_pos (by simp), hv, jAs]
  simp
 | succ n ih =>
  intro hn hd k hk
  obtain ⟨k, rfl⟩ : ∃ m, k = m + 1 := ⟨k - 1, by omega⟩
  have hw : wrap64 (((n + 1 : Nat) : Int) - 1) = (n : Int) := by rw [w64 (by omega)]; omega
  simp only [jX.l0, hw]
  rw [if_pos (by omega), if_pos (by omega), if_pos (by omega), qj]
  by_cases hz : l.getD n 0 = 0
  ·
   rw [if_pos hz]
   exact ih (by omega) (by rw [qw (by omega), hz, hd]; simp) k (by omega)
  ·
   rw [if_neg hz, zo, if_pos (by omega), if_pos (by omega), if_pos (by simp; omega), Int.toNat_natCast, List.nil_append]
   have e := zH l (n + 1) hn
   rw [hd, Int.mul_zero, Int.add_zero] at e
   rw [e, jDz (ho.take _) (.inr ?_)]
   rw [List.length_take, Nat.min_eq_left hn]
   simpa [List.getD_eq_getElem?_getD] using hz
theorem jDM {l : List Int} (ho : Ok l) (hl : l.length < 17592186044416) : Ev (fun k => jX.f k l) (dg (val l)) :=
 ⟨l.length + 1, fun k hk => jHa l ho hl l.length (Nat.le_refl _) (by rw [List.drop_eq_nil_of_le (Nat.le_refl _)]; rfl) k (by omega)⟩
end Go.Proofs.Ytijgeonhbmgikaa.EOOctetGets
end
section
set_option linter.unusedVariables false
set_option linter.unusedSimpArgs false
namespace Go.Proofs.Ytijgeonhbmgikaa.EOOctetGets
open Go.RowKit Go.Proofs.Ytijgeonhbmgikaa.POOctetGets Go.Proofs.YtijgeonhbmgikaaN Go.Proofs.YtijgeonhbmgikaaW.PrintWords Go.Proofs.YtijgeonhbmgikaaW.PrintLast Go.Proofs.YtijgeonhbmgikaaW.PrintMore
theorem jLP {x y c : Int} (hx : 0 ≤ x ∧ x < B) (hy : 0 ≤ y ∧ y < B) (hc : 0 ≤ c ∧ c ≤ 1) : sb64 x y c - B * bb64 x y c = x - y - c ∧ (0 ≤ sb64 x y c ∧ sb64 x y c < B) ∧ 0 ≤ bb64 x y c ∧ bb64 x y c ≤ 1 := by
 unfold sb64 bb64
 rw [B_eq] at *
 split <;> omega
theorem jIp {V v p s t y c c' r' Q : Int} (h1 : s - B * c' = t - y - c) (ih : V + p * B * (c' + r') = v + p * (s - t) + Q) : V + p * (c + (y + B * r')) = v + Q := by
 have e : c + (y + B * r') = (t - s) + B * (c' + r') := by rw [Int.mul_add]; omega
 have e2 : p * (c + (y + B * r')) = p * (t - s) + p * B * (c' + r') := by rw [e, Int.mul_add, Int.mul_assoc]
 have e3 : p * (t - s) = - (p * (s - t)) := by rw [← Int.mul_neg]; congr 1; omega
 omega
theorem jGN (b : List Int) (d i : Nat) : val ((b.drop i).take (d + 1)) = b.getD i 0 + B * val ((b.drop (i + 1)).take d) := by
 by_cases h : i < b.length
 ·
  rw [List.drop_eq_getElem_cons h, List.take_succ_cons, qx, List.getD_eq_getElem?_getD, List.getElem?_eq_getElem h]; rfl
 ·
  rw [List.drop_eq_nil_of_le (by omega), List.drop_eq_nil_of_le (by omega), getD_none (by omega)]
  simp [val]
theorem jKA (b : List Int) (hb : Ok b) : ∀ (d : Nat) (x : List Int) (c : Int) (i : Nat), Ok x → (0 ≤ c ∧ c ≤ 1) → i + d = x.length →
  Ok (vZ.l0 d x b c i) ∧ (vZ.l0 d x b c i).length = x.length ∧ ∃ ce, (0 ≤ ce ∧ ce ≤ 1) ∧ val (vZ.l0 d x b c i) + B ^ i * (c + val ((b.drop i).take d)) = val x + B ^ (i + d) * ce := by
 intro d
 induction d with
 | zero =>
  intro x c i hx hc hi
  refine ⟨hx, rfl, c, hc, ?_⟩
  simp [vZ.l0, val]
 | succ d ih =>
  intro x c i hx hc hi
  have hxi := hx.at i
  obtain ⟨hs, hok, hcc⟩ := jLP hxi (hb.at i) hc
  obtain ⟨h1, h2, ce, h3, h4⟩ := ih (x.set i (sb64 (x.getD i 0) (b.getD i 0) c)) (bb64 (x.getD i 0) (b.getD i 0) c) (i + 1) (hx.set i hok.1 hok.2) hcc (by rw [List.length_set]; omega)
  rw [vZ.l0]
  refine ⟨h1, by rw [h2, List.length_set], ce, h3, ?_⟩
  rw [jGN, show i + (d + 1) = i + 1 + d from by omega]
  refine jIp hs ?_
  rw [jBc (by omega : i < x.length), qG] at h4
  exact h4
theorem jIq {x b : List Int} (hx : Ok x) (hb : Ok b) (h : val b ≤ val x) : Ok (vZ.l0 x.length x b 0 0) ∧ (vZ.l0 x.length x b 0 0).length = x.length ∧ val (vZ.l0 x.length x b 0 0) = val x - val b := by
 obtain ⟨h1, h2, ce, h3, h4⟩ := jKA b hb x.length x 0 0 hx (by omega) (by omega)
 refine ⟨h1, h2, ?_⟩
 have hp := qN x.length
 have hxl := jAB hx
 have hy0 := vC h1
 have hyl := jAB h1
 rw [h2] at hyl
 have hbt : val (b.take x.length) = val b := by
  by_cases hl : b.length ≤ x.length
  ·
   rw [List.take_of_length_le hl]
  ·
   have e := zH b x.length (by omega)
   have n1 := vC (hb.take x.length)
   have n2 := vC (hb.drop x.length)
   have : val (b.drop x.length) = 0 := by
    rcases Int.lt_or_le 0 (val (b.drop x.length)) with h5 | h5
    ·
     have : B ^ x.length * 1 ≤ B ^ x.length * val (b.drop x.length) := Int.mul_le_mul_of_nonneg_left (by omega) (by omega)
     omega
    ·
     omega
   rw [this] at e
   omega
 simp only [List.drop_zero, Int.pow_zero, Int.one_mul, Int.zero_add, hbt, Nat.zero_add] at h4
 have : ce = 0 := by
  rcases Int.lt_or_le 0 ce with h5 | h5
  ·
   have e1 : ce = 1 := by omega
   rw [e1] at h4
   have n1 := vC hb
   omega
  ·
   omega
 rw [this] at h4
 omega
theorem jKB {a b : List Int} (ha : Ok a) (hb : Ok b) (hal : a.length ≤ 4294967296) (hbl : b.length ≤ 4294967296) : Ev (fun k => vZ.f k a b) (if val a < val b then ([], false) else (dg (val a - val b), true)) := by
 unfold vZ.f
 refine Ev.bind (jGu ha hb (by omega) (by omega)) ?_
 by_cases h : val a < val b
 ·
  rw [if_pos h]
  exact Ev.pos (jAq.2 h) (Ev.now _)
 ·
  rw [if_neg h]
  refine Ev.neg (fun e => h (jAq.1 e)) (Ev.bind (jBz ha (by omega)) ?_)
  have h0 := vC ha
  have hl := qU ha
  obtain ⟨h1, h2, h3⟩ := jIq (jAo (val a)) hb (by rw [jAC h0]; omega)
  rw [jAC h0] at h3
  have := jAb h1 (by rw [h2]; omega)
  rw [h3] at this
  exact Ev.bind this (Ev.now _)
theorem jGO (out : List Int) (n : Nat) : val (jS.pad out n) = val out := by unfold jS.pad; rw [val_append, jAr]; simp
theorem jIY {out : List Int} (h : Ok out) (n : Nat) : Ok (jS.pad out n) := h.append (Ok.rep _)
theorem jGP (out : List Int) (n : Nat) : (jS.pad out n).length = max out.length n := by unfold jS.pad; simp; omega
theorem jLU : ∀ (row out : List Int) (i : Nat) (c : Int), Ok row → Ok out → (0 ≤ c ∧ c ≤ 1) → i + row.length ≤ out.length →
  ∃ o c', jS.l3 row out i c = some (o, c') ∧ Ok o ∧ o.length = out.length ∧ (0 ≤ c' ∧ c' ≤ 1) ∧ val o + B ^ (i + row.length) * c' = val out + B ^ i * (c + val row) := by
 intro row
 induction row with
 | nil =>
  intro out i c _ ho hc _
  exact ⟨out, c, rfl, ho, rfl, hc, by simp [val]⟩
 | cons x row ih =>
  intro out i c hr ho hc hl
  simp only [List.length_cons] at hl
  obtain ⟨hs, hok, hcc⟩ := jJd (ho.at i) hr.head hc
  obtain ⟨o, c', e, h1, h2, h3, h4⟩ := ih (out.set i (ad64 (out.getD i 0) x c)) (i + 1) (ac64 (out.getD i 0) x c) hr.tail (ho.set i hok.1 hok.2) hcc (by rw [List.length_set]; omega)
  refine ⟨o, c', ?_, h1, by rw [h2, List.length_set], h3, ?_⟩
  ·
   rw [jS.l3, if_pos ⟨hc.2, by omega⟩]; exact e
  ·
   rw [List.length_cons, show i + (row.length + 1) = i + 1 + row.length from by omega, h4, jBc (by omega), qG]
   exact jHF hs rfl
theorem jLT : ∀ (d : Nat) (out : List Int) (i : Nat) (c : Int), Ok out → (0 ≤ c ∧ c ≤ 1) → i ≤ out.length → out.length - i + c.toNat = d → (out.length < 17592186044414 ∨ c = 0) →
  ∃ o, Ev (fun k => jS.l4 k out i c) o ∧ Ok o ∧ o.length ≤ out.length + 1 ∧ val o = val out + B ^ i * c := by
 intro d
 induction d using Nat.strongRecOn with
 | _ d ih =>
  intro out i c ho hc hi hd hl
  by_cases h0 : 0 < c
  ·
   have hc1 : c = 1 := by omega
   have hp := jIY ho (i + 1)
   obtain ⟨hs, hok, hcc⟩ := jJd (hp.at i) ⟨Int.le_refl 0, jBO⟩ hc
   have hpl := jGP out (i + 1)
   have hstep : ∀ k, jS.l4 (k + 1) out i c = jS.l4 k ((jS.pad out (i + 1)).set i (ad64 ((jS.pad out (i + 1)).getD i 0) 0 c)) (i + 1) (ac64 ((jS.pad out (i + 1)).getD i 0) 0 c) := fun k => by
    rw [jS.l4, if_pos h0, if_pos ⟨hc.2, hi, by omega⟩]
   have hcn : i = out.length → ac64 ((jS.pad out (i + 1)).getD i 0) 0 c = 0 := by
    intro e
    have : (jS.pad out (i + 1)).getD i 0 = 0 := by rw [jS.jEx e, e]; exact jCp _ _
    rw [this]
    exact jIS hc
   obtain ⟨o, h1, h2, h3, h4⟩ := ih ((jS.pad out (i + 1)).length - (i + 1) + (ac64 ((jS.pad out (i + 1)).getD i 0) 0 c).toNat) (by
     by_cases e : i = out.length
     ·
      rw [hcn e]; omega
     ·
      omega) ((jS.pad out (i + 1)).set i (ad64 ((jS.pad out (i + 1)).getD i 0) 0 c)) (i + 1) (ac64 ((jS.pad out (i + 1)).getD i 0) 0 c) (hp.set i hok.1 hok.2) hcc (by rw [List.length_set]; omega) (by rw [List.length_set]) (by
     rw [List.length_set]
     by_cases e : i = out.length
     ·
      exact .inr (hcn e)
     ·
      exact .inl (by omega))
   refine ⟨o, Ev.step hstep h1, h2, ?_, ?_⟩
   ·
    rw [List.length_set] at h3
    by_cases e : i = out.length
    ·
     have hz := hcn e
     rw [hz] at h1
     have hnow : Ev (fun k => jS.l4 k ((jS.pad out (i + 1)).set i (ad64 ((jS.pad out (i + 1)).getD i 0) 0 c)) (i + 1) 0) ((jS.pad out (i + 1)).set i (ad64 ((jS.pad out (i + 1)).getD i 0) 0 c)) :=
      Ev.step (fun k => by rw [jS.l4, if_neg (by omega)]) (Ev.now _)
     obtain ⟨K1, e1⟩ := h1
     obtain ⟨K2, e2⟩ := hnow
     have e3 := (e1 (max K1 K2) (by omega)).symm.trans (e2 (max K1 K2) (by omega))
     injection e3 with e3
     rw [e3, List.length_set]
     omega
    ·
     omega
   ·
    rw [h4, jBc (by omega), jGO, qG]
    have := jHF (v := val out) (p := B ^ i) (r := 0) (r' := 0) hs (by omega)
    simp only [Int.add_zero] at this
    exact this
  ·
   have hc0 : c = 0 := by omega
   subst hc0
   exact ⟨out, Ev.step (fun k => by rw [jS.l4, if_neg (by omega)]) (Ev.now _), ho, by omega, by omega⟩
theorem jLV (L : Nat) (hL : L ≤ 4294967296) : ∀ (rows : List (List Int)) (j : Nat) (out : List Int), (∀ r ∈ rows, Ok r ∧ r.length ≤ L) → Ok out → out.length ≤ 2 * j + L → j + rows.length ≤ 4294967296 →
  ∃ o, Ev (fun k => jS.l1 k rows j out) o ∧ Ok o ∧ o.length ≤ 2 * (j + rows.length) + L ∧ val o = val out + B ^ j * sumv rows := by
 intro rows
 induction rows with
 | nil =>
  intro j out _ ho hl _
  refine ⟨out, Ev.now _, ho, by simpa using hl, by simp [sumv]⟩
 | cons r rows ih =>
  intro j out hr ho hl hj
  simp only [List.length_cons] at hj
  obtain ⟨hrk, hrl⟩ := hr r (List.mem_cons_self ..)
  have hdl := qU hrk
  have hpl := jGP out (j + (dg (val r)).length)
  obtain ⟨o1, c1, e1, a1, a2, a3, a4⟩ := jLU (dg (val r)) (jS.pad out (j + (dg (val r)).length)) j 0 (jAo _) (jIY ho _) (by omega) (by omega)
  obtain ⟨o2, b0, b1, b2, b3⟩ := jLT _ o1 (j + (dg (val r)).length) c1 a1 a3 (by omega) rfl (.inl (by omega))
  obtain ⟨o3, d0, d1, d2, d3⟩ := ih (j + 1) o2 (fun r' h' => hr r' (List.mem_cons_of_mem _ h')) b1 (by omega) (by omega)
  refine ⟨o3, ?_, d1, by simp only [List.length_cons]; omega, ?_⟩
  ·
   simp only [jS.l1]
   refine Ev.bind (jAb hrk (by omega)) (Ev.pos (by omega) (Ev.vY e1 (Ev.bind b0 d0)))
  ·
   rw [d3, b3, a4, jGO, jAC (vC hrk), sumv, qG, Int.zero_add, Int.mul_add, Int.mul_assoc]
   omega
theorem jJz {rows : List (List Int)} {L : Nat} (hL : L ≤ 4294967296) (hr : ∀ r ∈ rows, Ok r ∧ r.length ≤ L) (hn : rows.length ≤ 4294967296) : Ev (fun k => jS.f k rows) (dg (sumv rows)) := by
 obtain ⟨o, h1, h2, h3, h4⟩ := jLV L hL rows 0 [] hr Ok.nil (by simp) (by omega)
 unfold jS.f
 have e : val o = sumv rows := by rw [h4]; simp [val]
 have hl := qU h2
 refine Ev.bind h1 (Ev.bind (jAb h2 (by omega)) ?_)
 rw [← e]
 exact Ev.vY (jCN (by omega)) (Ev.now _)
theorem jKN {x y : Int} (hx : 0 ≤ x ∧ x < B) (hy : 0 ≤ y ∧ y < B) : 0 ≤ x * y / B ∧ x * y / B ≤ B - 2 ∧ (0 ≤ x * y % B ∧ x * y % B < B) ∧ x * y % B + B * (x * y / B) = x * y := by
 have h1 : x * y ≤ (B - 1) * (B - 1) := Int.mul_le_mul (by omega) (by omega) hy.1 (by have := jBO; omega)
 have h0 : 0 ≤ x * y := Int.mul_nonneg hx.1 hy.1
 have e := Int.emod_add_mul_ediv (x * y) B
 refine ⟨Int.ediv_nonneg h0 (Int.le_of_lt jBO), ?_, ⟨Int.emod_nonneg _ (Int.ne_of_gt jBO), Int.emod_lt_of_pos _ jBO⟩, e⟩
 rw [B_eq] at *
 generalize x * y = z at *
 omega
theorem u64w {x : Int} (h : 0 ≤ x ∧ x < B) : IntKind.u64.wrap x = x := by rw [IntKind.wrap_u64]; rw [B_eq] at h; omega
theorem jIB {x y : Int} (hx : 0 ≤ x ∧ x < B) (hy : 0 ≤ y ∧ y < B) : bits_Mul64.f x y = some (x * y / B, x * y % B) := if_pos ⟨hx, hy⟩
theorem jDV {l : List Int} {i : Nat} {v : Int} (h : ∀ j, i ≤ j → l.getD j 0 = 0) : ∀ j, i + 1 ≤ j → (l.set i v).getD j 0 = 0 := by
 intro j hj
 have := h j (by omega)
 rw [List.getD_eq_getElem?_getD] at this ⊢
 rw [List.getElem?_set_ne (by omega)]
 exact this
theorem jJM {v p x n t y c c' P : Int} (h0 : v + p * c = x * P) (h1 : n + B * c' = t + x * y + c) (ht : t = 0) : v + p * (n - t) + p * B * c' = x * (P + p * y) := by
 have e : n - t + B * c' = x * y + c := by omega
 have e2 : v + p * (n - t) + p * B * c' = v + p * (n - t + B * c') := by rw [Int.mul_add, Int.mul_assoc, Int.add_assoc]
 rw [e2, e, Int.mul_add, Int.mul_add, ← h0]
 have e3 : p * (x * y) = x * (p * y) := by rw [← Int.mul_assoc, Int.mul_comm p x, Int.mul_assoc]
 omega
theorem jJN (b : List Int) (hb : Ok b) (hbl : b.length ≤ 4294967296) (x : Int) (hx : 0 ≤ x ∧ x < B) (rows : List (List Int)) (hrl : rows.length < 5864062014805) (a : List Int) (al j : Int) : ∀ (d : Nat) (r : List Int) (c : Int) (i : Nat), b.length - i = d → i ≤ b.length → Ok r → r.length = b.length + 1 → (0 ≤ c ∧ c < B) → (∀ m, i ≤ m → r.getD m 0 = 0) → val r + B ^ i * c = x * val (b.take i) →
  ∃ r', Ok r' ∧ r'.length = b.length + 1 ∧ val r' = x * val b ∧ ∀ res, Ev (fun k => vH.l0 k b (rows ++ [r']) a al (wrap64 (j + 1))) res → Ev (fun k => vH.l1 k b rows x r c a al j b (b.length : Int) i) res := by
 intro d
 induction d with
 | zero =>
  intro r c i hd hi hr hrlen hc hz hv
  have hib : i = b.length := by omega
  subst hib
  refine ⟨r.set b.length c, hr.set _ hc.1 hc.2, by rw [List.length_set]; exact hrlen, ?_, fun res hres => Ev.step (fun k => ?_) hres⟩
  ·
   rw [jBc (by omega), hz _ (Nat.le_refl _), Int.sub_zero, hv, List.take_length]
  ·
   simp only [vH.l1]
   rw [if_neg (by omega), if_pos (by omega), if_pos (by omega), if_pos hrl, Int.toNat_natCast]
 | succ d ih =>
  intro r c i hd hi hr hrlen hc hz hv
  have hib : i < b.length := by omega
  have hbi := hb.at i
  obtain ⟨m1, m2, m3, m4⟩ := jKN hx hbi
  have hlo : (0 ≤ x * b.getD i 0 % B ∧ x * b.getD i 0 % B < B) := m3
  have ha := jJd (c := 0) hlo hc (by omega)
  obtain ⟨s1, s2, s3⟩ := ha
  have hwr : IntKind.u64.wrap (x * b.getD i 0 / B + ac64 (x * b.getD i 0 % B) c 0) = x * b.getD i 0 / B + ac64 (x * b.getD i 0 % B) c 0 := u64w (by omega)
  have hnew : val (r.set i (ad64 (x * b.getD i 0 % B) c 0)) + B ^ (i + 1) * (x * b.getD i 0 / B + ac64 (x * b.getD i 0 % B) c 0) = x * val (b.take (i + 1)) := by
   rw [jBc (by omega), jAe hib, qG]
   refine jJM hv ?_ (hz i (Nat.le_refl _))
   rw [hz i (Nat.le_refl _), Int.mul_add]
   omega
  obtain ⟨r', h1, h2, h3, h4⟩ := ih (r.set i (ad64 (x * b.getD i 0 % B) c 0)) (x * b.getD i 0 / B + ac64 (x * b.getD i 0 % B) c 0) (i + 1) (by omega) (by omega) (hr.set i s2.1 s2.2) (by rw [List.length_set]; exact hrlen) (by omega) (jDV hz) hnew
  refine ⟨r', h1, h2, h3, fun res hres => Ev.step (fun k => ?_) (h4 res hres)⟩
  simp only [vH.l1]
  rw [if_pos (by omega), if_pos (by omega), if_pos (by omega), qj, jIB hx hbi, zo, if_pos (by omega), Int.toNat_natCast, w64 (by omega), hwr, show (i : Int) + 1 = ((i + 1 : Nat) : Int) from by omega]
theorem jEO (u : List (List Int)) (r : List Int) : sumv (u ++ [r]) = sumv u + B ^ u.length * val r := by
 induction u with
 | nil => simp [sumv]
 | cons x u ih => rw [List.cons_append, sumv, sumv, ih, List.length_cons, qG, Int.mul_add, Int.mul_comm (B ^ u.length) B, Int.mul_assoc, Int.add_assoc]
theorem jKO (a b : List Int) (ha : Ok a) (hb : Ok b) (hal : a.length ≤ 4294967295) (hbl : b.length ≤ 4294967295) : ∀ (d j : Nat) (rows : List (List Int)), a.length - j = d → j ≤ a.length → rows.length = j → (∀ r ∈ rows, Ok r ∧ r.length ≤ b.length + 1) → sumv rows = val (a.take j) * val b →
  Ev (fun k => vH.l0 k b rows a (a.length : Int) j) (dg (val a * val b)) := by
 intro d
 induction d with
 | zero =>
  intro j rows hd hj hrl hr hs
  have hja : j = a.length := by omega
  refine Ev.step (f := fun k => (jS.f k rows).bind fun t => some t) (fun k => by simp only [vH.l0]; rw [if_neg (by omega)]) ?_
  rw [hja, List.take_length] at hs
  rw [← hs]
  exact Ev.bind (jJz (L := b.length + 1) (by omega) hr (by omega)) (Ev.now _)
 | succ d ih =>
  intro j rows hd hj hrl hr hs
  have hja : j < a.length := by omega
  have hw : wrap64 ((b.length : Int) + 1) = ((b.length + 1 : Nat) : Int) := by rw [w64 (by omega)]; omega
  obtain ⟨r', h1, h2, h3, h4⟩ := jJN b hb (by omega) (a.getD j 0) (ha.at j) rows (by omega) a (a.length : Int) j b.length (List.replicate (b.length + 1) 0) 0 0 (by omega) (by omega) (Ok.rep _) (by simp) ⟨Int.le_refl _, jBO⟩ (fun m _ => by rw [List.getD_eq_getElem?_getD, List.getElem?_replicate]; split <;> rfl) (by rw [jAr]; simp [val])
  refine Ev.step (fun k => ?_) (h4 _ ?_)
  ·
   simp only [vH.l0]
   rw [if_pos (by omega), if_pos (by omega), if_pos (by omega), hw, if_pos (by omega), if_pos (by omega), qj, Int.toNat_natCast]
   rfl
  ·
   rw [w64 (by omega), show (j : Int) + 1 = ((j + 1 : Nat) : Int) from by omega]
   refine ih (j + 1) (rows ++ [r']) (by omega) (by omega) (by simp [hrl]) (fun r hr' => ?_) ?_
   ·
    rcases List.mem_append.1 hr' with hr' | hr'
    ·
     exact hr r hr'
    ·
     rw [List.mem_singleton.1 hr']
     exact ⟨h1, by omega⟩
   ·
    rw [jEO, hs, h3, hrl, jAe hja, Int.add_mul, Int.mul_assoc]
theorem jKP {a b : List Int} (ha : Ok a) (hb : Ok b) (hal : a.length ≤ 4294967295) (hbl : b.length ≤ 4294967295) : Ev (fun k => vH.f k a b) (dg (val a * val b)) := by
 unfold vH.f
 have h0 := vC ha
 have h1 := vC hb
 have l0 := qU ha
 have l1 := qU hb
 refine Ev.bind (jAb hb (by omega)) (Ev.bind (jAb ha (by omega)) ?_)
 have := jKO (dg (val a)) (dg (val b)) (jAo _) (jAo _) (by omega) (by omega) _ 0 [] rfl (by omega) rfl (fun r hr => absurd hr List.not_mem_nil) (by simp [sumv, val])
 rw [jAC h0, jAC h1] at this
 exact this
end Go.Proofs.Ytijgeonhbmgikaa.EOOctetGets
end
section
set_option linter.unusedVariables false
set_option linter.unusedSimpArgs false
namespace Go.Proofs.Ytijgeonhbmgikaa.EOOctetGets
open Go.RowKit Go.Proofs.Ytijgeonhbmgikaa.POOctetGets Go.Proofs.YtijgeonhbmgikaaN Go.Proofs.YtijgeonhbmgikaaW.PrintWords Go.Proofs.YtijgeonhbmgikaaW.PrintLast Go.Proofs.YtijgeonhbmgikaaW.PrintMore
def Row (l : List Int) (x : Int) (n : Nat) : Prop := Ok l ∧ val l = x ∧ l.length ≤ n
theorem Row.of {l : List Int} {n : Nat} (h : Ok l) (hl : l.length ≤ n) : Row l (val l) n := ⟨h, rfl, hl⟩
theorem Row.pos {l : List Int} {x : Int} {n : Nat} (h : Row l x n) : 0 ≤ x := h.2.1 ▸ vC h.1
theorem Row.lt {l : List Int} {x : Int} {n : Nat} (h : Row l x n) : x < B ^ n := by
 have h1 := jAB h.1
 have h2 := qb h.2.2
 rw [h.2.1] at h1
 omega
theorem Row.dg {x : Int} {n : Nat} (h0 : 0 ≤ x) (h1 : x < B ^ n) : Row (dg x) x n := ⟨jAo x, jAC h0, jBU h1⟩
theorem Row.le {l : List Int} {x : Int} {n m : Nat} (h : Row l x n) (hm : n ≤ m) : Row l x m := ⟨h.1, h.2.1, Nat.le_trans h.2.2 hm⟩
theorem Row.add {a b : List Int} {x y : Int} {n m p : Nat} (ha : Row a x n) (hb : Row b y m) (h1 : n + 1 ≤ p) (h2 : m + 1 ≤ p) : Row (Go.Proofs.YtijgeonhbmgikaaN.dg (x + y)) (x + y) p := by
 have p0 := ha.pos
 have p1 := hb.pos
 have l0 := (ha.le (m := p - 1) (by omega)).lt
 have l1 := (hb.le (m := p - 1) (by omega)).lt
 obtain ⟨q, rfl⟩ : ∃ q, p = q + 1 := ⟨p - 1, by omega⟩
 simp only [Nat.add_sub_cancel] at l0 l1
 refine Row.dg (by omega) ?_
 have h6 : B ^ q * 2 ≤ B ^ q * B := Int.mul_le_mul_of_nonneg_left (by decide) (Int.le_of_lt (qN q))
 rw [qG]
 omega
theorem Row.mul {a b : List Int} {x y : Int} {n m p : Nat} (ha : Row a x n) (hb : Row b y m) (h1 : n + m ≤ p) : Row (Go.Proofs.YtijgeonhbmgikaaN.dg (x * y)) (x * y) p := by
 have p0 := ha.pos
 have p1 := hb.pos
 have l0 := ha.lt
 have l1 := hb.lt
 refine Row.dg (Int.mul_nonneg p0 p1) ?_
 have h2 := qb h1
 rw [Int.pow_add] at h2
 have h3 := qN n
 have h4 := qN m
 have h5 : x * y ≤ x * B ^ m := Int.mul_le_mul_of_nonneg_left (by omega) p0
 have h6 : (x + 1) * B ^ m ≤ B ^ n * B ^ m := Int.mul_le_mul_of_nonneg_right (by omega) (by omega)
 rw [Int.add_mul, Int.one_mul] at h6
 omega
theorem Ev.eq {α : Type} {g : Nat → Option α} {r s : α} (h : Ev g r) (e : r = s) : Ev g s := e ▸ h
theorem subR {a b : List Int} {x y : Int} {n m : Nat} (ha : Row a x n) (hb : Row b y m) (h1 : n ≤ 4294967296) (h2 : m ≤ 4294967296) : Ev (fun k => vZ.f k a b) (if x < y then ([], false) else (dg (x - y), true)) := by
 have := jKB ha.1 hb.1 (Nat.le_trans ha.2.2 h1) (Nat.le_trans hb.2.2 h2)
 rwa [ha.2.1, hb.2.1] at this
theorem jHV {a b : List Int} {x y : Int} {n m : Nat} (ha : Row a x n) (hb : Row b y m) (h1 : n ≤ 4294967296) (h2 : m ≤ 4294967296) (h : y ≤ x) : Ev (fun k => vZ.f k a b) (dg (x - y), true) := Ev.eq (subR ha hb h1 h2) (if_neg (by omega))
theorem jIr {a b : List Int} {x y : Int} {n m : Nat} (ha : Row a x n) (hb : Row b y m) (h1 : n ≤ 4294967296) (h2 : m ≤ 4294967296) (h : x < y) : Ev (fun k => vZ.f k a b) ([], false) := Ev.eq (subR ha hb h1 h2) (if_pos h)
theorem mulR {a b : List Int} {x y : Int} {n m : Nat} (ha : Row a x n) (hb : Row b y m) (h1 : n ≤ 4294967295) (h2 : m ≤ 4294967295) : Ev (fun k => vH.f k a b) (dg (x * y)) := by
 have := jKP ha.1 hb.1 (Nat.le_trans ha.2.2 h1) (Nat.le_trans hb.2.2 h2)
 rwa [ha.2.1, hb.2.1] at this
end Go.Proofs.Ytijgeonhbmgikaa.EOOctetGets
end
section
set_option linter.unusedVariables false
set_option linter.unusedSimpArgs false
namespace Go.Proofs.YtijgeonhbmgikaaN
open Go
theorem jJr : B = 2 ^ 64 := by rw [B_eq]; simp
theorem two_pos (n : Nat) : (0 : Int) < 2 ^ n := Int.pow_pos (by decide)
theorem jEq {m n : Nat} (h : m ≤ n) : (2 : Int) ^ m ≤ 2 ^ n := by
 obtain ⟨k, rfl⟩ := Nat.le.dest h
 rw [Int.pow_add]
 have h1 := two_pos m
 have h2 := two_pos k
 have : (2 : Int) ^ m * 1 ≤ 2 ^ m * 2 ^ k := Int.mul_le_mul_of_nonneg_left (by omega) (by omega)
 omega
theorem jDd (q : Nat) : B ^ q = 2 ^ (64 * q) := by rw [jJr, Int.pow_mul]
theorem jAK {r : Nat} (h : r ≤ 64) : (2 : Int) ^ r * 2 ^ (64 - r) = B := by
 rw [← Int.pow_add, jJr, show r + (64 - r) = 64 from by omega]
theorem jCS (r : Nat) : (2 : Int) ^ r = ((2 ^ r : Nat) : Int) := by simp
theorem or_hi {a b : Int} {r : Nat} (ha : 0 ≤ a) (hb : 0 ≤ b ∧ b < 2 ^ r) (hl : 2 ^ r * a < B) (hbB : b < B) : bits .or .u64 (2 ^ r * a) b = 2 ^ r * a + b := by
 obtain ⟨m, rfl⟩ := Int.eq_ofNat_of_zero_le ha
 obtain ⟨n, rfl⟩ := Int.eq_ofNat_of_zero_le hb.1
 have h2 := hb.2
 rw [jCS] at hl h2 ⊢
 rw [← Int.natCast_mul] at hl ⊢
 rw [B_eq] at hl hbB
 have h3 : n < 2 ^ r := Int.ofNat_lt.1 h2
 rw [bits_or_u64_nat _ _ (by omega) (by omega), ← Nat.two_pow_add_eq_or_of_lt h3]
 omega
theorem jLS {a b : Int} {r : Nat} (ha : 0 ≤ a) (hb : 0 ≤ b ∧ b < 2 ^ r) (hl : 2 ^ r * a < B) (hbB : b < B) : bits .or .u64 b (2 ^ r * a) = b + 2 ^ r * a := by
 obtain ⟨m, rfl⟩ := Int.eq_ofNat_of_zero_le ha
 obtain ⟨n, rfl⟩ := Int.eq_ofNat_of_zero_le hb.1
 have h2 := hb.2
 rw [jCS] at hl h2 ⊢
 rw [← Int.natCast_mul] at hl ⊢
 rw [B_eq] at hl hbB
 have h3 : n < 2 ^ r := Int.ofNat_lt.1 h2
 rw [bits_or_u64_nat _ _ (by omega) (by omega), Nat.or_comm, ← Nat.two_pow_add_eq_or_of_lt h3]
 omega
theorem jCz {x : Int} {r : Nat} (h : r ≤ 64) : 2 ^ r * (x % 2 ^ (64 - r)) + B * (x / 2 ^ (64 - r)) = 2 ^ r * x := by
 have e := Int.mul_ediv_add_emod x (2 ^ (64 - r))
 rw [← jAK h]
 have : (2 : Int) ^ r * x = 2 ^ r * (2 ^ (64 - r) * (x / 2 ^ (64 - r)) + x % 2 ^ (64 - r)) := by rw [e]
 rw [this, Int.mul_add, Int.mul_assoc, Int.add_comm]
theorem jES {x y V : Int} {r : Nat} (h : r ≤ 64) : (x + B * (y + B * V)) / 2 ^ r = (x / 2 ^ r + 2 ^ (64 - r) * (y % 2 ^ r)) + B * ((y + B * V) / 2 ^ r) := by
 have hp := two_pos r
 have e0 : (y + B * V) % 2 ^ r = y % 2 ^ r := by
  rw [← jAK h, Int.mul_assoc, Int.add_mul_emod_self_left]
 generalize hz : y + B * V = Z at *
 have e := Int.mul_ediv_add_emod Z (2 ^ r)
 have e1 : B * Z = 2 ^ r * (2 ^ (64 - r) * Z) := by rw [← jAK h, Int.mul_assoc]
 rw [e1, Int.add_mul_ediv_left _ _ (by omega), ← e0]
 have e2 : (2 : Int) ^ (64 - r) * Z = 2 ^ (64 - r) * (2 ^ r * (Z / 2 ^ r) + Z % 2 ^ r) := by rw [e]
 rw [e2, Int.mul_add, ← Int.mul_assoc, Int.mul_comm (2 ^ (64 - r)) (2 ^ r), jAK h]
 omega
theorem jGD {x : Int} {r : Nat} (h : r ≤ 64) : 0 ≤ 2 ^ r * (x % 2 ^ (64 - r)) ∧ 2 ^ r * (x % 2 ^ (64 - r)) ≤ B - 2 ^ r := by
 have h1 := two_pos r
 have h2 := two_pos (64 - r)
 have h3 := Int.emod_nonneg x (b := 2 ^ (64 - r)) (by omega)
 have h4 := Int.emod_lt_of_pos x h2
 refine ⟨Int.mul_nonneg (by omega) h3, ?_⟩
 have h5 : (2 : Int) ^ r * (x % 2 ^ (64 - r)) ≤ 2 ^ r * (2 ^ (64 - r) - 1) := Int.mul_le_mul_of_nonneg_left (by omega) (by omega)
 rw [Int.mul_sub, jAK h, Int.mul_one] at h5
 exact h5
theorem jBl {r : Nat} (h : r ≤ 64) : (2 : Int) ^ r ≤ B := by rw [jJr]; exact jEq h
end Go.Proofs.YtijgeonhbmgikaaN
end
section
set_option linter.unusedVariables false
set_option linter.unusedSimpArgs false
namespace Go.Proofs.Ytijgeonhbmgikaa.EOOctetGets
open Go.RowKit Go.Proofs.Ytijgeonhbmgikaa.POOctetGets Go.Proofs.YtijgeonhbmgikaaN Go.Proofs.YtijgeonhbmgikaaW.PrintWords Go.Proofs.YtijgeonhbmgikaaW.PrintLast Go.Proofs.YtijgeonhbmgikaaW.PrintMore
theorem jDi {x : Int} {r : Nat} (h : r ≤ 64) : shl .u64 x (r : Int) = 2 ^ r * (x % 2 ^ (64 - r)) := by
 unfold shl
 have e : min (Int.toNat (r : Int)) IntKind.u64.bits = r := by
  rw [Int.toNat_natCast]
  exact Nat.min_eq_left h
 have hp := two_pos r
 rw [e, IntKind.wrap_u64, show (18446744073709551616 : Int) = B from rfl, ← jAK h, Int.mul_comm x, Int.mul_emod_mul_of_pos _ _ hp]
theorem jCU {x : Int} {r : Nat} (h : r ≤ 64) : shr .u64 x (r : Int) = x / 2 ^ r := by
 unfold shr
 have e : min (Int.toNat (r : Int)) IntKind.u64.bits = r := by
  rw [Int.toNat_natCast]
  exact Nat.min_eq_left h
 rw [e]
theorem jHY {x : Int} {r : Nat} (h : r ≤ 63) : shr .u64 x ((63 - r : Nat) : Int) / 2 = x / 2 ^ (64 - r) := by
 rw [jCU (by omega), Int.ediv_ediv_of_nonneg (Int.le_of_lt (two_pos _)), show 64 - r = 63 - r + 1 from by omega, Int.pow_succ]
theorem jIC {x c : Int} {r : Nat} (hr : r ≤ 63) (hx : 0 ≤ x ∧ x < B) (hc : 0 ≤ c ∧ c < 2 ^ r) : ∃ v c', shl .u64 x (r : Int) |> fun s => Go.bits .or .u64 s c = v ∧ shr .u64 x ((63 - r : Nat) : Int) / 2 = c' ∧ (0 ≤ v ∧ v < B) ∧ (0 ≤ c' ∧ c' < 2 ^ r) ∧ v + B * c' = c + 2 ^ r * x := by
 have h64 : r ≤ 64 := by omega
 have h1 := jGD (x := x) h64
 have h2 := jCz (x := x) h64
 have h3 := two_pos (64 - r)
 have h4 := jBl h64
 have h5 := Int.emod_nonneg x (b := 2 ^ (64 - r)) (by omega)
 have h6 : x / 2 ^ (64 - r) < 2 ^ r := by
  apply Int.ediv_lt_of_lt_mul h3
  rw [jAK h64]
  exact hx.2
 have h7 : 0 ≤ x / 2 ^ (64 - r) := Int.ediv_nonneg hx.1 (by omega)
 refine ⟨2 ^ r * (x % 2 ^ (64 - r)) + c, x / 2 ^ (64 - r), ?_, jHY hr, ?_, ⟨h7, h6⟩, ?_⟩
 ·
  rw [jDi h64, or_hi h5 hc (by omega) (by omega)]
 ·
  omega
 ·
  omega
theorem jID {out : List Int} {x c v c' V : Int} {r : Nat} (h : v + B * c' = c + 2 ^ r * x) : val (out ++ [v]) + B ^ (out ++ [v]).length * (c' + 2 ^ r * V) = val out + B ^ out.length * (c + 2 ^ r * (x + B * V)) := by
 have e : c + 2 ^ r * (x + B * V) = v + B * (c' + 2 ^ r * V) := by
  rw [Int.mul_add, Int.mul_add, ← Int.mul_assoc, ← Int.mul_assoc, Int.mul_comm B (2 ^ r)]
  omega
 rw [e, jBk, List.length_append, List.length_singleton, qG, Int.mul_add (B ^ out.length), Int.mul_assoc, Int.add_assoc]
theorem jKW {n : Nat} {out a : List Int} {c v c' : Int} {i : Nat} (hn : n ≤ 1000) (hl : a.length ≤ 4294967296) (hi : i < a.length) (ho : out.length ≤ i + 100) (h1 : Go.bits .or .u64 (shl .u64 (a.getD i 0) ((n % 64 : Nat) : Int)) c = v) (h2 : shr .u64 (a.getD i 0) ((63 - n % 64 : Nat) : Int) / 2 = c') (k : Nat) : jH.l1 (k + 1) n out c a a.length i = jH.l1 k n (out ++ [v]) c' a a.length ((i + 1 : Nat) : Int) := by
 have hw : wrap64 ((i : Int) + 1) = ((i + 1 : Nat) : Int) := by rw [w64 (by omega)]; omega
 have hr : Int.tmod (n : Int) 64 = ((n % 64 : Nat) : Int) := by rw [Int.tmod_eq_emod_of_nonneg (by omega)]; omega
 have hr' : wrap64 (63 - ((n % 64 : Nat) : Int)) = ((63 - n % 64 : Nat) : Int) := by rw [w64 (by omega)]; omega
 have c0 : (0 : Int) ≤ (i : Int) := by omega
 have c1 : (i : Int) < (a.length : Int) := by omega
 have c2 : (0 : Int) ≤ ((n % 64 : Nat) : Int) := by omega
 have c3 : (0 : Int) ≤ ((63 - n % 64 : Nat) : Int) := by omega
 have c4 : out.length < 17592186044416 := by omega
 simp only [jH.l1, hw, hr, hr', qj, h1, h2]
 rw [if_pos c1, if_pos c0, if_pos c1, if_pos c2, if_pos c4, if_pos c3]
theorem jJP (a : List Int) (ha : Ok a) (hl : a.length ≤ 4294967296) (n : Nat) (hn : n ≤ 1000) : ∀ (d : Nat) (out : List Int) (c : Int) (i : Nat), a.length - i = d → i ≤ a.length → Ok out → out.length ≤ i + 100 → (0 ≤ c ∧ c < 2 ^ (n % 64)) → Ev (fun k => jH.l1 k n out c a a.length i) (dg (val out + B ^ out.length * (c + 2 ^ (n % 64) * val (a.drop i)))) := by
 intro d
 induction d with
 | zero =>
  intro out c i hd hi ho hol hc
  have e : a.drop i = [] := List.drop_eq_nil_of_le (by omega)
  have hcB : c < B := Int.lt_of_lt_of_le hc.2 (jBl (by omega))
  have hok : Ok (out ++ [c]) := ho.append (Ok.one hc.1 hcB)
  have hll : (out ++ [c]).length ≤ 4294967397 := by simp; omega
  have c1 : ¬ ((i : Int) < (a.length : Int)) := by omega
  have c4 : out.length < 17592186044416 := by omega
  refine Ev.step (f := fun k => (jQ.f k (out ++ [c])).bind fun t => ((je.f t).bind fun t => (some t))) (fun k => by simp only [jH.l1]; rw [if_neg c1, if_pos c4]) ?_
  rw [e, jAF, Int.mul_zero, Int.add_zero, ← jBk]
  have := qU hok
  exact Ev.bind (jAb hok (by omega)) (Ev.vY (jCN (by omega)) (Ev.now _))
 | succ d ih =>
  intro out c i hd hi ho hol hc
  have hia : i < a.length := by omega
  obtain ⟨v, c', h1, h2, h3, h4, h5⟩ := jIC (r := n % 64) (by omega) (ha.at i) hc
  refine Ev.step (jKW hn hl hia hol h1 h2) ?_
  have := ih (out ++ [v]) c' (i + 1) (by omega) (by omega) (ho.append (Ok.one h3.1 h3.2)) (by simp; omega) h4
  rw [jID h5, ← qw hia] at this
  exact this
theorem jCV {a : List Int} (ha : Ok a) (hal : a.length ≤ 4294967296) {n : Int} (hn : 0 ≤ n) : Ev (fun k => jH.f k a n) (dg (val a * 2 ^ (min n.toNat 1000))) := by
 unfold jH.f
 have e : mn n 1000 = ((min n.toNat 1000 : Nat) : Int) := by unfold mn; split <;> omega
 rw [e]
 have hN : min n.toNat 1000 ≤ 1000 := Nat.min_le_right ..
 generalize min n.toNat 1000 = N at *
 have hq : wrap64 (Int.tdiv (N : Int) 64) = ((N / 64 : Nat) : Int) := by rw [Int.tdiv_eq_ediv_of_nonneg (by omega), w64 (by omega)]; omega
 have hdl := qU ha
 have hw : wrap64 (wrap64 (((N / 64 : Nat) : Int) + ((dg (val a)).length : Int)) + 1) = ((N / 64 + (dg (val a)).length + 1 : Nat) : Int) := by
  rw [w64 (x := ((N / 64 : Nat) : Int) + ((dg (val a)).length : Int)) (by omega), w64 (by omega)]
  omega
 refine Ev.bind (jAb ha (by omega)) (Ev.neg (by omega) ?_)
 simp only [hq, hw, Int.toNat_natCast]
 refine Ev.pos (by omega) (Ev.pos (by omega) (Ev.pos (by omega) ?_))
 have h := jJP (dg (val a)) (jAo _) (by omega) N hN _ (List.replicate (N / 64) 0) 0 0 rfl (by omega) (Ok.rep _) (by simp; omega) ⟨Int.le_refl _, two_pos _⟩
 rw [jAr, List.length_replicate, List.drop_zero, jAC (vC ha), Int.zero_add, Int.zero_add, jDd, ← Int.mul_assoc, ← Int.pow_add, show 64 * (N / 64) + N % 64 = N from by omega, Int.mul_comm] at h
 exact h
theorem jDn {x y : Int} {r : Nat} (hr : r ≤ 63) (hx : 0 ≤ x ∧ x < B) (hy : 0 ≤ y ∧ y < B) : (0 ≤ x / 2 ^ r + 2 ^ (64 - r) * (y % 2 ^ r) ∧ x / 2 ^ r + 2 ^ (64 - r) * (y % 2 ^ r) < B) ∧ Go.bits .or .u64 (shr .u64 x (r : Int)) (shl .u64 y ((64 - r : Nat) : Int)) = x / 2 ^ r + 2 ^ (64 - r) * (y % 2 ^ r) := by
 have hr4 : 64 - r ≤ 64 := by omega
 have h64 : r ≤ 64 := by omega
 have h1 := jGD (x := y) hr4
 rw [jCU h64, jDi hr4]
 rw [show 64 - (64 - r) = r from by omega] at h1 ⊢
 have h2 := two_pos r
 have h5 := Int.emod_nonneg y (b := 2 ^ r) (by omega)
 have h6 : x / 2 ^ r < 2 ^ (64 - r) := by
  apply Int.ediv_lt_of_lt_mul h2
  rw [Int.mul_comm, jAK h64]
  exact hx.2
 have h7 : 0 ≤ x / 2 ^ r := Int.ediv_nonneg hx.1 (by omega)
 have h8 := jBl hr4
 have h9 := two_pos (64 - r)
 refine ⟨?_, jLS h5 ⟨h7, h6⟩ (by omega) (by omega)⟩
 omega
theorem set_mid (t : List Int) (x y : Int) (s : List Int) : (t ++ x :: s).set t.length y = t ++ y :: s := by
 rw [List.set_append_right _ _ (Nat.le_refl _), Nat.sub_self, List.set_cons_zero]
theorem jDU (t : List Int) (x : Int) (s : List Int) (j : Nat) : (t ++ x :: s).getD (t.length + j) 0 = (x :: s).getD j 0 := by
 rw [List.getD_eq_getElem?_getD, List.getD_eq_getElem?_getD, List.getElem?_append_right (by omega), Nat.add_sub_cancel_left]
theorem jIy {t s : List Int} {x : Int} {r : Nat} (hr : r ≤ 63) (ht : Ok (x :: s)) (hl : t.length + s.length ≤ 4294967296) (L : Nat) (hL : L = t.length + 1 + s.length) (k : Nat) : jH.l0 (k + 1) (t ++ x :: s) (r : Int) L t.length = jH.l0 k ((t ++ [x / 2 ^ r + 2 ^ (64 - r) * (s.getD 0 0 % 2 ^ r)]) ++ s) (r : Int) L ((t ++ [x / 2 ^ r + 2 ^ (64 - r) * (s.getD 0 0 % 2 ^ r)]).length : Int) := by
 obtain ⟨hv, hor⟩ := jDn hr ht.head (ht.tail.at 0)
 have hw : wrap64 ((t.length : Int) + 1) = ((t.length + 1 : Nat) : Int) := by rw [w64 (by omega)]; omega
 have hr' : wrap64 (64 - (r : Int)) = ((64 - r : Nat) : Int) := by rw [w64 (by omega)]; omega
 have g0 := jDU t x s 0
 have hlen : (t ++ x :: s).length = t.length + 1 + s.length := by simp; omega
 have c0 : (0 : Int) ≤ (t.length : Int) := by omega
 have c1 : (t.length : Int) < (L : Int) := by omega
 have c2 : (t.length : Int) < ((t ++ x :: s).length : Int) := by omega
 have c3 : (0 : Int) ≤ (r : Int) := by omega
 have e1 : (t ++ [x / 2 ^ r + 2 ^ (64 - r) * (s.getD 0 0 % 2 ^ r)]).length = t.length + 1 := by simp
 rw [List.append_assoc, List.singleton_append, e1]
 have g0' : (t ++ x :: s).getD t.length 0 = x := g0
 have g1 : (t ++ (x / 2 ^ r) :: s).getD t.length 0 = x / 2 ^ r := jDU t _ s 0
 have g2 : (t ++ (x / 2 ^ r) :: s).getD (t.length + 1) 0 = s.getD 0 0 := jDU t _ s 1
 simp only [jH.l0, hw, hr', qj, Int.toNat_natCast, zo, g0', jCU (show r ≤ 64 from by omega), set_mid, g1, g2]
 rw [jCU (show r ≤ 64 from by omega)] at hor
 rw [hor, if_pos c1, if_pos c0, if_pos c2, if_pos c3]
 by_cases hs : s = []
 ·
  subst hs
  have c4 : ¬ ((t.length + 1 : Nat) : Int) < ((t ++ [x]).length : Int) := by simp
  rw [if_neg c4]
  simp
 ·
  have hsl := List.length_pos_iff.2 hs
  have c4 : ((t.length + 1 : Nat) : Int) < ((t ++ x :: s).length : Int) := by omega
  rw [if_pos c4]
  by_cases hr0 : r = 0
  ·
   subst hr0
   rw [if_neg (by omega)]
   simp [Int.emod_one]
  ·
   have c5 : (r : Int) > 0 := by omega
   have c6 : (0 : Int) ≤ ((t.length + 1 : Nat) : Int) := by omega
   have c7 : (0 : Int) ≤ ((64 - r : Nat) : Int) := by omega
   rw [if_pos c5, if_pos c6, if_pos c7]
theorem jHg (r : Nat) (hr : r ≤ 63) (L : Nat) : ∀ (s t : List Int), Ok t → Ok s → t.length + s.length ≤ 4294967296 → L = t.length + s.length → Ev (fun k => jH.l0 k (t ++ s) (r : Int) L t.length) (dg (val t + B ^ t.length * (val s / 2 ^ r))) := by
 intro s
 induction s with
 | nil =>
  intro t ht _ hl hL
  have c1 : ¬ (t.length : Int) < (L : Int) := by simp at hL; omega
  refine Ev.step (f := fun k => (jQ.f k t).bind fun t => some t) (fun k => by simp only [jH.l0, List.append_nil]; rw [if_neg c1]) ?_
  rw [jAF, Int.zero_ediv, Int.mul_zero, Int.add_zero]
  exact Ev.bind (jAb ht (by simp at hl; omega)) (Ev.now _)
 | cons x s ih =>
  intro t ht hs hl hL
  have hl1 : t.length + (s.length + 1) ≤ 4294967296 := hl
  have hL1 : L = t.length + (s.length + 1) := hL
  refine Ev.step (jIy hr hs (by omega) L (by omega)) ?_
  obtain ⟨hv, _⟩ := jDn hr hs.head (hs.tail.at 0)
  have e1 : (t ++ [x / 2 ^ r + 2 ^ (64 - r) * (s.getD 0 0 % 2 ^ r)]).length = t.length + 1 := by simp
  have := ih (t ++ [x / 2 ^ r + 2 ^ (64 - r) * (s.getD 0 0 % 2 ^ r)]) (ht.append (Ok.one hv.1 hv.2)) hs.tail (by rw [e1]; omega) (by rw [e1]; omega)
  refine Ev.eq this ?_
  have e2 : val s = s.getD 0 0 + B * val (s.drop 1) := by
   cases s with
   | nil => simp [val]
   | cons y s => rfl
  have e3 : val (x :: s) / 2 ^ r = (x / 2 ^ r + 2 ^ (64 - r) * (s.getD 0 0 % 2 ^ r)) + B * (val s / 2 ^ r) := by
   rw [qx, e2]
   exact jES (by omega)
  rw [e3, e1, jBk, qG]
  generalize x / 2 ^ r + 2 ^ (64 - r) * (s.getD 0 0 % 2 ^ r) = u
  rw [Int.mul_add (B ^ t.length), Int.mul_assoc, Int.add_assoc]
theorem jDj {v : Int} (hv : 0 ≤ v) {m : Nat} (h : (dg v).length ≤ m / 64) : v / 2 ^ m = 0 := by
 have h1 := jGc h
 rw [jDd] at h1
 have h2 : (2 : Int) ^ (64 * (m / 64)) ≤ 2 ^ m := jEq (by omega)
 exact Int.ediv_eq_zero_of_lt hv (by omega)
theorem jHh {v : Int} (hv : 0 ≤ v) {m : Nat} (hl : (dg v).length ≤ 4294967296) (h : m / 64 < (dg v).length) : Ev (fun k => jH.j0 k (dg v) m false) (dg (v / 2 ^ m)) := by
 have hq : wrap64 (Int.tdiv (m : Int) 64) = ((m / 64 : Nat) : Int) := by rw [Int.tdiv_eq_ediv_of_nonneg (by omega), w64 (by omega)]; omega
 have hr : Int.tmod (m : Int) 64 = ((m % 64 : Nat) : Int) := by rw [Int.tmod_eq_emod_of_nonneg (by omega)]; omega
 have c1 : (0 : Int) ≤ ((m / 64 : Nat) : Int) := by omega
 have c2 : ((m / 64 : Nat) : Int) ≤ ((dg v).length : Int) := by omega
 have c3 : ¬ (false = true) := by decide
 have hdl : ((dg v).drop (m / 64)).length ≤ (dg v).length := by rw [List.length_drop]; omega
 refine Ev.step (f := fun k => jH.l0 k ([] ++ (dg v).drop (m / 64)) ((m % 64 : Nat) : Int) (((dg v).drop (m / 64)).length : Int) (([] : List Int).length : Int)) (fun k => ?_) ?_
 ·
  simp only [jH.j0, hq, hr, Int.toNat_natCast]
  rw [if_neg c3, if_pos c1, if_pos c2, jCN (by omega)]
  rfl
 ·
  have := jHg (m % 64) (by omega) ((dg v).drop (m / 64)).length ((dg v).drop (m / 64)) [] Ok.nil ((jAo v).drop _) (by simp; omega) (by simp)
  refine Ev.eq this ?_
  have e := zH (dg v) (m / 64) (by omega)
  rw [jAC hv] at e
  have ht := jAB ((jAo v).take (m / 64))
  have htn := vC ((jAo v).take (m / 64))
  rw [List.length_take, Nat.min_eq_left (by omega)] at ht
  have hB := qN (m / 64)
  have e2 : v / B ^ (m / 64) = val ((dg v).drop (m / 64)) := by
   rw [e, Int.add_mul_ediv_left _ _ (by omega), Int.ediv_eq_zero_of_lt htn ht, Int.zero_add, ← e]
  rw [jAF, List.length_nil, Int.pow_zero, Int.one_mul, Int.zero_add, ← e2, Int.ediv_ediv_of_nonneg (by omega), jDd, ← Int.pow_add, show 64 * (m / 64) + m % 64 = m from by omega]
theorem jGE {a : List Int} (ha : Ok a) (hal : a.length ≤ 1000) {n : Int} (hn : n < 0) : Ev (fun k => jH.f k a n) (dg (val a / 2 ^ (-n).toNat)) := by
 unfold jH.f
 have hdl := qU ha
 have hv := vC ha
 refine Ev.bind (jAb ha (by omega)) (Ev.pos (by omega) ?_)
 by_cases hm : n < -100000
 ·
  have e : wrap64 (-(mx n (-100001))) = 100001 := by
   have : mx n (-100001) = -100001 := by unfold mx; split <;> omega
   rw [this, w64 (by omega)]; omega
  rw [e]
  refine Ev.pos (by decide) ?_
  refine Ev.step (fun k => by simp only [jH.j0]; rw [if_pos trivial]) (Ev.eq (Ev.now _) ?_)
  rw [jDj hv (by omega), jAs]
 ·
  have e : wrap64 (-(mx n (-100001))) = (((-n).toNat : Nat) : Int) := by
   have : mx n (-100001) = n := by unfold mx; split <;> omega
   rw [this, w64 (by omega)]; omega
  rw [e]
  have hM : (-n).toNat ≤ 100000 := by omega
  generalize (-n).toNat = M at *
  refine Ev.neg (by omega) ?_
  have hq : wrap64 (Int.tdiv (M : Int) 64) = ((M / 64 : Nat) : Int) := by rw [Int.tdiv_eq_ediv_of_nonneg (by omega), w64 (by omega)]; omega
  rw [hq]
  by_cases h : M / 64 < (dg (val a)).length
  ·
   have c : decide (((M / 64 : Nat) : Int) ≥ ((dg (val a)).length : Int)) = false := by simp; omega
   rw [c]
   exact jHh hv (by omega) h
  ·
   have c : decide (((M / 64 : Nat) : Int) ≥ ((dg (val a)).length : Int)) = true := by simp; omega
   rw [c]
   refine Ev.step (fun k => by simp only [jH.j0]; rw [if_pos trivial]) (Ev.eq (Ev.now _) ?_)
   rw [jDj hv (by omega), jAs]
end Go.Proofs.Ytijgeonhbmgikaa.EOOctetGets
end
section
set_option linter.unusedVariables false
set_option linter.unusedSimpArgs false
namespace Go.Proofs.YtijgeonhbmgikaaN
def H : Int := 4294967296
theorem H_eq : H = 4294967296 := rfl
theorem jBJ : 0 < H := by unfold H; decide
theorem HH : H * H = B := by decide
def OkH (l : List Int) : Prop := ∀ x ∈ l, 0 ≤ x ∧ x < H
def hval : List Int → Int
 | [] => 0
 | x :: xs => x + H * hval xs
def halves : List Int → List Int
 | [] => []
 | x :: xs => x % H :: x / H :: halves xs
theorem OkH.nil : OkH [] := fun _ h => absurd h List.not_mem_nil
theorem OkH.cons {x : Int} {l : List Int} (h0 : 0 ≤ x) (h1 : x < H) (h : OkH l) : OkH (x :: l) := by
 intro y hy
 rcases List.mem_cons.1 hy with rfl | hy
 ·
  exact ⟨h0, h1⟩
 ·
  exact h y hy
theorem OkH.head {x : Int} {l : List Int} (h : OkH (x :: l)) : 0 ≤ x ∧ x < H := h x (List.mem_cons_self ..)
theorem OkH.tail {x : Int} {l : List Int} (h : OkH (x :: l)) : OkH l := fun y hy => h y (List.mem_cons_of_mem _ hy)
theorem OkH.append {a b : List Int} (ha : OkH a) (hb : OkH b) : OkH (a ++ b) := fun x hx => (List.mem_append.1 hx).elim (ha x) (hb x)
theorem OkH.take {a : List Int} (ha : OkH a) (n : Nat) : OkH (a.take n) := fun x hx => ha x (List.mem_of_mem_take hx)
theorem OkH.drop {a : List Int} (ha : OkH a) (n : Nat) : OkH (a.drop n) := fun x hx => ha x (List.mem_of_mem_drop hx)
theorem OkH.set {a : List Int} (ha : OkH a) (n : Nat) {x : Int} (h0 : 0 ≤ x) (h1 : x < H) : OkH (a.set n x) := fun y hy => by
 rcases List.mem_or_eq_of_mem_set hy with hy | rfl
 ·
  exact ha y hy
 ·
  exact ⟨h0, h1⟩
theorem OkH.one {x : Int} (h0 : 0 ≤ x) (h1 : x < H) : OkH [x] := OkH.cons h0 h1 OkH.nil
theorem OkH.rep (n : Nat) : OkH (List.replicate n 0) := fun x hx => by
 rw [List.eq_of_mem_replicate hx]
 exact ⟨Int.le_refl _, jBJ⟩
theorem OkH.at {a : List Int} (ha : OkH a) (i : Nat) : 0 ≤ a.getD i 0 ∧ a.getD i 0 < H := by
 rw [List.getD_eq_getElem?_getD]
 by_cases h : i < a.length
 ·
  rw [List.getElem?_eq_getElem h]
  exact ha _ (List.getElem_mem h)
 ·
  rw [List.getElem?_eq_none (by omega)]
  exact ⟨Int.le_refl _, jBJ⟩
theorem jDc (n : Nat) : 0 < H ^ n := Int.pow_pos jBJ
theorem jAa (n : Nat) : H ^ (n + 1) = H ^ n * H := Int.pow_succ ..
theorem jAE : hval [] = 0 := rfl
theorem qm (x : Int) (l : List Int) : hval (x :: l) = x + H * hval l := rfl
theorem jIE (x : Int) : hval [x] = x := by simp [hval]
theorem jCe (a b : List Int) : hval (a ++ b) = hval a + H ^ a.length * hval b := by
 induction a with
 | nil => simp [hval]
 | cons x a ih => rw [List.cons_append, qm, qm, ih, List.length_cons, jAa, Int.mul_add, Int.mul_comm (H ^ a.length) H, Int.mul_assoc, Int.add_assoc]
theorem jCd (a : List Int) (x : Int) : hval (a ++ [x]) = hval a + H ^ a.length * x := by rw [jCe, jIE]
theorem jDS (n : Nat) : hval (List.replicate n 0) = 0 := by
 induction n with
 | zero => rfl
 | succ n ih => rw [List.replicate_succ, qm, ih]; omega
theorem jBF {l : List Int} (h : OkH l) : 0 ≤ hval l := by
 induction l with
 | nil => exact Int.le_refl _
 | cons x l ih =>
  have h1 := h.head
  have h2 := Int.mul_nonneg (Int.le_of_lt jBJ) (ih h.tail)
  rw [qm]
  omega
theorem jGe {l : List Int} (h : OkH l) : hval l < H ^ l.length := by
 induction l with
 | nil => simp [hval]
 | cons x l ih =>
  have h1 := h.head
  have h2 := ih h.tail
  have h3 : H * (hval l + 1) ≤ H * H ^ l.length := Int.mul_le_mul_of_nonneg_left (by omega) (Int.le_of_lt jBJ)
  rw [qm, List.length_cons, jAa, Int.mul_comm (H ^ l.length) H]
  rw [Int.mul_add] at h3
  omega
theorem jFC {l : List Int} {i : Nat} (h : i < l.length) (x : Int) : hval (l.set i x) = hval l + H ^ i * (x - l.getD i 0) := by
 induction l generalizing i with
 | nil => simp at h
 | cons y l ih =>
  cases i with
  | zero => simp [hval]; omega
  | succ i =>
   have h' : i < l.length := by simpa using h
   have e : (y :: l).getD (i + 1) 0 = l.getD i 0 := rfl
   rw [List.set_cons_succ, qm, qm, ih h', e, jAa, Int.mul_add, Int.mul_comm (H ^ i) H, Int.mul_assoc, Int.add_assoc]
theorem jBa (l : List Int) (i : Nat) (h : i ≤ l.length) : hval l = hval (l.take i) + H ^ i * hval (l.drop i) := by
 have e := jCe (l.take i) (l.drop i)
 rw [List.take_append_drop, List.length_take, Nat.min_eq_left h] at e
 exact e
theorem jDu {l : List Int} {i : Nat} (h : i < l.length) : hval (l.drop i) = l.getD i 0 + H * hval (l.drop (i + 1)) := by
 rw [List.drop_eq_getElem_cons h, qm, List.getD_eq_getElem?_getD, List.getElem?_eq_getElem h]
 rfl
theorem jAR (l : List Int) (i : Nat) : hval (l.drop i) = l.getD i 0 + H * hval (l.drop (i + 1)) := by
 by_cases h : i < l.length
 ·
  exact jDu h
 ·
  rw [List.drop_eq_nil_of_le (by omega), List.drop_eq_nil_of_le (by omega), List.getD_eq_getElem?_getD, List.getElem?_eq_none (by omega), jAE]; simp
theorem jFb (b : List Int) (d i : Nat) : hval ((b.drop i).take (d + 1)) = b.getD i 0 + H * hval ((b.drop (i + 1)).take d) := by
 by_cases h : i < b.length
 ·
  rw [List.drop_eq_getElem_cons h, List.take_succ_cons, qm, List.getD_eq_getElem?_getD, List.getElem?_eq_getElem h]; rfl
 ·
  rw [List.drop_eq_nil_of_le (by omega), List.drop_eq_nil_of_le (by omega), List.getD_eq_getElem?_getD, List.getElem?_eq_none (by omega)]
  simp [hval]
theorem jAh (l : List Int) : (halves l).length = 2 * l.length := by
 induction l with
 | nil => rfl
 | cons x l ih => rw [halves, List.length_cons, List.length_cons, ih, List.length_cons]; omega
theorem jAS (l : List Int) : hval (halves l) = val l := by
 induction l with
 | nil => rfl
 | cons x l ih =>
  rw [halves, qm, qm, ih, qx, Int.mul_add, ← Int.mul_assoc, HH]
  have := Int.emod_add_mul_ediv x H
  omega
theorem jAm {l : List Int} (h : Ok l) : OkH (halves l) := by
 induction l with
 | nil => exact OkH.nil
 | cons x l ih =>
  have hx := h.head
  have e1 : 0 ≤ x % H ∧ x % H < H := ⟨Int.emod_nonneg _ (Int.ne_of_gt jBJ), Int.emod_lt_of_pos _ jBJ⟩
  have e2 : 0 ≤ x / H ∧ x / H < H := by rw [B_eq] at hx; rw [H_eq]; omega
  exact OkH.cons e1.1 e1.2 (OkH.cons e2.1 e2.2 (ih h.tail))
end Go.Proofs.YtijgeonhbmgikaaN
end
section
set_option linter.unusedVariables false
set_option linter.unusedSimpArgs false
namespace Go.Proofs.YtijgeonhbmgikaaN
theorem jKg {a b n u q rh Q : Int} (hY : 0 < a * H + b) (hq : q * a + rh = n) (h2 : q * b ≤ H * rh + u) (hQ2 : n * H + u < (Q + 1) * (a * H + b)) : q ≤ Q := by
 have e : q * (a * H + b) ≤ n * H + u := by
  rw [Int.mul_add, ← Int.mul_assoc, ← hq, Int.add_mul, Int.mul_comm rh H]
  omega
 rcases Int.lt_or_le Q q with h | h
 ·
  have := Int.mul_le_mul_of_nonneg_right (show Q + 1 ≤ q from h) (Int.le_of_lt hY)
  omega
 ·
  exact h
theorem jJW {a b n u q rh Q : Int} (hq : q * a + rh = n) (hQ : Q ≤ q) (hQH : Q < H) (hQ1 : Q * (a * H + b) ≤ n * H + u) (hc : H ≤ q ∨ H * rh + u < q * b) : Q ≤ q - 1 := by
 rcases hc with hc | hc
 ·
  omega
 ·
  rcases Int.lt_or_le Q q with h | h
  ·
   omega
  ·
   exfalso
   have e : Q = q := by omega
   subst e
   rw [Int.mul_add, ← Int.mul_assoc, ← hq, Int.add_mul, Int.mul_comm rh H] at hQ1
   omega
theorem jIL {a b n u q rh Q : Int} (ha : 0 < a) (hb : 0 ≤ b ∧ b < H) (hu : 0 ≤ u) (hn : n < a * H + b) (hq : q * a + rh = n) (hQ : Q ≤ q) (hQ0 : 0 ≤ Q) (hr : H ≤ rh) (hQ2 : n * H + u < (Q + 1) * (a * H + b)) : q = Q := by
 have hH := jBJ
 have h0 : 0 < a * H := Int.mul_pos ha hH
 have hqH : q < H := by
  rcases Int.lt_or_le q H with h | h
  ·
   exact h
  ·
   have h1 := Int.mul_le_mul_of_nonneg_right h (Int.le_of_lt ha)
   rw [Int.mul_comm H a] at h1
   omega
 have h2 : q * b ≤ H * b := Int.mul_le_mul_of_nonneg_right (by omega) hb.1
 have h3 : H * b ≤ H * rh := Int.mul_le_mul_of_nonneg_left (by omega) (by omega)
 have := jKg (by omega) hq (by omega) hQ2
 omega
theorem jJV {a b n u q rh Q : Int} (hY : 0 < a * H + b) (hq : q * a + rh = n) (hQ : Q ≤ q) (h2 : q * b ≤ H * rh + u) (hQ2 : n * H + u < (Q + 1) * (a * H + b)) : q = Q := by
 have := jKg hY hq h2 hQ2
 omega
theorem jIK {a b n u Q : Int} (ha : 0 < a) (hb : 0 ≤ b) (hu : u < H) (hQ0 : 0 ≤ Q) (hQ1 : Q * (a * H + b) ≤ n * H + u) : Q ≤ n / a := by
 have hH := jBJ
 refine Int.le_ediv_of_mul_le ha ?_
 have h1 : 0 ≤ Q * b := Int.mul_nonneg hQ0 hb
 rw [Int.mul_add, ← Int.mul_assoc] at hQ1
 rcases Int.lt_or_le n (Q * a) with h | h
 ·
  exfalso
  have := Int.mul_le_mul_of_nonneg_right (show n + 1 ≤ Q * a from h) (Int.le_of_lt hH)
  rw [Int.add_mul, Int.one_mul] at this
  omega
 ·
  exact h
theorem jLW {Y n u : Int} (hn : 0 ≤ n ∧ n < Y) (hu : 0 ≤ u ∧ u < H) : ∃ Q, 0 ≤ Q ∧ Q < H ∧ Q * Y ≤ n * H + u ∧ n * H + u < (Q + 1) * Y := by
 have hH := jBJ
 have hY : 0 < Y := by omega
 have h0 : 0 ≤ n * H := Int.mul_nonneg hn.1 (by omega)
 refine ⟨(n * H + u) / Y, Int.ediv_nonneg (by omega) (by omega), Int.ediv_lt_of_lt_mul hY ?_, Int.ediv_mul_le _ (by omega), ?_⟩
 ·
  have h3 : (n + 1) * H ≤ Y * H := Int.mul_le_mul_of_nonneg_right (by omega) (by omega)
  rw [Int.add_mul, Int.one_mul] at h3
  rw [Int.mul_comm H]
  omega
 ·
  have := Int.lt_ediv_add_one_mul_self (n * H + u) hY
  exact this
theorem jKf {n u1 u0 Y Q1 Q0 r1 r0 : Int} (h1 : n * H + u1 = Q1 * Y + r1) (h0 : r1 * H + u0 = Q0 * Y + r0) : n * B + (u1 * H + u0) = (Q1 * H + Q0) * Y + r0 := by
 have e : n * B + (u1 * H + u0) = (n * H + u1) * H + u0 := by
  rw [Int.add_mul, Int.mul_assoc, HH, Int.add_assoc]
 rw [e, h1, Int.add_mul, Int.add_assoc, h0, Int.add_mul, Int.mul_assoc, Int.mul_comm Y H, ← Int.mul_assoc, Int.add_assoc]
theorem jFI {N y p Q r : Int} (hp : 0 < p) (hy : 0 < y) (h : N * p = Q * (y * p) + r) (hr : 0 ≤ r ∧ r < y * p) : Q = N / y ∧ r / p = N % y := by
 have e : r = (N - Q * y) * p := by rw [Int.sub_mul, Int.mul_assoc]; omega
 have h1 : 0 ≤ N - Q * y := by
  rcases Int.lt_or_le (N - Q * y) 0 with h2 | h2
  ·
   have := Int.mul_neg_of_neg_of_pos h2 hp
   omega
  ·
   exact h2
 have h2 : N - Q * y < y := by
  rw [e] at hr
  exact Int.lt_of_mul_lt_mul_right hr.2 (Int.le_of_lt hp)
 have e1 : N / y = Q := by
  rw [show N = (N - Q * y) + Q * y from by omega, Int.add_mul_ediv_right _ _ (by omega), Int.ediv_eq_zero_of_lt h1 h2]
  omega
 refine ⟨e1.symm, ?_⟩
 rw [e, Int.mul_ediv_cancel _ (by omega), Int.emod_def, e1, Int.mul_comm y]
end Go.Proofs.YtijgeonhbmgikaaN
end
section
set_option linter.unusedVariables false
set_option linter.unusedSimpArgs false
namespace Go.Proofs.Ytijgeonhbmgikaa.EOOctetGets
open Go.RowKit Go.Proofs.Ytijgeonhbmgikaa.POOctetGets Go.Proofs.YtijgeonhbmgikaaN Go.Proofs.YtijgeonhbmgikaaW.PrintWords Go.Proofs.YtijgeonhbmgikaaW.PrintLast Go.Proofs.YtijgeonhbmgikaaW.PrintMore
theorem wr3 (p u r : Int) : IntKind.u64.wrap (IntKind.u64.wrap (IntKind.u64.wrap p + u) - IntKind.u64.wrap r) = IntKind.u64.wrap (p + u - r) := by
 simp only [IntKind.wrap_u64]
 omega
theorem jAx {x : Int} (h0 : 0 ≤ x) (h1 : x < B) : IntKind.u64.wrap x = x := by
 rw [IntKind.wrap_u64]
 rw [B_eq] at h1
 omega
theorem jDv {x y : Int} (hx : 0 ≤ x ∧ x < H) (hy : 0 ≤ y ∧ y < H) : 0 ≤ x * y ∧ x * y ≤ B - 2 * H + 1 := by
 have h1 : x * y ≤ (H - 1) * y := Int.mul_le_mul_of_nonneg_right (by omega) hy.1
 have h2 : (H - 1) * y ≤ (H - 1) * (H - 1) := Int.mul_le_mul_of_nonneg_left (by omega) (by have := jBJ; omega)
 have h3 : (H - 1) * (H - 1) = B - 2 * H + 1 := by decide
 exact ⟨Int.mul_nonneg hx.1 hy.1, by omega⟩
theorem H2B : 2 * H < B := by decide
theorem jEU {n u Q Y : Int} (h1 : Q * Y ≤ n * H + u) (h2 : n * H + u < (Q + 1) * Y) (hY : Y < B) : IntKind.u64.wrap (IntKind.u64.wrap (IntKind.u64.wrap (n * 4294967296) + u) - IntKind.u64.wrap (Q * Y)) = n * H + u - Q * Y := by
 rw [wr3, show (4294967296 : Int) = H from rfl]
 rw [Int.add_mul, Int.one_mul] at h2
 exact jAx (by omega) (by omega)
structure jBK (Y a b n u q rh Q : Int) : Prop where
 Y_ : Y = a * H + b
 a_ : 0 < a
 b_ : 0 ≤ b ∧ b < H
 YB : Y < B
 n_ : 0 ≤ n ∧ n < Y
 u_ : 0 ≤ u ∧ u < H
 Q0 : 0 ≤ Q ∧ Q < H
 Q1 : Q * Y ≤ n * H + u
 Q2 : n * H + u < (Q + 1) * Y
 q_ : q * a + rh = n
 qQ : Q ≤ q
 qB : q < B
 rh_ : 0 ≤ rh ∧ rh < H
theorem jBK.aH {Y a b n u q rh Q : Int} (g : jBK Y a b n u q rh Q) : a < H := by
 rcases Int.lt_or_le a H with h | h
 ·
  exact h
 ·
  have h1 := Int.mul_le_mul_of_nonneg_right h (Int.le_of_lt jBJ)
  rw [HH] at h1
  have h2 := g.Y_
  have h3 := g.YB
  have h4 := g.b_
  omega
theorem jBK.test {Y a b n u q rh Q : Int} (g : jBK Y a b n u q rh Q) (hq : q < H) : decide (IntKind.u64.wrap (q * b) > IntKind.u64.wrap (IntKind.u64.wrap (4294967296 * rh) + u)) = decide (H * rh + u < q * b) := by
 have h1 := jDv (x := q) (y := b) ⟨by have := g.Q0; have := g.qQ; omega, hq⟩ g.b_
 have h2 := jDv (x := H - 1) (y := rh) (by decide) g.rh_
 have h3 := H2B
 have e : (H - 1) * rh = H * rh - rh := by rw [Int.sub_mul, Int.one_mul]
 have h4 := g.rh_
 have h5 := g.u_
 have h6 := jBJ
 have e2 : IntKind.u64.wrap (4294967296 * rh) = H * rh := by
  rw [show (4294967296 : Int) = H from rfl]
  exact jAx (by omega) (by omega)
 have e3 : IntKind.u64.wrap (H * rh + u) = H * rh + u := jAx (by omega) (by omega)
 have e4 : IntKind.u64.wrap (q * b) = q * b := jAx h1.1 (by omega)
 rw [e2, e3, e4]
theorem jBK.dec {Y a b n u q rh Q : Int} (g : jBK Y a b n u q rh Q) (hc : H ≤ q ∨ H * rh + u < q * b) : Q ≤ q - 1 ∧ IntKind.u64.wrap (q - 1) = q - 1 ∧ IntKind.u64.wrap (rh + a) = rh + a ∧ (q - 1) * a + (rh + a) = n := by
 have h1 : Q ≤ q - 1 := jJW (a := a) (b := b) (n := n) (u := u) (rh := rh) g.q_ g.qQ g.Q0.2 (by have := g.Q1; rwa [g.Y_] at this) hc
 have h2 := g.Q0
 have h3 := g.qB
 have h4 := g.rh_
 have h5 := g.aH
 have h6 := g.a_
 have h7 := H2B
 refine ⟨h1, jAx (by omega) (by omega), jAx (by omega) (by omega), ?_⟩
 have := g.q_
 rw [Int.sub_mul, Int.one_mul]
 omega
theorem jBK.brk {Y a b n u q rh Q : Int} (g : jBK Y a b n u q rh Q) (hc : H ≤ q ∨ H * rh + u < q * b) (hr : H ≤ rh + a) : q - 1 = Q := by
 obtain ⟨h1, _, _, h4⟩ := g.dec hc
 refine jIL (a := a) (b := b) (n := n) (u := u) g.a_ g.b_ g.u_.1 ?_ h4 h1 g.Q0.1 hr ?_
 ·
  have := g.n_.2; rwa [g.Y_] at this
 ·
  have := g.Q2; rwa [g.Y_] at this
theorem jBK.next {Y a b n u q rh Q : Int} (g : jBK Y a b n u q rh Q) (hc : H ≤ q ∨ H * rh + u < q * b) (hr : ¬ H ≤ rh + a) : jBK Y a b n u (q - 1) (rh + a) Q := by
 obtain ⟨h1, _, _, h4⟩ := g.dec hc
 exact ⟨g.Y_, g.a_, g.b_, g.YB, g.n_, g.u_, g.Q0, g.Q1, g.Q2, h4, h1, by have := g.qB; omega, by have := g.rh_; have := g.a_; omega⟩
theorem jBK.stop {Y a b n u q rh Q : Int} (g : jBK Y a b n u q rh Q) (hc : ¬ H * rh + u < q * b) : q = Q := by
 refine jJV (a := a) (b := b) (n := n) (u := u) (rh := rh) ?_ g.q_ g.qQ (by omega) ?_
 ·
  have := g.n_; rw [g.Y_] at this; omega
 ·
  have := g.Q2; rwa [g.Y_] at this
theorem jBK.make {Y a b n u : Int} (hY : Y = a * H + b) (ha : 0 < a) (hb : 0 ≤ b ∧ b < H) (hYB : Y < B) (hn : 0 ≤ n ∧ n < Y) (hu : 0 ≤ u ∧ u < H) (haH : a < H) : ∃ Q, jBK Y a b n u (n / a) (n % a) Q := by
 obtain ⟨Q, h0, h1, h2, h3⟩ := jLW hn hu
 have h4 := Int.emod_nonneg n (Int.ne_of_gt ha)
 have h5 := Int.emod_lt_of_pos n ha
 refine ⟨Q, hY, ha, hb, hYB, hn, hu, ⟨h0, h1⟩, h2, h3, ?_, ?_, ?_, ⟨h4, by omega⟩⟩
 ·
  rw [Int.mul_comm]; exact Int.mul_ediv_add_emod n a
 ·
  exact jIK ha hb.1 hu.2 h0 (by rwa [hY] at h2)
 ·
  have := Int.ediv_le_self a hn.1; omega
theorem jDT {n a : Int} (hn : 0 ≤ n ∧ n < B) (ha : 0 < a) : IntKind.u64.wrap (Int.tdiv n a) = n / a ∧ IntKind.u64.wrap (n - IntKind.u64.wrap (IntKind.u64.wrap (Int.tdiv n a) * a)) = n % a := by
 have h0 : 0 ≤ n / a := Int.ediv_nonneg hn.1 (Int.le_of_lt ha)
 have h1 := Int.ediv_le_self a hn.1
 have e1 : IntKind.u64.wrap (Int.tdiv n a) = n / a := by
  rw [Int.tdiv_eq_ediv_of_nonneg hn.1]
  exact jAx h0 (by omega)
 have h2 := Int.emod_nonneg n (Int.ne_of_gt ha)
 have h3 : n / a * a = n - n % a := by have := Int.mul_ediv_add_emod n a; rw [Int.mul_comm] at this; omega
 have h4 := Int.mul_nonneg h0 (Int.le_of_lt ha)
 refine ⟨e1, ?_⟩
 rw [e1, jAx h4 (by omega), h3, jAx (by omega) (by omega)]
 omega
theorem jKh {Y a b n u Q : Int} {s : Nat} (hs : s ≤ 63) {q1 : Int} (h1 : 0 ≤ q1 ∧ q1 < H) : ∀ (d : Nat) (q rh : Int), (q - Q).toNat = d → jBK Y a b n u q rh Q → Ev (fun k => jM.l1 k Y (s : Int) a b u q1 rh n q) (q1 * H + Q, (n * H + u - Q * Y) / 2 ^ s) := by
 have hsum : ∀ {Q : Int}, 0 ≤ Q ∧ Q < H → IntKind.u64.wrap (IntKind.u64.wrap (q1 * 4294967296) + Q) = q1 * H + Q := by
  intro Q hQ
  have h2 : q1 * H ≤ (H - 1) * H := Int.mul_le_mul_of_nonneg_right (by omega) (Int.le_of_lt jBJ)
  have h3 : (H - 1) * H = B - H := by decide
  have h4 := Int.mul_nonneg h1.1 (Int.le_of_lt jBJ)
  have h5 := jBJ
  rw [show (4294967296 : Int) = H from rfl, jAx h4 (by omega), jAx (by omega) (by omega)]
 intro d
 induction d with
 | zero =>
  intro q rh hd g
  obtain rfl : q = Q := by have := g.qQ; omega
  have hqH : ¬ q ≥ 4294967296 := by have := g.Q0.2; rw [H_eq] at this; omega
  have hno : ¬ H * rh + u < q * b := fun hc => by have := (g.dec (.inr hc)).1; omega
  refine Ev.step (f := fun k => jM.j4 k Y (s : Int) a b u q1 rh n q false) (fun k => ?_) (Ev.step (fun k => by rw [jM.j4]) (Ev.neg (by simp) (Ev.pos (by omega) (Ev.eq (Ev.now _) ?_))))
  ·
   rw [jM.l1, if_neg hqH, g.test g.Q0.2, decide_eq_false hno]
  ·
   rw [hsum g.Q0, jEU g.Q1 g.Q2 g.YB, jCU (by omega)]
 | succ d ih =>
  intro q rh hd g
  by_cases hc : H ≤ q ∨ H * rh + u < q * b
  ·
   obtain ⟨g1, g2, g3, _⟩ := g.dec hc
   refine Ev.step (f := fun k => jM.j4 k Y (s : Int) a b u q1 rh n q true) (fun k => ?_) (Ev.step (fun k => by rw [jM.j4]) (Ev.pos rfl ?_))
   ·
    rw [jM.l1]
    by_cases hq : q < H
    ·
     have hqH : ¬ q ≥ 4294967296 := by rw [H_eq] at hq; omega
     rw [if_neg hqH, g.test hq, decide_eq_true (by omega)]
    ·
     have hqH : q ≥ 4294967296 := by rw [H_eq] at hq; omega
     rw [if_pos hqH]
   ·
    rw [g2, g3]
    by_cases hr : H ≤ rh + a
    ·
     have hb := g.brk hc hr
     refine Ev.pos (by rw [H_eq] at hr; omega) (Ev.pos (by omega) (Ev.eq (Ev.now _) ?_))
     rw [hb, hsum g.Q0, jEU g.Q1 g.Q2 g.YB, jCU (by omega)]
    ·
     exact Ev.neg (by rw [H_eq] at hr; omega) (ih _ _ (by omega) (g.next hc hr))
  ·
   exfalso
   have := g.stop (fun h => hc (.inr h))
   omega
theorem jKj {Y a b n u1 u0 Q1 : Int} {s : Nat} (hs : s ≤ 63) (hY : Y = a * H + b) (ha : 0 < a) (hb : 0 ≤ b ∧ b < H) (haH : a < H) (hYB : Y < B) (hu0 : 0 ≤ u0 ∧ u0 < H) (hQ0 : 0 ≤ Q1 ∧ Q1 < H) (h1 : Q1 * Y ≤ n * H + u1) (h2 : n * H + u1 < (Q1 + 1) * Y) : ∃ Q0 r0, 0 ≤ r0 ∧ r0 < Y ∧ n * B + (u1 * H + u0) = (Q1 * H + Q0) * Y + r0 ∧ Ev (fun k => jM.j2 k Y (s : Int) a b n u1 u0 Q1) (Q1 * H + Q0, r0 / 2 ^ s) := by
 have hr1 : 0 ≤ n * H + u1 - Q1 * Y ∧ n * H + u1 - Q1 * Y < Y := by rw [Int.add_mul, Int.one_mul] at h2; omega
 obtain ⟨Q0, g⟩ := jBK.make (n := n * H + u1 - Q1 * Y) (u := u0) hY ha hb hYB hr1 hu0 haH
 obtain ⟨e1, e2⟩ := jDT (n := n * H + u1 - Q1 * Y) ⟨hr1.1, by omega⟩ ha
 have g1 := g.Q1
 have g2 := g.Q2
 refine ⟨Q0, (n * H + u1 - Q1 * Y) * H + u0 - Q0 * Y, by omega, by rw [Int.add_mul, Int.one_mul] at g2; omega, ?_, ?_⟩
 ·
  exact jKf (r1 := n * H + u1 - Q1 * Y) (by omega) (by omega)
 ·
  refine Ev.step (fun k => by rw [jM.j2]) (Ev.neg (by omega) ?_)
  rw [jEU h1 h2 hYB, e2, e1]
  exact jKh hs hQ0 _ _ _ rfl g
theorem jKi {Y a b n u1 u0 Q1 : Int} {s : Nat} (hu0 : 0 ≤ u0 ∧ u0 < H) {R : Int × Int} (hR : Ev (fun k => jM.j2 k Y (s : Int) a b n u1 u0 Q1) R) : ∀ (d : Nat) (q rh : Int), (q - Q1).toNat = d → jBK Y a b n u1 q rh Q1 → Ev (fun k => jM.l0 k Y (s : Int) a b n u1 u0 q rh) R := by
 intro d
 induction d with
 | zero =>
  intro q rh hd g
  obtain rfl : q = Q1 := by have := g.qQ; omega
  have hqH : ¬ q ≥ 4294967296 := by have := g.Q0.2; rw [H_eq] at this; omega
  have hno : ¬ H * rh + u1 < q * b := fun hc => by have := (g.dec (.inr hc)).1; omega
  refine Ev.step (f := fun k => jM.j1 k Y (s : Int) a b n u1 u0 q rh false) (fun k => ?_) (Ev.step (fun k => by rw [jM.j1]) (Ev.neg (by simp) hR))
  rw [jM.l0, if_neg hqH, g.test g.Q0.2, decide_eq_false hno]
 | succ d ih =>
  intro q rh hd g
  by_cases hc : H ≤ q ∨ H * rh + u1 < q * b
  ·
   obtain ⟨g1, g2, g3, _⟩ := g.dec hc
   refine Ev.step (f := fun k => jM.j1 k Y (s : Int) a b n u1 u0 q rh true) (fun k => ?_) (Ev.step (fun k => by rw [jM.j1]) (Ev.pos rfl ?_))
   ·
    rw [jM.l0]
    by_cases hq : q < H
    ·
     have hqH : ¬ q ≥ 4294967296 := by rw [H_eq] at hq; omega
     rw [if_neg hqH, g.test hq, decide_eq_true (by omega)]
    ·
     have hqH : q ≥ 4294967296 := by rw [H_eq] at hq; omega
     rw [if_pos hqH]
   ·
    rw [g2, g3]
    by_cases hr : H ≤ rh + a
    ·
     have hb := g.brk hc hr
     exact Ev.pos (by rw [H_eq] at hr; omega) (by rw [hb]; exact hR)
    ·
     exact Ev.neg (by rw [H_eq] at hr; omega) (ih _ _ (by omega) (g.next hc hr))
  ·
   exfalso
   have := g.stop (fun h => hc (.inr h))
   omega
theorem jHB : ∀ (n x : Nat), x < 2 ^ n → n ≤ 64 → (x = 0 ∧ Lib.bitLen x = 0) ∨ ∃ m, Lib.bitLen x = m + 1 ∧ m < n ∧ 2 ^ m ≤ x ∧ x < 2 ^ (m + 1) := by
 intro n
 induction n with
 | zero =>
  intro x h _
  have : x = 0 := by simp at h; omega
  subst this
  exact .inl ⟨rfl, by decide⟩
 | succ n ih =>
  intro x h hn
  by_cases hz : x = 0
  ·
   subst hz
   exact .inl ⟨rfl, by decide⟩
  ·
   have h64 : x < 2 ^ 64 := Nat.lt_of_lt_of_le h (Nat.pow_le_pow_right (by decide) hn)
   rw [Lib.bitLen_half x hz h64]
   refine .inr ?_
   have h2 : x / 2 < 2 ^ n := by rw [Nat.pow_succ] at h; omega
   rcases ih (x / 2) h2 (by omega) with ⟨e, f⟩ | ⟨m, e, hm, h3, h4⟩
   ·
    refine ⟨0, by omega, by omega, by simp; omega, by simp; omega⟩
   ·
    refine ⟨m + 1, by omega, by omega, ?_, ?_⟩
    ·
     rw [Nat.pow_succ]; omega
    ·
     rw [Nat.pow_succ]; omega
theorem jKU {x : Int} (h0 : 0 ≤ x) (h1 : x < B) : Go.bits .and .u64 x 4294967295 = x % 4294967296 := by
 obtain ⟨n, rfl⟩ := Int.eq_ofNat_of_zero_le h0
 rw [bits_Mul64.maskN n (by rw [B_eq] at h1; omega)]
 omega
theorem jGd {y : Int} (h0 : 0 < y) (h1 : y < B) : ∃ s : Nat, s ≤ 63 ∧ bits_LeadingZeros64.f y = some (s : Int) ∧ y < 2 ^ (64 - s) ∧ 2 ^ s * y < B ∧ B ≤ 2 * (2 ^ s * y) := by
 obtain ⟨n, rfl⟩ := Int.eq_ofNat_of_zero_le (Int.le_of_lt h0)
 have hn : n < 2 ^ 64 := by rw [B_eq] at h1; omega
 rcases jHB 64 n hn (Nat.le_refl _) with ⟨e, _⟩ | ⟨m, e, hm, h2, h3⟩
 ·
  omega
 ·
  have e64 : (2 : Nat) ^ (63 - m) * 2 ^ (m + 1) = 18446744073709551616 := by rw [← Nat.pow_add, show 63 - m + (m + 1) = 64 from by omega]
  have h4 : 2 ^ (63 - m) * n < 2 ^ (63 - m) * 2 ^ (m + 1) := Nat.mul_lt_mul_of_pos_left h3 (Nat.pow_pos (by decide))
  have h5 : 2 ^ (63 - m) * 2 ^ m ≤ 2 ^ (63 - m) * n := Nat.mul_le_mul_left _ h2
  have e5 : (2 : Nat) ^ (63 - m) * 2 ^ (m + 1) = 2 * (2 ^ (63 - m) * 2 ^ m) := by rw [Nat.pow_succ, ← Nat.mul_assoc, Nat.mul_comm]
  refine ⟨63 - m, by omega, ?_, ?_, ?_, ?_⟩
  ·
   unfold bits_LeadingZeros64.f bits_Len64.f
   rw [if_pos ⟨Int.le_of_lt h0, h1⟩, Option.bind_some, Int.toNat_natCast, e, w64 (by omega)]
   congr 1
   omega
  ·
   rw [show 64 - (63 - m) = m + 1 from by omega, jCS]
   exact_mod_cast h3
  ·
   rw [jCS, ← Int.natCast_mul, B_eq]; omega
  ·
   rw [jCS, ← Int.natCast_mul, B_eq]; omega
theorem jFK {hi lo y : Int} (h0 : 0 ≤ hi) (hy : hi < y) (hlo : 0 ≤ lo ∧ lo < B) (hyB : y < B) : Ev (fun k => jM.f k hi lo y) ((hi * B + lo) / y, (hi * B + lo) % y) := by
 unfold jM.f
 refine Ev.neg (by omega) (Ev.neg (by omega) ?_)
 by_cases hz : hi = 0
 ·
  subst hz
  refine Ev.pos rfl (Ev.eq (Ev.now _) ?_)
  rw [Int.zero_mul, Int.zero_add, Int.tmod_eq_emod_of_nonneg hlo.1, (jDT hlo hy).1]
 ·
  refine Ev.neg hz ?_
  obtain ⟨s, hs, he, hy1, hy2, hy3⟩ := jGd (by omega) hyB
  have hs64 : s ≤ 64 := by omega
  have hp := two_pos s
  have hp2 := two_pos (64 - s)
  have hsp := jAK hs64
  have e1 : IntKind.u64.wrap (s : Int) = (s : Int) := jAx (by omega) (by rw [B_eq]; omega)
  have e2 : IntKind.u64.wrap (64 - (s : Int)) = ((64 - s : Nat) : Int) := by rw [jAx (by omega) (by rw [B_eq]; omega)]; omega
  have ey : shl .u64 y (s : Int) = 2 ^ s * y := by rw [jDi hs64, Int.emod_eq_of_lt (by omega) hy1]
  have eh : shl .u64 hi (s : Int) = 2 ^ s * hi := by rw [jDi hs64, Int.emod_eq_of_lt h0 (by omega)]
  have el : shl .u64 lo (s : Int) = 2 ^ s * (lo % 2 ^ (64 - s)) := jDi hs64
  have er : shr .u64 lo ((64 - s : Nat) : Int) = lo / 2 ^ (64 - s) := jCU (by omega)
  have hlq : 0 ≤ lo / 2 ^ (64 - s) := Int.ediv_nonneg hlo.1 (by omega)
  have hlq2 : lo / 2 ^ (64 - s) < 2 ^ s := Int.ediv_lt_of_lt_mul hp2 (by rw [hsp]; exact hlo.2)
  have hb := jGD (x := lo) hs64
  have hls := jCz (x := lo) hs64
  have h2B := jBl hs64
  have hhy : 2 ^ s * hi + 2 ^ s ≤ 2 ^ s * y := by
   have := Int.mul_le_mul_of_nonneg_left (show hi + 1 ≤ y from hy) (Int.le_of_lt hp)
   rw [Int.mul_add, Int.mul_one] at this
   exact this
  have h20 : 0 ≤ 2 ^ s * hi := Int.mul_nonneg (Int.le_of_lt hp) h0
  have eo : Go.bits .or .u64 (2 ^ s * hi) (lo / 2 ^ (64 - s)) = 2 ^ s * hi + lo / 2 ^ (64 - s) := or_hi h0 ⟨hlq, hlq2⟩ (by omega) (by omega)
  refine Ev.vY he ?_
  simp only [e1, e2, ey, eh, el, er, eo]
  have hn : 0 ≤ 2 ^ s * hi + lo / 2 ^ (64 - s) ∧ 2 ^ s * hi + lo / 2 ^ (64 - s) < 2 ^ s * y := by omega
  have hN : (hi * B + lo) * 2 ^ s = (2 ^ s * hi + lo / 2 ^ (64 - s)) * B + 2 ^ s * (lo % 2 ^ (64 - s)) := by
   rw [Int.add_mul, Int.add_mul, Int.mul_comm lo, ← hls, Int.mul_comm (hi * B), ← Int.mul_assoc, Int.mul_comm B]
   omega
  have hnB : 2 ^ s * hi + lo / 2 ^ (64 - s) < B := by omega
  have hu := Int.mul_nonneg (Int.le_of_lt hp) (Int.emod_nonneg lo (Int.ne_of_gt hp2))
  have huB : 2 ^ s * (lo % 2 ^ (64 - s)) < B := by omega
  have hsc : ∀ Q r : Int, 0 ≤ r → r < 2 ^ s * y → (2 ^ s * hi + lo / 2 ^ (64 - s)) * B + 2 ^ s * (lo % 2 ^ (64 - s)) = Q * (2 ^ s * y) + r → Q = (hi * B + lo) / y ∧ r / 2 ^ s = (hi * B + lo) % y := by
   intro Q r hr0 hr1 hq
   refine jFI (p := 2 ^ s) hp (by omega) ?_ ⟨hr0, by rw [Int.mul_comm]; exact hr1⟩
   rw [hN, hq, Int.mul_comm y]
  clear hN hls hb e1 e2 ey eh el er eo h2B hsp hlq hlq2 hhy h20
  generalize 2 ^ s * hi + lo / 2 ^ (64 - s) = n at *
  generalize 2 ^ s * (lo % 2 ^ (64 - s)) = u at *
  generalize 2 ^ s * y = Y at *
  have hYa : Y = Y / 4294967296 * H + Y % 4294967296 := by rw [H_eq]; omega
  have hYa0 : 0 < Y / 4294967296 := by rw [B_eq] at hy3; omega
  have hYaH : Y / 4294967296 < H := by rw [H_eq]; rw [B_eq] at hy2; omega
  have hYb : 0 ≤ Y % 4294967296 ∧ Y % 4294967296 < H := by rw [H_eq]; omega
  have hu1 : 0 ≤ u / 4294967296 ∧ u / 4294967296 < H := by rw [H_eq]; rw [B_eq] at huB; omega
  have hu0 : 0 ≤ u % 4294967296 ∧ u % 4294967296 < H := by rw [H_eq]; omega
  have hua : u / 4294967296 * H + u % 4294967296 = u := by rw [H_eq]; omega
  rw [jKU (by omega) hy2, jKU hu huB]
  obtain ⟨Q1, g⟩ := jBK.make (n := n) (u := u / 4294967296) hYa hYa0 hYb hy2 hn hu1 hYaH
  obtain ⟨q1, q2⟩ := jDT (n := n) (a := Y / 4294967296) ⟨hn.1, hnB⟩ hYa0
  obtain ⟨Q0, r0, hr0, hr1, hq, hR⟩ := jKj (n := n) (u1 := u / 4294967296) (u0 := u % 4294967296) (s := s) hs hYa hYa0 hYb hYaH hy2 hu0 g.Q0 g.Q1 g.Q2
  rw [hua] at hq
  obtain ⟨f1, f2⟩ := hsc _ _ hr0 hr1 hq
  rw [q2, q1]
  refine Ev.pos (by omega) (Ev.pos (by omega) (Ev.neg (by omega) ?_))
  rw [← f1, ← f2]
  exact jKi hu0 hR _ _ _ rfl g
theorem jFJ {hi lo y : Int} (h0 : 0 ≤ hi) (hy : hi < y) (hlo : 0 ≤ lo ∧ lo < B) : (hi * B + lo) / y < B := by
 refine Int.ediv_lt_of_lt_mul (by omega) ?_
 have := Int.mul_le_mul_of_nonneg_right (show hi + 1 ≤ y from hy) (Int.le_of_lt jBO)
 rw [Int.add_mul, Int.one_mul] at this
 rw [Int.mul_comm B]
 omega
end Go.Proofs.Ytijgeonhbmgikaa.EOOctetGets
end
section
set_option linter.unusedVariables false
set_option linter.unusedSimpArgs false
namespace Go.Proofs.Ytijgeonhbmgikaa.EOOctetGets
open Go.RowKit Go.Proofs.Ytijgeonhbmgikaa.POOctetGets Go.Proofs.YtijgeonhbmgikaaN Go.Proofs.YtijgeonhbmgikaaW.PrintWords Go.Proofs.YtijgeonhbmgikaaW.PrintLast Go.Proofs.YtijgeonhbmgikaaW.PrintMore
def jDO (n : Nat) (l : List Int) : List Int := l ++ List.replicate (n - l.length) 0
theorem jGR {n : Nat} {l : List Int} (h : l.length ≤ n) : (jDO n l).length = n := by unfold jDO; simp; omega
theorem jGQ (n : Nat) (l : List Int) : val (jDO n l) = val l := by unfold jDO; rw [val_append, jAr]; omega
theorem jHt {n : Nat} {l : List Int} (h : Ok l) : Ok (jDO n l) := h.append (Ok.rep _)
theorem jGo {u v : List Int} (hu : Ok u) (hv : Ok v) (hul : u.length ≤ 1000) (hvl : v.length ≤ 1000) (hV : 0 < val v) : ∀ (d : Nat) (q : Int), (q - val u / val v).toNat = d → val u / val v ≤ q → q < B → Ev (fun k => jh.l v k u q) (val u / val v, jDO u.length (dg (val u % val v))) := by
 have hU := vC hu
 have hQ0 : 0 ≤ val u / val v := Int.ediv_nonneg hU (Int.le_of_lt hV)
 intro d
 induction d with
 | zero =>
  intro q hd h1 h2
  obtain rfl : q = val u / val v := by omega
  have hle : val v * (val u / val v) ≤ val u := Int.mul_ediv_self_le (Int.ne_of_gt hV)
  have rv := Row.of hv hvl
  have r1 : Row [val u / val v] (val u / val v) 1 := ⟨Ok.one hQ0 h2, val_one _, Nat.le_refl _⟩
  have rm := rv.mul r1 (p := 1001) (Nat.le_refl _)
  have hmod : val u - val v * (val u / val v) = val u % val v := (Int.emod_def _ _).symm
  have hs := jHV (Row.of hu hul) rm (by decide) (by decide) hle
  rw [hmod] at hs
  have hlt : val u % val v ≤ val u := by rw [← hmod]; have := Int.mul_nonneg (Int.le_of_lt hV) hQ0; omega
  have hlen : (dg (val u % val v)).length ≤ u.length := jBU (Int.lt_of_le_of_lt hlt (jAB hu))
  refine Ev.step (fun k => by rw [jh.l]) (Ev.bind (mulR rv r1 (by decide) (by decide)) (Ev.bind hs (Ev.pos rfl ?_)))
  exact Ev.pos (c := (dg (val u % val v)).length ≤ u.length ∧ u.length < 17592186044416) ⟨hlen, by omega⟩ (Ev.now _)
 | succ d ih =>
  intro q hd h1 h2
  have hlt : val u < val v * q := by
   have := Int.lt_ediv_add_one_mul_self (val u) hV
   have h3 : (val u / val v + 1) * val v ≤ q * val v := Int.mul_le_mul_of_nonneg_right (by omega) (Int.le_of_lt hV)
   rw [Int.mul_comm (val v)]
   omega
  have rv := Row.of hv hvl
  have r1 : Row [q] q 1 := ⟨Ok.one (by omega) h2, val_one _, Nat.le_refl _⟩
  have rm := rv.mul r1 (p := 1001) (Nat.le_refl _)
  have hs := jIr (Row.of hu hul) rm (by decide) (by decide) hlt
  have hw : IntKind.u64.wrap (q - 1) = q - 1 := by
   have h5 : 0 ≤ q - 1 := by omega
   have h6 : q - 1 < 18446744073709551616 := by rw [← B_eq]; omega
   rw [IntKind.wrap_u64]
   exact Int.emod_eq_of_lt h5 h6
  refine Ev.step (fun k => by rw [jh.l]) (Ev.bind (mulR rv r1 (by decide) (by decide)) (Ev.bind hs (Ev.neg (fun h => Bool.noConfusion h) ?_)))
  rw [hw]
  exact ih (q - 1) (by omega) (by omega) (by omega)
theorem jEc {u v : List Int} (hu : Ok u) (hv : Ok v) {n : Nat} (hn : v.length = n + 1) (hul : u.length = n + 2) (hV : 0 < v.getD n 0) : val u / val v ≤ (u.getD (n + 1) 0 * B + u.getD n 0) / v.getD n 0 := by
 have hVp : B ^ n * v.getD n 0 ≤ val v := by
  have e := zH v n (by omega)
  rw [qw (by omega), List.drop_eq_nil_of_le (by omega), jAF, Int.mul_zero, Int.add_zero] at e
  have := vC (hv.take n)
  omega
 have hB := qN n
 have hVpos : 0 < val v := by have := Int.mul_pos hB hV; omega
 have hU : val u < B ^ n * (u.getD (n + 1) 0 * B + u.getD n 0 + 1) := by
  have e := zH u n (by omega)
  rw [qw (by omega), qw (by omega), List.drop_eq_nil_of_le (by omega), jAF, Int.mul_zero, Int.add_zero] at e
  have h1 := jAB (hu.take n)
  rw [List.length_take, Nat.min_eq_left (by omega)] at h1
  rw [Int.mul_add (B ^ n), Int.mul_one, Int.mul_comm _ B, Int.add_comm (B * u.getD (n + 1) 0)]
  omega
 have hQ0 : 0 ≤ val u / val v := Int.ediv_nonneg (vC hu) (Int.le_of_lt hVpos)
 have hle : val u / val v * val v ≤ val u := Int.ediv_mul_le _ (Int.ne_of_gt hVpos)
 generalize val u / val v = Q at *
 refine Int.le_ediv_of_mul_le hV ?_
 have h2 : Q * (B ^ n * v.getD n 0) ≤ Q * val v := Int.mul_le_mul_of_nonneg_left hVp hQ0
 rw [← Int.mul_assoc, Int.mul_comm Q, Int.mul_assoc] at h2
 have h3 : B ^ n * (Q * v.getD n 0) < B ^ n * (u.getD (n + 1) 0 * B + u.getD n 0 + 1) := by omega
 have := Int.lt_of_mul_lt_mul_left h3 (Int.le_of_lt hB)
 omega
theorem jIM {u v : List Int} (hu : Ok u) (hv : Ok v) (hul : u.length = v.length + 1) (hvl : v.length ≤ 900) (hv0 : 0 < v.length) (hV : 0 < v.getD (v.length - 1) 0) (hlt : val u < val v * B) : Ev (fun k => jh.f k u v) (val u / val v, jDO u.length (dg (val u % val v))) := by
 obtain ⟨n, hn⟩ : ∃ n, v.length = n + 1 := ⟨v.length - 1, by omega⟩
 have e1 : v.length - 1 = n := by omega
 rw [e1] at hV
 have hVp : B ^ n * v.getD n 0 ≤ val v := by
  have e := zH v n (by omega)
  rw [qw (by omega), List.drop_eq_nil_of_le (by omega), jAF, Int.mul_zero, Int.add_zero] at e
  have := vC (hv.take n)
  omega
 have hVpos : 0 < val v := by have := Int.mul_pos (qN n) hV; omega
 have hQB : val u / val v < B := Int.ediv_lt_of_lt_mul hVpos (by rw [Int.mul_comm]; exact hlt)
 have h0 := hu.at (n + 1)
 have h1 := hu.at n
 have h2 := hv.at n
 unfold jh.f
 refine Ev.pos (c := 0 < v.length ∧ v.length < u.length) ⟨hv0, by omega⟩ ?_
 rw [e1, hn]
 by_cases hc : u.getD (n + 1) 0 < v.getD n 0
 ·
  refine Ev.pos hc (Ev.bind (jFK h0.1 hc h1 h2.2) ?_)
  refine jGo hu hv (by omega) (by omega) hVpos _ _ rfl ?_ ?_
  ·
   exact jEc hu hv hn (by omega) hV
  ·
   exact (jFJ h0.1 hc h1)
 ·
  refine Ev.neg hc (jGo hu hv (by omega) (by omega) hVpos _ _ rfl ?_ ?_)
  ·
   rw [B_eq] at hQB; omega
  ·
   rw [B_eq]; decide
end Go.Proofs.Ytijgeonhbmgikaa.EOOctetGets
end
section
set_option linter.unusedVariables false
set_option linter.unusedSimpArgs false
namespace Go.Proofs.Ytijgeonhbmgikaa.EOOctetGets
open Go.RowKit Go.Proofs.Ytijgeonhbmgikaa.POOctetGets Go.Proofs.YtijgeonhbmgikaaN Go.Proofs.YtijgeonhbmgikaaW.PrintWords Go.Proofs.YtijgeonhbmgikaaW.PrintLast Go.Proofs.YtijgeonhbmgikaaW.PrintMore
def Held (l : List Int) : Prop := l.length ≤ 8 ∧ (l = [] ∨ l.getD (l.length - 1) 0 ≠ 0)
instance (l : List Int) : Decidable (Held l) := by unfold Held; infer_instance
theorem Held.dg {l : List Int} (h : Held l) (ho : Ok l) : Go.Proofs.YtijgeonhbmgikaaN.dg (val l) = l := jDz ho h.2
theorem jJS {n : Int} {l : List Int} (h : (dg n).length ≤ 8) : Held (dg n) := ⟨h, jEe n⟩
theorem jFE {l : List Int} (h : l.length ≤ 8) (h0 : ¬ l = []) : (l.getD (l.length - 1) 0 != 0) = decide (Held l) := by
 rw [Bool.eq_iff_iff, bne_iff_ne]
 exact ⟨fun q => decide_eq_true ⟨h, .inr q⟩, fun q => ((of_decide_eq_true q).2).elim (fun e => absurd e h0) id⟩
theorem jCG (l : List Int) : zn.f l = some (decide (Held l)) := by
 unfold zn.f
 by_cases h : l.length ≤ 8
 ·
  rw [if_pos (by omega)]
  by_cases h0 : l = []
  ·
   subst h0
   rfl
  ·
   have hl := List.length_pos_iff.2 h0
   have hw : wrap64 ((l.length : Int) - 1) = ((l.length - 1 : Nat) : Int) := by rw [w64 (by omega)]; omega
   rw [if_neg (by omega), hw, if_pos (by omega), if_pos (by omega), qj, jFE h h0]
 ·
  rw [if_neg (by omega), decide_eq_false (fun q => h q.1)]
theorem of_eq {n : Int} (h : 0 ≤ n ∧ n < B) : jCF.f n = some (dg n) := by
 unfold jCF.f
 by_cases hz : n = 0
 ·
  rw [if_pos hz, hz, jAs]
 ·
  rw [if_neg hz]
  have := jDz (Ok.one h.1 h.2) (.inr (by simpa using hz))
  rw [val_one] at this
  rw [this]
theorem jBA (l : List Int) : jZ.f l = some (decide (Held l)) := by
 unfold jZ.f
 by_cases h : l.length ≤ 8
 ·
  rw [if_pos (by omega)]
  by_cases h0 : l = []
  ·
   subst h0
   rfl
  ·
   have hl := List.length_pos_iff.2 h0
   have hw : wrap64 ((l.length : Int) - 1) = ((l.length - 1 : Nat) : Int) := by rw [w64 (by omega)]; omega
   rw [if_neg (by omega), hw, if_pos (by omega), if_pos (by omega), qj, jFE h h0]
 ·
  rw [if_neg (by omega), decide_eq_false (fun q => h q.1)]
theorem jJL {a b : List Int} (ha : Ok a) (hb : Ok b) (hal : a.length ≤ 17592186044416) (hbl : b.length ≤ 17592186044416) : Ev (fun k => jAH.f k a b) (cmpv (val a) (val b)) := Ev.bind (jGu ha hb hal hbl) (Ev.now _)
theorem jCK (a b : List Int) (h : a.length ≤ 17592186044416) : Ev (fun k => ji.f k a b) (decide (a = b)) := Ev.bind (jIu a b h) (Ev.now _)
theorem jKL {a b : List Int} (h : a.length ≤ 17592186044416) (e : a = b) : Ev (fun k => ji.f k a b) true := Ev.eq (jCK a b h) (by simp [e])
theorem jDA {x : Int} (h : x < B ^ 8) : Held (dg x) := jJS (l := []) (jBU h)
theorem jKl {x : Int} (h : 0 < x) (hb : x < B) : dg x = [x] := by
 have := jDz (Ok.one (Int.le_of_lt h) hb) (.inr (by simp; omega))
 rwa [val_one] at this
end Go.Proofs.Ytijgeonhbmgikaa.EOOctetGets
end
section
set_option linter.unusedVariables false
set_option linter.unusedSimpArgs false
namespace Go.Proofs.Ytijgeonhbmgikaa.EOOctetGets
open Go.RowKit Go.Proofs.Ytijgeonhbmgikaa.POOctetGets Go.Proofs.YtijgeonhbmgikaaN Go.Proofs.YtijgeonhbmgikaaW.PrintWords Go.Proofs.YtijgeonhbmgikaaW.PrintLast Go.Proofs.YtijgeonhbmgikaaW.PrintMore
theorem u64n {x : Int} (h : 0 ≤ x ∧ x < B) : IntKind.u64.wrap x = x := by rw [IntKind.wrap_u64]; rw [B_eq] at h; omega
theorem jCI {x y : Int} (h : 0 ≤ x) : Int.tmod x y = x % y := Int.tmod_eq_emod_of_nonneg h
theorem jCJ {x y : Int} (h : 0 ≤ x) : Int.tdiv x y = x / y := Int.tdiv_eq_ediv_of_nonneg h
theorem at_eq (l : List Int) (i : Nat) : jg.f l i = some (l.getD i 0) := by
 unfold jg.f
 by_cases h : i < l.length
 ·
  rw [if_pos (by omega), if_pos (by omega), qj]
 ·
  rw [if_neg (by omega), getD_none (by omega)]
theorem jGn (a : List Int) (ha : Ok a) (hl : a.length ≤ 4294967296) : ∀ (d : Nat) (out : List Int) (i : Nat), a.length - i = d → i ≤ a.length → out.length = 2 * i → Ev (fun k => jD.l0 k a out i) (out ++ halves (a.drop i)) := by
 intro d
 induction d with
 | zero =>
  intro out i hd hi ho
  refine Ev.step (fun k => by simp only [jD.l0]; rw [if_neg (by omega)]) (Ev.eq (Ev.now _) ?_)
  rw [List.drop_eq_nil_of_le (by omega), halves, List.append_nil]
 | succ d ih =>
  intro out i hd hi ho
  have hia : i < a.length := by omega
  have hx := ha.at i
  have e1 : IntKind.u64.wrap (Int.tdiv (rd a (i : Int)) 4294967296) = a.getD i 0 / H := by
   rw [qj, jCJ hx.1]
   rw [B_eq] at hx
   exact u64n (by rw [B_eq]; omega)
  have e2 : Int.tmod (rd a (i : Int)) 4294967296 = a.getD i 0 % H := by rw [qj, jCI hx.1]; rfl
  have hs : out ++ halves (a.drop i) = (out ++ [a.getD i 0 % H, a.getD i 0 / H]) ++ halves (a.drop (i + 1)) := by
   rw [List.drop_eq_getElem_cons hia, halves, List.append_assoc]
   rw [show a.getD i 0 = a[i] from by rw [List.getD_eq_getElem?_getD, List.getElem?_eq_getElem hia]; rfl]
   rfl
  rw [hs]
  refine Ev.step (fun k => ?_) (ih (out ++ [a.getD i 0 % H, a.getD i 0 / H]) (i + 1) (by omega) (by omega) (by simp; omega))
  simp only [jD.l0, e1, e2]
  rw [if_pos (by omega), if_pos (by omega), zo, if_pos (by simp; omega), w64 (by omega), show (i : Int) + 1 = ((i + 1 : Nat) : Int) from by omega]
theorem jAn {a : List Int} (ha : Ok a) (hl : a.length ≤ 4294967296) : Ev (fun k => jD.f k a) (halves a) := by
 unfold jD.f
 have := jGn a ha hl _ [] 0 rfl (by omega) rfl
 simpa using this
theorem jHQ (d : List Int) (hd : OkH d) (hl : d.length ≤ 17179869184) : ∀ (n : Nat) (out : List Int) (i : Nat), d.length - i ≤ n → Ok out → out.length ≤ i → i ≤ d.length + 1 → Ev (fun k => jI.l0 k d out i) (dg (val out + B ^ out.length * hval (d.drop i))) := by
 intro n
 induction n with
 | zero =>
  intro out i hn ho hoi hi
  refine Ev.step (f := fun k => (jX.f k out).bind fun t => some t) (fun k => by simp only [jI.l0]; rw [if_neg (by omega)]) ?_
  rw [List.drop_eq_nil_of_le (by omega), jAE, Int.mul_zero, Int.add_zero]
  exact Ev.bind (jDM ho (by omega)) (Ev.now _)
 | succ n ih =>
  intro out i hn ho hoi hi
  by_cases hid : i < d.length
  ·
   have h0 := hd.at i
   have h1 := hd.at (i + 1)
   have hwi : wrap64 ((i : Int) + 1) = ((i + 1 : Nat) : Int) := by rw [w64 (by omega)]; omega
   have hwi2 : wrap64 ((i : Int) + 2) = ((i + 2 : Nat) : Int) := by rw [w64 (by omega)]; omega
   have hB : d.getD i 0 + d.getD (i + 1) 0 * 4294967296 < B := by rw [H_eq] at h0 h1; rw [B_eq]; omega
   have hnew : 0 ≤ d.getD i 0 + d.getD (i + 1) 0 * 4294967296 := by omega
   have hv : val out + B ^ out.length * hval (d.drop i) = val (out ++ [d.getD i 0 + d.getD (i + 1) 0 * 4294967296]) + B ^ (out ++ [d.getD i 0 + d.getD (i + 1) 0 * 4294967296]).length * hval (d.drop (i + 2)) := by
    have e : d.getD i 0 + H * (d.getD (i + 1) 0 + H * hval (d.drop (i + 2))) = (d.getD i 0 + d.getD (i + 1) 0 * 4294967296) + B * hval (d.drop (i + 2)) := by
     rw [Int.mul_add, ← Int.mul_assoc, HH, show H * d.getD (i + 1) 0 = d.getD (i + 1) 0 * 4294967296 from Int.mul_comm _ _]
     omega
    rw [jAR, jAR d (i + 1), show i + 1 + 1 = i + 2 from rfl, e, jBk, List.length_append, List.length_singleton, qG]
    generalize d.getD i 0 + d.getD (i + 1) 0 * 4294967296 = u
    rw [Int.mul_add, Int.mul_assoc, Int.add_assoc]
   rw [hv]
   have hok := ho.append (Ok.one hnew hB)
   refine Ev.step (fun k => ?_) (ih (out ++ [d.getD i 0 + d.getD (i + 1) 0 * 4294967296]) (i + 2) (by omega) hok (by simp; omega) (by omega))
   simp only [jI.l0, hwi, hwi2]
   rw [if_pos (by omega), if_pos (by omega)]
   by_cases hi1 : i + 1 < d.length
   ·
    rw [if_pos (by omega), if_pos (by omega), if_pos (by omega), qj, qj, u64n (x := d.getD (i + 1) 0 * 4294967296) (by omega), u64n ⟨hnew, hB⟩]
   ·
    rw [if_neg (by omega), if_pos (by omega), qj, getD_none (by omega : d.length ≤ i + 1)]
    simp
  ·
   refine Ev.step (f := fun k => (jX.f k out).bind fun t => some t) (fun k => by simp only [jI.l0]; rw [if_neg (by omega)]) ?_
   rw [List.drop_eq_nil_of_le (by omega), jAE, Int.mul_zero, Int.add_zero]
   exact Ev.bind (jDM ho (by omega)) (Ev.now _)
theorem jBj {d : List Int} (hd : OkH d) (hl : d.length ≤ 17179869184) : Ev (fun k => jI.f k d) (dg (hval d)) := by
 unfold jI.f
 have := jHQ d hd hl d.length [] 0 (by omega) Ok.nil (by simp) (by omega)
 simpa [val] using this
theorem jGM {x y c : Int} (hx : 0 ≤ x ∧ x < H) (hy : 0 ≤ y ∧ y < H) (hc : 0 ≤ c ∧ c ≤ 1) : (0 ≤ (x + y + c) % H ∧ (x + y + c) % H < H) ∧ (0 ≤ (x + y + c) / H ∧ (x + y + c) / H ≤ 1) ∧ (x + y + c) % H + H * ((x + y + c) / H) = x + y + c := by
 rw [H_eq] at *
 omega
theorem jJG (x y : List Int) (hx : OkH x) (hy : OkH y) (M : Nat) (hxM : x.length ≤ M) (hyM : y.length ≤ M) (hM : M ≤ 8589934592) : ∀ (d : Nat) (out : List Int) (c : Int) (i : Nat), M + 1 - i = d → OkH out → out.length = i → (0 ≤ c ∧ c ≤ 1) → (i ≤ M ∨ i = M + 1 ∧ c = 0) →
  Ev (fun k => jL.l0 k x y out c i) (dg (hval out + H ^ i * (c + (hval (x.drop i) + hval (y.drop i))))) := by
 intro d
 induction d with
 | zero =>
  intro out c i hd ho hol hc hi
  obtain ⟨hi, rfl⟩ : i = M + 1 ∧ c = 0 := by omega
  refine Ev.step (f := fun k => jL.j1 k x y out 0 i (decide ((0 : Int) > 0))) (fun k => by simp only [jL.l0]; rw [if_neg (by omega), if_neg (by omega)]) (Ev.step (f := fun k => (jI.f k out).bind fun t => some t) (fun k => by simp only [jL.j1]; rw [if_neg (by simp)]) ?_)
  rw [List.drop_eq_nil_of_le (by omega), List.drop_eq_nil_of_le (by omega), jAE]
  simp only [Int.add_zero, Int.mul_zero]
  exact Ev.bind (jBj ho (by omega)) (Ev.now _)
 | succ d ih =>
  intro out c i hd ho hol hc hi
  by_cases hgo : i < x.length ∨ i < y.length ∨ 0 < c
  ·
   have h0 : ∀ k, jL.l0 (k + 1) x y out c i = jL.j1 k x y out c i true := by
    intro k
    simp only [jL.l0]
    by_cases h1 : i < x.length
    ·
     rw [if_pos (by omega)]
    ·
     rw [if_neg (by omega)]
     by_cases h2 : i < y.length
     ·
      rw [if_pos (by omega)]
     ·
      rw [if_neg (by omega), decide_eq_true (by omega)]
   have hxi := hx.at i
   have hyi := hy.at i
   obtain ⟨s1, s2, s3⟩ := jGM hxi hyi hc
   have hv : hval out + H ^ i * (c + (hval (x.drop i) + hval (y.drop i))) = hval (out ++ [(x.getD i 0 + y.getD i 0 + c) % H]) + H ^ (i + 1) * ((x.getD i 0 + y.getD i 0 + c) / H + (hval (x.drop (i + 1)) + hval (y.drop (i + 1)))) := by
    have e : c + (hval (x.drop i) + hval (y.drop i)) = (x.getD i 0 + y.getD i 0 + c) % H + H * ((x.getD i 0 + y.getD i 0 + c) / H + (hval (x.drop (i + 1)) + hval (y.drop (i + 1)))) := by
     rw [jAR x i, jAR y i, Int.mul_add, Int.mul_add]
     omega
    rw [e, jCd, hol, jAa]
    generalize (x.getD i 0 + y.getD i 0 + c) % H = s
    generalize (x.getD i 0 + y.getD i 0 + c) / H = c'
    rw [Int.mul_add, Int.mul_assoc, Int.add_assoc]
   rw [hv]
   refine Ev.step h0 (Ev.step (fun k => ?_) (ih (out ++ [(x.getD i 0 + y.getD i 0 + c) % H]) _ (i + 1) (by omega) (ho.append (OkH.one s1.1 s1.2)) (by simp [hol]) s2 ?_))
   ·
    simp only [jL.j1]
    have b1 : IntKind.u64.wrap (x.getD i 0 + y.getD i 0) = x.getD i 0 + y.getD i 0 := u64n (by rw [H_eq] at hxi hyi; rw [B_eq]; omega)
    have b2 : IntKind.u64.wrap (x.getD i 0 + y.getD i 0 + c) = x.getD i 0 + y.getD i 0 + c := u64n (by rw [H_eq] at hxi hyi; rw [B_eq]; omega)
    rw [if_pos trivial, at_eq, at_eq, zo, zo, if_pos (by omega), b1, b2, jCI (by omega), jCJ (by omega), w64 (by omega), show (i : Int) + 1 = ((i + 1 : Nat) : Int) from by omega]
    rw [show IntKind.u64.wrap ((x.getD i 0 + y.getD i 0 + c) / 4294967296) = (x.getD i 0 + y.getD i 0 + c) / 4294967296 from u64n (by rw [H_eq] at hxi hyi; rw [B_eq]; omega)]
    rfl
   ·
    by_cases hiM : i < M
    ·
     exact .inl (by omega)
    ·
     refine .inr ⟨by omega, ?_⟩
     rw [getD_none (by omega : x.length ≤ i), getD_none (by omega : y.length ≤ i), H_eq]
     omega
  ·
   have hc0 : c = 0 := by omega
   subst hc0
   refine Ev.step (f := fun k => jL.j1 k x y out 0 i (decide ((0 : Int) > 0))) (fun k => by simp only [jL.l0]; rw [if_neg (by omega), if_neg (by omega)]) (Ev.step (f := fun k => (jI.f k out).bind fun t => some t) (fun k => by simp only [jL.j1]; rw [if_neg (by simp)]) ?_)
   rw [List.drop_eq_nil_of_le (by omega), List.drop_eq_nil_of_le (by omega), jAE]
   simp only [Int.add_zero, Int.mul_zero]
   exact Ev.bind (jBj ho (by omega)) (Ev.now _)
theorem jJH {a b : List Int} (ha : Ok a) (hb : Ok b) (hal : a.length ≤ 4294967296) (hbl : b.length ≤ 4294967296) : Ev (fun k => jL.f k a b) (dg (val a + val b)) := by
 unfold jL.f
 have l1 := jAh a
 have l2 := jAh b
 have := jJG (halves a) (halves b) (jAm ha) (jAm hb) (2 * max a.length b.length) (by omega) (by omega) (by omega) _ [] 0 0 rfl OkH.nil rfl (by omega) (.inl (by omega))
 simp only [jAE, List.drop_zero, jAS, Int.pow_zero, Int.one_mul, Int.zero_add] at this
 exact Ev.bind (jAn ha hal) (Ev.bind (jAn hb hbl) this)
theorem jCx (a : List Int) (n i : Nat) : (a ++ List.replicate n 0).getD i 0 = a.getD i 0 := by
 simp only [List.getD_eq_getElem?_getD]
 by_cases h : i < a.length
 ·
  rw [List.getElem?_append_left h]
 ·
  rw [List.getElem?_append_right (by omega), List.getElem?_eq_none (by omega : a.length ≤ i), List.getElem?_replicate]
  split <;> rfl
theorem jJF {a b a' b' : List Int} (ha : Ok a') (hb : Ok b') (hab : a'.length = b'.length) (hl : a'.length ≤ 17592186044416) (ga : ∀ i, a.getD i 0 = a'.getD i 0) (gb : ∀ i, b.getD i 0 = b'.getD i 0) : ∀ (n : Nat), n ≤ a'.length → a'.drop n = b'.drop n → ∀ k, n < k → jO.l0 k a b ((n : Int) - 1) = some (cmpv (val a') (val b')) := by
 intro n
 induction n with
 | zero =>
  intro _ hd k hk
  obtain ⟨k, rfl⟩ : ∃ m, k = m + 1 := ⟨k - 1, by omega⟩
  have : a' = b' := by simpa using hd
  subst this
  simp only [jO.l0]
  rw [if_neg (by omega), jEB]
 | succ n ih =>
  intro hn hd k hk
  obtain ⟨k, rfl⟩ : ∃ m, k = m + 1 := ⟨k - 1, by omega⟩
  have e : (((n + 1 : Nat) : Int) - 1) = (n : Int) := by omega
  rw [e]
  simp only [jO.l0]
  rw [if_pos (by omega), at_eq, at_eq, zo, zo, zo, zo, w64 (by omega), ga, gb]
  by_cases h1 : a'.getD n 0 < b'.getD n 0
  ·
   have := jFN ha hb hab (by omega) hd h1
   rw [if_pos h1]
   simp [cmpv, this]
  ·
   rw [if_neg h1]
   by_cases h2 : b'.getD n 0 < a'.getD n 0
   ·
    have := jFN hb ha hab.symm (by omega) hd.symm h2
    rw [if_pos h2]
    unfold cmpv
    rw [if_neg (by omega), if_neg (by omega)]
   ·
    rw [if_neg h2]
    refine ih (by omega) ?_ k (by omega)
    have ha' : n < a'.length := by omega
    have hb' : n < b'.length := by omega
    have e1 : a'.getD n 0 = a'[n] := by rw [List.getD_eq_getElem?_getD, List.getElem?_eq_getElem ha']; rfl
    have e2 : b'.getD n 0 = b'[n] := by rw [List.getD_eq_getElem?_getD, List.getElem?_eq_getElem hb']; rfl
    rw [List.drop_eq_getElem_cons ha', List.drop_eq_getElem_cons hb', hd, ← e1, ← e2, show a'.getD n 0 = b'.getD n 0 from by omega]
theorem jEW {a b : List Int} (ha : Ok a) (hb : Ok b) (hal : a.length ≤ 4294967296) (hbl : b.length ≤ 4294967296) : Ev (fun k => jO.f k a b) (cmpv (val a) (val b)) := by
 refine ⟨max a.length b.length + 1, fun k hk => ?_⟩
 show jO.f k a b = _
 unfold jO.f
 have em : mx (a.length : Int) (b.length : Int) = ((max a.length b.length : Nat) : Int) := by unfold mx; split <;> omega
 have := jJF (a := a) (b := b) (a' := a ++ List.replicate (max a.length b.length - a.length) 0) (b' := b ++ List.replicate (max a.length b.length - b.length) 0) (ha.append (Ok.rep _)) (hb.append (Ok.rep _)) (by simp; omega) (by simp; omega) (fun i => (jCx _ _ _).symm) (fun i => (jCx _ _ _).symm) (max a.length b.length) (by simp; omega)
  (by rw [List.drop_eq_nil_of_le (by simp; omega), List.drop_eq_nil_of_le (by simp; omega)]) k (by omega)
 rw [em, w64 (by omega), this, val_append, val_append, jAr, jAr]
 simp
theorem jGF {x y c : Int} (hx : 0 ≤ x ∧ x < H) (hy : 0 ≤ y ∧ y < H) (hc : 0 ≤ c ∧ c ≤ 1) : (0 ≤ (x + H - y - c) % H ∧ (x + H - y - c) % H < H) ∧ (0 ≤ 1 - (x + H - y - c) / H ∧ 1 - (x + H - y - c) / H ≤ 1) ∧ (x + H - y - c) % H - H * (1 - (x + H - y - c) / H) = x - y - c := by
 rw [H_eq] at *
 omega
theorem jIv (x y : List Int) (hx : OkH x) (hy : OkH y) (hl : x.length ≤ 8589934592) : ∀ (d : Nat) (out : List Int) (c : Int) (i : Nat), i + d = x.length → OkH out → out.length = i → (0 ≤ c ∧ c ≤ 1) →
  ∃ o ce, Ev (fun k => jc.l0 k x y out c i) (dg (hval o), true) ∧ OkH o ∧ o.length = x.length ∧ (0 ≤ ce ∧ ce ≤ 1) ∧ hval o + H ^ i * (c + hval ((y.drop i).take d)) = hval out + H ^ i * hval (x.drop i) + H ^ (i + d) * ce := by
 intro d
 induction d with
 | zero =>
  intro out c i hd ho hol hc
  refine ⟨out, c, Ev.step (f := fun k => (jI.f k out).bind fun t => some (t, true)) (fun k => by simp only [jc.l0]; rw [if_neg (by omega)]) (Ev.bind (jBj ho (by omega)) (Ev.now _)), ho, by omega, hc, ?_⟩
  have e : x.drop i = [] := List.drop_eq_nil_of_le (by omega)
  rw [e]
  simp [hval]
 | succ d ih =>
  intro out c i hd ho hol hc
  have hxi := hx.at i
  have hyi := hy.at i
  obtain ⟨s1, s2, s3⟩ := jGF hxi hyi hc
  obtain ⟨o, ce, h1, h2, h3, h4, h5⟩ := ih (out ++ [(x.getD i 0 + H - y.getD i 0 - c) % H]) (1 - (x.getD i 0 + H - y.getD i 0 - c) / H) (i + 1) (by omega) (ho.append (OkH.one s1.1 s1.2)) (by simp [hol]) s2
  refine ⟨o, ce, Ev.step (fun k => ?_) h1, h2, h3, h4, ?_⟩
  ·
   simp only [jc.l0]
   have b0 : IntKind.u64.wrap (rd x (i : Int) + 4294967296) = x.getD i 0 + H := u64n (by rw [H_eq] at hxi hyi; rw [B_eq, qj]; omega)
   have b1 : IntKind.u64.wrap (x.getD i 0 + H - y.getD i 0) = x.getD i 0 + H - y.getD i 0 := u64n (by rw [H_eq] at *; rw [B_eq]; omega)
   have b2 : IntKind.u64.wrap (x.getD i 0 + H - y.getD i 0 - c) = x.getD i 0 + H - y.getD i 0 - c := u64n (by rw [H_eq] at *; rw [B_eq]; omega)
   have b3 : IntKind.u64.wrap ((x.getD i 0 + H - y.getD i 0 - c) / H) = (x.getD i 0 + H - y.getD i 0 - c) / H := u64n (by rw [H_eq] at *; rw [B_eq]; omega)
   have b4 : IntKind.u64.wrap (1 - (x.getD i 0 + H - y.getD i 0 - c) / H) = 1 - (x.getD i 0 + H - y.getD i 0 - c) / H := u64n (by rw [H_eq] at *; rw [B_eq]; omega)
   have p : 0 ≤ x.getD i 0 + H - y.getD i 0 - c := by rw [H_eq] at *; omega
   rw [if_pos (by omega), if_pos (by omega), at_eq, zo, if_pos (by omega), b0, b1, b2, jCI p, jCJ p, show (4294967296 : Int) = H from rfl, b3, b4, w64 (by omega), show (i : Int) + 1 = ((i + 1 : Nat) : Int) from by omega]
  ·
   rw [jCd, hol, jAa] at h5
   rw [jFb, jAR x i, show i + (d + 1) = i + 1 + d from by omega]
   generalize hval ((y.drop (i + 1)).take d) = Y at *
   generalize hval (x.drop (i + 1)) = X at *
   generalize (1 - (x.getD i 0 + H - y.getD i 0 - c) / H) = c' at *
   generalize (x.getD i 0 + H - y.getD i 0 - c) % H = s at *
   have e1 : c + (y.getD i 0 + H * Y) = (x.getD i 0 - s) + H * (c' + Y) := by rw [Int.mul_add]; omega
   have e2 : H ^ i * (c + (y.getD i 0 + H * Y)) = H ^ i * (x.getD i 0 - s) + H ^ i * H * (c' + Y) := by rw [e1, Int.mul_add, Int.mul_assoc]
   have e3 : H ^ i * (x.getD i 0 + H * X) = H ^ i * x.getD i 0 + H ^ i * H * X := by rw [Int.mul_add, Int.mul_assoc]
   have e4 : H ^ i * (x.getD i 0 - s) = H ^ i * x.getD i 0 - H ^ i * s := Int.mul_sub ..
   omega
theorem jIw {a b : List Int} (ha : Ok a) (hb : Ok b) (hal : a.length ≤ 4294967296) (hbl : b.length ≤ 4294967296) : Ev (fun k => jc.f k a b) (if val a < val b then ([], false) else (dg (val a - val b), true)) := by
 unfold jc.f
 refine Ev.bind (jEW ha hb hal hbl) ?_
 by_cases h : val a < val b
 ·
  rw [if_pos h]
  exact Ev.pos (jAq.2 h) (Ev.now _)
 ·
  rw [if_neg h]
  refine Ev.neg (fun e => h (jAq.1 e)) (Ev.bind (jAn ha hal) (Ev.bind (jAn hb hbl) ?_))
  have l1 := jAh a
  have hx := jAm ha
  have hy := jAm hb
  obtain ⟨o, ce, h1, h2, h3, h4, h5⟩ := jIv (halves a) (halves b) hx hy (by omega) (halves a).length [] 0 0 (by omega) OkH.nil rfl (by omega)
  simp only [jAE, List.drop_zero, jAS, Int.pow_zero, Int.one_mul, Int.zero_add, Nat.zero_add] at h5
  have hp := jDc (halves a).length
  have hxl := jGe hx
  rw [jAS] at hxl
  have hy0 := jBF h2
  have hyl := jGe h2
  rw [h3] at hyl
  have hbt : hval ((halves b).take (halves a).length) = val b := by
   by_cases hl : (halves b).length ≤ (halves a).length
   ·
    rw [List.take_of_length_le hl, jAS]
   ·
    have e := jBa (halves b) (halves a).length (by omega)
    rw [jAS] at e
    have n1 := jBF (hy.take (halves a).length)
    have n2 := jBF (hy.drop (halves a).length)
    have : hval ((halves b).drop (halves a).length) = 0 := by
     rcases Int.lt_or_le 0 (hval ((halves b).drop (halves a).length)) with h6 | h6
     ·
      have : H ^ (halves a).length * 1 ≤ H ^ (halves a).length * hval ((halves b).drop (halves a).length) := Int.mul_le_mul_of_nonneg_left (by omega) (by omega)
      omega
     ·
      omega
    rw [this] at e
    omega
  rw [hbt] at h5
  have hce : ce = 0 := by
   rcases Int.lt_or_le 0 ce with h6 | h6
   ·
    have e1 : ce = 1 := by omega
    rw [e1] at h5
    have n1 := vC hb
    omega
   ·
    omega
  rw [hce] at h5
  have : hval o = val a - val b := by omega
  rw [← this]
  exact h1
end Go.Proofs.Ytijgeonhbmgikaa.EOOctetGets
end
section
set_option linter.unusedVariables false
set_option linter.unusedSimpArgs false
namespace Go.Proofs.Ytijgeonhbmgikaa.EOOctetGets
open Go.RowKit Go.Proofs.Ytijgeonhbmgikaa.POOctetGets Go.Proofs.YtijgeonhbmgikaaN Go.Proofs.YtijgeonhbmgikaaW.PrintWords Go.Proofs.YtijgeonhbmgikaaW.PrintLast Go.Proofs.YtijgeonhbmgikaaW.PrintMore
theorem H_B : H < B := by rw [H_eq, B_eq]; decide
theorem jIx {x y t c : Int} (hx : 0 ≤ x ∧ x < H) (hy : 0 ≤ y ∧ y < H) (ht : 0 ≤ t ∧ t < H) (hc : 0 ≤ c ∧ c < H) : (0 ≤ x * y ∧ x * y < B) ∧ (0 ≤ t + x * y ∧ t + x * y < B) ∧ (0 ≤ t + x * y + c ∧ t + x * y + c < B) ∧ (0 ≤ (t + x * y + c) % H ∧ (t + x * y + c) % H < H) ∧ (0 ≤ (t + x * y + c) / H ∧ (t + x * y + c) / H < H) ∧ (t + x * y + c) % H + H * ((t + x * y + c) / H) = t + x * y + c := by
 have h1 : x * y ≤ (H - 1) * (H - 1) := Int.mul_le_mul (by omega) (by omega) hy.1 (by have := jBJ; omega)
 have h0 : 0 ≤ x * y := Int.mul_nonneg hx.1 hy.1
 rw [H_eq] at *
 rw [B_eq]
 generalize x * y = z at *
 omega
theorem getD_set_ne {l : List Int} {i j : Nat} {v : Int} (h : i ≠ j) : (l.set i v).getD j 0 = l.getD j 0 := by
 rw [List.getD_eq_getElem?_getD, List.getD_eq_getElem?_getD, List.getElem?_set_ne h]
theorem jHc {y out : List Int} {i k : Nat} {xi c s c' : Int} (hl : i + k < out.length) (hs : s + H * c' = out.getD (i + k) 0 + xi * y.getD k 0 + c) : hval (out.set (i + k) s) + H ^ (i + (k + 1)) * (c' + xi * hval (y.drop (k + 1))) = hval out + H ^ (i + k) * (c + xi * hval (y.drop k)) := by
 have e : c + xi * hval (y.drop k) = (s - out.getD (i + k) 0) + H * (c' + xi * hval (y.drop (k + 1))) := by
  rw [jAR y k, Int.mul_add, Int.mul_add, ← Int.mul_assoc xi H, Int.mul_comm xi H, Int.mul_assoc H xi]
  omega
 rw [jFC hl, e, show i + (k + 1) = i + k + 1 from by omega, jAa, Int.mul_add (H ^ (i + k)), Int.mul_assoc, Int.add_assoc]
theorem jHd {x y out : List Int} {i k : Nat} {c : Int} (hxl : x.length ≤ 8589934590) (hyl : y.length ≤ 8589934590) (hi : i < x.length) (hk : k ≤ y.length) (hol : out.length = x.length + y.length + 1) (hxi : 0 ≤ x.getD i 0 ∧ x.getD i 0 < H) (hyk : 0 ≤ y.getD k 0 ∧ y.getD k 0 < H) (ho : 0 ≤ out.getD (i + k) 0 ∧ out.getD (i + k) 0 < H) (hc : 0 ≤ c ∧ c < H) (hgo : k < y.length ∨ 0 < c) :
  ∃ s c', (0 ≤ s ∧ s < H) ∧ (0 ≤ c' ∧ c' < H) ∧ s + H * c' = out.getD (i + k) 0 + x.getD i 0 * y.getD k 0 + c ∧ ∀ f, jE.l2 (f + 1) x y out i c k = jE.l2 f x y (out.set (i + k) s) i c' ((k + 1 : Nat) : Int) := by
 have hA : wrap64 ((i : Int) + (k : Int)) = ((i + k : Nat) : Int) ∧ wrap64 ((k : Int) + 1) = ((k + 1 : Nat) : Int) ∧ (0 : Int) ≤ ((i + k : Nat) : Int) ∧ ((i + k : Nat) : Int) < (out.length : Int) ∧ (0 : Int) ≤ (i : Int) ∧ (i : Int) < (x.length : Int) := by
  clear hxi hyk ho hc hgo
  refine ⟨by rw [w64 (by omega)]; omega, by rw [w64 (by omega)]; omega, by omega, by omega, by omega, by omega⟩
 obtain ⟨hw, hw1, c1, c2, c3, c4⟩ := hA
 have c5 : (k : Int) < (y.length : Int) ∨ (¬ (k : Int) < (y.length : Int) ∧ c > 0) := by
  clear hxi hyk ho hc
  by_cases h : k < y.length
  ·
   exact .inl (Int.ofNat_lt.2 h)
  ·
   exact .inr ⟨fun h' => h (Int.ofNat_lt.1 h'), hgo.resolve_left h⟩
 obtain ⟨m1, m2, m3, m4, m5, m6⟩ := jIx hxi hyk ho hc
 refine ⟨_, _, m4, m5, m6, fun f => ?_⟩
 have n1 := u64n m1
 have n2 := u64n m2
 have n3 := u64n m3
 have n5 : IntKind.u64.wrap ((out.getD (i + k) 0 + x.getD i 0 * y.getD k 0 + c) / H) = (out.getD (i + k) 0 + x.getD i 0 * y.getD k 0 + c) / H := u64n ⟨m5.1, Int.lt_trans m5.2 H_B⟩
 have p3 := m3.1
 clear m1 m2 m3 m4 m5 m6 hxi hyk ho hc hgo
 rw [H_eq] at n5 ⊢
 simp only [jE.l2, hw, hw1, qj, at_eq, zo, Int.toNat_natCast, n1, n2, n3, jCI p3, jCJ p3, n5]
 rcases c5 with c5 | ⟨c5, c6⟩
 ·
  rw [if_pos c5, if_pos c1, if_pos c2, if_pos c3, if_pos c4]
 ·
  rw [if_neg c5, if_pos c6, if_pos c1, if_pos c2, if_pos c3, if_pos c4]
theorem jEs {x y out : List Int} {i k : Nat} (hxl : x.length ≤ 8589934590) (hi : i < x.length) (hk : y.length ≤ k) (f : Nat) : jE.l2 (f + 1) x y out i 0 k = jE.l1 f x y out ((i + 1 : Nat) : Int) := by
 have hw : wrap64 ((i : Int) + 1) = ((i + 1 : Nat) : Int) := by rw [w64 (by omega)]; omega
 have c1 : ¬ (k : Int) < (y.length : Int) := by omega
 have c2 : ¬ (0 : Int) > 0 := by omega
 simp only [jE.l2, hw]
 rw [if_neg c1, if_neg c2]
theorem jHe (x y : List Int) (hx : OkH x) (hy : OkH y) (hxl : x.length ≤ 8589934590) (hyl : y.length ≤ 8589934590) (i : Nat) (hi : i < x.length) : ∀ (d : Nat) (out : List Int) (c : Int) (k : Nat), y.length + 1 - k = d → OkH out → out.length = x.length + y.length + 1 → (0 ≤ c ∧ c < H) → k ≤ y.length + 1 → (∀ m, i + max k y.length ≤ m → out.getD m 0 = 0) → (k = y.length + 1 → c = 0) →
  ∃ o, OkH o ∧ o.length = x.length + y.length + 1 ∧ (∀ m, i + y.length + 1 ≤ m → o.getD m 0 = 0) ∧ hval o = hval out + H ^ (i + k) * (c + x.getD i 0 * hval (y.drop k)) ∧ ∀ res, Ev (fun f => jE.l1 f x y o ((i + 1 : Nat) : Int)) res → Ev (fun f => jE.l2 f x y out i c k) res := by
 intro d
 induction d with
 | zero =>
  intro out c k hd ho hol hc hk hz hc0
  have hk1 : k = y.length + 1 := by omega
  have := hc0 hk1
  subst this
  refine ⟨out, ho, hol, fun m hm => hz m (by omega), ?_, fun res hres => Ev.step (fun f => jEs hxl hi (by omega) f) hres⟩
  have e : y.drop k = [] := List.drop_eq_nil_of_le (by omega)
  rw [e, jAE]; simp
 | succ d ih =>
  intro out c k hd ho hol hc hk hz hc0
  by_cases hgo : k < y.length ∨ 0 < c
  ·
   have hk2 : k ≤ y.length := by
    by_cases e : k = y.length + 1
    ·
     have := hc0 e; omega
    ·
     omega
   obtain ⟨s, c', hs, hc', hsum, hstep⟩ := jHd hxl hyl hi hk2 hol (hx.at i) (hy.at k) (ho.at (i + k)) hc hgo
   have hl : i + k < out.length := by omega
   have hv := jHc hl hsum
   have hcz : k + 1 = y.length + 1 → c' = 0 := by
    intro e
    rw [hz (i + k) (by omega), getD_none (by omega : y.length ≤ k), Int.mul_zero, H_eq] at hsum
    rw [H_eq] at hc hc' hs
    clear hv hstep ih
    omega
   clear hsum
   obtain ⟨o, h1, h2, h3, h4, h5⟩ := ih (out.set (i + k) s) c' (k + 1) (by clear hv; omega) (ho.set _ hs.1 hs.2) (by rw [List.length_set]; exact hol) hc' (by clear hv; omega) (fun m hm => by clear hv; rw [getD_set_ne (by omega)]; exact hz m (by omega)) hcz
   exact ⟨o, h1, h2, h3, h4.trans hv, fun res hres => Ev.step hstep (h5 res hres)⟩
  ·
   have hcz : c = 0 := by omega
   subst hcz
   refine ⟨out, ho, hol, fun m hm => hz m (by omega), ?_, fun res hres => Ev.step (fun f => jEs hxl hi (by omega) f) hres⟩
   have e : y.drop k = [] := List.drop_eq_nil_of_le (by omega)
   rw [e, jAE]; simp
theorem jGJ (x y : List Int) (hx : OkH x) (hy : OkH y) (hxl : x.length ≤ 8589934590) (hyl : y.length ≤ 8589934590) : ∀ (d : Nat) (out : List Int) (i : Nat), x.length - i = d → i ≤ x.length → OkH out → out.length = x.length + y.length + 1 → (∀ m, i + y.length ≤ m → out.getD m 0 = 0) →
  Ev (fun f => jE.l1 f x y out i) (dg (hval out + H ^ i * (hval (x.drop i) * hval y))) := by
 intro d
 induction d with
 | zero =>
  intro out i hd hi ho hol hz
  have e : x.drop i = [] := List.drop_eq_nil_of_le (by omega)
  refine Ev.step (f := fun f => (jI.f f out).bind fun t => some t) (fun f => by simp only [jE.l1]; rw [if_neg (by omega)]) ?_
  rw [e, jAE]
  simp only [Int.zero_mul, Int.mul_zero, Int.add_zero]
  exact Ev.bind (jBj ho (by omega)) (Ev.now _)
 | succ d ih =>
  intro out i hd hi ho hol hz
  obtain ⟨o, h1, h2, h3, h4, h5⟩ := jHe x y hx hy hxl hyl i (by omega) (y.length + 1) out 0 0 (by omega) ho hol ⟨Int.le_refl _, jBJ⟩ (by omega) (fun m hm => hz m (by omega)) (fun _ => rfl)
  refine Ev.step (f := fun f => jE.l2 f x y out i 0 0) (fun f => by simp only [jE.l1]; rw [if_pos (by omega)]) (h5 _ ?_)
  have := ih o (i + 1) (by omega) (by omega) h1 h2 (fun m hm => h3 m (by omega))
  have e : hval out + H ^ i * (hval (x.drop i) * hval y) = hval o + H ^ (i + 1) * (hval (x.drop (i + 1)) * hval y) := by
   rw [h4, jAR x i, List.drop_zero, show i + 0 = i from rfl, Int.zero_add, jAa, Int.add_mul, Int.mul_add, Int.mul_assoc H, Int.mul_assoc (H ^ i) H, Int.add_assoc]
  rw [e]
  exact this
theorem jGI (x y : List Int) (hxl : x.length ≤ 8589934590) (hyl : y.length ≤ 8589934590) (res : List Int) (h : Ev (fun f => jE.l1 f x y (List.replicate (x.length + y.length + 1) 0) 0) res) : ∀ (d i : Nat), x.length + y.length + 1 - i = d → i ≤ x.length + y.length + 1 → Ev (fun f => jE.l0 f x y (List.replicate i 0) i) res := by
 have hw : wrap64 (wrap64 ((x.length : Int) + (y.length : Int)) + 1) = ((x.length + y.length + 1 : Nat) : Int) := by
  rw [w64 (x := (x.length : Int) + (y.length : Int)) (by omega), w64 (by omega)]
  omega
 intro d
 induction d with
 | zero =>
  intro i hd hi
  have e : i = x.length + y.length + 1 := by omega
  subst e
  exact Ev.step (fun f => by simp only [jE.l0, hw]; rw [if_neg (by omega)]) h
 | succ d ih =>
  intro i hd hi
  refine Ev.step (fun f => ?_) (ih (i + 1) (by omega) (by omega))
  simp only [jE.l0, hw]
  rw [if_pos (by omega), if_pos (by simp; omega), w64 (by omega), show (i : Int) + 1 = ((i + 1 : Nat) : Int) from by omega, List.replicate_succ']
theorem jER {a b : List Int} (ha : Ok a) (hb : Ok b) (hal : a.length ≤ 4294967295) (hbl : b.length ≤ 4294967295) : Ev (fun k => jE.f k a b) (dg (val a * val b)) := by
 unfold jE.f
 have l1 := jAh a
 have l2 := jAh b
 refine Ev.bind (jAn ha (by omega)) (Ev.bind (jAn hb (by omega)) ?_)
 have h := jGJ (halves a) (halves b) (jAm ha) (jAm hb) (by omega) (by omega) _ (List.replicate ((halves a).length + (halves b).length + 1) 0) 0 rfl (by omega) (OkH.rep _) (by simp) (fun m _ => by rw [List.getD_eq_getElem?_getD, List.getElem?_replicate]; split <;> rfl)
 simp only [jDS, List.drop_zero, jAS, Int.pow_zero, Int.one_mul, Int.zero_add] at h
 exact jGI (halves a) (halves b) (by omega) (by omega) _ h _ 0 rfl (by omega)
end Go.Proofs.Ytijgeonhbmgikaa.EOOctetGets
end
section
set_option linter.unusedVariables false
set_option linter.unusedSimpArgs false
namespace Go.Proofs.Ytijgeonhbmgikaa.EOOctetGets
open Go.RowKit Go.Proofs.Ytijgeonhbmgikaa.POOctetGets Go.Proofs.YtijgeonhbmgikaaN Go.Proofs.YtijgeonhbmgikaaW.PrintWords Go.Proofs.YtijgeonhbmgikaaW.PrintLast Go.Proofs.YtijgeonhbmgikaaW.PrintMore
theorem jIX {n : Int} (h : 0 ≤ n ∧ n < B) : Ev (fun k => vv.f k n) (dg n) := by
 have := jDM (Ok.one h.1 h.2) (show [n].length < 17592186044416 from by simp)
 rw [val_one] at this
 exact Ev.bind this (Ev.now _)
end Go.Proofs.Ytijgeonhbmgikaa.EOOctetGets
end
section
set_option linter.unusedVariables false
set_option linter.unusedSimpArgs false
namespace Go.Proofs.Ytijgeonhbmgikaa.EOOctetGets
open Go.RowKit Go.Proofs.Ytijgeonhbmgikaa.POOctetGets Go.Proofs.YtijgeonhbmgikaaN Go.Proofs.YtijgeonhbmgikaaW.PrintWords Go.Proofs.YtijgeonhbmgikaaW.PrintLast Go.Proofs.YtijgeonhbmgikaaW.PrintMore
def divd (a b : List Int) : List Int × List Int × Int := if Held a ∧ Held b then (if val b = 0 then ([], [], 30) else (dg (val a / val b), dg (val a % val b), 0)) else ([], [], 1)
def jGC (a : List Int) (n : Int) : List Int × Int × Int := if Held a then (if n = 0 then ([], 0, 30) else (dg (val a / n), val a % n, 0)) else ([], 0, 1)
theorem jHD {q : List Int} (hq : Ok q) {j : Nat} (h : val (q.take (j + 1)) = 0) : val (q.take j) = 0 ∧ (j < q.length → q.getD j 0 = 0) := by
 by_cases hj : j < q.length
 ·
  rw [jAe hj] at h
  have h1 := vC (hq.take j)
  have h2 := Int.mul_nonneg (Int.le_of_lt (qN j)) (hq.at j).1
  refine ⟨by omega, fun _ => ?_⟩
  rcases Int.mul_eq_zero.1 (show B ^ j * q.getD j 0 = 0 by omega) with h3 | h3
  ·
   have := qN j; omega
  ·
   exact h3
 ·
  rw [List.take_of_length_le (by omega)] at h
  rw [List.take_of_length_le (by omega)]
  exact ⟨h, fun h' => absurd h' hj⟩
theorem jGx {P r q r' a n T : Int} (hn : 0 < n) (h : r * B + a = n * q + r') (P0 : 0 ≤ P) : (r * (P * B) + (T + P * a)) / n = P * q + (r' * P + T) / n ∧ (r * (P * B) + (T + P * a)) % n = (r' * P + T) % n := by
 have e : r * (P * B) + (T + P * a) = (r' * P + T) + n * (P * q) := by
  have h1 : P * (r * B + a) = P * (n * q + r') := by rw [h]
  rw [Int.mul_add, Int.mul_add] at h1
  have h2 : r * (P * B) = P * (r * B) := by rw [← Int.mul_assoc, Int.mul_comm r P, Int.mul_assoc]
  have h3 : n * (P * q) = P * (n * q) := by rw [← Int.mul_assoc, Int.mul_comm n P, Int.mul_assoc]
  rw [h2, h3, Int.mul_comm r' P]
  omega
 rw [e]
 constructor
 ·
  rw [Int.add_mul_ediv_left _ _ (Int.ne_of_gt hn)]; omega
 ·
  rw [Int.add_mul_emod_self_left]
theorem jHW {a : List Int} (ha : Ok a) (hal : a.length ≤ 1000) {n : Int} (h0 : 0 < n) (hnB : n < B) : ∀ (j : Nat) (q : List Int) (r : Int), j ≤ a.length → q.length = a.length → Ok q → val (q.take j) = 0 → (0 ≤ r ∧ r < n) → Ev (fun k => vJ.l0 k a n q r ((j : Int) - 1)) (dg (val q + (r * B ^ j + val (a.take j)) / n), (r * B ^ j + val (a.take j)) % n, 0) := by
 intro j
 induction j with
 | zero =>
  intro q r hj hql hq hz hr
  refine Ev.step (fun k => by rw [vJ.l0]) (Ev.neg (by omega) (Ev.bind (jBz hq (by omega)) (Ev.eq (Ev.now _) ?_)))
  rw [List.take_zero, jAF, Int.pow_zero, Int.mul_one, Int.add_zero, Int.ediv_eq_zero_of_lt hr.1 hr.2, Int.emod_eq_of_lt hr.1 hr.2, Int.add_zero]
 | succ j ih =>
  intro q r hj hql hq hz hr
  obtain ⟨hz1, hz2⟩ := jHD hq hz
  have hj1 : j < q.length := by omega
  have hzj := hz2 hj1
  have haj := ha.at j
  have e : (((j + 1 : Nat) : Int) - 1) = (j : Int) := by omega
  have hd := jFK hr.1 hr.2 haj hnB
  have hlt := jFJ hr.1 hr.2 haj
  have hge : 0 ≤ (r * B + a.getD j 0) / n := Int.ediv_nonneg (by have := Int.mul_nonneg hr.1 (Int.le_of_lt jBO); omega) (by omega)
  have hm0 := Int.emod_nonneg (r * B + a.getD j 0) (Int.ne_of_gt h0)
  have hm1 := Int.emod_lt_of_pos (r * B + a.getD j 0) h0
  have hdm := Int.mul_ediv_add_emod (r * B + a.getD j 0) n
  rw [e]
  refine Ev.step (fun k => by rw [vJ.l0, qj]) (Ev.pos (by omega) (Ev.pos (by omega) (Ev.pos (by omega) (Ev.bind hd ?_))))
  refine Ev.pos (c := (j : Int) < (q.length : Int)) (by omega) ?_
  rw [w64 (by omega), Int.toNat_natCast]
  have hq' := hq.set j hge hlt
  have hv : val (q.set j ((r * B + a.getD j 0) / n)) = val q + B ^ j * ((r * B + a.getD j 0) / n) := by rw [jBc hj1, hzj, Int.sub_zero]
  have ht : val ((q.set j ((r * B + a.getD j 0) / n)).take j) = 0 := by rw [List.take_set_of_le (Nat.le_refl j)]; exact hz1
  refine Ev.eq (ih _ _ (by omega) (by rw [List.length_set]; exact hql) hq' ht ⟨hm0, hm1⟩) ?_
  have hja : j < a.length := by omega
  obtain ⟨c1, c2⟩ := jGx (P := B ^ j) (T := val (a.take j)) h0 hdm.symm (Int.le_of_lt (qN j))
  rw [hv, jAe hja, qG, c1, c2, Int.add_assoc]
theorem jHX {a : List Int} (ha : Ok a) {n : Int} (h0 : 0 ≤ n) (hnB : n < B) : Ev (fun k => vJ.f k a n) (jGC a n) := by
 unfold vJ.f jGC
 refine Ev.vY (jCG a) ?_
 by_cases hh : Held a
 ·
  rw [if_pos hh]
  refine Ev.pos (decide_eq_true hh) ?_
  by_cases hn : n = 0
  ·
   rw [if_pos hn]; exact Ev.pos hn (Ev.now _)
  ·
   rw [if_neg hn]
   have hl := hh.1
   refine Ev.neg hn (Ev.pos (by omega) (Ev.pos (by omega) ?_))
   rw [Int.toNat_natCast, w64 (by omega)]
   have := jHW ha (by omega) (by omega) hnB a.length (List.replicate a.length 0) 0 (Nat.le_refl _) List.length_replicate (Ok.rep _) (by rw [List.take_of_length_le (by simp)]; exact jAr _) ⟨Int.le_refl _, by omega⟩
   rw [jAr, List.take_length, Int.zero_mul, Int.zero_add, Int.zero_add] at this
   exact this
 ·
  rw [if_neg hh]
  exact Ev.neg (by simpa using hh) (Ev.now _)
theorem jEP {l : List Int} {i : Nat} (x : List Int) (h : i ≤ l.length) : (Go.splice l i x).take i = l.take i := by
 unfold Go.splice
 rw [List.take_append_of_le_length (by rw [List.length_take]; omega), List.take_take, Nat.min_self]
theorem jEQ {l : List Int} {i : Nat} (x : List Int) (h : i ≤ l.length) : (Go.splice l i x).drop i = x ++ l.drop (i + x.length) := by
 unfold Go.splice
 rw [List.drop_append_of_le_length (by rw [List.length_take]; omega), List.drop_eq_nil_of_le (by rw [List.length_take]; omega), List.nil_append]
theorem jGB {l x : List Int} {i : Nat} (hl : Ok l) (hx : Ok x) : Ok (Go.splice l i x) := by
 unfold Go.splice
 exact (hl.take _).append (hx.append (hl.drop _))
theorem drop_zero {l : List Int} (hl : Ok l) {n : Nat} (h : val l < B ^ n) (hn : n ≤ l.length) : val (l.drop n) = 0 := by
 have e := zH l n hn
 have h1 := vC (hl.take n)
 have h2 := vC (hl.drop n)
 rcases Int.lt_or_le 0 (val (l.drop n)) with h3 | h3
 ·
  have : B ^ n * 1 ≤ B ^ n * val (l.drop n) := Int.mul_le_mul_of_nonneg_left (by omega) (Int.le_of_lt (qN n))
  omega
 ·
  omega
theorem jJZ {u q : List Int} (hu : Ok u) (hul : u.length ≤ 1000) (hq : Ok q) (hql : q.length ≤ 1000) {V : Int} (hV : val u < V) {s : Nat} (hs : s ≤ 63) : Ev (fun k => (vX.f k q).bind fun t => (jH.f k u (wrap64 (-(s : Int)))).bind fun r => some (t, r, (0 : Int))) (dg ((val u + V * val q) / V), dg ((val u + V * val q) % V / 2 ^ s), 0) := by
 have h0 := vC hu
 have hVp : 0 < V := by omega
 rw [Int.add_mul_ediv_left _ _ (Int.ne_of_gt hVp), Int.add_mul_emod_self_left, Int.ediv_eq_zero_of_lt h0 hV, Int.emod_eq_of_lt h0 hV, Int.zero_add, w64 (by omega)]
 refine Ev.bind (jBz hq (by omega)) ?_
 have hsh : Ev (fun k => jH.f k u (-(s : Int))) (dg (val u / 2 ^ s)) := by
  by_cases hz : s = 0
  ·
   subst hz
   have := jCV hu (by omega) (n := 0) (Int.le_refl _)
   simpa using this
  ·
   have := jGE hu (by omega) (n := -(s : Int)) (by omega)
   rw [show (-(-(s : Int))).toNat = s from by omega] at this
   exact this
 exact Ev.bind hsh (Ev.now _)
theorem jFl {u W : List Int} {j n : Nat} (h : j + n + 1 ≤ u.length) (hW : (u.take (j + n + 1)).drop j = W) : W.length = n + 1 ∧ u.drop j = W ++ u.drop (j + (n + 1)) := by
 constructor
 ·
  rw [← hW, List.length_drop, List.length_take]; omega
 ·
  rw [← hW, List.drop_take, ← List.drop_drop, show j + n + 1 - j = n + 1 from by omega, List.take_append_drop]
theorem jKF {x y : Int} (hy : 0 < y) (hx : 0 ≤ x) : x % y ≤ x := by
 have h1 := Int.mul_nonneg (Int.le_of_lt hy) (Int.ediv_nonneg hx (Int.le_of_lt hy))
 have h2 := Int.mul_ediv_add_emod x y
 omega
theorem jKS {j n m : Nat} (h : j + n + 1 ≤ m) (hm : m ≤ 900) : mn (wrap64 (wrap64 ((j : Int) + (n : Int)) + 1)) (m : Int) = ((j + n + 1 : Nat) : Int) := by
 rw [w64 (x := (j : Int) + (n : Int)) (by omega), w64 (by omega)]
 unfold mn
 split <;> omega
theorem jJX {u v q : List Int} {s : Int} {j : Nat} (hmn : mn (wrap64 (wrap64 ((j : Int) + (v.length : Int)) + 1)) (u.length : Int) = ((j + v.length + 1 : Nat) : Int)) (hj : j < q.length) (hu : j + v.length + 1 ≤ u.length) (hq : q.length ≤ 1000) (k : Nat) : vF.l0 (k + 1) s u v q (j : Int) = (jh.f k ((u.take (j + v.length + 1)).drop j) v).bind fun t => vF.l0 k s (Go.splice u j t.2) v (q.set j t.1) ((j : Int) - 1) := by
 have c0 : (j : Int) ≥ 0 := by omega
 have c1 : (0 : Int) ≤ (j : Int) := by omega
 have c2 : (j : Int) ≤ ((j + v.length + 1 : Nat) : Int) := by omega
 have c3 : ((j + v.length + 1 : Nat) : Int) ≤ (u.length : Int) := by omega
 have c4 : (j : Int) < (q.length : Int) := by omega
 have hw : wrap64 ((j : Int) - 1) = (j : Int) - 1 := w64 (by omega)
 rw [vF.l0, hmn, if_pos c0, if_pos c1, if_pos c2, if_pos c3]
 simp only [if_pos c4, Int.toNat_natCast, hw]
theorem jJY {v : List Int} (hv : Ok v) (hvl : v.length ≤ 900) (hv0 : 0 < v.length) (hvt : 0 < v.getD (v.length - 1) 0) {s : Nat} (hs : s ≤ 63) : ∀ (j : Nat) (u q : List Int), j = j → Ok u → Ok q → u.length ≤ 900 → q.length + v.length = u.length → j ≤ q.length → val (q.take j) = 0 → val (u.drop j) < val v → Ev (fun k => vF.l0 k (s : Int) u v q ((j : Int) - 1)) (dg ((val u + val v * val q) / val v), dg ((val u + val v * val q) % val v / 2 ^ s), 0) := by
 intro j
 induction j with
 | zero =>
  intro u q _ hu hq hul hl hj hz hlt
  refine Ev.step (fun k => by rw [vF.l0]) (Ev.neg (by omega) ?_)
  exact jJZ hu (by omega) hq (by omega) (by simpa using hlt) hs
 | succ j ih =>
  intro u q _ hu hq hul hl hj hz hlt
  obtain ⟨hz1, hz2⟩ := jHD hq hz
  have hj1 : j < q.length := by omega
  have hzj := hz2 hj1
  have hju : j < u.length := by omega
  have e : (((j + 1 : Nat) : Int) - 1) = (j : Int) := by omega
  have hu1 : j + v.length + 1 ≤ u.length := by omega
  have hstp := jJX (s := (s : Int)) (jKS hu1 hul) hj1 hu1 (by omega)
  have hV0 := vC hv
  have hwd : ∃ W, (u.take (j + v.length + 1)).drop j = W := ⟨_, rfl⟩
  obtain ⟨W, hW⟩ := hwd
  obtain ⟨hWl, hWd⟩ := jFl (u := u) (j := j) (n := v.length) (by omega) hW
  have hWo : Ok W := by rw [← hW]; exact (hu.take _).drop _
  have hup := drop_zero (hu.drop (j + 1)) (n := v.length) (Int.lt_trans hlt (jAB hv)) (by rw [List.length_drop]; omega)
  rw [List.drop_drop, show j + 1 + v.length = j + (v.length + 1) from by omega] at hup
  have hWv : val W = val (u.drop j) := by rw [hWd, val_append, hup, Int.mul_zero, Int.add_zero]
  have hWlt : val W < val v * B := by
   rw [hWv, qw hju]
   have h1 := (hu.at j).2
   have h2 : B * (val (u.drop (j + 1)) + 1) ≤ B * val v := Int.mul_le_mul_of_nonneg_left (by omega) (Int.le_of_lt jBO)
   rw [Int.mul_add, Int.mul_comm B (val v)] at h2
   omega
  have hd := jIM hWo hv hWl hvl hv0 hvt hWlt
  have hVpos : 0 < val v := by
   rcases Int.lt_or_le 0 (val v) with h | h
   ·
    exact h
   ·
    have h0 : val v = 0 := by omega
    rw [h0, Int.zero_mul] at hWlt
    have := vC hWo
    omega
  have hQ0 : 0 ≤ val W / val v := Int.ediv_nonneg (vC hWo) hV0
  have hQB : val W / val v < B := Int.ediv_lt_of_lt_mul hVpos (by rw [Int.mul_comm]; exact hWlt)
  have hR0 := Int.emod_nonneg (val W) (Int.ne_of_gt hVpos)
  have hR1 := Int.emod_lt_of_pos (val W) hVpos
  have hpl : (jDO W.length (dg (val W % val v))).length = W.length := jGR (jBU (Int.lt_of_le_of_lt (jKF hVpos (vC hWo)) (jAB hWo)))
  rw [e]
  rw [hW] at hstp
  refine Ev.step hstp (Ev.bind hd ?_)
  generalize hP : jDO W.length (dg (val W % val v)) = P at hpl
  have hPv : val P = val W % val v := by rw [← hP, jGQ, jAC hR0]
  have hPo : Ok P := by rw [← hP]; exact jHt (jAo _)
  have hu' : Ok (Go.splice u j P) := jGB hu hPo
  have hul' : (Go.splice u j P).length = u.length := Go.length_splice u j P (by omega)
  have hdr : val ((Go.splice u j P).drop j) = val W % val v := by
   rw [jEQ P (by omega), val_append, hPv, hpl, hWl, hup, Int.mul_zero, Int.add_zero]
  have hval' : val (Go.splice u j P) + B ^ j * (val v * (val W / val v)) = val u := by
   have e1 := zH (Go.splice u j P) j (by omega)
   have e2 := zH u j (by omega)
   rw [jEP P (by omega), hdr] at e1
   rw [e1, e2, ← hWv, Int.add_assoc, ← Int.mul_add, Int.add_comm (val W % val v), Int.mul_ediv_add_emod]
  have hv' : val (q.set j (val W / val v)) = val q + B ^ j * (val W / val v) := by rw [jBc hj1, hzj, Int.sub_zero]
  have ht : val ((q.set j (val W / val v)).take j) = 0 := by rw [List.take_set_of_le (Nat.le_refl j)]; exact hz1
  have hfin : val (Go.splice u j P) + val v * val (q.set j (val W / val v)) = val u + val v * val q := by
   rw [hv', Int.mul_add, ← hval', ← Int.mul_assoc (val v), Int.mul_comm (val v) (B ^ j), Int.mul_assoc (B ^ j)]
   omega
  have := ih (Go.splice u j P) (q.set j (val W / val v)) rfl hu' (hq.set j hQ0 hQB) (by omega) (by rw [List.length_set]; omega) (by rw [List.length_set]; omega) ht (by rw [hdr]; exact hR1)
  rw [hfin] at this
  exact this
theorem jKk {a b : List Int} (ha : Ok a) (hb : Ok b) : Ev (fun k => vF.f k a b) (divd a b) := by
 unfold vF.f divd
 refine Ev.vY (jCG a) ?_
 by_cases hha : Held a
 ·
  by_cases hhb : Held b
  ·
   rw [if_pos ⟨hha, hhb⟩]
   refine Ev.pos (decide_eq_true hha) (Ev.vY (jCG b) ?_)
   rw [decide_eq_true hhb]
   refine Ev.step (fun k => by rw [vF.j0]) (Ev.neg (by simp) ?_)
   have hal := hha.1
   have hbl := hhb.1
   have ha0 := vC ha
   have hb0 := vC hb
   by_cases h0 : b.length = 0
   ·
    have hbn : b = [] := List.eq_nil_of_length_eq_zero h0
    subst hbn
    rw [if_pos jAF]
    exact Ev.pos (by simp) (Ev.now _)
   ·
    have hbt : b.getD (b.length - 1) 0 ≠ 0 := by
     rcases hhb.2 with h | h
     ·
      subst h; simp at h0
     ·
      exact h
    have hbtp : 0 < b.getD (b.length - 1) 0 := by have := (hb.at (b.length - 1)).1; omega
    have hbv : 0 < val b := by
     have e := zH b (b.length - 1) (by omega)
     rw [qw (by omega), List.drop_eq_nil_of_le (by omega), jAF, Int.mul_zero, Int.add_zero] at e
     have h1 := vC (hb.take (b.length - 1))
     have h2 := Int.mul_pos (qN (b.length - 1)) hbtp
     omega
    rw [if_neg (Int.ne_of_gt hbv)]
    refine Ev.neg (by omega) ?_
    by_cases h1 : b.length = 1
    ·
     obtain ⟨b0, hb1⟩ : ∃ b0, b = [b0] := by
      match b, h1 with
      | [b0], _ => exact ⟨b0, rfl⟩
     subst hb1
     have hbo := hb.at 0
     have hs := jHX ha (n := b0) hbo.1 hbo.2
     have hbz : b0 ≠ 0 := hbt
     unfold jGC at hs
     rw [if_pos hha, if_neg hbz] at hs
     have hb0' : 0 < b0 := by have := hbo.1; have e : [b0].getD 0 0 = b0 := rfl; rw [e] at this; omega
     have hm0 := Int.emod_nonneg (val a) hbz
     have hm1 := Int.emod_lt_of_pos (val a) hb0'
     have hbB : b0 < B := hbo.2
     refine Ev.pos (by simp) (Ev.pos (by simp) (Ev.bind hs (Ev.vY (of_eq (n := val a % b0) ⟨hm0, by omega⟩) (Ev.eq (Ev.now _) ?_))))
     rw [val_one]
    ·
     refine Ev.neg (by omega) (Ev.bind (jGu ha hb (by omega) (by omega)) ?_)
     by_cases hc : val a < val b
     ·
      refine Ev.pos (jAq.2 hc) (Ev.bind (jBz ha (by omega)) (Ev.eq (Ev.now _) ?_))
      rw [Int.ediv_eq_zero_of_lt ha0 hc, Int.emod_eq_of_lt ha0 hc, jAs]
     ·
      refine Ev.neg (fun h => hc (jAq.1 h)) ?_
      have hwl : wrap64 ((b.length : Int) - 1) = ((b.length - 1 : Nat) : Int) := by rw [w64 (by omega)]; omega
      rw [hwl, qj]
      refine Ev.pos (by omega) (Ev.pos (by omega) ?_)
      obtain ⟨s, hs, he, _, _, _⟩ := jGd hbtp (hb.at _).2
      refine Ev.vY he ?_
      have hp := two_pos s
      have hsa := jCV ha (by omega) (n := (s : Int)) (by omega)
      have hsb := jCV hb (by omega) (n := (s : Int)) (by omega)
      rw [Int.toNat_natCast, Nat.min_eq_left (by omega)] at hsa hsb
      have hUV : val b * 2 ^ s ≤ val a * 2 ^ s := Int.mul_le_mul_of_nonneg_right (by omega) (Int.le_of_lt hp)
      have hVp : 0 < val b * 2 ^ s := Int.mul_pos hbv hp
      have hB2 : (2 : Int) ^ s ≤ B := jBl (by omega)
      have hlenU : (dg (val a * 2 ^ s)).length ≤ 9 := by
       refine jBU ?_
       have h1 := jAB ha
       have h2 := qb hal
       have h3 : val a * 2 ^ s ≤ val a * B := Int.mul_le_mul_of_nonneg_left hB2 ha0
       have h4 : val a * B < B ^ 8 * B := Int.mul_lt_mul_of_pos_right (by omega) jBO
       rw [qG]
       omega
      have hlenV : (dg (val b * 2 ^ s)).length ≤ (dg (val a * 2 ^ s)).length := by
       refine jBU ?_
       have := jGc (n := val a * 2 ^ s) (Nat.le_refl _)
       omega
      have hV0 : 0 < (dg (val b * 2 ^ s)).length := by
       rcases Nat.eq_zero_or_pos (dg (val b * 2 ^ s)).length with h | h
       ·
        have := (jDB (Int.le_of_lt hVp)).1 (List.eq_nil_of_length_eq_zero h)
        omega
       ·
        exact h
      have hvt : 0 < (dg (val b * 2 ^ s)).getD ((dg (val b * 2 ^ s)).length - 1) 0 := by
       rcases jEe (val b * 2 ^ s) with h | h
       ·
        rw [h] at hV0; simp at hV0
       ·
        have := ((jAo (val b * 2 ^ s)).at ((dg (val b * 2 ^ s)).length - 1)).1; omega
      refine Ev.bind hsa ?_
      refine Ev.zo (Ev.pos (by simp; omega) (Ev.zo (Ev.bind hsb ?_)))
      have hvv := jAC (Int.le_of_lt hVp)
      have huv := jAC (n := val a * 2 ^ s) (by omega)
      have huo := jAo (val a * 2 ^ s)
      have hvo := jAo (val b * 2 ^ s)
      have hVlow := (jEe (val b * 2 ^ s))
      generalize hU : dg (val a * 2 ^ s) = U at *
      generalize hV : dg (val b * 2 ^ s) = V at *
      have hul2 : (U ++ [0, 0]).length = U.length + 2 := by simp
      have hwq : wrap64 (((U ++ [0, 0]).length : Int) - (V.length : Int)) = ((U.length + 2 - V.length : Nat) : Int) := by rw [w64 (by omega)]; omega
      rw [hwq, Int.toNat_natCast]
      refine Ev.pos (by omega) (Ev.pos (by omega) (Ev.zo ?_))
      rw [List.length_replicate, w64 (by omega)]
      have huo2 : Ok (U ++ [0, 0]) := huo.append (by decide)
      have huv2 : val (U ++ [0, 0]) = val a * 2 ^ s := by rw [val_append, huv]; simp [val]
      have hlow : B ^ (V.length - 1) ≤ val V := by
       have e := zH V (V.length - 1) (by omega)
       rw [qw (by omega), List.drop_eq_nil_of_le (by omega), jAF, Int.mul_zero, Int.add_zero] at e
       have h1 := vC (hvo.take (V.length - 1))
       have h2 : B ^ (V.length - 1) * 1 ≤ B ^ (V.length - 1) * V.getD (V.length - 1) 0 := Int.mul_le_mul_of_nonneg_left (by omega) (Int.le_of_lt (qN _))
       omega
      have hdlt : val ((U ++ [0, 0]).drop (U.length + 2 - V.length)) < val V := by
       rcases Int.lt_or_le (val ((U ++ [0, 0]).drop (U.length + 2 - V.length))) (val V) with h | h
       ·
        exact h
       ·
        exfalso
        have e := zH (U ++ [0, 0]) (U.length + 2 - V.length) (by omega)
        have h1 := vC (huo2.take (U.length + 2 - V.length))
        have h2 : B ^ (U.length + 2 - V.length) * B ^ (V.length - 1) ≤ B ^ (U.length + 2 - V.length) * val ((U ++ [0, 0]).drop (U.length + 2 - V.length)) := Int.mul_le_mul_of_nonneg_left (by omega) (Int.le_of_lt (qN _))
        rw [← Int.pow_add, show U.length + 2 - V.length + (V.length - 1) = U.length + 1 from by omega] at h2
        have h3 := jAB huo
        have h4 := qb (show U.length ≤ U.length + 1 from by omega)
        omega
      have h := jJY hvo (by omega) hV0 hvt hs (U.length + 2 - V.length) (U ++ [0, 0]) (List.replicate (U.length + 2 - V.length) 0) rfl huo2 (Ok.rep _) (by omega) (by rw [List.length_replicate]; omega) (by rw [List.length_replicate]; exact Nat.le_refl _) (by rw [List.take_of_length_le (by simp)]; exact jAr _) hdlt
      rw [jAr, Int.mul_zero, Int.add_zero, huv2, hvv] at h
      obtain ⟨f1, f2⟩ := jFI (N := val a) (y := val b) (p := 2 ^ s) (Q := val a * 2 ^ s / (val b * 2 ^ s)) (r := val a * 2 ^ s % (val b * 2 ^ s)) hp hbv (by have := Int.mul_ediv_add_emod (val a * 2 ^ s) (val b * 2 ^ s); rw [Int.mul_comm (val b * 2 ^ s) (_ / _)] at this; exact this.symm) ⟨Int.emod_nonneg _ (Int.ne_of_gt hVp), Int.emod_lt_of_pos _ hVp⟩
      rw [f1, f2] at h
      exact h
  ·
   rw [if_neg (fun h => hhb h.2)]
   refine Ev.pos (decide_eq_true hha) (Ev.vY (jCG b) ?_)
   rw [decide_eq_false hhb]
   exact Ev.step (fun k => by rw [vF.j0]) (Ev.pos (c := (!false) = true) rfl (Ev.now _))
 ·
  rw [if_neg (fun h => hha h.1)]
  refine Ev.neg (by simpa using hha) ?_
  exact Ev.step (fun k => by rw [vF.j0]) (Ev.pos rfl (Ev.now _))
end Go.Proofs.Ytijgeonhbmgikaa.EOOctetGets
end
section
set_option linter.unusedVariables false
set_option linter.unusedSimpArgs false
namespace Go.Proofs.Ytijgeonhbmgikaa.EOOctetGets
open Go.RowKit Go.Proofs.Ytijgeonhbmgikaa.POOctetGets Go.Proofs.YtijgeonhbmgikaaN Go.Proofs.YtijgeonhbmgikaaW.PrintWords Go.Proofs.YtijgeonhbmgikaaW.PrintLast Go.Proofs.YtijgeonhbmgikaaW.PrintMore
theorem jHT {r b : List Int} (hr : Ok r) (hb : Ok b) (hrl : r.length ≤ 1000) (hbl : b.length ≤ 1000) (hV : 0 < val b) : ∀ (d : Nat) (low high : Int), (high - low).toNat = d → 0 ≤ low → low < high → high ≤ H → low * val b ≤ val r → val r < high * val b → Ev (fun k => jW.l0 k r b low high) (val r / val b) := by
 intro d
 induction d using Nat.strongRecOn with
 | _ d ih =>
  intro low high hd h0 h1 h2 h3 h4
  have hH : high ≤ 4294967296 := by rw [H_eq] at h2; exact h2
  have hw1 : IntKind.u64.wrap (high - low) = high - low := jAx (by omega) (by rw [B_eq]; omega)
  have hw2 : IntKind.u64.wrap (low + high) = low + high := jAx (by omega) (by rw [B_eq]; omega)
  have hw3 : IntKind.u64.wrap (Int.tdiv (low + high) 2) = (low + high) / 2 := by rw [Int.tdiv_eq_ediv_of_nonneg (by omega)]; exact jAx (by omega) (by rw [B_eq]; omega)
  by_cases hc : high - low > 1
  ·
   have hm0 : low < (low + high) / 2 := by omega
   have hm1 : (low + high) / 2 < high := by omega
   obtain ⟨m, hm⟩ : ∃ m, (low + high) / 2 = m := ⟨_, rfl⟩
   rw [hm] at hw3 hm0 hm1
   clear hm
   have hmB : m < B := by rw [B_eq]; omega
   have rm := (Row.of hb hbl).mul (Row.of (Ok.one (x := m) (by omega) hmB) (Nat.le_refl 1)) (p := 1001) (Nat.le_refl _)
   rw [val_one] at rm
   have hmul := jER hb (Ok.one (x := m) (by omega) hmB) (by omega) (by simp)
   rw [val_one] at hmul
   have hcmp := jEW rm.1 hr (by have := rm.2.2; omega) (by omega)
   rw [rm.2.1] at hcmp
   refine Ev.step (fun k => by rw [jW.l0, hw1, hw2, hw3]) (Ev.pos hc (Ev.bind hmul (Ev.bind hcmp ?_)))
   by_cases hq : val b * m ≤ val r
   ·
    refine Ev.pos ?_ (ih _ (by omega) m high rfl (by omega) (by omega) h2 (by rw [Int.mul_comm]; exact hq) h4)
    have := mt (jFM (x := val b * m) (y := val r)).1 (by omega)
    omega
   ·
    refine Ev.neg ?_ (ih _ (by omega) low m rfl h0 (by omega) (by omega) h3 (by rw [Int.mul_comm]; omega))
    have := (jFM (x := val b * m) (y := val r)).2 (by omega)
    omega
  ·
   have e : high = low + 1 := by omega
   subst e
   refine Ev.step (fun k => by rw [jW.l0, hw1]) (Ev.neg hc (Ev.eq (Ev.now _) ?_))
   have h5 : low ≤ val r / val b := Int.le_ediv_of_mul_le hV h3
   have h6 : val r / val b < low + 1 := Int.ediv_lt_of_lt_mul hV h4
   omega
theorem jHU {r b : List Int} (hr : Ok r) (hb : Ok b) (hrl : r.length ≤ 1000) (hbl : b.length ≤ 1000) (hV : 0 < val b) (h : val r < H * val b) : Ev (fun k => jW.f k r b) (val r / val b) := by
 have h2 : (0 : Int) * val b ≤ val r := by rw [Int.zero_mul]; exact vC hr
 exact jHT hr hb hrl hbl hV _ 0 4294967296 rfl (Int.le_refl _) (by decide) (by rw [H_eq]; decide) h2 h
theorem jIR {q : List Int} (hq : OkH q) {j : Nat} (hj : j < q.length) (h : hval (q.take (j + 1)) = 0) : hval (q.take j) = 0 ∧ q.getD j 0 = 0 := by
 have e := jBa (q.take (j + 1)) j (by rw [List.length_take]; omega)
 have hlt : j < (q.take (j + 1)).length := by rw [List.length_take]; omega
 have e2 : (q.take (j + 1)).getD j 0 = q.getD j 0 := by
  rw [List.getD_eq_getElem?_getD, List.getD_eq_getElem?_getD, List.getElem?_take_of_lt (by omega)]
 rw [jDu hlt, List.drop_eq_nil_of_le (by rw [List.length_take]; omega), jAE, Int.mul_zero, Int.add_zero, List.take_take, Nat.min_eq_left (by omega), e2, h] at e
 have h1 := jBF (hq.take j)
 have h2 := Int.mul_nonneg (Int.le_of_lt (jDc j)) (hq.at j).1
 refine ⟨by omega, ?_⟩
 rcases Int.mul_eq_zero.1 (show H ^ j * q.getD j 0 = 0 by omega) with h3 | h3
 ·
  have := jDc j; omega
 ·
  exact h3
theorem jCc {l : List Int} {i : Nat} (h : i < l.length) : hval (l.take (i + 1)) = hval (l.take i) + H ^ i * l.getD i 0 := by
 rw [List.take_succ_eq_append_getElem h, jCd, List.length_take, Nat.min_eq_left (by omega), List.getD_eq_getElem?_getD, List.getElem?_eq_getElem h]
 rfl
theorem jFi {P r q r' a n T : Int} (hn : 0 < n) (h : r * H + a = n * q + r') : (r * (P * H) + (T + P * a)) / n = P * q + (r' * P + T) / n ∧ (r * (P * H) + (T + P * a)) % n = (r' * P + T) % n := by
 have e : r * (P * H) + (T + P * a) = (r' * P + T) + n * (P * q) := by
  have h1 : P * (r * H + a) = P * (n * q + r') := by rw [h]
  rw [Int.mul_add, Int.mul_add] at h1
  have h2 : r * (P * H) = P * (r * H) := by rw [← Int.mul_assoc, Int.mul_comm r P, Int.mul_assoc]
  have h3 : n * (P * q) = P * (n * q) := by rw [← Int.mul_assoc, Int.mul_comm n P, Int.mul_assoc]
  rw [h2, h3, Int.mul_comm r' P]
  omega
 rw [e]
 constructor
 ·
  rw [Int.add_mul_ediv_left _ _ (Int.ne_of_gt hn)]; omega
 ·
  rw [Int.add_mul_emod_self_left]
theorem jJD {b x : List Int} {R : List Int × List Int × Int} (hx : x.length ≤ 1000) (h : Ev (fun k => jC.l1 k b x (List.replicate x.length 0) [] ((x.length : Int) - 1)) R) : ∀ (d i : Nat), x.length - i = d → i ≤ x.length → Ev (fun k => jC.l0 k b x (List.replicate i 0) i) R := by
 intro d
 induction d with
 | zero =>
  intro i hd hi
  obtain rfl : i = x.length := by omega
  refine Ev.step (fun k => by rw [jC.l0]) (Ev.neg (by omega) ?_)
  rw [w64 (by omega)]
  exact h
 | succ d ih =>
  intro i hd hi
  refine Ev.step (fun k => by rw [jC.l0]) (Ev.pos (by omega) (Ev.pos (by rw [List.length_replicate]; omega) ?_))
  have e : wrap64 ((i : Int) + 1) = ((i + 1 : Nat) : Int) := by rw [w64 (by omega)]; omega
  rw [e, ← List.replicate_succ']
  exact ih (i + 1) (by omega) (by omega)
theorem jHm {b x q : List Int} {rv : Int} {j : Nat} (hj : j < x.length) (hx : x.length ≤ 1000) {R : List Int} (hm : ∀ k, jE.f k (dg rv) [4294967296] = jE.f k (dg rv) [4294967296]) (k : Nat) : jC.l1 (k + 1) b x q (dg rv) (j : Int) = (jE.f k (dg rv) [4294967296]).bind fun t => (jL.f k t [x.getD j 0]).bind fun t => (jO.f k t b).bind fun c => if c ≥ 0 then ((jW.f k t b).bind fun y => if (j : Int) < (q.length : Int) then ((jE.f k b [(q.set j y).getD j 0]).bind fun m => (jc.f k t m).bind fun s => jC.l1 k b x (q.set j y) s.1 ((j : Int) - 1)) else none) else jC.l1 k b x q t ((j : Int) - 1) := by
 have c0 : (j : Int) ≥ 0 := by omega
 have c1 : (0 : Int) ≤ (j : Int) := by omega
 have c2 : (j : Int) < (x.length : Int) := by omega
 have hw : wrap64 ((j : Int) - 1) = (j : Int) - 1 := w64 (by omega)
 rw [jC.l1, if_pos c0]
 simp only [if_pos c1, if_pos c2, hw, qj, Int.toNat_natCast, zo]
theorem jJC {b x : List Int} (hb : Ok b) (hbl : b.length ≤ 100) (hV : 0 < val b) (hx : OkH x) (hxl : x.length ≤ 1000) : ∀ (j : Nat) (q : List Int) (rv : Int), j ≤ x.length → q.length = x.length → OkH q → hval (q.take j) = 0 → (0 ≤ rv ∧ rv < val b) → Ev (fun k => jC.l1 k b x q (dg rv) ((j : Int) - 1)) (dg (hval q + (rv * H ^ j + hval (x.take j)) / val b), dg ((rv * H ^ j + hval (x.take j)) % val b), 0) := by
 intro j
 induction j with
 | zero =>
  intro q rv hj hql hq hz hr
  refine Ev.step (fun k => by rw [jC.l1]) (Ev.neg (by omega) (Ev.bind (jBj hq (by omega)) (Ev.eq (Ev.now _) ?_)))
  rw [List.take_zero, jAE, Int.pow_zero, Int.mul_one, Int.add_zero, Int.ediv_eq_zero_of_lt hr.1 hr.2, Int.emod_eq_of_lt hr.1 hr.2, Int.add_zero]
 | succ j ih =>
  intro q rv hj hql hq hz hr
  have hj1 : j < q.length := by omega
  have hjx : j < x.length := by omega
  obtain ⟨hz1, hzj⟩ := jIR hq hj1 hz
  have hxj := hx.at j
  have e : (((j + 1 : Nat) : Int) - 1) = (j : Int) := by omega
  have hbB := jAB hb
  have hrB : rv < B ^ 100 := by have := qb hbl; omega
  have rr := Row.dg hr.1 hrB
  have rH : Row [4294967296] H 1 := ⟨Ok.one (by decide) (by rw [B_eq]; decide), val_one _, Nat.le_refl _⟩
  have rx : Row [x.getD j 0] (x.getD j 0) 1 := ⟨Ok.one hxj.1 (by have := hxj.2; rw [H_eq] at this; rw [B_eq]; omega), val_one _, Nat.le_refl _⟩
  have rm := rr.mul rH (p := 101) (Nat.le_refl _)
  have hmul := jER rr.1 rH.1 (by have := rr.2.2; omega) (by simp)
  rw [rr.2.1, rH.2.1] at hmul
  have ra := rm.add rx (p := 102) (Nat.le_refl _) (by decide)
  have hadd := jJH rm.1 rx.1 (by have := rm.2.2; omega) (by simp)
  rw [rm.2.1, rx.2.1] at hadd
  have hT0 := ra.pos
  have hTlt : rv * H + x.getD j 0 < H * val b := by
   have h1 : (rv + 1) * H ≤ val b * H := Int.mul_le_mul_of_nonneg_right (by omega) (Int.le_of_lt jBJ)
   rw [Int.add_mul, Int.one_mul, Int.mul_comm (val b)] at h1
   have := hxj.2
   omega
  have hcmp := jEW ra.1 hb (by have := ra.2.2; omega) (by omega)
  rw [ra.2.1] at hcmp
  have htk : ∀ y : Int, hval ((q.set j y).take j) = 0 := fun y => by rw [List.take_set_of_le (Nat.le_refl j)]; exact hz1
  have hdm := Int.mul_ediv_add_emod (rv * H + x.getD j 0) (val b)
  obtain ⟨f1, f2⟩ := jFi (P := H ^ j) (T := hval (x.take j)) hV hdm.symm
  rw [e, jCc hjx, jAa, f1, f2]
  refine Ev.step (jHm hjx hxl (R := []) (fun _ => rfl)) (Ev.bind hmul (Ev.bind hadd (Ev.bind hcmp ?_)))
  have hm0 := Int.emod_nonneg (rv * H + x.getD j 0) (Int.ne_of_gt hV)
  have hm1 := Int.emod_lt_of_pos (rv * H + x.getD j 0) hV
  generalize hT : rv * H + x.getD j 0 = T at *
  by_cases hc : val b ≤ T
  ·
   have htm := jHU ra.1 hb (by have := ra.2.2; omega) (by omega) hV (by rw [ra.2.1]; exact hTlt)
   rw [ra.2.1] at htm
   have hQ0 : 0 ≤ T / val b := Int.ediv_nonneg hT0 (Int.le_of_lt hV)
   have hQH : T / val b < H := Int.ediv_lt_of_lt_mul hV (by omega)
   have hQB : T / val b < B := by rw [H_eq] at hQH; rw [B_eq]; omega
   have hgd : (q.set j (T / val b)).getD j 0 = T / val b := by
    rw [List.getD_eq_getElem?_getD, List.getElem?_set_self hj1]
    rfl
   have rq : Row [T / val b] (T / val b) 1 := ⟨Ok.one hQ0 hQB, val_one _, Nat.le_refl _⟩
   have rbm := (Row.of hb hbl).mul rq (p := 101) (Nat.le_refl _)
   have hbm := jER hb rq.1 (by omega) (by simp)
   rw [rq.2.1] at hbm
   have hle : val b * (T / val b) ≤ T := Int.mul_ediv_self_le (Int.ne_of_gt hV)
   have hsub := jIw ra.1 rbm.1 (by have := ra.2.2; omega) (by have := rbm.2.2; omega)
   rw [ra.2.1, rbm.2.1, if_neg (by omega), show T - val b * (T / val b) = T % val b from by omega] at hsub
   refine Ev.pos ?_ (Ev.bind htm ?_)
   ·
    have := mt (jAq (x := T) (y := val b)).1 (by omega)
    omega
   ·
    refine Ev.pos (c := (j : Int) < (q.length : Int)) (by omega) ?_
    rw [hgd]
    refine Ev.bind hbm (Ev.bind hsub ?_)
    refine Ev.eq (ih (q.set j (T / val b)) (T % val b) (by omega) (by rw [List.length_set]; exact hql) (hq.set j hQ0 hQH) (htk _) ⟨hm0, hm1⟩) ?_
    rw [jFC hj1, hzj, Int.sub_zero, Int.add_assoc]
  ·
   have hQ : T / val b = 0 := Int.ediv_eq_zero_of_lt hT0 (by omega)
   have hM : T % val b = T := Int.emod_eq_of_lt hT0 (by omega)
   refine Ev.neg ?_ ?_
   ·
    have := (jAq (x := T) (y := val b)).2 (by omega)
    omega
   ·
    refine Ev.eq (ih q T (by omega) hql hq hz1 ⟨hT0, by omega⟩) ?_
    rw [hQ, hM, Int.mul_zero, Int.zero_add]
theorem jJE {a b : List Int} (ha : Ok a) (hb : Ok b) : Ev (fun k => jC.f k a b) (divd a b) := by
 unfold jC.f divd
 refine Ev.vY (jBA a) ?_
 by_cases hha : Held a
 ·
  by_cases hhb : Held b
  ·
   rw [if_pos ⟨hha, hhb⟩]
   refine Ev.pos (decide_eq_true hha) (Ev.vY (jBA b) ?_)
   rw [decide_eq_true hhb]
   refine Ev.step (fun k => by rw [jC.j0]) (Ev.neg (by simp) ?_)
   have hal := hha.1
   have hbl := hhb.1
   by_cases h0 : b.length = 0
   ·
    have hbn : b = [] := List.eq_nil_of_length_eq_zero h0
    subst hbn
    rw [if_pos jAF]
    exact Ev.pos (by simp) (Ev.now _)
   ·
    have hbv : 0 < val b := by
     have h1 := hhb.dg hb
     have h2 := vC hb
     rcases Int.lt_or_le 0 (val b) with h | h
     ·
      exact h
     ·
      rw [jFL h] at h1; rw [← h1] at h0; simp at h0
    rw [if_neg (Int.ne_of_gt hbv)]
    refine Ev.neg (by omega) ?_
    have hlong : Ev (fun k => jC.j1 k a b false) (dg (val a / val b), dg (val a % val b), 0) := by
     refine Ev.step (fun k => by rw [jC.j1]) (Ev.neg (by simp) (Ev.bind (jAn ha (by omega)) ?_))
     have hl := jAh a
     have hlg := jJC hb (by omega) hbv (jAm ha) (by omega) (halves a).length (List.replicate (halves a).length 0) 0 (Nat.le_refl _) List.length_replicate (OkH.rep _) (by rw [List.take_of_length_le (by simp)]; exact jDS _) ⟨Int.le_refl _, hbv⟩
     rw [jDS, List.take_length, Int.zero_mul, Int.zero_add, Int.zero_add, jAS, jAs] at hlg
     exact jJD (by omega) hlg _ 0 rfl (Nat.zero_le _)
    by_cases h1 : a.length = 1
    ·
     refine Ev.pos (by omega) ?_
     by_cases h2 : b.length = 1
     ·
      have eb : ((b.length : Int) == 1) = true := by rw [h2]; rfl
      rw [eb]
      obtain ⟨a0, rfl⟩ : ∃ a0, a = [a0] := by
       match a, h1 with
       | [a0], _ => exact ⟨a0, rfl⟩
      obtain ⟨b0, rfl⟩ : ∃ b0, b = [b0] := by
       match b, h2 with
       | [b0], _ => exact ⟨b0, rfl⟩
      rw [val_one] at hbv ⊢
      rw [val_one]
      have ha0 := ha.head
      have hb0 := hb.head
      obtain ⟨g1, _⟩ := jDT (n := a0) (a := b0) ha0 hbv
      have g2 := Int.ediv_nonneg ha0.1 (Int.le_of_lt hbv)
      have g3 := Int.ediv_le_self b0 ha0.1
      have g4 := Int.emod_nonneg a0 (Int.ne_of_gt hbv)
      have g5 := Int.emod_lt_of_pos a0 hbv
      have r0 : rd [a0] 0 = a0 := rfl
      have r1 : rd [b0] 0 = b0 := rfl
      refine Ev.step (fun k => by rw [jC.j1, r0, r1, g1, Int.tmod_eq_emod_of_nonneg ha0.1]) (Ev.pos rfl (Ev.pos (by simp) (Ev.pos (by simp) (Ev.neg (by omega) ?_))))
      refine Ev.bind (jIX (n := a0 / b0) ⟨g2, by omega⟩) ?_
      refine Ev.bind (jIX (n := a0 % b0) ⟨g4, by omega⟩) ?_
      exact Ev.now _
     ·
      have eb : ((b.length : Int) == 1) = false := by simp; omega
      rw [eb]
      exact hlong
    ·
     exact Ev.neg (by omega) hlong
  ·
   rw [if_neg (fun h => hhb h.2)]
   refine Ev.pos (decide_eq_true hha) (Ev.vY (jBA b) ?_)
   rw [decide_eq_false hhb]
   exact Ev.step (fun k => by rw [jC.j0]) (Ev.pos (c := (!false) = true) rfl (Ev.now _))
 ·
  rw [if_neg (fun h => hha h.1)]
  refine Ev.neg (by simpa using hha) ?_
  exact Ev.step (fun k => by rw [jC.j0]) (Ev.pos rfl (Ev.now _))
def gcdv (x y : Int) : Int := (Nat.gcd x.toNat y.toNat : Nat)
theorem jDy {x : Int} (h : 0 ≤ x) : gcdv x 0 = x := by unfold gcdv; simp; omega
theorem jFH {x y : Int} (hx : 0 ≤ x) (hy : 0 < y) : gcdv y (x % y) = gcdv x y := by
 unfold gcdv
 obtain ⟨n, rfl⟩ := Int.eq_ofNat_of_zero_le hx
 obtain ⟨m, rfl⟩ := Int.eq_ofNat_of_zero_le (Int.le_of_lt hy)
 rw [← Int.natCast_emod, Int.toNat_natCast, Int.toNat_natCast, Int.toNat_natCast, Nat.gcd_comm m, ← Nat.gcd_rec, Nat.gcd_comm]
theorem jCf (x y : Int) : 0 ≤ gcdv x y := by unfold gcdv; omega
theorem jIG {x y : Int} (hx : 0 ≤ x) (hy : 0 ≤ y) : gcdv x y ∣ x ∧ gcdv x y ∣ y := by
 unfold gcdv
 have h1 := Nat.gcd_dvd_left x.toNat y.toNat
 have h2 := Nat.gcd_dvd_right x.toNat y.toNat
 constructor
 ·
  have := Int.natCast_dvd_natCast.2 h1
  rwa [Int.toNat_of_nonneg hx] at this
 ·
  have := Int.natCast_dvd_natCast.2 h2
  rwa [Int.toNat_of_nonneg hy] at this
theorem jGi {x y : Int} (hx : 0 ≤ x) (hy : 0 ≤ y) {M : Int} (h1 : x < M) (h2 : y < M) : gcdv x y < M := by
 by_cases hz : x = 0
 ·
  subst hz
  unfold gcdv
  rw [Int.toNat_zero, Nat.gcd_zero_left]
  omega
 ·
  have := Int.le_of_dvd (by omega) (jIG hx hy).1
  omega
def gcdd (a b : List Int) : List Int × Int := if Held a ∧ Held b then (dg (gcdv (val a) (val b)), 0) else ([], 1)
theorem jGm {x y : Int} (hx : 0 ≤ x) (hy : 0 < y) (hx8 : x < B ^ 8) (hy8 : y < B ^ 8) : divd (dg x) (dg y) = (dg (x / y), dg (x % y), 0) := by
 unfold divd
 rw [if_pos ⟨jDA hx8, jDA hy8⟩, jAC hx, jAC (Int.le_of_lt hy), if_neg (Int.ne_of_gt hy)]
theorem jCb {y : Int} (hy : 0 ≤ y) : ((dg y).length : Int) > 0 ↔ y ≠ 0 := by
 have := jGp hy
 constructor
 ·
  intro h e; have := this.2 e; omega
 ·
  intro h; rcases Nat.eq_zero_or_pos (dg y).length with h0 | h0
  ·
   exact absurd (this.1 (by omega)) h
  ·
   omega
theorem jKa : ∀ (n : Nat) (x y : Int), y.toNat = n → 0 ≤ x → 0 ≤ y → x < B ^ 8 → y < B ^ 8 → Ev (fun k => vI.l0 k (dg x) (dg y)) (dg (gcdv x y), 0) := by
 intro n
 induction n using Nat.strongRecOn with
 | _ n ih =>
  intro x y hn hx hy hx8 hy8
  by_cases hz : y = 0
  ·
   subst hz
   rw [jDy hx]
   exact Ev.step (fun k => by rw [vI.l0]) (Ev.neg (mt (jCb (Int.le_refl 0)).1 (by simp)) (Ev.now _))
  ·
   have hyp : 0 < y := by omega
   have h1 := Int.emod_nonneg x hz
   have h2 := Int.emod_lt_of_pos x hyp
   have hd := jKk (jAo x) (jAo y)
   rw [jGm hx hyp hx8 hy8] at hd
   refine Ev.step (fun k => by rw [vI.l0]) (Ev.pos ((jCb hy).2 hz) (Ev.bind hd ?_))
   rw [← jFH hx hyp]
   exact ih (x % y).toNat (by omega) y (x % y) rfl hy h1 hy8 (by omega)
theorem jFD {a : List Int} (ha : Ok a) (h : Held a) : 0 ≤ val a ∧ val a < B ^ 8 := ⟨vC ha, by have := jAB ha; have := qb h.1; omega⟩
theorem jKb {a b : List Int} (ha : Ok a) (hb : Ok b) : Ev (fun k => vI.f k a b) (gcdd a b) := by
 unfold vI.f gcdd
 refine Ev.vY (jCG a) ?_
 by_cases hha : Held a
 ·
  by_cases hhb : Held b
  ·
   rw [if_pos ⟨hha, hhb⟩]
   refine Ev.pos (decide_eq_true hha) (Ev.vY (jCG b) ?_)
   rw [decide_eq_true hhb]
   have va := jFD ha hha
   have vb := jFD hb hhb
   have hal := hha.1
   have hbl := hhb.1
   exact Ev.step (fun k => by rw [vI.j0]) (Ev.neg (by simp) (Ev.bind (jBz ha (by omega)) (Ev.bind (jBz hb (by omega)) (jKa _ _ _ rfl va.1 vb.1 va.2 vb.2))))
  ·
   rw [if_neg (fun h => hhb h.2)]
   refine Ev.pos (decide_eq_true hha) (Ev.vY (jCG b) ?_)
   rw [decide_eq_false hhb]
   exact Ev.step (fun k => by rw [vI.j0]) (Ev.pos (c := (!false) = true) rfl (Ev.now _))
 ·
  rw [if_neg (fun h => hha h.1)]
  refine Ev.neg (by simpa using hha) ?_
  exact Ev.step (fun k => by rw [vI.j0]) (Ev.pos rfl (Ev.now _))
theorem jDo {a : List Int} (ha : Ok a) (h : Held a) : 0 ≤ val a ∧ val a < B ^ 8 := ⟨vC ha, by have := jAB ha; have := qb h.1; omega⟩
theorem jJA : ∀ (n : Nat) (x y : Int), y.toNat = n → 0 ≤ x → 0 ≤ y → x < B ^ 8 → y < B ^ 8 → Ev (fun k => jP.l0 k (dg x) (dg y)) (dg (gcdv x y), 0) := by
 intro n
 induction n using Nat.strongRecOn with
 | _ n ih =>
  intro x y hn hx hy hx8 hy8
  by_cases hz : y = 0
  ·
   subst hz
   rw [jDy hx]
   exact Ev.step (fun k => by rw [jP.l0]) (Ev.neg (mt (jCb (Int.le_refl 0)).1 (by simp)) (Ev.now _))
  ·
   have hyp : 0 < y := by omega
   have h1 := Int.emod_nonneg x hz
   have h2 := Int.emod_lt_of_pos x hyp
   have hd := jJE (jAo x) (jAo y)
   rw [jGm hx hyp hx8 hy8] at hd
   refine Ev.step (fun k => by rw [jP.l0]) (Ev.pos ((jCb hy).2 hz) (Ev.bind hd ?_))
   rw [← jFH hx hyp]
   exact ih (x % y).toNat (by omega) y (x % y) rfl hy h1 hy8 (by omega)
theorem jJB {a b : List Int} (ha : Ok a) (hb : Ok b) : Ev (fun k => jP.f k a b) (gcdd a b) := by
 unfold jP.f gcdd
 refine Ev.vY (jBA a) ?_
 by_cases hha : Held a
 ·
  by_cases hhb : Held b
  ·
   rw [if_pos ⟨hha, hhb⟩]
   refine Ev.pos (decide_eq_true hha) (Ev.vY (jBA b) ?_)
   rw [decide_eq_true hhb]
   have va := jDo ha hha
   have vb := jDo hb hhb
   have h := jJA _ _ _ rfl va.1 vb.1 va.2 vb.2
   rw [hha.dg ha, hhb.dg hb] at h
   exact Ev.step (fun k => by rw [jP.j0]) (Ev.neg (by simp) h)
  ·
   rw [if_neg (fun h => hhb h.2)]
   refine Ev.pos (decide_eq_true hha) (Ev.vY (jBA b) ?_)
   rw [decide_eq_false hhb]
   exact Ev.step (fun k => by rw [jP.j0]) (Ev.pos (c := (!false) = true) rfl (Ev.now _))
 ·
  rw [if_neg (fun h => hha h.1)]
  refine Ev.neg (by simpa using hha) ?_
  exact Ev.step (fun k => by rw [jP.j0]) (Ev.pos rfl (Ev.now _))
end Go.Proofs.Ytijgeonhbmgikaa.EOOctetGets
end
section
set_option linter.unusedVariables false
set_option linter.unusedSimpArgs false
namespace Go.Proofs.YtijgeonhbmgikaaN
def Sm (q : Rat) (m : Nat) : Prop := q.num.natAbs < 2 ^ m ∧ q.den < 2 ^ m
theorem Sm.mono {q : Rat} {m n : Nat} (h : Sm q m) (hm : m ≤ n) : Sm q n := by
 have := Nat.pow_le_pow_right (n := 2) (by decide) hm
 exact ⟨Nat.lt_of_lt_of_le h.1 this, Nat.lt_of_lt_of_le h.2 this⟩
theorem jBC {a b m n : Nat} (h1 : a < 2 ^ m) (h2 : b < 2 ^ n) : a * b < 2 ^ (m + n) := by
 rw [Nat.pow_add]
 rcases Nat.eq_zero_or_pos a with h | h
 ·
  subst h; rw [Nat.zero_mul]; exact Nat.mul_pos (Nat.pow_pos (by decide)) (Nat.pow_pos (by decide))
 ·
  exact Nat.mul_lt_mul_of_lt_of_lt h1 h2
theorem jIa {n : Int} {d : Nat} (hd : d ≠ 0) : (mkRat n d).num = n / (Nat.gcd n.natAbs d : Nat) ∧ (mkRat n d).den = d / Nat.gcd n.natAbs d := by
 rw [← Rat.normalize_eq_mkRat hd, Rat.normalize_eq]
 exact ⟨rfl, rfl⟩
theorem jKT {n : Int} {d : Nat} (hd : d ≠ 0) : (mkRat n d).num.natAbs = n.natAbs / Nat.gcd n.natAbs d := by
 rw [(jIa hd).1, Int.natAbs_ediv_of_dvd (Int.ofNat_dvd_left.2 (Nat.gcd_dvd_left _ _)), Int.natAbs_natCast]
theorem jEz {n : Int} {d m : Nat} (hd : d ≠ 0) (h1 : n.natAbs < 2 ^ m) (h2 : d < 2 ^ m) : Sm (mkRat n d) m := by
 unfold Sm
 rw [jKT hd, (jIa hd).2]
 exact ⟨Nat.lt_of_le_of_lt (Nat.div_le_self _ _) h1, Nat.lt_of_le_of_lt (Nat.div_le_self _ _) h2⟩
theorem jKu (p q : Rat) : p + q = mkRat (p.num * q.den + q.num * p.den) (p.den * q.den) := by rw [Rat.add_def, Rat.normalize_eq_mkRat]
theorem jKM (p q : Rat) : p * q = mkRat (p.num * q.num) (p.den * q.den) := by rw [Rat.mul_def, Rat.normalize_eq_mkRat]
theorem jIc (p q : Rat) : p.den * q.den ≠ 0 := Nat.mul_ne_zero p.den_nz q.den_nz
theorem Sm.cross {p q : Rat} {m n : Nat} (hp : Sm p m) (hq : Sm q n) : p.num.natAbs * q.den < 2 ^ (m + n) ∧ q.num.natAbs * p.den < 2 ^ (m + n) ∧ p.den * q.den < 2 ^ (m + n) ∧ p.num.natAbs * q.num.natAbs < 2 ^ (m + n) := by
 refine ⟨jBC hp.1 hq.2, ?_, jBC hp.2 hq.2, jBC hp.1 hq.1⟩
 rw [Nat.add_comm m n]
 exact jBC hq.1 hp.2
theorem Sm.add {p q : Rat} {m n : Nat} (hp : Sm p m) (hq : Sm q n) : Sm (p + q) (m + n + 1) := by
 obtain ⟨h1, h2, h3, _⟩ := hp.cross hq
 rw [jKu]
 have e : (2 : Nat) ^ (m + n + 1) = 2 * 2 ^ (m + n) := by rw [Nat.pow_succ, Nat.mul_comm]
 refine jEz (jIc p q) ?_ (by omega)
 have h4 := Int.natAbs_add_le (p.num * q.den) (q.num * p.den)
 rw [Int.natAbs_mul, Int.natAbs_mul, Int.natAbs_natCast, Int.natAbs_natCast] at h4
 omega
theorem Sm.mul {p q : Rat} {m n : Nat} (hp : Sm p m) (hq : Sm q n) : Sm (p * q) (m + n) := by
 obtain ⟨_, _, h3, h4⟩ := hp.cross hq
 rw [jKM]
 exact jEz (jIc p q) (by rw [Int.natAbs_mul]; exact h4) h3
theorem Sm.neg {q : Rat} {m : Nat} (h : Sm q m) : Sm (-q) m := by
 unfold Sm at *
 rw [Rat.neg_num, Rat.neg_den, Int.natAbs_neg]
 exact h
theorem Sm.int {n : Int} {m : Nat} (h : n.natAbs < 2 ^ m) (hm : 0 < m) : Sm (n : Rat) m := ⟨h, Nat.one_lt_two_pow (by omega)⟩
end Go.Proofs.YtijgeonhbmgikaaN
end
section
set_option linter.unusedVariables false
set_option linter.unusedSimpArgs false
namespace Go.Proofs.Ytijgeonhbmgikaa.EOOctetGets
open Go.RowKit Go.Proofs.Ytijgeonhbmgikaa.POOctetGets Go.Proofs.YtijgeonhbmgikaaN Go.Proofs.YtijgeonhbmgikaaW.PrintWords Go.Proofs.YtijgeonhbmgikaaW.PrintLast Go.Proofs.YtijgeonhbmgikaaW.PrintMore
theorem jFg {n : Int} (h : 0 ≤ n) : decide (((dg n).length : Int) > 0) = decide (n ≠ 0) := by
 rw [decide_eq_decide]; exact jCb h
theorem jDW {n : Int} (h : 0 ≤ n) : (((dg n).length : Int) == 0) = decide (n = 0) := by
 rw [Bool.eq_iff_iff, beq_iff_eq, decide_eq_true_iff]; exact jGp h
def mayd (neg : Bool) (a b : List Int) : Bool := decide (Held a ∧ Held b ∧ val b ≠ 0 ∧ gcdv (val a) (val b) = 1 ∧ ¬ (neg = true ∧ val a = 0))
theorem jHf (neg : Bool) {a b : List Int} (ha : Ok a) (hb : Ok b) : Ev (fun k => qZ.f k neg a b) (mayd neg a b) := by
 unfold qZ.f mayd
 have hg := jKb ha hb
 unfold gcdd at hg
 by_cases hh : Held a ∧ Held b
 ·
  rw [if_pos hh] at hg
  refine Ev.bind hg (Ev.pos rfl ?_)
  have ea := hh.1.dg ha
  have eb := hh.2.dg hb
  have a0 := vC ha
  have b0 := vC hb
  have hlb := jFg b0
  rw [eb] at hlb
  have hla := jDW a0
  rw [ea] at hla
  by_cases hz : val b = 0
  ·
   rw [decide_eq_false (fun h => h.2.2.1 hz)]
   refine Ev.neg ?_ (Ev.now _)
   rw [hz] at hlb
   exact of_decide_eq_false (hlb.trans (by simp))
  ·
   refine Ev.pos (of_decide_eq_true (hlb.trans (decide_eq_true hz))) ?_
   have a8 : val a < B ^ 8 := by have := jAB ha; have := qb hh.1.1; omega
   have b8 : val b < B ^ 8 := by have := jAB hb; have := qb hh.2.1; omega
   have hg8 := jGi a0 b0 a8 b8
   have lg := jBU hg8
   have hc := jJL (jAo (gcdv (val a) (val b))) (b := [1]) (by decide) (by omega) (by decide)
   rw [jAC (jCf _ _), val_one] at hc
   refine Ev.bind hc ?_
   have hce := jIO (gcdv (val a) (val b)) 1
   by_cases hg1 : gcdv (val a) (val b) = 1
   ·
    refine Ev.pos (by rw [← beq_iff_eq, hce]; exact decide_eq_true hg1) ?_
    cases neg with
    | true =>
     refine Ev.pos rfl (Ev.vY (a := decide (val a = 0)) (by unfold qy.f; rw [hla]) (Ev.eq (Ev.now _) ?_))
     by_cases hv : val a = 0
     ·
      rw [decide_eq_true hv, decide_eq_false (fun h => h.2.2.2.2 ⟨rfl, hv⟩)]; rfl
     ·
      rw [decide_eq_false hv, decide_eq_true ⟨hh.1, hh.2, hz, hg1, fun h => hv h.2⟩]; rfl
    | false =>
     refine Ev.neg (by simp) (Ev.eq (Ev.now _) ?_)
     rw [decide_eq_true ⟨hh.1, hh.2, hz, hg1, fun h => Bool.noConfusion h.1⟩]
   ·
    refine Ev.neg (by rw [← beq_iff_eq, hce, decide_eq_true_iff]; exact hg1) (Ev.eq (Ev.now _) ?_)
    rw [decide_eq_false (fun h => hg1 h.2.2.2.1)]
 ·
  rw [if_neg hh] at hg
  rw [decide_eq_false (fun h => hh ⟨h.1, h.2.1⟩)]
  exact Ev.bind hg (Ev.neg (by decide) (Ev.now _))
theorem jGG {n1 n2 : Bool} {a1 a2 b1 b2 : List Int} (ha : a1.length ≤ 17592186044416) (hb : b1.length ≤ 17592186044416) : Ev (fun k => vS.f k n1 a1 b1 n2 a2 b2) (decide (n1 = n2 ∧ a1 = a2 ∧ b1 = b2)) := by
 unfold vS.f
 by_cases h1 : n1 = n2
 ·
  refine Ev.pos (by rw [h1]; exact beq_self_eq_true _) (Ev.bind (jCK a1 a2 ha) ?_)
  by_cases h2 : a1 = a2
  ·
   refine Ev.pos (decide_eq_true h2) (Ev.bind (jCK b1 b2 hb) (Ev.eq (Ev.now _) ?_))
   rw [decide_eq_decide]; exact ⟨fun h => ⟨h1, h2, h⟩, fun h => h.2.2⟩
  ·
   refine Ev.neg (by simpa using h2) (Ev.eq (Ev.now _) ?_)
   rw [decide_eq_false (fun h => h2 h.2.1)]
 ·
  refine Ev.neg (by simpa using h1) (Ev.eq (Ev.now _) ?_)
  rw [decide_eq_false (fun h => h1 h.1)]
theorem jKD {n1 n2 : Bool} {a1 a2 b1 b2 : List Int} (ha : a1.length ≤ 8) (hb : b1.length ≤ 8) (h : n1 = n2 ∧ a1 = a2 ∧ b1 = b2) : Ev (fun k => vS.f k n1 a1 b1 n2 a2 b2) true := Ev.eq (jGG (by omega) (by omega)) (decide_eq_true h)
end Go.Proofs.Ytijgeonhbmgikaa.EOOctetGets
end
section
set_option linter.unusedVariables false
set_option linter.unusedSimpArgs false
end
section
set_option linter.unusedVariables false
set_option linter.unusedSimpArgs false
namespace Go.Proofs.Ytijgeonhbmgikaa.EOOctetGets
open Go.RowKit Go.Proofs.Ytijgeonhbmgikaa.POOctetGets Go.Proofs.YtijgeonhbmgikaaN Go.Proofs.YtijgeonhbmgikaaW.PrintWords Go.Proofs.YtijgeonhbmgikaaW.PrintLast Go.Proofs.YtijgeonhbmgikaaW.PrintMore
theorem jHb (neg : Bool) {a b : List Int} (ha : Ok a) (hb : Ok b) : Ev (fun k => jY.f k neg a b) (mayd neg a b) := by
 unfold jY.f mayd
 have hg := jJB ha hb
 unfold gcdd at hg
 refine Ev.vY (jBA a) ?_
 by_cases h1 : Held a
 ·
  refine Ev.pos (decide_eq_true h1) (Ev.vY (jBA b) ?_)
  by_cases h2 : Held b
  ·
   rw [if_pos ⟨h1, h2⟩] at hg
   have ea := h1.dg ha
   have eb := h2.dg hb
   have a0 := vC ha
   have b0 := vC hb
   have hla := jDW a0
   rw [ea] at hla
   have hlb := jDW b0
   rw [eb] at hlb
   refine Ev.pos (decide_eq_true h2) ?_
   rw [hlb]
   by_cases hz : val b = 0
   ·
    rw [decide_eq_true hz, decide_eq_false (fun h => h.2.2.1 hz)]
    exact Ev.step (fun k => by rw [jY.j0]) (Ev.pos rfl (Ev.now _))
   ·
    rw [decide_eq_false hz]
    refine Ev.step (fun k => by rw [jY.j0]) (Ev.neg (by decide) (Ev.bind hg ?_))
    have a8 : val a < B ^ 8 := by have := jAB ha; have := qb h1.1; omega
    have b8 : val b < B ^ 8 := by have := jAB hb; have := qb h2.1; omega
    have hg8 := jGi a0 b0 a8 b8
    have g0 := jCf (val a) (val b)
    have lg := jBU hg8
    have hs := jCK (dg (gcdv (val a) (val b))) [1] (by omega)
    have e1 : dg 1 = [1] := jKl (x := 1) (by decide) (by decide)
    have hiff : (dg (gcdv (val a) (val b)) = [1]) ↔ gcdv (val a) (val b) = 1 := ⟨fun h => jKm g0 (by decide) (h.trans e1.symm), fun h => by rw [h, e1]⟩
    rw [decide_eq_decide.2 hiff] at hs
    refine Ev.bind hs ?_
    by_cases hg1 : gcdv (val a) (val b) = 1
    ·
     refine Ev.pos (decide_eq_true hg1) ?_
     cases neg with
     | true =>
      refine Ev.pos rfl (Ev.eq (Ev.now _) ?_)
      rw [hla]
      by_cases hv : val a = 0
      ·
       rw [decide_eq_true hv, decide_eq_false (fun h => h.2.2.2.2 ⟨rfl, hv⟩)]; rfl
      ·
       rw [decide_eq_false hv, decide_eq_true ⟨h1, h2, hz, hg1, fun h => hv h.2⟩]; rfl
     | false =>
      refine Ev.neg (by decide) (Ev.eq (Ev.now _) ?_)
      rw [decide_eq_true ⟨h1, h2, hz, hg1, fun h => Bool.noConfusion h.1⟩]; rfl
    ·
     refine Ev.neg (by simpa using hg1) (Ev.eq (Ev.now _) ?_)
     rw [decide_eq_false (fun h => hg1 h.2.2.2.1)]
  ·
   have hn : ¬ (Held a ∧ Held b ∧ val b ≠ 0 ∧ gcdv (val a) (val b) = 1 ∧ ¬ (neg = true ∧ val a = 0)) := fun h => h2 h.2.1
   rw [decide_eq_false hn]
   refine Ev.neg (by simp [h2]) (Ev.step (fun k => by rw [jY.j0]) ?_)
   exact Ev.pos rfl (Ev.now _)
 ·
  have hn : ¬ (Held a ∧ Held b ∧ val b ≠ 0 ∧ gcdv (val a) (val b) = 1 ∧ ¬ (neg = true ∧ val a = 0)) := fun h => h1 h.1
  rw [decide_eq_false hn]
  refine Ev.neg (by simp [h1]) (Ev.step (fun k => by rw [jY.j0]) ?_)
  exact Ev.pos rfl (Ev.now _)
end Go.Proofs.Ytijgeonhbmgikaa.EOOctetGets
end
section
set_option linter.unusedVariables false
set_option linter.unusedSimpArgs false
namespace Go.Proofs.Ytijgeonhbmgikaa.EOOctetGets
open Go.RowKit Go.Proofs.Ytijgeonhbmgikaa.POOctetGets Go.Proofs.YtijgeonhbmgikaaN Go.Proofs.YtijgeonhbmgikaaW.PrintWords Go.Proofs.YtijgeonhbmgikaaW.PrintLast Go.Proofs.YtijgeonhbmgikaaW.PrintMore
theorem jCy : Ev (fun k => vG.f k) true := ⟨9, fun k hk => jKJ (by omega)⟩
theorem jGS {m n : Nat} (h : m ≤ n) : (256 : Int) ^ m ≤ 256 ^ n := by
 have h2 : (256 : Nat) ^ m ≤ 256 ^ n := Nat.pow_le_pow_right (by decide) h
 have h3 : ∀ m : Nat, (256 : Int) ^ m = ((256 ^ m : Nat) : Int) := fun m => by rw [Int.natCast_pow]; rfl
 rw [h3, h3]
 exact Int.ofNat_le.2 h2
theorem jGT {m : Nat} (h : m ≤ 8) : (256 : Int) ^ m ≤ B := by
 have := jGS h
 have e : (256 : Int) ^ 8 = B := by decide
 omega
theorem jIf : ∀ (l : List Int) (a : Int) (m : Nat), Bytes l → 0 ≤ a → a < 256 ^ m → m + l.length ≤ 8 → l.foldl Oct.stp a = l.foldl (fun a c => a * 256 + c) a ∧ 0 ≤ l.foldl (fun a c => a * 256 + c) a ∧ l.foldl (fun a c => a * 256 + c) a < 256 ^ (m + l.length)
 | [], a, m, _, h0, h1, _ => ⟨rfl, h0, h1⟩
 | x :: l, a, m, hb, h0, h1, h8 => by
  have hx := hb x (List.mem_cons_self ..)
  have hl : Bytes l := fun y hy => hb y (List.mem_cons_of_mem _ hy)
  rw [List.length_cons] at h8
  have hs : a * 256 + x < 256 ^ (m + 1) := by
   rw [Int.pow_succ]
   generalize (256 : Int) ^ m = p at h1 ⊢
   omega
  have hB := jGT (m := m + 1) (by omega)
  have e := jKC h0 hx (by omega)
  have r := jIf l (a * 256 + x) (m + 1) hl (by omega) hs (by omega)
  rw [List.foldl_cons, List.foldl_cons, e, List.length_cons, show m + (l.length + 1) = m + 1 + l.length by omega]
  exact r
theorem jFP {l : List Int} (hb : Bytes l) (h8 : l.length ≤ 8) : Oct.be l = unb l ∧ 0 ≤ unb l ∧ unb l < 256 ^ l.length := by
 have r := jIf l 0 0 hb (Int.le_refl _) (by decide) (by omega)
 rw [Nat.zero_add] at r
 exact r
theorem jHR (l : List Int) (c : Int) : unb (l ++ [c]) = unb l * 256 + c := by unfold unb; rw [List.foldl_append]; rfl
theorem jGH {l : List Int} (hl : Bytes l) (h8 : l.length ≤ 8) : ∀ (d i : Nat), i + d = l.length → Ev (fun k => jN.l0 k (strOfNums l) (unb (l.take i)) (i : Int)) (unb l) := by
 intro d
 induction d with
 | zero =>
  intro i hi
  have hs : ¬ (i : Int) < ((strOfNums l).size : Int) := by rw [jEr]; omega
  rw [List.take_of_length_le (by omega)]
  exact Ev.step (fun k => by rw [jN.l0]) (Ev.neg hs (Ev.now _))
 | succ d ih =>
  intro i hi
  have hil : i < l.length := by omega
  have hs : (i : Int) < ((strOfNums l).size : Int) := by rw [jEr]; omega
  have hi2 : i + 1 + d = l.length := by omega
  have hi0 : (0 : Int) ≤ (i : Int) := by omega
  have e4 : wrap64 ((i : Int) + 1) = ((i + 1 : Nat) : Int) := by rw [w64 (by omega)]; omega
  obtain ⟨_, v0, v1⟩ := jFP (hl.take i) (by rw [List.length_take]; omega)
  obtain ⟨_, u0, u1⟩ := jFP (hl.take (i + 1)) (by rw [List.length_take]; omega)
  have ht : l.take (i + 1) = l.take i ++ [l.getD i 0] := Oct.jDf l i hil
  have hx : 0 ≤ l.getD i 0 ∧ l.getD i 0 < 256 := by
   rw [List.getD_eq_getElem?_getD, List.getElem?_eq_getElem hil]; exact hl _ (List.getElem_mem hil)
  have hB := jGT (m := i + 1) (by omega)
  have lt1 : (l.take (i + 1)).length = i + 1 := by rw [List.length_take]; omega
  rw [lt1] at u1
  have eu : unb (l.take (i + 1)) = unb (l.take i) * 256 + l.getD i 0 := by rw [ht, jHR]
  have e1 : IntKind.u64.wrap (unb (l.take i) * 256) = unb (l.take i) * 256 := jAx (by omega) (by omega)
  have e2 : IntKind.u64.wrap (l.getD i 0) = l.getD i 0 := jAx (by omega) (by rw [B_eq]; omega)
  have e3 : IntKind.u64.wrap (unb (l.take i) * 256 + l.getD i 0) = unb (l.take (i + 1)) := by rw [← eu]; exact jAx u0 (by omega)
  have e5 : bt (strOfNums l) (i : Int) = l.getD i 0 := jKp hl i
  refine Ev.step (fun k => by rw [jN.l0, e5, e1, e2, e3, e4]) ?_
  exact Ev.pos hs (Ev.pos hi0 (ih (i + 1) hi2))
theorem jCt (x : ByteArray) (h8 : x.size ≤ 8) : Ev (fun k => jN.f k x) (Oct.be (bytesOf x)) := by
 have hb := jFO x
 have hl : (bytesOf x).length ≤ 8 := by rw [bytesOf_length]; exact h8
 have h := jGH hb hl (bytesOf x).length 0 (by omega)
 rw [jFy, ← (jFP hb hl).1] at h
 exact h
def gotD (v : Int ⊕ (Int × ByteArray)) : Int × ByteArray × Int := match v with | .inl c => (0, { data := #[] }, c) | .inr (n, t) => (n, t, 0)
theorem jJK {s : ByteArray} (hs : s.size ≤ 1000000) : zY.f s = some (gotD (Oct.num s)) := by
 unfold zY.f
 rw [if_pos (by omega)]
 rfl
theorem jET {s : ByteArray} (hs : s.size ≤ 1000000) : Ev (fun k => jV.f k s) (gotD (Oct.num s)) := by
 unfold jV.f Oct.num
 by_cases h1 : s.size < 1
 ·
  rw [if_pos h1]; exact Ev.pos (by omega) (Ev.now _)
 ·
  rw [if_neg h1]
  obtain ⟨b, hb⟩ := Int.eq_ofNat_of_zero_le (jBH s 0).1
  have hbb : b ≤ 255 := by have := (jBH s 0).2; omega
  rw [hb, Int.toNat_natCast]
  have e1 : wrap64 (b : Int) = (b : Int) := w64 (by omega)
  have e2 : wrap64 (1 + (b : Int)) = ((1 + b : Nat) : Int) := by rw [w64 (by omega)]; omega
  rw [e1, e2, Int.toNat_natCast]
  refine Ev.neg (by omega) (Ev.pos (by omega) ?_)
  by_cases h2 : 8 < b
  ·
   rw [if_pos h2]; exact Ev.pos (by omega) (Ev.now _)
  ·
   rw [if_neg h2]
   refine Ev.neg (by omega) ?_
   by_cases h3 : s.size < 1 + b
   ·
    rw [if_pos h3]; exact Ev.pos (by omega) (Ev.now _)
   ·
    rw [if_neg h3]
    have hn := jCt (s.extract 1 (1 + b)) (by rw [ByteArray.size_extract]; omega)
    refine Ev.neg (by omega) ?_
    by_cases h4 : b = 0
    ·
     rw [if_neg (fun h => h.1 h4)]
     exact Ev.neg (by omega) (Ev.pos (by omega) (Ev.pos (by omega) (Ev.bind hn (Ev.pos (by omega) (Ev.now _)))))
    ·
     refine Ev.pos (by omega) (Ev.pos (by omega) ?_)
     by_cases h5 : bt s 1 = 0
     ·
      rw [if_pos ⟨h4, h5⟩]; exact Ev.pos h5 (Ev.now _)
     ·
      rw [if_neg (fun h => h5 h.2)]
      exact Ev.neg h5 (Ev.pos (by omega) (Ev.pos (by omega) (Ev.bind hn (Ev.pos (by omega) (Ev.now _)))))
theorem jEZ {s : ByteArray} {c : Int} (h : Oct.num s = .inl c) : c ≠ 0 := by
 unfold Oct.num at h
 by_cases h1 : s.size < 1
 ·
  rw [if_pos h1] at h; cases h; decide
 ·
  rw [if_neg h1] at h
  by_cases h2 : 8 < (bt s 0).toNat
  ·
   rw [if_pos h2] at h; cases h; decide
  ·
   rw [if_neg h2] at h
   by_cases h3 : s.size < 1 + (bt s 0).toNat
   ·
    rw [if_pos h3] at h; cases h; decide
   ·
    rw [if_neg h3] at h
    by_cases h4 : (bt s 0).toNat ≠ 0 ∧ bt s 1 = 0
    ·
     rw [if_pos h4] at h; cases h; decide
    ·
     rw [if_neg h4] at h; cases h
def gotT (v : Int ⊕ (ByteArray × ByteArray)) : ByteArray × ByteArray × Int := match v with | .inl c => ({ data := #[] }, { data := #[] }, c) | .inr (n, t) => (n, t, 0)
theorem jHx {s : ByteArray} (hs : s.size ≤ 1000000) : vT.f s = some (gotT (vT.txt s)) := by
 unfold vT.f
 rw [if_pos (by omega)]
 rfl
theorem jHS {n : Nat} (h : n ≤ 1000000) : IntKind.u64.wrap (n : Int) = (n : Int) := by
 rw [IntKind.wrap_u64]
 omega
theorem jHi {s : ByteArray} (hs : s.size ≤ 1000000) : Ev (fun k => vK.f k s) (gotT (vT.txt s)) := by
 unfold vK.f vT.txt
 have hg := jET hs
 cases hn : Oct.num s with
 | inl c =>
  rw [hn] at hg
  have hc := jEZ hn
  exact Ev.bind hg (Ev.neg hc (Ev.now _))
 | inr p =>
  obtain ⟨n, t⟩ := p
  rw [hn] at hg
  have n0 := Oct.jDQ hn
  have ts := Oct.jBE hn
  obtain ⟨m, rfl⟩ := Int.eq_ofNat_of_zero_le n0
  refine Ev.bind (a := ((m : Int), t, (0 : Int))) hg (Ev.pos rfl ?_)
  dsimp only
  rw [Int.toNat_natCast]
  have eu : IntKind.u64.wrap (t.size : Int) = (t.size : Int) := jHS (by omega)
  rw [eu]
  by_cases h : t.size < m
  ·
   rw [if_pos h]; exact Ev.pos (by omega) (Ev.now _)
  ·
   rw [if_neg h]
   have e : wrap64 (m : Int) = (m : Int) := w64 (by omega)
   have c1 : ¬ (m : Int) > (t.size : Int) := by omega
   have c2 : (0 : Int) ≤ (m : Int) := by omega
   have c3 : (m : Int) ≤ (t.size : Int) := by omega
   rw [e, Int.toNat_natCast]
   refine Ev.neg c1 ?_
   refine Ev.pos c2 ?_
   refine Ev.pos c3 ?_
   exact Ev.now _
theorem jFG (x : List Int) (a p : Nat) (v : Int) (ha : a < x.length) : (x.set a v).getD p 0 = if a = p then v else x.getD p 0 := by
 rw [List.getD_eq_getElem?_getD, List.getD_eq_getElem?_getD, List.getElem?_set]
 by_cases h : a = p
 ·
  subst h; rw [if_pos rfl, if_pos rfl, if_pos ha]; rfl
 ·
  rw [if_neg h, if_neg h]
theorem jEt (l x : List Int) (hx : x.length = l.length) (h : ∀ p, p < l.length → x.getD p 0 = l.getD (l.length - 1 - p) 0) : x = l.reverse := by
 refine List.ext_getElem (by rw [List.length_reverse, hx]) (fun p h1 h2 => ?_)
 have := h p (by omega)
 rw [List.getD_eq_getElem?_getD, List.getD_eq_getElem?_getD, List.getElem?_eq_getElem h1, List.getElem?_eq_getElem (by omega)] at this
 rw [List.getElem_reverse]
 exact this
theorem jLQ (l : List Int) (h8 : l.length ≤ 1000) : ∀ (d i : Nat) (x : List Int), l.length ≤ i + d → x.length = l.length → (∀ p, p < l.length → x.getD p 0 = if p < i ∨ l.length ≤ p + i then l.getD (l.length - 1 - p) 0 else l.getD p 0) → Ev (fun k => jf.l0 k x (i : Int) ((l.length : Int) - 1 - i)) l.reverse := by
 intro d
 induction d with
 | zero =>
  intro i x hi hx hp
  refine Ev.step (fun k => by rw [jf.l0]) ?_
  refine Ev.neg (by omega) (Ev.eq (Ev.now _) ?_)
  refine jEt l x hx (fun p hpl => ?_)
  rw [hp p hpl, if_pos (by omega)]
 | succ d ih =>
  intro i x hi hx hp
  refine Ev.step (fun k => by rw [jf.l0]) ?_
  by_cases hc : 2 * i + 1 < l.length
  ·
   have e1 : wrap64 ((i : Int) + 1) = ((i + 1 : Nat) : Int) := by rw [w64 (by omega)]; omega
   have e2 : wrap64 ((l.length : Int) - 1 - i - 1) = (l.length : Int) - 1 - ((i + 1 : Nat) : Int) := by
    rw [show (l.length : Int) - 1 - i - 1 = (l.length : Int) - 1 - ((i + 1 : Nat) : Int) by omega]; exact w64 (by omega)
   have e3 : (((l.length : Int) - 1 - i) : Int).toNat = l.length - 1 - i := by omega
   have r1 : rd x ((l.length : Int) - 1 - i) = x.getD (l.length - 1 - i) 0 := by unfold rd; rw [e3]
   have r2 : rd x (i : Int) = x.getD i 0 := by unfold rd; rw [Int.toNat_natCast]
   rw [e1, e2, e3, r1, r2, Int.toNat_natCast]
   refine Ev.pos (by omega) (Ev.pos (by omega) (Ev.pos (by omega) (Ev.pos (by omega) (Ev.pos (by omega) ?_))))
   refine ih (i + 1) _ (by omega) (by rw [List.length_set, List.length_set, hx]) (fun p hpl => ?_)
   rw [jFG _ _ _ _ (by rw [List.length_set]; omega), jFG _ _ _ _ (by omega)]
   have hi1 := hp i (by omega)
   rw [if_neg (by omega)] at hi1
   have hj1 := hp (l.length - 1 - i) (by omega)
   rw [if_neg (by omega)] at hj1
   by_cases q1 : l.length - 1 - i = p
   ·
    rw [if_pos q1, hi1, if_pos (by omega)]
    congr 1; omega
   ·
    rw [if_neg q1]
    by_cases q2 : i = p
    ·
     rw [if_pos q2, hj1, if_pos (by omega), q2]
    ·
     rw [if_neg q2, hp p hpl]
     by_cases q3 : p < i ∨ l.length ≤ p + i
     ·
      rw [if_pos q3, if_pos (by omega)]
     ·
      rw [if_neg q3, if_neg (by omega)]
  ·
   refine Ev.neg (by omega) (Ev.eq (Ev.now _) ?_)
   refine jEt l x hx (fun p hpl => ?_)
   rw [hp p hpl]
   by_cases q3 : p < i ∨ l.length ≤ p + i
   ·
    rw [if_pos q3]
   ·
    rw [if_neg q3]; congr 1; omega
theorem jKE (l : List Int) (h8 : l.length ≤ 1000) : Ev (fun k => jf.f k l) l.reverse := by
 unfold jf.f
 have e : wrap64 ((l.length : Int) - 1) = (l.length : Int) - 1 - ((0 : Nat) : Int) := by rw [w64 (by omega)]; omega
 rw [e]
 exact jLQ l h8 l.length 0 l (by omega) rfl (fun p hp => by rw [if_neg (by omega)])
end Go.Proofs.Ytijgeonhbmgikaa.EOOctetGets
end
section
set_option linter.unusedVariables false
set_option linter.unusedSimpArgs false
namespace Go.Proofs.Ytijgeonhbmgikaa.EOOctetGets
open Go.RowKit Go.Proofs.Ytijgeonhbmgikaa.POOctetGets Go.Proofs.YtijgeonhbmgikaaN Go.Proofs.YtijgeonhbmgikaaW.PrintWords Go.Proofs.YtijgeonhbmgikaaW.PrintLast Go.Proofs.YtijgeonhbmgikaaW.PrintMore
def jDY (t : ByteArray) (i : Nat) : Int := Oct.be (bytesOf (t.extract (8 * i) (8 * i + 8)))
def jAP (t : ByteArray) (m : Nat) : List Int := ((List.range m).map (jDY t)).reverse
theorem jEg (t : ByteArray) (m : Nat) : jAP t (m + 1) = jDY t m :: jAP t m := by
 unfold jAP
 rw [List.range_succ, List.map_append, List.reverse_append]; rfl
theorem ok8 (x : ByteArray) (h : x.size ≤ 8) : 0 ≤ Oct.be (bytesOf x) ∧ Oct.be (bytesOf x) < B := by
 have hl : (bytesOf x).length ≤ 8 := by rw [bytesOf_length]; exact h
 obtain ⟨e, h0, h1⟩ := jFP (jFO x) hl
 have hB := jGT hl
 rw [e]
 exact ⟨h0, by omega⟩
theorem jGX (t : ByteArray) (m : Nat) : Ok (jAP t m) := by
 intro x hx
 unfold jAP at hx
 rw [List.mem_reverse] at hx
 obtain ⟨i, _, rfl⟩ := List.mem_map.1 hx
 exact ok8 _ (by rw [ByteArray.size_extract]; omega)
theorem jDC : ∀ (m : Nat) (t : ByteArray), t.size = 8 * m → OctNat.chunks m t = (List.range m).map (jDY t)
 | 0, _, _ => rfl
 | m + 1, t, h => by
  have hs : (t.extract 8 t.size).size = 8 * m := by rw [ByteArray.size_extract]; omega
  rw [OctNat.chunks, jDC m _ hs, List.range_succ_eq_map, List.map_cons, List.map_map]
  congr 1
  refine List.map_congr_left (fun i hi => ?_)
  have hi := List.mem_range.1 hi
  show jDY (t.extract 8 t.size) i = jDY t (i + 1)
  unfold jDY
  rw [ByteArray.extract_extract]
  congr 2
  congr 1
  ·
   omega
  ·
   omega
theorem jFh {m : Nat} {t : ByteArray} (h : 8 * m ≤ t.size) : (OctNat.chunks m (t.extract 0 (8 * m))).reverse = jAP t m := by
 have hs : (t.extract 0 (8 * m)).size = 8 * m := by rw [ByteArray.size_extract]; omega
 rw [jDC m _ hs]
 unfold jAP
 congr 1
 refine List.map_congr_left (fun i hi => ?_)
 have hi := List.mem_range.1 hi
 unfold jDY
 rw [ByteArray.extract_extract]
 congr 2
 congr 1
 ·
  omega
 ·
  omega
def natd (s : ByteArray) : Int ⊕ (List Int × ByteArray) := match Oct.num s with
 | .inl c => .inl c
 | .inr (n, t) => if 8 < n.toNat then .inl 62 else if t.size < 8 * n.toNat then .inl 60 else if Held (jAP t n.toNat) then .inr (jAP t n.toNat, t.extract (8 * n.toNat) t.size) else .inl 62
theorem jGa (s : ByteArray) : Ev (fun k => OctNat.nat_ k s) (natd s) := by
 unfold OctNat.nat_ natd
 cases hn : Oct.num s with
 | inl c => exact Ev.now _
 | inr p =>
  obtain ⟨n, t⟩ := p
  dsimp only
  by_cases h8 : 8 < n.toNat
  ·
   rw [if_pos h8]; exact Ev.pos h8 (Ev.now _)
  ·
   rw [if_neg h8]
   refine Ev.neg h8 ?_
   by_cases hs : t.size < 8 * n.toNat
   ·
    rw [if_pos hs]; exact Ev.pos hs (Ev.now _)
   ·
    rw [if_neg hs]
    have hr := jKE (OctNat.chunks n.toNat (t.extract 0 (8 * n.toNat))) (by rw [OctNat.jBX]; omega)
    rw [jFh (by omega)] at hr
    refine Ev.neg hs (Ev.bind hr (Ev.vY (jCG _) (Ev.eq (Ev.now _) ?_)))
    by_cases hh : Held (jAP t n.toNat)
    ·
     rw [if_pos hh, decide_eq_true hh]; rfl
    ·
     rw [if_neg hh, decide_eq_false hh]; rfl
theorem jBf {s t : ByteArray} {l : List Int} (h : natd s = .inr (l, t)) : Ok l ∧ Held l ∧ t.size ≤ s.size := by
 unfold natd at h
 cases hn : Oct.num s with
 | inl c => rw [hn] at h; cases h
 | inr p =>
  obtain ⟨n, x⟩ := p
  have hx := Oct.jBE hn
  rw [hn] at h
  dsimp only at h
  by_cases h8 : 8 < n.toNat
  ·
   rw [if_pos h8] at h; cases h
  ·
   rw [if_neg h8] at h
   by_cases hs : x.size < 8 * n.toNat
   ·
    rw [if_pos hs] at h; cases h
   ·
    rw [if_neg hs] at h
    by_cases hh : Held (jAP x n.toNat)
    ·
     rw [if_pos hh] at h
     cases h
     exact ⟨jGX _ _, hh, by rw [ByteArray.size_extract]; omega⟩
    ·
     rw [if_neg hh] at h; cases h
theorem jEy {s : ByteArray} {c : Int} (h : natd s = .inl c) : c ≠ 0 := by
 unfold natd at h
 cases hn : Oct.num s with
 | inl c => rw [hn] at h; cases h; exact jEZ hn
 | inr p =>
  obtain ⟨n, x⟩ := p
  rw [hn] at h
  dsimp only at h
  by_cases h8 : 8 < n.toNat
  ·
   rw [if_pos h8] at h; cases h; decide
  ·
   rw [if_neg h8] at h
   by_cases hs : x.size < 8 * n.toNat
   ·
    rw [if_pos hs] at h; cases h; decide
   ·
    rw [if_neg hs] at h
    by_cases hh : Held (jAP x n.toNat)
    ·
     rw [if_pos hh] at h; cases h
    ·
     rw [if_neg hh] at h; cases h; decide
def gotN (v : Int ⊕ (List Int × ByteArray)) : List Int × ByteArray × Int := match v with | .inl c => ([], { data := #[] }, c) | .inr (l, t) => (l, t, 0)
theorem jHz {s : ByteArray} (hs : s.size ≤ 1000000) : Ev (fun k => zC.f k s) (gotN (natd s)) := by
 unfold zC.f
 exact Ev.pos (by omega) (Ev.bind (jGa s) (Ev.now _))
theorem jIz {t : ByteArray} (ht : t.size ≤ 1000000) {m : Nat} (hm : m ≤ 8) (hs : 8 * m ≤ t.size) : ∀ (d : Nat) (acc : List Int), d ≤ m → acc.length + d ≤ 100 → Ev (fun k => jK.l0 k t (m : Int) acc ((d : Int) - 1)) (if Held (acc ++ jAP t d) then (acc ++ jAP t d, t.extract (8 * m) t.size, 0) else ([], { data := #[] }, 62)) := by
 intro d
 induction d with
 | zero =>
  intro acc _ _
  have e1 : wrap64 (8 * (m : Int)) = ((8 * m : Nat) : Int) := by rw [w64 (by omega)]; omega
  have c1 : (0 : Int) ≤ ((8 * m : Nat) : Int) := by omega
  have c2 : ((8 * m : Nat) : Int) ≤ (t.size : Int) := by omega
  have e0 : acc ++ jAP t 0 = acc := List.append_nil _
  rw [e0]
  refine Ev.step (fun k => by rw [jK.l0, e1, Int.toNat_natCast]) ?_
  refine Ev.neg (by omega) (Ev.vY (jBA acc) ?_)
  by_cases hh : Held acc
  ·
   rw [if_pos hh]
   refine Ev.pos (decide_eq_true hh) ?_
   refine Ev.pos c1 ?_
   refine Ev.pos c2 ?_
   exact Ev.now _
  ·
   rw [if_neg hh]
   exact Ev.neg (fun q => hh (of_decide_eq_true q)) (Ev.now _)
 | succ d ih =>
  intro acc hd ha
  have e0 : ((d + 1 : Nat) : Int) - 1 = (d : Int) := by omega
  have e1 : wrap64 (8 * (d : Int)) = ((8 * d : Nat) : Int) := by rw [w64 (by omega)]; omega
  have e2 : wrap64 (((8 * d : Nat) : Int) + 8) = ((8 * d + 8 : Nat) : Int) := by rw [w64 (by omega)]; omega
  have e3 : wrap64 ((d : Int) - 1) = (d : Int) - 1 := w64 (by omega)
  have c1 : (0 : Int) ≤ ((8 * d : Nat) : Int) := by omega
  have c2 : ((8 * d : Nat) : Int) ≤ ((8 * d + 8 : Nat) : Int) := by omega
  have c3 : ((8 * d + 8 : Nat) : Int) ≤ (t.size : Int) := by omega
  have c0 : (d : Int) ≥ 0 := by omega
  have hn := jCt (t.extract (8 * d) (8 * d + 8)) (by rw [ByteArray.size_extract]; omega)
  have e4 : acc ++ jAP t (d + 1) = (acc ++ [jDY t d]) ++ jAP t d := by rw [jEg, List.append_assoc]; rfl
  have hl : acc.length < 17592186044416 := by omega
  have h := ih (acc ++ [jDY t d]) (by omega) (by rw [List.length_append, List.length_singleton]; omega)
  rw [e0, e4]
  refine Ev.step (fun k => by rw [jK.l0, e1, e2, e3, Int.toNat_natCast, Int.toNat_natCast]) ?_
  refine Ev.pos c0 ?_
  refine Ev.pos c1 ?_
  refine Ev.pos c2 ?_
  refine Ev.pos c3 ?_
  refine Ev.bind hn ?_
  exact Ev.pos hl h
theorem jDN {s : ByteArray} (hs : s.size ≤ 1000000) : Ev (fun k => jK.f k s) (gotN (natd s)) := by
 unfold jK.f natd
 have hg := jET hs
 cases hn : Oct.num s with
 | inl c =>
  rw [hn] at hg
  exact Ev.bind hg (Ev.neg (jEZ hn) (Ev.now _))
 | inr p =>
  obtain ⟨n, t⟩ := p
  rw [hn] at hg
  have n0 := Oct.jDQ hn
  have ts := Oct.jBE hn
  obtain ⟨m, rfl⟩ := Int.eq_ofNat_of_zero_le n0
  refine Ev.bind (a := ((m : Int), t, (0 : Int))) hg (Ev.pos rfl ?_)
  dsimp only
  rw [Int.toNat_natCast]
  by_cases h8 : 8 < m
  ·
   rw [if_pos h8]; exact Ev.pos (by omega) (Ev.now _)
  ·
   rw [if_neg h8]
   have e1 : wrap64 (m : Int) = (m : Int) := w64 (by omega)
   have e2 : wrap64 (8 * (m : Int)) = ((8 * m : Nat) : Int) := by rw [w64 (by omega)]; omega
   have e3 : wrap64 ((m : Int) - 1) = (m : Int) - 1 := w64 (by omega)
   rw [e1, e2, e3]
   have c8 : ¬ (m : Int) > 8 := by omega
   refine Ev.neg c8 ?_
   by_cases hs2 : t.size < 8 * m
   ·
    rw [if_pos hs2]
    have c1 : (t.size : Int) < ((8 * m : Nat) : Int) := by omega
    exact Ev.pos c1 (Ev.now _)
   ·
    rw [if_neg hs2]
    have c1 : ¬ (t.size : Int) < ((8 * m : Nat) : Int) := by omega
    have h := jIz (t := t) (by omega) (m := m) (by omega) (by omega) m [] (Nat.le_refl _) (by rw [List.length_nil]; omega)
    rw [List.nil_append] at h
    refine Ev.neg c1 (Ev.eq h ?_)
    by_cases hh : Held (jAP t m)
    ·
     rw [if_pos hh, if_pos hh]; rfl
    ·
     rw [if_neg hh, if_neg hh]; rfl
def ratd (s : ByteArray) : Int ⊕ (Bool × List Int × List Int × ByteArray) :=
 if s.size < 1 then .inl 60 else if 1 < (bt s 0).toNat then .inl 62 else
 match natd (s.extract 1 s.size) with
 | .inl c => .inl c
 | .inr (a, t) => match natd t with
  | .inl c => .inl c
  | .inr (b, u) => if mayd ((bt s 0) == 1) a b = true then .inr ((bt s 0) == 1, a, b, u) else .inl 62
theorem jKG (s : ByteArray) : Ev (fun k => OctRat.rat_ k s) (ratd s) := by
 unfold OctRat.rat_ ratd
 by_cases h1 : s.size < 1
 ·
  rw [if_pos h1]; exact Ev.pos h1 (Ev.now _)
 ·
  rw [if_neg h1]
  refine Ev.neg h1 ?_
  by_cases h2 : 1 < (bt s 0).toNat
  ·
   rw [if_pos h2]; exact Ev.pos h2 (Ev.now _)
  ·
   rw [if_neg h2]
   refine Ev.neg h2 (Ev.bind (jGa _) ?_)
   cases hn : natd (s.extract 1 s.size) with
   | inl c => exact Ev.now _
   | inr p =>
    obtain ⟨a, t⟩ := p
    obtain ⟨oa, _, _⟩ := jBf hn
    dsimp only
    refine Ev.bind (jGa _) ?_
    cases hm : natd t with
    | inl c => exact Ev.now _
    | inr q =>
     obtain ⟨b, u⟩ := q
     obtain ⟨ob, _, _⟩ := jBf hm
     dsimp only
     exact Ev.bind (jHf _ oa ob) (Ev.now _)
def gotR (v : Int ⊕ (Bool × List Int × List Int × ByteArray)) : Bool × List Int × List Int × ByteArray × Int := match v with | .inl c => (false, [], [], { data := #[] }, c) | .inr (n, a, b, t) => (n, a, b, t, 0)
theorem jHy {s : ByteArray} (hs : s.size ≤ 1000000) : Ev (fun k => zA.f k s) (gotR (ratd s)) := by
 unfold zA.f
 exact Ev.pos (by omega) (Ev.bind (jKG s) (Ev.now _))
theorem jGL {s t : ByteArray} {n : Bool} {a b : List Int} (h : ratd s = .inr (n, a, b, t)) : Ok a ∧ Ok b ∧ Held a ∧ Held b ∧ mayd n a b = true := by
 unfold ratd at h
 by_cases h1 : s.size < 1
 ·
  rw [if_pos h1] at h; cases h
 ·
  rw [if_neg h1] at h
  by_cases h2 : 1 < (bt s 0).toNat
  ·
   rw [if_pos h2] at h; cases h
  ·
   rw [if_neg h2] at h
   cases hn : natd (s.extract 1 s.size) with
   | inl c => rw [hn] at h; cases h
   | inr p =>
    obtain ⟨a', t'⟩ := p
    obtain ⟨oa, ha, _⟩ := jBf hn
    rw [hn] at h
    dsimp only at h
    cases hm : natd t' with
    | inl c => rw [hm] at h; cases h
    | inr q =>
     obtain ⟨b', u⟩ := q
     obtain ⟨ob, hb, _⟩ := jBf hm
     rw [hm] at h
     dsimp only at h
     by_cases hy : mayd ((bt s 0) == 1) a' b' = true
     ·
      rw [if_pos hy] at h; cases h; exact ⟨oa, ob, ha, hb, hy⟩
     ·
      rw [if_neg hy] at h; cases h
theorem jHj {s : ByteArray} (hs : s.size ≤ 1000000) : Ev (fun k => vQ.f k s) (gotR (ratd s)) := by
 unfold vQ.f ratd
 by_cases h1 : s.size < 1
 ·
  rw [if_pos h1]; exact Ev.pos (by omega) (Ev.now _)
 ·
  rw [if_neg h1]
  have hr := jBH s 0
  have c1 : ¬ (s.size : Int) = 0 := by omega
  have c2 : 0 < (s.size : Int) := by omega
  refine Ev.neg c1 ?_
  refine Ev.pos c2 ?_
  by_cases h2 : 1 < (bt s 0).toNat
  ·
   rw [if_pos h2]
   have c3 : bt s 0 > 1 := by omega
   exact Ev.pos c3 (Ev.now _)
  ·
   rw [if_neg h2]
   have c3 : ¬ bt s 0 > 1 := by omega
   have c4 : 1 ≤ (s.size : Int) := by omega
   have hz : (s.extract 1 s.size).size ≤ 1000000 := by rw [ByteArray.size_extract]; omega
   have hg := jDN hz
   refine Ev.neg c3 ?_
   refine Ev.pos c4 ?_
   cases hn : natd (s.extract 1 s.size) with
   | inl c =>
    rw [hn] at hg
    exact Ev.bind hg (Ev.neg (jEy hn) (Ev.now _))
   | inr p =>
    obtain ⟨a, t⟩ := p
    obtain ⟨oa, _, tz⟩ := jBf hn
    rw [hn] at hg
    have hg2 := jDN (s := t) (by omega)
    refine Ev.bind (a := (a, t, (0 : Int))) hg (Ev.pos rfl ?_)
    dsimp only
    cases hm : natd t with
    | inl c =>
     rw [hm] at hg2
     exact Ev.bind hg2 (Ev.neg (jEy hm) (Ev.now _))
    | inr q =>
     obtain ⟨b, u⟩ := q
     obtain ⟨ob, _, _⟩ := jBf hm
     rw [hm] at hg2
     refine Ev.bind (a := (b, u, (0 : Int))) hg2 (Ev.pos rfl ?_)
     dsimp only
     refine Ev.bind (jHb _ oa ob) ?_
     by_cases hy : mayd ((bt s 0) == 1) a b = true
     ·
      exact Ev.pos hy (Ev.eq (Ev.now _) (by rw [if_pos hy]; rfl))
     ·
      exact Ev.neg hy (Ev.eq (Ev.now _) (by rw [if_neg hy]; rfl))
end Go.Proofs.Ytijgeonhbmgikaa.EOOctetGets
end
