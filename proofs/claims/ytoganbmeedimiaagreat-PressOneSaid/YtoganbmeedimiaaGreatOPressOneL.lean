-- Written by a program of this session (shake.py): of the words and of this session's own texts what this claim names.
import Derived.Test.YtoganbmeedimiaaGreatPOPressOnex
import Derived.Lib.ItoaNum
import Derived.Laws.Bits64b
import Derived.Shelf.Spec.RuneCount
import Derived.Test.YtoganbmeedimiaaGreatOPressOneW
import Derived.Test.YtoganbmeedimiaaGreatOPressOneW1
set_option linter.unusedVariables false
set_option linter.unusedSimpArgs false
section
set_option linter.unusedVariables false
set_option linter.unusedSimpArgs false
namespace Go.Proofs.YtoganbmeedimiaaGreat.EOPressOne
open Go.RowKit Go.Proofs.YtoganbmeedimiaaGreat.POPressOne Go.Proofs.YtoganbmeedimiaaGreatN Go.Proofs.YtoganbmeedimiaaGreatW.PrintWords Go.Proofs.YtoganbmeedimiaaGreatW.PrintLast Go.Proofs.YtoganbmeedimiaaGreatW.PrintMore
def lows (n : Int) : Nat → List Int
 | 0 => []
 | i + 1 => n / 256 ^ i % 256 :: lows n i
theorem jBD (n : Int) : ∀ w, (lows n w).length = w
 | 0 => rfl
 | w + 1 => by rw [lows, List.length_cons, jBD n w]
theorem jBg (i : Nat) : (0 : Int) < 256 ^ i := Int.pow_pos (by decide)
theorem jCV (i : Nat) : (256 : Int) ^ i = 2 ^ (8 * i) := by rw [Int.pow_mul]; rfl
theorem jFK (n : Int) {i : Nat} (h : i ≤ 8) : shr .u64 n (8 * (i : Int)) = n / 256 ^ i := by
 unfold shr
 have e : min (Int.toNat (8 * (i : Int))) IntKind.u64.bits = 8 * i := by
  rw [show 8 * (i : Int) = ((8 * i : Nat) : Int) by omega, Int.toNat_natCast]
  exact Nat.min_eq_left (by show 8 * i ≤ 64; omega)
 rw [e, jCV]
theorem jDw {n : Int} {w : Nat} (hw : w ≤ 8) : ∀ (d i k : Nat), i + d = w → d < k → jd.l0 k n w (List.replicate d 0 ++ lows n i) w i = some (strOfNums (lows n w))
 | 0, i, k, hi, hk => by
  obtain ⟨k, rfl⟩ : ∃ j, k = j + 1 := ⟨k - 1, by omega⟩
  have : ¬ ((i : Int) < (w : Int)) := by omega
  rw [jd.l0, if_neg this]
  obtain rfl : i = w := by omega
  rfl
 | d + 1, i, k, hi, hk => by
  obtain ⟨k, rfl⟩ : ∃ j, k = j + 1 := ⟨k - 1, by omega⟩
  have e1 : wrap64 (8 * (i : Int)) = 8 * (i : Int) := by unfold wrap64; omega
  have e2 : wrap64 (wrap64 ((w : Int) - 1) - (i : Int)) = (d : Int) := by unfold wrap64; omega
  have e3 : wrap64 ((i : Int) + 1) = ((i + 1 : Nat) : Int) := by unfold wrap64; omega
  have c1 : (i : Int) < (w : Int) := by omega
  have c4 : (d : Int) < ((List.replicate (d + 1) (0 : Int) ++ lows n i).length : Int) := by
   rw [List.length_append, List.length_replicate]; omega
  have hs : (List.replicate (d + 1) (0 : Int) ++ lows n i).set d (n / 256 ^ i % 256) = List.replicate d 0 ++ lows n (i + 1) := by
   rw [List.replicate_succ', List.append_assoc, List.set_append_right _ _ (by rw [List.length_replicate]; exact Nat.le_refl _), List.length_replicate, Nat.sub_self]
   rfl
  rw [jd.l0, e1, e2, e3, if_pos c1, if_pos (by omega), if_pos (by omega), if_pos c4, jFK n (by omega), Int.toNat_natCast, hs]
  exact jDw hw d (i + 1) k (by omega) (by omega)
theorem jMp {n : Int} {w k : Nat} (hw : w ≤ 8) (hk : 8 < k) : jd.f k n w = some (strOfNums (lows n w)) := by
 unfold jd.f
 rw [if_pos (by omega), if_pos (by omega), Option.bind_some, List.length_replicate, Int.toNat_natCast]
 have := jDw (n := n) hw w 0 k (by omega) (by omega)
 rwa [show List.replicate w (0 : Int) ++ lows n 0 = List.replicate w 0 from List.append_nil _] at this
def wd (n : Int) : Nat := (Lib.bitLen n.toNat + 7) / 8
theorem jIx {n : Int} (h : n < B) : wd n ≤ 8 := by
 have := Lib.bitLen_le n.toNat 64 (Nat.le_refl _) (by rw [B_eq] at h; show n.toNat < 18446744073709551616; omega)
 unfold wd; omega
theorem jNr : wd 0 = 0 := by decide
def putB (n : Int) : List Int := (wd n : Int) :: lows n (wd n)
theorem qE (a b : List Int) : strOfNums a ++ strOfNums b = strOfNums (a ++ b) := by
 apply ByteArray.ext
 unfold strOfNums
 simp
theorem put_eq {n : Int} {k : Nat} (h0 : 0 ≤ n) (h1 : n < B) (hk : 8 < k) : vO.f k n = some (strOfNums (putB n)) := by
 have hw := jIx h1
 have hb := Lib.bitLen_le n.toNat 64 (Nat.le_refl _) (by rw [B_eq] at h1; show n.toNat < 18446744073709551616; omega)
 have e1 : wrap64 (Int.tdiv (wrap64 ((Lib.bitLen n.toNat : Int) + 7)) 8) = (wd n : Int) := by
  unfold wd
  generalize Lib.bitLen n.toNat = m at hb ⊢
  have : wrap64 ((m : Int) + 7) = ((m + 7 : Nat) : Int) := by unfold wrap64; omega
  rw [this, show Int.tdiv ((m + 7 : Nat) : Int) 8 = (((m + 7) / 8 : Nat) : Int) from rfl]
  unfold wrap64; omega
 have e2 : (wd n : Int) % 256 = (wd n : Int) := by omega
 unfold vO.f bits_Len64.f
 rw [if_pos ⟨h0, h1⟩, Option.bind_some, e1, e2, Option.bind_some, jMp hw hk, Option.bind_some, if_pos (by rw [strOfNums_size, strOfNums_size, jBD]; simp; omega), qE]
 rfl
theorem jFw (a : List Int) : (strOfNums a).toList = a.map fun n => UInt8.ofNat n.toNat := by
 exact ByteArray.toList_mk _
def unb (l : List Int) : Int := l.foldl (fun a c => a * 256 + c) 0
theorem jJM (l : List Int) : ∀ a : Int, l.foldl (fun a c => a * 256 + c) a = a * 256 ^ l.length + unb l := by
 induction l with
 | nil => intro a; simp [unb]
 | cons x l ih =>
  intro a
  have h1 := ih (a * 256 + x)
  have h2 := ih (0 * 256 + x)
  have h3 : unb (x :: l) = l.foldl (fun a c => a * 256 + c) (0 * 256 + x) := rfl
  rw [List.foldl_cons, h1, h3, h2, List.length_cons, Int.pow_succ, Int.mul_comm (256 ^ l.length) 256, ← Int.mul_assoc, ← Int.add_assoc, ← Int.add_mul]
  simp
theorem jIB (x : Int) (l : List Int) : unb (x :: l) = x * 256 ^ l.length + unb l := by
 have h3 : unb (x :: l) = l.foldl (fun a c => a * 256 + c) (0 * 256 + x) := rfl
 rw [h3, jJM]; simp
theorem jLV {n : Nat} (h : n < 18446744073709551616) : n < 2 ^ Lib.bitLen n := by
 by_cases h0 : n = 0
 ·
  subst h0; decide
 ·
  exact (Lib.bitLenAux_bounds 64 n h h0).2.2
theorem jPP {n : Int} (h0 : 0 ≤ n) (h1 : n < B) : n < 256 ^ wd n := by
 rw [B_eq] at h1
 have h := jLV (n := n.toNat) (by omega)
 have h2 : 2 ^ Lib.bitLen n.toNat ≤ 2 ^ (8 * wd n) := Nat.pow_le_pow_right (by decide) (by unfold wd; omega)
 rw [jCV]
 have h3 : (2 : Int) ^ (8 * wd n) = ((2 ^ (8 * wd n) : Nat) : Int) := by rw [Int.natCast_pow]; rfl
 omega
theorem jCT (n : Int) : (putB n).length = wd n + 1 := by unfold putB; rw [List.length_cons, jBD]
end Go.Proofs.YtoganbmeedimiaaGreat.EOPressOne
end
section
set_option linter.unusedVariables false
set_option linter.unusedSimpArgs false
namespace Go.Proofs.YtoganbmeedimiaaGreat.EOPressOne
open Go.RowKit Go.Proofs.YtoganbmeedimiaaGreat.POPressOne Go.Proofs.YtoganbmeedimiaaGreatN Go.Proofs.YtoganbmeedimiaaGreatW.PrintWords Go.Proofs.YtoganbmeedimiaaGreatW.PrintLast Go.Proofs.YtoganbmeedimiaaGreatW.PrintMore
def Bytes (l : List Int) : Prop := ∀ x ∈ l, 0 ≤ x ∧ x < 256
theorem Bytes.append {a b : List Int} (ha : Bytes a) (hb : Bytes b) : Bytes (a ++ b) := fun x hx => (List.mem_append.1 hx).elim (ha x) (hb x)
theorem Bytes.take {a : List Int} (ha : Bytes a) (n : Nat) : Bytes (a.take n) := fun x hx => ha x (List.mem_of_mem_take hx)
theorem Bytes.drop {a : List Int} (ha : Bytes a) (n : Nat) : Bytes (a.drop n) := fun x hx => ha x (List.mem_of_mem_drop hx)
theorem jCe (s : ByteArray) : Bytes (bytesOf s) := fun x hx => by
 unfold bytesOf at hx
 obtain ⟨b, _, rfl⟩ := List.mem_map.1 hx
 have := b.toNat_lt
 omega
theorem jBU (s : ByteArray) : strOfNums (bytesOf s) = s := by
 apply ByteArray.ext
 apply Array.ext'
 show (strOfNums (bytesOf s)).data.toList = s.data.toList
 rw [strOfNums_data, bytesOf, List.map_map]
 conv => rhs; rw [← List.map_id s.data.toList]
 apply List.map_congr_left
 intro b _
 simp
theorem jEE {l : List Int} (h : Bytes l) : bytesOf (strOfNums l) = l := by
 unfold bytesOf
 rw [strOfNums_data, List.map_map]
 conv => rhs; rw [← List.map_id l]
 apply List.map_congr_left
 intro x hx
 have := h x hx
 simp
 omega
theorem jAB (l : List Int) (i j : Nat) : (strOfNums l).extract i j = strOfNums ((l.take j).drop i) := by
 apply ByteArray.ext
 apply Array.ext'
 rw [ByteArray.data_extract]
 unfold strOfNums
 simp [List.map_take, List.map_drop, List.drop_take]
theorem jIi {l : List Int} (h : Bytes l) (i : Nat) : bt (strOfNums l) i = l.getD i 0 := by
 rw [← jJC, jEE h]
 rfl
theorem zq (l : List Int) : (strOfNums l).size = l.length := strOfNums_size l
theorem jPW {a c : Int} (ha : 0 ≤ a) (hc : 0 ≤ c ∧ c < 256) (h : a * 256 + c < B) : Oct.stp a c = a * 256 + c := by
 rw [B_eq] at h
 obtain ⟨x, rfl⟩ := Int.eq_ofNat_of_zero_le ha
 obtain ⟨y, rfl⟩ := Int.eq_ofNat_of_zero_le hc.1
 unfold Oct.stp
 have e1 : IntKind.u64.wrap ((x : Int) * 256) = ((2 ^ 8 * x : Nat) : Int) := by rw [IntKind.wrap_u64]; omega
 have e2 : IntKind.u64.wrap (y : Int) = ((y : Nat) : Int) := by rw [IntKind.wrap_u64]; omega
 have h3 := bits_or_u64_nat (2 ^ 8 * x) y (by omega) (by omega)
 rw [e1, e2]
 refine Eq.trans h3 ?_
 rw [← Nat.two_pow_add_eq_or_of_lt (by omega : y < 2 ^ 8)]
 omega
theorem jPO {n : Int} (h0 : 0 ≤ n) (h1 : n < B) (hw : 0 < wd n) : n / 256 ^ (wd n - 1) % 256 ≠ 0 := by
 rw [B_eq] at h1
 have hn : n.toNat ≠ 0 := fun e => by
  have : n = 0 := by omega
  subst this; rw [jNr] at hw; omega
 obtain ⟨hb1, hb2, hb3⟩ := Lib.bitLenAux_bounds 64 n.toNat (by omega) hn
 have hb1 : 1 ≤ Lib.bitLen n.toNat := hb1
 have hb2 : 2 ^ (Lib.bitLen n.toNat - 1) ≤ n.toNat := hb2
 have hle : 2 ^ (8 * (wd n - 1)) ≤ 2 ^ (Lib.bitLen n.toNat - 1) := Nat.pow_le_pow_right (by decide) (by unfold wd; omega)
 have hlo : 256 ^ (wd n - 1) ≤ n := by
  rw [jCV]
  have h3 : (2 : Int) ^ (8 * (wd n - 1)) = ((2 ^ (8 * (wd n - 1)) : Nat) : Int) := by rw [Int.natCast_pow]; rfl
  omega
 have hhi := jPP h0 (by rw [B_eq]; exact h1)
 have hp := jBg (wd n - 1)
 have e : (256 : Int) ^ wd n = 256 ^ (wd n - 1) * 256 := by rw [← Int.pow_succ]; congr 1; omega
 rw [e] at hhi
 have q1 : 1 ≤ n / 256 ^ (wd n - 1) := by rw [Int.le_ediv_iff_mul_le hp]; omega
 have q2 : n / 256 ^ (wd n - 1) < 256 := Int.ediv_lt_of_lt_mul hp (by rw [Int.mul_comm]; exact hhi)
 omega
end Go.Proofs.YtoganbmeedimiaaGreat.EOPressOne
end
section
set_option linter.unusedVariables false
set_option linter.unusedSimpArgs false
namespace Go.Proofs.YtoganbmeedimiaaGreatN
theorem jMz (x y : Int) : (cmpv x y == 0) = decide (x = y) := by
 unfold cmpv
 by_cases h : x < y
 ·
  rw [if_pos h]
  have : x ≠ y := by omega
  simp [this]
 ·
  rw [if_neg h]
  by_cases h2 : x = y <;> simp [h2]
theorem jDL {x y : Int} : cmpv x y < 0 ↔ x < y := by unfold cmpv; split <;> (try split) <;> omega
end Go.Proofs.YtoganbmeedimiaaGreatN
end
section
set_option linter.unusedVariables false
set_option linter.unusedSimpArgs false
namespace Go.Proofs.YtoganbmeedimiaaGreat.EOPressOne
open Go.RowKit Go.Proofs.YtoganbmeedimiaaGreat.POPressOne Go.Proofs.YtoganbmeedimiaaGreatN Go.Proofs.YtoganbmeedimiaaGreatW.PrintWords Go.Proofs.YtoganbmeedimiaaGreatW.PrintLast Go.Proofs.YtoganbmeedimiaaGreatW.PrintMore
theorem w64 {x : Int} (h : -4611686018427387904 ≤ x ∧ x ≤ 4611686018427387904) : wrap64 x = x := by unfold wrap64; omega
theorem jBp (l : List Int) (n : Nat) : rd l (n : Int) = l.getD n 0 := rfl
theorem zf {α β : Type} (a : α) (f : α → Option β) : (some a).bind f = f a := rfl
theorem Ev.zf {α β : Type} {a : α} {f : Nat → α → Option β} {r : β} (h : Ev (fun k => f k a) r) : Ev (fun k => (some a).bind (f k)) r := h
theorem Ev.pos {α : Type} {c : Prop} [Decidable c] {f g : Nat → Option α} {r : α} (hc : c) (h : Ev f r) : Ev (fun k => if c then f k else g k) r := by
 simp only [if_pos hc]; exact h
theorem Ev.neg {α : Type} {c : Prop} [Decidable c] {f g : Nat → Option α} {r : α} (hc : ¬ c) (h : Ev g r) : Ev (fun k => if c then f k else g k) r := by
 simp only [if_neg hc]; exact h
theorem Ev.const {α : Type} {g : Option α} {r : α} (h : g = some r) : Ev (fun _ => g) r := ⟨0, fun _ _ => h⟩
theorem Ev.vI {α β : Type} {g : Option α} {f : Nat → α → Option β} {a : α} {r : β} (h : g = some a) (k : Ev (fun n => f n a) r) : Ev (fun n => g.bind (f n)) r := by
 rw [h]; exact k
theorem jOv {x y c : Int} (hx : 0 ≤ x ∧ x < B) (hy : 0 ≤ y ∧ y < B) (hc : 0 ≤ c ∧ c ≤ 1) : ad64 x y c + B * ac64 x y c = x + y + c ∧ (0 ≤ ad64 x y c ∧ ad64 x y c < B) ∧ 0 ≤ ac64 x y c ∧ ac64 x y c ≤ 1 := by
 unfold ad64 ac64
 rw [B_eq] at *
 omega
theorem jNG {c : Int} (hc : 0 ≤ c ∧ c ≤ 1) : ac64 0 0 c = 0 := by
 unfold ac64
 omega
theorem jNv : ∀ (n : Nat) (l : List Int), l.length = n → n ≤ 17592186044416 → Ok l → ∀ k, n < k → jJ.l0 k l = some (dg (val l)) := by
 intro n
 induction n with
 | zero =>
  intro l hl _ _ k hk
  obtain ⟨k, rfl⟩ : ∃ m, k = m + 1 := ⟨k - 1, by omega⟩
  obtain rfl : l = [] := List.eq_nil_of_length_eq_zero hl
  rw [qg, jBd]
  rfl
 | succ n ih =>
  intro l hl hn ho k hk
  obtain ⟨k, rfl⟩ : ∃ m, k = m + 1 := ⟨k - 1, by omega⟩
  have hw : wrap64 ((l.length : Int) - 1) = (n : Int) := by rw [w64 (by omega)]; omega
  simp only [jJ.l0, hw]
  rw [if_pos (by omega), if_pos (by omega), if_pos (by omega), jBp]
  by_cases hz : l.getD n 0 = 0
  ·
   rw [if_pos hz, if_pos (by omega), Int.toNat_natCast, ih (l.take n) (by rw [List.length_take]; omega) (by omega) (ho.take n) k (by omega)]
   have e := vG l n (by omega)
   rw [qV (by omega), hz, List.drop_eq_nil_of_le (by omega), qg] at e
   rw [e]
   simp
  ·
   rw [if_neg hz, jLA ho (.inr (by rw [hl]; exact hz))]
theorem jAO {l : List Int} (ho : Ok l) (hl : l.length ≤ 17592186044416) : Ev (fun k => jJ.f k l) (dg (val l)) := ⟨l.length + 1, fun k hk => jNv l.length l rfl hl ho k (by omega)⟩
theorem jDM {l : List Int} (hl : l.length < 17592186044416) : jT.f l = some l := if_pos hl
theorem jCt {l : List Int} (ho : Ok l) (hl : l.length < 17592186044416) : Ev (fun k => vC.f k l) (dg (val l)) := by
 unfold vC.f
 exact Ev.bind (jAO ho (by omega)) (Ev.vI (jDM (by have := zo ho; omega)) (Ev.now _))
theorem jLl {v p s t y c c' r r' : Int} (h1 : s + B * c' = t + y + c) (h2 : r = y + B * r') : v + p * (s - t) + p * B * (c' + r') = v + p * (c + r) := by
 have e : s - t + B * (c' + r') = c + r := by rw [Int.mul_add]; omega
 have e2 : p * (c + r) = p * (s - t) + p * (B * (c' + r')) := by rw [← e, Int.mul_add]
 rw [e2, Int.mul_assoc, Int.add_assoc]
theorem getD_none {l : List Int} {i : Nat} (h : l.length ≤ i) : l.getD i 0 = 0 := by rw [List.getD_eq_getElem?_getD, List.getElem?_eq_none h]; rfl
theorem jES (l : List Int) (x : Int) : (l ++ [x]).getD l.length 0 = x := by simp
theorem jLC {n : Int} (h : 0 ≤ n) : (((dg n).length : Int) = 0) ↔ n = 0 := by
 rw [← jEu h]
 constructor
 ·
  intro e; exact List.eq_nil_of_length_eq_zero (by omega)
 ·
  intro e; rw [e]; rfl
theorem jNe {a b : List Int} (ha : Ok a) (hb : Ok b) {i : Nat} (hab : a.length = b.length) (hi : i < a.length) (hd : a.drop (i + 1) = b.drop (i + 1)) (h : a.getD i 0 < b.getD i 0) : val a < val b := by
 have e1 := vG a i (by omega)
 have e2 := vG b i (by omega)
 rw [qV hi] at e1
 rw [qV (by omega)] at e2
 rw [hd] at e1
 have h1 := jAJ (ha.take i)
 have h2 := jc (hb.take i)
 rw [List.length_take, Nat.min_eq_left (by omega)] at h1
 have h3 : B ^ i * (a.getD i 0 + B * val (b.drop (i + 1)) + 1) ≤ B ^ i * (b.getD i 0 + B * val (b.drop (i + 1))) := Int.mul_le_mul_of_nonneg_left (by omega) (Int.le_of_lt (zX i))
 rw [Int.mul_add] at h3
 omega
theorem jQg {a b : List Int} (ha : Ok a) (hb : Ok b) (hab : a.length = b.length) (hl : a.length ≤ 17592186044416) : ∀ (n : Nat), n ≤ a.length → a.drop n = b.drop n → ∀ k, n < k → jo.l0 k a b ((n : Int) - 1) = some (cmpv (val a) (val b)) := by
 intro n
 induction n with
 | zero =>
  intro _ hd k hk
  obtain ⟨k, rfl⟩ : ∃ m, k = m + 1 := ⟨k - 1, by omega⟩
  have : a = b := by simpa using hd
  subst this
  simp only [jo.l0]
  rw [if_neg (by omega), jLH]
 | succ n ih =>
  intro hn hd k hk
  obtain ⟨k, rfl⟩ : ∃ m, k = m + 1 := ⟨k - 1, by omega⟩
  have e : (((n + 1 : Nat) : Int) - 1) = (n : Int) := by omega
  rw [e]
  simp only [jo.l0]
  rw [if_pos (by omega), if_pos (by omega), if_pos (by omega), if_pos (by omega), jBp, jBp, w64 (by omega)]
  by_cases h1 : a.getD n 0 < b.getD n 0
  ·
   have := jNe ha hb hab (by omega) hd h1
   rw [if_pos h1]
   simp [cmpv, this]
  ·
   rw [if_neg h1]
   by_cases h2 : b.getD n 0 < a.getD n 0
   ·
    have := jNe hb ha hab.symm (by omega) hd.symm h2
    rw [if_pos h2]
    unfold cmpv
    rw [if_neg (by omega), if_neg (by omega)]
   ·
    rw [if_neg h2]
    refine ih (by omega) ?_ k (by omega)
    have ha' : n < a.length := by omega
    have hb' : n < b.length := by omega
    have e1 : a.getD n 0 = a[n] := by rw [List.getD_eq_getElem?_getD, List.getElem?_eq_getElem ha']; rfl
    have e2 : b.getD n 0 = b[n] := by rw [List.getD_eq_getElem?_getD, List.getElem?_eq_getElem hb']; rfl
    rw [List.drop_eq_getElem_cons ha', List.drop_eq_getElem_cons hb', hd, ← e1, ← e2, show a.getD n 0 = b.getD n 0 from by omega]
theorem jGj {m n : Int} (h0 : 0 ≤ m) (h : (dg m).length < (dg n).length) : m < n := by
 rcases Int.lt_or_le m n with h1 | h1
 ·
  exact h1
 ·
  exfalso
  have h2 : m < B ^ (dg m).length := jKj (Nat.le_refl _)
  have := jBu (n := n) (m := (dg m).length) (by omega)
  omega
theorem jLI {a b : List Int} (ha : Ok a) (hb : Ok b) (hal : a.length ≤ 17592186044416) (hbl : b.length ≤ 17592186044416) : Ev (fun k => jo.f k a b) (cmpv (val a) (val b)) := by
 unfold jo.f
 have h0 := jc ha
 have h1 := jc hb
 have l0 := zo ha
 have l1 := zo hb
 refine Ev.bind (jAO ha hal) (Ev.bind (jAO hb hbl) ?_)
 by_cases h : (dg (val a)).length = (dg (val b)).length
 ·
  refine Ev.pos (by omega) ⟨(dg (val a)).length + 1, fun k hk => ?_⟩
  have := jQg (jAs (val a)) (jAs (val b)) h (by omega) (dg (val a)).length (by omega) (by rw [List.drop_eq_nil_of_le (by omega), List.drop_eq_nil_of_le (by omega)]) k (by omega)
  rw [qh h0, qh h1] at this
  rw [w64 (by omega)]
  exact this
 ·
  refine Ev.neg (by omega) ?_
  by_cases h2 : (dg (val a)).length < (dg (val b)).length
  ·
   refine Ev.pos (by omega) ?_
   have := jGj h0 h2
   simp only [cmpv, this, if_true]
   exact Ev.now _
  ·
   refine Ev.neg (by omega) ?_
   have := jGj h1 (show (dg (val b)).length < (dg (val a)).length by omega)
   unfold cmpv
   rw [if_neg (by omega), if_neg (by omega)]
   exact Ev.now _
end Go.Proofs.YtoganbmeedimiaaGreat.EOPressOne
end
section
set_option linter.unusedVariables false
set_option linter.unusedSimpArgs false
namespace Go.Proofs.YtoganbmeedimiaaGreat.EOPressOne
open Go.RowKit Go.Proofs.YtoganbmeedimiaaGreat.POPressOne Go.Proofs.YtoganbmeedimiaaGreatN Go.Proofs.YtoganbmeedimiaaGreatW.PrintWords Go.Proofs.YtoganbmeedimiaaGreatW.PrintLast Go.Proofs.YtoganbmeedimiaaGreatW.PrintMore
theorem jRO {x y c : Int} (hx : 0 ≤ x ∧ x < B) (hy : 0 ≤ y ∧ y < B) (hc : 0 ≤ c ∧ c ≤ 1) : sb64 x y c - B * bb64 x y c = x - y - c ∧ (0 ≤ sb64 x y c ∧ sb64 x y c < B) ∧ 0 ≤ bb64 x y c ∧ bb64 x y c ≤ 1 := by
 unfold sb64 bb64
 rw [B_eq] at *
 split <;> omega
theorem jNy {V v p s t y c c' r' Q : Int} (h1 : s - B * c' = t - y - c) (ih : V + p * B * (c' + r') = v + p * (s - t) + Q) : V + p * (c + (y + B * r')) = v + Q := by
 have e : c + (y + B * r') = (t - s) + B * (c' + r') := by rw [Int.mul_add]; omega
 have e2 : p * (c + (y + B * r')) = p * (t - s) + p * B * (c' + r') := by rw [e, Int.mul_add, Int.mul_assoc]
 have e3 : p * (t - s) = - (p * (s - t)) := by rw [← Int.mul_neg]; congr 1; omega
 omega
theorem jKP (b : List Int) (d i : Nat) : val ((b.drop i).take (d + 1)) = b.getD i 0 + B * val ((b.drop (i + 1)).take d) := by
 by_cases h : i < b.length
 ·
  rw [List.drop_eq_getElem_cons h, List.take_succ_cons, qW, List.getD_eq_getElem?_getD, List.getElem?_eq_getElem h]; rfl
 ·
  rw [List.drop_eq_nil_of_le (by omega), List.drop_eq_nil_of_le (by omega), getD_none (by omega)]
  simp [val]
theorem jPU (b : List Int) (hb : Ok b) : ∀ (d : Nat) (x : List Int) (c : Int) (i : Nat), Ok x → (0 ≤ c ∧ c ≤ 1) → i + d = x.length →
  Ok (jr.l0 d x b c i) ∧ (jr.l0 d x b c i).length = x.length ∧ ∃ ce, (0 ≤ ce ∧ ce ≤ 1) ∧ val (jr.l0 d x b c i) + B ^ i * (c + val ((b.drop i).take d)) = val x + B ^ (i + d) * ce := by
 intro d
 induction d with
 | zero =>
  intro x c i hx hc hi
  refine ⟨hx, rfl, c, hc, ?_⟩
  simp [jr.l0, val]
 | succ d ih =>
  intro x c i hx hc hi
  have hxi := hx.at i
  obtain ⟨hs, hok, hcc⟩ := jRO hxi (hb.at i) hc
  obtain ⟨h1, h2, ce, h3, h4⟩ := ih (x.set i (sb64 (x.getD i 0) (b.getD i 0) c)) (bb64 (x.getD i 0) (b.getD i 0) c) (i + 1) (hx.set i hok.1 hok.2) hcc (by rw [List.length_set]; omega)
  rw [jr.l0]
  refine ⟨h1, by rw [h2, List.length_set], ce, h3, ?_⟩
  rw [jKP, show i + (d + 1) = i + 1 + d from by omega]
  refine jNy hs ?_
  rw [jBw (by omega : i < x.length), zP] at h4
  exact h4
theorem jNz {x b : List Int} (hx : Ok x) (hb : Ok b) (h : val b ≤ val x) : Ok (jr.l0 x.length x b 0 0) ∧ (jr.l0 x.length x b 0 0).length = x.length ∧ val (jr.l0 x.length x b 0 0) = val x - val b := by
 obtain ⟨h1, h2, ce, h3, h4⟩ := jPU b hb x.length x 0 0 hx (by omega) (by omega)
 refine ⟨h1, h2, ?_⟩
 have hp := zX x.length
 have hxl := jAJ hx
 have hy0 := jc h1
 have hyl := jAJ h1
 rw [h2] at hyl
 have hbt : val (b.take x.length) = val b := by
  by_cases hl : b.length ≤ x.length
  ·
   rw [List.take_of_length_le hl]
  ·
   have e := vG b x.length (by omega)
   have n1 := jc (hb.take x.length)
   have n2 := jc (hb.drop x.length)
   have : val (b.drop x.length) = 0 := by
    rcases Int.lt_or_le 0 (val (b.drop x.length)) with h5 | h5
    ·
     have : B ^ x.length * 1 ≤ B ^ x.length * val (b.drop x.length) := Int.mul_le_mul_of_nonneg_left (by omega) (by omega)
     omega
    ·
     omega
   rw [this] at e
   omega
 simp only [List.drop_zero, Int.pow_zero, Int.one_mul, Int.zero_add, hbt, Nat.zero_add] at h4
 have : ce = 0 := by
  rcases Int.lt_or_le 0 ce with h5 | h5
  ·
   have e1 : ce = 1 := by omega
   rw [e1] at h4
   have n1 := jc hb
   omega
  ·
   omega
 rw [this] at h4
 omega
theorem jPV {a b : List Int} (ha : Ok a) (hb : Ok b) (hal : a.length ≤ 4294967296) (hbl : b.length ≤ 4294967296) : Ev (fun k => jr.f k a b) (if val a < val b then ([], false) else (dg (val a - val b), true)) := by
 unfold jr.f
 refine Ev.bind (jLI ha hb (by omega) (by omega)) ?_
 by_cases h : val a < val b
 ·
  rw [if_pos h]
  exact Ev.pos (jDL.2 h) (Ev.now _)
 ·
  rw [if_neg h]
  refine Ev.neg (fun e => h (jDL.1 e)) (Ev.bind (jCt ha (by omega)) ?_)
  have h0 := jc ha
  have hl := zo ha
  obtain ⟨h1, h2, h3⟩ := jNz (jAs (val a)) hb (by rw [qh h0]; omega)
  rw [qh h0] at h3
  have := jAO h1 (by rw [h2]; omega)
  rw [h3] at this
  exact Ev.bind this (Ev.now _)
theorem jKQ (out : List Int) (n : Nat) : val (jK.pad out n) = val out := by unfold jK.pad; rw [val_append, jBR]; simp
theorem jNP {out : List Int} (h : Ok out) (n : Nat) : Ok (jK.pad out n) := h.append (Ok.rep _)
theorem jKR (out : List Int) (n : Nat) : (jK.pad out n).length = max out.length n := by unfold jK.pad; simp; omega
theorem jRW : ∀ (row out : List Int) (i : Nat) (c : Int), Ok row → Ok out → (0 ≤ c ∧ c ≤ 1) → i + row.length ≤ out.length →
  ∃ o c', jK.l3 row out i c = some (o, c') ∧ Ok o ∧ o.length = out.length ∧ (0 ≤ c' ∧ c' ≤ 1) ∧ val o + B ^ (i + row.length) * c' = val out + B ^ i * (c + val row) := by
 intro row
 induction row with
 | nil =>
  intro out i c _ ho hc _
  exact ⟨out, c, rfl, ho, rfl, hc, by simp [val]⟩
 | cons x row ih =>
  intro out i c hr ho hc hl
  simp only [List.length_cons] at hl
  obtain ⟨hs, hok, hcc⟩ := jOv (ho.at i) hr.head hc
  obtain ⟨o, c', e, h1, h2, h3, h4⟩ := ih (out.set i (ad64 (out.getD i 0) x c)) (i + 1) (ac64 (out.getD i 0) x c) hr.tail (ho.set i hok.1 hok.2) hcc (by rw [List.length_set]; omega)
  refine ⟨o, c', ?_, h1, by rw [h2, List.length_set], h3, ?_⟩
  ·
   rw [jK.l3, if_pos ⟨hc.2, by omega⟩]; exact e
  ·
   rw [List.length_cons, show i + (row.length + 1) = i + 1 + row.length from by omega, h4, jBw (by omega), zP]
   exact jLl hs rfl
theorem jRV : ∀ (d : Nat) (out : List Int) (i : Nat) (c : Int), Ok out → (0 ≤ c ∧ c ≤ 1) → i ≤ out.length → out.length - i + c.toNat = d → (out.length < 17592186044414 ∨ c = 0) →
  ∃ o, Ev (fun k => jK.l4 k out i c) o ∧ Ok o ∧ o.length ≤ out.length + 1 ∧ val o = val out + B ^ i * c := by
 intro d
 induction d using Nat.strongRecOn with
 | _ d ih =>
  intro out i c ho hc hi hd hl
  by_cases h0 : 0 < c
  ·
   have hc1 : c = 1 := by omega
   have hp := jNP ho (i + 1)
   obtain ⟨hs, hok, hcc⟩ := jOv (hp.at i) ⟨Int.le_refl 0, jBP⟩ hc
   have hpl := jKR out (i + 1)
   have hstep : ∀ k, jK.l4 (k + 1) out i c = jK.l4 k ((jK.pad out (i + 1)).set i (ad64 ((jK.pad out (i + 1)).getD i 0) 0 c)) (i + 1) (ac64 ((jK.pad out (i + 1)).getD i 0) 0 c) := fun k => by
    rw [jK.l4, if_pos h0, if_pos ⟨hc.2, hi, by omega⟩]
   have hcn : i = out.length → ac64 ((jK.pad out (i + 1)).getD i 0) 0 c = 0 := by
    intro e
    have : (jK.pad out (i + 1)).getD i 0 = 0 := by rw [jK.jIN e, e]; exact jES _ _
    rw [this]
    exact jNG hc
   obtain ⟨o, h1, h2, h3, h4⟩ := ih ((jK.pad out (i + 1)).length - (i + 1) + (ac64 ((jK.pad out (i + 1)).getD i 0) 0 c).toNat) (by
     by_cases e : i = out.length
     ·
      rw [hcn e]; omega
     ·
      omega) ((jK.pad out (i + 1)).set i (ad64 ((jK.pad out (i + 1)).getD i 0) 0 c)) (i + 1) (ac64 ((jK.pad out (i + 1)).getD i 0) 0 c) (hp.set i hok.1 hok.2) hcc (by rw [List.length_set]; omega) (by rw [List.length_set]) (by
     rw [List.length_set]
     by_cases e : i = out.length
     ·
      exact .inr (hcn e)
     ·
      exact .inl (by omega))
   refine ⟨o, Ev.step hstep h1, h2, ?_, ?_⟩
   ·
    rw [List.length_set] at h3
    by_cases e : i = out.length
    ·
     have hz := hcn e
     rw [hz] at h1
     have hnow : Ev (fun k => jK.l4 k ((jK.pad out (i + 1)).set i (ad64 ((jK.pad out (i + 1)).getD i 0) 0 c)) (i + 1) 0) ((jK.pad out (i + 1)).set i (ad64 ((jK.pad out (i + 1)).getD i 0) 0 c)) :=
      Ev.step (fun k => by rw [jK.l4, if_neg (by omega)]) (Ev.now _)
     obtain ⟨K1, e1⟩ := h1
     obtain ⟨K2, e2⟩ := hnow
     have e3 := (e1 (max K1 K2) (by omega)).symm.trans (e2 (max K1 K2) (by omega))
     injection e3 with e3
     rw [e3, List.length_set]
     omega
    ·
     omega
   ·
    rw [h4, jBw (by omega), jKQ, zP]
    have := jLl (v := val out) (p := B ^ i) (r := 0) (r' := 0) hs (by omega)
    simp only [Int.add_zero] at this
    exact this
  ·
   have hc0 : c = 0 := by omega
   subst hc0
   exact ⟨out, Ev.step (fun k => by rw [jK.l4, if_neg (by omega)]) (Ev.now _), ho, by omega, by omega⟩
theorem jRX (L : Nat) (hL : L ≤ 4294967296) : ∀ (rows : List (List Int)) (j : Nat) (out : List Int), (∀ r ∈ rows, Ok r ∧ r.length ≤ L) → Ok out → out.length ≤ 2 * j + L → j + rows.length ≤ 4294967296 →
  ∃ o, Ev (fun k => jK.l1 k rows j out) o ∧ Ok o ∧ o.length ≤ 2 * (j + rows.length) + L ∧ val o = val out + B ^ j * sumv rows := by
 intro rows
 induction rows with
 | nil =>
  intro j out _ ho hl _
  refine ⟨out, Ev.now _, ho, by simpa using hl, by simp [sumv]⟩
 | cons r rows ih =>
  intro j out hr ho hl hj
  simp only [List.length_cons] at hj
  obtain ⟨hrk, hrl⟩ := hr r (List.mem_cons_self ..)
  have hdl := zo hrk
  have hpl := jKR out (j + (dg (val r)).length)
  obtain ⟨o1, c1, e1, a1, a2, a3, a4⟩ := jRW (dg (val r)) (jK.pad out (j + (dg (val r)).length)) j 0 (jAs _) (jNP ho _) (by omega) (by omega)
  obtain ⟨o2, b0, b1, b2, b3⟩ := jRV _ o1 (j + (dg (val r)).length) c1 a1 a3 (by omega) rfl (.inl (by omega))
  obtain ⟨o3, d0, d1, d2, d3⟩ := ih (j + 1) o2 (fun r' h' => hr r' (List.mem_cons_of_mem _ h')) b1 (by omega) (by omega)
  refine ⟨o3, ?_, d1, by simp only [List.length_cons]; omega, ?_⟩
  ·
   simp only [jK.l1]
   refine Ev.bind (jAO hrk (by omega)) (Ev.pos (by omega) (Ev.vI e1 (Ev.bind b0 d0)))
  ·
   rw [d3, b3, a4, jKQ, qh (jc hrk), sumv, zP, Int.zero_add, Int.mul_add, Int.mul_assoc]
   omega
theorem jPT {rows : List (List Int)} {L : Nat} (hL : L ≤ 4294967296) (hr : ∀ r ∈ rows, Ok r ∧ r.length ≤ L) (hn : rows.length ≤ 4294967296) : Ev (fun k => jK.f k rows) (dg (sumv rows)) := by
 obtain ⟨o, h1, h2, h3, h4⟩ := jRX L hL rows 0 [] hr Ok.nil (by simp) (by omega)
 unfold jK.f
 have e : val o = sumv rows := by rw [h4]; simp [val]
 have hl := zo h2
 refine Ev.bind h1 (Ev.bind (jAO h2 (by omega)) ?_)
 rw [← e]
 exact Ev.vI (jDM (by omega)) (Ev.now _)
theorem jPr {x y : Int} (hx : 0 ≤ x ∧ x < B) (hy : 0 ≤ y ∧ y < B) : 0 ≤ x * y / B ∧ x * y / B ≤ B - 2 ∧ (0 ≤ x * y % B ∧ x * y % B < B) ∧ x * y % B + B * (x * y / B) = x * y := by
 have h1 : x * y ≤ (B - 1) * (B - 1) := Int.mul_le_mul (by omega) (by omega) hy.1 (by have := jBP; omega)
 have h0 : 0 ≤ x * y := Int.mul_nonneg hx.1 hy.1
 have e := Int.emod_add_mul_ediv (x * y) B
 refine ⟨Int.ediv_nonneg h0 (Int.le_of_lt jBP), ?_, ⟨Int.emod_nonneg _ (Int.ne_of_gt jBP), Int.emod_lt_of_pos _ jBP⟩, e⟩
 rw [B_eq] at *
 generalize x * y = z at *
 omega
theorem u64w {x : Int} (h : 0 ≤ x ∧ x < B) : IntKind.u64.wrap x = x := by rw [IntKind.wrap_u64]; rw [B_eq] at h; omega
theorem jMd {x y : Int} (hx : 0 ≤ x ∧ x < B) (hy : 0 ≤ y ∧ y < B) : bits_Mul64.f x y = some (x * y / B, x * y % B) := if_pos ⟨hx, hy⟩
theorem jFZ {l : List Int} {i : Nat} {v : Int} (h : ∀ j, i ≤ j → l.getD j 0 = 0) : ∀ j, i + 1 ≤ j → (l.set i v).getD j 0 = 0 := by
 intro j hj
 have := h j (by omega)
 rw [List.getD_eq_getElem?_getD] at this ⊢
 rw [List.getElem?_set_ne (by omega)]
 exact this
theorem jOL {v p x n t y c c' P : Int} (h0 : v + p * c = x * P) (h1 : n + B * c' = t + x * y + c) (ht : t = 0) : v + p * (n - t) + p * B * c' = x * (P + p * y) := by
 have e : n - t + B * c' = x * y + c := by omega
 have e2 : v + p * (n - t) + p * B * c' = v + p * (n - t + B * c') := by rw [Int.mul_add, Int.mul_assoc, Int.add_assoc]
 rw [e2, e, Int.mul_add, Int.mul_add, ← h0]
 have e3 : p * (x * y) = x * (p * y) := by rw [← Int.mul_assoc, Int.mul_comm p x, Int.mul_assoc]
 omega
theorem jOM (b : List Int) (hb : Ok b) (hbl : b.length ≤ 4294967296) (x : Int) (hx : 0 ≤ x ∧ x < B) (rows : List (List Int)) (hrl : rows.length < 5864062014805) (a : List Int) (al j : Int) : ∀ (d : Nat) (r : List Int) (c : Int) (i : Nat), b.length - i = d → i ≤ b.length → Ok r → r.length = b.length + 1 → (0 ≤ c ∧ c < B) → (∀ m, i ≤ m → r.getD m 0 = 0) → val r + B ^ i * c = x * val (b.take i) →
  ∃ r', Ok r' ∧ r'.length = b.length + 1 ∧ val r' = x * val b ∧ ∀ res, Ev (fun k => jZ.l0 k b (rows ++ [r']) a al (wrap64 (j + 1))) res → Ev (fun k => jZ.l1 k b rows x r c a al j b (b.length : Int) i) res := by
 intro d
 induction d with
 | zero =>
  intro r c i hd hi hr hrlen hc hz hv
  have hib : i = b.length := by omega
  subst hib
  refine ⟨r.set b.length c, hr.set _ hc.1 hc.2, by rw [List.length_set]; exact hrlen, ?_, fun res hres => Ev.step (fun k => ?_) hres⟩
  ·
   rw [jBw (by omega), hz _ (Nat.le_refl _), Int.sub_zero, hv, List.take_length]
  ·
   simp only [jZ.l1]
   rw [if_neg (by omega), if_pos (by omega), if_pos (by omega), if_pos hrl, Int.toNat_natCast]
 | succ d ih =>
  intro r c i hd hi hr hrlen hc hz hv
  have hib : i < b.length := by omega
  have hbi := hb.at i
  obtain ⟨m1, m2, m3, m4⟩ := jPr hx hbi
  have hlo : (0 ≤ x * b.getD i 0 % B ∧ x * b.getD i 0 % B < B) := m3
  have ha := jOv (c := 0) hlo hc (by omega)
  obtain ⟨s1, s2, s3⟩ := ha
  have hwr : IntKind.u64.wrap (x * b.getD i 0 / B + ac64 (x * b.getD i 0 % B) c 0) = x * b.getD i 0 / B + ac64 (x * b.getD i 0 % B) c 0 := u64w (by omega)
  have hnew : val (r.set i (ad64 (x * b.getD i 0 % B) c 0)) + B ^ (i + 1) * (x * b.getD i 0 / B + ac64 (x * b.getD i 0 % B) c 0) = x * val (b.take (i + 1)) := by
   rw [jBw (by omega), jAU hib, zP]
   refine jOL hv ?_ (hz i (Nat.le_refl _))
   rw [hz i (Nat.le_refl _), Int.mul_add]
   omega
  obtain ⟨r', h1, h2, h3, h4⟩ := ih (r.set i (ad64 (x * b.getD i 0 % B) c 0)) (x * b.getD i 0 / B + ac64 (x * b.getD i 0 % B) c 0) (i + 1) (by omega) (by omega) (hr.set i s2.1 s2.2) (by rw [List.length_set]; exact hrlen) (by omega) (jFZ hz) hnew
  refine ⟨r', h1, h2, h3, fun res hres => Ev.step (fun k => ?_) (h4 res hres)⟩
  simp only [jZ.l1]
  rw [if_pos (by omega), if_pos (by omega), if_pos (by omega), jBp, jMd hx hbi, zf, if_pos (by omega), Int.toNat_natCast, w64 (by omega), hwr, show (i : Int) + 1 = ((i + 1 : Nat) : Int) from by omega]
theorem jHE (u : List (List Int)) (r : List Int) : sumv (u ++ [r]) = sumv u + B ^ u.length * val r := by
 induction u with
 | nil => simp [sumv]
 | cons x u ih => rw [List.cons_append, sumv, sumv, ih, List.length_cons, zP, Int.mul_add, Int.mul_comm (B ^ u.length) B, Int.mul_assoc, Int.add_assoc]
theorem jPs (a b : List Int) (ha : Ok a) (hb : Ok b) (hal : a.length ≤ 4294967295) (hbl : b.length ≤ 4294967295) : ∀ (d j : Nat) (rows : List (List Int)), a.length - j = d → j ≤ a.length → rows.length = j → (∀ r ∈ rows, Ok r ∧ r.length ≤ b.length + 1) → sumv rows = val (a.take j) * val b →
  Ev (fun k => jZ.l0 k b rows a (a.length : Int) j) (dg (val a * val b)) := by
 intro d
 induction d with
 | zero =>
  intro j rows hd hj hrl hr hs
  have hja : j = a.length := by omega
  refine Ev.step (f := fun k => (jK.f k rows).bind fun t => some t) (fun k => by simp only [jZ.l0]; rw [if_neg (by omega)]) ?_
  rw [hja, List.take_length] at hs
  rw [← hs]
  exact Ev.bind (jPT (L := b.length + 1) (by omega) hr (by omega)) (Ev.now _)
 | succ d ih =>
  intro j rows hd hj hrl hr hs
  have hja : j < a.length := by omega
  have hw : wrap64 ((b.length : Int) + 1) = ((b.length + 1 : Nat) : Int) := by rw [w64 (by omega)]; omega
  obtain ⟨r', h1, h2, h3, h4⟩ := jOM b hb (by omega) (a.getD j 0) (ha.at j) rows (by omega) a (a.length : Int) j b.length (List.replicate (b.length + 1) 0) 0 0 (by omega) (by omega) (Ok.rep _) (by simp) ⟨Int.le_refl _, jBP⟩ (fun m _ => by rw [List.getD_eq_getElem?_getD, List.getElem?_replicate]; split <;> rfl) (by rw [jBR]; simp [val])
  refine Ev.step (fun k => ?_) (h4 _ ?_)
  ·
   simp only [jZ.l0]
   rw [if_pos (by omega), if_pos (by omega), if_pos (by omega), hw, if_pos (by omega), if_pos (by omega), jBp, Int.toNat_natCast]
   rfl
  ·
   rw [w64 (by omega), show (j : Int) + 1 = ((j + 1 : Nat) : Int) from by omega]
   refine ih (j + 1) (rows ++ [r']) (by omega) (by omega) (by simp [hrl]) (fun r hr' => ?_) ?_
   ·
    rcases List.mem_append.1 hr' with hr' | hr'
    ·
     exact hr r hr'
    ·
     rw [List.mem_singleton.1 hr']
     exact ⟨h1, by omega⟩
   ·
    rw [jHE, hs, h3, hrl, jAU hja, Int.add_mul, Int.mul_assoc]
theorem jPt {a b : List Int} (ha : Ok a) (hb : Ok b) (hal : a.length ≤ 4294967295) (hbl : b.length ≤ 4294967295) : Ev (fun k => jZ.f k a b) (dg (val a * val b)) := by
 unfold jZ.f
 have h0 := jc ha
 have h1 := jc hb
 have l0 := zo ha
 have l1 := zo hb
 refine Ev.bind (jAO hb (by omega)) (Ev.bind (jAO ha (by omega)) ?_)
 have := jPs (dg (val a)) (dg (val b)) (jAs _) (jAs _) (by omega) (by omega) _ 0 [] rfl (by omega) rfl (fun r hr => absurd hr List.not_mem_nil) (by simp [sumv, val])
 rw [qh h0, qh h1] at this
 exact this
end Go.Proofs.YtoganbmeedimiaaGreat.EOPressOne
end
section
set_option linter.unusedVariables false
set_option linter.unusedSimpArgs false
namespace Go.Proofs.YtoganbmeedimiaaGreat.EOPressOne
open Go.RowKit Go.Proofs.YtoganbmeedimiaaGreat.POPressOne Go.Proofs.YtoganbmeedimiaaGreatN Go.Proofs.YtoganbmeedimiaaGreatW.PrintWords Go.Proofs.YtoganbmeedimiaaGreatW.PrintLast Go.Proofs.YtoganbmeedimiaaGreatW.PrintMore
def Row (l : List Int) (x : Int) (n : Nat) : Prop := Ok l ∧ val l = x ∧ l.length ≤ n
theorem Row.of {l : List Int} {n : Nat} (h : Ok l) (hl : l.length ≤ n) : Row l (val l) n := ⟨h, rfl, hl⟩
theorem Row.pos {l : List Int} {x : Int} {n : Nat} (h : Row l x n) : 0 ≤ x := h.2.1 ▸ jc h.1
theorem Row.lt {l : List Int} {x : Int} {n : Nat} (h : Row l x n) : x < B ^ n := by
 have h1 := jAJ h.1
 have h2 := jAN h.2.2
 rw [h.2.1] at h1
 omega
theorem Row.dg {x : Int} {n : Nat} (h0 : 0 ≤ x) (h1 : x < B ^ n) : Row (dg x) x n := ⟨jAs x, qh h0, jBu h1⟩
theorem Row.same {l : List Int} {x : Int} {n : Nat} (h : Row l x n) : Row (Go.Proofs.YtoganbmeedimiaaGreatN.dg x) x n := Row.dg h.pos h.lt
theorem Row.le {l : List Int} {x : Int} {n m : Nat} (h : Row l x n) (hm : n ≤ m) : Row l x m := ⟨h.1, h.2.1, Nat.le_trans h.2.2 hm⟩
theorem Row.add {a b : List Int} {x y : Int} {n m p : Nat} (ha : Row a x n) (hb : Row b y m) (h1 : n + 1 ≤ p) (h2 : m + 1 ≤ p) : Row (Go.Proofs.YtoganbmeedimiaaGreatN.dg (x + y)) (x + y) p := by
 have p0 := ha.pos
 have p1 := hb.pos
 have l0 := (ha.le (m := p - 1) (by omega)).lt
 have l1 := (hb.le (m := p - 1) (by omega)).lt
 obtain ⟨q, rfl⟩ : ∃ q, p = q + 1 := ⟨p - 1, by omega⟩
 simp only [Nat.add_sub_cancel] at l0 l1
 refine Row.dg (by omega) ?_
 have h6 : B ^ q * 2 ≤ B ^ q * B := Int.mul_le_mul_of_nonneg_left (by decide) (Int.le_of_lt (zX q))
 rw [zP]
 omega
theorem Row.sub {a b : List Int} {x y : Int} {n m : Nat} (ha : Row a x n) (hb : Row b y m) (h : y ≤ x) : Row (Go.Proofs.YtoganbmeedimiaaGreatN.dg (x - y)) (x - y) n := by
 have p1 := hb.pos
 have l0 := ha.lt
 exact Row.dg (by omega) (by omega)
theorem Row.mul {a b : List Int} {x y : Int} {n m p : Nat} (ha : Row a x n) (hb : Row b y m) (h1 : n + m ≤ p) : Row (Go.Proofs.YtoganbmeedimiaaGreatN.dg (x * y)) (x * y) p := by
 have p0 := ha.pos
 have p1 := hb.pos
 have l0 := ha.lt
 have l1 := hb.lt
 refine Row.dg (Int.mul_nonneg p0 p1) ?_
 have h2 := jAN h1
 rw [Int.pow_add] at h2
 have h3 := zX n
 have h4 := zX m
 have h5 : x * y ≤ x * B ^ m := Int.mul_le_mul_of_nonneg_left (by omega) p0
 have h6 : (x + 1) * B ^ m ≤ B ^ n * B ^ m := Int.mul_le_mul_of_nonneg_right (by omega) (by omega)
 rw [Int.add_mul, Int.one_mul] at h6
 omega
theorem Ev.eq {α : Type} {g : Nat → Option α} {r s : α} (h : Ev g r) (e : r = s) : Ev g s := e ▸ h
theorem subR {a b : List Int} {x y : Int} {n m : Nat} (ha : Row a x n) (hb : Row b y m) (h1 : n ≤ 4294967296) (h2 : m ≤ 4294967296) : Ev (fun k => jr.f k a b) (if x < y then ([], false) else (dg (x - y), true)) := by
 have := jPV ha.1 hb.1 (Nat.le_trans ha.2.2 h1) (Nat.le_trans hb.2.2 h2)
 rwa [ha.2.1, hb.2.1] at this
theorem jMJ {a b : List Int} {x y : Int} {n m : Nat} (ha : Row a x n) (hb : Row b y m) (h1 : n ≤ 4294967296) (h2 : m ≤ 4294967296) (h : y ≤ x) : Ev (fun k => jr.f k a b) (dg (x - y), true) := Ev.eq (subR ha hb h1 h2) (if_neg (by omega))
theorem jOA {a b : List Int} {x y : Int} {n m : Nat} (ha : Row a x n) (hb : Row b y m) (h1 : n ≤ 4294967296) (h2 : m ≤ 4294967296) (h : x < y) : Ev (fun k => jr.f k a b) ([], false) := Ev.eq (subR ha hb h1 h2) (if_pos h)
theorem mulR {a b : List Int} {x y : Int} {n m : Nat} (ha : Row a x n) (hb : Row b y m) (h1 : n ≤ 4294967295) (h2 : m ≤ 4294967295) : Ev (fun k => jZ.f k a b) (dg (x * y)) := by
 have := jPt ha.1 hb.1 (Nat.le_trans ha.2.2 h1) (Nat.le_trans hb.2.2 h2)
 rwa [ha.2.1, hb.2.1] at this
end Go.Proofs.YtoganbmeedimiaaGreat.EOPressOne
end
section
set_option linter.unusedVariables false
set_option linter.unusedSimpArgs false
namespace Go.Proofs.YtoganbmeedimiaaGreatN
open Go
theorem jPI : B = 2 ^ 64 := by rw [B_eq]; simp
theorem two_pos (n : Nat) : (0 : Int) < 2 ^ n := Int.pow_pos (by decide)
theorem jIC {m n : Nat} (h : m ≤ n) : (2 : Int) ^ m ≤ 2 ^ n := by
 obtain ⟨k, rfl⟩ := Nat.le.dest h
 rw [Int.pow_add]
 have h1 := two_pos m
 have h2 := two_pos k
 have : (2 : Int) ^ m * 1 ≤ 2 ^ m * 2 ^ k := Int.mul_le_mul_of_nonneg_left (by omega) (by omega)
 omega
theorem jFq (q : Nat) : B ^ q = 2 ^ (64 * q) := by rw [jPI, Int.pow_mul]
theorem qj {r : Nat} (h : r ≤ 64) : (2 : Int) ^ r * 2 ^ (64 - r) = B := by
 rw [← Int.pow_add, jPI, show r + (64 - r) = 64 from by omega]
theorem jDT (r : Nat) : (2 : Int) ^ r = ((2 ^ r : Nat) : Int) := by simp
theorem or_hi {a b : Int} {r : Nat} (ha : 0 ≤ a) (hb : 0 ≤ b ∧ b < 2 ^ r) (hl : 2 ^ r * a < B) (hbB : b < B) : bits .or .u64 (2 ^ r * a) b = 2 ^ r * a + b := by
 obtain ⟨m, rfl⟩ := Int.eq_ofNat_of_zero_le ha
 obtain ⟨n, rfl⟩ := Int.eq_ofNat_of_zero_le hb.1
 have h2 := hb.2
 rw [jDT] at hl h2 ⊢
 rw [← Int.natCast_mul] at hl ⊢
 rw [B_eq] at hl hbB
 have h3 : n < 2 ^ r := Int.ofNat_lt.1 h2
 rw [bits_or_u64_nat _ _ (by omega) (by omega), ← Nat.two_pow_add_eq_or_of_lt h3]
 omega
theorem jRS {a b : Int} {r : Nat} (ha : 0 ≤ a) (hb : 0 ≤ b ∧ b < 2 ^ r) (hl : 2 ^ r * a < B) (hbB : b < B) : bits .or .u64 b (2 ^ r * a) = b + 2 ^ r * a := by
 obtain ⟨m, rfl⟩ := Int.eq_ofNat_of_zero_le ha
 obtain ⟨n, rfl⟩ := Int.eq_ofNat_of_zero_le hb.1
 have h2 := hb.2
 rw [jDT] at hl h2 ⊢
 rw [← Int.natCast_mul] at hl ⊢
 rw [B_eq] at hl hbB
 have h3 : n < 2 ^ r := Int.ofNat_lt.1 h2
 rw [bits_or_u64_nat _ _ (by omega) (by omega), Nat.or_comm, ← Nat.two_pow_add_eq_or_of_lt h3]
 omega
theorem jEo {x : Int} {r : Nat} (h : r ≤ 64) : 2 ^ r * (x % 2 ^ (64 - r)) + B * (x / 2 ^ (64 - r)) = 2 ^ r * x := by
 have e := Int.mul_ediv_add_emod x (2 ^ (64 - r))
 rw [← qj h]
 have : (2 : Int) ^ r * x = 2 ^ r * (2 ^ (64 - r) * (x / 2 ^ (64 - r)) + x % 2 ^ (64 - r)) := by rw [e]
 rw [this, Int.mul_add, Int.mul_assoc, Int.add_comm]
theorem jHJ {x y V : Int} {r : Nat} (h : r ≤ 64) : (x + B * (y + B * V)) / 2 ^ r = (x / 2 ^ r + 2 ^ (64 - r) * (y % 2 ^ r)) + B * ((y + B * V) / 2 ^ r) := by
 have hp := two_pos r
 have e0 : (y + B * V) % 2 ^ r = y % 2 ^ r := by
  rw [← qj h, Int.mul_assoc, Int.add_mul_emod_self_left]
 generalize hz : y + B * V = Z at *
 have e := Int.mul_ediv_add_emod Z (2 ^ r)
 have e1 : B * Z = 2 ^ r * (2 ^ (64 - r) * Z) := by rw [← qj h, Int.mul_assoc]
 rw [e1, Int.add_mul_ediv_left _ _ (by omega), ← e0]
 have e2 : (2 : Int) ^ (64 - r) * Z = 2 ^ (64 - r) * (2 ^ r * (Z / 2 ^ r) + Z % 2 ^ r) := by rw [e]
 rw [e2, Int.mul_add, ← Int.mul_assoc, Int.mul_comm (2 ^ (64 - r)) (2 ^ r), qj h]
 omega
theorem jKD {x : Int} {r : Nat} (h : r ≤ 64) : 0 ≤ 2 ^ r * (x % 2 ^ (64 - r)) ∧ 2 ^ r * (x % 2 ^ (64 - r)) ≤ B - 2 ^ r := by
 have h1 := two_pos r
 have h2 := two_pos (64 - r)
 have h3 := Int.emod_nonneg x (b := 2 ^ (64 - r)) (by omega)
 have h4 := Int.emod_lt_of_pos x h2
 refine ⟨Int.mul_nonneg (by omega) h3, ?_⟩
 have h5 : (2 : Int) ^ r * (x % 2 ^ (64 - r)) ≤ 2 ^ r * (2 ^ (64 - r) - 1) := Int.mul_le_mul_of_nonneg_left (by omega) (by omega)
 rw [Int.mul_sub, qj h, Int.mul_one] at h5
 exact h5
theorem jCN {r : Nat} (h : r ≤ 64) : (2 : Int) ^ r ≤ B := by rw [jPI]; exact jIC h
end Go.Proofs.YtoganbmeedimiaaGreatN
end
section
set_option linter.unusedVariables false
set_option linter.unusedSimpArgs false
namespace Go.Proofs.YtoganbmeedimiaaGreat.EOPressOne
open Go.RowKit Go.Proofs.YtoganbmeedimiaaGreat.POPressOne Go.Proofs.YtoganbmeedimiaaGreatN Go.Proofs.YtoganbmeedimiaaGreatW.PrintWords Go.Proofs.YtoganbmeedimiaaGreatW.PrintLast Go.Proofs.YtoganbmeedimiaaGreatW.PrintMore
theorem jFy {x : Int} {r : Nat} (h : r ≤ 64) : shl .u64 x (r : Int) = 2 ^ r * (x % 2 ^ (64 - r)) := by
 unfold shl
 have e : min (Int.toNat (r : Int)) IntKind.u64.bits = r := by
  rw [Int.toNat_natCast]
  exact Nat.min_eq_left h
 have hp := two_pos r
 rw [e, IntKind.wrap_u64, show (18446744073709551616 : Int) = B from rfl, ← qj h, Int.mul_comm x, Int.mul_emod_mul_of_pos _ _ hp]
theorem jDZ {x : Int} {r : Nat} (h : r ≤ 64) : shr .u64 x (r : Int) = x / 2 ^ r := by
 unfold shr
 have e : min (Int.toNat (r : Int)) IntKind.u64.bits = r := by
  rw [Int.toNat_natCast]
  exact Nat.min_eq_left h
 rw [e]
theorem jMM {x : Int} {r : Nat} (h : r ≤ 63) : shr .u64 x ((63 - r : Nat) : Int) / 2 = x / 2 ^ (64 - r) := by
 rw [jDZ (by omega), Int.ediv_ediv_of_nonneg (Int.le_of_lt (two_pos _)), show 64 - r = 63 - r + 1 from by omega, Int.pow_succ]
theorem jMe {x c : Int} {r : Nat} (hr : r ≤ 63) (hx : 0 ≤ x ∧ x < B) (hc : 0 ≤ c ∧ c < 2 ^ r) : ∃ v c', shl .u64 x (r : Int) |> fun s => Go.bits .or .u64 s c = v ∧ shr .u64 x ((63 - r : Nat) : Int) / 2 = c' ∧ (0 ≤ v ∧ v < B) ∧ (0 ≤ c' ∧ c' < 2 ^ r) ∧ v + B * c' = c + 2 ^ r * x := by
 have h64 : r ≤ 64 := by omega
 have h1 := jKD (x := x) h64
 have h2 := jEo (x := x) h64
 have h3 := two_pos (64 - r)
 have h4 := jCN h64
 have h5 := Int.emod_nonneg x (b := 2 ^ (64 - r)) (by omega)
 have h6 : x / 2 ^ (64 - r) < 2 ^ r := by
  apply Int.ediv_lt_of_lt_mul h3
  rw [qj h64]
  exact hx.2
 have h7 : 0 ≤ x / 2 ^ (64 - r) := Int.ediv_nonneg hx.1 (by omega)
 refine ⟨2 ^ r * (x % 2 ^ (64 - r)) + c, x / 2 ^ (64 - r), ?_, jMM hr, ?_, ⟨h7, h6⟩, ?_⟩
 ·
  rw [jFy h64, or_hi h5 hc (by omega) (by omega)]
 ·
  omega
 ·
  omega
theorem jMf {out : List Int} {x c v c' V : Int} {r : Nat} (h : v + B * c' = c + 2 ^ r * x) : val (out ++ [v]) + B ^ (out ++ [v]).length * (c' + 2 ^ r * V) = val out + B ^ out.length * (c + 2 ^ r * (x + B * V)) := by
 have e : c + 2 ^ r * (x + B * V) = v + B * (c' + 2 ^ r * V) := by
  rw [Int.mul_add, Int.mul_add, ← Int.mul_assoc, ← Int.mul_assoc, Int.mul_comm B (2 ^ r)]
  omega
 rw [e, jDH, List.length_append, List.length_singleton, zP, Int.mul_add (B ^ out.length), Int.mul_assoc, Int.add_assoc]
theorem jQB {n : Nat} {out a : List Int} {c v c' : Int} {i : Nat} (hn : n ≤ 1000) (hl : a.length ≤ 4294967296) (hi : i < a.length) (ho : out.length ≤ i + 100) (h1 : Go.bits .or .u64 (shl .u64 (a.getD i 0) ((n % 64 : Nat) : Int)) c = v) (h2 : shr .u64 (a.getD i 0) ((63 - n % 64 : Nat) : Int) / 2 = c') (k : Nat) : jD.l1 (k + 1) n out c a a.length i = jD.l1 k n (out ++ [v]) c' a a.length ((i + 1 : Nat) : Int) := by
 have hw : wrap64 ((i : Int) + 1) = ((i + 1 : Nat) : Int) := by rw [w64 (by omega)]; omega
 have hr : Int.tmod (n : Int) 64 = ((n % 64 : Nat) : Int) := by rw [Int.tmod_eq_emod_of_nonneg (by omega)]; omega
 have hr' : wrap64 (63 - ((n % 64 : Nat) : Int)) = ((63 - n % 64 : Nat) : Int) := by rw [w64 (by omega)]; omega
 have c0 : (0 : Int) ≤ (i : Int) := by omega
 have c1 : (i : Int) < (a.length : Int) := by omega
 have c2 : (0 : Int) ≤ ((n % 64 : Nat) : Int) := by omega
 have c3 : (0 : Int) ≤ ((63 - n % 64 : Nat) : Int) := by omega
 have c4 : out.length < 17592186044416 := by omega
 simp only [jD.l1, hw, hr, hr', jBp, h1, h2]
 rw [if_pos c1, if_pos c0, if_pos c1, if_pos c2, if_pos c4, if_pos c3]
theorem jOP (a : List Int) (ha : Ok a) (hl : a.length ≤ 4294967296) (n : Nat) (hn : n ≤ 1000) : ∀ (d : Nat) (out : List Int) (c : Int) (i : Nat), a.length - i = d → i ≤ a.length → Ok out → out.length ≤ i + 100 → (0 ≤ c ∧ c < 2 ^ (n % 64)) → Ev (fun k => jD.l1 k n out c a a.length i) (dg (val out + B ^ out.length * (c + 2 ^ (n % 64) * val (a.drop i)))) := by
 intro d
 induction d with
 | zero =>
  intro out c i hd hi ho hol hc
  have e : a.drop i = [] := List.drop_eq_nil_of_le (by omega)
  have hcB : c < B := Int.lt_of_lt_of_le hc.2 (jCN (by omega))
  have hok : Ok (out ++ [c]) := ho.append (Ok.one hc.1 hcB)
  have hll : (out ++ [c]).length ≤ 4294967397 := by simp; omega
  have c1 : ¬ ((i : Int) < (a.length : Int)) := by omega
  have c4 : out.length < 17592186044416 := by omega
  refine Ev.step (f := fun k => (jJ.f k (out ++ [c])).bind fun t => ((jT.f t).bind fun t => (some t))) (fun k => by simp only [jD.l1]; rw [if_neg c1, if_pos c4]) ?_
  rw [e, qg, Int.mul_zero, Int.add_zero, ← jDH]
  have := zo hok
  exact Ev.bind (jAO hok (by omega)) (Ev.vI (jDM (by omega)) (Ev.now _))
 | succ d ih =>
  intro out c i hd hi ho hol hc
  have hia : i < a.length := by omega
  obtain ⟨v, c', h1, h2, h3, h4, h5⟩ := jMe (r := n % 64) (by omega) (ha.at i) hc
  refine Ev.step (jQB hn hl hia hol h1 h2) ?_
  have := ih (out ++ [v]) c' (i + 1) (by omega) (by omega) (ho.append (Ok.one h3.1 h3.2)) (by simp; omega) h4
  rw [jMf h5, ← qV hia] at this
  exact this
theorem jDa {a : List Int} (ha : Ok a) (hal : a.length ≤ 4294967296) {n : Int} (hn : 0 ≤ n) : Ev (fun k => jD.f k a n) (dg (val a * 2 ^ (min n.toNat 1000))) := by
 unfold jD.f
 have e : mn n 1000 = ((min n.toNat 1000 : Nat) : Int) := by unfold mn; split <;> omega
 rw [e]
 have hN : min n.toNat 1000 ≤ 1000 := Nat.min_le_right ..
 generalize min n.toNat 1000 = N at *
 have hq : wrap64 (Int.tdiv (N : Int) 64) = ((N / 64 : Nat) : Int) := by rw [Int.tdiv_eq_ediv_of_nonneg (by omega), w64 (by omega)]; omega
 have hdl := zo ha
 have hw : wrap64 (wrap64 (((N / 64 : Nat) : Int) + ((dg (val a)).length : Int)) + 1) = ((N / 64 + (dg (val a)).length + 1 : Nat) : Int) := by
  rw [w64 (x := ((N / 64 : Nat) : Int) + ((dg (val a)).length : Int)) (by omega), w64 (by omega)]
  omega
 refine Ev.bind (jAO ha (by omega)) (Ev.neg (by omega) ?_)
 simp only [hq, hw, Int.toNat_natCast]
 refine Ev.pos (by omega) (Ev.pos (by omega) (Ev.pos (by omega) ?_))
 have h := jOP (dg (val a)) (jAs _) (by omega) N hN _ (List.replicate (N / 64) 0) 0 0 rfl (by omega) (Ok.rep _) (by simp; omega) ⟨Int.le_refl _, two_pos _⟩
 rw [jBR, List.length_replicate, List.drop_zero, qh (jc ha), Int.zero_add, Int.zero_add, jFq, ← Int.mul_assoc, ← Int.pow_add, show 64 * (N / 64) + N % 64 = N from by omega, Int.mul_comm] at h
 exact h
theorem jGD {x y : Int} {r : Nat} (hr : r ≤ 63) (hx : 0 ≤ x ∧ x < B) (hy : 0 ≤ y ∧ y < B) : (0 ≤ x / 2 ^ r + 2 ^ (64 - r) * (y % 2 ^ r) ∧ x / 2 ^ r + 2 ^ (64 - r) * (y % 2 ^ r) < B) ∧ Go.bits .or .u64 (shr .u64 x (r : Int)) (shl .u64 y ((64 - r : Nat) : Int)) = x / 2 ^ r + 2 ^ (64 - r) * (y % 2 ^ r) := by
 have hr4 : 64 - r ≤ 64 := by omega
 have h64 : r ≤ 64 := by omega
 have h1 := jKD (x := y) hr4
 rw [jDZ h64, jFy hr4]
 rw [show 64 - (64 - r) = r from by omega] at h1 ⊢
 have h2 := two_pos r
 have h5 := Int.emod_nonneg y (b := 2 ^ r) (by omega)
 have h6 : x / 2 ^ r < 2 ^ (64 - r) := by
  apply Int.ediv_lt_of_lt_mul h2
  rw [Int.mul_comm, qj h64]
  exact hx.2
 have h7 : 0 ≤ x / 2 ^ r := Int.ediv_nonneg hx.1 (by omega)
 have h8 := jCN hr4
 have h9 := two_pos (64 - r)
 refine ⟨?_, jRS h5 ⟨h7, h6⟩ (by omega) (by omega)⟩
 omega
theorem set_mid (t : List Int) (x y : Int) (s : List Int) : (t ++ x :: s).set t.length y = t ++ y :: s := by
 rw [List.set_append_right _ _ (Nat.le_refl _), Nat.sub_self, List.set_cons_zero]
theorem jFV (t : List Int) (x : Int) (s : List Int) (j : Nat) : (t ++ x :: s).getD (t.length + j) 0 = (x :: s).getD j 0 := by
 rw [List.getD_eq_getElem?_getD, List.getD_eq_getElem?_getD, List.getElem?_append_right (by omega), Nat.add_sub_cancel_left]
theorem jOD {t s : List Int} {x : Int} {r : Nat} (hr : r ≤ 63) (ht : Ok (x :: s)) (hl : t.length + s.length ≤ 4294967296) (L : Nat) (hL : L = t.length + 1 + s.length) (k : Nat) : jD.l0 (k + 1) (t ++ x :: s) (r : Int) L t.length = jD.l0 k ((t ++ [x / 2 ^ r + 2 ^ (64 - r) * (s.getD 0 0 % 2 ^ r)]) ++ s) (r : Int) L ((t ++ [x / 2 ^ r + 2 ^ (64 - r) * (s.getD 0 0 % 2 ^ r)]).length : Int) := by
 obtain ⟨hv, hor⟩ := jGD hr ht.head (ht.tail.at 0)
 have hw : wrap64 ((t.length : Int) + 1) = ((t.length + 1 : Nat) : Int) := by rw [w64 (by omega)]; omega
 have hr' : wrap64 (64 - (r : Int)) = ((64 - r : Nat) : Int) := by rw [w64 (by omega)]; omega
 have g0 := jFV t x s 0
 have hlen : (t ++ x :: s).length = t.length + 1 + s.length := by simp; omega
 have c0 : (0 : Int) ≤ (t.length : Int) := by omega
 have c1 : (t.length : Int) < (L : Int) := by omega
 have c2 : (t.length : Int) < ((t ++ x :: s).length : Int) := by omega
 have c3 : (0 : Int) ≤ (r : Int) := by omega
 have e1 : (t ++ [x / 2 ^ r + 2 ^ (64 - r) * (s.getD 0 0 % 2 ^ r)]).length = t.length + 1 := by simp
 rw [List.append_assoc, List.singleton_append, e1]
 have g0' : (t ++ x :: s).getD t.length 0 = x := g0
 have g1 : (t ++ (x / 2 ^ r) :: s).getD t.length 0 = x / 2 ^ r := jFV t _ s 0
 have g2 : (t ++ (x / 2 ^ r) :: s).getD (t.length + 1) 0 = s.getD 0 0 := jFV t _ s 1
 simp only [jD.l0, hw, hr', jBp, Int.toNat_natCast, zf, g0', jDZ (show r ≤ 64 from by omega), set_mid, g1, g2]
 rw [jDZ (show r ≤ 64 from by omega)] at hor
 rw [hor, if_pos c1, if_pos c0, if_pos c2, if_pos c3]
 by_cases hs : s = []
 ·
  subst hs
  have c4 : ¬ ((t.length + 1 : Nat) : Int) < ((t ++ [x]).length : Int) := by simp
  rw [if_neg c4]
  simp
 ·
  have hsl := List.length_pos_iff.2 hs
  have c4 : ((t.length + 1 : Nat) : Int) < ((t ++ x :: s).length : Int) := by omega
  rw [if_pos c4]
  by_cases hr0 : r = 0
  ·
   subst hr0
   rw [if_neg (by omega)]
   simp [Int.emod_one]
  ·
   have c5 : (r : Int) > 0 := by omega
   have c6 : (0 : Int) ≤ ((t.length + 1 : Nat) : Int) := by omega
   have c7 : (0 : Int) ≤ ((64 - r : Nat) : Int) := by omega
   rw [if_pos c5, if_pos c6, if_pos c7]
theorem jMN (r : Nat) (hr : r ≤ 63) (L : Nat) : ∀ (s t : List Int), Ok t → Ok s → t.length + s.length ≤ 4294967296 → L = t.length + s.length → Ev (fun k => jD.l0 k (t ++ s) (r : Int) L t.length) (dg (val t + B ^ t.length * (val s / 2 ^ r))) := by
 intro s
 induction s with
 | nil =>
  intro t ht _ hl hL
  have c1 : ¬ (t.length : Int) < (L : Int) := by simp at hL; omega
  refine Ev.step (f := fun k => (jJ.f k t).bind fun t => some t) (fun k => by simp only [jD.l0, List.append_nil]; rw [if_neg c1]) ?_
  rw [qg, Int.zero_ediv, Int.mul_zero, Int.add_zero]
  exact Ev.bind (jAO ht (by simp at hl; omega)) (Ev.now _)
 | cons x s ih =>
  intro t ht hs hl hL
  have hl1 : t.length + (s.length + 1) ≤ 4294967296 := hl
  have hL1 : L = t.length + (s.length + 1) := hL
  refine Ev.step (jOD hr hs (by omega) L (by omega)) ?_
  obtain ⟨hv, _⟩ := jGD hr hs.head (hs.tail.at 0)
  have e1 : (t ++ [x / 2 ^ r + 2 ^ (64 - r) * (s.getD 0 0 % 2 ^ r)]).length = t.length + 1 := by simp
  have := ih (t ++ [x / 2 ^ r + 2 ^ (64 - r) * (s.getD 0 0 % 2 ^ r)]) (ht.append (Ok.one hv.1 hv.2)) hs.tail (by rw [e1]; omega) (by rw [e1]; omega)
  refine Ev.eq this ?_
  have e2 : val s = s.getD 0 0 + B * val (s.drop 1) := by
   cases s with
   | nil => simp [val]
   | cons y s => rfl
  have e3 : val (x :: s) / 2 ^ r = (x / 2 ^ r + 2 ^ (64 - r) * (s.getD 0 0 % 2 ^ r)) + B * (val s / 2 ^ r) := by
   rw [qW, e2]
   exact jHJ (by omega)
  rw [e3, e1, jDH, zP]
  generalize x / 2 ^ r + 2 ^ (64 - r) * (s.getD 0 0 % 2 ^ r) = u
  rw [Int.mul_add (B ^ t.length), Int.mul_assoc, Int.add_assoc]
theorem jFz {v : Int} (hv : 0 ≤ v) {m : Nat} (h : (dg v).length ≤ m / 64) : v / 2 ^ m = 0 := by
 have h1 := jKj h
 rw [jFq] at h1
 have h2 : (2 : Int) ^ (64 * (m / 64)) ≤ 2 ^ m := jIC (by omega)
 exact Int.ediv_eq_zero_of_lt hv (by omega)
theorem jMP {v : Int} (hv : 0 ≤ v) {m : Nat} (hl : (dg v).length ≤ 4294967296) (h : m / 64 < (dg v).length) : Ev (fun k => jD.j0 k (dg v) m false) (dg (v / 2 ^ m)) := by
 have hq : wrap64 (Int.tdiv (m : Int) 64) = ((m / 64 : Nat) : Int) := by rw [Int.tdiv_eq_ediv_of_nonneg (by omega), w64 (by omega)]; omega
 have hr : Int.tmod (m : Int) 64 = ((m % 64 : Nat) : Int) := by rw [Int.tmod_eq_emod_of_nonneg (by omega)]; omega
 have c1 : (0 : Int) ≤ ((m / 64 : Nat) : Int) := by omega
 have c2 : ((m / 64 : Nat) : Int) ≤ ((dg v).length : Int) := by omega
 have c3 : ¬ (false = true) := by decide
 have hdl : ((dg v).drop (m / 64)).length ≤ (dg v).length := by rw [List.length_drop]; omega
 refine Ev.step (f := fun k => jD.l0 k ([] ++ (dg v).drop (m / 64)) ((m % 64 : Nat) : Int) (((dg v).drop (m / 64)).length : Int) (([] : List Int).length : Int)) (fun k => ?_) ?_
 ·
  simp only [jD.j0, hq, hr, Int.toNat_natCast]
  rw [if_neg c3, if_pos c1, if_pos c2, jDM (by omega)]
  rfl
 ·
  have := jMN (m % 64) (by omega) ((dg v).drop (m / 64)).length ((dg v).drop (m / 64)) [] Ok.nil ((jAs v).drop _) (by simp; omega) (by simp)
  refine Ev.eq this ?_
  have e := vG (dg v) (m / 64) (by omega)
  rw [qh hv] at e
  have ht := jAJ ((jAs v).take (m / 64))
  have htn := jc ((jAs v).take (m / 64))
  rw [List.length_take, Nat.min_eq_left (by omega)] at ht
  have hB := zX (m / 64)
  have e2 : v / B ^ (m / 64) = val ((dg v).drop (m / 64)) := by
   rw [e, Int.add_mul_ediv_left _ _ (by omega), Int.ediv_eq_zero_of_lt htn ht, Int.zero_add, ← e]
  rw [qg, List.length_nil, Int.pow_zero, Int.one_mul, Int.zero_add, ← e2, Int.ediv_ediv_of_nonneg (by omega), jFq, ← Int.pow_add, show 64 * (m / 64) + m % 64 = m from by omega]
theorem jKE {a : List Int} (ha : Ok a) (hal : a.length ≤ 1000) {n : Int} (hn : n < 0) : Ev (fun k => jD.f k a n) (dg (val a / 2 ^ (-n).toNat)) := by
 unfold jD.f
 have hdl := zo ha
 have hv := jc ha
 refine Ev.bind (jAO ha (by omega)) (Ev.pos (by omega) ?_)
 by_cases hm : n < -100000
 ·
  have e : wrap64 (-(mx n (-100001))) = 100001 := by
   have : mx n (-100001) = -100001 := by unfold mx; split <;> omega
   rw [this, w64 (by omega)]; omega
  rw [e]
  refine Ev.pos (by decide) ?_
  refine Ev.step (fun k => by simp only [jD.j0]; rw [if_pos trivial]) (Ev.eq (Ev.now _) ?_)
  rw [jFz hv (by omega), jBd]
 ·
  have e : wrap64 (-(mx n (-100001))) = (((-n).toNat : Nat) : Int) := by
   have : mx n (-100001) = n := by unfold mx; split <;> omega
   rw [this, w64 (by omega)]; omega
  rw [e]
  have hM : (-n).toNat ≤ 100000 := by omega
  generalize (-n).toNat = M at *
  refine Ev.neg (by omega) ?_
  have hq : wrap64 (Int.tdiv (M : Int) 64) = ((M / 64 : Nat) : Int) := by rw [Int.tdiv_eq_ediv_of_nonneg (by omega), w64 (by omega)]; omega
  rw [hq]
  by_cases h : M / 64 < (dg (val a)).length
  ·
   have c : decide (((M / 64 : Nat) : Int) ≥ ((dg (val a)).length : Int)) = false := by simp; omega
   rw [c]
   exact jMP hv (by omega) h
  ·
   have c : decide (((M / 64 : Nat) : Int) ≥ ((dg (val a)).length : Int)) = true := by simp; omega
   rw [c]
   refine Ev.step (fun k => by simp only [jD.j0]; rw [if_pos trivial]) (Ev.eq (Ev.now _) ?_)
   rw [jFz hv (by omega), jBd]
end Go.Proofs.YtoganbmeedimiaaGreat.EOPressOne
end
section
set_option linter.unusedVariables false
set_option linter.unusedSimpArgs false
namespace Go.Proofs.YtoganbmeedimiaaGreatN
def H : Int := 4294967296
theorem H_eq : H = 4294967296 := rfl
theorem jEK : 0 < H := by unfold H; decide
theorem HH : H * H = B := by decide
def OkH (l : List Int) : Prop := ∀ x ∈ l, 0 ≤ x ∧ x < H
def hval : List Int → Int
 | [] => 0
 | x :: xs => x + H * hval xs
theorem OkH.nil : OkH [] := fun _ h => absurd h List.not_mem_nil
theorem OkH.cons {x : Int} {l : List Int} (h0 : 0 ≤ x) (h1 : x < H) (h : OkH l) : OkH (x :: l) := by
 intro y hy
 rcases List.mem_cons.1 hy with rfl | hy
 ·
  exact ⟨h0, h1⟩
 ·
  exact h y hy
theorem OkH.head {x : Int} {l : List Int} (h : OkH (x :: l)) : 0 ≤ x ∧ x < H := h x (List.mem_cons_self ..)
theorem OkH.tail {x : Int} {l : List Int} (h : OkH (x :: l)) : OkH l := fun y hy => h y (List.mem_cons_of_mem _ hy)
theorem OkH.append {a b : List Int} (ha : OkH a) (hb : OkH b) : OkH (a ++ b) := fun x hx => (List.mem_append.1 hx).elim (ha x) (hb x)
theorem OkH.take {a : List Int} (ha : OkH a) (n : Nat) : OkH (a.take n) := fun x hx => ha x (List.mem_of_mem_take hx)
theorem OkH.drop {a : List Int} (ha : OkH a) (n : Nat) : OkH (a.drop n) := fun x hx => ha x (List.mem_of_mem_drop hx)
theorem OkH.set {a : List Int} (ha : OkH a) (n : Nat) {x : Int} (h0 : 0 ≤ x) (h1 : x < H) : OkH (a.set n x) := fun y hy => by
 rcases List.mem_or_eq_of_mem_set hy with hy | rfl
 ·
  exact ha y hy
 ·
  exact ⟨h0, h1⟩
theorem OkH.one {x : Int} (h0 : 0 ≤ x) (h1 : x < H) : OkH [x] := OkH.cons h0 h1 OkH.nil
theorem OkH.rep (n : Nat) : OkH (List.replicate n 0) := fun x hx => by
 rw [List.eq_of_mem_replicate hx]
 exact ⟨Int.le_refl _, jEK⟩
theorem OkH.at {a : List Int} (ha : OkH a) (i : Nat) : 0 ≤ a.getD i 0 ∧ a.getD i 0 < H := by
 rw [List.getD_eq_getElem?_getD]
 by_cases h : i < a.length
 ·
  rw [List.getElem?_eq_getElem h]
  exact ha _ (List.getElem_mem h)
 ·
  rw [List.getElem?_eq_none (by omega)]
  exact ⟨Int.le_refl _, jEK⟩
end Go.Proofs.YtoganbmeedimiaaGreatN
end
section
set_option linter.unusedVariables false
set_option linter.unusedSimpArgs false
namespace Go.Proofs.YtoganbmeedimiaaGreatN
theorem jQb {a b n u q rh Q : Int} (hY : 0 < a * H + b) (hq : q * a + rh = n) (h2 : q * b ≤ H * rh + u) (hQ2 : n * H + u < (Q + 1) * (a * H + b)) : q ≤ Q := by
 have e : q * (a * H + b) ≤ n * H + u := by
  rw [Int.mul_add, ← Int.mul_assoc, ← hq, Int.add_mul, Int.mul_comm rh H]
  omega
 rcases Int.lt_or_le Q q with h | h
 ·
  have := Int.mul_le_mul_of_nonneg_right (show Q + 1 ≤ q from h) (Int.le_of_lt hY)
  omega
 ·
  exact h
theorem jOh {a b n u q rh Q : Int} (hq : q * a + rh = n) (hQ : Q ≤ q) (hQH : Q < H) (hQ1 : Q * (a * H + b) ≤ n * H + u) (hc : H ≤ q ∨ H * rh + u < q * b) : Q ≤ q - 1 := by
 rcases hc with hc | hc
 ·
  omega
 ·
  rcases Int.lt_or_le Q q with h | h
  ·
   omega
  ·
   exfalso
   have e : Q = q := by omega
   subst e
   rw [Int.mul_add, ← Int.mul_assoc, ← hq, Int.add_mul, Int.mul_comm rh H] at hQ1
   omega
theorem jMu {a b n u q rh Q : Int} (ha : 0 < a) (hb : 0 ≤ b ∧ b < H) (hu : 0 ≤ u) (hn : n < a * H + b) (hq : q * a + rh = n) (hQ : Q ≤ q) (hQ0 : 0 ≤ Q) (hr : H ≤ rh) (hQ2 : n * H + u < (Q + 1) * (a * H + b)) : q = Q := by
 have hH := jEK
 have h0 : 0 < a * H := Int.mul_pos ha hH
 have hqH : q < H := by
  rcases Int.lt_or_le q H with h | h
  ·
   exact h
  ·
   have h1 := Int.mul_le_mul_of_nonneg_right h (Int.le_of_lt ha)
   rw [Int.mul_comm H a] at h1
   omega
 have h2 : q * b ≤ H * b := Int.mul_le_mul_of_nonneg_right (by omega) hb.1
 have h3 : H * b ≤ H * rh := Int.mul_le_mul_of_nonneg_left (by omega) (by omega)
 have := jQb (by omega) hq (by omega) hQ2
 omega
theorem jOg {a b n u q rh Q : Int} (hY : 0 < a * H + b) (hq : q * a + rh = n) (hQ : Q ≤ q) (h2 : q * b ≤ H * rh + u) (hQ2 : n * H + u < (Q + 1) * (a * H + b)) : q = Q := by
 have := jQb hY hq h2 hQ2
 omega
theorem jMt {a b n u Q : Int} (ha : 0 < a) (hb : 0 ≤ b) (hu : u < H) (hQ0 : 0 ≤ Q) (hQ1 : Q * (a * H + b) ≤ n * H + u) : Q ≤ n / a := by
 have hH := jEK
 refine Int.le_ediv_of_mul_le ha ?_
 have h1 : 0 ≤ Q * b := Int.mul_nonneg hQ0 hb
 rw [Int.mul_add, ← Int.mul_assoc] at hQ1
 rcases Int.lt_or_le n (Q * a) with h | h
 ·
  exfalso
  have := Int.mul_le_mul_of_nonneg_right (show n + 1 ≤ Q * a from h) (Int.le_of_lt hH)
  rw [Int.add_mul, Int.one_mul] at this
  omega
 ·
  exact h
theorem jRc {Y n u : Int} (hn : 0 ≤ n ∧ n < Y) (hu : 0 ≤ u ∧ u < H) : ∃ Q, 0 ≤ Q ∧ Q < H ∧ Q * Y ≤ n * H + u ∧ n * H + u < (Q + 1) * Y := by
 have hH := jEK
 have hY : 0 < Y := by omega
 have h0 : 0 ≤ n * H := Int.mul_nonneg hn.1 (by omega)
 refine ⟨(n * H + u) / Y, Int.ediv_nonneg (by omega) (by omega), Int.ediv_lt_of_lt_mul hY ?_, Int.ediv_mul_le _ (by omega), ?_⟩
 ·
  have h3 : (n + 1) * H ≤ Y * H := Int.mul_le_mul_of_nonneg_right (by omega) (by omega)
  rw [Int.add_mul, Int.one_mul] at h3
  rw [Int.mul_comm H]
  omega
 ·
  have := Int.lt_ediv_add_one_mul_self (n * H + u) hY
  exact this
theorem jQa {n u1 u0 Y Q1 Q0 r1 r0 : Int} (h1 : n * H + u1 = Q1 * Y + r1) (h0 : r1 * H + u0 = Q0 * Y + r0) : n * B + (u1 * H + u0) = (Q1 * H + Q0) * Y + r0 := by
 have e : n * B + (u1 * H + u0) = (n * H + u1) * H + u0 := by
  rw [Int.add_mul, Int.mul_assoc, HH, Int.add_assoc]
 rw [e, h1, Int.add_mul, Int.add_assoc, h0, Int.add_mul, Int.mul_assoc, Int.mul_comm Y H, ← Int.mul_assoc, Int.add_assoc]
theorem jIf {N y p Q r : Int} (hp : 0 < p) (hy : 0 < y) (h : N * p = Q * (y * p) + r) (hr : 0 ≤ r ∧ r < y * p) : Q = N / y ∧ r / p = N % y := by
 have e : r = (N - Q * y) * p := by rw [Int.sub_mul, Int.mul_assoc]; omega
 have h1 : 0 ≤ N - Q * y := by
  rcases Int.lt_or_le (N - Q * y) 0 with h2 | h2
  ·
   have := Int.mul_neg_of_neg_of_pos h2 hp
   omega
  ·
   exact h2
 have h2 : N - Q * y < y := by
  rw [e] at hr
  exact Int.lt_of_mul_lt_mul_right hr.2 (Int.le_of_lt hp)
 have e1 : N / y = Q := by
  rw [show N = (N - Q * y) + Q * y from by omega, Int.add_mul_ediv_right _ _ (by omega), Int.ediv_eq_zero_of_lt h1 h2]
  omega
 refine ⟨e1.symm, ?_⟩
 rw [e, Int.mul_ediv_cancel _ (by omega), Int.emod_def, e1, Int.mul_comm y]
end Go.Proofs.YtoganbmeedimiaaGreatN
end
section
set_option linter.unusedVariables false
set_option linter.unusedSimpArgs false
namespace Go.Proofs.YtoganbmeedimiaaGreat.EOPressOne
open Go.RowKit Go.Proofs.YtoganbmeedimiaaGreat.POPressOne Go.Proofs.YtoganbmeedimiaaGreatN Go.Proofs.YtoganbmeedimiaaGreatW.PrintWords Go.Proofs.YtoganbmeedimiaaGreatW.PrintLast Go.Proofs.YtoganbmeedimiaaGreatW.PrintMore
theorem wr3 (p u r : Int) : IntKind.u64.wrap (IntKind.u64.wrap (IntKind.u64.wrap p + u) - IntKind.u64.wrap r) = IntKind.u64.wrap (p + u - r) := by
 simp only [IntKind.wrap_u64]
 omega
theorem jCk {x : Int} (h0 : 0 ≤ x) (h1 : x < B) : IntKind.u64.wrap x = x := by
 rw [IntKind.wrap_u64]
 rw [B_eq] at h1
 omega
theorem jGd {x y : Int} (hx : 0 ≤ x ∧ x < H) (hy : 0 ≤ y ∧ y < H) : 0 ≤ x * y ∧ x * y ≤ B - 2 * H + 1 := by
 have h1 : x * y ≤ (H - 1) * y := Int.mul_le_mul_of_nonneg_right (by omega) hy.1
 have h2 : (H - 1) * y ≤ (H - 1) * (H - 1) := Int.mul_le_mul_of_nonneg_left (by omega) (by have := jEK; omega)
 have h3 : (H - 1) * (H - 1) = B - 2 * H + 1 := by decide
 exact ⟨Int.mul_nonneg hx.1 hy.1, by omega⟩
theorem H2B : 2 * H < B := by decide
theorem jHL {n u Q Y : Int} (h1 : Q * Y ≤ n * H + u) (h2 : n * H + u < (Q + 1) * Y) (hY : Y < B) : IntKind.u64.wrap (IntKind.u64.wrap (IntKind.u64.wrap (n * 4294967296) + u) - IntKind.u64.wrap (Q * Y)) = n * H + u - Q * Y := by
 rw [wr3, show (4294967296 : Int) = H from rfl]
 rw [Int.add_mul, Int.one_mul] at h2
 exact jCk (by omega) (by omega)
structure jBL (Y a b n u q rh Q : Int) : Prop where
 Y_ : Y = a * H + b
 a_ : 0 < a
 b_ : 0 ≤ b ∧ b < H
 YB : Y < B
 n_ : 0 ≤ n ∧ n < Y
 u_ : 0 ≤ u ∧ u < H
 Q0 : 0 ≤ Q ∧ Q < H
 Q1 : Q * Y ≤ n * H + u
 Q2 : n * H + u < (Q + 1) * Y
 q_ : q * a + rh = n
 qQ : Q ≤ q
 qB : q < B
 rh_ : 0 ≤ rh ∧ rh < H
theorem jBL.aH {Y a b n u q rh Q : Int} (g : jBL Y a b n u q rh Q) : a < H := by
 rcases Int.lt_or_le a H with h | h
 ·
  exact h
 ·
  have h1 := Int.mul_le_mul_of_nonneg_right h (Int.le_of_lt jEK)
  rw [HH] at h1
  have h2 := g.Y_
  have h3 := g.YB
  have h4 := g.b_
  omega
theorem jBL.test {Y a b n u q rh Q : Int} (g : jBL Y a b n u q rh Q) (hq : q < H) : decide (IntKind.u64.wrap (q * b) > IntKind.u64.wrap (IntKind.u64.wrap (4294967296 * rh) + u)) = decide (H * rh + u < q * b) := by
 have h1 := jGd (x := q) (y := b) ⟨by have := g.Q0; have := g.qQ; omega, hq⟩ g.b_
 have h2 := jGd (x := H - 1) (y := rh) (by decide) g.rh_
 have h3 := H2B
 have e : (H - 1) * rh = H * rh - rh := by rw [Int.sub_mul, Int.one_mul]
 have h4 := g.rh_
 have h5 := g.u_
 have h6 := jEK
 have e2 : IntKind.u64.wrap (4294967296 * rh) = H * rh := by
  rw [show (4294967296 : Int) = H from rfl]
  exact jCk (by omega) (by omega)
 have e3 : IntKind.u64.wrap (H * rh + u) = H * rh + u := jCk (by omega) (by omega)
 have e4 : IntKind.u64.wrap (q * b) = q * b := jCk h1.1 (by omega)
 rw [e2, e3, e4]
theorem jBL.dec {Y a b n u q rh Q : Int} (g : jBL Y a b n u q rh Q) (hc : H ≤ q ∨ H * rh + u < q * b) : Q ≤ q - 1 ∧ IntKind.u64.wrap (q - 1) = q - 1 ∧ IntKind.u64.wrap (rh + a) = rh + a ∧ (q - 1) * a + (rh + a) = n := by
 have h1 : Q ≤ q - 1 := jOh (a := a) (b := b) (n := n) (u := u) (rh := rh) g.q_ g.qQ g.Q0.2 (by have := g.Q1; rwa [g.Y_] at this) hc
 have h2 := g.Q0
 have h3 := g.qB
 have h4 := g.rh_
 have h5 := g.aH
 have h6 := g.a_
 have h7 := H2B
 refine ⟨h1, jCk (by omega) (by omega), jCk (by omega) (by omega), ?_⟩
 have := g.q_
 rw [Int.sub_mul, Int.one_mul]
 omega
theorem jBL.brk {Y a b n u q rh Q : Int} (g : jBL Y a b n u q rh Q) (hc : H ≤ q ∨ H * rh + u < q * b) (hr : H ≤ rh + a) : q - 1 = Q := by
 obtain ⟨h1, _, _, h4⟩ := g.dec hc
 refine jMu (a := a) (b := b) (n := n) (u := u) g.a_ g.b_ g.u_.1 ?_ h4 h1 g.Q0.1 hr ?_
 ·
  have := g.n_.2; rwa [g.Y_] at this
 ·
  have := g.Q2; rwa [g.Y_] at this
theorem jBL.next {Y a b n u q rh Q : Int} (g : jBL Y a b n u q rh Q) (hc : H ≤ q ∨ H * rh + u < q * b) (hr : ¬ H ≤ rh + a) : jBL Y a b n u (q - 1) (rh + a) Q := by
 obtain ⟨h1, _, _, h4⟩ := g.dec hc
 exact ⟨g.Y_, g.a_, g.b_, g.YB, g.n_, g.u_, g.Q0, g.Q1, g.Q2, h4, h1, by have := g.qB; omega, by have := g.rh_; have := g.a_; omega⟩
theorem jBL.stop {Y a b n u q rh Q : Int} (g : jBL Y a b n u q rh Q) (hc : ¬ H * rh + u < q * b) : q = Q := by
 refine jOg (a := a) (b := b) (n := n) (u := u) (rh := rh) ?_ g.q_ g.qQ (by omega) ?_
 ·
  have := g.n_; rw [g.Y_] at this; omega
 ·
  have := g.Q2; rwa [g.Y_] at this
theorem jBL.make {Y a b n u : Int} (hY : Y = a * H + b) (ha : 0 < a) (hb : 0 ≤ b ∧ b < H) (hYB : Y < B) (hn : 0 ≤ n ∧ n < Y) (hu : 0 ≤ u ∧ u < H) (haH : a < H) : ∃ Q, jBL Y a b n u (n / a) (n % a) Q := by
 obtain ⟨Q, h0, h1, h2, h3⟩ := jRc hn hu
 have h4 := Int.emod_nonneg n (Int.ne_of_gt ha)
 have h5 := Int.emod_lt_of_pos n ha
 refine ⟨Q, hY, ha, hb, hYB, hn, hu, ⟨h0, h1⟩, h2, h3, ?_, ?_, ?_, ⟨h4, by omega⟩⟩
 ·
  rw [Int.mul_comm]; exact Int.mul_ediv_add_emod n a
 ·
  exact jMt ha hb.1 hu.2 h0 (by rwa [hY] at h2)
 ·
  have := Int.ediv_le_self a hn.1; omega
theorem jHV {n a : Int} (hn : 0 ≤ n ∧ n < B) (ha : 0 < a) : IntKind.u64.wrap (Int.tdiv n a) = n / a ∧ IntKind.u64.wrap (n - IntKind.u64.wrap (IntKind.u64.wrap (Int.tdiv n a) * a)) = n % a := by
 have h0 : 0 ≤ n / a := Int.ediv_nonneg hn.1 (Int.le_of_lt ha)
 have h1 := Int.ediv_le_self a hn.1
 have e1 : IntKind.u64.wrap (Int.tdiv n a) = n / a := by
  rw [Int.tdiv_eq_ediv_of_nonneg hn.1]
  exact jCk h0 (by omega)
 have h2 := Int.emod_nonneg n (Int.ne_of_gt ha)
 have h3 : n / a * a = n - n % a := by have := Int.mul_ediv_add_emod n a; rw [Int.mul_comm] at this; omega
 have h4 := Int.mul_nonneg h0 (Int.le_of_lt ha)
 refine ⟨e1, ?_⟩
 rw [e1, jCk h4 (by omega), h3, jCk (by omega) (by omega)]
 omega
theorem jQc {Y a b n u Q : Int} {s : Nat} (hs : s ≤ 63) {q1 : Int} (h1 : 0 ≤ q1 ∧ q1 < H) : ∀ (d : Nat) (q rh : Int), (q - Q).toNat = d → jBL Y a b n u q rh Q → Ev (fun k => jF.l1 k Y (s : Int) a b u q1 rh n q) (q1 * H + Q, (n * H + u - Q * Y) / 2 ^ s) := by
 have hsum : ∀ {Q : Int}, 0 ≤ Q ∧ Q < H → IntKind.u64.wrap (IntKind.u64.wrap (q1 * 4294967296) + Q) = q1 * H + Q := by
  intro Q hQ
  have h2 : q1 * H ≤ (H - 1) * H := Int.mul_le_mul_of_nonneg_right (by omega) (Int.le_of_lt jEK)
  have h3 : (H - 1) * H = B - H := by decide
  have h4 := Int.mul_nonneg h1.1 (Int.le_of_lt jEK)
  have h5 := jEK
  rw [show (4294967296 : Int) = H from rfl, jCk h4 (by omega), jCk (by omega) (by omega)]
 intro d
 induction d with
 | zero =>
  intro q rh hd g
  obtain rfl : q = Q := by have := g.qQ; omega
  have hqH : ¬ q ≥ 4294967296 := by have := g.Q0.2; rw [H_eq] at this; omega
  have hno : ¬ H * rh + u < q * b := fun hc => by have := (g.dec (.inr hc)).1; omega
  refine Ev.step (f := fun k => jF.j4 k Y (s : Int) a b u q1 rh n q false) (fun k => ?_) (Ev.step (fun k => by rw [jF.j4]) (Ev.neg (by simp) (Ev.pos (by omega) (Ev.eq (Ev.now _) ?_))))
  ·
   rw [jF.l1, if_neg hqH, g.test g.Q0.2, decide_eq_false hno]
  ·
   rw [hsum g.Q0, jHL g.Q1 g.Q2 g.YB, jDZ (by omega)]
 | succ d ih =>
  intro q rh hd g
  by_cases hc : H ≤ q ∨ H * rh + u < q * b
  ·
   obtain ⟨g1, g2, g3, _⟩ := g.dec hc
   refine Ev.step (f := fun k => jF.j4 k Y (s : Int) a b u q1 rh n q true) (fun k => ?_) (Ev.step (fun k => by rw [jF.j4]) (Ev.pos rfl ?_))
   ·
    rw [jF.l1]
    by_cases hq : q < H
    ·
     have hqH : ¬ q ≥ 4294967296 := by rw [H_eq] at hq; omega
     rw [if_neg hqH, g.test hq, decide_eq_true (by omega)]
    ·
     have hqH : q ≥ 4294967296 := by rw [H_eq] at hq; omega
     rw [if_pos hqH]
   ·
    rw [g2, g3]
    by_cases hr : H ≤ rh + a
    ·
     have hb := g.brk hc hr
     refine Ev.pos (by rw [H_eq] at hr; omega) (Ev.pos (by omega) (Ev.eq (Ev.now _) ?_))
     rw [hb, hsum g.Q0, jHL g.Q1 g.Q2 g.YB, jDZ (by omega)]
    ·
     exact Ev.neg (by rw [H_eq] at hr; omega) (ih _ _ (by omega) (g.next hc hr))
  ·
   exfalso
   have := g.stop (fun h => hc (.inr h))
   omega
theorem jQe {Y a b n u1 u0 Q1 : Int} {s : Nat} (hs : s ≤ 63) (hY : Y = a * H + b) (ha : 0 < a) (hb : 0 ≤ b ∧ b < H) (haH : a < H) (hYB : Y < B) (hu0 : 0 ≤ u0 ∧ u0 < H) (hQ0 : 0 ≤ Q1 ∧ Q1 < H) (h1 : Q1 * Y ≤ n * H + u1) (h2 : n * H + u1 < (Q1 + 1) * Y) : ∃ Q0 r0, 0 ≤ r0 ∧ r0 < Y ∧ n * B + (u1 * H + u0) = (Q1 * H + Q0) * Y + r0 ∧ Ev (fun k => jF.j2 k Y (s : Int) a b n u1 u0 Q1) (Q1 * H + Q0, r0 / 2 ^ s) := by
 have hr1 : 0 ≤ n * H + u1 - Q1 * Y ∧ n * H + u1 - Q1 * Y < Y := by rw [Int.add_mul, Int.one_mul] at h2; omega
 obtain ⟨Q0, g⟩ := jBL.make (n := n * H + u1 - Q1 * Y) (u := u0) hY ha hb hYB hr1 hu0 haH
 obtain ⟨e1, e2⟩ := jHV (n := n * H + u1 - Q1 * Y) ⟨hr1.1, by omega⟩ ha
 have g1 := g.Q1
 have g2 := g.Q2
 refine ⟨Q0, (n * H + u1 - Q1 * Y) * H + u0 - Q0 * Y, by omega, by rw [Int.add_mul, Int.one_mul] at g2; omega, ?_, ?_⟩
 ·
  exact jQa (r1 := n * H + u1 - Q1 * Y) (by omega) (by omega)
 ·
  refine Ev.step (fun k => by rw [jF.j2]) (Ev.neg (by omega) ?_)
  rw [jHL h1 h2 hYB, e2, e1]
  exact jQc hs hQ0 _ _ _ rfl g
theorem jQd {Y a b n u1 u0 Q1 : Int} {s : Nat} (hu0 : 0 ≤ u0 ∧ u0 < H) {R : Int × Int} (hR : Ev (fun k => jF.j2 k Y (s : Int) a b n u1 u0 Q1) R) : ∀ (d : Nat) (q rh : Int), (q - Q1).toNat = d → jBL Y a b n u1 q rh Q1 → Ev (fun k => jF.l0 k Y (s : Int) a b n u1 u0 q rh) R := by
 intro d
 induction d with
 | zero =>
  intro q rh hd g
  obtain rfl : q = Q1 := by have := g.qQ; omega
  have hqH : ¬ q ≥ 4294967296 := by have := g.Q0.2; rw [H_eq] at this; omega
  have hno : ¬ H * rh + u1 < q * b := fun hc => by have := (g.dec (.inr hc)).1; omega
  refine Ev.step (f := fun k => jF.j1 k Y (s : Int) a b n u1 u0 q rh false) (fun k => ?_) (Ev.step (fun k => by rw [jF.j1]) (Ev.neg (by simp) hR))
  rw [jF.l0, if_neg hqH, g.test g.Q0.2, decide_eq_false hno]
 | succ d ih =>
  intro q rh hd g
  by_cases hc : H ≤ q ∨ H * rh + u1 < q * b
  ·
   obtain ⟨g1, g2, g3, _⟩ := g.dec hc
   refine Ev.step (f := fun k => jF.j1 k Y (s : Int) a b n u1 u0 q rh true) (fun k => ?_) (Ev.step (fun k => by rw [jF.j1]) (Ev.pos rfl ?_))
   ·
    rw [jF.l0]
    by_cases hq : q < H
    ·
     have hqH : ¬ q ≥ 4294967296 := by rw [H_eq] at hq; omega
     rw [if_neg hqH, g.test hq, decide_eq_true (by omega)]
    ·
     have hqH : q ≥ 4294967296 := by rw [H_eq] at hq; omega
     rw [if_pos hqH]
   ·
    rw [g2, g3]
    by_cases hr : H ≤ rh + a
    ·
     have hb := g.brk hc hr
     exact Ev.pos (by rw [H_eq] at hr; omega) (by rw [hb]; exact hR)
    ·
     exact Ev.neg (by rw [H_eq] at hr; omega) (ih _ _ (by omega) (g.next hc hr))
  ·
   exfalso
   have := g.stop (fun h => hc (.inr h))
   omega
theorem jLU : ∀ (n x : Nat), x < 2 ^ n → n ≤ 64 → (x = 0 ∧ Lib.bitLen x = 0) ∨ ∃ m, Lib.bitLen x = m + 1 ∧ m < n ∧ 2 ^ m ≤ x ∧ x < 2 ^ (m + 1) := by
 intro n
 induction n with
 | zero =>
  intro x h _
  have : x = 0 := by simp at h; omega
  subst this
  exact .inl ⟨rfl, by decide⟩
 | succ n ih =>
  intro x h hn
  by_cases hz : x = 0
  ·
   subst hz
   exact .inl ⟨rfl, by decide⟩
  ·
   have h64 : x < 2 ^ 64 := Nat.lt_of_lt_of_le h (Nat.pow_le_pow_right (by decide) hn)
   rw [Lib.bitLen_half x hz h64]
   refine .inr ?_
   have h2 : x / 2 < 2 ^ n := by rw [Nat.pow_succ] at h; omega
   rcases ih (x / 2) h2 (by omega) with ⟨e, f⟩ | ⟨m, e, hm, h3, h4⟩
   ·
    refine ⟨0, by omega, by omega, by simp; omega, by simp; omega⟩
   ·
    refine ⟨m + 1, by omega, by omega, ?_, ?_⟩
    ·
     rw [Nat.pow_succ]; omega
    ·
     rw [Nat.pow_succ]; omega
theorem jPz {x : Int} (h0 : 0 ≤ x) (h1 : x < B) : Go.bits .and .u64 x 4294967295 = x % 4294967296 := by
 obtain ⟨n, rfl⟩ := Int.eq_ofNat_of_zero_le h0
 rw [bits_Mul64.maskN n (by rw [B_eq] at h1; omega)]
 omega
theorem jKk {y : Int} (h0 : 0 < y) (h1 : y < B) : ∃ s : Nat, s ≤ 63 ∧ bits_LeadingZeros64.f y = some (s : Int) ∧ y < 2 ^ (64 - s) ∧ 2 ^ s * y < B ∧ B ≤ 2 * (2 ^ s * y) := by
 obtain ⟨n, rfl⟩ := Int.eq_ofNat_of_zero_le (Int.le_of_lt h0)
 have hn : n < 2 ^ 64 := by rw [B_eq] at h1; omega
 rcases jLU 64 n hn (Nat.le_refl _) with ⟨e, _⟩ | ⟨m, e, hm, h2, h3⟩
 ·
  omega
 ·
  have e64 : (2 : Nat) ^ (63 - m) * 2 ^ (m + 1) = 18446744073709551616 := by rw [← Nat.pow_add, show 63 - m + (m + 1) = 64 from by omega]
  have h4 : 2 ^ (63 - m) * n < 2 ^ (63 - m) * 2 ^ (m + 1) := Nat.mul_lt_mul_of_pos_left h3 (Nat.pow_pos (by decide))
  have h5 : 2 ^ (63 - m) * 2 ^ m ≤ 2 ^ (63 - m) * n := Nat.mul_le_mul_left _ h2
  have e5 : (2 : Nat) ^ (63 - m) * 2 ^ (m + 1) = 2 * (2 ^ (63 - m) * 2 ^ m) := by rw [Nat.pow_succ, ← Nat.mul_assoc, Nat.mul_comm]
  refine ⟨63 - m, by omega, ?_, ?_, ?_, ?_⟩
  ·
   unfold bits_LeadingZeros64.f bits_Len64.f
   rw [if_pos ⟨Int.le_of_lt h0, h1⟩, Option.bind_some, Int.toNat_natCast, e, w64 (by omega)]
   congr 1
   omega
  ·
   rw [show 64 - (63 - m) = m + 1 from by omega, jDT]
   exact_mod_cast h3
  ·
   rw [jDT, ← Int.natCast_mul, B_eq]; omega
  ·
   rw [jDT, ← Int.natCast_mul, B_eq]; omega
theorem jIh {hi lo y : Int} (h0 : 0 ≤ hi) (hy : hi < y) (hlo : 0 ≤ lo ∧ lo < B) (hyB : y < B) : Ev (fun k => jF.f k hi lo y) ((hi * B + lo) / y, (hi * B + lo) % y) := by
 unfold jF.f
 refine Ev.neg (by omega) (Ev.neg (by omega) ?_)
 by_cases hz : hi = 0
 ·
  subst hz
  refine Ev.pos rfl (Ev.eq (Ev.now _) ?_)
  rw [Int.zero_mul, Int.zero_add, Int.tmod_eq_emod_of_nonneg hlo.1, (jHV hlo hy).1]
 ·
  refine Ev.neg hz ?_
  obtain ⟨s, hs, he, hy1, hy2, hy3⟩ := jKk (by omega) hyB
  have hs64 : s ≤ 64 := by omega
  have hp := two_pos s
  have hp2 := two_pos (64 - s)
  have hsp := qj hs64
  have e1 : IntKind.u64.wrap (s : Int) = (s : Int) := jCk (by omega) (by rw [B_eq]; omega)
  have e2 : IntKind.u64.wrap (64 - (s : Int)) = ((64 - s : Nat) : Int) := by rw [jCk (by omega) (by rw [B_eq]; omega)]; omega
  have ey : shl .u64 y (s : Int) = 2 ^ s * y := by rw [jFy hs64, Int.emod_eq_of_lt (by omega) hy1]
  have eh : shl .u64 hi (s : Int) = 2 ^ s * hi := by rw [jFy hs64, Int.emod_eq_of_lt h0 (by omega)]
  have el : shl .u64 lo (s : Int) = 2 ^ s * (lo % 2 ^ (64 - s)) := jFy hs64
  have er : shr .u64 lo ((64 - s : Nat) : Int) = lo / 2 ^ (64 - s) := jDZ (by omega)
  have hlq : 0 ≤ lo / 2 ^ (64 - s) := Int.ediv_nonneg hlo.1 (by omega)
  have hlq2 : lo / 2 ^ (64 - s) < 2 ^ s := Int.ediv_lt_of_lt_mul hp2 (by rw [hsp]; exact hlo.2)
  have hb := jKD (x := lo) hs64
  have hls := jEo (x := lo) hs64
  have h2B := jCN hs64
  have hhy : 2 ^ s * hi + 2 ^ s ≤ 2 ^ s * y := by
   have := Int.mul_le_mul_of_nonneg_left (show hi + 1 ≤ y from hy) (Int.le_of_lt hp)
   rw [Int.mul_add, Int.mul_one] at this
   exact this
  have h20 : 0 ≤ 2 ^ s * hi := Int.mul_nonneg (Int.le_of_lt hp) h0
  have eo : Go.bits .or .u64 (2 ^ s * hi) (lo / 2 ^ (64 - s)) = 2 ^ s * hi + lo / 2 ^ (64 - s) := or_hi h0 ⟨hlq, hlq2⟩ (by omega) (by omega)
  refine Ev.vI he ?_
  simp only [e1, e2, ey, eh, el, er, eo]
  have hn : 0 ≤ 2 ^ s * hi + lo / 2 ^ (64 - s) ∧ 2 ^ s * hi + lo / 2 ^ (64 - s) < 2 ^ s * y := by omega
  have hN : (hi * B + lo) * 2 ^ s = (2 ^ s * hi + lo / 2 ^ (64 - s)) * B + 2 ^ s * (lo % 2 ^ (64 - s)) := by
   rw [Int.add_mul, Int.add_mul, Int.mul_comm lo, ← hls, Int.mul_comm (hi * B), ← Int.mul_assoc, Int.mul_comm B]
   omega
  have hnB : 2 ^ s * hi + lo / 2 ^ (64 - s) < B := by omega
  have hu := Int.mul_nonneg (Int.le_of_lt hp) (Int.emod_nonneg lo (Int.ne_of_gt hp2))
  have huB : 2 ^ s * (lo % 2 ^ (64 - s)) < B := by omega
  have hsc : ∀ Q r : Int, 0 ≤ r → r < 2 ^ s * y → (2 ^ s * hi + lo / 2 ^ (64 - s)) * B + 2 ^ s * (lo % 2 ^ (64 - s)) = Q * (2 ^ s * y) + r → Q = (hi * B + lo) / y ∧ r / 2 ^ s = (hi * B + lo) % y := by
   intro Q r hr0 hr1 hq
   refine jIf (p := 2 ^ s) hp (by omega) ?_ ⟨hr0, by rw [Int.mul_comm]; exact hr1⟩
   rw [hN, hq, Int.mul_comm y]
  clear hN hls hb e1 e2 ey eh el er eo h2B hsp hlq hlq2 hhy h20
  generalize 2 ^ s * hi + lo / 2 ^ (64 - s) = n at *
  generalize 2 ^ s * (lo % 2 ^ (64 - s)) = u at *
  generalize 2 ^ s * y = Y at *
  have hYa : Y = Y / 4294967296 * H + Y % 4294967296 := by rw [H_eq]; omega
  have hYa0 : 0 < Y / 4294967296 := by rw [B_eq] at hy3; omega
  have hYaH : Y / 4294967296 < H := by rw [H_eq]; rw [B_eq] at hy2; omega
  have hYb : 0 ≤ Y % 4294967296 ∧ Y % 4294967296 < H := by rw [H_eq]; omega
  have hu1 : 0 ≤ u / 4294967296 ∧ u / 4294967296 < H := by rw [H_eq]; rw [B_eq] at huB; omega
  have hu0 : 0 ≤ u % 4294967296 ∧ u % 4294967296 < H := by rw [H_eq]; omega
  have hua : u / 4294967296 * H + u % 4294967296 = u := by rw [H_eq]; omega
  rw [jPz (by omega) hy2, jPz hu huB]
  obtain ⟨Q1, g⟩ := jBL.make (n := n) (u := u / 4294967296) hYa hYa0 hYb hy2 hn hu1 hYaH
  obtain ⟨q1, q2⟩ := jHV (n := n) (a := Y / 4294967296) ⟨hn.1, hnB⟩ hYa0
  obtain ⟨Q0, r0, hr0, hr1, hq, hR⟩ := jQe (n := n) (u1 := u / 4294967296) (u0 := u % 4294967296) (s := s) hs hYa hYa0 hYb hYaH hy2 hu0 g.Q0 g.Q1 g.Q2
  rw [hua] at hq
  obtain ⟨f1, f2⟩ := hsc _ _ hr0 hr1 hq
  rw [q2, q1]
  refine Ev.pos (by omega) (Ev.pos (by omega) (Ev.neg (by omega) ?_))
  rw [← f1, ← f2]
  exact jQd hu0 hR _ _ _ rfl g
theorem jIg {hi lo y : Int} (h0 : 0 ≤ hi) (hy : hi < y) (hlo : 0 ≤ lo ∧ lo < B) : (hi * B + lo) / y < B := by
 refine Int.ediv_lt_of_lt_mul (by omega) ?_
 have := Int.mul_le_mul_of_nonneg_right (show hi + 1 ≤ y from hy) (Int.le_of_lt jBP)
 rw [Int.add_mul, Int.one_mul] at this
 rw [Int.mul_comm B]
 omega
end Go.Proofs.YtoganbmeedimiaaGreat.EOPressOne
end
section
set_option linter.unusedVariables false
set_option linter.unusedSimpArgs false
namespace Go.Proofs.YtoganbmeedimiaaGreat.EOPressOne
open Go.RowKit Go.Proofs.YtoganbmeedimiaaGreat.POPressOne Go.Proofs.YtoganbmeedimiaaGreatN Go.Proofs.YtoganbmeedimiaaGreatW.PrintWords Go.Proofs.YtoganbmeedimiaaGreatW.PrintLast Go.Proofs.YtoganbmeedimiaaGreatW.PrintMore
def jFN (n : Nat) (l : List Int) : List Int := l ++ List.replicate (n - l.length) 0
theorem jKT {n : Nat} {l : List Int} (h : l.length ≤ n) : (jFN n l).length = n := by unfold jFN; simp; omega
theorem jKS (n : Nat) (l : List Int) : val (jFN n l) = val l := by unfold jFN; rw [val_append, jBR]; omega
theorem jMY {n : Nat} {l : List Int} (h : Ok l) : Ok (jFN n l) := h.append (Ok.rep _)
theorem jKz {u v : List Int} (hu : Ok u) (hv : Ok v) (hul : u.length ≤ 1000) (hvl : v.length ≤ 1000) (hV : 0 < val v) : ∀ (d : Nat) (q : Int), (q - val u / val v).toNat = d → val u / val v ≤ q → q < B → Ev (fun k => jS.l v k u q) (val u / val v, jFN u.length (dg (val u % val v))) := by
 have hU := jc hu
 have hQ0 : 0 ≤ val u / val v := Int.ediv_nonneg hU (Int.le_of_lt hV)
 intro d
 induction d with
 | zero =>
  intro q hd h1 h2
  obtain rfl : q = val u / val v := by omega
  have hle : val v * (val u / val v) ≤ val u := Int.mul_ediv_self_le (Int.ne_of_gt hV)
  have rv := Row.of hv hvl
  have r1 : Row [val u / val v] (val u / val v) 1 := ⟨Ok.one hQ0 h2, val_one _, Nat.le_refl _⟩
  have rm := rv.mul r1 (p := 1001) (Nat.le_refl _)
  have hmod : val u - val v * (val u / val v) = val u % val v := (Int.emod_def _ _).symm
  have hs := jMJ (Row.of hu hul) rm (by decide) (by decide) hle
  rw [hmod] at hs
  have hlt : val u % val v ≤ val u := by rw [← hmod]; have := Int.mul_nonneg (Int.le_of_lt hV) hQ0; omega
  have hlen : (dg (val u % val v)).length ≤ u.length := jBu (Int.lt_of_le_of_lt hlt (jAJ hu))
  refine Ev.step (fun k => by rw [jS.l]) (Ev.bind (mulR rv r1 (by decide) (by decide)) (Ev.bind hs (Ev.pos rfl ?_)))
  exact Ev.pos (c := (dg (val u % val v)).length ≤ u.length ∧ u.length < 17592186044416) ⟨hlen, by omega⟩ (Ev.now _)
 | succ d ih =>
  intro q hd h1 h2
  have hlt : val u < val v * q := by
   have := Int.lt_ediv_add_one_mul_self (val u) hV
   have h3 : (val u / val v + 1) * val v ≤ q * val v := Int.mul_le_mul_of_nonneg_right (by omega) (Int.le_of_lt hV)
   rw [Int.mul_comm (val v)]
   omega
  have rv := Row.of hv hvl
  have r1 : Row [q] q 1 := ⟨Ok.one (by omega) h2, val_one _, Nat.le_refl _⟩
  have rm := rv.mul r1 (p := 1001) (Nat.le_refl _)
  have hs := jOA (Row.of hu hul) rm (by decide) (by decide) hlt
  have hw : IntKind.u64.wrap (q - 1) = q - 1 := by
   have h5 : 0 ≤ q - 1 := by omega
   have h6 : q - 1 < 18446744073709551616 := by rw [← B_eq]; omega
   rw [IntKind.wrap_u64]
   exact Int.emod_eq_of_lt h5 h6
  refine Ev.step (fun k => by rw [jS.l]) (Ev.bind (mulR rv r1 (by decide) (by decide)) (Ev.bind hs (Ev.neg (fun h => Bool.noConfusion h) ?_)))
  rw [hw]
  exact ih (q - 1) (by omega) (by omega) (by omega)
theorem jHc {u v : List Int} (hu : Ok u) (hv : Ok v) {n : Nat} (hn : v.length = n + 1) (hul : u.length = n + 2) (hV : 0 < v.getD n 0) : val u / val v ≤ (u.getD (n + 1) 0 * B + u.getD n 0) / v.getD n 0 := by
 have hVp : B ^ n * v.getD n 0 ≤ val v := by
  have e := vG v n (by omega)
  rw [qV (by omega), List.drop_eq_nil_of_le (by omega), qg, Int.mul_zero, Int.add_zero] at e
  have := jc (hv.take n)
  omega
 have hB := zX n
 have hVpos : 0 < val v := by have := Int.mul_pos hB hV; omega
 have hU : val u < B ^ n * (u.getD (n + 1) 0 * B + u.getD n 0 + 1) := by
  have e := vG u n (by omega)
  rw [qV (by omega), qV (by omega), List.drop_eq_nil_of_le (by omega), qg, Int.mul_zero, Int.add_zero] at e
  have h1 := jAJ (hu.take n)
  rw [List.length_take, Nat.min_eq_left (by omega)] at h1
  rw [Int.mul_add (B ^ n), Int.mul_one, Int.mul_comm _ B, Int.add_comm (B * u.getD (n + 1) 0)]
  omega
 have hQ0 : 0 ≤ val u / val v := Int.ediv_nonneg (jc hu) (Int.le_of_lt hVpos)
 have hle : val u / val v * val v ≤ val u := Int.ediv_mul_le _ (Int.ne_of_gt hVpos)
 generalize val u / val v = Q at *
 refine Int.le_ediv_of_mul_le hV ?_
 have h2 : Q * (B ^ n * v.getD n 0) ≤ Q * val v := Int.mul_le_mul_of_nonneg_left hVp hQ0
 rw [← Int.mul_assoc, Int.mul_comm Q, Int.mul_assoc] at h2
 have h3 : B ^ n * (Q * v.getD n 0) < B ^ n * (u.getD (n + 1) 0 * B + u.getD n 0 + 1) := by omega
 have := Int.lt_of_mul_lt_mul_left h3 (Int.le_of_lt hB)
 omega
theorem jMv {u v : List Int} (hu : Ok u) (hv : Ok v) (hul : u.length = v.length + 1) (hvl : v.length ≤ 900) (hv0 : 0 < v.length) (hV : 0 < v.getD (v.length - 1) 0) (hlt : val u < val v * B) : Ev (fun k => jS.f k u v) (val u / val v, jFN u.length (dg (val u % val v))) := by
 obtain ⟨n, hn⟩ : ∃ n, v.length = n + 1 := ⟨v.length - 1, by omega⟩
 have e1 : v.length - 1 = n := by omega
 rw [e1] at hV
 have hVp : B ^ n * v.getD n 0 ≤ val v := by
  have e := vG v n (by omega)
  rw [qV (by omega), List.drop_eq_nil_of_le (by omega), qg, Int.mul_zero, Int.add_zero] at e
  have := jc (hv.take n)
  omega
 have hVpos : 0 < val v := by have := Int.mul_pos (zX n) hV; omega
 have hQB : val u / val v < B := Int.ediv_lt_of_lt_mul hVpos (by rw [Int.mul_comm]; exact hlt)
 have h0 := hu.at (n + 1)
 have h1 := hu.at n
 have h2 := hv.at n
 unfold jS.f
 refine Ev.pos (c := 0 < v.length ∧ v.length < u.length) ⟨hv0, by omega⟩ ?_
 rw [e1, hn]
 by_cases hc : u.getD (n + 1) 0 < v.getD n 0
 ·
  refine Ev.pos hc (Ev.bind (jIh h0.1 hc h1 h2.2) ?_)
  refine jKz hu hv (by omega) (by omega) hVpos _ _ rfl ?_ ?_
  ·
   exact jHc hu hv hn (by omega) hV
  ·
   exact (jIg h0.1 hc h1)
 ·
  refine Ev.neg hc (jKz hu hv (by omega) (by omega) hVpos _ _ rfl ?_ ?_)
  ·
   rw [B_eq] at hQB; omega
  ·
   rw [B_eq]; decide
end Go.Proofs.YtoganbmeedimiaaGreat.EOPressOne
end
section
set_option linter.unusedVariables false
set_option linter.unusedSimpArgs false
namespace Go.Proofs.YtoganbmeedimiaaGreat.EOPressOne
open Go.RowKit Go.Proofs.YtoganbmeedimiaaGreat.POPressOne Go.Proofs.YtoganbmeedimiaaGreatN Go.Proofs.YtoganbmeedimiaaGreatW.PrintWords Go.Proofs.YtoganbmeedimiaaGreatW.PrintLast Go.Proofs.YtoganbmeedimiaaGreatW.PrintMore
def Held (l : List Int) : Prop := l.length ≤ 8 ∧ (l = [] ∨ l.getD (l.length - 1) 0 ≠ 0)
instance (l : List Int) : Decidable (Held l) := by unfold Held; infer_instance
theorem Held.dg {l : List Int} (h : Held l) (ho : Ok l) : Go.Proofs.YtoganbmeedimiaaGreatN.dg (val l) = l := jLA ho h.2
theorem jOV {n : Int} {l : List Int} (h : (dg n).length ≤ 8) : Held (dg n) := ⟨h, jHe n⟩
theorem jMl {l : List Int} (h : l.length ≤ 8) (h0 : ¬ l = []) : (l.getD (l.length - 1) 0 != 0) = decide (Held l) := by
 rw [Bool.eq_iff_iff, bne_iff_ne]
 exact ⟨fun q => decide_eq_true ⟨h, .inr q⟩, fun q => ((of_decide_eq_true q).2).elim (fun e => absurd e h0) id⟩
theorem jCZ (l : List Int) : vU.f l = some (decide (Held l)) := by
 unfold vU.f
 by_cases h : l.length ≤ 8
 ·
  rw [if_pos (by omega)]
  by_cases h0 : l = []
  ·
   subst h0
   rfl
  ·
   have hl := List.length_pos_iff.2 h0
   have hw : wrap64 ((l.length : Int) - 1) = ((l.length - 1 : Nat) : Int) := by rw [w64 (by omega)]; omega
   rw [if_neg (by omega), hw, if_pos (by omega), if_pos (by omega), jBp, jMl h h0]
 ·
  rw [if_neg (by omega), decide_eq_false (fun q => h q.1)]
theorem of_eq {n : Int} (h : 0 ≤ n ∧ n < B) : jEn.f n = some (dg n) := by
 unfold jEn.f
 by_cases hz : n = 0
 ·
  rw [if_pos hz, hz, jBd]
 ·
  rw [if_neg hz]
  have := jLA (Ok.one h.1 h.2) (.inr (by simpa using hz))
  rw [val_one] at this
  rw [this]
def told (x : Int) : List Int × Int := if 8 < (dg x).length then ([], 21) else (dg x, 0)
theorem jOK {a b : List Int} (ha : Ok a) (hb : Ok b) (hal : a.length ≤ 17592186044416) (hbl : b.length ≤ 17592186044416) : Ev (fun k => ql.f k a b) (cmpv (val a) (val b)) := Ev.bind (jLI ha hb hal hbl) (Ev.now _)
theorem jEq {x : Int} (h : x < B ^ 8) : Held (dg x) := jOV (l := []) (jBu h)
end Go.Proofs.YtoganbmeedimiaaGreat.EOPressOne
end
section
set_option linter.unusedVariables false
set_option linter.unusedSimpArgs false
end
section
set_option linter.unusedVariables false
set_option linter.unusedSimpArgs false
end
section
set_option linter.unusedVariables false
set_option linter.unusedSimpArgs false
end
section
set_option linter.unusedVariables false
set_option linter.unusedSimpArgs false
namespace Go.Proofs.YtoganbmeedimiaaGreat.EOPressOne
open Go.RowKit Go.Proofs.YtoganbmeedimiaaGreat.POPressOne Go.Proofs.YtoganbmeedimiaaGreatN Go.Proofs.YtoganbmeedimiaaGreatW.PrintWords Go.Proofs.YtoganbmeedimiaaGreatW.PrintLast Go.Proofs.YtoganbmeedimiaaGreatW.PrintMore
def divd (a b : List Int) : List Int × List Int × Int := if Held a ∧ Held b then (if val b = 0 then ([], [], 30) else (dg (val a / val b), dg (val a % val b), 0)) else ([], [], 1)
def jKC (a : List Int) (n : Int) : List Int × Int × Int := if Held a then (if n = 0 then ([], 0, 30) else (dg (val a / n), val a % n, 0)) else ([], 0, 1)
theorem jLa {q : List Int} (hq : Ok q) {j : Nat} (h : val (q.take (j + 1)) = 0) : val (q.take j) = 0 ∧ (j < q.length → q.getD j 0 = 0) := by
 by_cases hj : j < q.length
 ·
  rw [jAU hj] at h
  have h1 := jc (hq.take j)
  have h2 := Int.mul_nonneg (Int.le_of_lt (zX j)) (hq.at j).1
  refine ⟨by omega, fun _ => ?_⟩
  rcases Int.mul_eq_zero.1 (show B ^ j * q.getD j 0 = 0 by omega) with h3 | h3
  ·
   have := zX j; omega
  ·
   exact h3
 ·
  rw [List.take_of_length_le (by omega)] at h
  rw [List.take_of_length_le (by omega)]
  exact ⟨h, fun h' => absurd h' hj⟩
theorem jLL {P r q r' a n T : Int} (hn : 0 < n) (h : r * B + a = n * q + r') (P0 : 0 ≤ P) : (r * (P * B) + (T + P * a)) / n = P * q + (r' * P + T) / n ∧ (r * (P * B) + (T + P * a)) % n = (r' * P + T) % n := by
 have e : r * (P * B) + (T + P * a) = (r' * P + T) + n * (P * q) := by
  have h1 : P * (r * B + a) = P * (n * q + r') := by rw [h]
  rw [Int.mul_add, Int.mul_add] at h1
  have h2 : r * (P * B) = P * (r * B) := by rw [← Int.mul_assoc, Int.mul_comm r P, Int.mul_assoc]
  have h3 : n * (P * q) = P * (n * q) := by rw [← Int.mul_assoc, Int.mul_comm n P, Int.mul_assoc]
  rw [h2, h3, Int.mul_comm r' P]
  omega
 rw [e]
 constructor
 ·
  rw [Int.add_mul_ediv_left _ _ (Int.ne_of_gt hn)]; omega
 ·
  rw [Int.add_mul_emod_self_left]
theorem jMK {a : List Int} (ha : Ok a) (hal : a.length ≤ 1000) {n : Int} (h0 : 0 < n) (hnB : n < B) : ∀ (j : Nat) (q : List Int) (r : Int), j ≤ a.length → q.length = a.length → Ok q → val (q.take j) = 0 → (0 ≤ r ∧ r < n) → Ev (fun k => jf.l0 k a n q r ((j : Int) - 1)) (dg (val q + (r * B ^ j + val (a.take j)) / n), (r * B ^ j + val (a.take j)) % n, 0) := by
 intro j
 induction j with
 | zero =>
  intro q r hj hql hq hz hr
  refine Ev.step (fun k => by rw [jf.l0]) (Ev.neg (by omega) (Ev.bind (jCt hq (by omega)) (Ev.eq (Ev.now _) ?_)))
  rw [List.take_zero, qg, Int.pow_zero, Int.mul_one, Int.add_zero, Int.ediv_eq_zero_of_lt hr.1 hr.2, Int.emod_eq_of_lt hr.1 hr.2, Int.add_zero]
 | succ j ih =>
  intro q r hj hql hq hz hr
  obtain ⟨hz1, hz2⟩ := jLa hq hz
  have hj1 : j < q.length := by omega
  have hzj := hz2 hj1
  have haj := ha.at j
  have e : (((j + 1 : Nat) : Int) - 1) = (j : Int) := by omega
  have hd := jIh hr.1 hr.2 haj hnB
  have hlt := jIg hr.1 hr.2 haj
  have hge : 0 ≤ (r * B + a.getD j 0) / n := Int.ediv_nonneg (by have := Int.mul_nonneg hr.1 (Int.le_of_lt jBP); omega) (by omega)
  have hm0 := Int.emod_nonneg (r * B + a.getD j 0) (Int.ne_of_gt h0)
  have hm1 := Int.emod_lt_of_pos (r * B + a.getD j 0) h0
  have hdm := Int.mul_ediv_add_emod (r * B + a.getD j 0) n
  rw [e]
  refine Ev.step (fun k => by rw [jf.l0, jBp]) (Ev.pos (by omega) (Ev.pos (by omega) (Ev.pos (by omega) (Ev.bind hd ?_))))
  refine Ev.pos (c := (j : Int) < (q.length : Int)) (by omega) ?_
  rw [w64 (by omega), Int.toNat_natCast]
  have hq' := hq.set j hge hlt
  have hv : val (q.set j ((r * B + a.getD j 0) / n)) = val q + B ^ j * ((r * B + a.getD j 0) / n) := by rw [jBw hj1, hzj, Int.sub_zero]
  have ht : val ((q.set j ((r * B + a.getD j 0) / n)).take j) = 0 := by rw [List.take_set_of_le (Nat.le_refl j)]; exact hz1
  refine Ev.eq (ih _ _ (by omega) (by rw [List.length_set]; exact hql) hq' ht ⟨hm0, hm1⟩) ?_
  have hja : j < a.length := by omega
  obtain ⟨c1, c2⟩ := jLL (P := B ^ j) (T := val (a.take j)) h0 hdm.symm (Int.le_of_lt (zX j))
  rw [hv, jAU hja, zP, c1, c2, Int.add_assoc]
theorem jML {a : List Int} (ha : Ok a) {n : Int} (h0 : 0 ≤ n) (hnB : n < B) : Ev (fun k => jf.f k a n) (jKC a n) := by
 unfold jf.f jKC
 refine Ev.vI (jCZ a) ?_
 by_cases hh : Held a
 ·
  rw [if_pos hh]
  refine Ev.pos (decide_eq_true hh) ?_
  by_cases hn : n = 0
  ·
   rw [if_pos hn]; exact Ev.pos hn (Ev.now _)
  ·
   rw [if_neg hn]
   have hl := hh.1
   refine Ev.neg hn (Ev.pos (by omega) (Ev.pos (by omega) ?_))
   rw [Int.toNat_natCast, w64 (by omega)]
   have := jMK ha (by omega) (by omega) hnB a.length (List.replicate a.length 0) 0 (Nat.le_refl _) List.length_replicate (Ok.rep _) (by rw [List.take_of_length_le (by simp)]; exact jBR _) ⟨Int.le_refl _, by omega⟩
   rw [jBR, List.take_length, Int.zero_mul, Int.zero_add, Int.zero_add] at this
   exact this
 ·
  rw [if_neg hh]
  exact Ev.neg (by simpa using hh) (Ev.now _)
theorem jHF {l : List Int} {i : Nat} (x : List Int) (h : i ≤ l.length) : (Go.splice l i x).take i = l.take i := by
 unfold Go.splice
 rw [List.take_append_of_le_length (by rw [List.length_take]; omega), List.take_take, Nat.min_self]
theorem jHG {l : List Int} {i : Nat} (x : List Int) (h : i ≤ l.length) : (Go.splice l i x).drop i = x ++ l.drop (i + x.length) := by
 unfold Go.splice
 rw [List.drop_append_of_le_length (by rw [List.length_take]; omega), List.drop_eq_nil_of_le (by rw [List.length_take]; omega), List.nil_append]
theorem jKB {l x : List Int} {i : Nat} (hl : Ok l) (hx : Ok x) : Ok (Go.splice l i x) := by
 unfold Go.splice
 exact (hl.take _).append (hx.append (hl.drop _))
theorem drop_zero {l : List Int} (hl : Ok l) {n : Nat} (h : val l < B ^ n) (hn : n ≤ l.length) : val (l.drop n) = 0 := by
 have e := vG l n hn
 have h1 := jc (hl.take n)
 have h2 := jc (hl.drop n)
 rcases Int.lt_or_le 0 (val (l.drop n)) with h3 | h3
 ·
  have : B ^ n * 1 ≤ B ^ n * val (l.drop n) := Int.mul_le_mul_of_nonneg_left (by omega) (Int.le_of_lt (zX n))
  omega
 ·
  omega
theorem jOl {u q : List Int} (hu : Ok u) (hul : u.length ≤ 1000) (hq : Ok q) (hql : q.length ≤ 1000) {V : Int} (hV : val u < V) {s : Nat} (hs : s ≤ 63) : Ev (fun k => (vC.f k q).bind fun t => (jD.f k u (wrap64 (-(s : Int)))).bind fun r => some (t, r, (0 : Int))) (dg ((val u + V * val q) / V), dg ((val u + V * val q) % V / 2 ^ s), 0) := by
 have h0 := jc hu
 have hVp : 0 < V := by omega
 rw [Int.add_mul_ediv_left _ _ (Int.ne_of_gt hVp), Int.add_mul_emod_self_left, Int.ediv_eq_zero_of_lt h0 hV, Int.emod_eq_of_lt h0 hV, Int.zero_add, w64 (by omega)]
 refine Ev.bind (jCt hq (by omega)) ?_
 have hsh : Ev (fun k => jD.f k u (-(s : Int))) (dg (val u / 2 ^ s)) := by
  by_cases hz : s = 0
  ·
   subst hz
   have := jDa hu (by omega) (n := 0) (Int.le_refl _)
   simpa using this
  ·
   have := jKE hu (by omega) (n := -(s : Int)) (by omega)
   rw [show (-(-(s : Int))).toNat = s from by omega] at this
   exact this
 exact Ev.bind hsh (Ev.now _)
theorem jJm {u W : List Int} {j n : Nat} (h : j + n + 1 ≤ u.length) (hW : (u.take (j + n + 1)).drop j = W) : W.length = n + 1 ∧ u.drop j = W ++ u.drop (j + (n + 1)) := by
 constructor
 ·
  rw [← hW, List.length_drop, List.length_take]; omega
 ·
  rw [← hW, List.drop_take, ← List.drop_drop, show j + n + 1 - j = n + 1 from by omega, List.take_append_drop]
theorem jPb {x y : Int} (hy : 0 < y) (hx : 0 ≤ x) : x % y ≤ x := by
 have h1 := Int.mul_nonneg (Int.le_of_lt hy) (Int.ediv_nonneg hx (Int.le_of_lt hy))
 have h2 := Int.mul_ediv_add_emod x y
 omega
theorem jPw {j n m : Nat} (h : j + n + 1 ≤ m) (hm : m ≤ 900) : mn (wrap64 (wrap64 ((j : Int) + (n : Int)) + 1)) (m : Int) = ((j + n + 1 : Nat) : Int) := by
 rw [w64 (x := (j : Int) + (n : Int)) (by omega), w64 (by omega)]
 unfold mn
 split <;> omega
theorem jOj {u v q : List Int} {s : Int} {j : Nat} (hmn : mn (wrap64 (wrap64 ((j : Int) + (v.length : Int)) + 1)) (u.length : Int) = ((j + v.length + 1 : Nat) : Int)) (hj : j < q.length) (hu : j + v.length + 1 ≤ u.length) (hq : q.length ≤ 1000) (k : Nat) : jX.l0 (k + 1) s u v q (j : Int) = (jS.f k ((u.take (j + v.length + 1)).drop j) v).bind fun t => jX.l0 k s (Go.splice u j t.2) v (q.set j t.1) ((j : Int) - 1) := by
 have c0 : (j : Int) ≥ 0 := by omega
 have c1 : (0 : Int) ≤ (j : Int) := by omega
 have c2 : (j : Int) ≤ ((j + v.length + 1 : Nat) : Int) := by omega
 have c3 : ((j + v.length + 1 : Nat) : Int) ≤ (u.length : Int) := by omega
 have c4 : (j : Int) < (q.length : Int) := by omega
 have hw : wrap64 ((j : Int) - 1) = (j : Int) - 1 := w64 (by omega)
 rw [jX.l0, hmn, if_pos c0, if_pos c1, if_pos c2, if_pos c3]
 simp only [if_pos c4, Int.toNat_natCast, hw]
theorem jOk {v : List Int} (hv : Ok v) (hvl : v.length ≤ 900) (hv0 : 0 < v.length) (hvt : 0 < v.getD (v.length - 1) 0) {s : Nat} (hs : s ≤ 63) : ∀ (j : Nat) (u q : List Int), j = j → Ok u → Ok q → u.length ≤ 900 → q.length + v.length = u.length → j ≤ q.length → val (q.take j) = 0 → val (u.drop j) < val v → Ev (fun k => jX.l0 k (s : Int) u v q ((j : Int) - 1)) (dg ((val u + val v * val q) / val v), dg ((val u + val v * val q) % val v / 2 ^ s), 0) := by
 intro j
 induction j with
 | zero =>
  intro u q _ hu hq hul hl hj hz hlt
  refine Ev.step (fun k => by rw [jX.l0]) (Ev.neg (by omega) ?_)
  exact jOl hu (by omega) hq (by omega) (by simpa using hlt) hs
 | succ j ih =>
  intro u q _ hu hq hul hl hj hz hlt
  obtain ⟨hz1, hz2⟩ := jLa hq hz
  have hj1 : j < q.length := by omega
  have hzj := hz2 hj1
  have hju : j < u.length := by omega
  have e : (((j + 1 : Nat) : Int) - 1) = (j : Int) := by omega
  have hu1 : j + v.length + 1 ≤ u.length := by omega
  have hstp := jOj (s := (s : Int)) (jPw hu1 hul) hj1 hu1 (by omega)
  have hV0 := jc hv
  have hwd : ∃ W, (u.take (j + v.length + 1)).drop j = W := ⟨_, rfl⟩
  obtain ⟨W, hW⟩ := hwd
  obtain ⟨hWl, hWd⟩ := jJm (u := u) (j := j) (n := v.length) (by omega) hW
  have hWo : Ok W := by rw [← hW]; exact (hu.take _).drop _
  have hup := drop_zero (hu.drop (j + 1)) (n := v.length) (Int.lt_trans hlt (jAJ hv)) (by rw [List.length_drop]; omega)
  rw [List.drop_drop, show j + 1 + v.length = j + (v.length + 1) from by omega] at hup
  have hWv : val W = val (u.drop j) := by rw [hWd, val_append, hup, Int.mul_zero, Int.add_zero]
  have hWlt : val W < val v * B := by
   rw [hWv, qV hju]
   have h1 := (hu.at j).2
   have h2 : B * (val (u.drop (j + 1)) + 1) ≤ B * val v := Int.mul_le_mul_of_nonneg_left (by omega) (Int.le_of_lt jBP)
   rw [Int.mul_add, Int.mul_comm B (val v)] at h2
   omega
  have hd := jMv hWo hv hWl hvl hv0 hvt hWlt
  have hVpos : 0 < val v := by
   rcases Int.lt_or_le 0 (val v) with h | h
   ·
    exact h
   ·
    have h0 : val v = 0 := by omega
    rw [h0, Int.zero_mul] at hWlt
    have := jc hWo
    omega
  have hQ0 : 0 ≤ val W / val v := Int.ediv_nonneg (jc hWo) hV0
  have hQB : val W / val v < B := Int.ediv_lt_of_lt_mul hVpos (by rw [Int.mul_comm]; exact hWlt)
  have hR0 := Int.emod_nonneg (val W) (Int.ne_of_gt hVpos)
  have hR1 := Int.emod_lt_of_pos (val W) hVpos
  have hpl : (jFN W.length (dg (val W % val v))).length = W.length := jKT (jBu (Int.lt_of_le_of_lt (jPb hVpos (jc hWo)) (jAJ hWo)))
  rw [e]
  rw [hW] at hstp
  refine Ev.step hstp (Ev.bind hd ?_)
  generalize hP : jFN W.length (dg (val W % val v)) = P at hpl
  have hPv : val P = val W % val v := by rw [← hP, jKS, qh hR0]
  have hPo : Ok P := by rw [← hP]; exact jMY (jAs _)
  have hu' : Ok (Go.splice u j P) := jKB hu hPo
  have hul' : (Go.splice u j P).length = u.length := Go.length_splice u j P (by omega)
  have hdr : val ((Go.splice u j P).drop j) = val W % val v := by
   rw [jHG P (by omega), val_append, hPv, hpl, hWl, hup, Int.mul_zero, Int.add_zero]
  have hval' : val (Go.splice u j P) + B ^ j * (val v * (val W / val v)) = val u := by
   have e1 := vG (Go.splice u j P) j (by omega)
   have e2 := vG u j (by omega)
   rw [jHF P (by omega), hdr] at e1
   rw [e1, e2, ← hWv, Int.add_assoc, ← Int.mul_add, Int.add_comm (val W % val v), Int.mul_ediv_add_emod]
  have hv' : val (q.set j (val W / val v)) = val q + B ^ j * (val W / val v) := by rw [jBw hj1, hzj, Int.sub_zero]
  have ht : val ((q.set j (val W / val v)).take j) = 0 := by rw [List.take_set_of_le (Nat.le_refl j)]; exact hz1
  have hfin : val (Go.splice u j P) + val v * val (q.set j (val W / val v)) = val u + val v * val q := by
   rw [hv', Int.mul_add, ← hval', ← Int.mul_assoc (val v), Int.mul_comm (val v) (B ^ j), Int.mul_assoc (B ^ j)]
   omega
  have := ih (Go.splice u j P) (q.set j (val W / val v)) rfl hu' (hq.set j hQ0 hQB) (by omega) (by rw [List.length_set]; omega) (by rw [List.length_set]; omega) ht (by rw [hdr]; exact hR1)
  rw [hfin] at this
  exact this
theorem jQf {a b : List Int} (ha : Ok a) (hb : Ok b) : Ev (fun k => jX.f k a b) (divd a b) := by
 unfold jX.f divd
 refine Ev.vI (jCZ a) ?_
 by_cases hha : Held a
 ·
  by_cases hhb : Held b
  ·
   rw [if_pos ⟨hha, hhb⟩]
   refine Ev.pos (decide_eq_true hha) (Ev.vI (jCZ b) ?_)
   rw [decide_eq_true hhb]
   refine Ev.step (fun k => by rw [jX.j0]) (Ev.neg (by simp) ?_)
   have hal := hha.1
   have hbl := hhb.1
   have ha0 := jc ha
   have hb0 := jc hb
   by_cases h0 : b.length = 0
   ·
    have hbn : b = [] := List.eq_nil_of_length_eq_zero h0
    subst hbn
    rw [if_pos qg]
    exact Ev.pos (by simp) (Ev.now _)
   ·
    have hbt : b.getD (b.length - 1) 0 ≠ 0 := by
     rcases hhb.2 with h | h
     ·
      subst h; simp at h0
     ·
      exact h
    have hbtp : 0 < b.getD (b.length - 1) 0 := by have := (hb.at (b.length - 1)).1; omega
    have hbv : 0 < val b := by
     have e := vG b (b.length - 1) (by omega)
     rw [qV (by omega), List.drop_eq_nil_of_le (by omega), qg, Int.mul_zero, Int.add_zero] at e
     have h1 := jc (hb.take (b.length - 1))
     have h2 := Int.mul_pos (zX (b.length - 1)) hbtp
     omega
    rw [if_neg (Int.ne_of_gt hbv)]
    refine Ev.neg (by omega) ?_
    by_cases h1 : b.length = 1
    ·
     obtain ⟨b0, hb1⟩ : ∃ b0, b = [b0] := by
      match b, h1 with
      | [b0], _ => exact ⟨b0, rfl⟩
     subst hb1
     have hbo := hb.at 0
     have hs := jML ha (n := b0) hbo.1 hbo.2
     have hbz : b0 ≠ 0 := hbt
     unfold jKC at hs
     rw [if_pos hha, if_neg hbz] at hs
     have hb0' : 0 < b0 := by have := hbo.1; have e : [b0].getD 0 0 = b0 := rfl; rw [e] at this; omega
     have hm0 := Int.emod_nonneg (val a) hbz
     have hm1 := Int.emod_lt_of_pos (val a) hb0'
     have hbB : b0 < B := hbo.2
     refine Ev.pos (by simp) (Ev.pos (by simp) (Ev.bind hs (Ev.vI (of_eq (n := val a % b0) ⟨hm0, by omega⟩) (Ev.eq (Ev.now _) ?_))))
     rw [val_one]
    ·
     refine Ev.neg (by omega) (Ev.bind (jLI ha hb (by omega) (by omega)) ?_)
     by_cases hc : val a < val b
     ·
      refine Ev.pos (jDL.2 hc) (Ev.bind (jCt ha (by omega)) (Ev.eq (Ev.now _) ?_))
      rw [Int.ediv_eq_zero_of_lt ha0 hc, Int.emod_eq_of_lt ha0 hc, jBd]
     ·
      refine Ev.neg (fun h => hc (jDL.1 h)) ?_
      have hwl : wrap64 ((b.length : Int) - 1) = ((b.length - 1 : Nat) : Int) := by rw [w64 (by omega)]; omega
      rw [hwl, jBp]
      refine Ev.pos (by omega) (Ev.pos (by omega) ?_)
      obtain ⟨s, hs, he, _, _, _⟩ := jKk hbtp (hb.at _).2
      refine Ev.vI he ?_
      have hp := two_pos s
      have hsa := jDa ha (by omega) (n := (s : Int)) (by omega)
      have hsb := jDa hb (by omega) (n := (s : Int)) (by omega)
      rw [Int.toNat_natCast, Nat.min_eq_left (by omega)] at hsa hsb
      have hUV : val b * 2 ^ s ≤ val a * 2 ^ s := Int.mul_le_mul_of_nonneg_right (by omega) (Int.le_of_lt hp)
      have hVp : 0 < val b * 2 ^ s := Int.mul_pos hbv hp
      have hB2 : (2 : Int) ^ s ≤ B := jCN (by omega)
      have hlenU : (dg (val a * 2 ^ s)).length ≤ 9 := by
       refine jBu ?_
       have h1 := jAJ ha
       have h2 := jAN hal
       have h3 : val a * 2 ^ s ≤ val a * B := Int.mul_le_mul_of_nonneg_left hB2 ha0
       have h4 : val a * B < B ^ 8 * B := Int.mul_lt_mul_of_pos_right (by omega) jBP
       rw [zP]
       omega
      have hlenV : (dg (val b * 2 ^ s)).length ≤ (dg (val a * 2 ^ s)).length := by
       refine jBu ?_
       have := jKj (n := val a * 2 ^ s) (Nat.le_refl _)
       omega
      have hV0 : 0 < (dg (val b * 2 ^ s)).length := by
       rcases Nat.eq_zero_or_pos (dg (val b * 2 ^ s)).length with h | h
       ·
        have := (jEu (Int.le_of_lt hVp)).1 (List.eq_nil_of_length_eq_zero h)
        omega
       ·
        exact h
      have hvt : 0 < (dg (val b * 2 ^ s)).getD ((dg (val b * 2 ^ s)).length - 1) 0 := by
       rcases jHe (val b * 2 ^ s) with h | h
       ·
        rw [h] at hV0; simp at hV0
       ·
        have := ((jAs (val b * 2 ^ s)).at ((dg (val b * 2 ^ s)).length - 1)).1; omega
      refine Ev.bind hsa ?_
      refine Ev.zf (Ev.pos (by simp; omega) (Ev.zf (Ev.bind hsb ?_)))
      have hvv := qh (Int.le_of_lt hVp)
      have huv := qh (n := val a * 2 ^ s) (by omega)
      have huo := jAs (val a * 2 ^ s)
      have hvo := jAs (val b * 2 ^ s)
      have hVlow := (jHe (val b * 2 ^ s))
      generalize hU : dg (val a * 2 ^ s) = U at *
      generalize hV : dg (val b * 2 ^ s) = V at *
      have hul2 : (U ++ [0, 0]).length = U.length + 2 := by simp
      have hwq : wrap64 (((U ++ [0, 0]).length : Int) - (V.length : Int)) = ((U.length + 2 - V.length : Nat) : Int) := by rw [w64 (by omega)]; omega
      rw [hwq, Int.toNat_natCast]
      refine Ev.pos (by omega) (Ev.pos (by omega) (Ev.zf ?_))
      rw [List.length_replicate, w64 (by omega)]
      have huo2 : Ok (U ++ [0, 0]) := huo.append (by decide)
      have huv2 : val (U ++ [0, 0]) = val a * 2 ^ s := by rw [val_append, huv]; simp [val]
      have hlow : B ^ (V.length - 1) ≤ val V := by
       have e := vG V (V.length - 1) (by omega)
       rw [qV (by omega), List.drop_eq_nil_of_le (by omega), qg, Int.mul_zero, Int.add_zero] at e
       have h1 := jc (hvo.take (V.length - 1))
       have h2 : B ^ (V.length - 1) * 1 ≤ B ^ (V.length - 1) * V.getD (V.length - 1) 0 := Int.mul_le_mul_of_nonneg_left (by omega) (Int.le_of_lt (zX _))
       omega
      have hdlt : val ((U ++ [0, 0]).drop (U.length + 2 - V.length)) < val V := by
       rcases Int.lt_or_le (val ((U ++ [0, 0]).drop (U.length + 2 - V.length))) (val V) with h | h
       ·
        exact h
       ·
        exfalso
        have e := vG (U ++ [0, 0]) (U.length + 2 - V.length) (by omega)
        have h1 := jc (huo2.take (U.length + 2 - V.length))
        have h2 : B ^ (U.length + 2 - V.length) * B ^ (V.length - 1) ≤ B ^ (U.length + 2 - V.length) * val ((U ++ [0, 0]).drop (U.length + 2 - V.length)) := Int.mul_le_mul_of_nonneg_left (by omega) (Int.le_of_lt (zX _))
        rw [← Int.pow_add, show U.length + 2 - V.length + (V.length - 1) = U.length + 1 from by omega] at h2
        have h3 := jAJ huo
        have h4 := jAN (show U.length ≤ U.length + 1 from by omega)
        omega
      have h := jOk hvo (by omega) hV0 hvt hs (U.length + 2 - V.length) (U ++ [0, 0]) (List.replicate (U.length + 2 - V.length) 0) rfl huo2 (Ok.rep _) (by omega) (by rw [List.length_replicate]; omega) (by rw [List.length_replicate]; exact Nat.le_refl _) (by rw [List.take_of_length_le (by simp)]; exact jBR _) hdlt
      rw [jBR, Int.mul_zero, Int.add_zero, huv2, hvv] at h
      obtain ⟨f1, f2⟩ := jIf (N := val a) (y := val b) (p := 2 ^ s) (Q := val a * 2 ^ s / (val b * 2 ^ s)) (r := val a * 2 ^ s % (val b * 2 ^ s)) hp hbv (by have := Int.mul_ediv_add_emod (val a * 2 ^ s) (val b * 2 ^ s); rw [Int.mul_comm (val b * 2 ^ s) (_ / _)] at this; exact this.symm) ⟨Int.emod_nonneg _ (Int.ne_of_gt hVp), Int.emod_lt_of_pos _ hVp⟩
      rw [f1, f2] at h
      exact h
  ·
   rw [if_neg (fun h => hhb h.2)]
   refine Ev.pos (decide_eq_true hha) (Ev.vI (jCZ b) ?_)
   rw [decide_eq_false hhb]
   exact Ev.step (fun k => by rw [jX.j0]) (Ev.pos (c := (!false) = true) rfl (Ev.now _))
 ·
  rw [if_neg (fun h => hha h.1)]
  refine Ev.neg (by simpa using hha) ?_
  exact Ev.step (fun k => by rw [jX.j0]) (Ev.pos rfl (Ev.now _))
end Go.Proofs.YtoganbmeedimiaaGreat.EOPressOne
end
section
set_option linter.unusedVariables false
set_option linter.unusedSimpArgs false
namespace Go.Proofs.YtoganbmeedimiaaGreat.EOPressOne
open Go.RowKit Go.Proofs.YtoganbmeedimiaaGreat.POPressOne Go.Proofs.YtoganbmeedimiaaGreatN Go.Proofs.YtoganbmeedimiaaGreatW.PrintWords Go.Proofs.YtoganbmeedimiaaGreatW.PrintLast Go.Proofs.YtoganbmeedimiaaGreatW.PrintMore
def gcdv (x y : Int) : Int := (Nat.gcd x.toNat y.toNat : Nat)
theorem jKt {x : Int} (h : 0 ≤ x) : gcdv x 0 = x := by unfold gcdv; simp; omega
theorem jMm {x y : Int} (hx : 0 ≤ x) (hy : 0 < y) : gcdv y (x % y) = gcdv x y := by
 unfold gcdv
 obtain ⟨n, rfl⟩ := Int.eq_ofNat_of_zero_le hx
 obtain ⟨m, rfl⟩ := Int.eq_ofNat_of_zero_le (Int.le_of_lt hy)
 rw [← Int.natCast_emod, Int.toNat_natCast, Int.toNat_natCast, Int.toNat_natCast, Nat.gcd_comm m, ← Nat.gcd_rec, Nat.gcd_comm]
theorem jHX (x y : Int) : 0 ≤ gcdv x y := by unfold gcdv; omega
theorem jMn {x y : Int} (hx : 0 ≤ x) (hy : 0 ≤ y) : gcdv x y ∣ x ∧ gcdv x y ∣ y := by
 unfold gcdv
 have h1 := Nat.gcd_dvd_left x.toNat y.toNat
 have h2 := Nat.gcd_dvd_right x.toNat y.toNat
 constructor
 ·
  have := Int.natCast_dvd_natCast.2 h1
  rwa [Int.toNat_of_nonneg hx] at this
 ·
  have := Int.natCast_dvd_natCast.2 h2
  rwa [Int.toNat_of_nonneg hy] at this
theorem jOc {x y : Int} (hx : 0 ≤ x) (hy : 0 ≤ y) {M : Int} (h1 : x < M) (h2 : y < M) : gcdv x y < M := by
 by_cases hz : x = 0
 ·
  subst hz
  unfold gcdv
  rw [Int.toNat_zero, Nat.gcd_zero_left]
  omega
 ·
  have := Int.le_of_dvd (by omega) (jMn hx hy).1
  omega
def gcdd (a b : List Int) : List Int × Int := if Held a ∧ Held b then (dg (gcdv (val a) (val b)), 0) else ([], 1)
theorem jOi {x y : Int} (hx : 0 ≤ x) (hy : 0 < y) (hx8 : x < B ^ 8) (hy8 : y < B ^ 8) : divd (dg x) (dg y) = (dg (x / y), dg (x % y), 0) := by
 unfold divd
 rw [if_pos ⟨jEq hx8, jEq hy8⟩, qh hx, qh (Int.le_of_lt hy), if_neg (Int.ne_of_gt hy)]
theorem jHS {y : Int} (hy : 0 ≤ y) : ((dg y).length : Int) > 0 ↔ y ≠ 0 := by
 have := jLC hy
 constructor
 ·
  intro h e; have := this.2 e; omega
 ·
  intro h; rcases Nat.eq_zero_or_pos (dg y).length with h0 | h0
  ·
   exact absurd (this.1 (by omega)) h
  ·
   omega
theorem jQR : ∀ (n : Nat) (x y : Int), y.toNat = n → 0 ≤ x → 0 ≤ y → x < B ^ 8 → y < B ^ 8 → Ev (fun k => je.l0 k (dg x) (dg y)) (dg (gcdv x y), 0) := by
 intro n
 induction n using Nat.strongRecOn with
 | _ n ih =>
  intro x y hn hx hy hx8 hy8
  by_cases hz : y = 0
  ·
   subst hz
   rw [jKt hx]
   exact Ev.step (fun k => by rw [je.l0]) (Ev.neg (mt (jHS (Int.le_refl 0)).1 (by simp)) (Ev.now _))
  ·
   have hyp : 0 < y := by omega
   have h1 := Int.emod_nonneg x hz
   have h2 := Int.emod_lt_of_pos x hyp
   have hd := jQf (jAs x) (jAs y)
   rw [jOi hx hyp hx8 hy8] at hd
   refine Ev.step (fun k => by rw [je.l0]) (Ev.pos ((jHS hy).2 hz) (Ev.bind hd ?_))
   rw [← jMm hx hyp]
   exact ih (x % y).toNat (by omega) y (x % y) rfl hy h1 hy8 (by omega)
theorem jIc {a : List Int} (ha : Ok a) (h : Held a) : 0 ≤ val a ∧ val a < B ^ 8 := ⟨jc ha, by have := jAJ ha; have := jAN h.1; omega⟩
theorem jQS {a b : List Int} (ha : Ok a) (hb : Ok b) : Ev (fun k => je.f k a b) (gcdd a b) := by
 unfold je.f gcdd
 refine Ev.vI (jCZ a) ?_
 by_cases hha : Held a
 ·
  by_cases hhb : Held b
  ·
   rw [if_pos ⟨hha, hhb⟩]
   refine Ev.pos (decide_eq_true hha) (Ev.vI (jCZ b) ?_)
   rw [decide_eq_true hhb]
   have va := jIc ha hha
   have vb := jIc hb hhb
   have hal := hha.1
   have hbl := hhb.1
   exact Ev.step (fun k => by rw [je.j0]) (Ev.neg (by simp) (Ev.bind (jCt ha (by omega)) (Ev.bind (jCt hb (by omega)) (jQR _ _ _ rfl va.1 vb.1 va.2 vb.2))))
  ·
   rw [if_neg (fun h => hhb h.2)]
   refine Ev.pos (decide_eq_true hha) (Ev.vI (jCZ b) ?_)
   rw [decide_eq_false hhb]
   exact Ev.step (fun k => by rw [je.j0]) (Ev.pos (c := (!false) = true) rfl (Ev.now _))
 ·
  rw [if_neg (fun h => hha h.1)]
  refine Ev.neg (by simpa using hha) ?_
  exact Ev.step (fun k => by rw [je.j0]) (Ev.pos rfl (Ev.now _))
end Go.Proofs.YtoganbmeedimiaaGreat.EOPressOne
end
section
set_option linter.unusedVariables false
set_option linter.unusedSimpArgs false
namespace Go.Proofs.YtoganbmeedimiaaGreatN
def Sm (q : Rat) (m : Nat) : Prop := q.num.natAbs < 2 ^ m ∧ q.den < 2 ^ m
theorem Sm.mono {q : Rat} {m n : Nat} (h : Sm q m) (hm : m ≤ n) : Sm q n := by
 have := Nat.pow_le_pow_right (n := 2) (by decide) hm
 exact ⟨Nat.lt_of_lt_of_le h.1 this, Nat.lt_of_lt_of_le h.2 this⟩
theorem jBB {a b m n : Nat} (h1 : a < 2 ^ m) (h2 : b < 2 ^ n) : a * b < 2 ^ (m + n) := by
 rw [Nat.pow_add]
 rcases Nat.eq_zero_or_pos a with h | h
 ·
  subst h; rw [Nat.zero_mul]; exact Nat.mul_pos (Nat.pow_pos (by decide)) (Nat.pow_pos (by decide))
 ·
  exact Nat.mul_lt_mul_of_lt_of_lt h1 h2
theorem jNX {n : Int} {d : Nat} (hd : d ≠ 0) : (mkRat n d).num = n / (Nat.gcd n.natAbs d : Nat) ∧ (mkRat n d).den = d / Nat.gcd n.natAbs d := by
 rw [← Rat.normalize_eq_mkRat hd, Rat.normalize_eq]
 exact ⟨rfl, rfl⟩
theorem jPx {n : Int} {d : Nat} (hd : d ≠ 0) : (mkRat n d).num.natAbs = n.natAbs / Nat.gcd n.natAbs d := by
 rw [(jNX hd).1, Int.natAbs_ediv_of_dvd (Int.ofNat_dvd_left.2 (Nat.gcd_dvd_left _ _)), Int.natAbs_natCast]
theorem jIW {n : Int} {d m : Nat} (hd : d ≠ 0) (h1 : n.natAbs < 2 ^ m) (h2 : d < 2 ^ m) : Sm (mkRat n d) m := by
 unfold Sm
 rw [jPx hd, (jNX hd).2]
 exact ⟨Nat.lt_of_le_of_lt (Nat.div_le_self _ _) h1, Nat.lt_of_le_of_lt (Nat.div_le_self _ _) h2⟩
theorem jCg (p q : Rat) : p + q = mkRat (p.num * q.den + q.num * p.den) (p.den * q.den) := by rw [Rat.add_def, Rat.normalize_eq_mkRat]
theorem jPq (p q : Rat) : p * q = mkRat (p.num * q.num) (p.den * q.den) := by rw [Rat.mul_def, Rat.normalize_eq_mkRat]
theorem jNc (p q : Rat) : p.den * q.den ≠ 0 := Nat.mul_ne_zero p.den_nz q.den_nz
theorem Sm.cross {p q : Rat} {m n : Nat} (hp : Sm p m) (hq : Sm q n) : p.num.natAbs * q.den < 2 ^ (m + n) ∧ q.num.natAbs * p.den < 2 ^ (m + n) ∧ p.den * q.den < 2 ^ (m + n) ∧ p.num.natAbs * q.num.natAbs < 2 ^ (m + n) := by
 refine ⟨jBB hp.1 hq.2, ?_, jBB hp.2 hq.2, jBB hp.1 hq.1⟩
 rw [Nat.add_comm m n]
 exact jBB hq.1 hp.2
theorem Sm.add {p q : Rat} {m n : Nat} (hp : Sm p m) (hq : Sm q n) : Sm (p + q) (m + n + 1) := by
 obtain ⟨h1, h2, h3, _⟩ := hp.cross hq
 rw [jCg]
 have e : (2 : Nat) ^ (m + n + 1) = 2 * 2 ^ (m + n) := by rw [Nat.pow_succ, Nat.mul_comm]
 refine jIW (jNc p q) ?_ (by omega)
 have h4 := Int.natAbs_add_le (p.num * q.den) (q.num * p.den)
 rw [Int.natAbs_mul, Int.natAbs_mul, Int.natAbs_natCast, Int.natAbs_natCast] at h4
 omega
theorem Sm.mul {p q : Rat} {m n : Nat} (hp : Sm p m) (hq : Sm q n) : Sm (p * q) (m + n) := by
 obtain ⟨_, _, h3, h4⟩ := hp.cross hq
 rw [jPq]
 exact jIW (jNc p q) (by rw [Int.natAbs_mul]; exact h4) h3
theorem Sm.neg {q : Rat} {m : Nat} (h : Sm q m) : Sm (-q) m := by
 unfold Sm at *
 rw [Rat.neg_num, Rat.neg_den, Int.natAbs_neg]
 exact h
theorem Sm.int {n : Int} {m : Nat} (h : n.natAbs < 2 ^ m) (hm : 0 < m) : Sm (n : Rat) m := ⟨h, Nat.one_lt_two_pow (by omega)⟩
end Go.Proofs.YtoganbmeedimiaaGreatN
end
section
set_option linter.unusedVariables false
set_option linter.unusedSimpArgs false
namespace Go.Proofs.YtoganbmeedimiaaGreat.EOPressOne
open Go.RowKit Go.Proofs.YtoganbmeedimiaaGreat.POPressOne Go.Proofs.YtoganbmeedimiaaGreatN Go.Proofs.YtoganbmeedimiaaGreatW.PrintWords Go.Proofs.YtoganbmeedimiaaGreatW.PrintLast Go.Proofs.YtoganbmeedimiaaGreatW.PrintMore
theorem jJU {n : Int} (h : 0 ≤ n) : decide (((dg n).length : Int) > 0) = decide (n ≠ 0) := by
 rw [decide_eq_decide]; exact jHS h
theorem jMw {n : Int} (h : 0 ≤ n) : (((dg n).length : Int) == 0) = decide (n = 0) := by
 rw [Bool.eq_iff_iff, beq_iff_eq, decide_eq_true_iff]; exact jLC h
def mayd (neg : Bool) (a b : List Int) : Bool := decide (Held a ∧ Held b ∧ val b ≠ 0 ∧ gcdv (val a) (val b) = 1 ∧ ¬ (neg = true ∧ val a = 0))
theorem jFL (neg : Bool) {a b : List Int} (ha : Ok a) (hb : Ok b) : Ev (fun k => vR.f k neg a b) (mayd neg a b) := by
 unfold vR.f mayd
 have hg := jQS ha hb
 unfold gcdd at hg
 by_cases hh : Held a ∧ Held b
 ·
  rw [if_pos hh] at hg
  refine Ev.bind hg (Ev.pos rfl ?_)
  have ea := hh.1.dg ha
  have eb := hh.2.dg hb
  have a0 := jc ha
  have b0 := jc hb
  have hlb := jJU b0
  rw [eb] at hlb
  have hla := jMw a0
  rw [ea] at hla
  by_cases hz : val b = 0
  ·
   rw [decide_eq_false (fun h => h.2.2.1 hz)]
   refine Ev.neg ?_ (Ev.now _)
   rw [hz] at hlb
   exact of_decide_eq_false (hlb.trans (by simp))
  ·
   refine Ev.pos (of_decide_eq_true (hlb.trans (decide_eq_true hz))) ?_
   have a8 : val a < B ^ 8 := by have := jAJ ha; have := jAN hh.1.1; omega
   have b8 : val b < B ^ 8 := by have := jAJ hb; have := jAN hh.2.1; omega
   have hg8 := jOc a0 b0 a8 b8
   have lg := jBu hg8
   have hc := jOK (jAs (gcdv (val a) (val b))) (b := [1]) (by decide) (by omega) (by decide)
   rw [qh (jHX _ _), val_one] at hc
   refine Ev.bind hc ?_
   have hce := jMz (gcdv (val a) (val b)) 1
   by_cases hg1 : gcdv (val a) (val b) = 1
   ·
    refine Ev.pos (by rw [← beq_iff_eq, hce]; exact decide_eq_true hg1) ?_
    cases neg with
    | true =>
     refine Ev.pos rfl (Ev.vI (a := decide (val a = 0)) (by unfold zJ.f; rw [hla]) (Ev.eq (Ev.now _) ?_))
     by_cases hv : val a = 0
     ·
      rw [decide_eq_true hv, decide_eq_false (fun h => h.2.2.2.2 ⟨rfl, hv⟩)]; rfl
     ·
      rw [decide_eq_false hv, decide_eq_true ⟨hh.1, hh.2, hz, hg1, fun h => hv h.2⟩]; rfl
    | false =>
     refine Ev.neg (by simp) (Ev.eq (Ev.now _) ?_)
     rw [decide_eq_true ⟨hh.1, hh.2, hz, hg1, fun h => Bool.noConfusion h.1⟩]
   ·
    refine Ev.neg (by rw [← beq_iff_eq, hce, decide_eq_true_iff]; exact hg1) (Ev.eq (Ev.now _) ?_)
    rw [decide_eq_false (fun h => hg1 h.2.2.2.1)]
 ·
  rw [if_neg hh] at hg
  rw [decide_eq_false (fun h => hh ⟨h.1, h.2.1⟩)]
  exact Ev.bind hg (Ev.neg (by decide) (Ev.now _))
end Go.Proofs.YtoganbmeedimiaaGreat.EOPressOne
end
section
set_option linter.unusedVariables false
set_option linter.unusedSimpArgs false
end
section
set_option linter.unusedVariables false
set_option linter.unusedSimpArgs false
end
section
set_option linter.unusedVariables false
set_option linter.unusedSimpArgs false
namespace Go.Proofs.YtoganbmeedimiaaGreat.EOPressOne
open Go.RowKit Go.Proofs.YtoganbmeedimiaaGreat.POPressOne Go.Proofs.YtoganbmeedimiaaGreatN Go.Proofs.YtoganbmeedimiaaGreatW.PrintWords Go.Proofs.YtoganbmeedimiaaGreatW.PrintLast Go.Proofs.YtoganbmeedimiaaGreatW.PrintMore
theorem jKM {n : Int} (h0 : 0 ≤ n) (h1 : n < B) : Ev (fun k => vO.f k n) (strOfNums (putB n)) := ⟨9, fun k hk => put_eq h0 h1 (by omega)⟩
theorem jGW (n : Int) : ∀ w, OctPut.lows n w = lows n w
 | 0 => rfl
 | w + 1 => by rw [OctPut.lows, lows, jGW n w]
theorem jNs {n : Int} (h0 : 0 ≤ n) (h1 : n < B) {c : Nat} (hc : c < wd n) : 0 < n / 256 ^ c := by
 have ht := jPO h0 h1 (by omega)
 have hp := jBg (wd n - 1)
 have q : n / 256 ^ (wd n - 1) ≠ 0 := fun e => by rw [e] at ht; exact ht rfl
 have q0 : 0 ≤ n / 256 ^ (wd n - 1) := Int.ediv_nonneg h0 (Int.le_of_lt hp)
 have hlo : 256 ^ (wd n - 1) ≤ n := by
  have : 1 ≤ n / 256 ^ (wd n - 1) := by omega
  rw [Int.le_ediv_iff_mul_le hp] at this
  omega
 have hle : (256 : Int) ^ c ≤ 256 ^ (wd n - 1) := by
  have h2 : (256 : Nat) ^ c ≤ 256 ^ (wd n - 1) := Nat.pow_le_pow_right (by decide) (by omega)
  have h3 : ∀ m : Nat, (256 : Int) ^ m = ((256 ^ m : Nat) : Int) := fun m => by rw [Int.natCast_pow]; rfl
  rw [h3, h3]
  exact Int.ofNat_le.2 h2
 have : 1 ≤ n / 256 ^ c := by
  rw [Int.le_ediv_iff_mul_le (jBg c)]
  omega
 omega
def putN (l : List Int) : ByteArray × Int := if Held l then (OctPut.puts (strOfNums (putB (l.length : Int))) l.reverse, 0) else ({ data := #[] }, 1)
theorem jDX {m : Nat} (h : m ≤ 1000) : (m : Int) < B := by rw [B_eq]; omega
theorem jCS (l : List Int) : (putN l).1.size ≤ 100 := by
 unfold putN
 by_cases h : Held l
 ·
  rw [if_pos h]
  have h8 := h.1
  have hw := jIx (jDX (m := l.length) (by omega))
  show (OctPut.puts _ _).size ≤ 100
  rw [OctPut.jDi, zq, jCT, List.length_reverse]; omega
 ·
  rw [if_neg h]; decide
theorem jFM (l : List Int) : Ev (fun k => jy.f k l) (putN l) := by
 unfold jy.f putN
 refine Ev.vI (jCZ l) ?_
 by_cases h : Held l
 ·
  rw [if_pos h]
  have h8 := h.1
  have hb := jDX (m := l.length) (by omega)
  have hw := jIx hb
  refine Ev.pos (decide_eq_true h) (Ev.bind (jKM (n := (l.length : Int)) (by omega) hb) (Ev.pos ⟨by rw [zq, jCT]; omega, h8⟩ (Ev.now _)))
 ·
  rw [if_neg h]
  exact Ev.neg (fun q => h (of_decide_eq_true q)) (Ev.now _)
def putR (neg : Bool) (a b : List Int) : ByteArray × Int := if mayd neg a b = true then (strOfNums [if neg = true then 1 else 0] ++ (putN a).1 ++ (putN b).1, 0) else ({ data := #[] }, 1)
theorem jOF (neg : Bool) {a b : List Int} (ha : Ok a) (hb : Ok b) : Ev (fun k => qc.f k neg a b) (putR neg a b) := by
 unfold qc.f putR
 have s1 := jCS a
 have s2 := jCS b
 refine Ev.bind (jFL neg ha hb) ?_
 by_cases hm : mayd neg a b = true
 ·
  rw [if_pos hm]
  refine Ev.pos hm ?_
  cases neg with
  | true =>
   refine Ev.pos rfl (Ev.bind (jFM a) (Ev.bind (jFM b) (Ev.zf (Ev.pos ?_ (Ev.pos ?_ ?_)))))
   ·
    rw [zq]; show 1 + _ ≤ _; omega
   ·
    rw [ByteArray.size_append, zq]; show 1 + _ + _ ≤ _; omega
   ·
    exact Ev.now _
  | false =>
   refine Ev.neg (by decide) (Ev.bind (jFM a) (Ev.bind (jFM b) (Ev.zf (Ev.pos ?_ (Ev.pos ?_ ?_)))))
   ·
    rw [zq]; show 1 + _ ≤ _; omega
   ·
    rw [ByteArray.size_append, zq]; show 1 + _ + _ ≤ _; omega
   ·
    exact Ev.now _
 ·
  rw [if_neg hm]
  exact Ev.neg hm (Ev.now _)
def putT (s : ByteArray) : ByteArray := strOfNums (putB (s.size : Int)) ++ s
end Go.Proofs.YtoganbmeedimiaaGreat.EOPressOne
end
section
set_option linter.unusedVariables false
set_option linter.unusedSimpArgs false
namespace Go.Proofs.YtoganbmeedimiaaGreat.EOPressOne
open Go.RowKit Go.Proofs.YtoganbmeedimiaaGreat.POPressOne Go.Proofs.YtoganbmeedimiaaGreatN Go.Proofs.YtoganbmeedimiaaGreatW.PrintWords Go.Proofs.YtoganbmeedimiaaGreatW.PrintLast Go.Proofs.YtoganbmeedimiaaGreatW.PrintMore
theorem w64p {x : Int} (h0 : 0 ≤ x) (h1 : x < 9223372036854775807) : wrap64 x = x := by unfold wrap64; omega
def OkT (x : S37) : Prop := Ok x.f0.f1 ∧ Ok x.f0.f2
def jBo (x : S37) : Bool := mayd x.f0.f0 x.f0.f1 x.f0.f2 && mays x.f1.f0 x.f1.f1 x.f1.f2 x.f1.f3
theorem jMO {x : S37} (h : OkT x) : Ev (fun k => zx.f k x.f0.f0 x.f0.f1 x.f0.f2 x.f1.f0 x.f1.f1 x.f1.f2 x.f1.f3) (jBo x) := by
 unfold zx.f jBo
 refine Ev.bind (jFL _ h.1 h.2) ?_
 cases mayd x.f0.f0 x.f0.f1 x.f0.f2 with
 | true => exact Ev.pos rfl (Ev.zf (Ev.now _))
 | false => exact Ev.neg (by decide) (Ev.now _)
def cmpT (o : Int) (x y : S37) : Int := mcmp o x.f1.f0 x.f1.f1 x.f1.f2 x.f1.f3 y.f1.f0 y.f1.f1 y.f1.f2 y.f1.f3
def jLW (o : Int) (p : Option S37) (x : S37) : Bool := match p with | none => true | some y => decide (0 < cmpT o y x)
def jCC (o : Int) : Option S37 → List S37 → Bool
 | _, [] => true
 | p, x :: t => jBo x && (!((x.f0.f1.length : Int) == 0) && (jLW o p x && jCC o (some x) t))
def mayP (o : Int) (l : List S37) : Bool := jCC o none l && (decide (0 ≤ o ∧ o ≤ 2) && decide ((l.length : Int) ≤ 60))
theorem jRb {l : List S37} {i : Nat} (h : i < l.length) : l.drop i = jC l (i : Int) :: l.drop (i + 1) := by
 rw [List.drop_eq_getElem_cons h]; congr 1; unfold jC; rw [Int.toNat_natCast, List.getD_eq_getElem?_getD, List.getElem?_eq_getElem h]; rfl
theorem memP {l : List S37} {i : Nat} (h : i < l.length) : jC l (i : Int) ∈ l := by
 unfold jC; rw [Int.toNat_natCast, List.getD_eq_getElem?_getD, List.getElem?_eq_getElem h]; exact List.getElem_mem _
theorem jPy (o : Int) {l : List S37} (hl : l.length ≤ 1000000) (hok : ∀ x ∈ l, OkT x) : ∀ (d i : Nat), i + d = l.length →
  Ev (fun k => jh.l0 k o l l (l.length : Int) (i : Int)) (jCC o (if i = 0 then none else some (jC l ((i : Int) - 1))) (l.drop i) && (decide (0 ≤ o ∧ o ≤ 2) && decide ((l.length : Int) ≤ 60)))
 | 0, i, h => by
  rw [List.drop_of_length_le (by omega), jCC, Bool.true_and]
  refine Ev.step (fun k => by rw [jh.l0]) (Ev.neg (by omega) ?_)
  unfold qZ.f
  by_cases h0 : 0 ≤ o
  ·
   rw [if_pos (show o ≥ 0 from h0)]
   by_cases h2 : o ≤ 2
   ·
    rw [decide_eq_true h2, decide_eq_true (show 0 ≤ o ∧ o ≤ 2 from ⟨h0, h2⟩), Bool.true_and]
    exact Ev.zf (Ev.pos rfl (Ev.now _))
   ·
    rw [decide_eq_false h2, decide_eq_false (show ¬ (0 ≤ o ∧ o ≤ 2) from fun q => h2 q.2), Bool.false_and]
    exact Ev.zf (Ev.neg (by decide) (Ev.now _))
  ·
   rw [if_neg (show ¬ o ≥ 0 from h0), decide_eq_false (show ¬ (0 ≤ o ∧ o ≤ 2) from fun q => h0 q.1), Bool.false_and]
   exact Ev.zf (Ev.neg (by decide) (Ev.now _))
 | d + 1, i, h => by
  have hi : i < l.length := by omega
  have ih := jPy o hl hok d (i + 1) (by omega)
  rw [if_neg (show ¬ i + 1 = 0 by omega), show (((i + 1 : Nat) : Int) - 1) = (i : Int) by omega] at ih
  have hw : wrap64 ((i : Int) + 1) = ((i + 1 : Nat) : Int) := by rw [w64p (by omega) (by omega)]; omega
  rw [jRb hi, jCC]
  refine Ev.step (fun k => by rw [jh.l0]) (Ev.pos (by omega) (Ev.pos (by omega) (Ev.pos (by omega) (Ev.bind (jMO (hok _ (memP hi))) ?_))))
  rw [hw]
  generalize hx : jC l (i : Int) = x at ih ⊢
  cases jBo x with
  | false => exact Ev.neg (by decide) (Ev.now _)
  | true =>
   refine Ev.pos rfl ?_
   rw [Bool.true_and]
   unfold zJ.f
   refine Ev.zf ?_
   cases ((x.f0.f1.length : Int) == 0) with
   | true => exact Ev.pos rfl (Ev.now _)
   | false =>
    refine Ev.neg (by decide) ?_
    rw [Bool.not_false, Bool.true_and]
    by_cases h0 : i = 0
    ·
     subst h0
     rw [if_pos rfl]
     dsimp only [jLW]
     rw [Bool.true_and]
     exact Ev.neg (by decide) ih
    ·
     rw [if_neg h0]
     have hw1 : wrap64 ((i : Int) - 1) = (i : Int) - 1 := w64p (by omega) (by omega)
     refine Ev.pos (by omega) (Ev.pos (by rw [hw1]; omega) (Ev.pos (by rw [hw1]; omega) ?_))
     rw [hw1]
     unfold jBC.f
     refine Ev.zf ?_
     dsimp only [jLW]
     generalize jC l ((i : Int) - 1) = y
     change Ev (fun k => if cmpT o y x ≤ 0 then _ else _) _
     by_cases hc : cmpT o y x ≤ 0
     ·
      rw [decide_eq_false (show ¬ 0 < cmpT o y x by omega), Bool.false_and]
      exact Ev.pos hc (Ev.now _)
     ·
      rw [decide_eq_true (show 0 < cmpT o y x by omega), Bool.true_and]
      exact Ev.neg hc ih
theorem jIX (o : Int) {l : List S37} (hl : l.length ≤ 1000000) (hok : ∀ x ∈ l, OkT x) : Ev (fun k => jh.f k o l) (mayP o l) := by
 have h := jPy o hl hok l.length 0 (by omega)
 exact h
theorem jDq {o : Int} : ∀ {l : List S37} {p : Option S37}, jCC o p l = true → ∀ x ∈ l, jBo x = true ∧ x.f0.f1 ≠ []
 | [], _, _, x, hx => by cases hx
 | y :: t, p, h, x, hx => by
  rw [jCC, Bool.and_eq_true, Bool.and_eq_true, Bool.and_eq_true] at h
  obtain ⟨h1, h2, -, h4⟩ := h
  rcases List.mem_cons.1 hx with rfl | hx
  ·
   refine ⟨h1, fun e => ?_⟩
   rw [e] at h2
   simp at h2
  ·
   exact jDq h4 x hx
theorem jIY {o : Int} {l : List S37} (h : mayP o l = true) : (∀ x ∈ l, jBo x = true ∧ x.f0.f1 ≠ []) ∧ l.length ≤ 60 := by
 unfold mayP at h
 rw [Bool.and_eq_true, Bool.and_eq_true] at h
 exact ⟨jDq h.1, by have := of_decide_eq_true h.2.2; omega⟩
theorem jGI (neg : Bool) (a b : List Int) : (putR neg a b).1.size ≤ 300 := by
 unfold putR
 have s1 := jCS a
 have s2 := jCS b
 by_cases h : mayd neg a b = true
 ·
  rw [if_pos h]
  show ((strOfNums _ ++ _) ++ _).size ≤ 300
  rw [ByteArray.size_append, ByteArray.size_append, zq]
  show 1 + _ + _ ≤ _
  omega
 ·
  rw [if_neg h]; decide
def jEP (x : S37) : ByteArray := (putR x.f0.f0 x.f0.f1 x.f0.f2).1 ++ strOfNums (PutT.jJx x.f1)
theorem jEd (x : S37) : (jEP x).size ≤ 304 := by
 unfold jEP
 rw [ByteArray.size_append, zq]
 have := jGI x.f0.f0 x.f0.f1 x.f0.f2
 show _ + 4 ≤ _
 omega
theorem jOE {x : S37} (h : OkT x) (hr : jBo x = true) : Ev (fun k => PutT.putT k x) (jEP x, 0) := by
 unfold PutT.putT
 refine Ev.bind (jOF _ h.1 h.2) ?_
 have hs := jGI x.f0.f0 x.f0.f1 x.f0.f2
 have hm : mayd x.f0.f0 x.f0.f1 x.f0.f2 = true := by unfold jBo at hr; rw [Bool.and_eq_true] at hr; exact hr.1
 refine Ev.pos (by omega) (Ev.eq (Ev.now _) ?_)
 unfold jEP
 have e2 : (putR x.f0.f0 x.f0.f1 x.f0.f2).2 = 0 := by unfold putR; rw [if_pos hm]
 rw [e2]
def catB : List S37 → ByteArray → ByteArray
 | [], acc => acc
 | x :: t, acc => catB t (acc ++ jEP x)
theorem jNh : ∀ (l : List S37) (acc : ByteArray), (∀ x ∈ l, OkT x ∧ jBo x = true) → acc.size + 304 * l.length ≤ 1000000000 → Ev (fun k => AllT.jGq k l acc) (catB l acc, 0)
 | [], acc, _, _ => by
  refine Ev.congr (fun k => ?_) (Ev.now (acc, 0))
  rw [AllT.jGq]
 | x :: t, acc, h, hs => by
  have hx := h x (List.mem_cons_self ..)
  have st := jEd x
  rw [List.length_cons] at hs
  have ih := jNh t (acc ++ jEP x) (fun y hy => h y (List.mem_cons_of_mem _ hy)) (by rw [ByteArray.size_append]; omega)
  refine Ev.congr (fun k => by rw [AllT.jGq]) (Ev.bind (jOE hx.1 hx.2) ?_)
  refine Ev.neg (fun q => q rfl) (Ev.pos ?_ ih)
  show _ + (jEP x).size ≤ _
  omega
theorem u64p {n : Nat} (h : n ≤ 1000000) : IntKind.u64.wrap (n : Int) = n := by rw [IntKind.wrap_u64]; omega
theorem jOt {l : List S37} (h : ∀ x ∈ l, OkT x ∧ jBo x = true) (hl : l.length ≤ 60) : Ev (fun k => AllT.allT k l 60) (catB l (strOfNums (putB (l.length : Int))), 0) := by
 have hb := jDX (m := l.length) (by omega)
 have hw := jIx hb
 unfold AllT.allT
 refine Ev.neg (by omega) ?_
 rw [u64p (by omega)]
 refine Ev.bind (jKM (by omega) hb) (Ev.pos ?_ (jNh _ _ h ?_)) <;> rw [zq, jCT] <;> omega
def jAm (l : List S37) : ByteArray × Int := if (mayP 0 l || mayP 1 l || mayP 2 l) = true then (catB l (strOfNums (putB (l.length : Int))), 0) else ({ data := #[] }, 1)
theorem jRQ {l : List S37} (hl : l.length ≤ 1000000) (hok : ∀ x ∈ l, OkT x) : Ev (fun k => PutP.putP k l) (jAm l) := by
 unfold PutP.putP jAm
 have hall : ∀ o, mayP o l = true → Ev (fun k => AllT.allT k l 60) (catB l (strOfNums (putB (l.length : Int))), 0) := fun o ho => jOt (fun x hx => ⟨hok x hx, ((jIY ho).1 x hx).1⟩) (jIY ho).2
 refine Ev.bind (jIX 0 hl hok) ?_
 cases h0 : mayP 0 l with
 | true => exact Ev.pos rfl (hall 0 h0)
 | false =>
  refine Ev.neg (by decide) (Ev.bind (jIX 1 hl hok) ?_)
  cases h1 : mayP 1 l with
  | true => exact Ev.pos rfl (hall 1 h1)
  | false =>
   refine Ev.neg (by decide) (Ev.bind (jIX 2 hl hok) ?_)
   cases h2 : mayP 2 l with
   | true => exact Ev.pos rfl (hall 2 h2)
   | false => exact Ev.neg (by decide) (Ev.now _)
end Go.Proofs.YtoganbmeedimiaaGreat.EOPressOne
end
section
set_option linter.unusedVariables false
set_option linter.unusedSimpArgs false
namespace Go.Proofs.YtoganbmeedimiaaGreat.EOPressOne
open Go.RowKit Go.Proofs.YtoganbmeedimiaaGreat.POPressOne Go.Proofs.YtoganbmeedimiaaGreatN Go.Proofs.YtoganbmeedimiaaGreatW.PrintWords Go.Proofs.YtoganbmeedimiaaGreatW.PrintLast Go.Proofs.YtoganbmeedimiaaGreatW.PrintMore
theorem jGP {m n : Nat} (h : m ≤ n) : (256 : Int) ^ m ≤ 256 ^ n := by
 have h2 : (256 : Nat) ^ m ≤ 256 ^ n := Nat.pow_le_pow_right (by decide) h
 have h3 : ∀ m : Nat, (256 : Int) ^ m = ((256 ^ m : Nat) : Int) := fun m => by rw [Int.natCast_pow]; rfl
 rw [h3, h3]
 exact Int.ofNat_le.2 h2
theorem jIO {m : Nat} (h : m ≤ 8) : (256 : Int) ^ m ≤ B := by
 have := jGP h
 have e : (256 : Int) ^ 8 = B := by decide
 omega
theorem jNf : ∀ (l : List Int) (a : Int) (m : Nat), Bytes l → 0 ≤ a → a < 256 ^ m → m + l.length ≤ 8 → l.foldl Oct.stp a = l.foldl (fun a c => a * 256 + c) a ∧ 0 ≤ l.foldl (fun a c => a * 256 + c) a ∧ l.foldl (fun a c => a * 256 + c) a < 256 ^ (m + l.length)
 | [], a, m, _, h0, h1, _ => ⟨rfl, h0, h1⟩
 | x :: l, a, m, hb, h0, h1, h8 => by
  have hx := hb x (List.mem_cons_self ..)
  have hl : Bytes l := fun y hy => hb y (List.mem_cons_of_mem _ hy)
  rw [List.length_cons] at h8
  have hs : a * 256 + x < 256 ^ (m + 1) := by
   rw [Int.pow_succ]
   generalize (256 : Int) ^ m = p at h1 ⊢
   omega
  have hB := jIO (m := m + 1) (by omega)
  have e := jPW h0 hx (by omega)
  have r := jNf l (a * 256 + x) (m + 1) hl (by omega) hs (by omega)
  rw [List.foldl_cons, List.foldl_cons, e, List.length_cons, show m + (l.length + 1) = m + 1 + l.length by omega]
  exact r
theorem jEy {l : List Int} (hb : Bytes l) (h8 : l.length ≤ 8) : Oct.be l = unb l ∧ 0 ≤ unb l ∧ unb l < 256 ^ l.length := by
 have r := jNf l 0 0 hb (Int.le_refl _) (by decide) (by omega)
 rw [Nat.zero_add] at r
 exact r
def gotD (v : Int ⊕ (Int × ByteArray)) : Int × ByteArray × Int := match v with | .inl c => (0, { data := #[] }, c) | .inr (n, t) => (n, t, 0)
theorem jKY {s : ByteArray} (hs : s.size ≤ 1000000) : zn.f s = some (gotD (Oct.num s)) := by
 unfold zn.f
 rw [if_pos (by omega)]
 rfl
theorem jCp {s : ByteArray} {c : Int} (h : Oct.num s = .inl c) : c ≠ 0 := by
 unfold Oct.num at h
 by_cases h1 : s.size < 1
 ·
  rw [if_pos h1] at h; cases h; decide
 ·
  rw [if_neg h1] at h
  by_cases h2 : 8 < (bt s 0).toNat
  ·
   rw [if_pos h2] at h; cases h; decide
  ·
   rw [if_neg h2] at h
   by_cases h3 : s.size < 1 + (bt s 0).toNat
   ·
    rw [if_pos h3] at h; cases h; decide
   ·
    rw [if_neg h3] at h
    by_cases h4 : (bt s 0).toNat ≠ 0 ∧ bt s 1 = 0
    ·
     rw [if_pos h4] at h; cases h; decide
    ·
     rw [if_neg h4] at h; cases h
theorem jIe (x : List Int) (a p : Nat) (v : Int) (ha : a < x.length) : (x.set a v).getD p 0 = if a = p then v else x.getD p 0 := by
 rw [List.getD_eq_getElem?_getD, List.getD_eq_getElem?_getD, List.getElem?_set]
 by_cases h : a = p
 ·
  subst h; rw [if_pos rfl, if_pos rfl, if_pos ha]; rfl
 ·
  rw [if_neg h, if_neg h]
theorem jIE (l x : List Int) (hx : x.length = l.length) (h : ∀ p, p < l.length → x.getD p 0 = l.getD (l.length - 1 - p) 0) : x = l.reverse := by
 refine List.ext_getElem (by rw [List.length_reverse, hx]) (fun p h1 h2 => ?_)
 have := h p (by omega)
 rw [List.getD_eq_getElem?_getD, List.getD_eq_getElem?_getD, List.getElem?_eq_getElem h1, List.getElem?_eq_getElem (by omega)] at this
 rw [List.getElem_reverse]
 exact this
theorem jRP (l : List Int) (h8 : l.length ≤ 1000) : ∀ (d i : Nat) (x : List Int), l.length ≤ i + d → x.length = l.length → (∀ p, p < l.length → x.getD p 0 = if p < i ∨ l.length ≤ p + i then l.getD (l.length - 1 - p) 0 else l.getD p 0) → Ev (fun k => jH.l0 k x (i : Int) ((l.length : Int) - 1 - i)) l.reverse := by
 intro d
 induction d with
 | zero =>
  intro i x hi hx hp
  refine Ev.step (fun k => by rw [jH.l0]) ?_
  refine Ev.neg (by omega) (Ev.eq (Ev.now _) ?_)
  refine jIE l x hx (fun p hpl => ?_)
  rw [hp p hpl, if_pos (by omega)]
 | succ d ih =>
  intro i x hi hx hp
  refine Ev.step (fun k => by rw [jH.l0]) ?_
  by_cases hc : 2 * i + 1 < l.length
  ·
   have e1 : wrap64 ((i : Int) + 1) = ((i + 1 : Nat) : Int) := by rw [w64 (by omega)]; omega
   have e2 : wrap64 ((l.length : Int) - 1 - i - 1) = (l.length : Int) - 1 - ((i + 1 : Nat) : Int) := by
    rw [show (l.length : Int) - 1 - i - 1 = (l.length : Int) - 1 - ((i + 1 : Nat) : Int) by omega]; exact w64 (by omega)
   have e3 : (((l.length : Int) - 1 - i) : Int).toNat = l.length - 1 - i := by omega
   have r1 : rd x ((l.length : Int) - 1 - i) = x.getD (l.length - 1 - i) 0 := by unfold rd; rw [e3]
   have r2 : rd x (i : Int) = x.getD i 0 := by unfold rd; rw [Int.toNat_natCast]
   rw [e1, e2, e3, r1, r2, Int.toNat_natCast]
   refine Ev.pos (by omega) (Ev.pos (by omega) (Ev.pos (by omega) (Ev.pos (by omega) (Ev.pos (by omega) ?_))))
   refine ih (i + 1) _ (by omega) (by rw [List.length_set, List.length_set, hx]) (fun p hpl => ?_)
   rw [jIe _ _ _ _ (by rw [List.length_set]; omega), jIe _ _ _ _ (by omega)]
   have hi1 := hp i (by omega)
   rw [if_neg (by omega)] at hi1
   have hj1 := hp (l.length - 1 - i) (by omega)
   rw [if_neg (by omega)] at hj1
   by_cases q1 : l.length - 1 - i = p
   ·
    rw [if_pos q1, hi1, if_pos (by omega)]
    congr 1; omega
   ·
    rw [if_neg q1]
    by_cases q2 : i = p
    ·
     rw [if_pos q2, hj1, if_pos (by omega), q2]
    ·
     rw [if_neg q2, hp p hpl]
     by_cases q3 : p < i ∨ l.length ≤ p + i
     ·
      rw [if_pos q3, if_pos (by omega)]
     ·
      rw [if_neg q3, if_neg (by omega)]
  ·
   refine Ev.neg (by omega) (Ev.eq (Ev.now _) ?_)
   refine jIE l x hx (fun p hpl => ?_)
   rw [hp p hpl]
   by_cases q3 : p < i ∨ l.length ≤ p + i
   ·
    rw [if_pos q3]
   ·
    rw [if_neg q3]; congr 1; omega
theorem jPa (l : List Int) (h8 : l.length ≤ 1000) : Ev (fun k => jH.f k l) l.reverse := by
 unfold jH.f
 have e : wrap64 ((l.length : Int) - 1) = (l.length : Int) - 1 - ((0 : Nat) : Int) := by rw [w64 (by omega)]; omega
 rw [e]
 exact jRP l h8 l.length 0 l (by omega) rfl (fun p hp => by rw [if_neg (by omega)])
end Go.Proofs.YtoganbmeedimiaaGreat.EOPressOne
end
section
set_option linter.unusedVariables false
set_option linter.unusedSimpArgs false
namespace Go.Proofs.YtoganbmeedimiaaGreat.EOPressOne
open Go.RowKit Go.Proofs.YtoganbmeedimiaaGreat.POPressOne Go.Proofs.YtoganbmeedimiaaGreatN Go.Proofs.YtoganbmeedimiaaGreatW.PrintWords Go.Proofs.YtoganbmeedimiaaGreatW.PrintLast Go.Proofs.YtoganbmeedimiaaGreatW.PrintMore
def jFb (t : ByteArray) (i : Nat) : Int := Oct.be (bytesOf (t.extract (8 * i) (8 * i + 8)))
def jAe (t : ByteArray) (m : Nat) : List Int := ((List.range m).map (jFb t)).reverse
theorem jJW (t : ByteArray) (m : Nat) : (jAe t m).length = m := by unfold jAe; simp
theorem ok8 (x : ByteArray) (h : x.size ≤ 8) : 0 ≤ Oct.be (bytesOf x) ∧ Oct.be (bytesOf x) < B := by
 have hl : (bytesOf x).length ≤ 8 := by rw [bytesOf_length]; exact h
 obtain ⟨e, h0, h1⟩ := jEy (jCe x) hl
 have hB := jIO hl
 rw [e]
 exact ⟨h0, by omega⟩
theorem jKX (t : ByteArray) (m : Nat) : Ok (jAe t m) := by
 intro x hx
 unfold jAe at hx
 rw [List.mem_reverse] at hx
 obtain ⟨i, _, rfl⟩ := List.mem_map.1 hx
 exact ok8 _ (by rw [ByteArray.size_extract]; omega)
theorem jEw : ∀ (m : Nat) (t : ByteArray), t.size = 8 * m → OctNat.chunks m t = (List.range m).map (jFb t)
 | 0, _, _ => rfl
 | m + 1, t, h => by
  have hs : (t.extract 8 t.size).size = 8 * m := by rw [ByteArray.size_extract]; omega
  rw [OctNat.chunks, jEw m _ hs, List.range_succ_eq_map, List.map_cons, List.map_map]
  congr 1
  refine List.map_congr_left (fun i hi => ?_)
  have hi := List.mem_range.1 hi
  show jFb (t.extract 8 t.size) i = jFb t (i + 1)
  unfold jFb
  rw [ByteArray.extract_extract]
  congr 2
  congr 1
  ·
   omega
  ·
   omega
theorem jJV {m : Nat} {t : ByteArray} (h : 8 * m ≤ t.size) : (OctNat.chunks m (t.extract 0 (8 * m))).reverse = jAe t m := by
 have hs : (t.extract 0 (8 * m)).size = 8 * m := by rw [ByteArray.size_extract]; omega
 rw [jEw m _ hs]
 unfold jAe
 congr 1
 refine List.map_congr_left (fun i hi => ?_)
 have hi := List.mem_range.1 hi
 unfold jFb
 rw [ByteArray.extract_extract]
 congr 2
 congr 1
 ·
  omega
 ·
  omega
def natd (s : ByteArray) : Int ⊕ (List Int × ByteArray) := match Oct.num s with
 | .inl c => .inl c
 | .inr (n, t) => if 8 < n.toNat then .inl 62 else if t.size < 8 * n.toNat then .inl 60 else if Held (jAe t n.toNat) then .inr (jAe t n.toNat, t.extract (8 * n.toNat) t.size) else .inl 62
theorem jNW (s : ByteArray) : Ev (fun k => OctNat.nat_ k s) (natd s) := by
 unfold OctNat.nat_ natd
 cases hn : Oct.num s with
 | inl c => exact Ev.now _
 | inr p =>
  obtain ⟨n, t⟩ := p
  dsimp only
  by_cases h8 : 8 < n.toNat
  ·
   rw [if_pos h8]; exact Ev.pos h8 (Ev.now _)
  ·
   rw [if_neg h8]
   refine Ev.neg h8 ?_
   by_cases hs : t.size < 8 * n.toNat
   ·
    rw [if_pos hs]; exact Ev.pos hs (Ev.now _)
   ·
    rw [if_neg hs]
    have hr := jPa (OctNat.chunks n.toNat (t.extract 0 (8 * n.toNat))) (by rw [OctNat.jBk]; omega)
    rw [jJV (by omega)] at hr
    refine Ev.neg hs (Ev.bind hr (Ev.vI (jCZ _) (Ev.eq (Ev.now _) ?_)))
    by_cases hh : Held (jAe t n.toNat)
    ·
     rw [if_pos hh, decide_eq_true hh]; rfl
    ·
     rw [if_neg hh, decide_eq_false hh]; rfl
theorem jDn {s t : ByteArray} {l : List Int} (h : natd s = .inr (l, t)) : Ok l ∧ Held l ∧ t.size ≤ s.size := by
 unfold natd at h
 cases hn : Oct.num s with
 | inl c => rw [hn] at h; cases h
 | inr p =>
  obtain ⟨n, x⟩ := p
  have hx := Oct.jFR hn
  rw [hn] at h
  dsimp only at h
  by_cases h8 : 8 < n.toNat
  ·
   rw [if_pos h8] at h; cases h
  ·
   rw [if_neg h8] at h
   by_cases hs : x.size < 8 * n.toNat
   ·
    rw [if_pos hs] at h; cases h
   ·
    rw [if_neg hs] at h
    by_cases hh : Held (jAe x n.toNat)
    ·
     rw [if_pos hh] at h
     cases h
     exact ⟨jKX _ _, hh, by rw [ByteArray.size_extract]; omega⟩
    ·
     rw [if_neg hh] at h; cases h
theorem jIT {s : ByteArray} {c : Int} (h : natd s = .inl c) : c ≠ 0 := by
 unfold natd at h
 cases hn : Oct.num s with
 | inl c => rw [hn] at h; cases h; exact jCp hn
 | inr p =>
  obtain ⟨n, x⟩ := p
  rw [hn] at h
  dsimp only at h
  by_cases h8 : 8 < n.toNat
  ·
   rw [if_pos h8] at h; cases h; decide
  ·
   rw [if_neg h8] at h
   by_cases hs : x.size < 8 * n.toNat
   ·
    rw [if_pos hs] at h; cases h; decide
   ·
    rw [if_neg hs] at h
    by_cases hh : Held (jAe x n.toNat)
    ·
     rw [if_pos hh] at h; cases h
    ·
     rw [if_neg hh] at h; cases h; decide
def ratd (s : ByteArray) : Int ⊕ (Bool × List Int × List Int × ByteArray) :=
 if s.size < 1 then .inl 60 else if 1 < (bt s 0).toNat then .inl 62 else
 match natd (s.extract 1 s.size) with
 | .inl c => .inl c
 | .inr (a, t) => match natd t with
  | .inl c => .inl c
  | .inr (b, u) => if mayd ((bt s 0) == 1) a b = true then .inr ((bt s 0) == 1, a, b, u) else .inl 62
theorem jPc (s : ByteArray) : Ev (fun k => OctRat.rat_ k s) (ratd s) := by
 unfold OctRat.rat_ ratd
 by_cases h1 : s.size < 1
 ·
  rw [if_pos h1]; exact Ev.pos h1 (Ev.now _)
 ·
  rw [if_neg h1]
  refine Ev.neg h1 ?_
  by_cases h2 : 1 < (bt s 0).toNat
  ·
   rw [if_pos h2]; exact Ev.pos h2 (Ev.now _)
  ·
   rw [if_neg h2]
   refine Ev.neg h2 (Ev.bind (jNW _) ?_)
   cases hn : natd (s.extract 1 s.size) with
   | inl c => exact Ev.now _
   | inr p =>
    obtain ⟨a, t⟩ := p
    obtain ⟨oa, _, _⟩ := jDn hn
    dsimp only
    refine Ev.bind (jNW _) ?_
    cases hm : natd t with
    | inl c => exact Ev.now _
    | inr q =>
     obtain ⟨b, u⟩ := q
     obtain ⟨ob, _, _⟩ := jDn hm
     dsimp only
     exact Ev.bind (jFL _ oa ob) (Ev.now _)
def gotR (v : Int ⊕ (Bool × List Int × List Int × ByteArray)) : Bool × List Int × List Int × ByteArray × Int := match v with | .inl c => (false, [], [], { data := #[] }, c) | .inr (n, a, b, t) => (n, a, b, t, 0)
theorem jMb {s : ByteArray} (hs : s.size ≤ 1000000) : Ev (fun k => vv.f k s) (gotR (ratd s)) := by
 unfold vv.f
 exact Ev.pos (by omega) (Ev.bind (jPc s) (Ev.now _))
theorem jKJ {s t : ByteArray} {n : Bool} {a b : List Int} (h : ratd s = .inr (n, a, b, t)) : Ok a ∧ Ok b ∧ Held a ∧ Held b ∧ mayd n a b = true := by
 unfold ratd at h
 by_cases h1 : s.size < 1
 ·
  rw [if_pos h1] at h; cases h
 ·
  rw [if_neg h1] at h
  by_cases h2 : 1 < (bt s 0).toNat
  ·
   rw [if_pos h2] at h; cases h
  ·
   rw [if_neg h2] at h
   cases hn : natd (s.extract 1 s.size) with
   | inl c => rw [hn] at h; cases h
   | inr p =>
    obtain ⟨a', t'⟩ := p
    obtain ⟨oa, ha, _⟩ := jDn hn
    rw [hn] at h
    dsimp only at h
    cases hm : natd t' with
    | inl c => rw [hm] at h; cases h
    | inr q =>
     obtain ⟨b', u⟩ := q
     obtain ⟨ob, hb, _⟩ := jDn hm
     rw [hm] at h
     dsimp only at h
     by_cases hy : mayd ((bt s 0) == 1) a' b' = true
     ·
      rw [if_pos hy] at h; cases h; exact ⟨oa, ob, ha, hb, hy⟩
     ·
      rw [if_neg hy] at h; cases h
end Go.Proofs.YtoganbmeedimiaaGreat.EOPressOne
end
section
set_option linter.unusedVariables false
set_option linter.unusedSimpArgs false
namespace Go.Proofs.YtoganbmeedimiaaGreat.EOPressOne
open Go.RowKit Go.Proofs.YtoganbmeedimiaaGreat.POPressOne Go.Proofs.YtoganbmeedimiaaGreatN Go.Proofs.YtoganbmeedimiaaGreatW.PrintWords Go.Proofs.YtoganbmeedimiaaGreatW.PrintLast Go.Proofs.YtoganbmeedimiaaGreatW.PrintMore
def jCc : List Int → List Int
 | [] => []
 | x :: r => lows x 8 ++ jCc r
theorem jII : ∀ (l a : List Int), OctPut.puts (strOfNums a) l = strOfNums (a ++ jCc l)
 | [], a => by rw [jCc, List.append_nil]; rfl
 | x :: r, a => by
  have e : OctPut.puts (strOfNums a) (x :: r) = OctPut.puts (strOfNums a ++ strOfNums (lows x 8)) r := by
   rw [OctPut.puts, List.foldl_cons, jGW]; rfl
  rw [e, qE, jII r, jCc, List.append_assoc]
def PN (l : List Int) : List Int := putB (l.length : Int) ++ jCc l.reverse
theorem jMU {l : List Int} (h : Held l) : putN l = (strOfNums (PN l), 0) := by
 unfold putN PN
 rw [if_pos h, jII]
end Go.Proofs.YtoganbmeedimiaaGreat.EOPressOne
end
section
set_option linter.unusedVariables false
set_option linter.unusedSimpArgs false
namespace Go.Proofs.YtoganbmeedimiaaGreat.EOPressOne
open Go.RowKit Go.Proofs.YtoganbmeedimiaaGreat.POPressOne Go.Proofs.YtoganbmeedimiaaGreatN Go.Proofs.YtoganbmeedimiaaGreatW.PrintWords Go.Proofs.YtoganbmeedimiaaGreatW.PrintLast Go.Proofs.YtoganbmeedimiaaGreatW.PrintMore
theorem jGX (x m : Int) : ∀ (w k : Nat), w ≤ k → lows (x * 256 ^ k + m) w = lows m w
 | 0, _, _ => rfl
 | w + 1, k, h => by
  rw [lows, lows, jGX x m w k (by omega)]
  congr 1
  obtain ⟨d, rfl⟩ : ∃ d, k = w + (d + 1) := ⟨k - w - 1, by omega⟩
  have e : x * 256 ^ (w + (d + 1)) + m = m + x * 256 ^ d * 256 * 256 ^ w := by
   rw [Int.pow_add, Int.pow_succ, Int.mul_comm (256 ^ w), ← Int.mul_assoc, ← Int.mul_assoc]
   exact Int.add_comm _ _
  rw [e, Int.add_mul_ediv_right _ _ (Int.ne_of_gt (jBg w)), Int.add_mul_emod_self_right]
theorem jFT : ∀ (M : List Int), Bytes M → M.length ≤ 8 → lows (unb M) M.length = M
 | [], _, _ => rfl
 | x :: M, hb, h8 => by
  have hx := hb x (List.mem_cons_self ..)
  have hM : Bytes M := fun y hy => hb y (List.mem_cons_of_mem _ hy)
  rw [List.length_cons] at h8
  obtain ⟨_, u0, u1⟩ := jEy hM (by omega)
  rw [jIB, List.length_cons, lows, jGX _ _ _ _ (Nat.le_refl _), jFT M hM (by omega)]
  congr 1
  have e : (x * 256 ^ M.length + unb M) / 256 ^ M.length = x := by
   rw [Int.add_comm, Int.add_mul_ediv_right _ _ (Int.ne_of_gt (jBg _)), Int.ediv_eq_zero_of_lt u0 u1, Int.zero_add]
  rw [e, Int.emod_eq_of_lt hx.1 hx.2]
theorem jPN {M : List Int} (hb : Bytes M) (h8 : M.length ≤ 8) (ht : M = [] ∨ M.getD 0 0 ≠ 0) : wd (unb M) = M.length := by
 obtain ⟨_, u0, u1⟩ := jEy hb h8
 have hB := jIO h8
 have uB : unb M < B := by omega
 rcases Nat.lt_trichotomy (wd (unb M)) M.length with h | h | h
 ·
  exfalso
  cases M with
  | nil => rw [List.length_nil] at h; omega
  | cons x r =>
   have hx := hb x (List.mem_cons_self ..)
   have hr : Bytes r := fun y hy => hb y (List.mem_cons_of_mem _ hy)
   rw [List.length_cons] at h h8
   obtain ⟨_, r0, _⟩ := jEy hr (by omega)
   have hx1 : 1 ≤ x := by
    rcases ht with ht | ht
    ·
     cases ht
    ·
     have : x ≠ 0 := ht
     omega
   have hlo : 256 ^ r.length ≤ unb (x :: r) := by
    rw [jIB]
    have hp := jBg r.length
    have := Int.mul_le_mul_of_nonneg_right hx1 (Int.le_of_lt hp)
    omega
   have hhi := jPP u0 uB
   have := jGP (m := wd (unb (x :: r))) (n := r.length) (by omega)
   omega
 ·
  exact h
 ·
  exfalso
  have := jNs u0 uB h
  rw [Int.ediv_eq_zero_of_lt u0 u1] at this
  omega
theorem jCX {s t : ByteArray} {n : Int} (h : Oct.num s = .inr (n, t)) : 0 ≤ n ∧ n < B ∧ s = strOfNums (putB n) ++ t := by
 unfold Oct.num at h
 by_cases h1 : s.size < 1
 ·
  rw [if_pos h1] at h; cases h
 ·
  rw [if_neg h1] at h
  obtain ⟨b, hb⟩ := Int.eq_ofNat_of_zero_le (jAl s 0).1
  rw [hb, Int.toNat_natCast] at h
  by_cases h2 : 8 < b
  ·
   rw [if_pos h2] at h; cases h
  ·
   rw [if_neg h2] at h
   by_cases h3 : s.size < 1 + b
   ·
    rw [if_pos h3] at h; cases h
   ·
    rw [if_neg h3] at h
    by_cases h4 : b ≠ 0 ∧ bt s 1 = 0
    ·
     rw [if_pos h4] at h; cases h
    ·
     rw [if_neg h4] at h
     cases h
     have hL := jCe s
     have hl : (bytesOf s).length = s.size := bytesOf_length s
     have es : s = strOfNums (bytesOf s) := (jBU s).symm
     have hM : Bytes (((bytesOf s).take (1 + b)).drop 1) := (hL.take _).drop _
     have lM : (((bytesOf s).take (1 + b)).drop 1).length = b := by rw [List.length_drop, List.length_take]; omega
     have eM : bytesOf (s.extract 1 (1 + b)) = ((bytesOf s).take (1 + b)).drop 1 := by
      conv => lhs; rw [es, jAB]
      exact jEE hM
     have et : s.extract (1 + b) s.size = strOfNums ((bytesOf s).drop (1 + b)) := by
      conv => lhs; rw [es, jAB, zq, List.take_length]
     obtain ⟨ebe, u0, u1⟩ := jEy hM (by omega)
     have hB := jIO (m := b) (by omega)
     rw [lM] at u1
     have top : ((bytesOf s).take (1 + b)).drop 1 = [] ∨ (((bytesOf s).take (1 + b)).drop 1).getD 0 0 ≠ 0 := by
      by_cases h0 : b = 0
      ·
       left; exact List.eq_nil_of_length_eq_zero (by omega)
      ·
       right
       have h5 : bt s 1 ≠ 0 := fun e => h4 ⟨h0, e⟩
       have h6 : bt (strOfNums (bytesOf s)) 1 = (bytesOf s).getD 1 0 := jIi hL 1
       rw [← es] at h6
       rw [List.getD_eq_getElem?_getD, List.getElem?_drop, List.getElem?_take, if_pos (by omega), ← List.getD_eq_getElem?_getD]
       rw [← h6]
       exact h5
     rw [eM, ebe, et]
     refine ⟨u0, by omega, ?_⟩
     have ew := jPN hM (by omega) top
     rw [lM] at ew
     have el := jFT _ hM (by omega)
     rw [lM] at el
     have e0 : (bytesOf s).getD 0 0 = (b : Int) := by
      have h6 : bt (strOfNums (bytesOf s)) 0 = (bytesOf s).getD 0 0 := jIi hL 0
      rw [← es] at h6
      rw [← h6, hb]
     have ep : putB (unb (((bytesOf s).take (1 + b)).drop 1)) = (bytesOf s).take (1 + b) := by
      unfold putB
      rw [ew, el, ← e0]
      cases hbs : bytesOf s with
      | nil => rw [hbs] at hl; rw [List.length_nil] at hl; omega
      | cons y r => rw [show 1 + b = b + 1 by omega]; rfl
     rw [ep, qE, List.take_append_drop]
     exact es
theorem jGh (a c : List Int) : jCc (a ++ c) = jCc a ++ jCc c := by
 induction a with
 | nil => rfl
 | cons x r ih => rw [List.cons_append, jCc, jCc, ih, List.append_assoc]
theorem jDv (x : ByteArray) : ∀ (m : Nat), 8 * m ≤ x.size → jCc ((List.range m).map (jFb x)) = (bytesOf x).take (8 * m)
 | 0, _ => by rw [Nat.mul_zero, List.take_zero]; rfl
 | m + 1, h => by
  have hL := jCe x
  have hl : (bytesOf x).length = x.size := bytesOf_length x
  have es : x = strOfNums (bytesOf x) := (jBU x).symm
  have hM : Bytes (((bytesOf x).take (8 * m + 8)).drop (8 * m)) := (hL.take _).drop _
  have lM : (((bytesOf x).take (8 * m + 8)).drop (8 * m)).length = 8 := by rw [List.length_drop, List.length_take]; omega
  have eM : bytesOf (x.extract (8 * m) (8 * m + 8)) = ((bytesOf x).take (8 * m + 8)).drop (8 * m) := by
   conv => lhs; rw [es, jAB]
   exact jEE hM
  have ec : lows (jFb x m) 8 = ((bytesOf x).take (8 * m + 8)).drop (8 * m) := by
   unfold jFb
   have el := jFT _ hM (by omega)
   rw [lM] at el
   rw [eM, (jEy hM (by omega)).1, el]
  rw [List.range_succ, List.map_append, jGh, jDv x m (by omega), List.map_cons, List.map_nil, jCc, jCc, List.append_nil, ec, List.drop_take, show 8 * m + 8 - 8 * m = 8 by omega, show 8 * (m + 1) = 8 * m + 8 by omega, List.take_add]
theorem jGV {s t : ByteArray} {l : List Int} (h : natd s = .inr (l, t)) : s = (putN l).1 ++ t := by
 have hok := jDn h
 unfold natd at h
 cases hn : Oct.num s with
 | inl c => rw [hn] at h; cases h
 | inr p =>
  obtain ⟨n, x⟩ := p
  obtain ⟨n0, _, es⟩ := jCX hn
  rw [hn] at h
  dsimp only at h
  by_cases h8 : 8 < n.toNat
  ·
   rw [if_pos h8] at h; cases h
  ·
   rw [if_neg h8] at h
   by_cases hs : x.size < 8 * n.toNat
   ·
    rw [if_pos hs] at h; cases h
   ·
    rw [if_neg hs] at h
    by_cases hh : Held (jAe x n.toNat)
    ·
     rw [if_pos hh] at h
     cases h
     obtain ⟨m, rfl⟩ := Int.eq_ofNat_of_zero_le n0
     rw [Int.toNat_natCast] at *
     have hx : strOfNums (bytesOf x) = x := jBU x
     have e1 : jCc (jAe x m).reverse = (bytesOf x).take (8 * m) := by
      unfold jAe
      rw [List.reverse_reverse]
      exact jDv x m (by omega)
     have e2 : x.extract (8 * m) x.size = strOfNums ((bytesOf x).drop (8 * m)) := by
      conv => lhs; rw [← hx, jAB, zq, List.take_length]
     rw [jMU hok.2.1]
     show s = strOfNums (PN (jAe x m)) ++ x.extract (8 * m) x.size
     unfold PN
     rw [jJW, e1, e2, ← qE, ByteArray.append_assoc, qE ((bytesOf x).take (8 * m)), List.take_append_drop, hx]
     exact es
    ·
     rw [if_neg hh] at h; cases h
theorem jGG {s t : ByteArray} {n : Bool} {a b : List Int} (h : ratd s = .inr (n, a, b, t)) : s = (putR n a b).1 ++ t := by
 obtain ⟨oa, ob, ha, hb, hm⟩ := jKJ h
 unfold ratd at h
 by_cases h1 : s.size < 1
 ·
  rw [if_pos h1] at h; cases h
 ·
  rw [if_neg h1] at h
  by_cases h2 : 1 < (bt s 0).toNat
  ·
   rw [if_pos h2] at h; cases h
  ·
   rw [if_neg h2] at h
   cases hn : natd (s.extract 1 s.size) with
   | inl c => rw [hn] at h; cases h
   | inr p =>
    obtain ⟨a', t'⟩ := p
    rw [hn] at h
    dsimp only at h
    cases hq : natd t' with
    | inl c => rw [hq] at h; cases h
    | inr q =>
     obtain ⟨b', u⟩ := q
     rw [hq] at h
     dsimp only at h
     by_cases hy : mayd ((bt s 0) == 1) a' b' = true
     ·
      rw [if_pos hy] at h
      cases h
      have e1 := jGV hn
      have e2 := jGV hq
      have hr := jAl s 0
      have hL := jCe s
      have hl : (bytesOf s).length = s.size := bytesOf_length s
      have es : strOfNums (bytesOf s) = s := jBU s
      have h6 : bt s 0 = (bytesOf s).getD 0 0 := by
       have := jIi hL 0
       rw [es] at this
       exact this
      have esg : (if ((bt s 0) == 1) = true then (1 : Int) else 0) = bt s 0 := by
       by_cases q : bt s 0 = 1
       ·
        rw [q]; rfl
       ·
        have : ((bt s 0) == 1) = false := beq_eq_false_iff_ne.2 q
        rw [this, if_neg (by decide)]; omega
      have e3 : s = strOfNums [bt s 0] ++ s.extract 1 s.size := by
       have e4 : s.extract 1 s.size = strOfNums ((bytesOf s).drop 1) := by
        conv => lhs; rw [← es, jAB, zq, List.take_length]
       rw [e4, qE, h6]
       cases hbs : bytesOf s with
       | nil => rw [hbs] at hl; rw [List.length_nil] at hl; omega
       | cons y r => rw [← es, hbs]; rfl
      unfold putR
      rw [if_pos hm, esg]
      show s = strOfNums [bt s 0] ++ (putN a).1 ++ (putN b).1 ++ t
      rw [ByteArray.append_assoc, ByteArray.append_assoc, ← e2, ← e1]
      exact e3
     ·
      rw [if_neg hy] at h; cases h
end Go.Proofs.YtoganbmeedimiaaGreat.EOPressOne
end
section
set_option linter.unusedVariables false
set_option linter.unusedSimpArgs false
namespace Go.Proofs.YtoganbmeedimiaaGreat.EOPressOne
open Go.RowKit Go.Proofs.YtoganbmeedimiaaGreat.POPressOne Go.Proofs.YtoganbmeedimiaaGreatN Go.Proofs.YtoganbmeedimiaaGreatW.PrintWords Go.Proofs.YtoganbmeedimiaaGreatW.PrintLast Go.Proofs.YtoganbmeedimiaaGreatW.PrintMore
theorem jDY {s a t : ByteArray} (h : s = a ++ t) : a.size + t.size = s.size := by rw [h, ByteArray.size_append]
theorem jIH {s : ByteArray} {c : Int} (h : ratd s = .inl c) : c ≠ 0 := by
 unfold ratd at h
 by_cases h1 : s.size < 1
 ·
  rw [if_pos h1] at h; cases h; decide
 ·
  rw [if_neg h1] at h
  by_cases h2 : 1 < (bt s 0).toNat
  ·
   rw [if_pos h2] at h; cases h; decide
  ·
   rw [if_neg h2] at h
   cases hn : natd (s.extract 1 s.size) with
   | inl c => rw [hn] at h; cases h; exact jIT hn
   | inr p =>
    obtain ⟨a', t'⟩ := p
    rw [hn] at h
    dsimp only at h
    cases hm : natd t' with
    | inl c => rw [hm] at h; cases h; exact jIT hm
    | inr q =>
     obtain ⟨b', u⟩ := q
     rw [hm] at h
     dsimp only at h
     by_cases hy : mayd ((bt s 0) == 1) a' b' = true
     ·
      rw [if_pos hy] at h; cases h
     ·
      rw [if_neg hy] at h; cases h; decide
def jDV (s : ByteArray) : Int ⊕ (S37 × ByteArray) := match ratd s with
 | .inl c => .inl c
 | .inr (n, a, b, t) => if t.size < 4 then .inl 60 else .inr (⟨⟨n, a, b⟩, ⟨bt t 0, bt t 1, bt t 2, bt t 3⟩⟩, t.extract 4 t.size)
def gotM (v : Int ⊕ (S37 × ByteArray)) : S37 × ByteArray × Int := match v with | .inl c => (GetT.zT, { data := #[] }, c) | .inr (x, t) => (x, t, 0)
theorem jKI {s t : ByteArray} {n : Bool} {a b : List Int} (h : ratd s = .inr (n, a, b, t)) : t.size ≤ s.size := by
 have := congrArg ByteArray.size (jGG h)
 rw [ByteArray.size_append] at this
 omega
theorem jOa {s : ByteArray} (hs : s.size ≤ 1000000) : Ev (fun k => GetT.getT k s) (gotM (jDV s)) := by
 unfold GetT.getT jDV
 have hg := jMb hs
 cases hn : ratd s with
 | inl c =>
  rw [hn] at hg
  refine Ev.bind (a := (false, [], [], (⟨#[]⟩ : ByteArray), c)) hg ?_
  exact Ev.pos (jIH hn) (Ev.now _)
 | inr p =>
  obtain ⟨n, a, b, t⟩ := p
  have hz := jKI hn
  rw [hn] at hg
  refine Ev.bind (a := (n, a, b, t, (0 : Int))) hg ?_
  refine Ev.neg (fun q => q rfl) ?_
  dsimp only
  by_cases h4 : t.size < 4
  ·
   exact Ev.pos h4 (Ev.eq (Ev.now _) (by rw [if_pos h4]; rfl))
  ·
   exact Ev.neg h4 (Ev.pos (by omega) (Ev.eq (Ev.now _) (by rw [if_neg h4]; rfl)))
theorem jFu {s : ByteArray} {c : Int} (h : jDV s = .inl c) : c ≠ 0 := by
 unfold jDV at h
 cases hn : ratd s with
 | inl c => rw [hn] at h; cases h; exact jIH hn
 | inr p =>
  obtain ⟨n, a, b, t⟩ := p
  rw [hn] at h
  dsimp only at h
  by_cases h4 : t.size < 4
  ·
   rw [if_pos h4] at h; cases h; decide
  ·
   rw [if_neg h4] at h; cases h
theorem jIj (t : ByteArray) (i : Int) : bt t i % 256 = bt t i := by have := jAl t i; omega
theorem jKv {t : ByteArray} (h : ¬ t.size < 4) : strOfNums [bt t 0, bt t 1, bt t 2, bt t 3] ++ t.extract 4 t.size = t := by
 have hL := jCe t
 have hl : (bytesOf t).length = t.size := bytesOf_length t
 have es : strOfNums (bytesOf t) = t := jBU t
 have hb : ∀ i : Nat, bt t (i : Int) = (bytesOf t).getD i 0 := fun i => by
  have := jIi hL i
  rwa [es] at this
 have h0 := hb 0
 have h1 := hb 1
 have h2 := hb 2
 have h3 := hb 3
 have e4 : t.extract 4 t.size = strOfNums ((bytesOf t).drop 4) := by
  conv => lhs; rw [← es, jAB, zq, List.take_length]
 rw [e4, qE]
 rw [show bt t 0 = (bytesOf t).getD 0 0 from h0, show bt t 1 = (bytesOf t).getD 1 0 from h1, show bt t 2 = (bytesOf t).getD 2 0 from h2, show bt t 3 = (bytesOf t).getD 3 0 from h3]
 clear h0 h1 h2 h3 hb e4
 conv => rhs; rw [← es]
 generalize bytesOf t = L at hl
 match L, hl with
 | [], hl => rw [List.length_nil] at hl; omega
 | [_], hl => simp only [List.length_cons, List.length_nil] at hl; omega
 | [_, _], hl => simp only [List.length_cons, List.length_nil] at hl; omega
 | [_, _, _], hl => simp only [List.length_cons, List.length_nil] at hl; omega
 | a :: b :: c :: d :: r, _ => rfl
theorem jEc {s t : ByteArray} {x : S37} (h : jDV s = .inr (x, t)) : s = jEP x ++ t ∧ OkT x := by
 unfold jDV at h
 cases hn : ratd s with
 | inl c => rw [hn] at h; cases h
 | inr p =>
  obtain ⟨n, a, b, u⟩ := p
  obtain ⟨oa, ob, -⟩ := jKJ hn
  have e := jGG hn
  rw [hn] at h
  dsimp only at h
  by_cases h4 : u.size < 4
  ·
   rw [if_pos h4] at h; cases h
  ·
   rw [if_neg h4] at h
   cases h
   refine ⟨?_, oa, ob⟩
   unfold jEP PutT.jJx
   dsimp only
   rw [jIj, jIj, jIj, jIj, ByteArray.append_assoc, jKv h4]
   exact e
def jCd : Nat → List S37 → ByteArray → Int ⊕ (List S37 × ByteArray)
 | 0, l, s => .inr (l, s)
 | n + 1, l, s => match jDV s with
  | .inl c => .inl c
  | .inr (x, t) => jCd n (l ++ [x]) t
def gotL {α : Type} (v : Int ⊕ (List α × ByteArray)) : List α × ByteArray × Int := match v with | .inl c => ([], { data := #[] }, c) | .inr (l, t) => (l, t, 0)
def jHY : List S37 → ByteArray
 | [] => { data := #[] }
 | x :: t => jEP x ++ jHY t
theorem jKe (s : ByteArray) : ({ data := #[] } : ByteArray) ++ s = s := ByteArray.empty_append
theorem jLe (s : ByteArray) : s ++ ({ data := #[] } : ByteArray) = s := ByteArray.append_empty
theorem jHh : ∀ (l : List S37) (acc : ByteArray), catB l acc = acc ++ jHY l
 | [], acc => (jLe acc).symm
 | x :: t, acc => by rw [catB, jHh t, jHY, ByteArray.append_assoc]
theorem jJv {s t : ByteArray} {x : S37} (h : jDV s = .inr (x, t)) : t.size ≤ s.size := by
 have := congrArg ByteArray.size (jEc h).1
 rw [ByteArray.size_append] at this
 omega
theorem jKx : ∀ (n : Nat) (l : List S37) (s : ByteArray), s.size ≤ 1000000 → Ev (fun k => EachT.jDA k n l s) (gotL (jCd n l s))
 | 0, l, s, _ => Ev.congr (fun k => by rw [EachT.jDA]) (Ev.now (l, s, (0 : Int)))
 | n + 1, l, s, hs => by
  refine Ev.congr (fun k => by rw [EachT.jDA]) (Ev.bind (jOa hs) ?_)
  rw [jCd]
  cases hn : jDV s with
  | inl c => exact Ev.pos (jFu hn) (Ev.now _)
  | inr p =>
   obtain ⟨x, t⟩ := p
   have hz := jJv hn
   exact Ev.neg (fun q => q rfl) (jKx n (l ++ [x]) t (by omega))
theorem jFY : ∀ (n : Nat) (l : List S37) (s : ByteArray) (c : Int), jCd n l s = .inl c → c ≠ 0
 | 0, l, s, c, h => by rw [jCd] at h; cases h
 | n + 1, l, s, c, h => by
  rw [jCd] at h
  cases hn : jDV s with
  | inl c => rw [hn] at h; cases h; exact jFu hn
  | inr p => rw [hn] at h; exact jFY n _ _ c h
theorem jEA : ∀ (n : Nat) (l : List S37) (s : ByteArray) (l' : List S37) (t : ByteArray), jCd n l s = .inr (l', t) → ∃ m, l' = l ++ m ∧ m.length = n ∧ s = jHY m ++ t ∧ ∀ x ∈ m, OkT x
 | 0, l, s, l', t, h => by
  rw [jCd] at h; cases h
  exact ⟨[], (List.append_nil _).symm, rfl, (jKe _).symm, fun x hx => by cases hx⟩
 | n + 1, l, s, l', t, h => by
  rw [jCd] at h
  cases hn : jDV s with
  | inl c => rw [hn] at h; cases h
  | inr p =>
   obtain ⟨x, u⟩ := p
   rw [hn] at h
   obtain ⟨e, ox⟩ := jEc hn
   obtain ⟨m, h1, h2, h3, h4⟩ := jEA n _ _ _ _ h
   refine ⟨x :: m, by rw [h1, List.append_assoc]; rfl, by rw [List.length_cons, h2], by rw [jHY, ByteArray.append_assoc, ← h3]; exact e, fun y hy => ?_⟩
   rcases List.mem_cons.1 hy with rfl | hy
   ·
    exact ox
   ·
    exact h4 y hy
def jDj (o : Int) (s : ByteArray) : Int ⊕ (List S37 × ByteArray) := match Oct.num s with
 | .inl c => .inl c
 | .inr (n, t) => if 60 < n then .inl 62 else match jCd n.toNat [] t with
  | .inl c => .inl c
  | .inr (l, u) => if mayP o l = true then .inr (l, u) else .inl 62
theorem jGN {o : Int} {s : ByteArray} {c : Int} (h : jDj o s = .inl c) : c ≠ 0 := by
 unfold jDj at h
 cases hn : Oct.num s with
 | inl c => rw [hn] at h; cases h; exact jCp hn
 | inr p =>
  obtain ⟨n, t⟩ := p
  rw [hn] at h
  dsimp only at h
  by_cases h6 : 60 < n
  ·
   rw [if_pos h6] at h; cases h; decide
  ·
   rw [if_neg h6] at h
   cases he : jCd n.toNat [] t with
   | inl c => rw [he] at h; cases h; exact jFY _ _ _ _ he
   | inr q =>
    obtain ⟨l, u⟩ := q
    rw [he] at h
    dsimp only at h
    by_cases hm : mayP o l = true
    ·
     rw [if_pos hm] at h; cases h
    ·
     rw [if_neg hm] at h; cases h; decide
theorem jEk {o : Int} {s t : ByteArray} {l : List S37} (h : jDj o s = .inr (l, t)) : s = (jAm l).1 ++ t ∧ (jAm l).2 = 0 ∧ (∀ x ∈ l, OkT x) ∧ l.length ≤ 60 ∧ mayP o l = true := by
 unfold jDj at h
 cases hn : Oct.num s with
 | inl c => rw [hn] at h; cases h
 | inr p =>
  obtain ⟨n, u⟩ := p
  obtain ⟨n0, n1, es⟩ := jCX hn
  rw [hn] at h
  dsimp only at h
  by_cases h6 : 60 < n
  ·
   rw [if_pos h6] at h; cases h
  ·
   rw [if_neg h6] at h
   cases he : jCd n.toNat [] u with
   | inl c => rw [he] at h; cases h
   | inr q =>
    obtain ⟨l1, u1⟩ := q
    rw [he] at h
    dsimp only at h
    by_cases hm : mayP o l1 = true
    ·
     rw [if_pos hm] at h
     cases h
     obtain ⟨m, e1, e2, e3, e4⟩ := jEA _ _ _ _ _ he
     rw [List.nil_append] at e1
     subst e1
     have en : (l.length : Int) = n := by omega
     have h2 : 0 ≤ o ∧ o ≤ 2 := by
      have h3 := hm
      unfold mayP at h3
      rw [Bool.and_eq_true, Bool.and_eq_true] at h3
      exact of_decide_eq_true h3.2.1
     have hall : (mayP 0 l || mayP 1 l || mayP 2 l) = true := by
      have h3 : o = 0 ∨ o = 1 ∨ o = 2 := by omega
      rcases h3 with rfl | rfl | rfl <;> rw [hm] <;> simp
     unfold jAm
     rw [if_pos hall]
     refine ⟨?_, rfl, e4, by omega, hm⟩
     dsimp only
     rw [jHh, en, ByteArray.append_assoc, ← e3]
     exact es
    ·
     rw [if_neg hm] at h; cases h
theorem jMr {s : ByteArray} (hs : s.size ≤ 1000000) : Ev (fun k => EachT.jKy k s 60) (match Oct.num s with | .inl c => ([], { data := #[] }, c) | .inr (n, t) => if 60 < n then ([], { data := #[] }, 62) else gotL (jCd n.toNat [] t)) := by
 unfold EachT.jKy
 have hg := jKY hs
 cases hn : Oct.num s with
 | inl c =>
  rw [hn] at hg
  exact Ev.vI (a := ((0 : Int), (⟨#[]⟩ : ByteArray), c)) hg (Ev.pos (jCp hn) (Ev.now _))
 | inr p =>
  obtain ⟨n, t⟩ := p
  obtain ⟨n0, n1, es⟩ := jCX hn
  have hz := jDY es
  rw [hn] at hg
  refine Ev.vI (a := (n, t, (0 : Int))) hg ?_
  refine Ev.neg (fun q => q rfl) ?_
  dsimp only
  by_cases h6 : 60 < n
  ·
   rw [if_pos h6]; exact Ev.pos h6 (Ev.now _)
  ·
   rw [if_neg h6]; exact Ev.neg h6 (Ev.pos ⟨n0, by decide⟩ (jKx _ _ _ (by omega)))
theorem jOb (o : Int) {s : ByteArray} (hs : s.size ≤ 1000000) : Ev (fun k => GetP.getP k o s) (gotL (jDj o s)) := by
 unfold GetP.getP jDj
 have hg := jMr hs
 cases hn : Oct.num s with
 | inl c =>
  rw [hn] at hg
  exact Ev.bind hg (Ev.neg (jCp hn) (Ev.now _))
 | inr p =>
  obtain ⟨n, t⟩ := p
  rw [hn] at hg
  dsimp only at hg ⊢
  by_cases h6 : 60 < n
  ·
   rw [if_pos h6] at hg ⊢
   exact Ev.bind hg (Ev.neg (by decide) (Ev.now _))
  ·
   rw [if_neg h6] at hg ⊢
   cases he : jCd n.toNat [] t with
   | inl c =>
    rw [he] at hg
    exact Ev.bind hg (Ev.neg (jFY _ _ _ _ he) (Ev.now _))
   | inr q =>
    obtain ⟨l, u⟩ := q
    rw [he] at hg
    obtain ⟨m, e1, e2, -, e4⟩ := jEA _ _ _ _ _ he
    rw [List.nil_append] at e1
    subst e1
    refine Ev.bind (a := (l, u, (0 : Int))) hg ?_
    refine Ev.pos rfl ?_
    refine Ev.bind (jIX o (by dsimp only; omega) e4) ?_
    dsimp only
    cases hm : mayP o l with
    | true => exact Ev.pos rfl (Ev.now _)
    | false => exact Ev.neg (by decide) (Ev.now _)
theorem jKO {o : Int} {s t : ByteArray} {l : List S37} (h : jDj o s = .inr (l, t)) : t.size ≤ s.size := by
 have := congrArg ByteArray.size (jEk h).1
 rw [ByteArray.size_append] at this
 omega
def jBr (o : Int) : Nat → List (List S37) → ByteArray → Int ⊕ (List (List S37) × ByteArray)
 | 0, l, s => .inr (l, s)
 | n + 1, l, s => match jDj o s with
  | .inl c => .inl c
  | .inr (x, t) => jBr o n (l ++ [x]) t
def jGg : List (List S37) → ByteArray
 | [] => { data := #[] }
 | x :: t => (jAm x).1 ++ jGg t
theorem jIL (o : Int) : ∀ (n : Nat) (l : List (List S37)) (s : ByteArray), s.size ≤ 1000000 → Ev (fun k => EachP.jDB k o n l s) (gotL (jBr o n l s))
 | 0, l, s, _ => Ev.congr (fun k => by rw [EachP.jDB]) (Ev.now (l, s, (0 : Int)))
 | n + 1, l, s, hs => by
  refine Ev.congr (fun k => by rw [EachP.jDB]) (Ev.bind (jOb o hs) ?_)
  rw [jBr]
  cases hn : jDj o s with
  | inl c => exact Ev.pos (jGN hn) (Ev.now _)
  | inr p =>
   obtain ⟨x, t⟩ := p
   have hz := jKO hn
   exact Ev.neg (fun q => q rfl) (jIL o n (l ++ [x]) t (by omega))
theorem jGM (o : Int) : ∀ (n : Nat) (l : List (List S37)) (s : ByteArray) (c : Int), jBr o n l s = .inl c → c ≠ 0
 | 0, l, s, c, h => by rw [jBr] at h; cases h
 | n + 1, l, s, c, h => by
  rw [jBr] at h
  cases hn : jDj o s with
  | inl c => rw [hn] at h; cases h; exact jGN hn
  | inr p => rw [hn] at h; exact jGM o n _ _ c h
def jIw (x : List S37) : Prop := (jAm x).2 = 0 ∧ (∀ y ∈ x, OkT y) ∧ x.length ≤ 60
theorem jEj (o : Int) : ∀ (n : Nat) (l : List (List S37)) (s : ByteArray) (l' : List (List S37)) (t : ByteArray), jBr o n l s = .inr (l', t) → ∃ m, l' = l ++ m ∧ m.length = n ∧ s = jGg m ++ t ∧ ∀ x ∈ m, jIw x
 | 0, l, s, l', t, h => by
  rw [jBr] at h; cases h
  exact ⟨[], (List.append_nil _).symm, rfl, (jKe _).symm, fun x hx => by cases hx⟩
 | n + 1, l, s, l', t, h => by
  rw [jBr] at h
  cases hn : jDj o s with
  | inl c => rw [hn] at h; cases h
  | inr p =>
   obtain ⟨x, u⟩ := p
   rw [hn] at h
   obtain ⟨e, e0, ox, hl, -⟩ := jEk hn
   obtain ⟨m, h1, h2, h3, h4⟩ := jEj o n _ _ _ _ h
   refine ⟨x :: m, by rw [h1, List.append_assoc]; rfl, by rw [List.length_cons, h2], by rw [jGg, ByteArray.append_assoc, ← h3]; exact e, fun y hy => ?_⟩
   rcases List.mem_cons.1 hy with rfl | hy
   ·
    exact ⟨e0, ox, hl⟩
   ·
    exact h4 y hy
def jHR (o : Int) (s : ByteArray) : Int ⊕ (List (List S37) × ByteArray) := match Oct.num s with
 | .inl c => .inl c
 | .inr (n, t) => if 24 < n then .inl 62 else jBr o n.toNat [] t
theorem jKh {o : Int} {s : ByteArray} {c : Int} (h : jHR o s = .inl c) : c ≠ 0 := by
 unfold jHR at h
 cases hn : Oct.num s with
 | inl c => rw [hn] at h; cases h; exact jCp hn
 | inr p =>
  obtain ⟨n, t⟩ := p
  rw [hn] at h
  dsimp only at h
  by_cases h6 : 24 < n
  ·
   rw [if_pos h6] at h; cases h; decide
  ·
   rw [if_neg h6] at h; exact jGM o _ _ _ _ h
theorem jJJ {o : Int} {s t : ByteArray} {l : List (List S37)} (h : jHR o s = .inr (l, t)) : s = (strOfNums (putB (l.length : Int)) ++ jGg l) ++ t ∧ (∀ x ∈ l, jIw x) ∧ l.length ≤ 24 := by
 unfold jHR at h
 cases hn : Oct.num s with
 | inl c => rw [hn] at h; cases h
 | inr p =>
  obtain ⟨n, u⟩ := p
  obtain ⟨n0, n1, es⟩ := jCX hn
  rw [hn] at h
  dsimp only at h
  by_cases h6 : 24 < n
  ·
   rw [if_pos h6] at h; cases h
  ·
   rw [if_neg h6] at h
   obtain ⟨m, e1, e2, e3, e4⟩ := jEj o _ _ _ _ _ h
   rw [List.nil_append] at e1
   subst e1
   have en : (l.length : Int) = n := by omega
   refine ⟨?_, e4, by omega⟩
   rw [en, ByteArray.append_assoc, ← e3]
   exact es
theorem jJL (o : Int) {s : ByteArray} (hs : s.size ≤ 1000000) : Ev (fun k => EachP.jJQ k o s 24) (gotL (jHR o s)) := by
 unfold EachP.jJQ jHR
 have hg := jKY hs
 cases hn : Oct.num s with
 | inl c =>
  rw [hn] at hg
  exact Ev.vI (a := ((0 : Int), (⟨#[]⟩ : ByteArray), c)) hg (Ev.pos (jCp hn) (Ev.now _))
 | inr p =>
  obtain ⟨n, t⟩ := p
  obtain ⟨n0, n1, es⟩ := jCX hn
  have hz := jDY es
  rw [hn] at hg
  refine Ev.vI (a := (n, t, (0 : Int))) hg ?_
  refine Ev.neg (fun q => q rfl) ?_
  dsimp only
  by_cases h6 : 24 < n
  ·
   rw [if_pos h6]; exact Ev.pos h6 (Ev.now _)
  ·
   rw [if_neg h6]; exact Ev.neg h6 (Ev.pos ⟨n0, by decide⟩ (jIL o _ _ _ (by omega)))
theorem jEs : ∀ (l : List S37), (jHY l).size ≤ 304 * l.length
 | [] => Nat.le_refl 0
 | x :: t => by
  have := jEd x
  have := jEs t
  rw [jHY, ByteArray.size_append, List.length_cons]
  omega
theorem jGJ {l : List S37} (h : l.length ≤ 60) : (jAm l).1.size ≤ 20000 := by
 unfold jAm
 split
 ·
  dsimp only
  rw [jHh, ByteArray.size_append, zq, jCT]
  have := jEs l
  have := jIx (jDX (m := l.length) (by omega))
  omega
 ·
  exact Nat.zero_le _
theorem jKL : ∀ (l : List (List S37)) (acc : ByteArray), (∀ x ∈ l, jIw x) → acc.size + 20000 * l.length ≤ 1000000000 → Ev (fun k => AllP.jGr k l acc) (acc ++ jGg l, 0)
 | [], acc, _, _ => by
  rw [jGg, jLe]
  exact Ev.congr (fun k => by rw [AllP.jGr]) (Ev.now (acc, (0 : Int)))
 | x :: t, acc, h, hs => by
  obtain ⟨h0, ho, hl⟩ := h x (List.mem_cons_self ..)
  have st := jGJ hl
  rw [List.length_cons] at hs
  have ih := jKL t (acc ++ (jAm x).1) (fun y hy => h y (List.mem_cons_of_mem _ hy)) (by rw [ByteArray.size_append]; omega)
  refine Ev.congr (fun k => by rw [AllP.jGr]) (Ev.bind (jRQ (by omega) ho) ?_)
  refine Ev.neg (fun q => q h0) (Ev.pos (by omega) (Ev.eq ih ?_))
  rw [jGg, ByteArray.append_assoc]
theorem jJD {l : List (List S37)} (h : ∀ x ∈ l, jIw x) (hl : l.length ≤ 24) : Ev (fun k => AllP.allP k l 24) (strOfNums (putB (l.length : Int)) ++ jGg l, 0) := by
 have hb := jDX (m := l.length) (by omega)
 have hw := jIx hb
 unfold AllP.allP
 refine Ev.neg (by omega) ?_
 rw [u64p (by omega)]
 refine Ev.bind (jKM (by omega) hb) (Ev.pos ?_ (jKL _ _ h ?_)) <;> rw [zq, jCT] <;> omega
end Go.Proofs.YtoganbmeedimiaaGreat.EOPressOne
end
