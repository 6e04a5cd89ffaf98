-- Written by a program of this session (shake.py): of the words and of this session's own texts what this claim names.
import Derived.Test.YtfoickaangjmnaaPOQueueBytesx
import Derived.Lib.ItoaNum
import Derived.Laws.Bits64b
import Derived.Shelf.Spec.RuneCount
import Derived.WalkKit
import Derived.ProofKit
import Derived.OpenShut
import Derived.ChangeOld
import Derived.ChangeSame
import Derived.DataReads
import Derived.Deep.Strs
import Derived.Laws.IdiomArrays
import Derived.Test.YtfoickaangjmnaaOQueueBytesW
set_option linter.unusedVariables false
set_option linter.unusedSimpArgs false
section
set_option linter.unusedVariables false
set_option linter.unusedSimpArgs false
namespace Go.Proofs.Ytfoickaangjmnaa.EOQueueBytes
open Go.RowKit Go.Proofs.Ytfoickaangjmnaa.POQueueBytes Go.Proofs.YtfoickaangjmnaaN Go.Proofs.YtfoickaangjmnaaW.PrintWords Go.Proofs.YtfoickaangjmnaaW.PrintLast Go.Proofs.YtfoickaangjmnaaW.PrintMore
def lows (n : Int) : Nat → List Int
  | 0 => []
  | i + 1 => n / 256 ^ i % 256 :: lows n i
theorem lows_len (n : Int) : ∀ w, (lows n w).length = w
  | 0 => rfl
  | w + 1 => by rw [lows, List.length_cons, lows_len n w]
theorem lows_byte (n : Int) : ∀ w, ∀ x ∈ lows n w, 0 ≤ x ∧ x < 256
  | 0, x, h => by cases h
  | w + 1, x, h => by
    rcases List.mem_cons.1 h with e | h
    · subst e; exact ⟨Int.emod_nonneg _ (by decide), Int.emod_lt_of_pos _ (by decide)⟩
    · exact lows_byte n w x h
theorem p256_pos (i : Nat) : (0 : Int) < 256 ^ i := Int.pow_pos (by decide)
theorem p256_two (i : Nat) : (256 : Int) ^ i = 2 ^ (8 * i) := by rw [Int.pow_mul]; rfl
theorem shr_byte (n : Int) {i : Nat} (h : i ≤ 8) : shr .u64 n (8 * (i : Int)) = n / 256 ^ i := by
  unfold shr
  have e : min (Int.toNat (8 * (i : Int))) IntKind.u64.bits = 8 * i := by
    rw [show 8 * (i : Int) = ((8 * i : Nat) : Int) by omega, Int.toNat_natCast]
    exact Nat.min_eq_left (by show 8 * i ≤ 64; omega)
  rw [e, p256_two]
theorem fixed_l {n : Int} {w : Nat} (hw : w ≤ 8) : ∀ (d i k : Nat), i + d = w → d < k → octet_fixed.l0 k n w (List.replicate d 0 ++ lows n i) w i = some (strOfNums (lows n w))
  | 0, i, k, hi, hk => by
    obtain ⟨k, rfl⟩ : ∃ j, k = j + 1 := ⟨k - 1, by omega⟩
    have : ¬ ((i : Int) < (w : Int)) := by omega
    rw [octet_fixed.l0, if_neg this]
    obtain rfl : i = w := by omega
    rfl
  | d + 1, i, k, hi, hk => by
    obtain ⟨k, rfl⟩ : ∃ j, k = j + 1 := ⟨k - 1, by omega⟩
    have e1 : wrap64 (8 * (i : Int)) = 8 * (i : Int) := by unfold wrap64; omega
    have e2 : wrap64 (wrap64 ((w : Int) - 1) - (i : Int)) = (d : Int) := by unfold wrap64; omega
    have e3 : wrap64 ((i : Int) + 1) = ((i + 1 : Nat) : Int) := by unfold wrap64; omega
    have c1 : (i : Int) < (w : Int) := by omega
    have c4 : (d : Int) < ((List.replicate (d + 1) (0 : Int) ++ lows n i).length : Int) := by
      rw [List.length_append, List.length_replicate]; omega
    have hs : (List.replicate (d + 1) (0 : Int) ++ lows n i).set d (n / 256 ^ i % 256) = List.replicate d 0 ++ lows n (i + 1) := by
      rw [List.replicate_succ', List.append_assoc, List.set_append_right _ _ (by rw [List.length_replicate]; exact Nat.le_refl _), List.length_replicate, Nat.sub_self]
      rfl
    rw [octet_fixed.l0, e1, e2, e3, if_pos c1, if_pos (by omega), if_pos (by omega), if_pos c4, shr_byte n (by omega), Int.toNat_natCast, hs]
    exact fixed_l hw d (i + 1) k (by omega) (by omega)
theorem fixed_eq {n : Int} {w k : Nat} (hw : w ≤ 8) (hk : 8 < k) : octet_fixed.f k n w = some (strOfNums (lows n w)) := by
  unfold octet_fixed.f
  rw [if_pos (by omega), if_pos (by omega), Option.bind_some, List.length_replicate, Int.toNat_natCast]
  have := fixed_l (n := n) hw w 0 k (by omega) (by omega)
  rwa [show List.replicate w (0 : Int) ++ lows n 0 = List.replicate w 0 from List.append_nil _] at this
def wd (n : Int) : Nat := (Lib.bitLen n.toNat + 7) / 8
theorem wd_le {n : Int} (h : n < B) : wd n ≤ 8 := by
  have := Lib.bitLen_le n.toNat 64 (Nat.le_refl _) (by rw [B_eq] at h; show n.toNat < 18446744073709551616; omega)
  unfold wd; omega
theorem wd_zero : wd 0 = 0 := by decide
def putB (n : Int) : List Int := (wd n : Int) :: lows n (wd n)
theorem strOf_append (a b : List Int) : strOfNums a ++ strOfNums b = strOfNums (a ++ b) := by
  apply ByteArray.ext
  unfold strOfNums
  simp
theorem put_eq {n : Int} {k : Nat} (h0 : 0 ≤ n) (h1 : n < B) (hk : 8 < k) : octet_Put.f k n = some (strOfNums (putB n)) := by
  have hw := wd_le h1
  have hb := Lib.bitLen_le n.toNat 64 (Nat.le_refl _) (by rw [B_eq] at h1; show n.toNat < 18446744073709551616; omega)
  have e1 : wrap64 (Int.tdiv (wrap64 ((Lib.bitLen n.toNat : Int) + 7)) 8) = (wd n : Int) := by
    unfold wd
    generalize Lib.bitLen n.toNat = m at hb ⊢
    have : wrap64 ((m : Int) + 7) = ((m + 7 : Nat) : Int) := by unfold wrap64; omega
    rw [this, show Int.tdiv ((m + 7 : Nat) : Int) 8 = (((m + 7) / 8 : Nat) : Int) from rfl]
    unfold wrap64; omega
  have e2 : (wd n : Int) % 256 = (wd n : Int) := by omega
  unfold octet_Put.f bits_Len64.f
  rw [if_pos ⟨h0, h1⟩, Option.bind_some, e1, e2, Option.bind_some, fixed_eq hw hk, Option.bind_some, if_pos (by rw [strOfNums_size, strOfNums_size, lows_len]; simp; omega), strOf_append]
  rfl
theorem strOf_toList (a : List Int) : (strOfNums a).toList = a.map fun n => UInt8.ofNat n.toNat := by
  exact ByteArray.toList_mk _
def unb (l : List Int) : Int := l.foldl (fun a c => a * 256 + c) 0
theorem foldl_from (l : List Int) : ∀ a : Int, l.foldl (fun a c => a * 256 + c) a = a * 256 ^ l.length + unb l := by
  induction l with
  | nil => intro a; simp [unb]
  | cons x l ih =>
    intro a
    have h1 := ih (a * 256 + x)
    have h2 := ih (0 * 256 + x)
    have h3 : unb (x :: l) = l.foldl (fun a c => a * 256 + c) (0 * 256 + x) := rfl
    rw [List.foldl_cons, h1, h3, h2, List.length_cons, Int.pow_succ, Int.mul_comm (256 ^ l.length) 256, ← Int.mul_assoc, ← Int.add_assoc, ← Int.add_mul]
    simp
theorem unb_cons (x : Int) (l : List Int) : unb (x :: l) = x * 256 ^ l.length + unb l := by
  have h3 : unb (x :: l) = l.foldl (fun a c => a * 256 + c) (0 * 256 + x) := rfl
  rw [h3, foldl_from]; simp
theorem mod_div (n : Int) {p q : Int} (hp : 0 < p) (hq : 0 < q) : n % (p * q) / p = n / p % q := by
  have h := Int.mul_ediv_add_emod n (p * q)
  have hpq := Int.mul_pos hp hq
  have h0 := Int.emod_nonneg n (Int.ne_of_gt hpq)
  have h1 := Int.emod_lt_of_pos n hpq
  have e : n / p = n % (p * q) / p + n / (p * q) * q := by
    have : n = n % (p * q) + n / (p * q) * q * p := by
      rw [Int.mul_assoc, Int.mul_comm q p, Int.mul_comm (n / (p * q))]; omega
    conv => lhs; rw [this]
    rw [Int.add_mul_ediv_right _ _ (Int.ne_of_gt hp)]
  rw [e, Int.add_mul_emod_self_right, Int.emod_eq_of_lt (Int.ediv_nonneg h0 (Int.le_of_lt hp)) (Int.ediv_lt_of_lt_mul hp (by rw [Int.mul_comm q p]; exact h1))]
theorem unb_lows (n : Int) : ∀ w, unb (lows n w) = n % 256 ^ w
  | 0 => by simp [lows, unb]
  | w + 1 => by
    rw [lows, unb_cons, lows_len, unb_lows n w, Int.pow_succ]
    have hp := p256_pos w
    have h1 := Int.emod_emod_of_dvd n (show (256 : Int) ^ w ∣ 256 ^ w * 256 from Int.dvd_mul_right _ _)
    have h2 := Int.mul_ediv_add_emod (n % (256 ^ w * 256)) (256 ^ w)
    rw [h1, mod_div n hp (by decide : (0 : Int) < 256)] at h2
    rw [Int.mul_comm]
    exact h2
theorem bitLen_lt {n : Nat} (h : n < 18446744073709551616) : n < 2 ^ Lib.bitLen n := by
  by_cases h0 : n = 0
  · subst h0; decide
  · exact (Lib.bitLenAux_bounds 64 n h h0).2.2
theorem wd_lt {n : Int} (h0 : 0 ≤ n) (h1 : n < B) : n < 256 ^ wd n := by
  rw [B_eq] at h1
  have h := bitLen_lt (n := n.toNat) (by omega)
  have h2 : 2 ^ Lib.bitLen n.toNat ≤ 2 ^ (8 * wd n) := Nat.pow_le_pow_right (by decide) (by unfold wd; omega)
  rw [p256_two]
  have h3 : (2 : Int) ^ (8 * wd n) = ((2 ^ (8 * wd n) : Nat) : Int) := by rw [Int.natCast_pow]; rfl
  omega
theorem putB_byte {n : Int} (h1 : n < B) : ∀ x ∈ putB n, 0 ≤ x ∧ x < 256 := by
  intro x hx
  have := wd_le h1
  rcases List.mem_cons.1 hx with e | h
  · omega
  · exact lows_byte n _ x h
theorem putB_len (n : Int) : (putB n).length = wd n + 1 := by unfold putB; rw [List.length_cons, lows_len]
end Go.Proofs.Ytfoickaangjmnaa.EOQueueBytes
end
section
set_option linter.unusedVariables false
set_option linter.unusedSimpArgs false
namespace Go.Proofs.Ytfoickaangjmnaa.EOQueueBytes
open Go.RowKit Go.Proofs.Ytfoickaangjmnaa.POQueueBytes Go.Proofs.YtfoickaangjmnaaN Go.Proofs.YtfoickaangjmnaaW.PrintWords Go.Proofs.YtfoickaangjmnaaW.PrintLast Go.Proofs.YtfoickaangjmnaaW.PrintMore
def Bytes (l : List Int) : Prop := ∀ x ∈ l, 0 ≤ x ∧ x < 256
theorem Bytes.append {a b : List Int} (ha : Bytes a) (hb : Bytes b) : Bytes (a ++ b) := fun x hx => (List.mem_append.1 hx).elim (ha x) (hb x)
theorem Bytes.take {a : List Int} (ha : Bytes a) (n : Nat) : Bytes (a.take n) := fun x hx => ha x (List.mem_of_mem_take hx)
theorem Bytes.drop {a : List Int} (ha : Bytes a) (n : Nat) : Bytes (a.drop n) := fun x hx => ha x (List.mem_of_mem_drop hx)
theorem bytes_of (s : ByteArray) : Bytes (bytesOf s) := fun x hx => by
  unfold bytesOf at hx
  obtain ⟨b, _, rfl⟩ := List.mem_map.1 hx
  have := b.toNat_lt
  omega
theorem str_bytes (s : ByteArray) : strOfNums (bytesOf s) = s := by
  apply ByteArray.ext
  apply Array.ext'
  show (strOfNums (bytesOf s)).data.toList = s.data.toList
  rw [strOfNums_data, bytesOf, List.map_map]
  conv => rhs; rw [← List.map_id s.data.toList]
  apply List.map_congr_left
  intro b _
  simp
theorem bytes_str {l : List Int} (h : Bytes l) : bytesOf (strOfNums l) = l := by
  unfold bytesOf
  rw [strOfNums_data, List.map_map]
  conv => rhs; rw [← List.map_id l]
  apply List.map_congr_left
  intro x hx
  have := h x hx
  simp
  omega
theorem str_extract (l : List Int) (i j : Nat) : (strOfNums l).extract i j = strOfNums ((l.take j).drop i) := by
  apply ByteArray.ext
  apply Array.ext'
  rw [ByteArray.data_extract]
  unfold strOfNums
  simp [List.map_take, List.map_drop, List.drop_take]
theorem bt_str {l : List Int} (h : Bytes l) (i : Nat) : bt (strOfNums l) i = l.getD i 0 := by
  rw [← rd_bytesOf, bytes_str h]
  rfl
theorem size_str (l : List Int) : (strOfNums l).size = l.length := strOfNums_size l
theorem stp_eq {a c : Int} (ha : 0 ≤ a) (hc : 0 ≤ c ∧ c < 256) (h : a * 256 + c < B) : Oct.stp a c = a * 256 + c := by
  rw [B_eq] at h
  obtain ⟨x, rfl⟩ := Int.eq_ofNat_of_zero_le ha
  obtain ⟨y, rfl⟩ := Int.eq_ofNat_of_zero_le hc.1
  unfold Oct.stp
  have e1 : IntKind.u64.wrap ((x : Int) * 256) = ((2 ^ 8 * x : Nat) : Int) := by rw [IntKind.wrap_u64]; omega
  have e2 : IntKind.u64.wrap (y : Int) = ((y : Nat) : Int) := by rw [IntKind.wrap_u64]; omega
  have h3 := bits_or_u64_nat (2 ^ 8 * x) y (by omega) (by omega)
  rw [e1, e2]
  refine Eq.trans h3 ?_
  rw [← Nat.two_pow_add_eq_or_of_lt (by omega : y < 2 ^ 8)]
  omega
theorem foldl_lows (n : Int) : ∀ (w : Nat) (a : Int), 0 ≤ a → a * 256 ^ w + n % 256 ^ w < B → (lows n w).foldl Oct.stp a = a * 256 ^ w + n % 256 ^ w
  | 0, a, _, _ => by simp [lows]
  | w + 1, a, ha, h => by
    have hp := p256_pos w
    have hd0 : 0 ≤ n / 256 ^ w % 256 := Int.emod_nonneg _ (by decide)
    have hd1 : n / 256 ^ w % 256 < 256 := Int.emod_lt_of_pos _ (by decide)
    have hr := Int.emod_nonneg n (Int.ne_of_gt hp)
    have hu := unb_lows n (w + 1)
    rw [lows, unb_cons, lows_len, unb_lows] at hu
    have e : (a * 256 + n / 256 ^ w % 256) * 256 ^ w + n % 256 ^ w = a * 256 ^ (w + 1) + n % 256 ^ (w + 1) := by
      rw [← hu, Int.pow_succ, Int.add_mul, Int.mul_comm (256 ^ w) 256, ← Int.mul_assoc]; omega
    have h1 : a * 256 + n / 256 ^ w % 256 ≤ (a * 256 + n / 256 ^ w % 256) * 256 ^ w := by have := Int.mul_le_mul_of_nonneg_left (show (1 : Int) ≤ 256 ^ w by omega) (show 0 ≤ a * 256 + n / 256 ^ w % 256 by omega); omega
    rw [lows, List.foldl_cons, stp_eq ha ⟨hd0, hd1⟩ (by omega), foldl_lows n w _ (by omega) (by rw [e]; exact h), e]
theorem be_lows {n : Int} {w : Nat} (h : n % 256 ^ w < B) : Oct.be (lows n w) = n % 256 ^ w := by
  unfold Oct.be
  rw [foldl_lows n w 0 (Int.le_refl _) (by simpa using h)]
  simp
theorem wd_top {n : Int} (h0 : 0 ≤ n) (h1 : n < B) (hw : 0 < wd n) : n / 256 ^ (wd n - 1) % 256 ≠ 0 := by
  rw [B_eq] at h1
  have hn : n.toNat ≠ 0 := fun e => by
    have : n = 0 := by omega
    subst this; rw [wd_zero] at hw; omega
  obtain ⟨hb1, hb2, hb3⟩ := Lib.bitLenAux_bounds 64 n.toNat (by omega) hn
  have hb1 : 1 ≤ Lib.bitLen n.toNat := hb1
  have hb2 : 2 ^ (Lib.bitLen n.toNat - 1) ≤ n.toNat := hb2
  have hle : 2 ^ (8 * (wd n - 1)) ≤ 2 ^ (Lib.bitLen n.toNat - 1) := Nat.pow_le_pow_right (by decide) (by unfold wd; omega)
  have hlo : 256 ^ (wd n - 1) ≤ n := by
    rw [p256_two]
    have h3 : (2 : Int) ^ (8 * (wd n - 1)) = ((2 ^ (8 * (wd n - 1)) : Nat) : Int) := by rw [Int.natCast_pow]; rfl
    omega
  have hhi := wd_lt h0 (by rw [B_eq]; exact h1)
  have hp := p256_pos (wd n - 1)
  have e : (256 : Int) ^ wd n = 256 ^ (wd n - 1) * 256 := by rw [← Int.pow_succ]; congr 1; omega
  rw [e] at hhi
  have q1 : 1 ≤ n / 256 ^ (wd n - 1) := by rw [Int.le_ediv_iff_mul_le hp]; omega
  have q2 : n / 256 ^ (wd n - 1) < 256 := Int.ediv_lt_of_lt_mul hp (by rw [Int.mul_comm]; exact hhi)
  omega
theorem putB_bytes {n : Int} (h1 : n < B) : Bytes (putB n) := putB_byte h1
theorem num_put {n : Int} (h0 : 0 ≤ n) (h1 : n < B) {R : List Int} (hR : Bytes R) : Oct.num (strOfNums (putB n ++ R)) = .inr (n, strOfNums R) := by
  have hw := wd_le h1
  have hb := (putB_bytes h1).append hR
  have hl : (putB n ++ R).length = wd n + 1 + R.length := by rw [List.length_append, putB_len]
  have e0 : bt (strOfNums (putB n ++ R)) 0 = (wd n : Int) := (bt_str hb 0).trans rfl
  have e1 : (strOfNums (putB n ++ R)).extract 1 (1 + wd n) = strOfNums (lows n (wd n)) := by
    rw [str_extract]
    congr 1
    rw [show 1 + wd n = wd n + 1 from Nat.add_comm _ _, List.take_append_of_le_length (by rw [putB_len]; exact Nat.le_refl _), List.take_of_length_le (by rw [putB_len]; exact Nat.le_refl _)]
    rfl
  have e2 : (strOfNums (putB n ++ R)).extract (1 + wd n) (strOfNums (putB n ++ R)).size = strOfNums R := by
    rw [str_extract, size_str, List.take_length, show 1 + wd n = (putB n).length by rw [putB_len]; omega, List.drop_left]
  have e3 : Oct.be (bytesOf (strOfNums (lows n (wd n)))) = n := by
    have hm : n % 256 ^ wd n = n := Int.emod_eq_of_lt h0 (wd_lt h0 h1)
    rw [bytes_str (lows_byte n _), be_lows (by rw [hm]; exact h1), hm]
  have c4 : ¬ (wd n ≠ 0 ∧ bt (strOfNums (putB n ++ R)) 1 = 0) := by
    rintro ⟨hz, h⟩
    have hd := wd_top h0 h1 (by omega)
    have : bt (strOfNums (putB n ++ R)) 1 = (putB n ++ R).getD 1 0 := bt_str hb 1
    rw [this] at h
    obtain ⟨m, hm⟩ : ∃ m, wd n = m + 1 := ⟨wd n - 1, by omega⟩
    rw [hm] at hd
    unfold putB at h
    rw [hm, lows] at h
    exact hd h
  unfold Oct.num
  rw [e0, Int.toNat_natCast, e1, e2, e3, size_str, hl, if_neg (by omega), if_neg (by omega), if_neg (by omega), if_neg c4]
end Go.Proofs.Ytfoickaangjmnaa.EOQueueBytes
end
section
set_option linter.unusedVariables false
set_option linter.unusedSimpArgs false
namespace Go.Proofs.Ytfoickaangjmnaa.EOQueueBytes
open Go.RowKit Go.Proofs.Ytfoickaangjmnaa.POQueueBytes Go.Proofs.YtfoickaangjmnaaN Go.Proofs.YtfoickaangjmnaaW.PrintWords Go.Proofs.YtfoickaangjmnaaW.PrintLast Go.Proofs.YtfoickaangjmnaaW.PrintMore
theorem some_bind {α β : Type} (a : α) (f : α → Option β) : (some a).bind f = f a := rfl
theorem Ev.pos {α : Type} {c : Prop} [Decidable c] {f g : Nat → Option α} {r : α} (hc : c) (h : Ev f r) : Ev (fun k => if c then f k else g k) r := by
  simp only [if_pos hc]; exact h
theorem Ev.neg {α : Type} {c : Prop} [Decidable c] {f g : Nat → Option α} {r : α} (hc : ¬ c) (h : Ev g r) : Ev (fun k => if c then f k else g k) r := by
  simp only [if_neg hc]; exact h
theorem Ev.bind_const {α β : Type} {g : Option α} {f : Nat → α → Option β} {a : α} {r : β} (h : g = some a) (k : Ev (fun n => f n a) r) : Ev (fun n => g.bind (f n)) r := by
  rw [h]; exact k
theorem Ev.eq {α : Type} {g : Nat → Option α} {r s : α} (h : Ev g r) (e : r = s) : Ev g s := e ▸ h
theorem w64 {x : Int} (h : -4611686018427387904 ≤ x ∧ x ≤ 4611686018427387904) : wrap64 x = x := by unfold wrap64; omega
end Go.Proofs.Ytfoickaangjmnaa.EOQueueBytes
end
section
set_option linter.unusedVariables false
set_option linter.unusedSimpArgs false
namespace Go.Proofs.Ytfoickaangjmnaa.EOQueueBytes
open Go.RowKit Go.Proofs.Ytfoickaangjmnaa.POQueueBytes Go.Proofs.YtfoickaangjmnaaN Go.Proofs.YtfoickaangjmnaaW.PrintWords Go.Proofs.YtfoickaangjmnaaW.PrintLast Go.Proofs.YtfoickaangjmnaaW.PrintMore
theorem rdp (l : List S26) (k : Nat) (h : k < l.length) : rd_T26 l (k : Int) = l[k] := by
  unfold rd_T26
  simp [h]
theorem ws (k : Nat) (h : k < 4611686018427387904) : wrap64 ((k : Int) + 1) = ((k + 1 : Nat) : Int) := by unfold wrap64; omega
def tp (p : S26) : Int × Int := (p.f0, p.f1)
theorem tp_inj {p q : S26} (h : tp p = tp q) : p = q := by
  cases p; cases q
  simp only [tp, Prod.mk.injEq] at h
  rw [h.1, h.2]
theorem j2_true (n : Int) (l : List S26) (i : Int) : Ev (fun k => syzygyref15_May.j2 k n l i true) false := ⟨1, fun k hk => by cases k with | zero => omega | succ k => rfl⟩
theorem j2_false {n : Int} {l : List S26} {i : Int} {r : Bool} (h : Ev (fun k => syzygyref15_May.l1 k n l i 0) r) : Ev (fun k => syzygyref15_May.j2 k n l i false) r := Ev.step (f := fun k => syzygyref15_May.l1 k n l i 0) (fun k => rfl) h
theorem j0_true (n : Int) (l : List S26) : Ev (fun k => syzygyref15_May.j0 k n l true) false := ⟨1, fun k hk => by cases k with | zero => omega | succ k => rfl⟩
theorem j0_false {n : Int} {l : List S26} {r : Bool} (h : Ev (fun k => syzygyref15_May.l0 k n l 0) r) : Ev (fun k => syzygyref15_May.j0 k n l false) r := Ev.step (f := fun k => syzygyref15_May.l0 k n l 0) (fun k => rfl) h
theorem mayin (n : Int) (l : List S26) (hl : l.length < 4398046511104) (i : Nat) (hi : i < l.length) (r : Bool) (h : Ev (fun k => syzygyref15_May.l0 k n l ((i + 1 : Nat) : Int)) r) : ∀ m q : Nat, q + m = i → Ev (fun k => syzygyref15_May.l1 k n l (i : Int) (q : Int)) (if tp l[i] ∈ ((l.take i).drop q).map tp then false else r)
  | 0, q, hq => by
    refine Ev.step (f := _) (fun k => rfl) (Ev.neg (by omega) ?_)
    rw [List.drop_eq_nil_of_le (by rw [List.length_take]; omega), if_neg (by simp), ws i (by omega)]
    exact h
  | m + 1, q, hq => by
    have hql : q < l.length := by omega
    have hlt : q < (l.take i).length := by rw [List.length_take]; omega
    have hd : (l.take i).drop q = l[q] :: (l.take i).drop (q + 1) := by rw [List.drop_eq_getElem_cons hlt, List.getElem_take]
    refine Ev.step (f := _) (fun k => rfl) (Ev.pos (by omega) (Ev.pos (by omega) (Ev.pos (by omega) (Ev.pos (by omega) (Ev.pos (by omega) ?_)))))
    rw [rdp l q hql, rdp l i hi, hd, ws q (by omega)]
    by_cases e : l[q] = l[i]
    · refine Ev.pos (by rw [e]; simp) ?_
      rw [if_pos (by rw [e]; exact List.mem_cons_self ..)]
      exact Ev.now false
    · refine Ev.neg (fun c => e ?_) ?_
      · rw [Bool.and_eq_true, beq_iff_eq, beq_iff_eq] at c
        exact tp_inj (Prod.ext c.1 c.2)
      · refine Ev.eq (mayin n l hl i hi r h m (q + 1) (by omega)) ?_
        have : (tp l[i] ∈ (l[q] :: (l.take i).drop (q + 1)).map tp) ↔ (tp l[i] ∈ ((l.take i).drop (q + 1)).map tp) := by
          rw [List.map_cons, List.mem_cons]
          exact ⟨fun h => h.resolve_left (fun x => e (tp_inj x).symm), Or.inr⟩
        simp only [this]
theorem mayout (n : Int) (hn : 0 ≤ n ∧ n ≤ 24) (l : List S26) (hl : l.length < 4398046511104) : ∀ m i : Nat, i + m = l.length → Ev (fun k => syzygyref15_May.l0 k n l (i : Int)) (queue_May.go n ((l.take i).reverse.map tp) (l.drop i))
  | 0, i, hi => by
    refine Ev.step (f := _) (fun k => rfl) (Ev.neg (by omega) ?_)
    rw [List.drop_eq_nil_of_le (by omega)]
    unfold queue_May.go
    rw [decide_eq_true hn.1, decide_eq_true hn.2]
    exact Ev.now true
  | m + 1, i, hi => by
    have hil : i < l.length := by omega
    have ih := mayout n hn l hl m (i + 1) (by omega)
    refine Ev.step (f := _) (fun k => rfl) (Ev.pos (by omega) (Ev.pos (by omega) ?_))
    rw [rdp l i hil, List.drop_eq_getElem_cons hil]
    unfold queue_May.go
    by_cases c0 : l[i].f0 < 0
    · rw [if_pos c0]
      exact Ev.pos c0 (j2_true ..)
    · rw [if_neg c0]
      refine Ev.neg c0 ?_
      by_cases c1 : l[i].f1 ≤ l[i].f0
      · rw [if_pos c1]
        exact Ev.pos c1 (j2_true ..)
      · rw [if_neg c1]
        refine Ev.neg c1 ?_
        rw [if_neg (by omega : ¬ 24 < n)]
        by_cases c2 : n ≤ l[i].f1
        · rw [if_pos c2, decide_eq_true c2]
          exact j2_true ..
        · rw [if_neg c2, decide_eq_false c2]
          refine j2_false ?_
          have := mayin n l hl i hil _ ih i 0 (by omega)
          rw [List.drop_zero] at this
          refine Ev.eq this ?_
          have e1 : ((l.take i).reverse.map tp).contains (l[i].f0, l[i].f1) = true ↔ tp l[i] ∈ (l.take i).map tp := by
            rw [List.contains_iff_mem, List.map_reverse, List.mem_reverse]
            exact Iff.rfl
          have e2 : (l.take (i + 1)).reverse.map tp = (l[i].f0, l[i].f1) :: (l.take i).reverse.map tp := by
            rw [List.take_succ_eq_append_getElem hil, List.reverse_append]
            rfl
          by_cases hm : tp l[i] ∈ (l.take i).map tp
          · rw [if_pos hm, if_pos (e1.2 hm)]
          · rw [if_neg hm, if_neg (fun h => hm (e1.1 h)), e2]
theorem go_out (n : Int) (hn : ¬ (0 ≤ n ∧ n ≤ 24)) : ∀ (l : List S26) (d : List (Int × Int)), queue_May.go n d l = false
  | [], d => by
    unfold queue_May.go
    rw [Bool.and_eq_false_iff, decide_eq_false_iff_not, decide_eq_false_iff_not]
    omega
  | p :: t, d => by
    unfold queue_May.go
    rw [go_out n hn t]
    simp only [ite_self]
theorem may_ev (n : Int) (l : List S26) (hl : l.length < 4398046511104) : Ev (fun k => syzygyref15_May.f k n l) (queue_May.go n [] l) := by
  unfold syzygyref15_May.f
  by_cases h0 : n < 0
  · rw [go_out n (by omega)]
    exact Ev.pos h0 (j0_true ..)
  · refine Ev.neg h0 ?_
    by_cases h1 : n > 24
    · rw [go_out n (by omega), decide_eq_true h1]
      exact j0_true ..
    · rw [decide_eq_false h1]
      refine j0_false ?_
      have := mayout n (by omega) l hl l.length 0 (by omega)
      rw [List.take_zero, List.drop_zero] at this
      exact this
theorem same_ev (l : List S26) (hl : l.length < 4398046511104) : ∀ m i : Nat, i + m = l.length → Ev (fun k => syzygyref13_Same.l0 k l l (i : Int)) true
  | 0, i, hi => Ev.step (f := _) (fun k => rfl) (Ev.neg (by omega) (Ev.now true))
  | m + 1, i, hi => by
    refine Ev.step (f := _) (fun k => rfl) (Ev.pos (by omega) (Ev.pos (by omega) (Ev.pos (by omega) (Ev.neg (by simp) ?_))))
    rw [ws i (by omega)]
    exact same_ev l hl m (i + 1) (by omega)
theorem same_self (l : List S26) (hl : l.length < 4398046511104) : Ev (fun k => syzygyref13_Same.f k l l) true := by
  unfold syzygyref13_Same.f
  exact Ev.pos rfl (same_ev l hl l.length 0 (by omega))
end Go.Proofs.Ytfoickaangjmnaa.EOQueueBytes
end
section
set_option linter.unusedVariables false
set_option linter.unusedSimpArgs false
namespace Go.Proofs.Ytfoickaangjmnaa.EOQueueBytes
open Go.RowKit Go.Proofs.Ytfoickaangjmnaa.POQueueBytes Go.Proofs.YtfoickaangjmnaaN Go.Proofs.YtfoickaangjmnaaW.PrintWords Go.Proofs.YtfoickaangjmnaaW.PrintLast Go.Proofs.YtfoickaangjmnaaW.PrintMore
theorem may_nodup (n : Int) : ∀ (l : List S26) (d : List (Int × Int)), queue_May.go n d l = true → (l.map tp).Nodup ∧ ∀ p ∈ l.map tp, p ∉ d
  | [], d, h => ⟨List.nodup_nil, fun p hp => by cases hp⟩
  | p :: t, d, h => by
    unfold queue_May.go at h
    by_cases c0 : p.f0 < 0
    · rw [if_pos c0] at h; exact absurd h (by decide)
    rw [if_neg c0] at h
    by_cases c1 : p.f1 ≤ p.f0
    · rw [if_pos c1] at h; exact absurd h (by decide)
    rw [if_neg c1] at h
    by_cases c2 : (if 24 < n then 24 else n) ≤ p.f1
    · rw [if_pos c2] at h; exact absurd h (by decide)
    rw [if_neg c2] at h
    by_cases c3 : d.contains (p.f0, p.f1) = true
    · rw [if_pos c3] at h; exact absurd h (by decide)
    rw [if_neg c3] at h
    obtain ⟨h1, h2⟩ := may_nodup n t _ h
    refine ⟨?_, fun q hq => ?_⟩
    · rw [List.map_cons, List.nodup_cons]
      exact ⟨fun hm => h2 _ hm (List.mem_cons_self ..), h1⟩
    · rw [List.map_cons, List.mem_cons] at hq
      rcases hq with rfl | hq
      · exact fun hd => c3 (List.contains_iff_mem.2 hd)
      · exact fun hd => h2 q hq (List.mem_cons_of_mem _ hd)
theorem qshown : syzygylaw15_shown.f = some true := by decide +kernel
end Go.Proofs.Ytfoickaangjmnaa.EOQueueBytes
end
section
set_option linter.unusedVariables false
set_option linter.unusedSimpArgs false
namespace Go.Proofs.Ytfoickaangjmnaa.EOQueueBytes
open Go.RowKit Go.Proofs.Ytfoickaangjmnaa.POQueueBytes Go.Proofs.YtfoickaangjmnaaN Go.Proofs.YtfoickaangjmnaaW.PrintWords Go.Proofs.YtfoickaangjmnaaW.PrintLast Go.Proofs.YtfoickaangjmnaaW.PrintMore
theorem Ev.some_bind {α β : Type} {a : α} {f : Nat → α → Option β} {r : β} (h : Ev (fun k => f k a) r) : Ev (fun k => (some a).bind (f k)) r := h
theorem wr_id {x : Int} (h0 : 0 ≤ x) (h1 : x < B) : IntKind.u64.wrap x = x := by
  rw [IntKind.wrap_u64]
  rw [B_eq] at h1
  omega
theorem put_ev {n : Int} (h0 : 0 ≤ n) (h1 : n < B) : Ev (fun k => octet_Put.f k n) (strOfNums (putB n)) := ⟨9, fun k hk => put_eq h0 h1 (by omega)⟩
theorem rfixed_l (n : Int) : ∀ (d : Nat) (acc : List Int), d ≤ 8 → acc.length + d ≤ 100 → Ev (fun k => syzygyref06_fixed.l0 k n acc ((d : Int) - 1)) (strOfNums (acc ++ lows n d))
  | 0, acc, _, _ => by
    refine Ev.step (fun k => by rw [syzygyref06_fixed.l0]) (Ev.neg (by omega) ?_)
    rw [lows, List.append_nil]
    exact Ev.now _
  | d + 1, acc, h, ha => by
    have e1 : wrap64 (8 * ((d + 1 : Nat) - 1 : Int)) = 8 * (d : Int) := by rw [w64 (by omega)]; omega
    have e2 : wrap64 (((d + 1 : Nat) : Int) - 1 - 1) = (d : Int) - 1 := by
      rw [show ((d + 1 : Nat) : Int) - 1 - 1 = (d : Int) - 1 by omega]
      exact w64 (by omega)
    have e3 : shr .u64 n (8 * (d : Int)) = n / 256 ^ d := shr_byte n (by omega)
    refine Ev.step (fun k => by rw [syzygyref06_fixed.l0, e1, e2, e3]) ?_
    refine Ev.pos (by omega) (Ev.pos (by omega) (Ev.pos (by omega) ?_))
    have := rfixed_l n d (acc ++ [n / 256 ^ d % 256]) (by omega) (by rw [List.length_append, List.length_singleton]; omega)
    rw [List.append_assoc] at this
    exact this
theorem rfixed_ev (n : Int) {w : Nat} (hw : w ≤ 8) : Ev (fun k => syzygyref06_fixed.f k n (w : Int)) (strOfNums (lows n w)) := by
  unfold syzygyref06_fixed.f
  have e : wrap64 ((w : Int) - 1) = (w : Int) - 1 := w64 (by omega)
  rw [e]
  exact rfixed_l n w [] hw (by rw [List.length_nil]; omega)
theorem wd_more {n : Int} (h0 : 0 ≤ n) (h1 : n < B) {c : Nat} (hc : c < wd n) : 0 < n / 256 ^ c := by
  have ht := wd_top h0 h1 (by omega)
  have hp := p256_pos (wd n - 1)
  have q : n / 256 ^ (wd n - 1) ≠ 0 := fun e => by rw [e] at ht; exact ht rfl
  have q0 : 0 ≤ n / 256 ^ (wd n - 1) := Int.ediv_nonneg h0 (Int.le_of_lt hp)
  have hlo : 256 ^ (wd n - 1) ≤ n := by
    have : 1 ≤ n / 256 ^ (wd n - 1) := by omega
    rw [Int.le_ediv_iff_mul_le hp] at this
    omega
  have hle : (256 : Int) ^ c ≤ 256 ^ (wd n - 1) := by
    have h2 : (256 : Nat) ^ c ≤ 256 ^ (wd n - 1) := Nat.pow_le_pow_right (by decide) (by omega)
    have h3 : ∀ m : Nat, (256 : Int) ^ m = ((256 ^ m : Nat) : Int) := fun m => by rw [Int.natCast_pow]; rfl
    rw [h3, h3]
    exact Int.ofNat_le.2 h2
  have : 1 ≤ n / 256 ^ c := by
    rw [Int.le_ediv_iff_mul_le (p256_pos c)]
    omega
  omega
theorem rput_l {n : Int} (h0 : 0 ≤ n) (h1 : n < B) : ∀ (d c : Nat), c + d = wd n → Ev (fun k => syzygyref06_Put.l0 k n (c : Int) (n / 256 ^ c)) (strOfNums (putB n)) := by
  have hw := wd_le h1
  intro d
  induction d with
  | zero =>
    intro c hc
    have e : c = wd n := by omega
    subst e
    have hz : n / 256 ^ wd n = 0 := Int.ediv_eq_zero_of_lt h0 (wd_lt h0 h1)
    have e2 : (wd n : Int) % 256 = (wd n : Int) := by omega
    rw [hz]
    refine Ev.step (fun k => by rw [syzygyref06_Put.l0, e2]) ?_
    refine Ev.neg (by decide) (Ev.some_bind (Ev.bind (rfixed_ev n hw) (Ev.pos ?_ ?_)))
    · rw [strOfNums_size, strOfNums_size, lows_len]; simp; omega
    · rw [strOf_append]; exact Ev.now _
  | succ d ih =>
    intro c hc
    have hpos := wd_more h0 h1 (c := c) (by omega)
    have hq : n / 256 ^ c / 256 = n / 256 ^ (c + 1) := by
      rw [Int.pow_succ, Int.ediv_ediv_of_nonneg (Int.le_of_lt (p256_pos c))]
    have hlt : n / 256 ^ (c + 1) < B := by
      refine Int.lt_of_le_of_lt (Int.ediv_le_self _ h0) h1
    have hnn : 0 ≤ n / 256 ^ (c + 1) := Int.ediv_nonneg h0 (Int.le_of_lt (p256_pos _))
    have e1 : wrap64 ((c : Int) + 1) = ((c + 1 : Nat) : Int) := by rw [w64 (by omega)]; omega
    have e2 : IntKind.u64.wrap (Int.tdiv (n / 256 ^ c) 256) = n / 256 ^ (c + 1) := by
      rw [Int.tdiv_eq_ediv_of_nonneg (Int.le_of_lt hpos), hq]
      exact wr_id hnn hlt
    refine Ev.step (fun k => by rw [syzygyref06_Put.l0, e1, e2]) (Ev.pos hpos ?_)
    exact ih (c + 1) (by omega)
theorem rput_ev {n : Int} (h0 : 0 ≤ n) (h1 : n < B) : Ev (fun k => syzygyref06_Put.f k n) (strOfNums (putB n)) := by
  unfold syzygyref06_Put.f
  have h := rput_l h0 h1 (wd n) 0 (by omega)
  rw [show n / 256 ^ 0 = n from by rw [Int.pow_zero, Int.ediv_one]] at h
  exact h
theorem p256_mono {m n : Nat} (h : m ≤ n) : (256 : Int) ^ m ≤ 256 ^ n := by
  have h2 : (256 : Nat) ^ m ≤ 256 ^ n := Nat.pow_le_pow_right (by decide) h
  have h3 : ∀ m : Nat, (256 : Int) ^ m = ((256 ^ m : Nat) : Int) := fun m => by rw [Int.natCast_pow]; rfl
  rw [h3, h3]
  exact Int.ofNat_le.2 h2
theorem p256_B {m : Nat} (h : m ≤ 8) : (256 : Int) ^ m ≤ B := by
  have := p256_mono h
  have e : (256 : Int) ^ 8 = B := by decide
  omega
theorem be_run : ∀ (l : List Int) (a : Int) (m : Nat), Bytes l → 0 ≤ a → a < 256 ^ m → m + l.length ≤ 8 → l.foldl Oct.stp a = l.foldl (fun a c => a * 256 + c) a ∧ 0 ≤ l.foldl (fun a c => a * 256 + c) a ∧ l.foldl (fun a c => a * 256 + c) a < 256 ^ (m + l.length)
  | [], a, m, _, h0, h1, _ => ⟨rfl, h0, h1⟩
  | x :: l, a, m, hb, h0, h1, h8 => by
    have hx := hb x (List.mem_cons_self ..)
    have hl : Bytes l := fun y hy => hb y (List.mem_cons_of_mem _ hy)
    rw [List.length_cons] at h8
    have hs : a * 256 + x < 256 ^ (m + 1) := by
      rw [Int.pow_succ]
      generalize (256 : Int) ^ m = p at h1 ⊢
      omega
    have hB := p256_B (m := m + 1) (by omega)
    have e := stp_eq h0 hx (by omega)
    have r := be_run l (a * 256 + x) (m + 1) hl (by omega) hs (by omega)
    rw [List.foldl_cons, List.foldl_cons, e, List.length_cons, show m + (l.length + 1) = m + 1 + l.length by omega]
    exact r
theorem be_unb {l : List Int} (hb : Bytes l) (h8 : l.length ≤ 8) : Oct.be l = unb l ∧ 0 ≤ unb l ∧ unb l < 256 ^ l.length := by
  have r := be_run l 0 0 hb (Int.le_refl _) (by decide) (by omega)
  rw [Nat.zero_add] at r
  exact r
theorem unb_snoc (l : List Int) (c : Int) : unb (l ++ [c]) = unb l * 256 + c := by unfold unb; rw [List.foldl_append]; rfl
theorem rnumber_l {l : List Int} (hl : Bytes l) (h8 : l.length ≤ 8) : ∀ (d i : Nat), i + d = l.length → Ev (fun k => syzygyref06_number.l0 k (strOfNums l) (unb (l.take i)) (i : Int)) (unb l) := by
  intro d
  induction d with
  | zero =>
    intro i hi
    have hs : ¬ (i : Int) < ((strOfNums l).size : Int) := by rw [size_str]; omega
    rw [List.take_of_length_le (by omega)]
    exact Ev.step (fun k => by rw [syzygyref06_number.l0]) (Ev.neg hs (Ev.now _))
  | succ d ih =>
    intro i hi
    have hil : i < l.length := by omega
    have hs : (i : Int) < ((strOfNums l).size : Int) := by rw [size_str]; omega
    have hi2 : i + 1 + d = l.length := by omega
    have hi0 : (0 : Int) ≤ (i : Int) := by omega
    have e4 : wrap64 ((i : Int) + 1) = ((i + 1 : Nat) : Int) := by rw [w64 (by omega)]; omega
    obtain ⟨_, v0, v1⟩ := be_unb (hl.take i) (by rw [List.length_take]; omega)
    obtain ⟨_, u0, u1⟩ := be_unb (hl.take (i + 1)) (by rw [List.length_take]; omega)
    have ht : l.take (i + 1) = l.take i ++ [l.getD i 0] := Oct.take_snoc l i hil
    have hx : 0 ≤ l.getD i 0 ∧ l.getD i 0 < 256 := by
      rw [List.getD_eq_getElem?_getD, List.getElem?_eq_getElem hil]; exact hl _ (List.getElem_mem hil)
    have hB := p256_B (m := i + 1) (by omega)
    have lt1 : (l.take (i + 1)).length = i + 1 := by rw [List.length_take]; omega
    rw [lt1] at u1
    have eu : unb (l.take (i + 1)) = unb (l.take i) * 256 + l.getD i 0 := by rw [ht, unb_snoc]
    have e1 : IntKind.u64.wrap (unb (l.take i) * 256) = unb (l.take i) * 256 := wr_id (by omega) (by omega)
    have e2 : IntKind.u64.wrap (l.getD i 0) = l.getD i 0 := wr_id (by omega) (by rw [B_eq]; omega)
    have e3 : IntKind.u64.wrap (unb (l.take i) * 256 + l.getD i 0) = unb (l.take (i + 1)) := by rw [← eu]; exact wr_id u0 (by omega)
    have e5 : bt (strOfNums l) (i : Int) = l.getD i 0 := bt_str hl i
    refine Ev.step (fun k => by rw [syzygyref06_number.l0, e5, e1, e2, e3, e4]) ?_
    exact Ev.pos hs (Ev.pos hi0 (ih (i + 1) hi2))
theorem rnumber_ev (x : ByteArray) (h8 : x.size ≤ 8) : Ev (fun k => syzygyref06_number.f k x) (Oct.be (bytesOf x)) := by
  have hb := bytes_of x
  have hl : (bytesOf x).length ≤ 8 := by rw [bytesOf_length]; exact h8
  have h := rnumber_l hb hl (bytesOf x).length 0 (by omega)
  rw [str_bytes, ← (be_unb hb hl).1] at h
  exact h
def gotD (v : Int ⊕ (Int × ByteArray)) : Int × ByteArray × Int := match v with | .inl c => (0, { data := #[] }, c) | .inr (n, t) => (n, t, 0)
theorem oget_eq {s : ByteArray} (hs : s.size ≤ 1000000) : octet_Get.f s = some (gotD (Oct.num s)) := by
  unfold octet_Get.f
  rw [if_pos (by omega)]
  rfl
theorem rget_ev {s : ByteArray} (hs : s.size ≤ 1000000) : Ev (fun k => syzygyref06_Get.f k s) (gotD (Oct.num s)) := by
  unfold syzygyref06_Get.f Oct.num
  by_cases h1 : s.size < 1
  · rw [if_pos h1]; exact Ev.pos (by omega) (Ev.now _)
  · rw [if_neg h1]
    obtain ⟨b, hb⟩ := Int.eq_ofNat_of_zero_le (bt_range s 0).1
    have hbb : b ≤ 255 := by have := (bt_range s 0).2; omega
    rw [hb, Int.toNat_natCast]
    have e1 : wrap64 (b : Int) = (b : Int) := w64 (by omega)
    have e2 : wrap64 (1 + (b : Int)) = ((1 + b : Nat) : Int) := by rw [w64 (by omega)]; omega
    rw [e1, e2, Int.toNat_natCast]
    refine Ev.neg (by omega) (Ev.pos (by omega) ?_)
    by_cases h2 : 8 < b
    · rw [if_pos h2]; exact Ev.pos (by omega) (Ev.now _)
    · rw [if_neg h2]
      refine Ev.neg (by omega) ?_
      by_cases h3 : s.size < 1 + b
      · rw [if_pos h3]; exact Ev.pos (by omega) (Ev.now _)
      · rw [if_neg h3]
        have hn := rnumber_ev (s.extract 1 (1 + b)) (by rw [ByteArray.size_extract]; omega)
        refine Ev.neg (by omega) ?_
        by_cases h4 : b = 0
        · rw [if_neg (fun h => h.1 h4)]
          exact Ev.neg (by omega) (Ev.pos (by omega) (Ev.pos (by omega) (Ev.bind hn (Ev.pos (by omega) (Ev.now _)))))
        · refine Ev.pos (by omega) (Ev.pos (by omega) ?_)
          by_cases h5 : bt s 1 = 0
          · rw [if_pos ⟨h4, h5⟩]; exact Ev.pos h5 (Ev.now _)
          · rw [if_neg (fun h => h5 h.2)]
            exact Ev.neg h5 (Ev.pos (by omega) (Ev.pos (by omega) (Ev.bind hn (Ev.pos (by omega) (Ev.now _)))))
theorem num_err {s : ByteArray} {c : Int} (h : Oct.num s = .inl c) : c ≠ 0 := by
  unfold Oct.num at h
  by_cases h1 : s.size < 1
  · rw [if_pos h1] at h; cases h; decide
  · rw [if_neg h1] at h
    by_cases h2 : 8 < (bt s 0).toNat
    · rw [if_pos h2] at h; cases h; decide
    · rw [if_neg h2] at h
      by_cases h3 : s.size < 1 + (bt s 0).toNat
      · rw [if_pos h3] at h; cases h; decide
      · rw [if_neg h3] at h
        by_cases h4 : (bt s 0).toNat ≠ 0 ∧ bt s 1 = 0
        · rw [if_pos h4] at h; cases h; decide
        · rw [if_neg h4] at h; cases h
end Go.Proofs.Ytfoickaangjmnaa.EOQueueBytes
end
section
set_option linter.unusedVariables false
set_option linter.unusedSimpArgs false
namespace Go.Proofs.Ytfoickaangjmnaa.EOQueueBytes
open Go.RowKit Go.Proofs.Ytfoickaangjmnaa.POQueueBytes Go.Proofs.YtfoickaangjmnaaN Go.Proofs.YtfoickaangjmnaaW.PrintWords Go.Proofs.YtfoickaangjmnaaW.PrintLast Go.Proofs.YtfoickaangjmnaaW.PrintMore
def allp : List (Int × Int) := (List.range 24).flatMap (fun (j : Nat) => (List.range j).map (fun (i : Nat) => ((i : Int), (j : Int))))
theorem allp_mem {a b : Int} (h0 : 0 ≤ a) (h1 : a < b) (h2 : b < 24) : (a, b) ∈ allp := by
  unfold allp
  rw [List.mem_flatMap]
  refine ⟨b.toNat, List.mem_range.2 (by omega), List.mem_map.2 ⟨a.toNat, List.mem_range.2 (by omega), ?_⟩⟩
  rw [Int.toNat_of_nonneg h0, Int.toNat_of_nonneg (by omega)]
theorem nodup_le {α : Type} [DecidableEq α] : ∀ (l m : List α), l.Nodup → (∀ x ∈ l, x ∈ m) → l.length ≤ m.length
  | [], m, _, _ => Nat.zero_le _
  | a :: t, m, h, hs => by
    rw [List.nodup_cons] at h
    have ha := hs a (List.mem_cons_self ..)
    have := nodup_le t (m.erase a) h.2 (fun x hx => (List.mem_erase_of_ne (fun e => h.1 (by rw [← e]; exact hx))).2 (hs x (List.mem_cons_of_mem _ hx)))
    have h2 := List.length_erase_of_mem ha
    have h3 := List.length_pos_of_mem ha
    rw [List.length_cons]
    omega
theorem may_few {l : List S26} (h : queue_May.go 24 [] l = true) : l.length ≤ 276 := by
  have h1 := (may_nodup 24 l [] h).1
  obtain ⟨_, _, h2⟩ := may_all 24 l [] h
  have h3 := nodup_le (l.map tp) allp h1 (fun x hx => by
    obtain ⟨p, hp, rfl⟩ := List.mem_map.1 hx
    have := h2 p hp
    exact allp_mem this.1 this.2.1 this.2.2)
  rw [List.length_map, show allp.length = 276 by decide +kernel] at h3
  exact h3
theorem putl_bytes (l : List S26) : Bytes (putl l) := by
  intro x hx
  unfold putl at hx
  obtain ⟨p, _, hx⟩ := List.mem_flatMap.1 hx
  simp only [List.mem_cons, List.not_mem_nil, or_false] at hx
  rcases hx with rfl | rfl <;> omega
def putv (l : List S26) : ByteArray × Int := if queue_May.go 24 [] l = true then (strOfNums (putB (l.length : Int) ++ putl l), 0) else ({ data := #[] }, 1)
theorem qput_ev (l : List S26) (hl : l.length ≤ 1000) : Ev (fun k => queue_Put.f k l) (putv l) := by
  unfold queue_Put.f putv
  refine Ev.pos (by omega) ?_
  cases queue_May.go 24 [] l with
  | false => exact Ev.neg (by decide) (Ev.now _)
  | true =>
    have hB : (l.length : Int) < B := by rw [B_eq]; omega
    refine Ev.pos rfl (Ev.bind (put_ev (by omega) hB) ?_)
    have hw := wd_le hB
    refine Ev.pos (by rw [size_str, putB_len]; omega) ?_
    rw [bytes_str (putB_bytes hB)]
    exact Ev.now _
theorem rput_l15 (l : List S26) (hl : l.length ≤ 1000) : ∀ (m i : Nat) (x : List Int), i + m = l.length → x.length ≤ 2 * i + 9 → Ev (fun k => syzygyref15_Put.l0 k l (strOfNums x) (i : Int)) (strOfNums (x ++ putl (l.drop i)), 0)
  | 0, i, x, h, hx => by
    refine Ev.step (f := _) (fun k => rfl) (Ev.neg (by omega) ?_)
    rw [List.drop_eq_nil_of_le (by omega)]
    show Ev _ (strOfNums (x ++ []), 0)
    rw [List.append_nil]
    exact Ev.now _
  | m + 1, i, x, h, hx => by
    have hi : i < l.length := by omega
    refine Ev.step (f := _) (fun k => rfl) (Ev.pos (by omega) (Ev.pos (by omega) (Ev.bind_const rfl (Ev.pos (by rw [size_str, size_str]; show x.length + 2 ≤ _; omega) ?_))))
    rw [rdp l i hi, strOf_append, ws i (by omega)]
    refine Ev.eq (rput_l15 l hl m (i + 1) _ (by omega) (by rw [List.length_append]; show x.length + 2 ≤ _; omega)) ?_
    rw [List.drop_eq_getElem_cons hi, List.append_assoc]
    rfl
theorem rput15_ev (l : List S26) (hl : l.length ≤ 1000) : Ev (fun k => syzygyref15_Put.f k l) (putv l) := by
  unfold syzygyref15_Put.f putv
  refine Ev.bind (may_ev 24 l (by omega)) ?_
  cases queue_May.go 24 [] l with
  | false => exact Ev.neg (by decide) (Ev.now _)
  | true =>
    have hB : (l.length : Int) < B := by rw [B_eq]; omega
    have hw : IntKind.u64.wrap (l.length : Int) = (l.length : Int) := by rw [IntKind.wrap_u64]; omega
    rw [hw]
    have hw := wd_le hB
    refine Ev.pos rfl (Ev.bind (rput_ev (by omega) hB) ?_)
    exact rput_l15 l hl l.length 0 _ (by omega) (by rw [putB_len]; omega)
def prs : Nat → List Int → List S26
  | 0, _ => []
  | n + 1, r => ⟨r.getD 0 0, r.getD 1 0⟩ :: prs n (r.drop 2)
theorem prs_length : ∀ (n : Nat) (r : List Int), (prs n r).length = n
  | 0, _ => rfl
  | n + 1, r => by unfold prs; rw [List.length_cons, prs_length n]
def fin (L : List S26) (T : ByteArray) : List S26 × ByteArray × Int := if queue_May.go 24 [] L = true then (L, T, 0) else ([], { data := #[] }, 62)
theorem byte_w {r : List Int} (h : Bytes r) (i : Nat) : wrap64 (r.getD i 0) = r.getD i 0 := by
  have : 0 ≤ r.getD i 0 ∧ r.getD i 0 < 256 := by
    by_cases hi : i < r.length
    · rw [List.getD_eq_getElem?_getD, List.getElem?_eq_getElem hi]
      exact h _ (List.getElem_mem hi)
    · rw [List.getD_eq_getElem?_getD, List.getElem?_eq_none (by omega)]
      decide
  exact w64 (by omega)
theorem qget_l (n : Nat) (hn : n ≤ 300) : ∀ (m i : Nat) (acc : List S26) (r : List Int), i + m = n → acc.length ≤ i → 2 * m ≤ r.length → r.length ≤ 2000 → Bytes r → Ev (fun k => queue_Get.l0 k acc (strOfNums r) (n : Int) (i : Int)) (fin (acc ++ prs m r) (strOfNums (r.drop (2 * m))))
  | 0, i, acc, r, h, ha, h2, h3, hb => by
    refine Ev.step (f := _) (fun k => rfl) (Ev.neg (by omega) (Ev.bind_const (a := queue_May.go 24 [] acc) (by unfold queue_May.f; rw [if_pos (by omega)]) ?_))
    unfold prs fin
    rw [List.append_nil, Nat.mul_zero, List.drop_zero]
    cases queue_May.go 24 [] acc with
    | false => exact Ev.neg (by decide) (Ev.now _)
    | true => exact Ev.pos rfl (Ev.now _)
  | m + 1, i, acc, r, h, ha, h2, h3, hb => by
    refine Ev.step (f := _) (fun k => rfl) (Ev.pos (by omega) (Ev.pos (by rw [size_str]; omega) (Ev.pos (by rw [size_str]; omega) (Ev.pos (by omega) (Ev.pos (by rw [size_str]; omega) ?_)))))
    have e0 : bt (strOfNums r) 0 = r.getD 0 0 := bt_str hb 0
    have e1 : bt (strOfNums r) 1 = r.getD 1 0 := bt_str hb 1
    have e2 : IntKind.u64.wrap ((i : Int) + 1) = ((i + 1 : Nat) : Int) := by rw [IntKind.wrap_u64]; omega
    rw [e0, e1, byte_w hb, byte_w hb, e2, str_extract, size_str, List.take_of_length_le (Nat.le_refl _)]
    refine Ev.eq (qget_l n hn m (i + 1) _ (r.drop 2) (by omega) (by rw [List.length_append, List.length_singleton]; omega) (by rw [List.length_drop]; omega) (by rw [List.length_drop]; omega) (hb.drop 2)) ?_
    rw [List.drop_drop, List.append_assoc, show 2 + 2 * m = 2 * (m + 1) by omega]
    rfl
theorem prs_at (r : List Int) (m i : Nat) : prs (m + 1) (r.drop (2 * i)) = ⟨r.getD (2 * i) 0, r.getD (2 * i + 1) 0⟩ :: prs m (r.drop (2 * (i + 1))) := by
  have g : ∀ j, (r.drop (2 * i)).getD j 0 = r.getD (2 * i + j) 0 := fun j => by rw [List.getD_eq_getElem?_getD, List.getD_eq_getElem?_getD, List.getElem?_drop]
  conv => lhs; unfold prs
  rw [g, g, List.drop_drop]
  rfl
theorem rget_l (n : Nat) (hn : n ≤ 300) (r : List Int) (h2 : 2 * n ≤ r.length) (h3 : r.length ≤ 2000) (hb : Bytes r) : ∀ (m i : Nat) (acc : List S26), i + m = n → acc.length ≤ i → Ev (fun k => syzygyref15_Get.l0 k (strOfNums r) (n : Int) acc (i : Int)) (fin (acc ++ prs m (r.drop (2 * i))) (strOfNums (r.drop (2 * n))))
  | 0, i, acc, h, ha => by
    have e : wrap64 (2 * (n : Int)) = ((2 * n : Nat) : Int) := by rw [w64 (by omega)]; omega
    refine Ev.step (f := _) (fun k => rfl) (Ev.neg (by omega) (Ev.bind (may_ev 24 acc (by omega)) ?_))
    rw [e]
    unfold prs fin
    rw [List.append_nil]
    cases queue_May.go 24 [] acc with
    | false => exact Ev.neg (by decide) (Ev.now _)
    | true =>
      refine Ev.pos rfl (Ev.pos (by omega) (Ev.pos (by rw [size_str]; omega) ?_))
      rw [Int.toNat_natCast, str_extract, size_str, List.take_of_length_le (Nat.le_refl _)]
      exact Ev.now _
  | m + 1, i, acc, h, ha => by
    have e : wrap64 (2 * (i : Int)) = ((2 * i : Nat) : Int) := by rw [w64 (by omega)]; omega
    have e1 : wrap64 (wrap64 (2 * (i : Int)) + 1) = ((2 * i + 1 : Nat) : Int) := by rw [e, w64 (by omega)]; omega
    refine Ev.step (f := _) (fun k => rfl) (Ev.pos (by omega) (Ev.pos (by omega) (Ev.pos (by rw [size_str]; omega) (Ev.pos (by omega) (Ev.pos (by rw [size_str]; omega) (Ev.pos (by omega) ?_))))))
    rw [e1, e, bt_str hb, bt_str hb, byte_w hb, byte_w hb, ws i (by omega), prs_at]
    refine Ev.eq (rget_l n hn r h2 h3 hb m (i + 1) _ (by omega) (by rw [List.length_append, List.length_singleton]; omega)) ?_
    rw [List.append_assoc]
    rfl
def getv (s : ByteArray) : List S26 × ByteArray × Int := match Oct.num s with
  | .inl c => ([], { data := #[] }, c)
  | .inr (n, t) => if n > 300 then ([], { data := #[] }, 62) else if (t.size : Int) < 2 * n then ([], { data := #[] }, 60) else fin (prs n.toNat (bytesOf t)) (strOfNums ((bytesOf t).drop (2 * n.toNat)))
theorem num_yes {s t : ByteArray} {n : Int} (h : Oct.num s = .inr (n, t)) : 0 ≤ n ∧ n < B ∧ t.size ≤ s.size := by
  unfold Oct.num at h
  by_cases h1 : s.size < 1
  · rw [if_pos h1] at h; cases h
  · rw [if_neg h1] at h
    by_cases h2 : 8 < (bt s 0).toNat
    · rw [if_pos h2] at h; cases h
    · rw [if_neg h2] at h
      by_cases h3 : s.size < 1 + (bt s 0).toNat
      · rw [if_pos h3] at h; cases h
      · rw [if_neg h3] at h
        by_cases h4 : (bt s 0).toNat ≠ 0 ∧ bt s 1 = 0
        · rw [if_pos h4] at h; cases h
        · rw [if_neg h4] at h
          cases h
          have hz : (bytesOf (s.extract 1 (1 + (bt s 0).toNat))).length ≤ 8 := by rw [bytesOf_length, ByteArray.size_extract]; omega
          obtain ⟨e, a, b⟩ := be_unb (bytes_of _) hz
          rw [e]
          refine ⟨a, Int.lt_of_lt_of_le b (p256_B hz), ?_⟩
          rw [ByteArray.size_extract]
          omega
theorem qget_ev (s : ByteArray) (hs : s.size ≤ 1900) : Ev (fun k => queue_Get.f k s) (getv s) := by
  unfold queue_Get.f getv
  refine Ev.bind_const (oget_eq (by omega)) ?_
  cases hn : Oct.num s with
  | inl c => exact Ev.neg (num_err hn) (Ev.now _)
  | inr p =>
    obtain ⟨n, t⟩ := p
    obtain ⟨h0, h1, h2⟩ := num_yes hn
    refine Ev.pos rfl ?_
    show Ev (fun k => if n > 300 then _ else _) (if n > 300 then _ else _)
    by_cases c0 : n > 300
    · rw [if_pos c0]; exact Ev.pos c0 (Ev.now _)
    · rw [if_neg c0]
      refine Ev.neg c0 ?_
      show Ev (fun k => if IntKind.u64.wrap (t.size : Int) < IntKind.u64.wrap (2 * n) then _ else _) _
      have e1 : IntKind.u64.wrap (t.size : Int) = (t.size : Int) := by rw [IntKind.wrap_u64]; omega
      have e2 : IntKind.u64.wrap (2 * n) = 2 * n := by rw [IntKind.wrap_u64]; omega
      rw [e1, e2]
      by_cases c1 : (t.size : Int) < 2 * n
      · rw [if_pos c1]; exact Ev.pos c1 (Ev.now _)
      · rw [if_neg c1]
        refine Ev.neg c1 ?_
        have hl := bytesOf_length t
        have := qget_l n.toNat (by omega) n.toNat 0 [] (bytesOf t) (by omega) (by simp) (by omega) (by omega) (bytes_of t)
        rw [Int.toNat_of_nonneg h0, str_bytes] at this
        exact this
theorem rget15_ev (s : ByteArray) (hs : s.size ≤ 1900) : Ev (fun k => syzygyref15_Get.f k s) (getv s) := by
  unfold syzygyref15_Get.f getv
  refine Ev.bind (rget_ev (by omega)) ?_
  cases hn : Oct.num s with
  | inl c => exact Ev.neg (num_err hn) (Ev.now _)
  | inr p =>
    obtain ⟨n, t⟩ := p
    obtain ⟨h0, h1, h2⟩ := num_yes hn
    refine Ev.pos rfl ?_
    show Ev (fun k => if n > 300 then _ else _) (if n > 300 then _ else _)
    by_cases c0 : n > 300
    · rw [if_pos c0]; exact Ev.pos c0 (Ev.now _)
    · rw [if_neg c0]
      refine Ev.neg c0 ?_
      show Ev (fun k => if (t.size : Int) < wrap64 (2 * wrap64 n) then _ else syzygyref15_Get.l0 k t (wrap64 n) [] 0) _
      have e1 : wrap64 n = n := w64 (by omega)
      have e2 : wrap64 (2 * n) = 2 * n := w64 (by omega)
      rw [e1, e2]
      by_cases c1 : (t.size : Int) < 2 * n
      · rw [if_pos c1]; exact Ev.pos c1 (Ev.now _)
      · rw [if_neg c1]
        refine Ev.neg c1 ?_
        have hl := bytesOf_length t
        have := rget_l n.toNat (by omega) (bytesOf t) (by omega) (by omega) (bytes_of t) n.toNat 0 [] (by omega) (by simp)
        rw [Int.toNat_of_nonneg h0, str_bytes, Nat.mul_zero, List.drop_zero] at this
        exact this
theorem prs_putl (R : List Int) : ∀ l : List S26, (∀ a ∈ l, 0 ≤ a.f0 ∧ a.f0 < a.f1 ∧ a.f1 < 24) → prs l.length (putl l ++ R) = l
  | [], _ => rfl
  | p :: t, h => by
    have hp := h p (List.mem_cons_self ..)
    have e : putl (p :: t) ++ R = (p.f0 % 256) :: (p.f1 % 256) :: (putl t ++ R) := rfl
    have ih := prs_putl R t (fun a ha => h a (List.mem_cons_of_mem _ ha))
    rw [e, List.length_cons]
    show ⟨p.f0 % 256, p.f1 % 256⟩ :: prs t.length (putl t ++ R) = p :: t
    rw [ih, Int.emod_eq_of_lt hp.1 (by omega), Int.emod_eq_of_lt (by omega) (by omega)]
theorem get_put {l : List S26} (h : queue_May.go 24 [] l = true) (rest : ByteArray) : getv (strOfNums (putB (l.length : Int) ++ putl l) ++ rest) = (l, rest, 0) := by
  have hf := may_few h
  have hB : (l.length : Int) < B := by rw [B_eq]; omega
  have hR : Bytes (putl l ++ bytesOf rest) := (putl_bytes l).append (bytes_of rest)
  have e : strOfNums (putB (l.length : Int) ++ putl l) ++ rest = strOfNums (putB (l.length : Int) ++ (putl l ++ bytesOf rest)) := by
    conv => lhs; rw [← str_bytes rest]
    rw [strOf_append, List.append_assoc]
  unfold getv
  rw [e, num_put (by omega) hB hR]
  dsimp only
  rw [if_neg (by omega), if_neg (by rw [size_str, List.length_append, putl_length]; omega), Int.toNat_natCast, bytes_str hR, prs_putl _ l (may_all 24 l [] h).2.2]
  unfold fin
  rw [if_pos h, List.drop_append_of_le_length (by rw [putl_length]; omega), List.drop_eq_nil_of_le (by rw [putl_length]; omega), List.nil_append, str_bytes]
theorem getv_len (s : ByteArray) : (getv s).1.length ≤ 300 := by
  unfold getv
  split
  · exact Nat.zero_le _
  · split
    · exact Nat.zero_le _
    · split
      · exact Nat.zero_le _
      · unfold fin
        split
        · show (prs _ _).length ≤ 300
          rw [prs_length]; omega
        · exact Nat.zero_le _
end Go.Proofs.Ytfoickaangjmnaa.EOQueueBytes
end
section
set_option linter.unusedVariables false
set_option linter.unusedSimpArgs false
namespace Go.Proofs.YtfoickaangjmnaaN
open Go.ChangeShapes Go.WideShapes Go.ChangeAt Go.RowKit Go.Proofs.YtfoickaangjmnaaW.PrintWords
def Opens (P : Program) (t : TypeId) {α : Type} (K : Kd α) (p : α → Prop) : Prop :=
  ∀ (H : Type) (enc : TypeId × Value → H) (w : World) (base : Nat) (spare : Nat → Bool) (held : Bool) (fuel : Nat) (cs : List Value) (x : DataW H × List MemPlace), DataW.trod enc P w base spare held fuel t cs = some x → ∃ a, K.K w a cs ∧ p a
namespace Opens
theorem choose_list {α : Type} {n : Nat} {Q : Nat → α → Prop} (h : ∀ i, i < n → ∃ a, Q i a) : ∃ l : List α, l.length = n ∧ ∀ i x, l[i]? = some x → Q i x := by
  induction n with
  | zero => exact ⟨[], rfl, fun i x hx => by simp at hx⟩
  | succ n ih =>
    obtain ⟨l, hl, hq⟩ := ih (fun i hi => h i (by omega))
    obtain ⟨a, ha⟩ := h n (by omega)
    refine ⟨l ++ [a], by simp [hl], fun i x hx => ?_⟩
    by_cases hi : i < l.length
    · rw [List.getElem?_append_left hi] at hx; exact hq i x hx
    · rw [List.getElem?_append_right (by omega)] at hx
      have h1 : i - l.length < [a].length := (List.getElem?_eq_some_iff.1 hx).1
      have h2 : i - l.length = 0 := by simpa using h1
      rw [h2] at hx
      obtain rfl := Option.some.inj hx
      have : i = n := by omega
      subst this
      exact ha
theorem add_add (a : Addr) (m n : Nat) : (a.add m).add n = a.add (m + n) := by
  unfold Addr.add
  by_cases hn : n = 0
  · subst hn; simp
  · by_cases hm : m = 0
    · subst hm; simp
    · rw [if_neg hn, if_neg hm, if_neg (by omega)]
      simp [Nat.add_assoc]
section
variable {P : Program} {t e : TypeId} {α β γ δ : Type} {K : Kd α} {p : α → Prop} {K0 : Kd α} {K1 : Kd β} {K2 : Kd γ} {p0 : α → Prop} {p1 : β → Prop} {p2 : γ → Prop}
theorem imp {q : α → Prop} (h : Opens P t K p) (hq : ∀ x, p x → q x) : Opens P t K q := fun _ _ _ _ _ _ _ _ _ h0 => let ⟨a, ka, pa⟩ := h _ _ _ _ _ _ _ _ _ h0; ⟨a, ka, hq a pa⟩
theorem int {k : IntKind} (ht : P.underlying t = some (.int k)) : Opens P t (Kd.int k) (fun n => (Lit.int k n).wf = true) := by
  intro H enc w base spare held fuel cs x h
  obtain ⟨n, rfl, _, hw⟩ := DataW.trod_int ht h
  exact ⟨n, rfl, hw⟩
theorem bool (ht : P.underlying t = some .bool) : Opens P t Kd.bool (fun _ => True) := by
  intro H enc w base spare held fuel cs x h
  obtain ⟨n, rfl, _⟩ := DataW.trod_bool ht h
  exact ⟨n, rfl, trivial⟩
theorem string (ht : P.underlying t = some .string) : Opens P t Kd.string (fun s => s.size ≤ maxLen) := by
  intro H enc w base spare held fuel cs x h
  obtain ⟨n, rfl, _, hw⟩ := DataW.trod_string ht h
  exact ⟨n, rfl, hw⟩
theorem row {H : Type} {enc : TypeId × Value → H} {w : World} {base : Nat} {spare : Nat → Bool} {held : Bool} {fuel : Nat} {cs : List Value} {x : DataW H × List MemPlace} (ht : P.underlying t = some (.slice e)) (hc : P.cellsOf e = K.sz) (he : Opens P e K p) (h : DataW.trod enc P w base spare held fuel t cs = some x) :
    ∃ A c l, cs = [.slice A l.length c] ∧ l.length ≤ c ∧ K.C w A l.length l ∧ l.length ≤ maxLen ∧ ∀ x ∈ l, p x := by
  rcases DataW.trod_slice ht h with ⟨rfl, _⟩ | ⟨a, len, cap, elems, rest, n, _, rfl, rfl, hb, hl, hm, hlen, hel, hsp, hns⟩
  · exact ⟨none, 0, [], rfl, Nat.le_refl _, ⟨rfl, (show (0 : Nat) ≤ 9223372036854775807 by decide), fun h => absurd h (Nat.lt_irrefl _)⟩, Nat.zero_le _, fun x hx => absurd hx List.not_mem_nil⟩
  · obtain ⟨l, hll, hq⟩ := choose_list (n := len) (Q := fun i v => ∃ c, w.cells? base (a.add (i * K.sz)) K.sz = some c ∧ K.K w v c ∧ p v) (fun i hi => by
      have h1 := hel i hi
      rw [List.getElem?_eq_getElem (by omega), Option.bind_eq_some_iff, hc] at h1
      obtain ⟨c, h2, h3⟩ := h1
      obtain ⟨v, h4, h5⟩ := he _ _ _ _ _ _ _ _ _ h3
      exact ⟨v, c, h2, h4, h5⟩)
    subst hll
    refine ⟨some a, cap, l, rfl, hl, ⟨rfl, by unfold maxLen at hm; omega, fun _ => ⟨a, rfl, fun j v hj => ?_⟩⟩, Nat.le_trans hl hm, fun x hx => ?_⟩
    · obtain ⟨c, h2, h4, _⟩ := hq j v hj
      obtain ⟨_, h6, h7⟩ := World.cells?_some h2
      refine ⟨c, h6, h4, fun i u hu => ?_⟩
      have hi : i < K.sz := by rw [← h6]; exact (List.getElem?_eq_some_iff.1 hu).1
      rw [← add_add, h7 i hi, hu]
    · obtain ⟨i, hi, rfl⟩ := List.getElem_of_mem hx
      obtain ⟨_, _, _, h5⟩ := hq i _ (List.getElem?_eq_getElem hi)
      exact h5
theorem slice (ht : P.underlying t = some (.slice e)) (hc : P.cellsOf e = K.sz) (he : Opens P e K p) : Opens P t (Kd.slice e K) (fun l => l.length ≤ maxLen ∧ ∀ x ∈ l, p x) := by
  intro H enc w base spare held fuel cs x h
  obtain ⟨A, c, l, rfl, h1, h2, h3, h4⟩ := row ht hc he h
  exact ⟨l, ⟨A, c, rfl, h1, h2⟩, h3, h4⟩
theorem struct2 {f0 f1 : Field} (f : δ → α × β) (g : α → β → δ) (hfg : ∀ a b, f (g a b) = (a, b)) (ht : P.underlying t = some (.struct #[f0, f1])) (o0 : f0.offset = 0) (o1 : f1.offset = K0.sz) (c0 : P.cellsOf f0.type = K0.sz) (c1 : P.cellsOf f1.type = K1.sz) (hct : P.cellsOf t = K0.sz + K1.sz)
    (h0 : Opens P f0.type K0 p0) (h1 : Opens P f1.type K1 p1) : Opens P t (Kd.iso (Kd.pair K0 K1) f) (fun x => p0 (f x).1 ∧ p1 (f x).2) := by
  intro H enc w base spare held fuel cs x h
  obtain ⟨y0, y1, n, _, hl, e0, e1⟩ := trod_struct2 ht h
  obtain ⟨a, ka, pa⟩ := h0 _ _ _ _ _ _ _ _ _ e0
  obtain ⟨b, kb, pb⟩ := h1 _ _ _ _ _ _ _ _ _ e1
  rw [o0, c0, List.drop_zero] at ka
  rw [o1, c1, List.take_of_length_le (by rw [List.length_drop, hl, hct]; omega)] at kb
  refine ⟨g a b, ?_, ?_⟩
  · show (Kd.pair K0 K1).K w (f (g a b)) cs
    rw [hfg]
    exact ⟨cs.take K0.sz, cs.drop K0.sz, (List.take_append_drop _ _).symm, ka, kb⟩
  · show p0 (f (g a b)).1 ∧ p1 (f (g a b)).2
    rw [hfg]; exact ⟨pa, pb⟩
variable {H : Type} {enc : TypeId × Value → H} {w : World} {base : Nat} {spare : Nat → Bool} {held : Bool} {r : Reach} {b0 : Nat} {v : Value} {d : DataW H} {ps : List MemPlace}
theorem arg_row (ht : P.underlying t = some (.slice e)) (hc : P.cellsOf e = K.sz) (he : Opens P e K p) (hv : Value.okWide P w r b0 t v) (h : DataW.Trod enc P w base spare held t v d ps) : ∃ A c l, v = .slice A l.length c ∧ l.length ≤ c ∧ K.C w A l.length l ∧ l.length ≤ maxLen ∧ ∀ x ∈ l, p x := by
  obtain ⟨a, len, cap, rfl⟩ := okWide_slice ht hv
  obtain ⟨fuel, hf⟩ := h
  obtain ⟨A, c, l, hcs, h1⟩ := row ht hc he hf
  simp [Value.cells] at hcs
  obtain ⟨rfl, rfl, rfl⟩ := hcs
  exact ⟨_, _, l, rfl, h1⟩
end
end Opens
end Go.Proofs.YtfoickaangjmnaaN
end
