/- octet: what is read of bytes that were put. -/
import Derived.Test.YtijgeonhbmgikaaOOctetShortOct
import Derived.Laws.Bits64b
import Derived.Shelf.Spec.RuneCount
set_option linter.unusedVariables false
set_option linter.unusedSimpArgs false
namespace Go.Proofs.Ytijgeonhbmgikaa.EOOctetShort
open Go.RowKit Go.Proofs.Ytijgeonhbmgikaa.POOctetShort Go.Proofs.YtijgeonhbmgikaaN Go.Proofs.YtijgeonhbmgikaaW.PrintWords Go.Proofs.YtijgeonhbmgikaaW.PrintLast Go.Proofs.YtijgeonhbmgikaaW.PrintMore
def Bytes (l : List Int) : Prop := ∀ x ∈ l, 0 ≤ x ∧ x < 256
theorem Bytes.append {a b : List Int} (ha : Bytes a) (hb : Bytes b) : Bytes (a ++ b) := fun x hx => (List.mem_append.1 hx).elim (ha x) (hb x)
theorem Bytes.take {a : List Int} (ha : Bytes a) (n : Nat) : Bytes (a.take n) := fun x hx => ha x (List.mem_of_mem_take hx)
theorem Bytes.drop {a : List Int} (ha : Bytes a) (n : Nat) : Bytes (a.drop n) := fun x hx => ha x (List.mem_of_mem_drop hx)
theorem bytes_of (s : ByteArray) : Bytes (bytesOf s) := fun x hx => by
  unfold bytesOf at hx
  obtain ⟨b, _, rfl⟩ := List.mem_map.1 hx
  have := b.toNat_lt
  omega
theorem str_bytes (s : ByteArray) : strOfNums (bytesOf s) = s := by
  apply ByteArray.ext
  apply Array.ext'
  show (strOfNums (bytesOf s)).data.toList = s.data.toList
  rw [strOfNums_data, bytesOf, List.map_map]
  conv => rhs; rw [← List.map_id s.data.toList]
  apply List.map_congr_left
  intro b _
  simp
theorem bytes_str {l : List Int} (h : Bytes l) : bytesOf (strOfNums l) = l := by
  unfold bytesOf
  rw [strOfNums_data, List.map_map]
  conv => rhs; rw [← List.map_id l]
  apply List.map_congr_left
  intro x hx
  have := h x hx
  simp
  omega
theorem str_extract (l : List Int) (i j : Nat) : (strOfNums l).extract i j = strOfNums ((l.take j).drop i) := by
  apply ByteArray.ext
  apply Array.ext'
  rw [ByteArray.data_extract]
  unfold strOfNums
  simp [List.map_take, List.map_drop, List.drop_take]
theorem bt_str {l : List Int} (h : Bytes l) (i : Nat) : bt (strOfNums l) i = l.getD i 0 := by
  rw [← rd_bytesOf, bytes_str h]
  rfl
theorem size_str (l : List Int) : (strOfNums l).size = l.length := strOfNums_size l
theorem stp_eq {a c : Int} (ha : 0 ≤ a) (hc : 0 ≤ c ∧ c < 256) (h : a * 256 + c < B) : Oct.stp a c = a * 256 + c := by
  rw [B_eq] at h
  obtain ⟨x, rfl⟩ := Int.eq_ofNat_of_zero_le ha
  obtain ⟨y, rfl⟩ := Int.eq_ofNat_of_zero_le hc.1
  unfold Oct.stp
  have e1 : IntKind.u64.wrap ((x : Int) * 256) = ((2 ^ 8 * x : Nat) : Int) := by rw [IntKind.wrap_u64]; omega
  have e2 : IntKind.u64.wrap (y : Int) = ((y : Nat) : Int) := by rw [IntKind.wrap_u64]; omega
  have h3 := bits_or_u64_nat (2 ^ 8 * x) y (by omega) (by omega)
  rw [e1, e2]
  refine Eq.trans h3 ?_
  rw [← Nat.two_pow_add_eq_or_of_lt (by omega : y < 2 ^ 8)]
  omega
theorem foldl_lows (n : Int) : ∀ (w : Nat) (a : Int), 0 ≤ a → a * 256 ^ w + n % 256 ^ w < B → (lows n w).foldl Oct.stp a = a * 256 ^ w + n % 256 ^ w
  | 0, a, _, _ => by simp [lows]
  | w + 1, a, ha, h => by
    have hp := p256_pos w
    have hd0 : 0 ≤ n / 256 ^ w % 256 := Int.emod_nonneg _ (by decide)
    have hd1 : n / 256 ^ w % 256 < 256 := Int.emod_lt_of_pos _ (by decide)
    have hr := Int.emod_nonneg n (Int.ne_of_gt hp)
    have hu := unb_lows n (w + 1)
    rw [lows, unb_cons, lows_len, unb_lows] at hu
    have e : (a * 256 + n / 256 ^ w % 256) * 256 ^ w + n % 256 ^ w = a * 256 ^ (w + 1) + n % 256 ^ (w + 1) := by
      rw [← hu, Int.pow_succ, Int.add_mul, Int.mul_comm (256 ^ w) 256, ← Int.mul_assoc]; omega
    have h1 : a * 256 + n / 256 ^ w % 256 ≤ (a * 256 + n / 256 ^ w % 256) * 256 ^ w := by have := Int.mul_le_mul_of_nonneg_left (show (1 : Int) ≤ 256 ^ w by omega) (show 0 ≤ a * 256 + n / 256 ^ w % 256 by omega); omega
    rw [lows, List.foldl_cons, stp_eq ha ⟨hd0, hd1⟩ (by omega), foldl_lows n w _ (by omega) (by rw [e]; exact h), e]
theorem be_lows {n : Int} {w : Nat} (h : n % 256 ^ w < B) : Oct.be (lows n w) = n % 256 ^ w := by
  unfold Oct.be
  rw [foldl_lows n w 0 (Int.le_refl _) (by simpa using h)]
  simp
theorem wd_top {n : Int} (h0 : 0 ≤ n) (h1 : n < B) (hw : 0 < wd n) : n / 256 ^ (wd n - 1) % 256 ≠ 0 := by
  rw [B_eq] at h1
  have hn : n.toNat ≠ 0 := fun e => by
    have : n = 0 := by omega
    subst this; rw [wd_zero] at hw; omega
  obtain ⟨hb1, hb2, hb3⟩ := Lib.bitLenAux_bounds 64 n.toNat (by omega) hn
  have hb1 : 1 ≤ Lib.bitLen n.toNat := hb1
  have hb2 : 2 ^ (Lib.bitLen n.toNat - 1) ≤ n.toNat := hb2
  have hle : 2 ^ (8 * (wd n - 1)) ≤ 2 ^ (Lib.bitLen n.toNat - 1) := Nat.pow_le_pow_right (by decide) (by unfold wd; omega)
  have hlo : 256 ^ (wd n - 1) ≤ n := by
    rw [p256_two]
    have h3 : (2 : Int) ^ (8 * (wd n - 1)) = ((2 ^ (8 * (wd n - 1)) : Nat) : Int) := by rw [Int.natCast_pow]; rfl
    omega
  have hhi := wd_lt h0 (by rw [B_eq]; exact h1)
  have hp := p256_pos (wd n - 1)
  have e : (256 : Int) ^ wd n = 256 ^ (wd n - 1) * 256 := by rw [← Int.pow_succ]; congr 1; omega
  rw [e] at hhi
  have q1 : 1 ≤ n / 256 ^ (wd n - 1) := by rw [Int.le_ediv_iff_mul_le hp]; omega
  have q2 : n / 256 ^ (wd n - 1) < 256 := Int.ediv_lt_of_lt_mul hp (by rw [Int.mul_comm]; exact hhi)
  omega
theorem putB_bytes {n : Int} (h1 : n < B) : Bytes (putB n) := putB_byte h1
/-- What was put is got. -/
theorem num_put {n : Int} (h0 : 0 ≤ n) (h1 : n < B) {R : List Int} (hR : Bytes R) : Oct.num (strOfNums (putB n ++ R)) = .inr (n, strOfNums R) := by
  have hw := wd_le h1
  have hb := (putB_bytes h1).append hR
  have hl : (putB n ++ R).length = wd n + 1 + R.length := by rw [List.length_append, putB_len]
  have e0 : bt (strOfNums (putB n ++ R)) 0 = (wd n : Int) := (bt_str hb 0).trans rfl
  have e1 : (strOfNums (putB n ++ R)).extract 1 (1 + wd n) = strOfNums (lows n (wd n)) := by
    rw [str_extract]
    congr 1
    rw [show 1 + wd n = wd n + 1 from Nat.add_comm _ _, List.take_append_of_le_length (by rw [putB_len]; exact Nat.le_refl _), List.take_of_length_le (by rw [putB_len]; exact Nat.le_refl _)]
    rfl
  have e2 : (strOfNums (putB n ++ R)).extract (1 + wd n) (strOfNums (putB n ++ R)).size = strOfNums R := by
    rw [str_extract, size_str, List.take_length, show 1 + wd n = (putB n).length by rw [putB_len]; omega, List.drop_left]
  have e3 : Oct.be (bytesOf (strOfNums (lows n (wd n)))) = n := by
    have hm : n % 256 ^ wd n = n := Int.emod_eq_of_lt h0 (wd_lt h0 h1)
    rw [bytes_str (lows_byte n _), be_lows (by rw [hm]; exact h1), hm]
  have c4 : ¬ (wd n ≠ 0 ∧ bt (strOfNums (putB n ++ R)) 1 = 0) := by
    rintro ⟨hz, h⟩
    have hd := wd_top h0 h1 (by omega)
    have : bt (strOfNums (putB n ++ R)) 1 = (putB n ++ R).getD 1 0 := bt_str hb 1
    rw [this] at h
    obtain ⟨m, hm⟩ : ∃ m, wd n = m + 1 := ⟨wd n - 1, by omega⟩
    rw [hm] at hd
    unfold putB at h
    rw [hm, lows] at h
    exact hd h
  unfold Oct.num
  rw [e0, Int.toNat_natCast, e1, e2, e3, size_str, hl, if_neg (by omega), if_neg (by omega), if_neg (by omega), if_neg c4]
/-- A beginning is too short. -/
theorem num_cut {n : Int} (h1 : n < B) {R : List Int} {c : Nat} (hc : c < wd n + 1) : Oct.num (strOfNums ((putB n ++ R).take c)) = .inl 60 := by
  have hw := wd_le h1
  have hb := (putB_bytes h1).take c
  have e : (putB n ++ R).take c = (putB n).take c := List.take_append_of_le_length (by rw [putB_len]; omega)
  have hl : ((putB n).take c).length = c := by rw [List.length_take, putB_len]; omega
  rw [e]
  unfold Oct.num
  rw [size_str, hl]
  by_cases h0 : c < 1
  · rw [if_pos h0]
  · have e0 : bt (strOfNums ((putB n).take c)) 0 = (wd n : Int) := by
      refine (bt_str hb 0).trans ?_
      obtain ⟨m, rfl⟩ : ∃ m, c = m + 1 := ⟨c - 1, by omega⟩
      rfl
    rw [if_neg h0, e0, Int.toNat_natCast, if_neg (by omega), if_pos (by omega)]
end Go.Proofs.Ytijgeonhbmgikaa.EOOctetShort
