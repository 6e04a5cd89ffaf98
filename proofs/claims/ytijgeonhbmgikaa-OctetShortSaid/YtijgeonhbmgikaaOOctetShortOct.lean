/- octet: the bytes of numbers. -/
import Derived.Test.YtijgeonhbmgikaaPOOctetShortx
import Derived.Lib.ItoaNum
set_option linter.unusedVariables false
set_option linter.unusedSimpArgs false
namespace Go.Proofs.Ytijgeonhbmgikaa.EOOctetShort
open Go.RowKit Go.Proofs.Ytijgeonhbmgikaa.POOctetShort Go.Proofs.YtijgeonhbmgikaaN Go.Proofs.YtijgeonhbmgikaaW.PrintWords Go.Proofs.YtijgeonhbmgikaaW.PrintLast Go.Proofs.YtijgeonhbmgikaaW.PrintMore
theorem u64_of {x : Int} (h : (Lit.int .u64 x).wf = true) : 0 ≤ x ∧ x < B := by
  simp [Lit.wf, IntKind.min, IntKind.max, IntKind.signed, IntKind.bits] at h
  rw [B_eq]; omega
/-- The lowest w bytes of a number, the highest first. -/
def lows (n : Int) : Nat → List Int
  | 0 => []
  | i + 1 => n / 256 ^ i % 256 :: lows n i
theorem lows_len (n : Int) : ∀ w, (lows n w).length = w
  | 0 => rfl
  | w + 1 => by rw [lows, List.length_cons, lows_len n w]
theorem lows_byte (n : Int) : ∀ w, ∀ x ∈ lows n w, 0 ≤ x ∧ x < 256
  | 0, x, h => by cases h
  | w + 1, x, h => by
    rcases List.mem_cons.1 h with e | h
    · subst e; exact ⟨Int.emod_nonneg _ (by decide), Int.emod_lt_of_pos _ (by decide)⟩
    · exact lows_byte n w x h
theorem p256_pos (i : Nat) : (0 : Int) < 256 ^ i := Int.pow_pos (by decide)
theorem p256_two (i : Nat) : (256 : Int) ^ i = 2 ^ (8 * i) := by rw [Int.pow_mul]; rfl
theorem shr_byte (n : Int) {i : Nat} (h : i ≤ 8) : shr .u64 n (8 * (i : Int)) = n / 256 ^ i := by
  unfold shr
  have e : min (Int.toNat (8 * (i : Int))) IntKind.u64.bits = 8 * i := by
    rw [show 8 * (i : Int) = ((8 * i : Nat) : Int) by omega, Int.toNat_natCast]
    exact Nat.min_eq_left (by show 8 * i ≤ 64; omega)
  rw [e, p256_two]
theorem fixed_l {n : Int} {w : Nat} (hw : w ≤ 8) : ∀ (d i k : Nat), i + d = w → d < k → octet_fixed.l0 k n w (List.replicate d 0 ++ lows n i) w i = some (strOfNums (lows n w))
  | 0, i, k, hi, hk => by
    obtain ⟨k, rfl⟩ : ∃ j, k = j + 1 := ⟨k - 1, by omega⟩
    have : ¬ ((i : Int) < (w : Int)) := by omega
    rw [octet_fixed.l0, if_neg this]
    obtain rfl : i = w := by omega
    rfl
  | d + 1, i, k, hi, hk => by
    obtain ⟨k, rfl⟩ : ∃ j, k = j + 1 := ⟨k - 1, by omega⟩
    have e1 : wrap64 (8 * (i : Int)) = 8 * (i : Int) := by unfold wrap64; omega
    have e2 : wrap64 (wrap64 ((w : Int) - 1) - (i : Int)) = (d : Int) := by unfold wrap64; omega
    have e3 : wrap64 ((i : Int) + 1) = ((i + 1 : Nat) : Int) := by unfold wrap64; omega
    have c1 : (i : Int) < (w : Int) := by omega
    have c4 : (d : Int) < ((List.replicate (d + 1) (0 : Int) ++ lows n i).length : Int) := by
      rw [List.length_append, List.length_replicate]; omega
    have hs : (List.replicate (d + 1) (0 : Int) ++ lows n i).set d (n / 256 ^ i % 256) = List.replicate d 0 ++ lows n (i + 1) := by
      rw [List.replicate_succ', List.append_assoc, List.set_append_right _ _ (by rw [List.length_replicate]; exact Nat.le_refl _), List.length_replicate, Nat.sub_self]
      rfl
    rw [octet_fixed.l0, e1, e2, e3, if_pos c1, if_pos (by omega), if_pos (by omega), if_pos c4, shr_byte n (by omega), Int.toNat_natCast, hs]
    exact fixed_l hw d (i + 1) k (by omega) (by omega)
theorem fixed_eq {n : Int} {w k : Nat} (hw : w ≤ 8) (hk : 8 < k) : octet_fixed.f k n w = some (strOfNums (lows n w)) := by
  unfold octet_fixed.f
  rw [if_pos (by omega), if_pos (by omega), Option.bind_some, List.length_replicate, Int.toNat_natCast]
  have := fixed_l (n := n) hw w 0 k (by omega) (by omega)
  rwa [show List.replicate w (0 : Int) ++ lows n 0 = List.replicate w 0 from List.append_nil _] at this
/-- How many bytes a number has. -/
def wd (n : Int) : Nat := (Lib.bitLen n.toNat + 7) / 8
theorem wd_le {n : Int} (h : n < B) : wd n ≤ 8 := by
  have := Lib.bitLen_le n.toNat 64 (Nat.le_refl _) (by rw [B_eq] at h; show n.toNat < 18446744073709551616; omega)
  unfold wd; omega
theorem wd_zero : wd 0 = 0 := by decide
def putB (n : Int) : List Int := (wd n : Int) :: lows n (wd n)
theorem strOf_append (a b : List Int) : strOfNums a ++ strOfNums b = strOfNums (a ++ b) := by
  apply ByteArray.ext
  unfold strOfNums
  simp
theorem put_eq {n : Int} {k : Nat} (h0 : 0 ≤ n) (h1 : n < B) (hk : 8 < k) : octet_Put.f k n = some (strOfNums (putB n)) := by
  have hw := wd_le h1
  have hb := Lib.bitLen_le n.toNat 64 (Nat.le_refl _) (by rw [B_eq] at h1; show n.toNat < 18446744073709551616; omega)
  have e1 : wrap64 (Int.tdiv (wrap64 ((Lib.bitLen n.toNat : Int) + 7)) 8) = (wd n : Int) := by
    unfold wd
    generalize Lib.bitLen n.toNat = m at hb ⊢
    have : wrap64 ((m : Int) + 7) = ((m + 7 : Nat) : Int) := by unfold wrap64; omega
    rw [this, show Int.tdiv ((m + 7 : Nat) : Int) 8 = (((m + 7) / 8 : Nat) : Int) from rfl]
    unfold wrap64; omega
  have e2 : (wd n : Int) % 256 = (wd n : Int) := by omega
  unfold octet_Put.f bits_Len64.f
  rw [if_pos ⟨h0, h1⟩, Option.bind_some, e1, e2, Option.bind_some, fixed_eq hw hk, Option.bind_some, if_pos (by rw [strOfNums_size, strOfNums_size, lows_len]; simp; omega), strOf_append]
  rfl
theorem strOf_toList (a : List Int) : (strOfNums a).toList = a.map fun n => UInt8.ofNat n.toNat := by
  exact ByteArray.toList_mk _
theorem strOf_inj : ∀ {a b : List Int}, (∀ x ∈ a, 0 ≤ x ∧ x < 256) → (∀ x ∈ b, 0 ≤ x ∧ x < 256) → (a.map fun n => UInt8.ofNat n.toNat) = (b.map fun n => UInt8.ofNat n.toNat) → a = b
  | [], [], _, _, _ => rfl
  | [], _ :: _, _, _, h => by cases h
  | _ :: _, [], _, _, h => by cases h
  | x :: a, y :: b, ha, hb, h => by
    simp only [List.map_cons, List.cons.injEq] at h
    have hx := ha x (List.mem_cons_self ..)
    have hy := hb y (List.mem_cons_self ..)
    have e : x = y := by
      have := congrArg UInt8.toNat h.1
      simp only [UInt8.toNat_ofNat'] at this
      omega
    rw [e, strOf_inj (fun z hz => ha z (List.mem_cons_of_mem _ hz)) (fun z hz => hb z (List.mem_cons_of_mem _ hz)) h.2]
/-- The number of bytes. -/
def unb (l : List Int) : Int := l.foldl (fun a c => a * 256 + c) 0
theorem foldl_from (l : List Int) : ∀ a : Int, l.foldl (fun a c => a * 256 + c) a = a * 256 ^ l.length + unb l := by
  induction l with
  | nil => intro a; simp [unb]
  | cons x l ih =>
    intro a
    have h1 := ih (a * 256 + x)
    have h2 := ih (0 * 256 + x)
    have h3 : unb (x :: l) = l.foldl (fun a c => a * 256 + c) (0 * 256 + x) := rfl
    rw [List.foldl_cons, h1, h3, h2, List.length_cons, Int.pow_succ, Int.mul_comm (256 ^ l.length) 256, ← Int.mul_assoc, ← Int.add_assoc, ← Int.add_mul]
    simp
theorem unb_cons (x : Int) (l : List Int) : unb (x :: l) = x * 256 ^ l.length + unb l := by
  have h3 : unb (x :: l) = l.foldl (fun a c => a * 256 + c) (0 * 256 + x) := rfl
  rw [h3, foldl_from]; simp
theorem mod_div (n : Int) {p q : Int} (hp : 0 < p) (hq : 0 < q) : n % (p * q) / p = n / p % q := by
  have h := Int.mul_ediv_add_emod n (p * q)
  have hpq := Int.mul_pos hp hq
  have h0 := Int.emod_nonneg n (Int.ne_of_gt hpq)
  have h1 := Int.emod_lt_of_pos n hpq
  have e : n / p = n % (p * q) / p + n / (p * q) * q := by
    have : n = n % (p * q) + n / (p * q) * q * p := by
      rw [Int.mul_assoc, Int.mul_comm q p, Int.mul_comm (n / (p * q))]; omega
    conv => lhs; rw [this]
    rw [Int.add_mul_ediv_right _ _ (Int.ne_of_gt hp)]
  rw [e, Int.add_mul_emod_self_right, Int.emod_eq_of_lt (Int.ediv_nonneg h0 (Int.le_of_lt hp)) (Int.ediv_lt_of_lt_mul hp (by rw [Int.mul_comm q p]; exact h1))]
theorem unb_lows (n : Int) : ∀ w, unb (lows n w) = n % 256 ^ w
  | 0 => by simp [lows, unb]
  | w + 1 => by
    rw [lows, unb_cons, lows_len, unb_lows n w, Int.pow_succ]
    have hp := p256_pos w
    have h1 := Int.emod_emod_of_dvd n (show (256 : Int) ^ w ∣ 256 ^ w * 256 from Int.dvd_mul_right _ _)
    have h2 := Int.mul_ediv_add_emod (n % (256 ^ w * 256)) (256 ^ w)
    rw [h1, mod_div n hp (by decide : (0 : Int) < 256)] at h2
    rw [Int.mul_comm]
    exact h2
theorem bitLen_lt {n : Nat} (h : n < 18446744073709551616) : n < 2 ^ Lib.bitLen n := by
  by_cases h0 : n = 0
  · subst h0; decide
  · exact (Lib.bitLenAux_bounds 64 n h h0).2.2
theorem bitLen_mono {a b : Nat} (hb : b < 18446744073709551616) (h : a ≤ b) : Lib.bitLen a ≤ Lib.bitLen b := by
  refine Lib.bitLen_le a _ ?_ (Nat.lt_of_le_of_lt h (bitLen_lt hb))
  exact Lib.bitLen_le b 64 (Nat.le_refl _) hb
theorem wd_mono {a b : Int} (hb : b < B) (h : a ≤ b) : wd a ≤ wd b := by
  rw [B_eq] at hb
  have := bitLen_mono (a := a.toNat) (b := b.toNat) (by omega) (by omega)
  unfold wd; omega
theorem wd_lt {n : Int} (h0 : 0 ≤ n) (h1 : n < B) : n < 256 ^ wd n := by
  rw [B_eq] at h1
  have h := bitLen_lt (n := n.toNat) (by omega)
  have h2 : 2 ^ Lib.bitLen n.toNat ≤ 2 ^ (8 * wd n) := Nat.pow_le_pow_right (by decide) (by unfold wd; omega)
  rw [p256_two]
  have h3 : (2 : Int) ^ (8 * wd n) = ((2 ^ (8 * wd n) : Nat) : Int) := by rw [Int.natCast_pow]; rfl
  omega
theorem putB_byte {n : Int} (h1 : n < B) : ∀ x ∈ putB n, 0 ≤ x ∧ x < 256 := by
  intro x hx
  have := wd_le h1
  rcases List.mem_cons.1 hx with e | h
  · omega
  · exact lows_byte n _ x h
theorem putB_inj {a b : Int} (ha : 0 ≤ a ∧ a < B) (hb : 0 ≤ b ∧ b < B) (h : putB a = putB b) : a = b := by
  unfold putB at h
  rw [List.cons.injEq] at h
  have e : wd a = wd b := by omega
  have h2 := congrArg unb h.2
  rw [unb_lows, unb_lows, ← e, Int.emod_eq_of_lt ha.1 (wd_lt ha.1 ha.2), Int.emod_eq_of_lt hb.1 (by rw [e]; exact wd_lt hb.1 hb.2)] at h2
  exact h2
theorem putB_len (n : Int) : (putB n).length = wd n + 1 := by unfold putB; rw [List.length_cons, lows_len]
theorem put_beq {a b : Int} (ha : 0 ≤ a ∧ a < B) (hb : 0 ≤ b ∧ b < B) : ((strOfNums (putB a)).toList == (strOfNums (putB b)).toList) = (a == b) := by
  rw [Bool.eq_iff_iff, beq_iff_eq, beq_iff_eq, strOf_toList, strOf_toList]
  constructor
  · intro h
    exact putB_inj ha hb (strOf_inj (putB_byte ha.2) (putB_byte hb.2) h)
  · rintro rfl; rfl
theorem oshown {k : Nat} (hk : 8 < k) : syzygylaw06_shown.f k = some true := by
  have h1 := put_eq (n := 258) (k := k) (by decide) (by decide) hk
  have e1 : strOfNums (putB 258) = ⟨#[2, 1, 2]⟩ := by decide +kernel
  have e2 : octet_Get.f (⟨#[2, 1, 2]⟩ ++ (⟨#[122]⟩ : ByteArray)) = some (258, ⟨#[122]⟩, 0) := by kernel_rfl
  rw [e1] at h1
  unfold syzygylaw06_shown.f
  rw [h1, Option.bind_some, if_pos (by decide), e2, Option.bind_some, if_pos rfl, if_pos (by decide +kernel), if_pos rfl, Option.bind_some]
  decide +kernel
end Go.Proofs.Ytijgeonhbmgikaa.EOOctetShort
