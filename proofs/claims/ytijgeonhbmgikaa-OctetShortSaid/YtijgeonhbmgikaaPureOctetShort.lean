/- OctetShort: beginnings of what was put are too short. -/
import Derived.Test.YtijgeonhbmgikaaOOctetShortOctB
set_option linter.unusedVariables false
set_option linter.unusedSimpArgs false
namespace Go.Proofs.Ytijgeonhbmgikaa.Pure
open Go.RowKit Go.Proofs.Ytijgeonhbmgikaa.POOctetShort Go.Proofs.Ytijgeonhbmgikaa.EOOctetShort Go.Proofs.YtijgeonhbmgikaaN Go.Proofs.YtijgeonhbmgikaaW.PrintWords Go.Proofs.YtijgeonhbmgikaaW.PrintLast
theorem cut_of {a : Int} (h : 0 ≤ a ∧ a < 65536) {m : Nat} (hm : 0 < m) : ∃ c : Nat, Int.tmod (wrap64 a) (m : Int) = (c : Int) ∧ c < m := by
  obtain ⟨x, rfl⟩ := Int.eq_ofNat_of_zero_le h.1
  have e : wrap64 (x : Int) = (x : Int) := by unfold wrap64; omega
  rw [e]
  exact ⟨x % m, rfl, Nat.mod_lt _ hm⟩
theorem get_cut {n : Int} (h1 : n < B) {c : Nat} (hc : c < wd n + 1) : octet_Get.f ((strOfNums (putB n)).extract 0 c) = some (0, { data := #[] }, 60) := by
  have hw := wd_le h1
  have h := num_cut h1 (R := []) hc
  rw [List.append_nil] at h
  unfold octet_Get.f
  rw [str_extract, List.drop_zero, if_pos (by rw [size_str, List.length_take, putB_len]; omega), h]
theorem put_small (n : Nat) (h : n ≤ 300) : (n : Int) < B := by rw [B_eq]; omega
theorem text_cut {s : ByteArray} (hs : s.size ≤ 300) {c : Nat} (hc : c < (strOfNums (putB (s.size : Int)) ++ s).size) : octet_GetText.f ((strOfNums (putB (s.size : Int)) ++ s).extract 0 c) = some ({ data := #[] }, { data := #[] }, 60) := by
  have h1 := put_small _ hs
  have hw := wd_le h1
  have e : strOfNums (putB (s.size : Int)) ++ s = strOfNums (putB (s.size : Int) ++ bytesOf s) := by rw [← strOf_append, str_bytes]
  have hl : (putB (s.size : Int) ++ bytesOf s).length = wd (s.size : Int) + 1 + s.size := by rw [List.length_append, putB_len, bytesOf_length]
  rw [e, size_str, hl] at hc
  have key : octet_GetText.txt (strOfNums ((putB (s.size : Int) ++ bytesOf s).take c)) = .inl 60 := by
    unfold octet_GetText.txt
    by_cases hc1 : c < wd (s.size : Int) + 1
    · rw [num_cut h1 hc1]
    · have et : (putB (s.size : Int) ++ bytesOf s).take c = putB (s.size : Int) ++ (bytesOf s).take (c - (wd (s.size : Int) + 1)) := by
        rw [List.take_append, putB_len, List.take_of_length_le (by rw [putB_len]; omega)]
      rw [et, num_put (by omega) h1 ((bytes_of s).take _)]
      show (if (strOfNums ((bytesOf s).take (c - (wd (s.size : Int) + 1)))).size < ((s.size : Nat) : Int).toNat then _ else _) = _
      rw [if_pos (by rw [size_str, List.length_take, bytesOf_length, Int.toNat_natCast]; omega)]
  unfold octet_GetText.f
  rw [e, str_extract, List.drop_zero, if_pos (by rw [size_str, List.length_take, hl]; omega), key]
theorem nat_cut {l : List Int} (hl : l.length ≤ 1) {R : List Int} (hR : Bytes R) (hr : R.length = 8 * l.length) {k c : Nat} (hc : c < wd (l.length : Int) + 1 + R.length) : octet_GetNat.f k ((strOfNums (putB (l.length : Int) ++ R)).extract 0 c) = some ([], { data := #[] }, 60) := by
  have h1 := put_small l.length (by omega)
  have hw := wd_le h1
  have hlen : (putB (l.length : Int) ++ R).length = wd (l.length : Int) + 1 + R.length := by rw [List.length_append, putB_len]
  have key : OctNat.nat_ k (strOfNums ((putB (l.length : Int) ++ R).take c)) = some (.inl 60) := by
    unfold OctNat.nat_
    by_cases hc1 : c < wd (l.length : Int) + 1
    · rw [num_cut h1 hc1]
    · have et : (putB (l.length : Int) ++ R).take c = putB (l.length : Int) ++ R.take (c - (wd (l.length : Int) + 1)) := by
        rw [List.take_append, putB_len, List.take_of_length_le (by rw [putB_len]; omega)]
      rw [et, num_put (by omega) h1 (hR.take _)]
      show (if 8 < ((l.length : Nat) : Int).toNat then _ else _) = _
      rw [Int.toNat_natCast, if_neg (by omega), if_pos (by rw [size_str, List.length_take]; omega)]
  unfold octet_GetNat.f
  rw [str_extract, List.drop_zero, if_pos (by rw [size_str, List.length_take, hlen]; omega), key]
  rfl
theorem lows_same (n : Int) : ∀ w, OctPut.lows n w = lows n w
  | 0 => rfl
  | w + 1 => by rw [OctPut.lows, lows, lows_same n w]
/-- What putting a natural of one limb at most gives. -/
theorem of_put {n : Int} (h0 : 0 ≤ n) (h1 : n < B) : ∃ l R : List Int, Ev (fun k => syzygyref02_Of.f k n) l ∧ l.length ≤ 1 ∧ Bytes R ∧ R.length = 8 * l.length ∧ Ev (fun k => octet_PutNat.f k l) (strOfNums (putB (l.length : Int) ++ R), 0) := by
  have hput : ∀ (l : List Int), l.length ≤ 1 → nat_May.f l = some true → Ev (fun k => octet_PutNat.f k l) (OctPut.puts (strOfNums (putB (l.length : Int))) l.reverse, 0) := fun l hl hm => ⟨9, fun k hk => by
    have hw := wd_le (put_small l.length (by omega))
    have hp := put_eq (n := (l.length : Int)) (k := k) (by omega) (put_small _ (by omega)) (by omega)
    show octet_PutNat.f k l = _
    unfold octet_PutNat.f
    rw [hm, Option.bind_some, if_pos rfl, hp, Option.bind_some, if_pos ⟨by rw [size_str, putB_len]; omega, by omega⟩]⟩
  have ht1 : wrap64 (0 : Int) = 0 := by unfold wrap64; omega
  by_cases hz : n = 0
  · subst hz
    refine ⟨[], [], ⟨3, fun k hk => ?_⟩, by simp, (fun x hx => by cases hx), rfl, ?_⟩
    · obtain ⟨k, rfl⟩ : ∃ j, k = j + 2 := ⟨k - 2, by omega⟩
      simp [syzygyref02_Of.f, syzygyref01_Trim.f, syzygyref01_Trim.l0, rd, ht1]
    · have := hput [] (by simp) (by simp [nat_May.f])
      rw [List.append_nil]
      exact this
  · refine ⟨[n], lows n 8, ⟨3, fun k hk => ?_⟩, by simp, lows_byte n 8, by rw [lows_len]; rfl, ?_⟩
    · obtain ⟨k, rfl⟩ : ∃ j, k = j + 2 := ⟨k - 2, by omega⟩
      simp [syzygyref02_Of.f, syzygyref01_Trim.f, syzygyref01_Trim.l0, rd, ht1, hz]
    · have := hput [n] (by simp) (by simp [nat_May.f, ht1, rd, hz])
      have e : OctPut.puts (strOfNums (putB (([n] : List Int).length : Int))) ([n] : List Int).reverse = strOfNums (putB (([n] : List Int).length : Int) ++ lows n 8) := by
        rw [← strOf_append, ← lows_same]; rfl
      rw [e] at this
      exact this
theorem OctetShort : syzygylaw06_OctetShort.Pure := by
  intro a0 a1 a2 h0 h1 h2
  obtain ⟨h0, h0'⟩ := u64_of h0
  have h2 : 0 ≤ a2 ∧ a2 < 65536 := by
    simp [Lit.wf, IntKind.min, IntKind.max, IntKind.signed, IntKind.bits] at h2
    omega
  obtain ⟨l, R, ⟨K1, e1⟩, hl, hR, hr, ⟨K2, e2⟩⟩ := of_put h0 h0'
  refine ⟨(K1 + K2 + 20) + 1, ?_⟩
  unfold syzygylaw06_OctetShort.f
  by_cases hs : (a1.size : Int) > 300
  · rw [if_pos hs, syzygylaw06_OctetShort.j0, if_pos rfl, oshown (by omega)]
    rfl
  · rw [if_neg hs, oshown (by omega), Option.bind_some]
    have hs' : a1.size ≤ 300 := by omega
    have hw := wd_le h0'
    have hws := wd_le (put_small _ hs')
    have hwl := wd_le (put_small l.length (by omega))
    have p1 := put_eq (n := a0) (k := K1 + K2 + 20) h0 h0' (by omega)
    have p2 := put_eq (n := (a1.size : Int)) (k := K1 + K2 + 20) (by omega) (put_small _ hs') (by omega)
    have s1 : (strOfNums (putB a0)).size = wd a0 + 1 := by rw [size_str, putB_len]
    have s2 : (strOfNums (putB (a1.size : Int)) ++ a1).size = wd (a1.size : Int) + 1 + a1.size := by rw [ByteArray.size_append, size_str, putB_len]
    have s3 : (strOfNums (putB (l.length : Int) ++ R)).size = wd (l.length : Int) + 1 + R.length := by rw [size_str, List.length_append, putB_len]
    have pt : octet_PutText.f (K1 + K2 + 20) a1 = some (strOfNums (putB (a1.size : Int)) ++ a1) := by
      unfold octet_PutText.f
      rw [p2, Option.bind_some, if_pos (by rw [size_str, putB_len]; omega)]
    have e1 : syzygyref02_Of.f (K1 + K2 + 20) a0 = some l := e1 _ (by omega)
    have e2 : octet_PutNat.f (K1 + K2 + 20) l = some (strOfNums (putB (l.length : Int) ++ R), 0) := e2 _ (by omega)
    obtain ⟨c1, hc1, hc1'⟩ := cut_of h2 (m := (strOfNums (putB a0)).size) (by omega)
    obtain ⟨c2, hc2, hc2'⟩ := cut_of h2 (m := (strOfNums (putB (a1.size : Int)) ++ a1).size) (by omega)
    obtain ⟨c3, hc3, hc3'⟩ := cut_of h2 (m := (strOfNums (putB (l.length : Int) ++ R)).size) (by omega)
    rw [show (!true) = false from rfl, syzygylaw06_OctetShort.j0, if_neg (by decide), p1, Option.bind_some, pt, Option.bind_some, if_neg (by omega), hc1, if_pos (by omega), if_pos (by omega), Int.toNat_natCast, get_cut h0' (by omega), Option.bind_some,
      if_neg (by omega), hc2, if_pos (by omega), if_pos (by omega), Int.toNat_natCast, text_cut hs' hc2', Option.bind_some, e1, Option.bind_some, e2, Option.bind_some,
      if_neg (by simp only [s3]; omega), hc3, if_pos (by omega), if_pos (by simp only; omega), Int.toNat_natCast, nat_cut hl hR hr (by rw [← s3]; exact hc3'), Option.bind_some, if_pos rfl, if_pos rfl]
    rfl
end Go.Proofs.Ytijgeonhbmgikaa.Pure
