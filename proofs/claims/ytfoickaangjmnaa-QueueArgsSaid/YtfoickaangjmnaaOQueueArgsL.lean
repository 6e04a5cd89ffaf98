-- Written by a program of this session (shake.py): of the words and of this session's own texts what this claim names.
import Derived.Test.YtfoickaangjmnaaPOQueueArgsx
import Derived.Lib.ItoaNum
import Derived.WalkKit
import Derived.ProofKit
import Derived.OpenShut
import Derived.ChangeOld
import Derived.ChangeSame
import Derived.DataReads
import Derived.Deep.Strs
import Derived.Laws.IdiomArrays
import Derived.Test.YtfoickaangjmnaaOQueueArgsW
set_option linter.unusedVariables false
set_option linter.unusedSimpArgs false
section
set_option linter.unusedVariables false
set_option linter.unusedSimpArgs false
namespace Go.Proofs.Ytfoickaangjmnaa.EOQueueArgs
open Go.RowKit Go.Proofs.Ytfoickaangjmnaa.POQueueArgs Go.Proofs.YtfoickaangjmnaaN Go.Proofs.YtfoickaangjmnaaW.PrintWords Go.Proofs.YtfoickaangjmnaaW.PrintLast Go.Proofs.YtfoickaangjmnaaW.PrintMore
theorem some_bind {α β : Type} (a : α) (f : α → Option β) : (some a).bind f = f a := rfl
theorem Ev.pos {α : Type} {c : Prop} [Decidable c] {f g : Nat → Option α} {r : α} (hc : c) (h : Ev f r) : Ev (fun k => if c then f k else g k) r := by
  simp only [if_pos hc]; exact h
theorem Ev.neg {α : Type} {c : Prop} [Decidable c] {f g : Nat → Option α} {r : α} (hc : ¬ c) (h : Ev g r) : Ev (fun k => if c then f k else g k) r := by
  simp only [if_neg hc]; exact h
theorem Ev.bind_const {α β : Type} {g : Option α} {f : Nat → α → Option β} {a : α} {r : β} (h : g = some a) (k : Ev (fun n => f n a) r) : Ev (fun n => g.bind (f n)) r := by
  rw [h]; exact k
end Go.Proofs.Ytfoickaangjmnaa.EOQueueArgs
end
section
set_option linter.unusedVariables false
set_option linter.unusedSimpArgs false
namespace Go.Proofs.Ytfoickaangjmnaa.EOQueueArgs
open Go.RowKit Go.Proofs.Ytfoickaangjmnaa.POQueueArgs Go.Proofs.YtfoickaangjmnaaN Go.Proofs.YtfoickaangjmnaaW.PrintWords Go.Proofs.YtfoickaangjmnaaW.PrintLast Go.Proofs.YtfoickaangjmnaaW.PrintMore
def lows (n : Int) : Nat → List Int
  | 0 => []
  | i + 1 => n / 256 ^ i % 256 :: lows n i
theorem lows_len (n : Int) : ∀ w, (lows n w).length = w
  | 0 => rfl
  | w + 1 => by rw [lows, List.length_cons, lows_len n w]
theorem p256_two (i : Nat) : (256 : Int) ^ i = 2 ^ (8 * i) := by rw [Int.pow_mul]; rfl
theorem shr_byte (n : Int) {i : Nat} (h : i ≤ 8) : shr .u64 n (8 * (i : Int)) = n / 256 ^ i := by
  unfold shr
  have e : min (Int.toNat (8 * (i : Int))) IntKind.u64.bits = 8 * i := by
    rw [show 8 * (i : Int) = ((8 * i : Nat) : Int) by omega, Int.toNat_natCast]
    exact Nat.min_eq_left (by show 8 * i ≤ 64; omega)
  rw [e, p256_two]
theorem fixed_l {n : Int} {w : Nat} (hw : w ≤ 8) : ∀ (d i k : Nat), i + d = w → d < k → octet_fixed.l0 k n w (List.replicate d 0 ++ lows n i) w i = some (strOfNums (lows n w))
  | 0, i, k, hi, hk => by
    obtain ⟨k, rfl⟩ : ∃ j, k = j + 1 := ⟨k - 1, by omega⟩
    have : ¬ ((i : Int) < (w : Int)) := by omega
    rw [octet_fixed.l0, if_neg this]
    obtain rfl : i = w := by omega
    rfl
  | d + 1, i, k, hi, hk => by
    obtain ⟨k, rfl⟩ : ∃ j, k = j + 1 := ⟨k - 1, by omega⟩
    have e1 : wrap64 (8 * (i : Int)) = 8 * (i : Int) := by unfold wrap64; omega
    have e2 : wrap64 (wrap64 ((w : Int) - 1) - (i : Int)) = (d : Int) := by unfold wrap64; omega
    have e3 : wrap64 ((i : Int) + 1) = ((i + 1 : Nat) : Int) := by unfold wrap64; omega
    have c1 : (i : Int) < (w : Int) := by omega
    have c4 : (d : Int) < ((List.replicate (d + 1) (0 : Int) ++ lows n i).length : Int) := by
      rw [List.length_append, List.length_replicate]; omega
    have hs : (List.replicate (d + 1) (0 : Int) ++ lows n i).set d (n / 256 ^ i % 256) = List.replicate d 0 ++ lows n (i + 1) := by
      rw [List.replicate_succ', List.append_assoc, List.set_append_right _ _ (by rw [List.length_replicate]; exact Nat.le_refl _), List.length_replicate, Nat.sub_self]
      rfl
    rw [octet_fixed.l0, e1, e2, e3, if_pos c1, if_pos (by omega), if_pos (by omega), if_pos c4, shr_byte n (by omega), Int.toNat_natCast, hs]
    exact fixed_l hw d (i + 1) k (by omega) (by omega)
theorem fixed_eq {n : Int} {w k : Nat} (hw : w ≤ 8) (hk : 8 < k) : octet_fixed.f k n w = some (strOfNums (lows n w)) := by
  unfold octet_fixed.f
  rw [if_pos (by omega), if_pos (by omega), Option.bind_some, List.length_replicate, Int.toNat_natCast]
  have := fixed_l (n := n) hw w 0 k (by omega) (by omega)
  rwa [show List.replicate w (0 : Int) ++ lows n 0 = List.replicate w 0 from List.append_nil _] at this
def wd (n : Int) : Nat := (Lib.bitLen n.toNat + 7) / 8
theorem wd_le {n : Int} (h : n < B) : wd n ≤ 8 := by
  have := Lib.bitLen_le n.toNat 64 (Nat.le_refl _) (by rw [B_eq] at h; show n.toNat < 18446744073709551616; omega)
  unfold wd; omega
def putB (n : Int) : List Int := (wd n : Int) :: lows n (wd n)
theorem strOf_append (a b : List Int) : strOfNums a ++ strOfNums b = strOfNums (a ++ b) := by
  apply ByteArray.ext
  unfold strOfNums
  simp
theorem put_eq {n : Int} {k : Nat} (h0 : 0 ≤ n) (h1 : n < B) (hk : 8 < k) : octet_Put.f k n = some (strOfNums (putB n)) := by
  have hw := wd_le h1
  have hb := Lib.bitLen_le n.toNat 64 (Nat.le_refl _) (by rw [B_eq] at h1; show n.toNat < 18446744073709551616; omega)
  have e1 : wrap64 (Int.tdiv (wrap64 ((Lib.bitLen n.toNat : Int) + 7)) 8) = (wd n : Int) := by
    unfold wd
    generalize Lib.bitLen n.toNat = m at hb ⊢
    have : wrap64 ((m : Int) + 7) = ((m + 7 : Nat) : Int) := by unfold wrap64; omega
    rw [this, show Int.tdiv ((m + 7 : Nat) : Int) 8 = (((m + 7) / 8 : Nat) : Int) from rfl]
    unfold wrap64; omega
  have e2 : (wd n : Int) % 256 = (wd n : Int) := by omega
  unfold octet_Put.f bits_Len64.f
  rw [if_pos ⟨h0, h1⟩, Option.bind_some, e1, e2, Option.bind_some, fixed_eq hw hk, Option.bind_some, if_pos (by rw [strOfNums_size, strOfNums_size, lows_len]; simp; omega), strOf_append]
  rfl
theorem putB_len (n : Int) : (putB n).length = wd n + 1 := by unfold putB; rw [List.length_cons, lows_len]
end Go.Proofs.Ytfoickaangjmnaa.EOQueueArgs
end
section
set_option linter.unusedVariables false
set_option linter.unusedSimpArgs false
namespace Go.Proofs.YtfoickaangjmnaaN
open Go.ChangeShapes Go.WideShapes Go.ChangeAt Go.RowKit Go.Proofs.YtfoickaangjmnaaW.PrintWords
def Opens (P : Program) (t : TypeId) {α : Type} (K : Kd α) (p : α → Prop) : Prop :=
  ∀ (H : Type) (enc : TypeId × Value → H) (w : World) (base : Nat) (spare : Nat → Bool) (held : Bool) (fuel : Nat) (cs : List Value) (x : DataW H × List MemPlace), DataW.trod enc P w base spare held fuel t cs = some x → ∃ a, K.K w a cs ∧ p a
namespace Opens
theorem choose_list {α : Type} {n : Nat} {Q : Nat → α → Prop} (h : ∀ i, i < n → ∃ a, Q i a) : ∃ l : List α, l.length = n ∧ ∀ i x, l[i]? = some x → Q i x := by
  induction n with
  | zero => exact ⟨[], rfl, fun i x hx => by simp at hx⟩
  | succ n ih =>
    obtain ⟨l, hl, hq⟩ := ih (fun i hi => h i (by omega))
    obtain ⟨a, ha⟩ := h n (by omega)
    refine ⟨l ++ [a], by simp [hl], fun i x hx => ?_⟩
    by_cases hi : i < l.length
    · rw [List.getElem?_append_left hi] at hx; exact hq i x hx
    · rw [List.getElem?_append_right (by omega)] at hx
      have h1 : i - l.length < [a].length := (List.getElem?_eq_some_iff.1 hx).1
      have h2 : i - l.length = 0 := by simpa using h1
      rw [h2] at hx
      obtain rfl := Option.some.inj hx
      have : i = n := by omega
      subst this
      exact ha
theorem add_add (a : Addr) (m n : Nat) : (a.add m).add n = a.add (m + n) := by
  unfold Addr.add
  by_cases hn : n = 0
  · subst hn; simp
  · by_cases hm : m = 0
    · subst hm; simp
    · rw [if_neg hn, if_neg hm, if_neg (by omega)]
      simp [Nat.add_assoc]
section
variable {P : Program} {t e : TypeId} {α β γ δ : Type} {K : Kd α} {p : α → Prop} {K0 : Kd α} {K1 : Kd β} {K2 : Kd γ} {p0 : α → Prop} {p1 : β → Prop} {p2 : γ → Prop}
theorem imp {q : α → Prop} (h : Opens P t K p) (hq : ∀ x, p x → q x) : Opens P t K q := fun _ _ _ _ _ _ _ _ _ h0 => let ⟨a, ka, pa⟩ := h _ _ _ _ _ _ _ _ _ h0; ⟨a, ka, hq a pa⟩
theorem int {k : IntKind} (ht : P.underlying t = some (.int k)) : Opens P t (Kd.int k) (fun n => (Lit.int k n).wf = true) := by
  intro H enc w base spare held fuel cs x h
  obtain ⟨n, rfl, _, hw⟩ := DataW.trod_int ht h
  exact ⟨n, rfl, hw⟩
theorem bool (ht : P.underlying t = some .bool) : Opens P t Kd.bool (fun _ => True) := by
  intro H enc w base spare held fuel cs x h
  obtain ⟨n, rfl, _⟩ := DataW.trod_bool ht h
  exact ⟨n, rfl, trivial⟩
theorem string (ht : P.underlying t = some .string) : Opens P t Kd.string (fun s => s.size ≤ maxLen) := by
  intro H enc w base spare held fuel cs x h
  obtain ⟨n, rfl, _, hw⟩ := DataW.trod_string ht h
  exact ⟨n, rfl, hw⟩
theorem row {H : Type} {enc : TypeId × Value → H} {w : World} {base : Nat} {spare : Nat → Bool} {held : Bool} {fuel : Nat} {cs : List Value} {x : DataW H × List MemPlace} (ht : P.underlying t = some (.slice e)) (hc : P.cellsOf e = K.sz) (he : Opens P e K p) (h : DataW.trod enc P w base spare held fuel t cs = some x) :
    ∃ A c l, cs = [.slice A l.length c] ∧ l.length ≤ c ∧ K.C w A l.length l ∧ l.length ≤ maxLen ∧ ∀ x ∈ l, p x := by
  rcases DataW.trod_slice ht h with ⟨rfl, _⟩ | ⟨a, len, cap, elems, rest, n, _, rfl, rfl, hb, hl, hm, hlen, hel, hsp, hns⟩
  · exact ⟨none, 0, [], rfl, Nat.le_refl _, ⟨rfl, (show (0 : Nat) ≤ 9223372036854775807 by decide), fun h => absurd h (Nat.lt_irrefl _)⟩, Nat.zero_le _, fun x hx => absurd hx List.not_mem_nil⟩
  · obtain ⟨l, hll, hq⟩ := choose_list (n := len) (Q := fun i v => ∃ c, w.cells? base (a.add (i * K.sz)) K.sz = some c ∧ K.K w v c ∧ p v) (fun i hi => by
      have h1 := hel i hi
      rw [List.getElem?_eq_getElem (by omega), Option.bind_eq_some_iff, hc] at h1
      obtain ⟨c, h2, h3⟩ := h1
      obtain ⟨v, h4, h5⟩ := he _ _ _ _ _ _ _ _ _ h3
      exact ⟨v, c, h2, h4, h5⟩)
    subst hll
    refine ⟨some a, cap, l, rfl, hl, ⟨rfl, by unfold maxLen at hm; omega, fun _ => ⟨a, rfl, fun j v hj => ?_⟩⟩, Nat.le_trans hl hm, fun x hx => ?_⟩
    · obtain ⟨c, h2, h4, _⟩ := hq j v hj
      obtain ⟨_, h6, h7⟩ := World.cells?_some h2
      refine ⟨c, h6, h4, fun i u hu => ?_⟩
      have hi : i < K.sz := by rw [← h6]; exact (List.getElem?_eq_some_iff.1 hu).1
      rw [← add_add, h7 i hi, hu]
    · obtain ⟨i, hi, rfl⟩ := List.getElem_of_mem hx
      obtain ⟨_, _, _, h5⟩ := hq i _ (List.getElem?_eq_getElem hi)
      exact h5
theorem slice (ht : P.underlying t = some (.slice e)) (hc : P.cellsOf e = K.sz) (he : Opens P e K p) : Opens P t (Kd.slice e K) (fun l => l.length ≤ maxLen ∧ ∀ x ∈ l, p x) := by
  intro H enc w base spare held fuel cs x h
  obtain ⟨A, c, l, rfl, h1, h2, h3, h4⟩ := row ht hc he h
  exact ⟨l, ⟨A, c, rfl, h1, h2⟩, h3, h4⟩
theorem arr_len {H : Type} {enc : TypeId × Value → H} {w : World} {base : Nat} {spare : Nat → Bool} {held : Bool} {fuel n : Nat} {cs : List Value} {x : DataW H × List MemPlace} (ht : P.underlying t = some (.array n e)) (h : DataW.trod enc P w base spare held fuel t cs = some x) : cs.length = P.cellsOf t := by
  cases fuel with
  | zero => simp [DataW.trod] at h
  | succ m =>
    unfold DataW.trod at h
    rw [ht] at h
    split at h <;> simp_all
theorem array4 (f : δ → α × (α × (α × α))) (g : α → α → α → α → δ) (hfg : ∀ a b c d, f (g a b c d) = (a, (b, (c, d)))) (ht : P.underlying t = some (.array 4 e)) (hce : P.cellsOf e = 1) (hct : P.cellsOf t = 4)
    (he : Opens P e K p) : Opens P t (Kd.iso (Kd.pair K (Kd.pair K (Kd.pair K K))) f) (fun x => p (f x).1 ∧ (p (f x).2.1 ∧ (p (f x).2.2.1 ∧ p (f x).2.2.2))) := by
  intro H enc w base spare held fuel cs x h
  have hl := arr_len ht h
  rw [hct] at hl
  match cs, hl with
  | [c0, c1, c2, c3], _ =>
    obtain ⟨y0, y1, y2, y3, n, _, e0, e1, e2, e3⟩ := trod_array4 ht hce h
    obtain ⟨a, ka, pa⟩ := he _ _ _ _ _ _ _ _ _ e0
    obtain ⟨b, kb, pb⟩ := he _ _ _ _ _ _ _ _ _ e1
    obtain ⟨c, kc, pc⟩ := he _ _ _ _ _ _ _ _ _ e2
    obtain ⟨d, kd, pd⟩ := he _ _ _ _ _ _ _ _ _ e3
    refine ⟨g a b c d, ?_, ?_⟩
    · show (Kd.pair K (Kd.pair K (Kd.pair K K))).K w (f (g a b c d)) _
      rw [hfg]
      exact ⟨[c0], [c1, c2, c3], rfl, ka, [c1], [c2, c3], rfl, kb, [c2], [c3], rfl, kc, kd⟩
    · show p (f (g a b c d)).1 ∧ (p (f (g a b c d)).2.1 ∧ (p (f (g a b c d)).2.2.1 ∧ p (f (g a b c d)).2.2.2))
      rw [hfg]; exact ⟨pa, pb, pc, pd⟩
variable {H : Type} {enc : TypeId × Value → H} {w : World} {base : Nat} {spare : Nat → Bool} {held : Bool} {r : Reach} {b0 : Nat} {v : Value} {d : DataW H} {ps : List MemPlace}
theorem arg_row (ht : P.underlying t = some (.slice e)) (hc : P.cellsOf e = K.sz) (he : Opens P e K p) (hv : Value.okWide P w r b0 t v) (h : DataW.Trod enc P w base spare held t v d ps) : ∃ A c l, v = .slice A l.length c ∧ l.length ≤ c ∧ K.C w A l.length l ∧ l.length ≤ maxLen ∧ ∀ x ∈ l, p x := by
  obtain ⟨a, len, cap, rfl⟩ := okWide_slice ht hv
  obtain ⟨fuel, hf⟩ := h
  obtain ⟨A, c, l, hcs, h1⟩ := row ht hc he hf
  simp [Value.cells] at hcs
  obtain ⟨rfl, rfl, rfl⟩ := hcs
  exact ⟨_, _, l, rfl, h1⟩
end
end Opens
end Go.Proofs.YtfoickaangjmnaaN
end
