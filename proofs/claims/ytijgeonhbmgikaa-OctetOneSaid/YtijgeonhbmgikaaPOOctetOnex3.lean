-- printed (pr.py)
import Derived.Test.YtijgeonhbmgikaaPOOctetOnex0
import Derived.Test.YtijgeonhbmgikaaPOOctetOnex1
import Derived.Test.YtijgeonhbmgikaaPOOctetOnex2
namespace Go.Proofs.Ytijgeonhbmgikaa.POOctetOne
open Go.RowKit Go.Proofs.YtijgeonhbmgikaaN Go.Proofs.YtijgeonhbmgikaaW.PrintWords Go.Proofs.YtijgeonhbmgikaaW.PrintLast Go.Proofs.YtijgeonhbmgikaaW.PrintMore
attribute [local go_sem] zQ zN qA zy zC zA zP zM
set_option maxHeartbeats 8000000
set_option maxRecDepth 100000
set_option linter.unusedVariables false
set_option linter.unusedSimpArgs false

/-! ### jQ: function 20 -/

namespace OctPut
open Go.Shelf
attribute [local go_sem] Oper.semAt_some
def upto {α : Type} (f : Nat → α) (k : Nat) : List α := (List.range k).map f
theorem jCo {α : Type} (f : Nat → α) (k : Nat) : upto f (k + 1) = upto f k ++ [f k] := by simp [upto, List.range_succ]
theorem jDX {α : Type} (f : Nat → α) (k : Nat) : (upto f k).length = k := by simp [upto]
/-- What lies below n₀ but block g stays. -/
def KpG (n₀ g : Nat) (W W' : World) : Prop := ∀ i, i < n₀ → i ≠ g → W'.heap[i]? = W.heap[i]?
theorem KpG.refl (n₀ g : Nat) (W : World) : KpG n₀ g W W := fun _ _ _ => rfl
theorem KpG.trans {n₀ g : Nat} {A B C : World} (h : KpG n₀ g A B) (k : KpG n₀ g B C) : KpG n₀ g A C := fun i hi hg => (k i hi hg).trans (h i hi hg)
theorem KpG.cell {n₀ g : Nat} {W W' : World} {p : Addr} (h : KpG n₀ g W W') (hp : p.block < n₀) (hg : p.block ≠ g) : W'.cell? p = W.cell? p := by
 unfold World.cell?; rw [h _ hp hg]
theorem KpG.of_below {n₀ g B : Nat} {W W' : World} (h : Below B W.drew W') (hB : n₀ ≤ B) : KpG n₀ g W W' := fun i hi _ => h.block i (by omega)
theorem KpG.put {n₀ g : Nat} {w : World} (hn : n₀ ≤ w.heap.size) (W : World) (l : Nat) (o o' : Obj) (hl : w.heap.size ≤ l) (h : W.heap[l]? = some o) (_ : o.isCells = false) (_ : o.isWalk = false) : KpG n₀ g W (W.putObj l o') := fun i hi _ =>
 (grownBy_putObj' W l o').block i (by have := (Array.getElem?_eq_some_iff.1 h).1; omega) (by simp; omega)
theorem KpG.set (n₀ g j : Nat) (W : World) (v : Value) : KpG n₀ g W (W.setCell ⟨g, j, none⟩ v) := fun i _ hg => Below.heap_setCell W ⟨g, j, none⟩ v i hg
def bk (zs : List Int) (j : Nat) : Int × Int := ((zs.length : Int) - 1 - j, zs[zs.length - 1 - j]?.getD 0)
set_option maxHeartbeats 2000000 in
theorem jHK (n : Nat) (hn : 1 ≤ n) (l Bs n₀ g b off cap : Nat) (zs : List Int) (hreach : zs.length * 8 ≤ 140737488351232) (hb : b < n₀ ∧ b ≠ g) (J Jx : List (Int × Int) → World → Prop)
  (hY : ∀ pre x W, J pre W → pre.length < zs.length → YieldAt Fence.wide (n - 1) Try.prog l #[.int .i64 x.1, .int .u64 x.2] W fun e W' =>
   (e = .returned (.bool true) ∧ J (pre ++ [x]) W' ∧ KpG n₀ g W W') ∨ (e = .returned (.bool false) ∧ Jx (pre ++ [x]) W'))
  (W : World) (hBsn : Bs < n₀ ∧ Bs ≠ g) (hBs : W.cell? ⟨Bs, 0, none⟩ = some (.slice (some ⟨b, off, none⟩) zs.length cap)) (hc : ∀ j, j < zs.length → W.cell? ⟨b, off + j, none⟩ = some (.int .u64 (zs[j]?.getD 0))) (h0 : J [] W) :
  CallsIn Fence.wide n Try.prog 94 #[.func (.yield l) #[] #[], .pointer (some ⟨Bs, 0, none⟩)] W fun e W' => (∃ v, e = .returned v) ∧
   ((∃ ys, ys = upto (bk zs) zs.length ∧ J ys W') ∨ (∃ pre, (∃ k, k ≤ zs.length ∧ pre = upto (bk zs) k) ∧ Jx pre W')) := by
 refine callsIn_of_wp Try.func94 rfl trivial ?_ rfl
 simp only [Try.ntmps94, List.size_toArray, List.length_cons, List.length_nil, Nat.reduceAdd, Nat.reduceSub, Array.replicate_succ, Array.replicate_zero, List.push_toArray, List.append_toArray, List.nil_append, List.cons_append]
 gi_wp2
 gi_loopw [3] (fun i wr => ∃ k : Nat, k ≤ zs.length ∧ i = .int .i64 ((zs.length : Int) - 1 - k) ∧ J (upto (bk zs) k) wr ∧ KpG n₀ g W wr)
  (fun i _ => (intOf i + 1).toNat)
 case atStart => exact ⟨0, Nat.zero_le _, by congr 1; omega, h0, KpG.refl _ _ _⟩
 case round =>
  obtain ⟨k, hk, hi, hJs, hnx⟩ := hrel
  have hBs' : wr.cell? ⟨Bs, 0, none⟩ = some (.slice (some ⟨b, off, none⟩) zs.length cap) := (hnx.cell (p := ⟨Bs, 0, none⟩) hBsn.1 hBsn.2).trans hBs
  by_cases hlt : k < zs.length
  ·
   obtain ⟨m, hm⟩ : ∃ m : Nat, m = zs.length - 1 - k := ⟨_, rfl⟩
   have hi' : u3 = .int .i64 (m : Int) := by rw [hi]; congr 1; omega
   have hbk : bk zs k = ((m : Int), zs[m]?.getD 0) := by unfold bk; rw [← hm]; congr 1; omega
   subst hi'
   clear hi
   have hcx : wr.cell? ⟨b, off + m, none⟩ = some (.int .u64 (zs[m]?.getD 0)) := (hnx.cell (p := ⟨b, off + m, none⟩) hb.1 hb.2).trans (hc m (by omega))
   have hml : m < zs.length := by omega
   have HM := jA.mk (show m + 1 + k = zs.length by omega)
   clear hm
   generalize zs[m]?.getD 0 = x at hbk hcx
   obtain ⟨fn, tmps, assign, body, hy, hR⟩ := hY _ ((m : Int), x) wr hJs (by rw [jDX]; exact hlt)
   dsimp only at hy
   gi_wp2
   refine hR.mono ?_
   rintro e W3 (⟨rfl, hJ3, hk3⟩ | ⟨rfl, hJx3⟩)
   ·
    gi_wp2
    go_roundw
    case rel => exact ⟨k + 1, by have := HM.out; omega, by have := HM.out; congr 1; omega, by rw [jCo, hbk]; exact hJ3, hnx.trans hk3⟩
    case measure => have := HM.out; simp [intOf] <;> omega
   ·
    gi_wp2
    refine bodyPost_ret (results_none rfl _ _ _) rfl ?_
    exact ⟨⟨_, rfl⟩, .inr ⟨_, ⟨k + 1, by have := HM.out; omega, by rw [jCo, hbk]⟩, hJx3⟩⟩
  ·
   obtain rfl : k = zs.length := by omega
   have hi' : u3 = .int .i64 (-1) := by rw [hi]; congr 1; omega
   subst hi'
   gi_wp2
   go_end0
   exact ⟨⟨_, rfl⟩, .inl ⟨_, rfl, hJs⟩⟩
set_option maxHeartbeats 1000000 in
theorem jGD (n : Nat) (l Bs c : Nat) (A : Option Addr) (J : List (Int × Int) → World → Prop) (W : World) (hBs : W.cell? ⟨Bs, 0, none⟩ = some (.slice A 0 c)) (h0 : J [] W) :
  CallsIn Fence.wide n Try.prog 94 #[.func (.yield l) #[] #[], .pointer (some ⟨Bs, 0, none⟩)] W fun e W' => (∃ v, e = .returned v) ∧ J [] W' := by
 refine callsIn_of_wp Try.func94 rfl trivial ?_ rfl
 simp only [Try.ntmps94, List.size_toArray, List.length_cons, List.length_nil, Nat.reduceAdd, Nat.reduceSub, Array.replicate_succ, Array.replicate_zero, List.push_toArray, List.append_toArray, List.nil_append, List.cons_append]
 gi_wp2
 gi_loopw [3] (fun i wr => i = .int .i64 (-1) ∧ J [] wr) (fun _ _ => 0)
 case atStart => exact ⟨rfl, h0⟩
 case round =>
  obtain ⟨rfl, hJs⟩ := hrel
  gi_wp2
  go_end0
  exact ⟨⟨_, rfl⟩, hJs⟩
set_option maxHeartbeats 1000000 in
theorem jIS (n : Nat) (a : Option Addr) (len cap : Nat) (w : World) :
  CallsIn Fence.wide n Try.prog 65 #[.slice a len cap] w fun e w' => e = .returned (.func (.func 94) #[] #[.pointer (some ⟨w.heap.size, 0, none⟩)]) ∧ w' = w.alloc (.cells #[.slice a len cap] 36) := by
 refine callsIn_of_wp Try.func65 rfl trivial ?_ rfl
 simp only [Try.ntmps65, List.size_toArray, List.length_cons, List.length_nil, Nat.reduceAdd, Nat.reduceSub, Array.replicate_succ, Array.replicate_zero, List.push_toArray, List.append_toArray, List.nil_append, List.cons_append]
 gi_wp2
 go_ret
 exact ⟨rfl, rfl⟩
theorem jEn (n : Nat) (hn : 1 ≤ n) (Bs n₀ g cap : Nat) (A : Option Addr) (zs : List Int) (hreach : zs.length * 8 ≤ 140737488351232) (w : World) (hBs : Bs < n₀ ∧ Bs ≠ g) (hn₀ : n₀ ≤ w.heap.size)
  (hc : w.cell? ⟨Bs, 0, none⟩ = some (.slice A zs.length cap)) (hI : zs = [] ∨ ∃ b off, A = some ⟨b, off, none⟩ ∧ (b < n₀ ∧ b ≠ g) ∧ ∀ j, j < zs.length → w.cell? ⟨b, off + j, none⟩ = some (.int .u64 (zs[j]?.getD 0))) :
  SeqStopsK Fence.wide n Try.prog 94 #[.pointer (some ⟨Bs, 0, none⟩)] (fun x : Int × Int => #[Value.int .i64 x.1, Value.int .u64 x.2]) (KpG n₀ g) (fun ys => ys = upto (bk zs) zs.length)
   (fun pre => ∃ k, k ≤ zs.length ∧ pre = upto (bk zs) k) zs.length w := fun l J Jx W hW _ _ hY h0 => by
 have hc' := (hW.cell (p := ⟨Bs, 0, none⟩) (by have := hBs.1; show Bs < _; omega)).trans hc
 rcases hI with rfl | ⟨b, off, rfl, hb, hcs⟩
 ·
  exact (jGD n l Bs cap A J W hc' h0).mono fun e W' ⟨he, hj⟩ => ⟨he, .inl ⟨_, rfl, hj⟩⟩
 ·
  exact jHK n hn l Bs n₀ g b off cap zs hreach hb J Jx hY W hBs hc' (fun j hj => (hW.cell (p := ⟨b, off + j, none⟩) (by have := hb.1; show b < _; omega)).trans (hcs j hj)) h0
def lows (n : Int) : Nat → List Int
 | 0 => []
 | i + 1 => n / 256 ^ i % 256 :: lows n i
theorem jAJ (n : Int) : ∀ w, (lows n w).length = w
 | 0 => rfl
 | w + 1 => by rw [lows, List.length_cons, jAJ n w]
theorem jAt (i : Nat) : (256 : Int) ^ i = 2 ^ (8 * i) := by rw [Int.pow_mul]; rfl
theorem jCW (n : Int) {i : Nat} (h : i ≤ 8) : shr .u64 n (8 * (i : Int)) = n / 256 ^ i := by
 unfold shr
 have e : min (Int.toNat (8 * (i : Int))) IntKind.u64.bits = 8 * i := by
  rw [show 8 * (i : Int) = ((8 * i : Nat) : Int) by omega, Int.toNat_natCast]
  exact Nat.min_eq_left (by show 8 * i ≤ 64; omega)
 rw [e, jAt]
theorem jBr {n : Int} {w : Nat} (hw : w ≤ 8) : ∀ (d i k : Nat), i + d = w → d < k → jO.l0 k n w (List.replicate d 0 ++ lows n i) w i = some (strOfNums (lows n w))
 | 0, i, k, hi, hk => by
  obtain ⟨k, rfl⟩ : ∃ j, k = j + 1 := ⟨k - 1, by omega⟩
  have : ¬ ((i : Int) < (w : Int)) := by omega
  rw [jO.l0, if_neg this]
  obtain rfl : i = w := by omega
  rfl
 | d + 1, i, k, hi, hk => by
  obtain ⟨k, rfl⟩ : ∃ j, k = j + 1 := ⟨k - 1, by omega⟩
  have e1 : wrap64 (8 * (i : Int)) = 8 * (i : Int) := by unfold wrap64; omega
  have e2 : wrap64 (wrap64 ((w : Int) - 1) - (i : Int)) = (d : Int) := by unfold wrap64; omega
  have e3 : wrap64 ((i : Int) + 1) = ((i + 1 : Nat) : Int) := by unfold wrap64; omega
  have c1 : (i : Int) < (w : Int) := by omega
  have c4 : (d : Int) < ((List.replicate (d + 1) (0 : Int) ++ lows n i).length : Int) := by
   rw [List.length_append, List.length_replicate]; omega
  have hs : (List.replicate (d + 1) (0 : Int) ++ lows n i).set d (n / 256 ^ i % 256) = List.replicate d 0 ++ lows n (i + 1) := by
   rw [List.replicate_succ', List.append_assoc, List.set_append_right _ _ (by rw [List.length_replicate]; exact Nat.le_refl _), List.length_replicate, Nat.sub_self]
   rfl
  rw [jO.l0, e1, e2, e3, if_pos c1, if_pos (by omega), if_pos (by omega), if_pos c4, jCW n (by omega), Int.toNat_natCast, hs]
  exact jBr hw d (i + 1) k (by omega) (by omega)
theorem jJV (n : Int) : jO.f 9 n 8 = some (strOfNums (lows n 8)) := by
 unfold jO.f
 rw [if_pos (by omega), if_pos (by omega), Option.bind_some]
 exact jBr (n := n) (w := 8) (Nat.le_refl _) 8 0 9 (by omega) (by omega)
/-- s, and the bytes of l's numbers behind it. -/
def puts (s : ByteArray) (l : List Int) : ByteArray := l.foldl (fun s x => s ++ strOfNums (lows x 8)) s
theorem jFM (s : ByteArray) (l : List Int) (x : Int) : puts s (l ++ [x]) = puts s l ++ strOfNums (lows x 8) := by simp [puts]
theorem jBk : ∀ (l : List Int) (s : ByteArray), (puts s l).size = s.size + 8 * l.length
 | [], _ => rfl
 | x :: l, s => by
  show (puts (s ++ strOfNums (lows x 8)) l).size = _
  rw [jBk l, ByteArray.size_append, strOfNums_size, jAJ, List.length_cons]; omega
theorem jHl (zs : List Int) : (upto (bk zs) zs.length).map Prod.snd = zs.reverse := by
 apply List.ext_getElem
 ·
  simp [upto]
 ·
  intro i h1 h2
  simp [upto] at h1
  have h3 : zs.length - 1 - i < zs.length := by omega
  simp [upto, bk, h3]
theorem row_of {w : World} {A : Option Addr} {n : Nat} {xs : List Int} (h : Kd.C (Kd.int .u64) w A n xs) (hp : 0 < n) : ∃ b off, A = some ⟨b, off, none⟩ ∧ b < w.heap.size ∧ ∀ j, j < n → w.cell? ⟨b, off + j, none⟩ = some (.int .u64 (xs[j]?.getD 0)) := by
 obtain ⟨ad, e, hc⟩ := h.2.2 hp
 have hl := h.1
 have key : ∀ j, j < n → w.cell? (ad.add j) = some (.int .u64 (xs[j]?.getD 0)) := fun j hj => by
  obtain ⟨c, h1, h2, h3⟩ := hc j (xs[j]'(by omega)) (List.getElem?_eq_getElem (by omega))
  have h2' : c = [.int .u64 (xs[j]'(by omega))] := h2
  have := h3 0 (.int .u64 (xs[j]'(by omega))) (by rw [h2']; rfl)
  rw [List.getElem?_eq_getElem (by omega)]
  have e1 : j * (Kd.int .u64).sz + 0 = j := by show j * 1 + 0 = j; omega
  rw [e1] at this
  exact this
 obtain ⟨b, off, spot⟩ := ad
 have k0 := key 0 hp
 have hs : spot = none := by
  cases spot with
  | none => rfl
  | some x => simp [Addr.add, World.cell?] at k0; split at k0 <;> simp at k0
 subst hs
 refine ⟨b, off, e, World.block_lt_of_cell? w _ k0, fun j hj => ?_⟩
 have := key j hj
 by_cases h0 : j = 0
 ·
  subst h0; exact this
 ·
  simpa [Addr.add, h0] using this
set_option maxHeartbeats 4000000 in
theorem jKH (k : Nat) (A : Option Addr) (c : Nat) (l0 : List Int) (s0 : ByteArray) (w : World) (hr0 : Kd.C (Kd.int .u64) w A l0.length l0) (hc0 : l0.length ≤ c) (hm : vK.f l0 = some true) (hp : jY.f k (l0.length : Int) = some s0) (hs : s0.size ≤ 1000) (hl : l0.length ≤ 8) :
  Calls Try.prog 20 #[.slice A l0.length c] w fun e w' => e = .returned (.tuple #[.string (puts s0 l0.reverse), .int .i64 0]) ∧ Below w.heap.size w w' := by
 have HR := jA.mk hr0
 have HC := jA.mk hc0
 have HM := jA.mk hm
 have HP := jA.mk hp
 have HS := jA.mk hs
 have HL := jA.mk hl
 clear hr0 hc0 hm hp hs
 have hw8 : IntKind.u64.wrap (l0.length : Int) = (l0.length : Int) := by rw [IntKind.wrap_u64]; omega
 refine (callsIn_wide (n := 5)).1 ?_
 refine callsIn_of_wp_marks Try.func20 rfl trivial ?_ rfl
 simp only [Try.ntmps20, List.size_toArray, List.length_cons, List.length_nil, Nat.reduceAdd, Nat.reduceSub, Array.replicate_succ, Array.replicate_zero, List.push_toArray, List.append_toArray, List.nil_append, List.cons_append]
 gi_wp2_with fail
 refine ⟨trivial, callsIn_wide.2 ((vK.calls A c l0 true _ HR.out HC.out HM.out).mono ?_)⟩
 rintro e w1 ⟨rfl, ⟨nd, rfl⟩⟩
 gi_wp2_with fail
 refine ⟨trivial, callsIn_wide.2 ((jY.calls k _ s0 _ HP.out).mono ?_)⟩
 rintro e w1 ⟨rfl, hb⟩
 have HB1 := jA.mk ((vI (Below.refl w.heap.size w) nd).trans hb)
 have HR1 := jA.mk (Kd.jf (Kd.jAa HR.out nd) hb)
 clear hb HR
 gi_wp2_with fail
 refine ⟨trivial, (jIS 4 _ _ _ _).mono ?_⟩
 rintro e w2 ⟨rfl, rfl⟩
 have bS := Boxed.new w1 9 (.string s0)
 have bN := Boxed.new (w1.alloc (.cells #[.string s0] 9)) 36 (.slice A l0.length c)
 have hB0 : Below w.heap.size w ((w1.alloc (.cells #[.string s0] 9)).alloc (.cells #[.slice A l0.length c] 36)) := jP (jP HB1.out _) _
 have HR2 := Kd.qg (Kd.qg HR1.out (.cells #[.string s0] 9)) (.cells #[.slice A l0.length c] 36)
 rw [World.size_alloc] at bN
 gi_wp2_with fail
 have hI : l0 = [] ∨ ∃ b off, A = some ⟨b, off, none⟩ ∧ (b < w1.heap.size + 1 + 1 ∧ b ≠ w1.heap.size) ∧ ∀ j, j < l0.length → ((w1.alloc (.cells #[.string s0] 9)).alloc (.cells #[.slice A l0.length c] 36)).cell? ⟨b, off + j, none⟩ = some (.int .u64 (l0[j]?.getD 0)) := by
  by_cases h0 : l0 = []
  ·
   exact .inl h0
  ·
   refine .inr ?_
   obtain ⟨b, off, e, hlt, hcs⟩ := row_of HR1.out (List.length_pos_iff.2 h0)
   obtain ⟨b', off', e', _, hcs'⟩ := row_of HR2 (List.length_pos_iff.2 h0)
   rw [e] at e'
   cases e'
   exact ⟨b, off, e, ⟨by omega, by omega⟩, hcs'⟩
 have hsz : ((w1.alloc (.cells #[.string s0] 9)).alloc (.cells #[.slice A l0.length c] 36)).heap.size = w1.heap.size + 1 + 1 := by rw [World.size_alloc, World.size_alloc]
 have hle := HB1.out.size
 refine wpIn_rangeFunc_ownF (w0 := (w1.alloc (.cells #[.string s0] 9)).alloc (.cells #[.slice A l0.length c] 36)) rfl (by omega) (gf := 94) (lb := #[.pointer (some ⟨w1.heap.size + 1, 0, none⟩)]) rfl trivial (enters_of Try.func94 kr_ rfl)
  (jEn 4 (by omega) (w1.heap.size + 1) (w1.heap.size + 1 + 1) w1.heap.size c A l0 (by omega) _ ⟨by omega, by omega⟩ (by rw [hsz]; exact Nat.le_refl _) bN.cell hI) KpG.trans (KpG.put (by rw [hsz]; exact Nat.le_refl _)) (Below.refl _ _) (fun _ => rfl)
  (fun pre W => (W.cell? ⟨w1.heap.size, 0, none⟩ = some (.string (puts s0 (pre.map Prod.snd))) ∧ W.frozen? ⟨w1.heap.size, 0, none⟩ = false) ∧ Below w.heap.size w W ∧ w1.heap.size + 1 + 1 ≤ W.heap.size)
  (fun _ _ _ => False)
  (OwnFrom.and (Own.from (fun s A B row hs hg hr => ⟨cell_kept hs.1 hg hr, (frozen_kept hs.1 hg hr).trans hs.2⟩) _) (OwnFrom.and (ownFrom_below (Nat.le_refl _) (by rw [hsz]; omega)) (fun _ _ _ _ hs hg _ => Nat.le_trans hs hg.size)))
  (fun _ _ _ _ _ hs _ _ => hs)
  ⟨⟨(bS.alloc _).cell, (bS.alloc _).frozen⟩, hB0, by rw [hsz]; exact Nat.le_refl _⟩
  (fun x => { tmps := #[.slice A l0.length c, undef, .string { data := #[] }, .int .i64 0, .pointer (some ⟨w1.heap.size, 0, none⟩), undef, .int .u64 x.2, .slice A l0.length c, .bool true, .bool false, .slice A l0.length c, .int .i64 l0.length, .int .u64 l0.length, .string s0, .slice A l0.length c, .func (.func 94) #[] #[.pointer (some ⟨w1.heap.size + 1, 0, none⟩)], .int .i64 x.1, .int .u64 x.2, undef, undef, undef, undef, undef], defers := [] }) ?assign ?body ?done ?stop
 case assign =>
  intro l x W K hK
  gi_wp2
  exact hK
 case body =>
  rintro l pre x W ⟨⟨hc, hf⟩, hB, hS2⟩ hlt
  have hmx : Try.prog.follows .mixedOrders = true := by kernel_rfl
  have hsz2 : (puts s0 (pre.map Prod.snd)).size + (strOfNums (lows x.2 8)).size ≤ 9223372036854775807 := by
   rw [jBk, List.length_map, strOfNums_size, jAJ]; have := HS.out; omega
  have hd : 1 ≤ 5 - 1 - 1 := by omega
  have hgl : w1.heap.size < W.heap.size := World.block_lt_of_cell? W ⟨w1.heap.size, 0, none⟩ hc
  gi_wp2
  gi_region_with_o (refine ⟨trivial, ?_⟩; gi_at_call 58; refine (CallsIn.inRound l (callsIn_wide.2 (jO.calls 9 x.2 8 _ _ (jJV x.2)))).mono ?_; rintro e w' ⟨rfl, hb⟩; have hc' := qj (w := W.drew) hb hc; have hf' : w'.frozen? ⟨w1.heap.size, 0, none⟩ = false := by { have := hb.block w1.heap.size hgl; unfold World.frozen? at hf ⊢; rw [this]; exact hf })
  all_goals gi_wp2
  all_goals
   have h7 : W.drew.heap.size = W.heap.size := rfl
   refine ⟨?_, ?_, ⟨?_, ?_⟩, ?_, ?_⟩
   ·
    exact ((KeepsOthers.drew W).trans (KeepsOthers.of_grownBy (zm hb none) (fun _ _ e _ => by cases e))).trans (KeepsOthers.setCell _ _ _)
   ·
    exact (KpG.of_below (W := W) hb (by omega)).trans (KpG.set _ _ 0 _ _)
   ·
    rw [List.map_append, List.map_cons, List.map_nil, jFM]; exact World.cell?_setCell_same' _ _ _ (by rw [hc']; rfl)
   ·
    rw [World.frozen?_setCell]; exact hf'
   ·
    exact ((vL hB).trans (hb.mono (by have := hB.size; omega))).setCell (by show w.heap.size ≤ w1.heap.size; exact hle) _
   ·
    have h5 := (KeepsOthers.setCell w' ⟨w1.heap.size, 0, none⟩ (.string (puts s0 (pre.map Prod.snd) ++ strOfNums (lows x.2 8)))).size; have h6 := hb.size; omega
 case done =>
  rintro D ys W hD rfl ⟨⟨hc, hf⟩, hB, _⟩ hK
  rw [jHl] at hc
  gi_wp2
  refine ⟨by simp, .inl ⟨_, _, rfl, run_takeDeferred hK, ?_⟩⟩
  exact ⟨_, results_tmp2 rfl _ _ _, by rfl, hB.trans (belowK_b (w := w) (Nat.le_refl _) W D _ _ (by rw [hsz] at hD; omega) hK rfl rfl)⟩
 case stop =>
  rintro D c pre W _ _ h _
  exact h.elim
theorem jJA (A : Option Addr) (c : Nat) (l0 : List Int) (w : World) (hr0 : Kd.C (Kd.int .u64) w A l0.length l0) (hc0 : l0.length ≤ c) (hm : vK.f l0 = some false) :
  Calls Try.prog 20 #[.slice A l0.length c] w fun e w' => e = .returned (.tuple #[.string { data := #[] }, .int .i64 1]) ∧ Below w.heap.size w w' := by
 have HR := jA.mk hr0
 have HC := jA.mk hc0
 have HM := jA.mk hm
 clear hr0 hc0 hm
 go_enter Try.func20, Try.ntmps20
 go_wp2_with fail
 refine (vK.calls A c l0 false _ HR.out HC.out HM.out).mono ?_
 rintro e w1 ⟨rfl, ⟨nd, rfl⟩⟩
 go_wp2
 go_ret2
 exact ⟨rfl, vI (Below.refl _ _) nd⟩
end OctPut
def jQ.f (k : Nat) (l0 : List Int) : Option (ByteArray × Int) := (vK.f l0).bind fun b => if b = true then (jY.f k (l0.length : Int)).bind fun s0 => (if s0.size ≤ 1000 ∧ l0.length ≤ 8 then some (OctPut.puts s0 l0.reverse, 0) else none) else some ({ data := #[] }, 1)
theorem jQ.mono : ∀ a0 k, LeO (jQ.f k a0) (jQ.f (k + 1) a0) := by
 intro a0 k
 unfold jQ.f
 exact LeO.bind (LeO.refl _) fun _ => LeO.ite (LeO.bind (jY.mono _ _) fun _ => LeO.refl _) (LeO.refl _)
theorem jQ.calls (k : Nat) (A0 : Option Addr) (c0 : Nat) (l0 : List Int) (r1 : ByteArray) (r2 : Int) (w : World) (hr0 : Kd.C (Kd.int .u64) w A0 l0.length l0) (hc0 : l0.length ≤ c0) (h : jQ.f k l0 = some (r1, r2)) :
  Calls Try.prog 20 #[.slice A0 l0.length c0] w fun e w' => e = .returned (.tuple #[.string r1, .int .i64 r2]) ∧ Below w.heap.size w w' := by
 unfold jQ.f at h
 obtain ⟨b, hm, h⟩ := Option.bind_eq_some_iff.mp h
 cases b with
 | false =>
  cases h
  exact OctPut.jJA A0 c0 l0 w hr0 hc0 hm
 | true =>
  rw [if_pos rfl] at h
  obtain ⟨s0, hp, h⟩ := Option.bind_eq_some_iff.mp h
  by_cases hs : s0.size ≤ 1000 ∧ l0.length ≤ 8
  ·
   rw [if_pos hs] at h
   cases h
   exact OctPut.jKH k A0 c0 l0 s0 w hr0 hc0 hm hp hs.1 hs.2
  ·
   rw [if_neg hs] at h; cases h

-- NOT PRINTED: function 66 (octet_GetNat_1)

/-! ### jI: function 95 -/
def jI.l0 : Nat → List Int → Int → Int → Option (List Int)
 | 0, _, _, _ => none
 | k + 1, x0, x2, x3 => if x2 < x3 then (if 0 ≤ x3 then (if x3 < (x0.length : Int) then (if 0 ≤ x2 then (if x2 < (x0.length : Int) then (jI.l0 k ((x0.set (x2 : Int).toNat (rd x0 x3)).set (x3 : Int).toNat (rd x0 x2)) (wrap64 (x2 + 1)) (wrap64 (x3 - 1))) else (none)) else (none)) else (none)) else (none)) else (some x0)
def jI.f (k : Nat) (l0 : List Int) : Option (List Int) := jI.l0 k l0 0 (wrap64 ((l0.length : Int) - 1))
theorem jI.vW : ∀ k, (∀ y0 y1 y2, LeO (jI.l0 k y0 y1 y2) (jI.l0 (k + 1) y0 y1 y2))
 | 0 => fun _ _ _ r h => by simp [jI.l0] at h
 | k + 1 => by
  have ih0 := jI.vW k
  ·
   intro y0 y1 y2
   unfold jI.l0
   repeat' first
   | (with_reducible exact ih0 _ _ _)
   | (with_reducible exact LeO.refl _)
   | (with_reducible exact LeO.none _)
   | (with_reducible refine LeO.ite ?_ ?_)
   | (with_reducible refine LeO.bind ?_ (fun _ => ?_))
theorem jI.mono : ∀ a0 k, LeO (jI.f k a0) (jI.f (k + 1) a0) := by
 intro a0 k
 have ih0 := jI.vW k
 unfold jI.f
 repeat' first
   | (with_reducible exact ih0 _ _ _)
   | (with_reducible exact LeO.refl _)
   | (with_reducible exact LeO.none _)
   | (with_reducible refine LeO.ite ?_ ?_)
   | (with_reducible refine LeO.bind ?_ (fun _ => ?_))
def jI.T3 : Bool × List (List Nat × List Nat) := (true, [([], []), ([], []), ([], []), ([], []), ([], []), ([], []), ([4, 5], [4, 5]), ([6], [6]), ([], []), ([], []), ([8, 9], [8, 9]), ([10], [10]), ([0, 1, 0, 1, 4, 5, 6, 7, 11], [0, 1]), ([12, 7, 0, 1, 4, 5, 6, 7, 11], [7, 12]), ([2, 3, 0, 1, 2, 3, 4, 5, 6, 7, 8, 9, 10, 11, 12, 13], [2, 3]), ([14, 11, 13, 0, 1, 2, 3, 4, 5, 6, 7, 8, 9, 10, 11, 12, 13], [11, 14])])
def jI.B3 : List Nat := [0, 0, 0, 0, 0, 0, 48, 112, 0, 0, 768, 1792, 4083, 8179, 16383, 32767]
theorem jI.tab3 : rtab .any (opsOf Try.f95 3) = jI.T3 := by kernel_rfl
theorem jI.jKP : jAQ jI.T3.2 jI.B3 = true := by kernel_rfl
theorem jI.calls (k : Nat) (P0_ : Nat → Prop) (u9000_ : Value) (l0 : List Int) (r : List Int) (w0 w : World) (hB : Below w0.heap.size w0 w) (ho0 : Kd.R (Kd.int .u64) 22 w w0.heap.size P0_ u9000_ l0) (h : jI.f k l0 = some r) :
  Calls Try.prog 95 #[u9000_] w fun e w' => e = .returned (.tuple #[]) ∧ Kd.R (Kd.int .u64) 22 w' w0.heap.size (fun k_ => (P0_ k_ ∨ w.heap.size ≤ k_)) u9000_ r ∧ Below w0.heap.size w0 w' ∧ Kept w w' (fun k_ => P0_ k_) := by
 have HO0 := jA.mk (show Kd.R (Kd.int .u64) 22 w w0.heap.size (fun k_ => (P0_ k_ ∨ w.heap.size ≤ k_)) u9000_ l0 from Kd.jw ho0 (fun k_ hk => (.inl hk)))
 have HK := jA.mk (Kept.refl w (fun k_ => P0_ k_))
 have HW0 := jA.mk hB.size
 have HB := jA.mk hB
 clear hB
 have H : (jI.l0 k l0 0 (wrap64 ((l0.length : Int) - 1))) = some r := h
 clear h
 have H' := jA.mk H
 clear H
 obtain ⟨Ao2, co2, eo2⟩ := Kd.jq HO0.out
 subst eo2
 go_enter Try.func95, Try.ntmps95
 go_wp2
 go_loopg [2, 3] k (fun kq v2 v3 w' => ∃ (x0_1 : List Int) (x2_1 : Int) (x3_1 : Int), v2 = .int .i64 x2_1 ∧ v3 = .int .i64 x3_1 ∧ jA (jI.l0 kq x0_1 x2_1 x3_1 = some r) ∧ jA (kq ≤ k) ∧ jA (Kd.R (Kd.int .u64) 22 w' w0.heap.size (fun k_ => (P0_ k_ ∨ w.heap.size ≤ k_)) (.slice Ao2 l0.length co2) x0_1) ∧ jA (Kept w w' (fun k_ => P0_ k_)) ∧ jA (Below w0.heap.size w0 w'))
 case atStart => exact ⟨(l0), (0), (wrap64 ((l0.length : Int) - 1)), sd_, sd_, H', ⟨Nat.le_refl _⟩, ⟨(rR_ HO0)⟩, ⟨by repeat (first | (with_reducible first | exact HK.out | apply Kept.alloc | apply Kept.drewN | apply Kept.drew) | exact HK.out)⟩, ⟨(bb_ HB)⟩⟩
 case round =>
  clear H'
  try clear p2
  obtain ⟨x0_1, x2_1, x3_1, rfl, rfl, HA, HK1, HO_0, HK, HB⟩ := hrel
  have hl0_1 := (Kd.jN HO_0.out).1
  rw [hl0_1] at HO_0
  (try simp only [hl0_1])
  cases gk with
  | zero => exact absurd HA.out (by simp [jI.l0])
  | succ k1 =>
   have H := HA.out
   clear HA
   simp only [jI.l0] at H
   by_cases c3 : x2_1 < x3_1
   ·
    rw [if_pos c3] at H
    have c3b0 := decide_eq_true c3
    clear c3
    by_cases c4 : 0 ≤ x3_1
    ·
     rw [if_pos c4] at H
     have c4b0 := decide_eq_true c4
     clear c4
     by_cases c5 : x3_1 < (x0_1.length : Int)
     ·
      rw [if_pos c5] at H
      have c5b0 := decide_eq_true c5
      (try simp only [hl0_1] at c5b0)
      clear c5
      by_cases c6 : 0 ≤ x2_1
      ·
       rw [if_pos c6] at H
       have c6b0 := decide_eq_true c6
       clear c6
       by_cases c7 : x2_1 < (x0_1.length : Int)
       ·
        rw [if_pos c7] at H
        have c7b0 := decide_eq_true c7
        (try simp only [hl0_1] at c7b0)
        clear c7
        obtain ⟨y119, hy119⟩ : ∃ y_ : List Int, y_ = (x0_1.set (x2_1 : Int).toNat (rd x0_1 x3_1)) := ⟨_, rfl⟩
        replace H : (jI.l0 k1 (y119.set (x3_1 : Int).toNat (rd x0_1 x2_1)) (wrap64 (x2_1 + 1)) (wrap64 (x3_1 - 1))) = some r := by first | (rw [hy119]; with_reducible exact H) | (have H2_ := (Option.bind_some _ _).symm.trans H; rw [hy119]; with_reducible exact H2_) | (with_reducible exact hs_ H) | with_reducible exact H | (rw [hy119]; exact H) | exact H
        have Ny119 := jA.mk hy119
        clear hy119
        obtain ⟨y120, hy120⟩ : ∃ y_ : List Int, y_ = (y119.set (x3_1 : Int).toNat (rd x0_1 x2_1)) := ⟨_, rfl⟩
        replace H : (jI.l0 k1 y120 (wrap64 (x2_1 + 1)) (wrap64 (x3_1 - 1))) = some r := by first | (rw [hy120]; with_reducible exact H) | (have H2_ := (Option.bind_some _ _).symm.trans H; rw [hy120]; with_reducible exact H2_) | (with_reducible exact hs_ H) | with_reducible exact H | (rw [hy120]; exact H) | exact H
        have Ny120 := jA.mk hy120
        clear hy120
        have H' := jA.mk H
        clear H
        try go_wp2
        have n0_ := jA.mk (Kd.zi HO_0.out)
        have n1_ := jA.mk (Kept.drew HK.out)
        have n2_ := jA.mk (zZ HB.out)
        clear HO_0
        clear HK
        clear HB
        have HO_0 := n0_
        have HK := n1_
        have HB := n2_
        clear n0_ n1_ n2_
        have p117 : 0 ≤ (x3_1 : Int) := of_decide_eq_true am_
        have q117 : x3_1 < (x0_1.length : Int) := of_decide_eq_true am_
        obtain ⟨ad117, e117, hx117_0⟩ := Kd.vX (Kd.jN HO_0.out).2.2 x3_1 p117 q117
        cases e117
        replace p117 := eq_true p117
        replace q117 := eq_true q117
        have p118 : 0 ≤ (x2_1 : Int) := of_decide_eq_true am_
        have q118 : x2_1 < (x0_1.length : Int) := of_decide_eq_true am_
        obtain ⟨ad118, e118, hx118_0⟩ := Kd.vX (Kd.jN HO_0.out).2.2 x2_1 p118 q118
        obtain rfl : ad117 = ad118 := (by injection e118)
        replace p118 := eq_true p118
        replace q118 := eq_true q118
        have p8 : 0 ≤ (x2_1 : Int) := of_decide_eq_true am_
        have q8 : (x2_1 : Int) < ((x0_1.length : Int) : Int) := of_decide_eq_true am_
        obtain ⟨go8, co8, eo8, gb8, gl8, cl8, HG8⟩ := Kd.qy HO_0.out (by omega)
        (first | cases eo8 | (injection eo8 with ea_ en_ ec_; (first | subst ea_ | (injection ea_ with ea_; subst ea_)); subst ec_; clear en_))
        have GB8 := jA.mk gb8
        have GG8 := jA.mk HG8
        clear gb8 gl8 HG8
        have HMgo8 := jA.mk (show (P0_ go8 ∨ w.heap.size ≤ go8) from (HO_0.out.1 _ rfl))
        (first | simp only [add_plain] at hx117_0 | skip)
        (first | simp only [add_plain] at hx118_0 | skip)
        obtain ⟨hx8_0, hf8_0⟩ := Kd.za 0 HO_0.out (x2_1 : Int) p8 q8
        replace p8 := eq_true p8
        replace q8 := eq_true q8
        have HP11 := Kd.jGM HO_0.out (x2_1 : Int) (rd x0_1 x3_1)
        rw [← Ny119.out] at HP11
        have HQ11 := jA.mk HP11
        clear HP11
        have p9 : 0 ≤ (x3_1 : Int) := of_decide_eq_true am_
        have q9 : (x3_1 : Int) < ((x0_1.length : Int) : Int) := of_decide_eq_true am_
        obtain ⟨hx9_0, hf9_0⟩ := Kd.za 0 HQ11.out (x3_1 : Int) p9 q9
        replace p9 := eq_true p9
        replace q9 := eq_true q9
        have HP12 := Kd.jGM HQ11.out (x3_1 : Int) (rd x0_1 x2_1)
        rw [← Ny120.out] at HP12
        have HQ12 := jA.mk HP12
        clear HP12
        refine jAN (n := 16) (S := fun w' => w'.cell? ⟨go8, (x3_1).toNat, none⟩ = some (.int .u64 (rd x0_1 x3_1)) ∧ w'.cell? ⟨go8, (x2_1).toNat, none⟩ = some (.int .u64 (rd x0_1 x2_1))) (ds := [13, 15]) #[false, false, false, false, false, false, false, false, false, false, false, false, false, false, false, false] kr_ rfl rfl ⟨hx117_0, hx118_0⟩ (fun hHeld => ?_); refine jAo jI.tab3 jI.jKP (fun HT_ HW_ => ?_)
        generalize wr.drew = w10 at HO_0 HK HB GG8 HQ11 HQ12 hf8_0 hf9_0 hx117_0 hx118_0 hx8_0 hx9_0 hHeld ⊢
        refine pu_ 0 (some 14) (ba_ 16 1) (vJ HT_.out kr_) ?_
        refine pu_ 1 (some 15) (ba_ 16 3) (vJ HT_.out kr_) ?_
        refine pu_ 2 (some 16) (ba_ 16 7) (vJ HT_.out kr_) ?_
        refine pu_ 3 (some 17) (ba_ 16 15) (vJ HT_.out kr_) ?_
        refine pu_ 4 (some 18) (ba_ 16 31) (vJ HT_.out kr_) ?_
        refine pu_ 5 (some 19) (ba_ 16 63) (vJ HT_.out kr_) ?_
        refine pu_ 6 (some 20) (ba_ 16 127) (vJ HT_.out kr_) ?_
        refine pu_ 8 (some 22) (ba_ 16 383) (vJ HT_.out kr_) ?_
        refine pu_ 9 (some 23) (ba_ 16 895) (vJ HT_.out kr_) ?_
        refine pu_ 10 (some 24) (ba_ 16 1919) (vJ HT_.out kr_) ?_
        refine tk2_ 7 (some 21) (ba_ 16 2047) (jBS HT_.out HW_.out kr_) hHeld ?_
        refine tk2_ 11 (some 25) (ba_ 16 4095) (jBS HT_.out HW_.out kr_) hHeld ?_
        refine pu_ 12 (some 26) (ba_ 16 8191) (vJ HT_.out kr_) ?_
        refine jAX (i := 13) (N := none) (ba_ 16 16383) rfl rfl (jAv HT_.out kr_) (by decide) (fun K hK => ?_)
        refine jAB (w1 := ?_) (by rfl) rfl ?_ ?_
        rotate_left
        ·
         go_simp
         rfl
        refine hK.out _ _ ?_
        clear hK K
        refine pu_ 14 (some 27) (ba_ 16 32767) (vJ HT_.out kr_) ?_
        refine jAX (i := 15) (N := none) (ba_ 16 65535) rfl rfl (jAv HT_.out kr_) (by decide) (fun K hK => ?_)
        refine jAB (w1 := ?_) (by rfl) rfl ?_ ?_
        rotate_left
        ·
         go_simp
         rfl
        refine hK.out _ _ ?_
        clear hK K
        refine jBQ (jCg HT_.out kr_) ?_
        try go_wp2
        (try simp only [← hl0_1])
        go_roundg k1
        case measure => have := HK1.out; omega
        case rel => exact ⟨(y120), (wrap64 (x2_1 + 1)), (wrap64 (x3_1 - 1)), sd_, sd_, H', ⟨by have := HK1.out; omega⟩, ⟨by (try simp only [hl0_1]); refine pR_ ?_; exact HQ12.out⟩, ⟨by repeat (first | (with_reducible first | exact HK.out | apply Kept.alloc | apply Kept.drewN | apply Kept.drew | refine Kept.setCell ?_ HMgo8.out _ | refine Kept.setCell ?_ HMgo8.out _) | exact HK.out)⟩, ⟨(bb2_ HB GB8 GB8)⟩⟩
       ·
        rw [if_neg c7] at H
        exact absurd H (by simp)
      ·
       rw [if_neg c6] at H
       exact absurd H (by simp)
     ·
      rw [if_neg c5] at H
      exact absurd H (by simp)
    ·
     rw [if_neg c4] at H
     exact absurd H (by simp)
   ·
    rw [if_neg c3] at H
    have c3b0 := decide_eq_false c3
    clear c3
    obtain rfl := Option.some.inj H
    go_wp2
    first | go_end0 | ((try simp only [Exit.inBlock, Exit.then]); refine bodyPost_ret (results_none rfl _ _ _) rfl ?_)
    exact ⟨ew_, (by first | exact (rR_ HO_0) | (simp only [hl0_1]; exact (rR_ HO_0))), (bb_ HB), by repeat (first | (with_reducible first | exact HK.out | apply Kept.alloc | apply Kept.drewN | apply Kept.drew) | exact HK.out)⟩

/-! ### octet_reader_natural: function 67 -/

namespace OctNat
open Oct
def chunks : Nat → ByteArray → List Int
 | 0, _ => []
 | n + 1, t => be (bytesOf (t.extract 0 8)) :: chunks n (t.extract 8 t.size)
theorem jAd : ∀ n t, (chunks n t).length = n
 | 0, _ => rfl
 | n + 1, t => by rw [chunks, List.length_cons, jAd n]
def nat_ (k : Nat) (s : ByteArray) : Option (Int ⊕ (List Int × ByteArray)) := match num s with
 | .inl c => some (.inl c)
 | .inr (n, t) => if 8 < n.toNat then some (.inl 62) else if t.size < 8 * n.toNat then some (.inl 60) else
  (jI.f k (chunks n.toNat (t.extract 0 (8 * n.toNat)))).bind fun l => (vK.f l).bind fun b => some (if b then .inr (l, t.extract (8 * n.toNat) t.size) else .inl 62)
def jIc (g : Nat) (w : World) (v : Int ⊕ (List Int × ByteArray)) (e : Ending) (w' : World) : Prop := match v with
 | .inl c => e = .panicked (pan c) ∧ jAA g w w'
 | .inr (l, t) => ∃ u, e = .returned u ∧ jAA g w w' ∧ w'.heap[g]? = some (.cells #[.string t] 86 (0, 0)) ∧ Kd.R (Kd.int .u64) 22 w' w.heap.size (fun _ => True) u l
def cut (g : Nat) (w : World) : World := { w with heap := w.heap.extract 0 g }
theorem jBU {g : Nat} {w : World} (h : g ≤ w.heap.size) : (cut g w).heap.size = g := by
 show (w.heap.extract 0 g).size = g
 rw [Array.size_extract]; omega
theorem jHZ {g i : Nat} {w : World} (h : g ≤ w.heap.size) (hi : i < g) : (cut g w).heap[i]? = w.heap[i]? := by
 show (w.heap.extract 0 g)[i]? = _
 rw [Array.getElem?_extract]
 rw [if_pos (by omega), Nat.zero_add]
theorem jFq {g : Nat} {w : World} (h : g ≤ w.heap.size) : Below (cut g w).heap.size (cut g w) w := by
 rw [jBU h]
 exact ⟨rfl, rfl, rfl, by rw [jBU h]; exact h, fun i hi => (jHZ h hi).symm⟩
theorem jDY {g : Nat} {w w' : World} (hb : Below g (cut g w) w') (hs : w.heap.size ≤ w'.heap.size) (h : g ≤ w.heap.size) : Below g w w' :=
 ⟨hb.os, hb.tape, hb.output, hs, fun i hi => (hb.block i hi).trans (jHZ h hi)⟩
theorem jCc (s : ByteArray) (k : Nat) : LeO (nat_ k s) (nat_ (k + 1) s) := by
 unfold nat_
 cases num s with
 | inl c => exact LeO.refl _
 | inr p => exact LeO.ite (LeO.refl _) (LeO.ite (LeO.refl _) (LeO.bind (jI.mono _ _) fun _ => LeO.refl _))
theorem jAw (k g : Nat) (s : ByteArray) (w : World) (v : Int ⊕ (List Int × ByteArray)) (hb : w.heap[g]? = some (.cells #[.string s] 86 (0, 0))) (hz : s.size ≤ 140737488351232) (h : nat_ k s = some v) :
  Calls Try.prog 67 #[.pointer (some ⟨g, 0, none⟩)] w (jIc g w v) := by
 have HB := jA.mk hb
 have HG := jA.mk (qN hb)
 clear hb
 unfold nat_ at h
 cases hn : num s with
 | inl c =>
  rw [hn] at h
  cases h
  have HN := jA.mk (zw (g := g) (w := w) hn)
  clear hn
  go_enter Try.func67, Try.ntmps67
  go_wp2_with fail
  refine (qm g s w HB.out hz).mono ?_
  rw [HN.out]
  rintro e w1 ⟨rfl, hb⟩
  exact ⟨rfl, rfl, hb⟩
 | inr p =>
  obtain ⟨n, t⟩ := p
  obtain ⟨m, rfl⟩ := Int.eq_ofNat_of_zero_le (jFY hn)
  have hts := jAc hn
  rw [hn] at h
  simp only [Int.toNat_natCast] at h
  have HN := jA.mk (qE (g := g) (w := w) hn)
  clear hn
  by_cases h8 : 8 < m
  ·
   rw [if_pos h8] at h
   cases h
   have t2 : decide ((m : Int) ≤ 8) = false := decide_eq_false (by omega)
   have t3 : decide (m ≤ 8) = false := decide_eq_false (by omega)
   go_enter Try.func67, Try.ntmps67
   go_wp2_with fail
   refine (qm g s w HB.out hz).mono ?_
   rw [HN.out]
   rintro e w1 ⟨rfl, hb, hc⟩
   have HC := jA.mk hb
   clear hb hc
   go_wp2_with fail
   refine (jBE _).mono ?_
   rintro e w1 ⟨rfl, rfl⟩
   exact ⟨rfl, rfl, HC.out⟩
  ·
   rw [if_neg h8] at h
   have t2 : decide ((m : Int) ≤ 8) = true := decide_eq_true (by omega)
   have t3 : decide (m ≤ 8) = true := decide_eq_true (by omega)
   have hw : IntKind.u64.wrap (8 * (m : Int)) = ((8 * m : Nat) : Int) := by rw [IntKind.wrap_u64]; omega
   have HM := jA.mk h8
   clear h8
   by_cases hs : t.size < 8 * m
   ·
    rw [if_pos hs] at h
    cases h
    go_enter Try.func67, Try.ntmps67
    go_wp2_with fail
    refine (qm g s w HB.out hz).mono ?_
    rw [HN.out]
    rintro e w1 ⟨rfl, hb, hc⟩
    have HC := jA.mk hb
    have HD := jA.mk hc
    clear hb hc
    go_wp2_with fail
    refine (qw _).mono ?_
    rintro e w2 ⟨rfl, rfl⟩
    go_wp2_with fail
    rw [show 8 * (m : Int) = ((8 * m : Nat) : Int) from (Int.natCast_mul 8 m).symm]
    refine (jBd g (8 * m) t w1 HD.out (by omega) hs).mono ?_
    rintro e w2 ⟨rfl, rfl⟩
    exact ⟨rfl, rfl, HC.out⟩
   ·
    rw [if_neg hs] at h
    obtain ⟨l, hl, h⟩ := Option.bind_eq_some_iff.mp h
    obtain ⟨b, hm, h⟩ := Option.bind_eq_some_iff.mp h
    have hts2 : t.size ≤ 9223372036854775807 := by omega
    have HL := jA.mk hl
    have HMY := jA.mk hm
    have HV := jA.mk h
    have HZ := jA.mk hz
    clear hl hm h hz
    go_enter Try.func67, Try.ntmps67
    go_wp2_with fail
    refine (qm g s w HB.out HZ.out).mono ?_
    rw [HN.out]
    rintro e w1 ⟨rfl, hb, hc⟩
    have HC := jA.mk hb
    have HD := jA.mk hc
    clear hb hc HN HB
    go_wp2_with fail
    refine (qw _).mono ?_
    rintro e w2 ⟨rfl, rfl⟩
    go_wp2_with fail
    rw [show 8 * (m : Int) = ((8 * m : Nat) : Int) from (Int.natCast_mul 8 m).symm]
    clear hw
    refine (jAF g (8 * m) t w1 HD.out hts2 (by omega)).mono ?_
    rintro e w2 ⟨rfl, rfl⟩
    have HE := jA.mk (jc (cs' := #[.string (t.extract (8 * m) t.size)]) HD.out 0 (.string (t.extract (8 * m) t.size)) rfl)
    have HF := jA.mk (jCq HC.out (.string (t.extract (8 * m) t.size)))
    generalize w1.setCell ⟨g, 0, none⟩ (.string (t.extract (8 * m) t.size)) = w2 at HE HF ⊢
    clear HC HD w1
    have hx0 : (t.extract 0 (8 * m)).size = 8 * m := by rw [ByteArray.size_extract]; omega
    generalize t.extract 0 (8 * m) = x0 at HL hx0 ⊢
    have HX := jA.mk hx0
    clear hx0
    have HGW := jA.mk HG.out
    go_wp2_with fail
    go_loopw [2, 4] (fun v2 v4 w' => ∃ (done : List Int) (j : Nat) (x : ByteArray), v4 = .string x ∧ jA (x.size = 8 * j) ∧ jA (j ≤ m) ∧ jA (done ++ chunks j x = chunks m x0) ∧ jA (Kd.R (Kd.int .u64) 22 w' w.heap.size (fun _ => True) v2 done) ∧ jA (w'.heap[g]? = some (.cells #[.string (t.extract (8 * m) t.size)] 86 (0, 0))) ∧ jA (jAA g w w')) (fun _ v4 wr => match v4 with | .string x => x.size | _ => 0)
    case atStart => exact ⟨[], m, x0, rfl, HX, ⟨Nat.le_refl _⟩, ⟨rfl⟩, ⟨Kd.jBK _ _ _ _ _⟩, HE, HF⟩
    case round =>
     clear HX HE HF
     obtain ⟨done, j, x, rfl, HX, HJ, HD, HR, HE, HF⟩ := hrel
     cases j with
     | zero =>
      have e0 : (x.toList == ([] : List UInt8)) = true := by rw [beq_iff_eq, ByteArray.toList_eq, ← List.length_eq_zero_iff, zX]; have := HX.out; omega
      have e1 : (x.toList != ([] : List UInt8)) = false := by rw [bne_eq_false_iff_eq, ByteArray.toList_eq, ← List.length_eq_zero_iff, zX]; have := HX.out; omega
      have ed : done = chunks m x0 := by have := HD.out; rw [chunks, List.append_nil] at this; exact this
      rw [← ed] at HL
      clear HD ed HX
      obtain ⟨Ao, co, rfl⟩ := Kd.jq HR.out
      go_wp2_with fail
      have HRG := jA.mk (fun k_ (e_ : (Value.slice Ao done.length co).ownBlock = some k_) => Kd.zk HR.out k_ e_)
      have HFS := jA.mk HF.out.1.size
      refine (jI.calls k (fun k_ => some k_ = (Value.slice Ao done.length co).ownBlock) (.slice Ao done.length co) done l (cut g wr) wr (jFq (by have := HG.out; have := HFS.out; omega)) (by rw [jBU (by have := HG.out; have := HFS.out; omega)]; exact Kd.ji (Kd.jCl rfl HR.out) (Nat.le_of_lt HG.out)) HL.out).mono ?_
      rintro e w3 ⟨rfl, hy, hb, hk⟩
      rw [jBU (by have := HG.out; have := HFS.out; omega)] at hy hb
      have HE3 := jA.mk (jHI HE.out hk (fun e_ => by have := HRG.out g e_.symm; have := HG.out; omega))
      have HF3 := jA.mk (show jAA g w w3 from ⟨HF.out.1.trans (jDY hb hk.1 (by have := HG.out; have := HFS.out; omega)), Nat.le_trans HF.out.2.1 hk.1, fun i hi hg hr => (hk.2 i (Nat.lt_of_lt_of_le hi HFS.out) (fun e_ => by have := HRG.out i e_.symm; omega)).trans (HF.out.2.2 i hi hg hr)⟩)
      have HR3 := jA.mk (Kd.jJq (ok := fun _ => True) rfl (Kd.jIb (d := (Kd.int .u64)) (b := g) (b' := w.heap.size) (fun _ _ _ _ h_ => h_) hy HRG.out) (fun _ _ => trivial))
      clear hy hb hk HE HF HR
      have HQ := jA.mk (Kd.jN HR3.out)
      go_wp2_with fail
      rw [show (done.length : Nat) = l.length from HQ.out.1]
      refine (vK.calls Ao co l b w3 HQ.out.2.2 (HQ.out.1 ▸ HQ.out.2.1) HMY.out).mono ?_
      rintro e w4 ⟨rfl, ⟨nd, rfl⟩⟩
      go_wp2_with fail
      cases b with
      | false =>
       refine (jBE _).mono ?_
       rintro e w5 ⟨rfl, rfl⟩
       have := HV.out
       cases this
       exact ⟨rfl, rfl, ⟨vI HF3.out.1 nd, HF3.out.2⟩⟩
      | true =>
       refine (qw _).mono ?_
       rintro e w5 ⟨rfl, rfl⟩
       have hv := HV.out
       cases hv
       go_wp2
       go_ret
       exact ⟨_, rfl, ⟨vI HF3.out.1 nd, HF3.out.2⟩, jAZ HE3.out nd, Kd.qD (by rw [HQ.out.1] at HR3; exact HR3.out) nd⟩
     | succ j =>
      have hx8 : 8 ≤ x.size := by have := HX.out; omega
      have e0 : (x.toList == ([] : List UInt8)) = false := by rw [beq_eq_false_iff_ne, ByteArray.toList_eq, Ne, ← List.length_eq_zero_iff, zX]; omega
      have e1 : (x.toList != ([] : List UInt8)) = true := by rw [bne_iff_ne, ByteArray.toList_eq, Ne, ← List.length_eq_zero_iff, zX]; omega
      have c8 : (8 : Int) ≤ (x.size : Int) := by omega
      have hz8 : (x.extract 0 8).size = 8 := by rw [ByteArray.size_extract]; omega
      have hz9 : (x.extract 8 x.size).size = 8 * j := by rw [ByteArray.size_extract]; have := HX.out; omega
      have hlen : done.length ≤ 8 := by
       have := congrArg List.length HD.out
       rw [List.length_append, jAd, jAd] at this
       have := HM.out; omega
      have HD2 : done ++ [be (bytesOf (x.extract 0 8))] ++ chunks j (x.extract 8 x.size) = chunks m x0 := by rw [List.append_assoc]; exact HD.out
      have HZ8 := jA.mk hz8
      have HZ9 := jA.mk hz9
      have HLN := jA.mk hlen
      have HD3 := jA.mk HD2
      have HX8 := jA.mk hx8
      clear HD HD2 hz8 hz9 hlen hx8 HX
      have HGR := jA.mk (show g < wr.heap.size from Nat.lt_of_lt_of_le HG.out HF.out.1.size)
      have HWR := jA.mk HF.out.1.size
      go_wp2_with fail
      refine (jDW (x.extract 0 8) wr (by have := HZ8.out; omega)).mono ?_
      rintro e w3 ⟨rfl, hv⟩
      generalize be (bytesOf (x.extract 0 8)) = cc at HD3 ⊢
      have HE3 := jA.mk (vE HE.out hv)
      have HF3 := jA.mk (jAk HG.out HF.out hv)
      have HR3 := jA.mk (Kd.qd HR.out hv)
      have HW3 := jA.mk (Nat.le_trans HWR.out hv.size)
      clear hv HE HF HR HGR HWR
      go_wp2_with ((with_reducible refine zW (b := .append) (xs := #[.tmp 18, .tmp 22]) rfl ?_); at_builtin; refine Kd.jBB (Kd.int .u64) w.heap.size rfl (.tmp 18) (.tmp 22) 36 22 (.int .u64 0) 8 rfl Try.underlying36 qY rfl (by decide) (by omega) u2 done cc [.int .u64 cc] (fun _ => True) (fun _ => False) rfl rfl ?aP (fun _ hk => hk.elim) ?aF ?aO (Below.refl _ _) ?aS ?aL ?_; (case aP => exact rfl); (case aF => exact (fun _ _ => trivial)); (case aO => exact HR3.out); (case aS => exact HW3.out); (case aL => have := HLN.out; omega); intro v4 w4 ho hb hg hat; have HE4 := jA.mk (jAE HE3.out hg (fun e_ => by have := Kd.zk HR3.out g e_.symm; have := HG.out; omega)); have HF4 := jA.mk (jFE HG.out HF3.out hb); have HR4 := jA.mk ho; clear ho hb hg hat HE3 HF3 HR3)
      go_roundw
      case rel => exact ⟨done ++ [cc], j, x.extract 8 x.size, rfl, HZ9, ⟨by have := HJ.out; omega⟩, HD3, HR4, HE4, HF4⟩
      case measure =>
       show (x.extract 8 x.size).size < x.size
       rw [ByteArray.size_extract]; have := HX8.out; omega
end OctNat

end Go.Proofs.Ytijgeonhbmgikaa.POOctetOne
