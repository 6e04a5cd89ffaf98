-- printed (pr.py)
import Derived.Test.YtoganbmeedimiaaGreatPOPressSizesx1
namespace Go.Proofs.YtoganbmeedimiaaGreat.POPressSizes
open Go.RowKit Go.Proofs.YtoganbmeedimiaaGreatN Go.Proofs.YtoganbmeedimiaaGreatW.PrintWords Go.Proofs.YtoganbmeedimiaaGreatW.PrintLast Go.Proofs.YtoganbmeedimiaaGreatW.PrintMore
attribute [local go_sem] zU zQ zn zm vV vU zT zP
set_option maxHeartbeats 8000000
set_option maxRecDepth 100000
set_option linter.unusedVariables false
set_option linter.unusedSimpArgs false
def vS.f (l0 : List Int) : Option (Bool) := if (l0.length : Int) ≤ 8 then (if (l0.length : Int) = 0 then (some true) else (if 0 ≤ (wrap64 ((l0.length : Int) - 1)) then (if (wrap64 ((l0.length : Int) - 1)) < (l0.length : Int) then (some ((rd l0 (wrap64 ((l0.length : Int) - 1))) != 0)) else (none)) else (none))) else (some false)
theorem vS.calls (A0 : Option Addr) (c0 : Nat) (l0 : List Int) (r : Bool) (w : World) (hr0 : Kd.C (Kd.int .u64) w A0 l0.length l0) (hc0 : l0.length ≤ c0) (h : vS.f l0 = some r) :
  Calls Tryz.prog 109 #[.slice A0 l0.length c0] w fun e w' => e = .returned (.bool r) ∧ jY w w' := by
 have HR0 := jA.mk hr0
 have HC0 := jA.mk hc0
 clear hr0 hc0
 have H : (if (l0.length : Int) ≤ 8 then (if (l0.length : Int) = 0 then (some true) else (if 0 ≤ (wrap64 ((l0.length : Int) - 1)) then (if (wrap64 ((l0.length : Int) - 1)) < (l0.length : Int) then (some ((rd l0 (wrap64 ((l0.length : Int) - 1))) != 0)) else (none)) else (none))) else (some false)) = some r := h
 clear h
 by_cases c2 : (l0.length : Int) ≤ 8
 rotate_left
 ·
  rw [if_neg c2] at H
  have c2b0 := decide_eq_false c2
  have c2b1 : decide (l0.length ≤ 8) = false := decide_eq_false (by omega)
  clear c2
  obtain rfl := Option.some.inj H
  go_enter Tryz.func109, Tryz.ntmps109
  go_wp2
  go_ret
  exact ⟨by first | rfl | (simp; done) | (simp [*]; done), by repeat (first | exact jY.refl _ | apply jY.step)⟩
 rw [if_pos c2] at H
 have c2b0 := decide_eq_true c2
 have c2b1 : decide (l0.length ≤ 8) = true := decide_eq_true (by omega)
 clear c2
 by_cases c3 : (l0.length : Int) = 0
 ·
  rw [if_pos c3] at H
  have c3b0 := beq_iff_eq.mpr c3
  have c3b1 := bne_eq_false_iff_eq.mpr c3
  clear c3
  obtain rfl := Option.some.inj H
  go_enter Tryz.func109, Tryz.ntmps109
  go_wp2
  go_ret
  exact ⟨by first | rfl | (simp; done) | (simp [*]; done), by repeat (first | exact jY.refl _ | apply jY.step)⟩
 rw [if_neg c3] at H
 have c3b0 := beq_eq_false_iff_ne.mpr c3
 have c3b1 := bne_iff_ne.mpr c3
 have c3b2 : ¬ (l0 = []) := fun h_ => c3 (by rw [h_]; rfl)
 obtain ⟨ji4, hji4⟩ : ∃ j_ : Int, (wrap64 ((l0.length : Int) - 1)) = j_ := ⟨_, rfl⟩
 replace H : (if 0 ≤ (ji4) then (if (ji4) < (l0.length : Int) then (some ((rd l0 (ji4)) != 0)) else (none)) else (none)) = some r := by first | (rw [hji4] at H; exact H) | (simp only [hji4] at H ⊢; exact H)
 have hji4w : (IntKind.i64.wrap ((l0.length : Int) - 1)) = ji4 := (jv _).trans hji4
 by_cases c5 : 0 ≤ (ji4)
 rotate_left
 ·
  rw [if_neg c5] at H
  exact absurd H (by simp)
 rw [if_pos c5] at H
 have c5b0 := decide_eq_true c5
 clear c5
 by_cases c6 : (ji4) < (l0.length : Int)
 rotate_left
 ·
  rw [if_neg c6] at H
  exact absurd H (by simp)
 rw [if_pos c6] at H
 have c6b0 := decide_eq_true c6
 clear c6
 obtain rfl := Option.some.inj H
 have p116 : 0 ≤ ((ji4) : Int) := of_decide_eq_true am_
 have q116 : (ji4) < (l0.length : Int) := of_decide_eq_true am_
 obtain ⟨ad116, e116, hx116_0⟩ := Kd.vP HR0.out (ji4) p116 q116
 cases e116
 replace p116 := eq_true p116
 replace q116 := eq_true q116
 go_enter Tryz.func109, Tryz.ntmps109
 go_wp2
 go_ret
 exact ⟨by first | rfl | (simp; done) | (simp only [← hji4] <;> (first | rfl | simp)) | (simp [*]; done), by repeat (first | exact jY.refl _ | apply jY.step)⟩
-- NOT PRINTED: function 131 (api_Nat_uint64_1)
namespace OctPut
open Go.Shelf
attribute [local go_sem] Oper.semAt_some
def upto {α : Type} (f : Nat → α) (k : Nat) : List α := (List.range k).map f
theorem jEj {α : Type} (f : Nat → α) (k : Nat) : upto f (k + 1) = upto f k ++ [f k] := by simp [upto, List.range_succ]
theorem jFe {α : Type} (f : Nat → α) (k : Nat) : (upto f k).length = k := by simp [upto]
/-- What lies below n₀ but block g stays. -/
def KpG (n₀ g : Nat) (W W' : World) : Prop := ∀ i, i < n₀ → i ≠ g → W'.heap[i]? = W.heap[i]?
theorem KpG.refl (n₀ g : Nat) (W : World) : KpG n₀ g W W := fun _ _ _ => rfl
theorem KpG.trans {n₀ g : Nat} {A B C : World} (h : KpG n₀ g A B) (k : KpG n₀ g B C) : KpG n₀ g A C := fun i hi hg => (k i hi hg).trans (h i hi hg)
theorem KpG.cell {n₀ g : Nat} {W W' : World} {p : Addr} (h : KpG n₀ g W W') (hp : p.block < n₀) (hg : p.block ≠ g) : W'.cell? p = W.cell? p := by
 unfold World.cell?; rw [h _ hp hg]
theorem KpG.of_below {n₀ g B : Nat} {W W' : World} (h : Below B W.drew W') (hB : n₀ ≤ B) : KpG n₀ g W W' := fun i hi _ => h.block i (by omega)
theorem KpG.put {n₀ g : Nat} {w : World} (hn : n₀ ≤ w.heap.size) (W : World) (l : Nat) (o o' : Obj) (hl : w.heap.size ≤ l) (h : W.heap[l]? = some o) (_ : o.isCells = false) (_ : o.isWalk = false) : KpG n₀ g W (W.putObj l o') := fun i hi _ =>
 (grownBy_putObj' W l o').block i (by have := (Array.getElem?_eq_some_iff.1 h).1; omega) (by simp; omega)
theorem KpG.set (n₀ g j : Nat) (W : World) (v : Value) : KpG n₀ g W (W.setCell ⟨g, j, none⟩ v) := fun i _ hg => Below.heap_setCell W ⟨g, j, none⟩ v i hg
def bk (zs : List Int) (j : Nat) : Int × Int := ((zs.length : Int) - 1 - j, zs[zs.length - 1 - j]?.getD 0)
set_option maxHeartbeats 2000000 in
theorem jKc (n : Nat) (hn : 1 ≤ n) (l Bs n₀ g b off cap : Nat) (zs : List Int) (hreach : zs.length * 8 ≤ 140737488351232) (hb : b < n₀ ∧ b ≠ g) (J Jx : List (Int × Int) → World → Prop)
  (hY : ∀ pre x W, J pre W → pre.length < zs.length → YieldAt Fence.wide (n - 1) Tryz.prog l #[.int .i64 x.1, .int .u64 x.2] W fun e W' =>
   (e = .returned (.bool true) ∧ J (pre ++ [x]) W' ∧ KpG n₀ g W W') ∨ (e = .returned (.bool false) ∧ Jx (pre ++ [x]) W'))
  (W : World) (hBsn : Bs < n₀ ∧ Bs ≠ g) (hBs : W.cell? ⟨Bs, 0, none⟩ = some (.slice (some ⟨b, off, none⟩) zs.length cap)) (hc : ∀ j, j < zs.length → W.cell? ⟨b, off + j, none⟩ = some (.int .u64 (zs[j]?.getD 0))) (h0 : J [] W) :
  CallsIn Fence.wide n Tryz.prog 131 #[.func (.yield l) #[] #[], .pointer (some ⟨Bs, 0, none⟩)] W fun e W' => (∃ v, e = .returned v) ∧
   ((∃ ys, ys = upto (bk zs) zs.length ∧ J ys W') ∨ (∃ pre, (∃ k, k ≤ zs.length ∧ pre = upto (bk zs) k) ∧ Jx pre W')) := by
 refine callsIn_of_wp Tryz.func131 rfl trivial ?_ rfl
 simp only [Tryz.ntmps131, List.size_toArray, List.length_cons, List.length_nil, Nat.reduceAdd, Nat.reduceSub, Array.replicate_succ, Array.replicate_zero, List.push_toArray, List.append_toArray, List.nil_append, List.cons_append]
 gi_wp2
 gi_loopw [3] (fun i wr => ∃ k : Nat, k ≤ zs.length ∧ i = .int .i64 ((zs.length : Int) - 1 - k) ∧ J (upto (bk zs) k) wr ∧ KpG n₀ g W wr)
  (fun i _ => (intOf i + 1).toNat)
 case atStart => exact ⟨0, Nat.zero_le _, by congr 1; omega, h0, KpG.refl _ _ _⟩
 case round =>
  obtain ⟨k, hk, hi, hJs, hnx⟩ := hrel
  have hBs' : wr.cell? ⟨Bs, 0, none⟩ = some (.slice (some ⟨b, off, none⟩) zs.length cap) := (hnx.cell (p := ⟨Bs, 0, none⟩) hBsn.1 hBsn.2).trans hBs
  by_cases hlt : k < zs.length
  rotate_left
  ·
   obtain rfl : k = zs.length := by omega
   have hi' : u3 = .int .i64 (-1) := by rw [hi]; congr 1; omega
   subst hi'
   gi_wp2
   go_end0
   exact ⟨⟨_, rfl⟩, .inl ⟨_, rfl, hJs⟩⟩
  obtain ⟨m, hm⟩ : ∃ m : Nat, m = zs.length - 1 - k := ⟨_, rfl⟩
  have hi' : u3 = .int .i64 (m : Int) := by rw [hi]; congr 1; omega
  have hbk : bk zs k = ((m : Int), zs[m]?.getD 0) := by unfold bk; rw [← hm]; congr 1; omega
  subst hi'
  clear hi
  have hcx : wr.cell? ⟨b, off + m, none⟩ = some (.int .u64 (zs[m]?.getD 0)) := (hnx.cell (p := ⟨b, off + m, none⟩) hb.1 hb.2).trans (hc m (by omega))
  have hml : m < zs.length := by omega
  have HM := jA.mk (show m + 1 + k = zs.length by omega)
  clear hm
  generalize zs[m]?.getD 0 = x at hbk hcx
  obtain ⟨fn, tmps, assign, body, hy, hR⟩ := hY _ ((m : Int), x) wr hJs (by rw [jFe]; exact hlt)
  dsimp only at hy
  gi_wp2
  refine hR.mono ?_
  rintro e W3 (⟨rfl, hJ3, hk3⟩ | ⟨rfl, hJx3⟩)
  ·
   gi_wp2
   go_roundw
   case rel => exact ⟨k + 1, by have := HM.out; omega, by have := HM.out; congr 1; omega, by rw [jEj, hbk]; exact hJ3, hnx.trans hk3⟩
   case measure => have := HM.out; simp [intOf] <;> omega
  gi_wp2
  refine bodyPost_ret (results_none rfl _ _ _) rfl ?_
  exact ⟨⟨_, rfl⟩, .inr ⟨_, ⟨k + 1, by have := HM.out; omega, by rw [jEj, hbk]⟩, hJx3⟩⟩
set_option maxHeartbeats 1000000 in
theorem jJA (n : Nat) (l Bs c : Nat) (A : Option Addr) (J : List (Int × Int) → World → Prop) (W : World) (hBs : W.cell? ⟨Bs, 0, none⟩ = some (.slice A 0 c)) (h0 : J [] W) :
  CallsIn Fence.wide n Tryz.prog 131 #[.func (.yield l) #[] #[], .pointer (some ⟨Bs, 0, none⟩)] W fun e W' => (∃ v, e = .returned v) ∧ J [] W' := by
 refine callsIn_of_wp Tryz.func131 rfl trivial ?_ rfl
 simp only [Tryz.ntmps131, List.size_toArray, List.length_cons, List.length_nil, Nat.reduceAdd, Nat.reduceSub, Array.replicate_succ, Array.replicate_zero, List.push_toArray, List.append_toArray, List.nil_append, List.cons_append]
 gi_wp2
 gi_loopw [3] (fun i wr => i = .int .i64 (-1) ∧ J [] wr) (fun _ _ => 0)
 case atStart => exact ⟨rfl, h0⟩
 case round =>
  obtain ⟨rfl, hJs⟩ := hrel
  gi_wp2
  go_end0
  exact ⟨⟨_, rfl⟩, hJs⟩
set_option maxHeartbeats 1000000 in
theorem jMF (n : Nat) (a : Option Addr) (len cap : Nat) (w : World) :
  CallsIn Fence.wide n Tryz.prog 110 #[.slice a len cap] w fun e w' => e = .returned (.func (.func 131) #[] #[.pointer (some ⟨w.heap.size, 0, none⟩)]) ∧ w' = w.alloc (.cells #[.slice a len cap] 31) := by
 refine callsIn_of_wp Tryz.func110 rfl trivial ?_ rfl
 simp only [Tryz.ntmps110, List.size_toArray, List.length_cons, List.length_nil, Nat.reduceAdd, Nat.reduceSub, Array.replicate_succ, Array.replicate_zero, List.push_toArray, List.append_toArray, List.nil_append, List.cons_append]
 gi_wp2
 go_ret
 exact ⟨rfl, rfl⟩
theorem jHg (n : Nat) (hn : 1 ≤ n) (Bs n₀ g cap : Nat) (A : Option Addr) (zs : List Int) (hreach : zs.length * 8 ≤ 140737488351232) (w : World) (hBs : Bs < n₀ ∧ Bs ≠ g) (hn₀ : n₀ ≤ w.heap.size)
  (hc : w.cell? ⟨Bs, 0, none⟩ = some (.slice A zs.length cap)) (hI : zs = [] ∨ ∃ b off, A = some ⟨b, off, none⟩ ∧ (b < n₀ ∧ b ≠ g) ∧ ∀ j, j < zs.length → w.cell? ⟨b, off + j, none⟩ = some (.int .u64 (zs[j]?.getD 0))) :
  SeqStopsK Fence.wide n Tryz.prog 131 #[.pointer (some ⟨Bs, 0, none⟩)] (fun x : Int × Int => #[Value.int .i64 x.1, Value.int .u64 x.2]) (KpG n₀ g) (fun ys => ys = upto (bk zs) zs.length)
   (fun pre => ∃ k, k ≤ zs.length ∧ pre = upto (bk zs) k) zs.length w := fun l J Jx W hW _ _ hY h0 => by
 have hc' := (hW.cell (p := ⟨Bs, 0, none⟩) (by have := hBs.1; show Bs < _; omega)).trans hc
 rcases hI with rfl | ⟨b, off, rfl, hb, hcs⟩
 ·
  exact (jJA n l Bs cap A J W hc' h0).mono fun e W' ⟨he, hj⟩ => ⟨he, .inl ⟨_, rfl, hj⟩⟩
 exact jKc n hn l Bs n₀ g b off cap zs hreach hb J Jx hY W hBs hc' (fun j hj => (hW.cell (p := ⟨b, off + j, none⟩) (by have := hb.1; show b < _; omega)).trans (hcs j hj)) h0
def lows (n : Int) : Nat → List Int
 | 0 => []
 | i + 1 => n / 256 ^ i % 256 :: lows n i
theorem jAi (n : Int) : ∀ w, (lows n w).length = w
 | 0 => rfl
 | w + 1 => by rw [lows, List.length_cons, jAi n w]
theorem jEH (i : Nat) : (256 : Int) ^ i = 2 ^ (8 * i) := by rw [Int.pow_mul]; rfl
theorem jEE (n : Int) {i : Nat} (h : i ≤ 8) : shr .u64 n (8 * (i : Int)) = n / 256 ^ i := by
 unfold shr
 have e : min (Int.toNat (8 * (i : Int))) IntKind.u64.bits = 8 * i := by
  rw [show 8 * (i : Int) = ((8 * i : Nat) : Int) by omega, Int.toNat_natCast]
  exact Nat.min_eq_left (by show 8 * i ≤ 64; omega)
 rw [e, jEH]
theorem jCz {n : Int} {w : Nat} (hw : w ≤ 8) : ∀ (d i k : Nat), i + d = w → d < k → jX.l0 k n w (List.replicate d 0 ++ lows n i) w i = some (strOfNums (lows n w))
 | 0, i, k, hi, hk => by
  obtain ⟨k, rfl⟩ : ∃ j, k = j + 1 := ⟨k - 1, by omega⟩
  have : ¬ ((i : Int) < (w : Int)) := by omega
  rw [jX.l0, if_neg this]
  obtain rfl : i = w := by omega
  rfl
 | d + 1, i, k, hi, hk => by
  obtain ⟨k, rfl⟩ : ∃ j, k = j + 1 := ⟨k - 1, by omega⟩
  have e1 : wrap64 (8 * (i : Int)) = 8 * (i : Int) := by unfold wrap64; omega
  have e2 : wrap64 (wrap64 ((w : Int) - 1) - (i : Int)) = (d : Int) := by unfold wrap64; omega
  have e3 : wrap64 ((i : Int) + 1) = ((i + 1 : Nat) : Int) := by unfold wrap64; omega
  have c1 : (i : Int) < (w : Int) := by omega
  have c4 : (d : Int) < ((List.replicate (d + 1) (0 : Int) ++ lows n i).length : Int) := by
   rw [List.length_append, List.length_replicate]; omega
  have hs : (List.replicate (d + 1) (0 : Int) ++ lows n i).set d (n / 256 ^ i % 256) = List.replicate d 0 ++ lows n (i + 1) := by
   rw [List.replicate_succ', List.append_assoc, List.set_append_right _ _ (by rw [List.length_replicate]; exact Nat.le_refl _), List.length_replicate, Nat.sub_self]
   rfl
  rw [jX.l0, e1, e2, e3, if_pos c1, if_pos (by omega), if_pos (by omega), if_pos c4, jEE n (by omega), Int.toNat_natCast, hs]
  exact jCz hw d (i + 1) k (by omega) (by omega)
theorem jNP (n : Int) : jX.f 9 n 8 = some (strOfNums (lows n 8)) := by
 unfold jX.f
 rw [if_pos (by omega), if_pos (by omega), Option.bind_some]
 exact jCz (n := n) (w := 8) (Nat.le_refl _) 8 0 9 (by omega) (by omega)
/-- s, and the bytes of l's numbers behind it. -/
def puts (s : ByteArray) (l : List Int) : ByteArray := l.foldl (fun s x => s ++ strOfNums (lows x 8)) s
theorem jIA (s : ByteArray) (l : List Int) (x : Int) : puts s (l ++ [x]) = puts s l ++ strOfNums (lows x 8) := by simp [puts]
theorem jBl : ∀ (l : List Int) (s : ByteArray), (puts s l).size = s.size + 8 * l.length
 | [], _ => rfl
 | x :: l, s => by
  show (puts (s ++ strOfNums (lows x 8)) l).size = _
  rw [jBl l, ByteArray.size_append, strOfNums_size, jAi, List.length_cons]; omega
theorem jLS (zs : List Int) : (upto (bk zs) zs.length).map Prod.snd = zs.reverse := by
 apply List.ext_getElem
 ·
  simp [upto]
 intro i h1 h2
 simp [upto] at h1
 have h3 : zs.length - 1 - i < zs.length := by omega
 simp [upto, bk, h3]
theorem row_of {w : World} {A : Option Addr} {n : Nat} {xs : List Int} (h : Kd.C (Kd.int .u64) w A n xs) (hp : 0 < n) : ∃ b off, A = some ⟨b, off, none⟩ ∧ b < w.heap.size ∧ ∀ j, j < n → w.cell? ⟨b, off + j, none⟩ = some (.int .u64 (xs[j]?.getD 0)) := by
 obtain ⟨ad, e, hc⟩ := h.2.2 hp
 have hl := h.1
 have key : ∀ j, j < n → w.cell? (ad.add j) = some (.int .u64 (xs[j]?.getD 0)) := fun j hj => by
  obtain ⟨c, h1, h2, h3⟩ := hc j (xs[j]'(by omega)) (List.getElem?_eq_getElem (by omega))
  have h2' : c = [.int .u64 (xs[j]'(by omega))] := h2
  have := h3 0 (.int .u64 (xs[j]'(by omega))) (by rw [h2']; rfl)
  rw [List.getElem?_eq_getElem (by omega)]
  have e1 : j * (Kd.int .u64).sz + 0 = j := by show j * 1 + 0 = j; omega
  rw [e1] at this
  exact this
 obtain ⟨b, off, spot⟩ := ad
 have k0 := key 0 hp
 have hs : spot = none := by
  cases spot with
  | none => rfl
  | some x => simp [Addr.add, World.cell?] at k0; split at k0 <;> simp at k0
 subst hs
 refine ⟨b, off, e, World.block_lt_of_cell? w _ k0, fun j hj => ?_⟩
 have := key j hj
 by_cases h0 : j = 0
 ·
  subst h0; exact this
 simpa [Addr.add, h0] using this
set_option maxHeartbeats 4000000 in
theorem jOI (k : Nat) (A : Option Addr) (c : Nat) (l0 : List Int) (s0 : ByteArray) (w : World) (hr0 : Kd.C (Kd.int .u64) w A l0.length l0) (hc0 : l0.length ≤ c) (hm : vS.f l0 = some true) (hp : vL.f k (l0.length : Int) = some s0) (hs : s0.size ≤ 1000) (hl : l0.length ≤ 8) :
  Calls Tryz.prog 88 #[.slice A l0.length c] w fun e w' => e = .returned (.tuple #[.string (puts s0 l0.reverse), .int .i64 0]) ∧ Below w.heap.size w w' := by
 have HR := jA.mk hr0
 have HC := jA.mk hc0
 have HM := jA.mk hm
 have HP := jA.mk hp
 have HS := jA.mk hs
 have HL := jA.mk hl
 clear hr0 hc0 hm hp hs
 have hw8 : IntKind.u64.wrap (l0.length : Int) = (l0.length : Int) := by rw [IntKind.wrap_u64]; omega
 refine (callsIn_wide (n := 5)).1 ?_
 refine callsIn_of_wp_marks Tryz.func88 rfl trivial ?_ rfl
 simp only [Tryz.ntmps88, List.size_toArray, List.length_cons, List.length_nil, Nat.reduceAdd, Nat.reduceSub, Array.replicate_succ, Array.replicate_zero, List.push_toArray, List.append_toArray, List.nil_append, List.cons_append]
 gi_wp2_with fail
 refine ⟨trivial, callsIn_wide.2 ((vS.calls A c l0 true _ HR.out HC.out HM.out).mono ?_)⟩
 rintro e w1 ⟨rfl, ⟨nd, rfl⟩⟩
 gi_wp2_with fail
 refine ⟨trivial, callsIn_wide.2 ((vL.calls k _ s0 _ HP.out).mono ?_)⟩
 rintro e w1 ⟨rfl, hb⟩
 have HB1 := jA.mk ((vK (Below.refl w.heap.size w) nd).trans hb)
 have HR1 := jA.mk (Kd.vG (Kd.jAo HR.out nd) hb)
 clear hb HR
 gi_wp2_with fail
 refine ⟨trivial, (jMF 4 _ _ _ _).mono ?_⟩
 rintro e w2 ⟨rfl, rfl⟩
 have bS := Boxed.new w1 9 (.string s0)
 have bN := Boxed.new (w1.alloc (.cells #[.string s0] 9)) 31 (.slice A l0.length c)
 have hB0 : Below w.heap.size w ((w1.alloc (.cells #[.string s0] 9)).alloc (.cells #[.slice A l0.length c] 31)) := jQ (jQ HB1.out _) _
 have HR2 := Kd.qj (Kd.qj HR1.out (.cells #[.string s0] 9)) (.cells #[.slice A l0.length c] 31)
 rw [World.size_alloc] at bN
 gi_wp2_with fail
 have hI : l0 = [] ∨ ∃ b off, A = some ⟨b, off, none⟩ ∧ (b < w1.heap.size + 1 + 1 ∧ b ≠ w1.heap.size) ∧ ∀ j, j < l0.length → ((w1.alloc (.cells #[.string s0] 9)).alloc (.cells #[.slice A l0.length c] 31)).cell? ⟨b, off + j, none⟩ = some (.int .u64 (l0[j]?.getD 0)) := by
  by_cases h0 : l0 = []
  ·
   exact .inl h0
  refine .inr ?_
  obtain ⟨b, off, e, hlt, hcs⟩ := row_of HR1.out (List.length_pos_iff.2 h0)
  obtain ⟨b', off', e', _, hcs'⟩ := row_of HR2 (List.length_pos_iff.2 h0)
  rw [e] at e'
  cases e'
  exact ⟨b, off, e, ⟨by omega, by omega⟩, hcs'⟩
 have hsz : ((w1.alloc (.cells #[.string s0] 9)).alloc (.cells #[.slice A l0.length c] 31)).heap.size = w1.heap.size + 1 + 1 := by rw [World.size_alloc, World.size_alloc]
 have hle := HB1.out.size
 refine wpIn_rangeFunc_ownF (w0 := (w1.alloc (.cells #[.string s0] 9)).alloc (.cells #[.slice A l0.length c] 31)) rfl (by omega) (gf := 131) (lb := #[.pointer (some ⟨w1.heap.size + 1, 0, none⟩)]) rfl trivial (enters_of Tryz.func131 kr_ rfl)
  (jHg 4 (by omega) (w1.heap.size + 1) (w1.heap.size + 1 + 1) w1.heap.size c A l0 (by omega) _ ⟨by omega, by omega⟩ (by rw [hsz]; exact Nat.le_refl _) bN.cell hI) KpG.trans (KpG.put (by rw [hsz]; exact Nat.le_refl _)) (Below.refl _ _) (fun _ => rfl)
  (fun pre W => (W.cell? ⟨w1.heap.size, 0, none⟩ = some (.string (puts s0 (pre.map Prod.snd))) ∧ W.frozen? ⟨w1.heap.size, 0, none⟩ = false) ∧ Below w.heap.size w W ∧ w1.heap.size + 1 + 1 ≤ W.heap.size)
  (fun _ _ _ => False)
  (OwnFrom.and (Own.from (fun s A B row hs hg hr => ⟨cell_kept hs.1 hg hr, (frozen_kept hs.1 hg hr).trans hs.2⟩) _) (OwnFrom.and (ownFrom_below (Nat.le_refl _) (by rw [hsz]; omega)) (fun _ _ _ _ hs hg _ => Nat.le_trans hs hg.size)))
  (fun _ _ _ _ _ hs _ _ => hs)
  ⟨⟨(bS.alloc _).cell, (bS.alloc _).frozen⟩, hB0, by rw [hsz]; exact Nat.le_refl _⟩
  (fun x => { tmps := #[.slice A l0.length c, undef, .string { data := #[] }, .int .i64 0, .pointer (some ⟨w1.heap.size, 0, none⟩), undef, .int .u64 x.2, .slice A l0.length c, .bool true, .bool false, .slice A l0.length c, .int .i64 l0.length, .int .u64 l0.length, .string s0, .slice A l0.length c, .func (.func 131) #[] #[.pointer (some ⟨w1.heap.size + 1, 0, none⟩)], .int .i64 x.1, .int .u64 x.2, undef, undef, undef, undef, undef], defers := [] }) ?assign ?body ?done ?stop
 case assign =>
  intro l x W K hK
  gi_wp2
  exact hK
 case body =>
  rintro l pre x W ⟨⟨hc, hf⟩, hB, hS2⟩ hlt
  have hmx : Tryz.prog.follows .mixedOrders = true := by kernel_rfl
  have hsz2 : (puts s0 (pre.map Prod.snd)).size + (strOfNums (lows x.2 8)).size ≤ 9223372036854775807 := by
   rw [jBl, List.length_map, strOfNums_size, jAi]; have := HS.out; omega
  have hd : 1 ≤ 5 - 1 - 1 := by omega
  have hgl : w1.heap.size < W.heap.size := World.block_lt_of_cell? W ⟨w1.heap.size, 0, none⟩ hc
  gi_wp2
  gi_region_with_o (refine ⟨trivial, ?_⟩; gi_at_call 87; refine (CallsIn.inRound l (callsIn_wide.2 (jX.calls 9 x.2 8 _ _ (jNP x.2)))).mono ?_; rintro e w' ⟨rfl, hb⟩; have hc' := jAH (w := W.drew) hb hc; have hf' : w'.frozen? ⟨w1.heap.size, 0, none⟩ = false := by { have := hb.block w1.heap.size hgl; unfold World.frozen? at hf ⊢; rw [this]; exact hf })
  all_goals gi_wp2
  all_goals
   have h7 : W.drew.heap.size = W.heap.size := rfl
   refine ⟨?_, ?_, ⟨?_, ?_⟩, ?_, ?_⟩
   ·
    exact ((KeepsOthers.drew W).trans (KeepsOthers.of_grownBy (zy hb none) (fun _ _ e _ => by cases e))).trans (KeepsOthers.setCell _ _ _)
   ·
    exact (KpG.of_below (W := W) hb (by omega)).trans (KpG.set _ _ 0 _ _)
   ·
    rw [List.map_append, List.map_cons, List.map_nil, jIA]; exact World.cell?_setCell_same' _ _ _ (by rw [hc']; rfl)
   ·
    rw [World.frozen?_setCell]; exact hf'
   ·
    exact ((jk hB).trans (hb.mono (by have := hB.size; omega))).setCell (by show w.heap.size ≤ w1.heap.size; exact hle) _
   have h5 := (KeepsOthers.setCell w' ⟨w1.heap.size, 0, none⟩ (.string (puts s0 (pre.map Prod.snd) ++ strOfNums (lows x.2 8)))).size; have h6 := hb.size; omega
 case done =>
  rintro D ys W hD rfl ⟨⟨hc, hf⟩, hB, _⟩ hK
  rw [jLS] at hc
  gi_wp2
  refine ⟨by simp, .inl ⟨_, _, rfl, run_takeDeferred hK, ?_⟩⟩
  exact ⟨_, results_tmp2 rfl _ _ _, by rfl, hB.trans (belowK_b (w := w) (Nat.le_refl _) W D _ _ (by rw [hsz] at hD; omega) hK rfl rfl)⟩
 case stop =>
  rintro D c pre W _ _ h _
  exact h.elim
theorem jMf (A : Option Addr) (c : Nat) (l0 : List Int) (w : World) (hr0 : Kd.C (Kd.int .u64) w A l0.length l0) (hc0 : l0.length ≤ c) (hm : vS.f l0 = some false) :
  Calls Tryz.prog 88 #[.slice A l0.length c] w fun e w' => e = .returned (.tuple #[.string { data := #[] }, .int .i64 1]) ∧ Below w.heap.size w w' := by
 have HR := jA.mk hr0
 have HC := jA.mk hc0
 have HM := jA.mk hm
 clear hr0 hc0 hm
 go_enter Tryz.func88, Tryz.ntmps88
 go_wp2_with fail
 refine (vS.calls A c l0 false _ HR.out HC.out HM.out).mono ?_
 rintro e w1 ⟨rfl, ⟨nd, rfl⟩⟩
 go_wp2
 go_ret2
 exact ⟨rfl, vK (Below.refl _ _) nd⟩
end OctPut
def jl.f (k : Nat) (l0 : List Int) : Option (ByteArray × Int) := (vS.f l0).bind fun b => if b = true then (vL.f k (l0.length : Int)).bind fun s0 => (if s0.size ≤ 1000 ∧ l0.length ≤ 8 then some (OctPut.puts s0 l0.reverse, 0) else none) else some ({ data := #[] }, 1)
theorem jl.calls (k : Nat) (A0 : Option Addr) (c0 : Nat) (l0 : List Int) (r1 : ByteArray) (r2 : Int) (w : World) (hr0 : Kd.C (Kd.int .u64) w A0 l0.length l0) (hc0 : l0.length ≤ c0) (h : jl.f k l0 = some (r1, r2)) :
  Calls Tryz.prog 88 #[.slice A0 l0.length c0] w fun e w' => e = .returned (.tuple #[.string r1, .int .i64 r2]) ∧ Below w.heap.size w w' := by
 unfold jl.f at h
 obtain ⟨b, hm, h⟩ := Option.bind_eq_some_iff.mp h
 cases b with
 | false =>
  cases h
  exact OctPut.jMf A0 c0 l0 w hr0 hc0 hm
 | true =>
  rw [if_pos rfl] at h
  obtain ⟨s0, hp, h⟩ := Option.bind_eq_some_iff.mp h
  by_cases hs : s0.size ≤ 1000 ∧ l0.length ≤ 8
  rotate_left
  ·
   rw [if_neg hs] at h; cases h
  rw [if_pos hs] at h
  cases h
  exact OctPut.jOI k A0 c0 l0 s0 w hr0 hc0 hm hp hs.1 hs.2
namespace Shown
open Go.Ev
def ints : List SV → Option (List Int)
 | [] => some []
 | .int .u64 n :: t => match ints t with
  | some l => some (n :: l)
  | none => none
 | _ => none
noncomputable def ext (f : FuncId) (args : List AV) (st : AS) : Option (TV × AS) :=
 bif Nat.beq f 108 then
  match args with
  | [.sc (.ptr b o)] => some (.av (.sc (.ptr b o)), st)
  | _ => none
 else bif Nat.beq f 88 then
  match args with
  | [.sc (.sl b off n c op)] =>
   match rowOf st 1 (.sl b off n c op), jGa st 1 b off n c op with
   | some (m, l), some r => match ints l with
    | some L => match jl.f 100 L with
     | some (r1, r2) => bif Nat.ble n r && Nat.ble n 1000000 && Nat.beq m n then some (.tup [.sc (.str r1), .sc (.int .i64 r2)], st) else none
     | none => none
    | none => none
   | _, _ => none
  | _ => none
 else none
def dcall (f : FuncId) (args : List AV) (st : AS) : Option AS := bif Nat.beq f 89 && Nat.beq args.length 2 then some st else none
theorem jCE (π : Pi) : ∀ {l : List SV} {L : List Int}, ints l = some L → l.map (SV.conc π) = L.map (Value.int .u64)
 | [], L, h => by simp only [ints, Option.some.injEq] at h; subst h; rfl
 | s :: t, L, h => by
  unfold ints at h
  split at h
  ·
   rename_i heq; simp at heq
  rotate_left
  ·
   simp at h
  rename_i n t' heq
  simp only [List.cons.injEq] at heq
  obtain ⟨rfl, rfl⟩ := heq
  split at h
  rotate_left
  ·
   simp at h
  rename_i l hl
  simp only [Option.some.injEq] at h; subst h
  rw [List.map_cons, List.map_cons, jCE π hl]; rfl
theorem Tr.below {π π' : Pi} {st st' : AS} {w w' : World} (h : Tr π st w π' st' w') (h0 : ∀ b k, hget st.heap b = some k → False) : Below w.heap.size w w' :=
 ⟨h.os, h.tape, h.output, h.size, fun r hr => h.frame r hr fun b k hb => (h0 b k hb).elim⟩
theorem HRel.below {π : Pi} {st : AS} {w w' : World} (h : HRel π st w) (hb : Below w.heap.size w w') : HRel π st w' ∧ Tr π st w π st w' := by
 have h' := h.world (w' := w') fun b k hk => hb.block _ (h.lt hk)
 exact ⟨h', { Tr.refl h with os := hb.os, tape := hb.tape, output := hb.output, size := hb.size, frame := fun r hr _ => hb.block r hr, fresh := fun b k hk hge => absurd (h.blk b k hk).1 (Nat.not_lt.2 hge) }⟩
theorem jNR : jBH Tryz.prog ext := by
 intro f args st v st' h π w hH hargs
 unfold ext at h
 rw [Bool.cond_eq_ite] at h
 split at h
 ·
  rename_i hf
  rw [Nat.beq_eq] at hf; subst hf
  split at h
  rotate_left
  ·
   simp at h
  rename_i b o
  simp only [Option.some.injEq, Prod.mk.injEq] at h
  obtain ⟨rfl, rfl⟩ := h
  exact .inr ⟨π, w, kr_, hH, Tr.refl hH⟩
 rw [Bool.cond_eq_ite] at h
 split at h
 rotate_left
 ·
  simp at h
 rename_i hf
 rw [Nat.beq_eq] at hf; subst hf
 split at h
 rotate_left
 ·
  simp at h
 rename_i b off n c op
 split at h
 rotate_left
 ·
  simp at h
 rename_i m l r hrow hroom
 split at h
 rotate_left
 ·
  simp at h
 rename_i L hL
 split at h
 rotate_left
 ·
  simp at h
 rename_i r1 r2 hput
 simp only [Bool.cond_eq_ite, Bool.and_eq_true, Nat.beq_eq, Nat.ble_eq] at h
 split at h
 rotate_left
 ·
  simp at h
 rename_i hc
 obtain ⟨⟨hnr, hn6⟩, rfl⟩ := hc
 simp only [Option.some.injEq, Prod.mk.injEq] at h
 obtain ⟨rfl, rfl⟩ := h
 obtain ⟨a, c', hx, hl, hcell, -⟩ := jBS hH hrow
 have hcap := jCJ hH hroom
 have hLl : L.length = m := by
  have := congrArg List.length (jCE π hL)
  simp only [List.length_map] at this
  omega
 have hcc : c' = if op then π.room b else c := by
  have := hx.symm
  simp only [SV.conc, Value.slice.injEq, Option.some.injEq] at this
  exact this.2.2
 have := jl.calls 100 (some a) c' L r1 r2 w ⟨rfl, by omega, fun _ => ⟨a, rfl, fun j p hj => ⟨[.int .u64 p], rfl, rfl, fun i u hu => by
   have hi : i = 0 := by cases i with | zero => rfl | succ i => simp at hu
   subst hi
   simp only [List.getElem?_cons_zero, Option.some.injEq] at hu; subst hu
   refine hcell (j * 1 + 0) _ ?_
   rw [jCE π hL, List.getElem?_map, Nat.mul_one, Nat.add_zero, hj]; rfl⟩⟩⟩ (by omega) hput
 refine .inl ⟨⟨_, _, Tryz.func88, rfl, kr_⟩, ?_⟩
 have e1 : ([AV.sc (.sl b off m c op)].map (AV.conc π)).toArray = #[.slice (some a) L.length c'] := by
  rw [hLl]; show #[(SV.sl b off m c op).conc π] = _; rw [hx]
 rw [e1]
 refine Calls.mono this fun e w' he => ?_
 obtain ⟨rfl, hb⟩ := he
 have := HRel.below hH hb
 exact ⟨π, rfl, this.1, this.2⟩
theorem jLQ {P : Program} {Q : Exit → Act → List Frame → World → Prop} {a a' : Act} {cs : List Frame} {w : World} {c : Code} (h : a = a') (h2 : c.wpS P Q a' cs w) : c.wpS P Q a cs w := h ▸ h2
theorem jMX {P : Program} {Q : Exit → Act → World → Prop} {a : Act} {w : World} {c : Code} (h : ∀ Q' : Exit → Act → World → Prop, (∀ e a' w', Q' e a' w' = Q e a' w') → c.wp P Q' a w) : c.wp P Q a w := h Q (fun _ _ _ => rfl)
theorem jGH (pe : Value) (undo : Value) (w : World) :
  CallsD Tryz.prog 89 #[pe, undo] .returning w fun e u' w' => e = .returned (.tuple #[]) ∧ u' = .returning ∧ w' = w := by
 refine callsD_of_wpS Tryz.func89 rfl fun c₀ cs hu => ?_
 apply wpS_seq
 apply wpS_region
 simp [wpOpsS, go_sem, recoverD, hu, Tryz.ntmps89, Exit.thenS]
 refine jLQ (a' := { tmps := #[pe, undo, undef, undef, undef, undef, undef, .nilIface, undef, undef, undef, undef, undef, undef, undef, undef, undef, undef], defers := [] }) rfl ?_
 refine wpS_of_wp (jMX fun Q' hQ' => ?_)
 go_wp2
 rw [hQ']
 cases c₀
 simp_all [bodyPostS, results, Tryz.results89]
theorem jKY : jGY Tryz.prog dcall := by
 intro f args st st' h π w hH hargs
 unfold dcall at h
 simp only [Bool.cond_eq_ite, Bool.and_eq_true, Nat.beq_eq] at h
 split at h
 rotate_left
 ·
  simp at h
 rename_i hc
 obtain ⟨rfl, hl⟩ := hc
 simp only [Option.some.injEq] at h; subst h
 match args, hl with
 | [x, y], _ =>
  refine ⟨⟨_, _, Tryz.func89, rfl, kr_⟩, ?_⟩
  refine CallsD.mono (jGH (x.conc π) (y.conc π) w) fun e u' w' he => ?_
  obtain ⟨rfl, rfl, rfl⟩ := he
  exact ⟨⟨_, rfl⟩, rfl, π, hH, Tr.refl hH⟩
def good : Option (TV × AS) → Bool
 | some (.av (.sc (.bool true)), _) => true
 | _ => false
theorem jLu {r : Option (TV × AS)} (h : good r = true) : ∃ st, r = some (.av (.sc (.bool true)), st) := by
 unfold good at h
 split at h
 ·
  exact ⟨_, rfl⟩
 simp at h
theorem run : good (jJS Tryz.prog 100 ext dcall 50 9 [] ⟨[], 0, []⟩) = true := by kernel_rfl
theorem jFj (w : World) : Calls Tryz.prog 9 #[] w fun e w' => e = .returned (.bool true) ∧ Below w.heap.size w w' := by
 have hm : Tryz.prog.follows .mixedOrders = true := by kernel_rfl
 have hH : HRel ⟨fun _ => 0, fun _ => 0⟩ ⟨[], 0, []⟩ w := ⟨fun b k h => by simp [hget] at h, fun b b' k k' h => by simp [hget] at h⟩
 obtain ⟨st, hrun⟩ := jLu run
 rcases jKe hm 100 jNR jKY 50 9 [] _ _ _ hrun _ w hH rfl with ⟨-, h⟩ | ⟨π', w', h, -⟩
 ·
  refine Calls.mono h fun e w' he => ?_
  obtain ⟨π', rfl, h1, h2⟩ := he
  exact ⟨rfl, Tr.below h2 fun b k hb => by simp [hget] at hb⟩
 rw [show ((callFunc 9 (([] : List AV).map (AV.conc ⟨fun _ => 0, fun _ => 0⟩)).toArray).run Tryz.prog w) = _ from Tryz.call9 _ w] at h
 cases h
end Shown
def zu.f : Option Bool := some true
theorem zu.calls (r1 : Bool) (w : World) (h : zu.f = some r1) : Calls Tryz.prog 9 #[] w fun e w' => e = .returned (.bool r1) ∧ Below w.heap.size w w' := by
 obtain rfl := Option.some.inj h
 exact Shown.jFj w
def zC.f (a0_0 : Bool) (l0_1 : List Int) (l0_2 : List Int) : Option (Bool) := some ((l0_1.length : Int) == 0)
theorem zC.calls (a0_0 : Bool) (A0_1 : Option Addr) (c0_1 : Nat) (l0_1 : List Int) (A0_2 : Option Addr) (c0_2 : Nat) (l0_2 : List Int) (r : Bool) (w : World) (hr0_1 : Kd.C (Kd.int .u64) w A0_1 l0_1.length l0_1) (hc0_1 : l0_1.length ≤ c0_1) (hr0_2 : Kd.C (Kd.int .u64) w A0_2 l0_2.length l0_2) (hc0_2 : l0_2.length ≤ c0_2) (h : zC.f a0_0 l0_1 l0_2 = some r) :
  Calls Tryz.prog 45 #[.agg #[.bool a0_0, .slice A0_1 l0_1.length c0_1, .slice A0_2 l0_2.length c0_2]] w fun e w' => e = .returned (.bool r) ∧ Below w.heap.size w w' := by
 have hu33 := Tryz.underlying33
 have HR0_1 := jA.mk hr0_1
 have HC0_1 := jA.mk hc0_1
 clear hr0_1 hc0_1
 have HR0_2 := jA.mk hr0_2
 have HC0_2 := jA.mk hc0_2
 clear hr0_2 hc0_2
 have HB := jA.mk (Below.refl w.heap.size w)
 have H : (some ((l0_1.length : Int) == 0)) = some r := h
 clear h
 obtain rfl := Option.some.inj H
 go_enter Tryz.func45, Tryz.ntmps45
 go_wp2_with (first | ((with_reducible refine ji (N := 1) rfl ?_); refine bx_ 1 #[.bool a0_0, .slice A0_1 l0_1.length c0_1, .slice A0_2 l0_2.length c0_2] 33 ?_; intro gb117 hg w2 hbox hb; have BK117 := jA.mk (hbox); have GW117 := jA.mk ((by rw [hg]; exact (jD (bb_ HB)) : w.heap.size ≤ gb117)); have GE117 := GW117; replace HB := bs_ HB hb; clear hb hbox hg; obtain ⟨hcz3_0, hcz3_1, hcz3_2, hfz3_0, hfz3_1, hfz3_2⟩ := bf3_ BK117))
 go_ret
 exact ⟨ew_, (bb1_ HB GE117)⟩
def jN.f (l0 : List Int) : Option (List Int) := if l0.length < 17592186044416 then some l0 else none
theorem jN.calls (A0 : Option Addr) (c0 : Nat) (l0 : List Int) (r : List Int) (w : World) (hr0 : Kd.C (Kd.int .u64) w A0 l0.length l0) (hc0 : l0.length ≤ c0) (h : jN.f l0 = some r) :
  Calls Tryz.prog 135 #[.slice A0 l0.length c0] w fun e w' => ∃ v0_ : Value, e = .returned (v0_) ∧ Kd.R (Kd.int .u64) 56 w' w.heap.size (fun _ => True) v0_ r ∧ Below w.heap.size w w' := by
 have HR0 := jA.mk hr0
 have HC0 := jA.mk hc0
 clear hr0 hc0
 unfold jN.f at h
 by_cases hl : l0.length < 17592186044416
 rotate_left
 ·
  rw [if_neg hl] at h
  exact absurd h (by simp)
 rw [if_pos hl] at h
 obtain rfl := Option.some.inj h
 clear h
 have HL := jA.mk hl
 clear hl
 have qq : ∀ (w : World) (a : Option Addr) (n c n' c' : Nat), (binOp .eql 30 (.slice a n c) (.slice none n' c')).run Tryz.prog w = .ok (.bool a.isNone) w := fun w a n c n' c' => Lib.run_eql_slice_nil w _ _ a n c n' c' Tryz.underlying30
 cases A0 with
 | none =>
  have hlen : l0 = [] := by
   by_cases hp : 0 < l0.length
   ·
    obtain ⟨ad, e, _⟩ := HR0.out.2.2 hp
    cases e
   exact List.eq_nil_of_length_eq_zero (by omega)
  subst hlen
  go_enter Tryz.func135, Tryz.ntmps135
  go_wp2
  go_ret
  exact ⟨_, rfl, Kd.jEe _ _ _ _ _, Below.refl _ _⟩
 | some ad =>
  have HO : jA (∀ W : World, Kd.R (Kd.int .u64) 56 (W.alloc (.cells #[] 56)) W.heap.size (fun _ => True) (.slice (some ⟨W.heap.size, 0, none⟩) 0 0) []) := ⟨fun W => Kd.jCX (World.ownsRow_made W #[] 0 (Nat.le_refl _) (Nat.zero_le _) rfl) (fun _ _ => trivial)⟩
  go_enter Tryz.func135, Tryz.ntmps135
  go_wp2_with ((with_reducible refine qI (b := .append) (xs := #[.tmp 5, .tmp 6]) rfl ?_); at_builtin; refine Kd.jBw (Kd.int .u64) (w0 := w) w.heap.size rfl (.tmp 5) (.tmp 6) 30 56 (.int .u64 0) 8 rfl Tryz.underlying30 jAE rfl (by decide) (by omega) _ [] l0 _ _ _ (fun _ => True) (fun _ => False) rfl rfl ?aO ?aR (fun _ _ h => h) (fun _ h => h.elim) ?aF ?aB ?aS ?aL ?_)
  case aO => exact HO.out w
  case aR => exact Kd.qj HR0.out _
  case aF => exact fun _ _ => trivial
  case aB => exact jQ (Below.refl _ _) _
  case aS => simp
  case aL => have := HL.out; simp; omega
  intro v1 w1 ho hb hg hat
  clear hg hat
  have HO1 := jA.mk ho
  have HB := jA.mk hb
  clear ho hb
  go_wp2
  go_ret
  exact ⟨_, rfl, by simpa using HO1.out, HB.out⟩
end Go.Proofs.YtoganbmeedimiaaGreat.POPressSizes
