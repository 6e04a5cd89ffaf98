-- printed (pr.py)
import Derived.Test.YtoganbmeedimiaaGreatPOPressSizesx2
namespace Go.Proofs.YtoganbmeedimiaaGreat.POPressSizes
open Go.RowKit Go.Proofs.YtoganbmeedimiaaGreatN Go.Proofs.YtoganbmeedimiaaGreatW.PrintWords Go.Proofs.YtoganbmeedimiaaGreatW.PrintLast Go.Proofs.YtoganbmeedimiaaGreatW.PrintMore
attribute [local go_sem] zU zQ zn zm vV vU zT zP
set_option maxHeartbeats 8000000
set_option maxRecDepth 100000
set_option linter.unusedVariables false
set_option linter.unusedSimpArgs false
def jI.l0 : Nat → List Int → Option (List Int)
 | 0, _ => none
 | k + 1, x0 => if (x0.length : Int) > 0 then (if 0 ≤ (wrap64 ((x0.length : Int) - 1)) then (if (wrap64 ((x0.length : Int) - 1)) < (x0.length : Int) then (if (rd x0 (wrap64 ((x0.length : Int) - 1))) = 0 then (if (wrap64 ((x0.length : Int) - 1)) ≤ (x0.length : Int) then (jI.l0 k (x0.take ((wrap64 ((x0.length : Int) - 1)) : Int).toNat)) else (none)) else (some x0)) else (none)) else (none)) else (some x0)
def jI.f (k : Nat) (l0 : List Int) : Option (List Int) := jI.l0 k l0
theorem jI.jKy : ∀ k, (∀ y0, LeO (jI.l0 k y0) (jI.l0 (k + 1) y0))
 | 0 => fun _ r h => by simp [jI.l0] at h
 | k + 1 => by
  have ih0 := jI.jKy k
  intro y0
  unfold jI.l0
  repeat' first
  | (with_reducible exact ih0 _)
  | (with_reducible exact LeO.refl _)
  | (with_reducible exact LeO.none _)
  | (with_reducible refine LeO.ite ?_ ?_)
  | (with_reducible refine LeO.bind ?_ (fun _ => ?_))
theorem jI.mono : ∀ a0 k, LeO (jI.f k a0) (jI.f (k + 1) a0) := by
 intro a0 k
 have ih0 := jI.jKy k
 unfold jI.f
 repeat' first
   | (with_reducible exact ih0 _)
   | (with_reducible exact LeO.refl _)
   | (with_reducible exact LeO.none _)
   | (with_reducible refine LeO.ite ?_ ?_)
   | (with_reducible refine LeO.bind ?_ (fun _ => ?_))
theorem jI.calls (k : Nat) (P0_ : Nat → Prop) (A0 : Option Addr) (c0 : Nat) (l0 : List Int) (r : List Int) (w : World) (hs0 : Kd.V (Kd.int .u64) 56 w w.heap.size (fun k_ => P0_ k_) (.slice A0 l0.length c0) l0) (h : jI.f k l0 = some r) :
  Calls Tryz.prog 136 #[.slice A0 l0.length c0] w fun e w' => ∃ v0_ : Value, e = .returned (v0_) ∧ Kd.V (Kd.int .u64) 56 w' w.heap.size (fun k_ => (P0_ k_ ∨ w.heap.size ≤ k_)) v0_ r ∧ Below w.heap.size w w' := by
 have HO0 := jA.mk (show Kd.V (Kd.int .u64) 56 w w.heap.size (fun k_ => (P0_ k_ ∨ w.heap.size ≤ k_)) (.slice A0 l0.length c0) l0 from Kd.vk hs0 (fun k_ hk => .inl hk))
 have HB := jA.mk (Below.refl w.heap.size w)
 have H : (jI.l0 k l0) = some r := h
 clear h
 have H' := jA.mk H
 clear H
 go_enter Tryz.func136, Tryz.ntmps136
 go_wp2
 go_loopg [0] k (fun kq v0 w' => ∃ (x0_1 : List Int), jA (jI.l0 kq x0_1 = some r) ∧ jA (kq ≤ k) ∧ jA (Kd.V (Kd.int .u64) 56 w' w.heap.size (fun k_ => (P0_ k_ ∨ w.heap.size ≤ k_)) v0 x0_1) ∧ jA (Below w.heap.size w w'))
 case atStart => exact ⟨(l0), H', ⟨Nat.le_refl _⟩, ⟨(rV_ HO0)⟩, ⟨(bb_ HB)⟩⟩
 case round =>
  clear H'
  try clear c1
  obtain ⟨x0_1, HA, HK1, HO_0, HB⟩ := hrel
  cases gk with
  | zero => exact absurd HA.out (by simp [jI.l0])
  | succ k1 =>
   have H := HA.out
   clear HA
   simp only [jI.l0] at H
   by_cases c2 : (x0_1.length : Int) > 0
   rotate_left
   ·
    rw [if_neg c2] at H
    have c2b0 := decide_eq_false c2
    have c2b1 : decide (0 < x0_1.length) = false := decide_eq_false (by omega)
    clear c2
    obtain rfl := Option.some.inj H
    obtain ⟨Ao12, co12, eo12⟩ := Kd.vT HO_0.out
    subst eo12
    go_wp2
    go_ret
    exact ⟨_, ew_, (rV_ HO_0), (bb_ HB)⟩
   rw [if_pos c2] at H
   have c2b0 := decide_eq_true c2
   have c2b1 : decide (0 < x0_1.length) = true := decide_eq_true (by omega)
   clear c2
   obtain ⟨ji3, hji3⟩ : ∃ j_ : Int, (wrap64 ((x0_1.length : Int) - 1)) = j_ := ⟨_, rfl⟩
   replace H : (if 0 ≤ (ji3) then (if (ji3) < (x0_1.length : Int) then (if (rd x0_1 (ji3)) = 0 then (if (ji3) ≤ (x0_1.length : Int) then (jI.l0 k1 (x0_1.take ((ji3) : Int).toNat)) else (none)) else (some x0_1)) else (none)) else (none)) = some r := by first | (rw [hji3] at H; exact H) | (simp only [hji3] at H ⊢; exact H)
   have hji3w : (IntKind.i64.wrap ((x0_1.length : Int) - 1)) = ji3 := (jv _).trans hji3
   by_cases c4 : 0 ≤ (ji3)
   rotate_left
   ·
    rw [if_neg c4] at H
    exact absurd H (by simp)
   rw [if_pos c4] at H
   have c4b0 := decide_eq_true c4
   clear c4
   by_cases c5 : (ji3) < (x0_1.length : Int)
   rotate_left
   ·
    rw [if_neg c5] at H
    exact absurd H (by simp)
   rw [if_pos c5] at H
   have c5b0 := decide_eq_true c5
   clear c5
   by_cases c6 : (rd x0_1 (ji3)) = 0
   rotate_left
   ·
    rw [if_neg c6] at H
    have c6b0 := beq_eq_false_iff_ne.mpr c6
    have c6b1 := bne_iff_ne.mpr c6
    obtain rfl := Option.some.inj H
    obtain ⟨Ao11, co11, eo11⟩ := Kd.vT HO_0.out
    subst eo11
    have p118 : 0 ≤ ((ji3) : Int) := of_decide_eq_true am_
    have q118 : (ji3) < (x0_1.length : Int) := of_decide_eq_true am_
    obtain ⟨ad118, e118, hx118_0⟩ := Kd.vP (Kd.vJ HO_0.out).2.2 (ji3) p118 q118
    cases e118
    replace p118 := eq_true p118
    replace q118 := eq_true q118
    go_wp2
    go_ret
    exact ⟨_, by first | rfl | (simp [vD, vC] <;> rfl) | (simp only [← hji3]; first | rfl | (simp [vD, vC] <;> rfl)) | (simp [*, vD, vC] <;> rfl), (rV_ HO_0), (bb_ HB)⟩
   rw [if_pos c6] at H
   have c6b0 := beq_iff_eq.mpr c6
   have c6b1 := bne_eq_false_iff_eq.mpr c6
   clear c6
   have c7b0 := eq_true (of_decide_eq_true am_ : 0 ≤ (ji3))
   by_cases c8 : (ji3) ≤ (x0_1.length : Int)
   rotate_left
   ·
    rw [if_neg c8] at H
    exact absurd H (by simp)
   rw [if_pos c8] at H
   have c8b0 := eq_true c8
   have c8b1 := decide_eq_true c8
   clear c8
   obtain ⟨y119, hy119⟩ : ∃ y_ : List Int, y_ = (x0_1.take ((ji3) : Int).toNat) := ⟨_, rfl⟩
   replace H : (jI.l0 k1 y119) = some r := by first | (rw [hy119]; with_reducible exact H) | (have H2_ := (Option.bind_some _ _).symm.trans H; rw [hy119]; with_reducible exact H2_) | (with_reducible exact hs_ H) | with_reducible exact H | (rw [hy119]; exact H) | exact H
   have Ny119 := jA.mk hy119
   clear hy119
   have H' := jA.mk H
   clear H
   obtain ⟨Ao9, co9, eo9⟩ := Kd.vT HO_0.out
   subst eo9
   have p118 : 0 ≤ ((ji3) : Int) := of_decide_eq_true am_
   have q118 : (ji3) < (x0_1.length : Int) := of_decide_eq_true am_
   obtain ⟨ad118, e118, hx118_0⟩ := Kd.vP (Kd.vJ HO_0.out).2.2 (ji3) p118 q118
   cases e118
   replace p118 := eq_true p118
   replace q118 := eq_true q118
   have q10 : ((ji3) : Int) ≤ ((x0_1.length : Int) : Int) := of_decide_eq_true am_
   obtain ⟨i010, hi010, _, hsz10, _⟩ := info_parts jAE
   have hroom10 : x0_1.length ≤ co9 := (Kd.vJ HO_0.out).2.1
   have hC10 : Kd.F (Kd.int .u64) _ _ (some ad118) x0_1.length x0_1 := (Kd.V_at (base := w.heap.size) HO_0.out).2.2
   have hcut10 := jIh (P := Tryz.prog) 30 56 .i64 Tryz.underlying30 hi010 (some ad118) x0_1.length co9 (ji3) (of_decide_eq_true am_) q10 hroom10
   have hr10 := Kd.jNx (m := ((ji3) : Int).toNat) hC10 (by omega)
   have hy10 : y119.length = ((ji3) : Int).toNat := (by rw [Ny119.out, List.length_take]; omega)
   rw [← Ny119.out] at hr10
   rw [← hy10] at hcut10
   have HO123 := jA.mk (show Kd.V (Kd.int .u64) 56 _ w.heap.size _ (.slice (some ad118) y119.length co9) y119 from Kd.V_mk (by omega) hr10)
   have HC123 := jA.mk (show y119.length ≤ co9 from by omega)
   clear hr10 hC10 hroom10 hi010 hsz10
   have KY10 := jA.mk hy10
   clear hy10
   replace q10 := eq_true q10
   go_wp2
   go_roundg k1
   case measure => have := HK1.out; omega
   case rel => exact ⟨(y119), H', ⟨by have := HK1.out; omega⟩, ⟨(rV_ HO123)⟩, ⟨(bb_ HB)⟩⟩
/-- What two stores, into the row and into the carry's block, leave. -/
theorem jBB {w wr : World} {gx gc ga i n cx base : Nat} {vx : Value} {xs : List Int} {c s c' : Int} {ok : Nat → Prop} (h1 : wr.heap[gx]? = some (.cells #[vx] 30 (0, 0))) (h2 : wr.heap[gc]? = some (.cells #[.int .u64 c] 56 (0, 0)))
  (h3 : Kd.R (Kd.int .u64) 56 wr base ok (.slice (some ⟨ga, 0, none⟩) n cx) xs) (h4 : Below w.heap.size w wr) (n1 : gx ≠ ga) (n2 : gc ≠ ga) (n3 : gx ≠ gc) (n4 : w.heap.size ≤ ga) (n5 : w.heap.size ≤ gc) (hok : ∀ k, ok k → k ≠ gc) :
  ((wr.setCell ⟨ga, i, none⟩ (.int .u64 s)).setCell ⟨gc, 0, none⟩ (.int .u64 c')).drew.heap[gx]? = some (.cells #[vx] 30 (0, 0)) ∧ ((wr.setCell ⟨ga, i, none⟩ (.int .u64 s)).setCell ⟨gc, 0, none⟩ (.int .u64 c')).drew.heap[gc]? = some (.cells #[.int .u64 c'] 56 (0, 0)) ∧
  Kd.R (Kd.int .u64) 56 ((wr.setCell ⟨ga, i, none⟩ (.int .u64 s)).setCell ⟨gc, 0, none⟩ (.int .u64 c')).drew base ok (.slice (some ⟨ga, 0, none⟩) n cx) (xs.set i s) ∧ Below w.heap.size w ((wr.setCell ⟨ga, i, none⟩ (.int .u64 s)).setCell ⟨gc, 0, none⟩ (.int .u64 c')).drew := by
 refine ⟨jJ (vY (vY h1 n1 _) n3 _), jJ (jU (vY h2 n2 _) 0 _ rfl), ?_, jk (vO (vO h4 n4) n5)⟩
 have hp := (Kd.jBv h3 (i : Int) s).1
 rw [Int.toNat_natCast] at hp
 exact Kd.qy (Kd.jJg hp hok _)
/-- trim of a row of the caller's own: it stays one. -/
theorem jI.own (k : Nat) (base : Nat) (ok : Nat → Prop) (A0 : Option Addr) (c0 : Nat) (l0 : List Int) (r : List Int) (w : World) (ho : Kd.R (Kd.int .u64) 56 w base ok (.slice A0 l0.length c0) l0) (h : jI.f k l0 = some r) :
  Calls Tryz.prog 136 #[.slice A0 l0.length c0] w fun e w' => ∃ v0_ : Value, e = .returned (v0_) ∧ Kd.R (Kd.int .u64) 56 w' base ok v0_ r ∧ Below w.heap.size w w' := by
 have HO0 := jA.mk ho
 clear ho
 have HB := jA.mk (Below.refl w.heap.size w)
 have H' := jA.mk (show (jI.l0 k l0) = some r from h)
 clear h
 go_enter Tryz.func136, Tryz.ntmps136
 go_wp2
 go_loopg [0] k (fun kq v0 w' => ∃ (x0_1 : List Int), jA (jI.l0 kq x0_1 = some r) ∧ jA (Kd.R (Kd.int .u64) 56 w' base ok v0 x0_1) ∧ jA (Below w.heap.size w w'))
 case atStart => exact ⟨l0, H', HO0, HB⟩
 case round =>
  clear H'
  obtain ⟨x0_1, HA, HO_0, HB⟩ := hrel
  obtain ⟨Ao9, co9, eo9⟩ := Kd.vI HO_0.out
  subst eo9
  cases gk with
  | zero => exact absurd HA.out (by simp [jI.l0])
  | succ k1 =>
   have H := HA.out
   clear HA
   simp only [jI.l0] at H
   by_cases c2 : (x0_1.length : Int) > 0
   rotate_left
   ·
    rw [if_neg c2] at H
    have c2b0 := decide_eq_false c2
    have c2b1 : decide (0 < x0_1.length) = false := decide_eq_false (by omega)
    clear c2
    obtain rfl := Option.some.inj H
    go_wp2
    go_ret
    exact ⟨_, rfl, HO_0.out, HB.out⟩
   rw [if_pos c2] at H
   have c2b0 := decide_eq_true c2
   have c2b1 : decide (0 < x0_1.length) = true := decide_eq_true (by omega)
   clear c2
   obtain ⟨ji3, hji3⟩ : ∃ j_ : Int, (wrap64 ((x0_1.length : Int) - 1)) = j_ := ⟨_, rfl⟩
   rw [hji3] at H
   have hji3w : (IntKind.i64.wrap ((x0_1.length : Int) - 1)) = ji3 := (jv _).trans hji3
   by_cases c4 : 0 ≤ (ji3)
   rotate_left
   ·
    rw [if_neg c4] at H
    exact absurd H (by simp)
   rw [if_pos c4] at H
   have c4b0 := decide_eq_true c4
   clear c4
   by_cases c5 : (ji3) < (x0_1.length : Int)
   rotate_left
   ·
    rw [if_neg c5] at H
    exact absurd H (by simp)
   rw [if_pos c5] at H
   have c5b0 := decide_eq_true c5
   clear c5
   have p103 : 0 ≤ ((ji3) : Int) := of_decide_eq_true am_
   have q103 : (ji3) < (x0_1.length : Int) := of_decide_eq_true am_
   obtain ⟨ad103, e103, hx103_0⟩ := Kd.vP (Kd.jT HO_0.out).2.2 (ji3) p103 q103
   cases e103
   replace p103 := eq_true p103
   replace q103 := eq_true q103
   by_cases c6 : (rd x0_1 (ji3)) = 0
   rotate_left
   ·
    rw [if_neg c6] at H
    have c6b0 := beq_eq_false_iff_ne.mpr c6
    have c6b1 := bne_iff_ne.mpr c6
    obtain rfl := Option.some.inj H
    go_wp2
    go_ret
    exact ⟨_, rfl, HO_0.out, HB.out⟩
   rw [if_pos c6] at H
   have c6b0 := beq_iff_eq.mpr c6
   have c6b1 := bne_eq_false_iff_eq.mpr c6
   clear c6
   have c7b0 := eq_true (of_decide_eq_true am_ : 0 ≤ (ji3))
   by_cases c8 : (ji3) ≤ (x0_1.length : Int)
   rotate_left
   ·
    rw [if_neg c8] at H
    exact absurd H (by simp)
   rw [if_pos c8] at H
   have c8b0 := eq_true c8
   have c8b1 := decide_eq_true c8
   clear c8
   obtain ⟨y104, hy104⟩ : ∃ y_ : List Int, y_ = (x0_1.take ((ji3) : Int).toNat) := ⟨_, rfl⟩
   rw [← hy104] at H
   have H' := jA.mk H
   clear H
   have q10 : ((ji3) : Int) ≤ ((x0_1.length : Int) : Int) := of_decide_eq_true am_
   obtain ⟨i010, hi010, _, hsz10, _⟩ := info_parts jAE
   have hroom10 : x0_1.length ≤ co9 := (Kd.jT HO_0.out).2.1
   have hcut10 := jIh (P := Tryz.prog) 30 56 .i64 Tryz.underlying30 hi010 (some ad103) x0_1.length co9 (ji3) (of_decide_eq_true am_) q10 hroom10
   have hr10 := Kd.jLM (m := ((ji3) : Int).toNat) HO_0.out (by omega)
   have hy10 : y104.length = ((ji3) : Int).toNat := (by rw [hy104, List.length_take]; omega)
   rw [← hy104, ← hy10] at hr10
   rw [← hy10] at hcut10
   have HO108 := jA.mk hr10
   clear hr10 hroom10 hi010 hsz10 hy104
   have KY10 := jA.mk hy10
   clear hy10
   replace q10 := eq_true q10
   go_wp2
   go_roundg k1
   case measure => omega
   case rel => exact ⟨(y104), H', HO108, HB⟩
/-- trim of a row that is only read: its beginning. -/
theorem jI.read (k : Nat) (A0 : Option Addr) (c0 : Nat) (l0 : List Int) (r : List Int) (w : World) (hr : Kd.C (Kd.int .u64) w A0 l0.length l0) (hc : l0.length ≤ c0) (h : jI.f k l0 = some r) :
  Calls Tryz.prog 136 #[.slice A0 l0.length c0] w fun e w' => e = .returned (.slice A0 r.length c0) ∧ r = l0.take r.length ∧ w' = w := by
 have HR0 := jA.mk hr
 have HC0 := jA.mk hc
 clear hr hc
 have H' := jA.mk (show (jI.l0 k (l0.take l0.length)) = some r from by rw [List.take_length]; exact h)
 clear h
 go_enter Tryz.func136, Tryz.ntmps136
 go_wp2
 go_loopg [0] k (fun kq v0 w' => ∃ (m : Nat), v0 = .slice A0 m c0 ∧ m ≤ l0.length ∧ jA (jI.l0 kq (l0.take m) = some r) ∧ w = w')
 case atStart => exact ⟨_, rfl, Nat.le_refl _, H', rfl⟩
 case round =>
  clear H'
  obtain ⟨m, rfl, hm, HA, rfl⟩ := hrel
  have hlen : (l0.take m).length = m := by rw [List.length_take]; omega
  cases gk with
  | zero => exact absurd HA.out (by simp [jI.l0])
  | succ k1 =>
   have H := HA.out
   clear HA
   simp only [jI.l0, hlen] at H
   have HM := jA.mk hm
   have HL := jA.mk hlen
   clear hlen
   by_cases c2 : (m : Int) > 0
   rotate_left
   ·
    rw [if_neg c2] at H
    have c2b0 := decide_eq_false c2
    have c2b1 : decide (0 < m) = false := decide_eq_false (by omega)
    have HE := jA.mk (Option.some.inj H)
    clear c2 H hm
    go_wp2
    go_ret
    refine ⟨?_, ?_, rfl⟩
    ·
     rw [← HE.out, HL.out]; rfl
    rw [← HE.out, HL.out]
   rw [if_pos c2] at H
   have c2b0 := decide_eq_true c2
   have c2b1 : decide (0 < m) = true := decide_eq_true (by omega)
   have hmb : (m : Int) ≤ 9223372036854775807 := by have := HR0.out.2.1; omega
   obtain ⟨ji3, hji3⟩ : ∃ j_ : Int, (wrap64 ((m : Int) - 1)) = j_ := ⟨_, rfl⟩
   rw [hji3] at H
   have hjm : ji3 = (m : Int) - 1 := by rw [← hji3]; unfold wrap64; omega
   have hji3w : (IntKind.i64.wrap ((m : Int) - 1)) = ji3 := (jv _).trans hji3
   rw [if_pos (by omega), if_pos (by omega)] at H
   have hrd : rd (l0.take m) ji3 = rd l0 ji3 := by
    unfold rd
    rw [List.getD_eq_getElem?_getD, List.getD_eq_getElem?_getD, List.getElem?_take_of_lt (by omega)]
   rw [hrd] at H
   have p103 : 0 ≤ ji3 := by omega
   have q103 : ji3 < (m : Int) := by omega
   obtain ⟨ad103, e103, hx103_0⟩ := Kd.vP HR0.out ji3 p103 (by omega)
   cases e103
   have HJ := jA.mk hjm
   clear hjm hrd hm c2
   by_cases c6 : (rd l0 ji3) = 0
   ·
    rw [if_pos c6, if_pos (by omega)] at H
    have c6b0 := beq_iff_eq.mpr c6
    have c6b1 := bne_eq_false_iff_eq.mpr c6
    clear c6
    obtain ⟨i010, hi010, _, hsz10, _⟩ := info_parts jAE
    have hcut10 := jIh (P := Tryz.prog) 30 56 .i64 Tryz.underlying30 hi010 (some ad103) m c0 ji3 p103 (by omega) (by have := HM.out; have := HC0.out; omega)
    have H' := jA.mk (show jI.l0 k1 (l0.take ji3.toNat) = some r from by rw [List.take_take, Nat.min_eq_left (by omega)] at H; exact H)
    clear H hi010 hsz10 hmb
    replace p103 := eq_true p103
    replace q103 := eq_true q103
    go_wp2
    go_roundg k1
    case measure => omega
    case rel => exact ⟨ji3.toNat, rfl, by have := HJ.out; have := HM.out; omega, H', rfl⟩
   rw [if_neg c6] at H
   have c6b0 := beq_eq_false_iff_ne.mpr c6
   have c6b1 := bne_iff_ne.mpr c6
   have HE := jA.mk (Option.some.inj H)
   clear H hmb
   replace p103 := eq_true p103
   replace q103 := eq_true q103
   go_wp2
   go_ret
   refine ⟨?_, ?_, rfl⟩
   ·
    rw [← HE.out, HL.out]; rfl
   rw [← HE.out, HL.out]
def vW.f (k : Nat) (l0 : List Int) : Option (List Int) := (jI.f k l0).bind fun t124 => ((jN.f t124).bind fun t127 => (some t127))
theorem vW.calls (k : Nat) (A0 : Option Addr) (c0 : Nat) (l0 : List Int) (r : List Int) (w : World) (hr0 : Kd.C (Kd.int .u64) w A0 l0.length l0) (hc0 : l0.length ≤ c0) (h : vW.f k l0 = some r) :
  Calls Tryz.prog 127 #[.slice A0 l0.length c0] w fun e w' => ∃ v0_ : Value, e = .returned (v0_) ∧ Kd.R (Kd.int .u64) 56 w' w.heap.size (fun _ => True) v0_ r ∧ Below w.heap.size w w' := by
 have HR0 := jA.mk hr0
 have HC0 := jA.mk hc0
 clear hr0 hc0
 have HB := jA.mk (Below.refl w.heap.size w)
 have H : ((jI.f k l0).bind fun t124 => ((jN.f t124).bind fun t127 => (some t127))) = some r := h
 clear h
 obtain ⟨t124, A2, H⟩ := oc_ H
 try dsimp only at H
 replace H := ob_ H
 obtain ⟨t127, A30, H⟩ := H
 replace H : (some t127) = some r := H
 have A3 := jA.mk A30
 clear A30
 obtain rfl := Option.some.inj H
 go_enter Tryz.func127, Tryz.ntmps127
 go_wp2_with (first | ((with_reducible refine jG (f := 136) rfl ?_); refine gl_ (some 4) Tryz.func136 #[.slice A0 l0.length c0] ?_; (with_reducible refine (jI.calls k (fun k_ => k_ < w.heap.size) _ _ l0 t124 _ ?side1 A2.out).mono ?_); (case side1 => exact Kd.V_mk HC0.out (Kd.vZ (Kd.C_F (Kd.jy .u64) HR0.out) (bb_ HB))); rintro e w4 ⟨v125, rfl, ho0, hb⟩; refine ⟨_, rfl, ?_⟩; have HO126 := jA.mk (Kd.zA (Kd.vk (ok' := fun k_ => True) ho0 (fun k_ hk_ => trivial)) (jD (bb_ HB))); replace HB := bs_ HB hb; obtain ⟨Ao5, co5, rfl⟩ := Kd.vT HO126.out) | ((with_reducible refine jG (f := 135) rfl ?_); refine gl_ (some 5) Tryz.func135 #[.slice Ao5 t124.length co5] ?_; (with_reducible refine (jN.calls _ _ t124 t127 _ ?side1 ?side2 A3.out).mono ?_); (case side1 => repeat (first | exact (Kd.vJ HO126.out).2.2 | (with_reducible refine Kd.qj ?_ _) | (with_reducible refine Kd.jAo ?_ _) | (with_reducible refine Kd.jCP ?_))); (case side2 => exact (Kd.vJ HO126.out).2.1); rintro e w6 ⟨v128, rfl, ho0, hb⟩; refine ⟨_, rfl, ?_⟩; replace HO126 := jA.mk (Kd.qV (rV_ HO126) (Kd.qJ ho0) hb); have HO129 := jA.mk (Kd.jw ho0 (jD (bb_ HB))); replace HB := bs_ HB hb))
 go_ret
 exact ⟨_, ew_, (rR_ HO129), (bb_ HB)⟩
def vM.l0 : Nat → List Int → List Int → Int → Option (Int)
 | 0, _, _, _ => none
 | k + 1, x0, x1, x5 => if x5 ≥ 0 then (if 0 ≤ x5 then (if x5 < (x0.length : Int) then (if x5 < (x1.length : Int) then (if (rd x0 x5) < (rd x1 x5) then (some (-1)) else (if (rd x0 x5) > (rd x1 x5) then (some 1) else (vM.l0 k x0 x1 (wrap64 (x5 - 1))))) else (none)) else (none)) else (none)) else (some 0)
def vM.f (k : Nat) (l0 : List Int) (l1 : List Int) : Option (Int) := (jI.f k l0).bind fun t130 => ((jI.f k l1).bind fun t133 => (if (t130.length : Int) = (t133.length : Int) then (vM.l0 k t130 t133 (wrap64 ((t130.length : Int) - 1))) else (if (t130.length : Int) < (t133.length : Int) then (some (-1)) else (some 1))))
theorem vM.calls (k : Nat) (A0 : Option Addr) (c0 : Nat) (l0 : List Int) (A1 : Option Addr) (c1 : Nat) (l1 : List Int) (r : Int) (w : World) (hr0 : Kd.C (Kd.int .u64) w A0 l0.length l0) (hc0 : l0.length ≤ c0) (hr1 : Kd.C (Kd.int .u64) w A1 l1.length l1) (hc1 : l1.length ≤ c1) (h : vM.f k l0 l1 = some r) :
  Calls Tryz.prog 129 #[.slice A0 l0.length c0, .slice A1 l1.length c1] w fun e w' => e = .returned (.int .i64 r) ∧ Below w.heap.size w w' := by
 have HR0 := jA.mk hr0
 have HC0 := jA.mk hc0
 clear hr0 hc0
 have HR1 := jA.mk hr1
 have HC1 := jA.mk hc1
 clear hr1 hc1
 have HB := jA.mk (Below.refl w.heap.size w)
 have H : ((jI.f k l0).bind fun t130 => ((jI.f k l1).bind fun t133 => (if (t130.length : Int) = (t133.length : Int) then (vM.l0 k t130 t133 (wrap64 ((t130.length : Int) - 1))) else (if (t130.length : Int) < (t133.length : Int) then (some (-1)) else (some 1))))) = some r := h
 clear h
 obtain ⟨t130, A3, H⟩ := oc_ H
 try dsimp only at H
 obtain ⟨t133, A4, H⟩ := oc_ H
 try dsimp only at H
 by_cases c5 : (t130.length : Int) = (t133.length : Int)
 rotate_left
 ·
  rw [if_neg c5] at H
  have c5b0 := beq_eq_false_iff_ne.mpr c5
  have c5b1 := bne_iff_ne.mpr c5
  have c5b2 : (t130.length == t133.length) = false := by first | simpa using c5 | (simp at c5 ⊢; omega)
  by_cases c16 : (t130.length : Int) < (t133.length : Int)
  ·
   rw [if_pos c16] at H
   have c16b0 := decide_eq_true c16
   have c16b1 : decide (t130.length < t133.length) = true := decide_eq_true (Int.ofNat_lt.mp c16)
   clear c16
   obtain rfl := Option.some.inj H
   go_enter Tryz.func129, Tryz.ntmps129
   go_wp2_with (first | (go_at_call 136; (with_reducible refine (jI.calls k (fun k_ => k_ < w.heap.size) _ _ l0 t130 _ ?side1 A3.out).mono ?_); (case side1 => exact Kd.V_mk HC0.out (Kd.vZ (Kd.C_F (Kd.jy .u64) HR0.out) (bb_ HB))); rintro e w17 ⟨v131, rfl, ho0, hb⟩; have HO132 := jA.mk (Kd.zA (Kd.vk (ok' := fun k_ => True) ho0 (fun k_ hk_ => trivial)) (jD (bb_ HB))); replace HB := bs_ HB hb) | (go_at_call 136; (with_reducible refine (jI.calls k (fun k_ => k_ < w.heap.size) _ _ l1 t133 _ ?side1 A4.out).mono ?_); (case side1 => exact Kd.V_mk HC1.out (Kd.vZ (Kd.C_F (Kd.jy .u64) HR1.out) (bb_ HB))); rintro e w18 ⟨v134, rfl, ho0, hb⟩; replace HO132 := jA.mk (Kd.qg (rV_ HO132) hb); have HO135 := jA.mk (Kd.zA (Kd.vk (ok' := fun k_ => True) ho0 (fun k_ hk_ => trivial)) (jD (bb_ HB))); replace HB := bs_ HB hb; obtain ⟨Ao19, co19, rfl⟩ := Kd.vT HO132.out; obtain ⟨Ao20, co20, rfl⟩ := Kd.vT HO135.out))
   repeat (go_quiet (first | (go_at_call 136; (with_reducible refine (jI.calls k (fun k_ => k_ < w.heap.size) _ _ l0 t130 _ ?side1 A3.out).mono ?_); (case side1 => exact Kd.V_mk HC0.out (Kd.vZ (Kd.C_F (Kd.jy .u64) HR0.out) (bb_ HB))); rintro e w17 ⟨v131, rfl, ho0, hb⟩; have HO132 := jA.mk (Kd.zA (Kd.vk (ok' := fun k_ => True) ho0 (fun k_ hk_ => trivial)) (jD (bb_ HB))); replace HB := bs_ HB hb) | (go_at_call 136; (with_reducible refine (jI.calls k (fun k_ => k_ < w.heap.size) _ _ l1 t133 _ ?side1 A4.out).mono ?_); (case side1 => exact Kd.V_mk HC1.out (Kd.vZ (Kd.C_F (Kd.jy .u64) HR1.out) (bb_ HB))); rintro e w18 ⟨v134, rfl, ho0, hb⟩; replace HO132 := jA.mk (Kd.qg (rV_ HO132) hb); have HO135 := jA.mk (Kd.zA (Kd.vk (ok' := fun k_ => True) ho0 (fun k_ hk_ => trivial)) (jD (bb_ HB))); replace HB := bs_ HB hb; obtain ⟨Ao19, co19, rfl⟩ := Kd.vT HO132.out; obtain ⟨Ao20, co20, rfl⟩ := Kd.vT HO135.out)); try go_wp2_with (first | (go_at_call 136; (with_reducible refine (jI.calls k (fun k_ => k_ < w.heap.size) _ _ l0 t130 _ ?side1 A3.out).mono ?_); (case side1 => exact Kd.V_mk HC0.out (Kd.vZ (Kd.C_F (Kd.jy .u64) HR0.out) (bb_ HB))); rintro e w17 ⟨v131, rfl, ho0, hb⟩; have HO132 := jA.mk (Kd.zA (Kd.vk (ok' := fun k_ => True) ho0 (fun k_ hk_ => trivial)) (jD (bb_ HB))); replace HB := bs_ HB hb) | (go_at_call 136; (with_reducible refine (jI.calls k (fun k_ => k_ < w.heap.size) _ _ l1 t133 _ ?side1 A4.out).mono ?_); (case side1 => exact Kd.V_mk HC1.out (Kd.vZ (Kd.C_F (Kd.jy .u64) HR1.out) (bb_ HB))); rintro e w18 ⟨v134, rfl, ho0, hb⟩; replace HO132 := jA.mk (Kd.qg (rV_ HO132) hb); have HO135 := jA.mk (Kd.zA (Kd.vk (ok' := fun k_ => True) ho0 (fun k_ hk_ => trivial)) (jD (bb_ HB))); replace HB := bs_ HB hb; obtain ⟨Ao19, co19, rfl⟩ := Kd.vT HO132.out; obtain ⟨Ao20, co20, rfl⟩ := Kd.vT HO135.out)))
   go_ret
   exact ⟨ew_, (bb_ HB)⟩
  rw [if_neg c16] at H
  have c16b0 := decide_eq_false c16
  have c16b1 : decide (t130.length < t133.length) = false := decide_eq_false (fun h => c16 (Int.ofNat_lt.mpr h))
  clear c16
  obtain rfl := Option.some.inj H
  go_enter Tryz.func129, Tryz.ntmps129
  go_wp2_with (first | (go_at_call 136; (with_reducible refine (jI.calls k (fun k_ => k_ < w.heap.size) _ _ l0 t130 _ ?side1 A3.out).mono ?_); (case side1 => exact Kd.V_mk HC0.out (Kd.vZ (Kd.C_F (Kd.jy .u64) HR0.out) (bb_ HB))); rintro e w21 ⟨v131, rfl, ho0, hb⟩; have HO132 := jA.mk (Kd.zA (Kd.vk (ok' := fun k_ => True) ho0 (fun k_ hk_ => trivial)) (jD (bb_ HB))); replace HB := bs_ HB hb) | (go_at_call 136; (with_reducible refine (jI.calls k (fun k_ => k_ < w.heap.size) _ _ l1 t133 _ ?side1 A4.out).mono ?_); (case side1 => exact Kd.V_mk HC1.out (Kd.vZ (Kd.C_F (Kd.jy .u64) HR1.out) (bb_ HB))); rintro e w22 ⟨v134, rfl, ho0, hb⟩; replace HO132 := jA.mk (Kd.qg (rV_ HO132) hb); have HO135 := jA.mk (Kd.zA (Kd.vk (ok' := fun k_ => True) ho0 (fun k_ hk_ => trivial)) (jD (bb_ HB))); replace HB := bs_ HB hb; obtain ⟨Ao23, co23, rfl⟩ := Kd.vT HO132.out; obtain ⟨Ao24, co24, rfl⟩ := Kd.vT HO135.out))
  repeat (go_quiet (first | (go_at_call 136; (with_reducible refine (jI.calls k (fun k_ => k_ < w.heap.size) _ _ l0 t130 _ ?side1 A3.out).mono ?_); (case side1 => exact Kd.V_mk HC0.out (Kd.vZ (Kd.C_F (Kd.jy .u64) HR0.out) (bb_ HB))); rintro e w21 ⟨v131, rfl, ho0, hb⟩; have HO132 := jA.mk (Kd.zA (Kd.vk (ok' := fun k_ => True) ho0 (fun k_ hk_ => trivial)) (jD (bb_ HB))); replace HB := bs_ HB hb) | (go_at_call 136; (with_reducible refine (jI.calls k (fun k_ => k_ < w.heap.size) _ _ l1 t133 _ ?side1 A4.out).mono ?_); (case side1 => exact Kd.V_mk HC1.out (Kd.vZ (Kd.C_F (Kd.jy .u64) HR1.out) (bb_ HB))); rintro e w22 ⟨v134, rfl, ho0, hb⟩; replace HO132 := jA.mk (Kd.qg (rV_ HO132) hb); have HO135 := jA.mk (Kd.zA (Kd.vk (ok' := fun k_ => True) ho0 (fun k_ hk_ => trivial)) (jD (bb_ HB))); replace HB := bs_ HB hb; obtain ⟨Ao23, co23, rfl⟩ := Kd.vT HO132.out; obtain ⟨Ao24, co24, rfl⟩ := Kd.vT HO135.out)); try go_wp2_with (first | (go_at_call 136; (with_reducible refine (jI.calls k (fun k_ => k_ < w.heap.size) _ _ l0 t130 _ ?side1 A3.out).mono ?_); (case side1 => exact Kd.V_mk HC0.out (Kd.vZ (Kd.C_F (Kd.jy .u64) HR0.out) (bb_ HB))); rintro e w21 ⟨v131, rfl, ho0, hb⟩; have HO132 := jA.mk (Kd.zA (Kd.vk (ok' := fun k_ => True) ho0 (fun k_ hk_ => trivial)) (jD (bb_ HB))); replace HB := bs_ HB hb) | (go_at_call 136; (with_reducible refine (jI.calls k (fun k_ => k_ < w.heap.size) _ _ l1 t133 _ ?side1 A4.out).mono ?_); (case side1 => exact Kd.V_mk HC1.out (Kd.vZ (Kd.C_F (Kd.jy .u64) HR1.out) (bb_ HB))); rintro e w22 ⟨v134, rfl, ho0, hb⟩; replace HO132 := jA.mk (Kd.qg (rV_ HO132) hb); have HO135 := jA.mk (Kd.zA (Kd.vk (ok' := fun k_ => True) ho0 (fun k_ hk_ => trivial)) (jD (bb_ HB))); replace HB := bs_ HB hb; obtain ⟨Ao23, co23, rfl⟩ := Kd.vT HO132.out; obtain ⟨Ao24, co24, rfl⟩ := Kd.vT HO135.out)))
  go_ret
  exact ⟨ew_, (bb_ HB)⟩
 rw [if_pos c5] at H
 have c5b0 := beq_iff_eq.mpr c5
 have c5b1 := bne_eq_false_iff_eq.mpr c5
 have c5b2 : (t130.length == t133.length) = true := by first | simpa using c5 | (simp at c5 ⊢; omega)
 clear c5
 have H' := jA.mk H
 clear H
 go_enter Tryz.func129, Tryz.ntmps129
 go_wp2_with (first | (go_at_call 136; (with_reducible refine (jI.calls k (fun k_ => k_ < w.heap.size) _ _ l0 t130 _ ?side1 A3.out).mono ?_); (case side1 => exact Kd.V_mk HC0.out (Kd.vZ (Kd.C_F (Kd.jy .u64) HR0.out) (bb_ HB))); rintro e w6 ⟨v131, rfl, ho0, hb⟩; have HO132 := jA.mk (Kd.zA (Kd.vk (ok' := fun k_ => True) ho0 (fun k_ hk_ => trivial)) (jD (bb_ HB))); replace HB := bs_ HB hb) | (go_at_call 136; (with_reducible refine (jI.calls k (fun k_ => k_ < w.heap.size) _ _ l1 t133 _ ?side1 A4.out).mono ?_); (case side1 => exact Kd.V_mk HC1.out (Kd.vZ (Kd.C_F (Kd.jy .u64) HR1.out) (bb_ HB))); rintro e w7 ⟨v134, rfl, ho0, hb⟩; replace HO132 := jA.mk (Kd.qg (rV_ HO132) hb); have HO135 := jA.mk (Kd.zA (Kd.vk (ok' := fun k_ => True) ho0 (fun k_ hk_ => trivial)) (jD (bb_ HB))); replace HB := bs_ HB hb; obtain ⟨Ao8, co8, rfl⟩ := Kd.vT HO132.out; obtain ⟨Ao9, co9, rfl⟩ := Kd.vT HO135.out))
 repeat (go_quiet (first | (go_at_call 136; (with_reducible refine (jI.calls k (fun k_ => k_ < w.heap.size) _ _ l0 t130 _ ?side1 A3.out).mono ?_); (case side1 => exact Kd.V_mk HC0.out (Kd.vZ (Kd.C_F (Kd.jy .u64) HR0.out) (bb_ HB))); rintro e w6 ⟨v131, rfl, ho0, hb⟩; have HO132 := jA.mk (Kd.zA (Kd.vk (ok' := fun k_ => True) ho0 (fun k_ hk_ => trivial)) (jD (bb_ HB))); replace HB := bs_ HB hb) | (go_at_call 136; (with_reducible refine (jI.calls k (fun k_ => k_ < w.heap.size) _ _ l1 t133 _ ?side1 A4.out).mono ?_); (case side1 => exact Kd.V_mk HC1.out (Kd.vZ (Kd.C_F (Kd.jy .u64) HR1.out) (bb_ HB))); rintro e w7 ⟨v134, rfl, ho0, hb⟩; replace HO132 := jA.mk (Kd.qg (rV_ HO132) hb); have HO135 := jA.mk (Kd.zA (Kd.vk (ok' := fun k_ => True) ho0 (fun k_ hk_ => trivial)) (jD (bb_ HB))); replace HB := bs_ HB hb; obtain ⟨Ao8, co8, rfl⟩ := Kd.vT HO132.out; obtain ⟨Ao9, co9, rfl⟩ := Kd.vT HO135.out)); try go_wp2_with (first | (go_at_call 136; (with_reducible refine (jI.calls k (fun k_ => k_ < w.heap.size) _ _ l0 t130 _ ?side1 A3.out).mono ?_); (case side1 => exact Kd.V_mk HC0.out (Kd.vZ (Kd.C_F (Kd.jy .u64) HR0.out) (bb_ HB))); rintro e w6 ⟨v131, rfl, ho0, hb⟩; have HO132 := jA.mk (Kd.zA (Kd.vk (ok' := fun k_ => True) ho0 (fun k_ hk_ => trivial)) (jD (bb_ HB))); replace HB := bs_ HB hb) | (go_at_call 136; (with_reducible refine (jI.calls k (fun k_ => k_ < w.heap.size) _ _ l1 t133 _ ?side1 A4.out).mono ?_); (case side1 => exact Kd.V_mk HC1.out (Kd.vZ (Kd.C_F (Kd.jy .u64) HR1.out) (bb_ HB))); rintro e w7 ⟨v134, rfl, ho0, hb⟩; replace HO132 := jA.mk (Kd.qg (rV_ HO132) hb); have HO135 := jA.mk (Kd.zA (Kd.vk (ok' := fun k_ => True) ho0 (fun k_ hk_ => trivial)) (jD (bb_ HB))); replace HB := bs_ HB hb; obtain ⟨Ao8, co8, rfl⟩ := Kd.vT HO132.out; obtain ⟨Ao9, co9, rfl⟩ := Kd.vT HO135.out)))
 go_loopg [5] k (fun kq v5 w' => ∃ (x5_1 : Int), v5 = .int .i64 x5_1 ∧ jA (vM.l0 kq t130 t133 x5_1 = some r) ∧ jA (kq ≤ k) ∧ jA (Kd.V (Kd.int .u64) 56 w' w.heap.size (fun _ => True) (.slice Ao8 t130.length co8) t130) ∧ jA (Kd.V (Kd.int .u64) 56 w' w.heap.size (fun _ => True) (.slice Ao9 t133.length co9) t133) ∧ jA (Below w.heap.size w w'))
 case atStart => exact ⟨(wrap64 ((t130.length : Int) - 1)), sd_, H', ⟨Nat.le_refl _⟩, ⟨(rV_ HO132)⟩, ⟨(rV_ HO135)⟩, ⟨(bb_ HB)⟩⟩
 case round =>
  clear H'
  try clear c1
  try clear p2
  try clear c5
  try clear c5b0
  try clear c5b1
  try clear c5b2
  try clear p6
  obtain ⟨x5_1, rfl, HA, HK1, HO_0, HO_1, HB⟩ := hrel
  cases gk with
  | zero => exact absurd HA.out (by simp [vM.l0])
  | succ k1 =>
   have H := HA.out
   clear HA
   simp only [vM.l0] at H
   by_cases c10 : x5_1 ≥ 0
   rotate_left
   ·
    rw [if_neg c10] at H
    have c10b0 := decide_eq_false c10
    clear c10
    obtain rfl := Option.some.inj H
    go_wp2
    repeat (go_quiet (fail); try go_wp2)
    go_ret
    exact ⟨ew_, (bb_ HB)⟩
   rw [if_pos c10] at H
   have c10b0 := decide_eq_true c10
   clear c10
   by_cases c11 : 0 ≤ x5_1
   rotate_left
   ·
    rw [if_neg c11] at H
    exact absurd H (by simp)
   rw [if_pos c11] at H
   have c11b0 := decide_eq_true c11
   clear c11
   by_cases c12 : x5_1 < (t130.length : Int)
   rotate_left
   ·
    rw [if_neg c12] at H
    exact absurd H (by simp)
   rw [if_pos c12] at H
   have c12b0 := decide_eq_true c12
   clear c12
   by_cases c13 : x5_1 < (t133.length : Int)
   rotate_left
   ·
    rw [if_neg c13] at H
    exact absurd H (by simp)
   rw [if_pos c13] at H
   have c13b0 := decide_eq_true c13
   clear c13
   by_cases c14 : (rd t130 x5_1) < (rd t133 x5_1)
   ·
    rw [if_pos c14] at H
    have c14b0 := decide_eq_true c14
    clear c14
    obtain rfl := Option.some.inj H
    have p136 : 0 ≤ (x5_1 : Int) := of_decide_eq_true am_
    have q136 : x5_1 < (t130.length : Int) := of_decide_eq_true am_
    obtain ⟨ad136, e136, hx136_0⟩ := Kd.vP (Kd.vJ HO_0.out).2.2 x5_1 p136 q136
    cases e136
    replace p136 := eq_true p136
    replace q136 := eq_true q136
    have p137 : 0 ≤ (x5_1 : Int) := of_decide_eq_true am_
    have q137 : x5_1 < (t133.length : Int) := of_decide_eq_true am_
    obtain ⟨ad137, e137, hx137_0⟩ := Kd.vP (Kd.vJ HO_1.out).2.2 x5_1 p137 q137
    cases e137
    replace p137 := eq_true p137
    replace q137 := eq_true q137
    go_wp2
    repeat (go_quiet (fail); try go_wp2)
    go_ret
    exact ⟨ew_, (bb_ HB)⟩
   rw [if_neg c14] at H
   have c14b0 := decide_eq_false c14
   clear c14
   by_cases c15 : (rd t130 x5_1) > (rd t133 x5_1)
   ·
    rw [if_pos c15] at H
    have c15b0 := decide_eq_true c15
    clear c15
    obtain rfl := Option.some.inj H
    have p136 : 0 ≤ (x5_1 : Int) := of_decide_eq_true am_
    have q136 : x5_1 < (t130.length : Int) := of_decide_eq_true am_
    obtain ⟨ad136, e136, hx136_0⟩ := Kd.vP (Kd.vJ HO_0.out).2.2 x5_1 p136 q136
    cases e136
    replace p136 := eq_true p136
    replace q136 := eq_true q136
    have p137 : 0 ≤ (x5_1 : Int) := of_decide_eq_true am_
    have q137 : x5_1 < (t133.length : Int) := of_decide_eq_true am_
    obtain ⟨ad137, e137, hx137_0⟩ := Kd.vP (Kd.vJ HO_1.out).2.2 x5_1 p137 q137
    cases e137
    replace p137 := eq_true p137
    replace q137 := eq_true q137
    have p138 : 0 ≤ (x5_1 : Int) := of_decide_eq_true am_
    have q138 : x5_1 < (t130.length : Int) := of_decide_eq_true am_
    obtain ⟨ad138, e138, hx138_0⟩ := Kd.vP (Kd.vJ HO_0.out).2.2 x5_1 p138 q138
    obtain rfl : ad136 = ad138 := (by injection e138)
    replace p138 := eq_true p138
    replace q138 := eq_true q138
    have p139 : 0 ≤ (x5_1 : Int) := of_decide_eq_true am_
    have q139 : x5_1 < (t133.length : Int) := of_decide_eq_true am_
    obtain ⟨ad139, e139, hx139_0⟩ := Kd.vP (Kd.vJ HO_1.out).2.2 x5_1 p139 q139
    obtain rfl : ad137 = ad139 := (by injection e139)
    replace p139 := eq_true p139
    replace q139 := eq_true q139
    go_wp2
    repeat (go_quiet (fail); try go_wp2)
    go_ret
    exact ⟨ew_, (bb_ HB)⟩
   rw [if_neg c15] at H
   have c15b0 := decide_eq_false c15
   clear c15
   have H' := jA.mk H
   clear H
   have p136 : 0 ≤ (x5_1 : Int) := of_decide_eq_true am_
   have q136 : x5_1 < (t130.length : Int) := of_decide_eq_true am_
   obtain ⟨ad136, e136, hx136_0⟩ := Kd.vP (Kd.vJ HO_0.out).2.2 x5_1 p136 q136
   cases e136
   replace p136 := eq_true p136
   replace q136 := eq_true q136
   have p137 : 0 ≤ (x5_1 : Int) := of_decide_eq_true am_
   have q137 : x5_1 < (t133.length : Int) := of_decide_eq_true am_
   obtain ⟨ad137, e137, hx137_0⟩ := Kd.vP (Kd.vJ HO_1.out).2.2 x5_1 p137 q137
   cases e137
   replace p137 := eq_true p137
   replace q137 := eq_true q137
   have p138 : 0 ≤ (x5_1 : Int) := of_decide_eq_true am_
   have q138 : x5_1 < (t130.length : Int) := of_decide_eq_true am_
   obtain ⟨ad138, e138, hx138_0⟩ := Kd.vP (Kd.vJ HO_0.out).2.2 x5_1 p138 q138
   obtain rfl : ad136 = ad138 := (by injection e138)
   replace p138 := eq_true p138
   replace q138 := eq_true q138
   have p139 : 0 ≤ (x5_1 : Int) := of_decide_eq_true am_
   have q139 : x5_1 < (t133.length : Int) := of_decide_eq_true am_
   obtain ⟨ad139, e139, hx139_0⟩ := Kd.vP (Kd.vJ HO_1.out).2.2 x5_1 p139 q139
   obtain rfl : ad137 = ad139 := (by injection e139)
   replace p139 := eq_true p139
   replace q139 := eq_true q139
   go_wp2
   repeat (go_quiet (fail); try go_wp2)
   go_roundg k1
   case measure => have := HK1.out; omega
   case rel => exact ⟨(wrap64 (x5_1 - 1)), sd_, H', ⟨by have := HK1.out; omega⟩, ⟨(rV_ HO_0)⟩, ⟨(rV_ HO_1)⟩, ⟨(bb_ HB)⟩⟩
def bits_LeadingZeros64.f (a0 : Int) : Option (Int) := (bits_Len64.f a0).bind fun t140 => (some (wrap64 (64 - t140)))
theorem bits_LeadingZeros64.calls (a0 : Int) (r : Int) (w : World) (h : bits_LeadingZeros64.f a0 = some r) :
  Calls Tryz.prog 139 #[.int .u64 a0] w fun e w' => e = .returned (.int .i64 r) ∧ Below w.heap.size w w' := by
 have HB := jA.mk (Below.refl w.heap.size w)
 have H : ((bits_Len64.f a0).bind fun t140 => (some (wrap64 (64 - t140)))) = some r := h
 clear h
 obtain ⟨t140, A2, H⟩ := oc_ H
 try dsimp only at H
 obtain rfl := Option.some.inj H
 go_enter Tryz.func139, Tryz.ntmps139
 go_wp2_with (first | ((with_reducible refine jG (f := 86) rfl ?_); refine gl_ (some 4) Tryz.func86 #[.int .u64 a0] ?_; (with_reducible refine (bits_Len64.calls a0 t140 _ A2.out).mono ?_); rintro e w3 ⟨rfl, hb⟩; refine ⟨_, rfl, ?_⟩; replace HB := bs_ HB hb))
 go_ret
 exact ⟨ew_, (bb_ HB)⟩
end Go.Proofs.YtoganbmeedimiaaGreat.POPressSizes
