-- printed (pr.py)
import Derived.Test.YtijgeonhbmgikaaPOOctetGetsx0
import Derived.Test.YtijgeonhbmgikaaPOOctetGetsx1
namespace Go.Proofs.Ytijgeonhbmgikaa.POOctetGets
open Go.RowKit Go.Proofs.YtijgeonhbmgikaaN Go.Proofs.YtijgeonhbmgikaaW.PrintWords Go.Proofs.YtijgeonhbmgikaaW.PrintLast Go.Proofs.YtijgeonhbmgikaaW.PrintMore
attribute [local go_sem] qC zy qR qP za zZ qA zx
set_option maxHeartbeats 8000000
set_option maxRecDepth 100000
set_option linter.unusedVariables false
set_option linter.unusedSimpArgs false

/-! ### qy: function 54 -/
def qy.f (a0_0 : Bool) (l0_1 : List Int) (l0_2 : List Int) : Option (Bool) := some ((l0_1.length : Int) == 0)
theorem qy.calls (a0_0 : Bool) (A0_1 : Option Addr) (c0_1 : Nat) (l0_1 : List Int) (A0_2 : Option Addr) (c0_2 : Nat) (l0_2 : List Int) (r : Bool) (w : World) (hr0_1 : Kd.C (Kd.int .u64) w A0_1 l0_1.length l0_1) (hc0_1 : l0_1.length ≤ c0_1) (hr0_2 : Kd.C (Kd.int .u64) w A0_2 l0_2.length l0_2) (hc0_2 : l0_2.length ≤ c0_2) (h : qy.f a0_0 l0_1 l0_2 = some r) :
  Calls Try.prog 54 #[.agg #[.bool a0_0, .slice A0_1 l0_1.length c0_1, .slice A0_2 l0_2.length c0_2]] w fun e w' => e = .returned (.bool r) ∧ Below w.heap.size w w' := by
 have hu44 := Try.underlying44
 have HR0_1 := jA.mk hr0_1
 have HC0_1 := jA.mk hc0_1
 clear hr0_1 hc0_1
 have HR0_2 := jA.mk hr0_2
 have HC0_2 := jA.mk hc0_2
 clear hr0_2 hc0_2
 have HB := jA.mk (Below.refl w.heap.size w)
 have H : (some ((l0_1.length : Int) == 0)) = some r := h
 clear h
 obtain rfl := Option.some.inj H
 go_enter Try.func54, Try.ntmps54
 go_wp2_with (first | ((with_reducible refine jr (N := 1) rfl ?_); refine zR ?hg (N := 1) ?hd (cs := #[.bool a0_0, .slice A0_1 l0_1.length c0_1, .slice A0_2 l0_2.length c0_2]) (t := 44) ?hr ?_; (case hd => rfl); (case hg => rfl); (case hr => exact gs_); intro gb141 hg w2 hbox hb; have BK141 := jA.mk (hbox); have GW141 := jA.mk ((by rw [hg]; exact (jB (bb_ HB)) : w.heap.size ≤ gb141)); have GE141 := jA.mk ((by rw [hg]; exact (jB (bb_ HB)) : w.heap.size ≤ gb141)); replace HB := bs_ HB hb; clear hb hbox hg; obtain ⟨hcz3_0, hcz3_1, hcz3_2, hfz3_0, hfz3_1, hfz3_2⟩ := bf3_ BK141))
 go_ret
 exact ⟨ew_, (bb1_ HB GE141)⟩

/-! ### jCF: function 81 -/
def jCF.f (a0 : Int) : Option (List Int) := if a0 = 0 then (some ([] : List Int)) else (some (([a0] : List Int)))
theorem jCF.calls (a0 : Int) (r : List Int) (w : World) (h : jCF.f a0 = some r) :
  Calls Try.prog 81 #[.int .u64 a0] w fun e w' => ∃ v0_ : Value, e = .returned (v0_) ∧ Kd.R (Kd.int .u64) 22 w' w.heap.size (fun _ => True) v0_ r ∧ Below w.heap.size w w' := by
 have HB := jA.mk (Below.refl w.heap.size w)
 have H : (if a0 = 0 then (some ([] : List Int)) else (some (([a0] : List Int)))) = some r := h
 clear h
 by_cases c2 : a0 = 0
 ·
  rw [if_pos c2] at H
  have c2b0 := beq_iff_eq.mpr c2
  have c2b1 := bne_eq_false_iff_eq.mpr c2
  clear c2
  obtain rfl := Option.some.inj H
  go_enter Try.func81, Try.ntmps81
  go_wp2
  go_ret
  exact ⟨_, ew_, nl_, (bb_ HB)⟩
 ·
  rw [if_neg c2] at H
  have c2b0 := beq_eq_false_iff_ne.mpr c2
  have c2b1 := bne_iff_ne.mpr c2
  obtain ⟨y142, hy142⟩ : ∃ y_ : List Int, y_ = (([a0] : List Int)) := ⟨_, rfl⟩
  replace H : (some y142) = some r := by first | (rw [hy142]; with_reducible exact H) | (have H2_ := (Option.bind_some _ _).symm.trans H; rw [hy142]; with_reducible exact H2_) | (with_reducible exact hs_ H) | with_reducible exact H | (rw [hy142]; exact H) | exact H
  have Ny142 := jA.mk hy142
  clear hy142
  obtain rfl := Option.some.inj H
  go_enter Try.func81, Try.ntmps81
  go_wp2_with (first | ((with_reducible refine jr (N := 6) rfl ?_); refine Kd.jAN (Kd.int .u64) _ 22 ?hg (N := 6) ?hd (xs := ([a0] : List Int)) (inner := [.int .u64 a0]) (ok := fun _ => True) (okp := fun _ => True) ?hr ?hp (fun _ hk => hk) trivial (Below.refl _ _) (Nat.le_refl _) (by simp) ?_; (case hd => rfl); (case hg => rfl); (case hr => exact gs_); (case hp => exact (Reps.one (show Kd.M (Kd.int .u64) _ _ _ a0 [.int .u64 a0] from rfl) (Reps.none _ _))); intro v143 w3 ho4 hb hg_ hnew_; clear hg_ hnew_; (first | rw [← Ny142.out] at ho4 | (simp only [Int.reduceToNat] at ho4; rw [← Ny142.out] at ho4)); have HO144 := jA.mk (Kd.jU ho4 (jB (bb_ HB))); replace HB := bs_ HB hb; clear hb ho4))
  go_ret
  exact ⟨_, ew_, (rR_ HO144), (bb_ HB)⟩

/-! ### jQ: function 110 -/
def jQ.l0 : Nat → List Int → Option (List Int)
 | 0, _ => none
 | k + 1, x0 => if (x0.length : Int) > 0 then (if 0 ≤ (wrap64 ((x0.length : Int) - 1)) then (if (wrap64 ((x0.length : Int) - 1)) < (x0.length : Int) then (if (rd x0 (wrap64 ((x0.length : Int) - 1))) = 0 then (if (wrap64 ((x0.length : Int) - 1)) ≤ (x0.length : Int) then (jQ.l0 k (x0.take ((wrap64 ((x0.length : Int) - 1)) : Int).toNat)) else (none)) else (some x0)) else (none)) else (none)) else (some x0)
def jQ.f (k : Nat) (l0 : List Int) : Option (List Int) := jQ.l0 k l0
theorem jQ.vN : ∀ k, (∀ y0, LeO (jQ.l0 k y0) (jQ.l0 (k + 1) y0))
 | 0 => fun _ r h => by simp [jQ.l0] at h
 | k + 1 => by
  have ih0 := jQ.vN k
  ·
   intro y0
   unfold jQ.l0
   repeat' first
   | (with_reducible exact ih0 _)
   | (with_reducible exact LeO.refl _)
   | (with_reducible exact LeO.none _)
   | (with_reducible refine LeO.ite ?_ ?_)
   | (with_reducible refine LeO.bind ?_ (fun _ => ?_))
theorem jQ.mono : ∀ a0 k, LeO (jQ.f k a0) (jQ.f (k + 1) a0) := by
 intro a0 k
 have ih0 := jQ.vN k
 unfold jQ.f
 repeat' first
   | (with_reducible exact ih0 _)
   | (with_reducible exact LeO.refl _)
   | (with_reducible exact LeO.none _)
   | (with_reducible refine LeO.ite ?_ ?_)
   | (with_reducible refine LeO.bind ?_ (fun _ => ?_))
theorem jQ.calls (k : Nat) (P0_ : Nat → Prop) (A0 : Option Addr) (c0 : Nat) (l0 : List Int) (r : List Int) (w : World) (hs0 : Kd.V (Kd.int .u64) 22 w w.heap.size (fun k_ => P0_ k_) (.slice A0 l0.length c0) l0) (h : jQ.f k l0 = some r) :
  Calls Try.prog 110 #[.slice A0 l0.length c0] w fun e w' => ∃ v0_ : Value, e = .returned (v0_) ∧ Kd.V (Kd.int .u64) 22 w' w.heap.size (fun k_ => (P0_ k_ ∨ w.heap.size ≤ k_)) v0_ r ∧ Below w.heap.size w w' := by
 have HO0 := jA.mk (show Kd.V (Kd.int .u64) 22 w w.heap.size (fun k_ => (P0_ k_ ∨ w.heap.size ≤ k_)) (.slice A0 l0.length c0) l0 from Kd.zV hs0 (fun k_ hk => .inl hk))
 have HB := jA.mk (Below.refl w.heap.size w)
 have H : (jQ.l0 k l0) = some r := h
 clear h
 have H' := jA.mk H
 clear H
 go_enter Try.func110, Try.ntmps110
 go_wp2
 go_loopg [0] k (fun kq v0 w' => ∃ (x0_1 : List Int), jA (jQ.l0 kq x0_1 = some r) ∧ jA (kq ≤ k) ∧ jA (Kd.V (Kd.int .u64) 22 w' w.heap.size (fun k_ => (P0_ k_ ∨ w.heap.size ≤ k_)) v0 x0_1) ∧ jA (Below w.heap.size w w'))
 case atStart => exact ⟨(l0), H', ⟨Nat.le_refl _⟩, ⟨(rV_ HO0)⟩, ⟨(bb_ HB)⟩⟩
 case round =>
  clear H'
  try clear c1
  obtain ⟨x0_1, HA, HK1, HO_0, HB⟩ := hrel
  cases gk with
  | zero => exact absurd HA.out (by simp [jQ.l0])
  | succ k1 =>
   have H := HA.out
   clear HA
   simp only [jQ.l0] at H
   by_cases c2 : (x0_1.length : Int) > 0
   ·
    rw [if_pos c2] at H
    have c2b0 := decide_eq_true c2
    have c2b1 : decide (0 < x0_1.length) = true := decide_eq_true (by omega)
    clear c2
    obtain ⟨ji3, hji3⟩ : ∃ j_ : Int, (wrap64 ((x0_1.length : Int) - 1)) = j_ := ⟨_, rfl⟩
    replace H : (if 0 ≤ (ji3) then (if (ji3) < (x0_1.length : Int) then (if (rd x0_1 (ji3)) = 0 then (if (ji3) ≤ (x0_1.length : Int) then (jQ.l0 k1 (x0_1.take ((ji3) : Int).toNat)) else (none)) else (some x0_1)) else (none)) else (none)) = some r := by first | (rw [hji3] at H; exact H) | (simp only [hji3] at H ⊢; exact H)
    have hji3w : (IntKind.i64.wrap ((x0_1.length : Int) - 1)) = ji3 := (zF _).trans hji3
    by_cases c4 : 0 ≤ (ji3)
    ·
     rw [if_pos c4] at H
     have c4b0 := decide_eq_true c4
     clear c4
     by_cases c5 : (ji3) < (x0_1.length : Int)
     ·
      rw [if_pos c5] at H
      have c5b0 := decide_eq_true c5
      clear c5
      by_cases c6 : (rd x0_1 (ji3)) = 0
      ·
       rw [if_pos c6] at H
       have c6b0 := beq_iff_eq.mpr c6
       have c6b1 := bne_eq_false_iff_eq.mpr c6
       clear c6
       have c7b0 := eq_true (of_decide_eq_true am_ : 0 ≤ (ji3))
       by_cases c8 : (ji3) ≤ (x0_1.length : Int)
       ·
        rw [if_pos c8] at H
        have c8b0 := eq_true c8
        have c8b1 := decide_eq_true c8
        clear c8
        obtain ⟨y146, hy146⟩ : ∃ y_ : List Int, y_ = (x0_1.take ((ji3) : Int).toNat) := ⟨_, rfl⟩
        replace H : (jQ.l0 k1 y146) = some r := by first | (rw [hy146]; with_reducible exact H) | (have H2_ := (Option.bind_some _ _).symm.trans H; rw [hy146]; with_reducible exact H2_) | (with_reducible exact hs_ H) | with_reducible exact H | (rw [hy146]; exact H) | exact H
        have Ny146 := jA.mk hy146
        clear hy146
        have H' := jA.mk H
        clear H
        obtain ⟨Ao9, co9, eo9⟩ := Kd.zT HO_0.out
        subst eo9
        have p145 : 0 ≤ ((ji3) : Int) := of_decide_eq_true am_
        have q145 : (ji3) < (x0_1.length : Int) := of_decide_eq_true am_
        obtain ⟨ad145, e145, hx145_0⟩ := Kd.zD (Kd.vW HO_0.out).2.2 (ji3) p145 q145
        cases e145
        replace p145 := eq_true p145
        replace q145 := eq_true q145
        have q10 : ((ji3) : Int) ≤ ((x0_1.length : Int) : Int) := of_decide_eq_true am_
        obtain ⟨i010, hi010, _, hsz10, _⟩ := info_parts zw
        have hroom10 : x0_1.length ≤ co9 := (Kd.vW HO_0.out).2.1
        have hC10 : Kd.F (Kd.int .u64) _ _ (some ad145) x0_1.length x0_1 := (Kd.V_at (base := w.heap.size) HO_0.out).2.2
        have hcut10 := jGr (P := Try.prog) 35 22 .i64 Try.underlying35 hi010 (some ad145) x0_1.length co9 (ji3) (of_decide_eq_true am_) q10 hroom10
        have hr10 := Kd.jLH (m := ((ji3) : Int).toNat) hC10 (by omega)
        have hy10 : y146.length = ((ji3) : Int).toNat := (by rw [Ny146.out, List.length_take]; omega)
        rw [← Ny146.out] at hr10
        rw [← hy10] at hcut10
        have HO150 := jA.mk (show Kd.V (Kd.int .u64) 22 _ w.heap.size _ (.slice (some ad145) y146.length co9) y146 from Kd.V_mk (by omega) hr10)
        have HC150 := jA.mk (show y146.length ≤ co9 from by omega)
        clear hr10 hC10 hroom10 hi010 hsz10
        have KY10 := jA.mk hy10
        clear hy10
        replace q10 := eq_true q10
        go_wp2
        go_roundg k1
        case measure => have := HK1.out; omega
        case rel => exact ⟨(y146), H', ⟨by have := HK1.out; omega⟩, ⟨(rV_ HO150)⟩, ⟨(bb_ HB)⟩⟩
       ·
        rw [if_neg c8] at H
        exact absurd H (by simp)
      ·
       rw [if_neg c6] at H
       have c6b0 := beq_eq_false_iff_ne.mpr c6
       have c6b1 := bne_iff_ne.mpr c6
       obtain rfl := Option.some.inj H
       obtain ⟨Ao11, co11, eo11⟩ := Kd.zT HO_0.out
       subst eo11
       have p145 : 0 ≤ ((ji3) : Int) := of_decide_eq_true am_
       have q145 : (ji3) < (x0_1.length : Int) := of_decide_eq_true am_
       obtain ⟨ad145, e145, hx145_0⟩ := Kd.zD (Kd.vW HO_0.out).2.2 (ji3) p145 q145
       cases e145
       replace p145 := eq_true p145
       replace q145 := eq_true q145
       go_wp2
       go_ret
       exact ⟨_, by first | rfl | (simp [vM, vL] <;> rfl) | (simp only [← hji3]; first | rfl | (simp [vM, vL] <;> rfl)) | (simp [*, vM, vL] <;> rfl), (rV_ HO_0), (bb_ HB)⟩
     ·
      rw [if_neg c5] at H
      exact absurd H (by simp)
    ·
     rw [if_neg c4] at H
     exact absurd H (by simp)
   ·
    rw [if_neg c2] at H
    have c2b0 := decide_eq_false c2
    have c2b1 : decide (0 < x0_1.length) = false := decide_eq_false (by omega)
    clear c2
    obtain rfl := Option.some.inj H
    obtain ⟨Ao12, co12, eo12⟩ := Kd.zT HO_0.out
    subst eo12
    go_wp2
    go_ret
    exact ⟨_, ew_, (rV_ HO_0), (bb_ HB)⟩

/-- What two stores, into the row and into the carry's block, leave. -/
theorem jBR {w wr : World} {gx gc ga i n cx base : Nat} {vx : Value} {xs : List Int} {c s c' : Int} {ok : Nat → Prop} (h1 : wr.heap[gx]? = some (.cells #[vx] 35 (0, 0))) (h2 : wr.heap[gc]? = some (.cells #[.int .u64 c] 22 (0, 0)))
  (h3 : Kd.R (Kd.int .u64) 22 wr base ok (.slice (some ⟨ga, 0, none⟩) n cx) xs) (h4 : Below w.heap.size w wr) (n1 : gx ≠ ga) (n2 : gc ≠ ga) (n3 : gx ≠ gc) (n4 : w.heap.size ≤ ga) (n5 : w.heap.size ≤ gc) (hok : ∀ k, ok k → k ≠ gc) :
  ((wr.setCell ⟨ga, i, none⟩ (.int .u64 s)).setCell ⟨gc, 0, none⟩ (.int .u64 c')).drew.heap[gx]? = some (.cells #[vx] 35 (0, 0)) ∧ ((wr.setCell ⟨ga, i, none⟩ (.int .u64 s)).setCell ⟨gc, 0, none⟩ (.int .u64 c')).drew.heap[gc]? = some (.cells #[.int .u64 c'] 22 (0, 0)) ∧
  Kd.R (Kd.int .u64) 22 ((wr.setCell ⟨ga, i, none⟩ (.int .u64 s)).setCell ⟨gc, 0, none⟩ (.int .u64 c')).drew base ok (.slice (some ⟨ga, 0, none⟩) n cx) (xs.set i s) ∧ Below w.heap.size w ((wr.setCell ⟨ga, i, none⟩ (.int .u64 s)).setCell ⟨gc, 0, none⟩ (.int .u64 c')).drew := by
 refine ⟨vk (jd (jd h1 n1 _) n3 _), vk (jw (jd h2 n2 _) 0 _ rfl), ?_, ze (zI (zI h4 n4) n5)⟩
 have hp := (Kd.qz h3 (i : Int) s).1
 rw [Int.toNat_natCast] at hp
 exact Kd.zM (Kd.qX hp hok _)
/-- trim of a row of the caller's own: it stays one. -/
theorem jQ.own (k : Nat) (base : Nat) (ok : Nat → Prop) (A0 : Option Addr) (c0 : Nat) (l0 : List Int) (r : List Int) (w : World) (ho : Kd.R (Kd.int .u64) 22 w base ok (.slice A0 l0.length c0) l0) (h : jQ.f k l0 = some r) :
  Calls Try.prog 110 #[.slice A0 l0.length c0] w fun e w' => ∃ v0_ : Value, e = .returned (v0_) ∧ Kd.R (Kd.int .u64) 22 w' base ok v0_ r ∧ Below w.heap.size w w' := by
 have HO0 := jA.mk ho
 clear ho
 have HB := jA.mk (Below.refl w.heap.size w)
 have H' := jA.mk (show (jQ.l0 k l0) = some r from h)
 clear h
 go_enter Try.func110, Try.ntmps110
 go_wp2
 go_loopg [0] k (fun kq v0 w' => ∃ (x0_1 : List Int), jA (jQ.l0 kq x0_1 = some r) ∧ jA (Kd.R (Kd.int .u64) 22 w' base ok v0 x0_1) ∧ jA (Below w.heap.size w w'))
 case atStart => exact ⟨l0, H', HO0, HB⟩
 case round =>
  clear H'
  obtain ⟨x0_1, HA, HO_0, HB⟩ := hrel
  obtain ⟨Ao9, co9, eo9⟩ := Kd.jm HO_0.out
  subst eo9
  cases gk with
  | zero => exact absurd HA.out (by simp [jQ.l0])
  | succ k1 =>
   have H := HA.out
   clear HA
   simp only [jQ.l0] at H
   by_cases c2 : (x0_1.length : Int) > 0
   ·
    rw [if_pos c2] at H
    have c2b0 := decide_eq_true c2
    have c2b1 : decide (0 < x0_1.length) = true := decide_eq_true (by omega)
    clear c2
    obtain ⟨ji3, hji3⟩ : ∃ j_ : Int, (wrap64 ((x0_1.length : Int) - 1)) = j_ := ⟨_, rfl⟩
    rw [hji3] at H
    have hji3w : (IntKind.i64.wrap ((x0_1.length : Int) - 1)) = ji3 := (zF _).trans hji3
    by_cases c4 : 0 ≤ (ji3)
    ·
     rw [if_pos c4] at H
     have c4b0 := decide_eq_true c4
     clear c4
     by_cases c5 : (ji3) < (x0_1.length : Int)
     ·
      rw [if_pos c5] at H
      have c5b0 := decide_eq_true c5
      clear c5
      have p103 : 0 ≤ ((ji3) : Int) := of_decide_eq_true am_
      have q103 : (ji3) < (x0_1.length : Int) := of_decide_eq_true am_
      obtain ⟨ad103, e103, hx103_0⟩ := Kd.zD (Kd.jF HO_0.out).2.2 (ji3) p103 q103
      cases e103
      replace p103 := eq_true p103
      replace q103 := eq_true q103
      by_cases c6 : (rd x0_1 (ji3)) = 0
      ·
       rw [if_pos c6] at H
       have c6b0 := beq_iff_eq.mpr c6
       have c6b1 := bne_eq_false_iff_eq.mpr c6
       clear c6
       have c7b0 := eq_true (of_decide_eq_true am_ : 0 ≤ (ji3))
       by_cases c8 : (ji3) ≤ (x0_1.length : Int)
       ·
        rw [if_pos c8] at H
        have c8b0 := eq_true c8
        have c8b1 := decide_eq_true c8
        clear c8
        obtain ⟨y104, hy104⟩ : ∃ y_ : List Int, y_ = (x0_1.take ((ji3) : Int).toNat) := ⟨_, rfl⟩
        rw [← hy104] at H
        have H' := jA.mk H
        clear H
        have q10 : ((ji3) : Int) ≤ ((x0_1.length : Int) : Int) := of_decide_eq_true am_
        obtain ⟨i010, hi010, _, hsz10, _⟩ := info_parts zw
        have hroom10 : x0_1.length ≤ co9 := (Kd.jF HO_0.out).2.1
        have hcut10 := jGr (P := Try.prog) 35 22 .i64 Try.underlying35 hi010 (some ad103) x0_1.length co9 (ji3) (of_decide_eq_true am_) q10 hroom10
        have hr10 := Kd.jIh (m := ((ji3) : Int).toNat) HO_0.out (by omega)
        have hy10 : y104.length = ((ji3) : Int).toNat := (by rw [hy104, List.length_take]; omega)
        rw [← hy104, ← hy10] at hr10
        rw [← hy10] at hcut10
        have HO108 := jA.mk hr10
        clear hr10 hroom10 hi010 hsz10 hy104
        have KY10 := jA.mk hy10
        clear hy10
        replace q10 := eq_true q10
        go_wp2
        go_roundg k1
        case measure => omega
        case rel => exact ⟨(y104), H', HO108, HB⟩
       ·
        rw [if_neg c8] at H
        exact absurd H (by simp)
      ·
       rw [if_neg c6] at H
       have c6b0 := beq_eq_false_iff_ne.mpr c6
       have c6b1 := bne_iff_ne.mpr c6
       obtain rfl := Option.some.inj H
       go_wp2
       go_ret
       exact ⟨_, rfl, HO_0.out, HB.out⟩
     ·
      rw [if_neg c5] at H
      exact absurd H (by simp)
    ·
     rw [if_neg c4] at H
     exact absurd H (by simp)
   ·
    rw [if_neg c2] at H
    have c2b0 := decide_eq_false c2
    have c2b1 : decide (0 < x0_1.length) = false := decide_eq_false (by omega)
    clear c2
    obtain rfl := Option.some.inj H
    go_wp2
    go_ret
    exact ⟨_, rfl, HO_0.out, HB.out⟩

/-- trim of a row that is only read: its beginning. -/
theorem jQ.read (k : Nat) (A0 : Option Addr) (c0 : Nat) (l0 : List Int) (r : List Int) (w : World) (hr : Kd.C (Kd.int .u64) w A0 l0.length l0) (hc : l0.length ≤ c0) (h : jQ.f k l0 = some r) :
  Calls Try.prog 110 #[.slice A0 l0.length c0] w fun e w' => e = .returned (.slice A0 r.length c0) ∧ r = l0.take r.length ∧ w' = w := by
 have HR0 := jA.mk hr
 have HC0 := jA.mk hc
 clear hr hc
 have H' := jA.mk (show (jQ.l0 k (l0.take l0.length)) = some r from by rw [List.take_length]; exact h)
 clear h
 go_enter Try.func110, Try.ntmps110
 go_wp2
 go_loopg [0] k (fun kq v0 w' => ∃ (m : Nat), v0 = .slice A0 m c0 ∧ m ≤ l0.length ∧ jA (jQ.l0 kq (l0.take m) = some r) ∧ w = w')
 case atStart => exact ⟨_, rfl, Nat.le_refl _, H', rfl⟩
 case round =>
  clear H'
  obtain ⟨m, rfl, hm, HA, rfl⟩ := hrel
  have hlen : (l0.take m).length = m := by rw [List.length_take]; omega
  cases gk with
  | zero => exact absurd HA.out (by simp [jQ.l0])
  | succ k1 =>
   have H := HA.out
   clear HA
   simp only [jQ.l0, hlen] at H
   have HM := jA.mk hm
   have HL := jA.mk hlen
   clear hlen
   by_cases c2 : (m : Int) > 0
   ·
    rw [if_pos c2] at H
    have c2b0 := decide_eq_true c2
    have c2b1 : decide (0 < m) = true := decide_eq_true (by omega)
    have hmb : (m : Int) ≤ 9223372036854775807 := by have := HR0.out.2.1; omega
    obtain ⟨ji3, hji3⟩ : ∃ j_ : Int, (wrap64 ((m : Int) - 1)) = j_ := ⟨_, rfl⟩
    rw [hji3] at H
    have hjm : ji3 = (m : Int) - 1 := by rw [← hji3]; unfold wrap64; omega
    have hji3w : (IntKind.i64.wrap ((m : Int) - 1)) = ji3 := (zF _).trans hji3
    rw [if_pos (by omega), if_pos (by omega)] at H
    have hrd : rd (l0.take m) ji3 = rd l0 ji3 := by
     unfold rd
     rw [List.getD_eq_getElem?_getD, List.getD_eq_getElem?_getD, List.getElem?_take_of_lt (by omega)]
    rw [hrd] at H
    have p103 : 0 ≤ ji3 := by omega
    have q103 : ji3 < (m : Int) := by omega
    obtain ⟨ad103, e103, hx103_0⟩ := Kd.zD HR0.out ji3 p103 (by omega)
    cases e103
    have HJ := jA.mk hjm
    clear hjm hrd hm c2
    by_cases c6 : (rd l0 ji3) = 0
    ·
     rw [if_pos c6, if_pos (by omega)] at H
     have c6b0 := beq_iff_eq.mpr c6
     have c6b1 := bne_eq_false_iff_eq.mpr c6
     clear c6
     obtain ⟨i010, hi010, _, hsz10, _⟩ := info_parts zw
     have hcut10 := jGr (P := Try.prog) 35 22 .i64 Try.underlying35 hi010 (some ad103) m c0 ji3 p103 (by omega) (by have := HM.out; have := HC0.out; omega)
     have H' := jA.mk (show jQ.l0 k1 (l0.take ji3.toNat) = some r from by rw [List.take_take, Nat.min_eq_left (by omega)] at H; exact H)
     clear H hi010 hsz10 hmb
     replace p103 := eq_true p103
     replace q103 := eq_true q103
     go_wp2
     go_roundg k1
     case measure => omega
     case rel => exact ⟨ji3.toNat, rfl, by have := HJ.out; have := HM.out; omega, H', rfl⟩
    ·
     rw [if_neg c6] at H
     have c6b0 := beq_eq_false_iff_ne.mpr c6
     have c6b1 := bne_iff_ne.mpr c6
     have HE := jA.mk (Option.some.inj H)
     clear H hmb
     replace p103 := eq_true p103
     replace q103 := eq_true q103
     go_wp2
     go_ret
     refine ⟨?_, ?_, rfl⟩
     ·
      rw [← HE.out, HL.out]; rfl
     ·
      rw [← HE.out, HL.out]
   ·
    rw [if_neg c2] at H
    have c2b0 := decide_eq_false c2
    have c2b1 : decide (0 < m) = false := decide_eq_false (by omega)
    have HE := jA.mk (Option.some.inj H)
    clear c2 H hm
    go_wp2
    go_ret
    refine ⟨?_, ?_, rfl⟩
    ·
     rw [← HE.out, HL.out]; rfl
    ·
     rw [← HE.out, HL.out]

/-! ### je: function 116 -/

def je.f (l0 : List Int) : Option (List Int) := if l0.length < 17592186044416 then some l0 else none
theorem je.calls (A0 : Option Addr) (c0 : Nat) (l0 : List Int) (r : List Int) (w : World) (hr0 : Kd.C (Kd.int .u64) w A0 l0.length l0) (hc0 : l0.length ≤ c0) (h : je.f l0 = some r) :
  Calls Try.prog 116 #[.slice A0 l0.length c0] w fun e w' => ∃ v0_ : Value, e = .returned (v0_) ∧ Kd.R (Kd.int .u64) 22 w' w.heap.size (fun _ => True) v0_ r ∧ Below w.heap.size w w' := by
 have HR0 := jA.mk hr0
 have HC0 := jA.mk hc0
 clear hr0 hc0
 unfold je.f at h
 by_cases hl : l0.length < 17592186044416
 ·
  rw [if_pos hl] at h
  obtain rfl := Option.some.inj h
  clear h
  have HL := jA.mk hl
  clear hl
  have qq : ∀ (w : World) (a : Option Addr) (n c n' c' : Nat), (binOp .eql 35 (.slice a n c) (.slice none n' c')).run Try.prog w = .ok (.bool a.isNone) w := fun w a n c n' c' => Lib.run_eql_slice_nil w _ _ a n c n' c' Try.underlying35
  cases A0 with
  | none =>
   have hlen : l0 = [] := by
    by_cases hp : 0 < l0.length
    ·
     obtain ⟨ad, e, _⟩ := HR0.out.2.2 hp
     cases e
    ·
     exact List.eq_nil_of_length_eq_zero (by omega)
   subst hlen
   go_enter Try.func116, Try.ntmps116
   go_wp2
   go_ret
   exact ⟨_, rfl, Kd.jCA _ _ _ _ _, Below.refl _ _⟩
  | some ad =>
   have HO : jA (∀ W : World, Kd.R (Kd.int .u64) 22 (W.alloc (.cells #[] 22)) W.heap.size (fun _ => True) (.slice (some ⟨W.heap.size, 0, none⟩) 0 0) []) := ⟨fun W => Kd.jCO (World.ownsRow_made W #[] 0 (Nat.le_refl _) (Nat.zero_le _) rfl) (fun _ _ => trivial)⟩
   go_enter Try.func116, Try.ntmps116
   go_wp2_with ((with_reducible refine vU (b := .append) (xs := #[.tmp 5, .tmp 6]) rfl ?_); at_builtin; refine Kd.jAg (Kd.int .u64) (w0 := w) w.heap.size rfl (.tmp 5) (.tmp 6) 35 22 (.int .u64 0) 8 rfl Try.underlying35 zw rfl (by decide) (by omega) _ [] l0 _ _ _ (fun _ => True) (fun _ => False) rfl rfl ?aO ?aR (fun _ _ h => h) (fun _ h => h.elim) ?aF ?aB ?aS ?aL ?_)
   case aO => exact HO.out w
   case aR => exact Kd.zh HR0.out _
   case aF => exact fun _ _ => trivial
   case aB => exact jy (Below.refl _ _) _
   case aS => simp
   case aL => have := HL.out; simp; omega
   intro v1 w1 ho hb hg hat
   clear hg hat
   have HO1 := jA.mk ho
   have HB := jA.mk hb
   clear ho hb
   go_wp2
   go_ret
   exact ⟨_, rfl, by simpa using HO1.out, HB.out⟩
 ·
  rw [if_neg hl] at h
  exact absurd h (by simp)

/-! ### vX: function 96 -/
def vX.f (k : Nat) (l0 : List Int) : Option (List Int) := (jQ.f k l0).bind fun t151 => ((je.f t151).bind fun t154 => (some t154))
theorem vX.mono : ∀ a0 k, LeO (vX.f k a0) (vX.f (k + 1) a0) := by
 intro a0 k
 unfold vX.f
 repeat' first
   | (with_reducible exact jQ.mono _ _)
   | (with_reducible exact LeO.refl _)
   | (with_reducible exact LeO.none _)
   | (with_reducible refine LeO.ite ?_ ?_)
   | (with_reducible refine LeO.bind ?_ (fun _ => ?_))
theorem vX.calls (k : Nat) (A0 : Option Addr) (c0 : Nat) (l0 : List Int) (r : List Int) (w : World) (hr0 : Kd.C (Kd.int .u64) w A0 l0.length l0) (hc0 : l0.length ≤ c0) (h : vX.f k l0 = some r) :
  Calls Try.prog 96 #[.slice A0 l0.length c0] w fun e w' => ∃ v0_ : Value, e = .returned (v0_) ∧ Kd.R (Kd.int .u64) 22 w' w.heap.size (fun _ => True) v0_ r ∧ Below w.heap.size w w' := by
 have HR0 := jA.mk hr0
 have HC0 := jA.mk hc0
 clear hr0 hc0
 have HB := jA.mk (Below.refl w.heap.size w)
 have H : ((jQ.f k l0).bind fun t151 => ((je.f t151).bind fun t154 => (some t154))) = some r := h
 clear h
 replace H := ob_ H
 obtain ⟨t151, A20, H⟩ := H
 try dsimp only at H
 have A2 := jA.mk A20
 clear A20
 replace H := ob_ H
 obtain ⟨t154, A30, H⟩ := H
 replace H : (some t154) = some r := H
 have A3 := jA.mk A30
 clear A30
 obtain rfl := Option.some.inj H
 go_enter Try.func96, Try.ntmps96
 go_wp2_with (first | ((with_reducible refine jG (f := 110) rfl ?_); refine jo (some 4) rfl rfl Try.func110 kr_ rfl #[.slice A0 l0.length c0] rfl mt_ ?_; (with_reducible refine (jQ.calls k (fun k_ => k_ < w.heap.size) _ _ l0 t151 _ ?side1 A2.out).mono ?_); (case side1 => exact Kd.V_mk HC0.out (Kd.zX (Kd.C_F (Kd.zQ .u64) HR0.out) (bb_ HB))); rintro e w4 ⟨v152, rfl, ho0, hb⟩; refine ⟨_, rfl, ?_⟩; have HO153 := jA.mk (Kd.zq (Kd.zV (ok' := fun k_ => True) ho0 (fun k_ hk_ => trivial)) (jB (bb_ HB))); replace HB := bs_ HB hb; obtain ⟨Ao5, co5, eo5⟩ := Kd.zT HO153.out; subst eo5) | ((with_reducible refine jG (f := 116) rfl ?_); refine jo (some 5) rfl rfl Try.func116 kr_ rfl #[.slice Ao5 t151.length co5] rfl mt_ ?_; (with_reducible refine (je.calls _ _ t151 t154 _ ?side1 ?side2 A3.out).mono ?_); (case side1 => repeat (first | exact (Kd.vW HO153.out).2.2 | (with_reducible refine Kd.zh ?_ _) | (with_reducible refine Kd.zu ?_ _) | (with_reducible refine Kd.qW ?_))); (case side2 => exact (Kd.vW HO153.out).2.1); rintro e w6 ⟨v155, rfl, ho0, hb⟩; refine ⟨_, rfl, ?_⟩; replace HO153 := jA.mk (Kd.qg (rV_ HO153) (Kd.zf ho0) hb); have HO156 := jA.mk (Kd.jU ho0 (jB (bb_ HB))); replace HB := bs_ HB hb))
 go_ret
 exact ⟨_, ew_, (rR_ HO156), (bb_ HB)⟩

/-! ### bits_LeadingZeros64: function 99 -/
def bits_LeadingZeros64.f (a0 : Int) : Option (Int) := (bits_Len64.f a0).bind fun t157 => (some (wrap64 (64 - t157)))
theorem bits_LeadingZeros64.calls (a0 : Int) (r : Int) (w : World) (h : bits_LeadingZeros64.f a0 = some r) :
  Calls Try.prog 99 #[.int .u64 a0] w fun e w' => e = .returned (.int .i64 r) ∧ Below w.heap.size w w' := by
 have HB := jA.mk (Below.refl w.heap.size w)
 have H : ((bits_Len64.f a0).bind fun t157 => (some (wrap64 (64 - t157)))) = some r := h
 clear h
 replace H := ob_ H
 obtain ⟨t157, A20, H⟩ := H
 try dsimp only at H
 have A2 := jA.mk A20
 clear A20
 obtain rfl := Option.some.inj H
 go_enter Try.func99, Try.ntmps99
 go_wp2_with (first | ((with_reducible refine jG (f := 57) rfl ?_); refine jo (some 4) rfl rfl Try.func57 kr_ rfl #[.int .u64 a0] rfl mt_ ?_; (with_reducible refine (bits_Len64.calls a0 t157 _ A2.out).mono ?_); rintro e w3 ⟨rfl, hb⟩; refine ⟨_, rfl, ?_⟩; replace HB := bs_ HB hb))
 go_ret
 exact ⟨ew_, (bb_ HB)⟩

end Go.Proofs.Ytijgeonhbmgikaa.POOctetGets
