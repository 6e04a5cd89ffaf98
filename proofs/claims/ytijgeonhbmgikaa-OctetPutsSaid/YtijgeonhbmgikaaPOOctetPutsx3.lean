-- printed (pr.py)
import Derived.Test.YtijgeonhbmgikaaPOOctetPutsx0
import Derived.Test.YtijgeonhbmgikaaPOOctetPutsx2
namespace Go.Proofs.Ytijgeonhbmgikaa.POOctetPuts
open Go.RowKit Go.Proofs.YtijgeonhbmgikaaN Go.Proofs.YtijgeonhbmgikaaW.PrintWords Go.Proofs.YtijgeonhbmgikaaW.PrintLast Go.Proofs.YtijgeonhbmgikaaW.PrintMore
attribute [local go_sem] qE qC qP qO ze za qD qA
set_option maxHeartbeats 8000000
set_option maxRecDepth 100000
set_option linter.unusedVariables false
set_option linter.unusedSimpArgs false

/-! ### jN: function 33 -/
def jN.l0 : Nat → Int → Int → Int → Option (ByteArray)
 | 0, _, _, _ => none
 | k + 1, x0, x3, x4 => if x4 > 0 then (jN.l0 k x0 (wrap64 (x3 + 1)) (IntKind.u64.wrap (Int.tdiv x4 256))) else ((some (([(x3) % 256] : List Int) : List Int)).bind fun y124 => ((jP.f k x0 x3).bind fun t127 => (if (strOfNums y124).size + t127.size ≤ 9223372036854775807 then (some ((strOfNums y124) ++ t127)) else (none))))
def jN.f (k : Nat) (a0 : Int) : Option (ByteArray) := jN.l0 k a0 0 a0
theorem jN.vJ : ∀ k, (∀ y0 y1 y2, LeO (jN.l0 k y0 y1 y2) (jN.l0 (k + 1) y0 y1 y2))
 | 0 => fun _ _ _ r h => by simp [jN.l0] at h
 | k + 1 => by
  have ih0 := jN.vJ k
  ·
   intro y0 y1 y2
   unfold jN.l0
   repeat' first
   | (with_reducible exact ih0 _ _ _)
   | (with_reducible exact jP.mono _ _ _)
   | (with_reducible exact LeO.refl _)
   | (with_reducible exact LeO.none _)
   | (with_reducible refine LeO.ite ?_ ?_)
   | (with_reducible refine LeO.bind ?_ (fun _ => ?_))
theorem jN.mono : ∀ a0 k, LeO (jN.f k a0) (jN.f (k + 1) a0) := by
 intro a0 k
 have ih0 := jN.vJ k
 unfold jN.f
 repeat' first
   | (with_reducible exact ih0 _ _ _)
   | (with_reducible exact jP.mono _ _ _)
   | (with_reducible exact LeO.refl _)
   | (with_reducible exact LeO.none _)
   | (with_reducible refine LeO.ite ?_ ?_)
   | (with_reducible refine LeO.bind ?_ (fun _ => ?_))
def jN.T6 : Bool × List (List Nat × List Nat) := (true, [([], []), ([0], [0]), ([1], [1]), ([2], [2]), ([], []), ([], []), ([4, 5], [4, 5]), ([3, 6], [3, 6]), ([7, 6, 0, 1, 2, 3, 4, 5, 6, 7], [7])])
def jN.B6 : List Nat := [0, 1, 3, 7, 0, 0, 48, 127, 255]
theorem jN.tab6 : rtab .any (opsOf Try.f33 6) = jN.T6 := by kernel_rfl
theorem jN.jId : jAY jN.T6.2 jN.B6 = true := by kernel_rfl
theorem jN.calls (k : Nat) (a0 : Int) (r : ByteArray) (w : World) (h : jN.f k a0 = some r) :
  Calls Try.prog 33 #[.int .u64 a0] w fun e w' => e = .returned (.string r) ∧ Below w.heap.size w w' := by
 have HB := jA.mk (Below.refl w.heap.size w)
 have H : (jN.l0 k a0 0 a0) = some r := h
 clear h
 have H' := jA.mk H
 clear H
 go_enter Try.func33, Try.ntmps33
 go_wp2
 go_loopg [3, 4] k (fun kq v3 v4 w' => ∃ (x3_1 : Int) (x4_1 : Int), v3 = .int .i64 x3_1 ∧ v4 = .int .u64 x4_1 ∧ jA (jN.l0 kq a0 x3_1 x4_1 = some r) ∧ jA (kq ≤ k) ∧ jA (Below w.heap.size w w'))
 case atStart => exact ⟨(0), (a0), sd_, sd_, H', ⟨Nat.le_refl _⟩, ⟨(bb_ HB)⟩⟩
 case round =>
  clear H'
  obtain ⟨x3_1, x4_1, rfl, rfl, HA, HK1, HB⟩ := hrel
  cases gk with
  | zero => exact absurd HA.out (by simp [jN.l0])
  | succ k1 =>
   have H := HA.out
   clear HA
   simp only [jN.l0] at H
   by_cases c2 : x4_1 > 0
   ·
    rw [if_pos c2] at H
    have c2b0 := decide_eq_true c2
    clear c2
    have H' := jA.mk H
    clear H
    go_wp2
    go_roundg k1
    case measure => have := HK1.out; omega
    case rel => exact ⟨(wrap64 (x3_1 + 1)), (IntKind.u64.wrap (Int.tdiv x4_1 256)), sd_, sd_, H', ⟨by have := HK1.out; omega⟩, ⟨(bb_ HB)⟩⟩
   ·
    rw [if_neg c2] at H
    have c2b0 := decide_eq_false c2
    clear c2
    obtain ⟨y124, hy124⟩ : ∃ y_ : List Int, y_ = (([(x3_1) % 256] : List Int)) := ⟨_, rfl⟩
    replace H : ((jP.f k1 a0 x3_1).bind fun t127 => (if (strOfNums y124).size + t127.size ≤ 9223372036854775807 then (some ((strOfNums y124) ++ t127)) else (none))) = some r := by first | (rw [hy124]; with_reducible exact H) | (have H2_ := (Option.bind_some _ _).symm.trans H; rw [hy124]; with_reducible exact H2_) | (with_reducible exact hs_ H) | with_reducible exact H | (rw [hy124]; exact H) | exact H
    have Ny124 := jA.mk hy124
    clear hy124
    replace H := ob_ H
    obtain ⟨t127, A30, H⟩ := H
    try dsimp only at H
    have A3 := jA.mk A30
    clear A30
    by_cases c4 : (strOfNums y124).size + t127.size ≤ 9223372036854775807
    ·
     rw [if_pos c4] at H
     have c4b0 := eq_true c4
     have c4b1 := decide_eq_true c4
     try have c4b2 : (9223372036854775807 < (strOfNums y124).size + t127.size) = False := eq_false (Nat.not_lt.2 c4)
     obtain rfl := Option.some.inj H
     try go_wp2
     have n0_ := jA.mk (zy HB.out)
     clear HB
     have HB := n0_
     clear n0_
     refine jAi (n := 9) (S := fun w' => True) (ds := []) #[false, false, false, false, false, false, false, false, false] kr_ rfl rfl trivial (fun hHeld => ?_); refine jAJ jN.tab6 jN.jId (fun HT_ HW_ => ?_)
     generalize wr.drew = w5 at HB hHeld ⊢
     refine pu_ 0 (some 12) (ba_ 9 1) (vO HT_.out kr_) ?_
     refine pu_ 1 (some 13) (ba_ 9 3) (vO HT_.out kr_) ?_
     refine pu_ 4 (some 16) (ba_ 9 19) (vO HT_.out kr_) ?_
     refine pu_ 5 (some 17) (ba_ 9 51) (vO HT_.out kr_) ?_
     refine jHC (σ := Value) 2 #[true, true, true, true, true, true, true, false, false] (fun s_ => [(14, s_), (15, .string (strOfNums y124)), (18, .string t127)]) (fun s_ w' => (Kd.R (Kd.int .u8) 5 w' w.heap.size (fun _ => True) s_ y124) ∧ (Below w.heap.size w w')) ?_ ?_
     rotate_left
     ·
      intro hCont
      refine two_ (i := 2) (j := 6) (Ni := some 14) (Nj := some 18) (ba_ 9 55) (ba_ 9 115) rfl rfl rfl rfl (jBe HT_.out kr_) (by decide) (by decide) (fun K hK => ?_) (fun K hK => ?_)
      ·
       skip
       refine Kd.zk (Kd.int .u8) _ 5 ?hg (N := 14) ?hd (xs := ([(x3_1) % 256] : List Int)) (inner := [.int .u8 ((x3_1) % 256)]) (ok := fun _ => True) (okp := fun _ => True) ?hr ?hp (fun _ hk => hk) trivial (Below.refl _ _) (Nat.le_refl _) (by simp) ?_; (case hd => rfl); (case hg => rfl); (case hr => exact gs_); (case hp => exact (Reps.one (show Kd.M (Kd.int .u8) _ _ _ ((x3_1) % 256) [.int .u8 ((x3_1) % 256)] from rfl) (Reps.none _ _)))
       intro v125 w6 ho7 hb hg_ hnew_
       clear hg_ hnew_
       (first | rw [← Ny124.out] at ho7 | (simp only [Int.reduceToNat] at ho7; rw [← Ny124.out] at ho7))
       have n0_ := jA.mk (Kd.jZ ho7 (jB (bb_ HB)))
       have n1_ := bs_ HB hb
       clear HB
       have HO126 := n0_
       have HB := n1_
       clear n0_ n1_
       clear hb ho7
       refine hK.out _ _ trivial (fun hHeld => ?_)
       clear hK K
       refine zY (a' := ?_) ?_ ?_
       rotate_left
       ·
        show Act.put _ (some 14) _ = _
        simp only [Act.put, ss_, vY, zQ]
        rfl
       refine two_ (i := 3) (j := 6) (Ni := some 15) (Nj := some 18) (ba_ 9 63) (ba_ 9 119) rfl rfl rfl rfl (jBe HT_.out kr_) (by decide) (by decide) (fun K hK => ?_) (fun K hK => ?_)
       ·
        skip
        have hcv8 := qN (P := Try.prog) Try.underlying60 Try.underlying5 Try.underlying9 (Kd.qd HO126.out)
        refine jBw (w1 := ?_) (v := ?_) (by rfl) rfl ?_ ?_
        rotate_left 2
        ·
         go_simp
         constructor
         ·
          rfl
         ·
          rfl
        clear hcv8
        refine hK.out _ _ trivial (fun hHeld => ?_)
        clear hK K
        refine zY (a' := ?_) ?_ ?_
        rotate_left
        ·
         show Act.put _ (some 15) _ = _
         simp only [Act.put, ss_, vY, zQ]
         rfl
        refine one_ (i := 6) (N := some 18) (ba_ 9 127) rfl rfl (qK HT_.out kr_) (by decide) (fun K hK => ?_)
        refine jAw Try.func75 kr_ rfl #[.int .u64 a0, .int .i64 x3_1] (by rfl) rfl rfl (by (try simp only [List.map_toArray, List.map_cons, List.map_nil]); first | done | rfl | (simp only [List.length_drop, List.length_take]; rfl)) ?_
        with_reducible refine (jP.calls k1 a0 x3_1 t127 _ A3.out).mono ?_
        rintro e w9 ⟨rfl, hb⟩
        refine ⟨_, rfl, ?_⟩
        have n0_ := ro_ HO126 hb
        have n1_ := bs_ HB hb
        clear HO126
        clear HB
        have HO126 := n0_
        have HB := n1_
        clear n0_ n1_
        (try clear hb)
        (try clear hb2)
        (try clear hk)
        (try clear hi)
        refine hK.out _ _ trivial (fun hHeld => ?_)
        clear hK K
        refine zY (a' := ?_) ?_ ?_
        rotate_left
        ·
         show Act.put _ (some 18) _ = _
         simp only [Act.put, ss_, vY, zQ]
         rfl
        exact zY (by simp only [qz, Act.put, ss_]) (hCont (v125) _ ⟨(rR_ HO126), (bb_ HB)⟩)
       ·
        skip
        refine jAw Try.func75 kr_ rfl #[.int .u64 a0, .int .i64 x3_1] (by rfl) rfl rfl (by (try simp only [List.map_toArray, List.map_cons, List.map_nil]); first | done | rfl | (simp only [List.length_drop, List.length_take]; rfl)) ?_
        with_reducible refine (jP.calls k1 a0 x3_1 t127 _ A3.out).mono ?_
        rintro e w8 ⟨rfl, hb⟩
        refine ⟨_, rfl, ?_⟩
        have n0_ := ro_ HO126 hb
        have n1_ := bs_ HB hb
        clear HO126
        clear HB
        have HO126 := n0_
        have HB := n1_
        clear n0_ n1_
        (try clear hb)
        (try clear hb2)
        (try clear hk)
        (try clear hi)
        refine hK.out _ _ trivial (fun hHeld => ?_)
        clear hK K
        refine zY (a' := ?_) ?_ ?_
        rotate_left
        ·
         show Act.put _ (some 18) _ = _
         simp only [Act.put, ss_, vY, zQ]
         rfl
        refine one_ (i := 3) (N := some 15) (ba_ 9 127) rfl rfl (qK HT_.out kr_) (by decide) (fun K hK => ?_)
        have hcv9 := qN (P := Try.prog) Try.underlying60 Try.underlying5 Try.underlying9 (Kd.qd HO126.out)
        refine jBw (w1 := ?_) (v := ?_) (by rfl) rfl ?_ ?_
        rotate_left 2
        ·
         go_simp
         constructor
         ·
          rfl
         ·
          rfl
        clear hcv9
        refine hK.out _ _ trivial (fun hHeld => ?_)
        clear hK K
        refine zY (a' := ?_) ?_ ?_
        rotate_left
        ·
         show Act.put _ (some 15) _ = _
         simp only [Act.put, ss_, vY, zQ]
         rfl
        exact zY (by simp only [qz, Act.put, ss_]) (hCont (v125) _ ⟨(rR_ HO126), (bb_ HB)⟩)
      ·
       skip
       refine jAw Try.func75 kr_ rfl #[.int .u64 a0, .int .i64 x3_1] (by rfl) rfl rfl (by (try simp only [List.map_toArray, List.map_cons, List.map_nil]); first | done | rfl | (simp only [List.length_drop, List.length_take]; rfl)) ?_
       with_reducible refine (jP.calls k1 a0 x3_1 t127 _ A3.out).mono ?_
       rintro e w6 ⟨rfl, hb⟩
       refine ⟨_, rfl, ?_⟩
       have n0_ := bs_ HB hb
       clear HB
       have HB := n0_
       clear n0_
       (try clear hb)
       (try clear hb2)
       (try clear hk)
       (try clear hi)
       refine hK.out _ _ trivial (fun hHeld => ?_)
       clear hK K
       refine zY (a' := ?_) ?_ ?_
       rotate_left
       ·
        show Act.put _ (some 18) _ = _
        simp only [Act.put, ss_, vY, zQ]
        rfl
       refine one_ (i := 2) (N := some 14) (ba_ 9 119) rfl rfl (qK HT_.out kr_) (by decide) (fun K hK => ?_)
       refine Kd.zk (Kd.int .u8) _ 5 ?hg (N := 14) ?hd (xs := ([(x3_1) % 256] : List Int)) (inner := [.int .u8 ((x3_1) % 256)]) (ok := fun _ => True) (okp := fun _ => True) ?hr ?hp (fun _ hk => hk) trivial (Below.refl _ _) (Nat.le_refl _) (by simp) ?_; (case hd => rfl); (case hg => rfl); (case hr => exact gs_); (case hp => exact (Reps.one (show Kd.M (Kd.int .u8) _ _ _ ((x3_1) % 256) [.int .u8 ((x3_1) % 256)] from rfl) (Reps.none _ _)))
       intro v125 w7 ho8 hb hg_ hnew_
       clear hg_ hnew_
       (first | rw [← Ny124.out] at ho8 | (simp only [Int.reduceToNat] at ho8; rw [← Ny124.out] at ho8))
       have n0_ := jA.mk (Kd.jZ ho8 (jB (bb_ HB)))
       have n1_ := bs_ HB hb
       clear HB
       have HO126 := n0_
       have HB := n1_
       clear n0_ n1_
       clear hb ho8
       refine hK.out _ _ trivial (fun hHeld => ?_)
       clear hK K
       refine zY (a' := ?_) ?_ ?_
       rotate_left
       ·
        show Act.put _ (some 14) _ = _
        simp only [Act.put, ss_, vY, zQ]
        rfl
       refine one_ (i := 3) (N := some 15) (ba_ 9 127) rfl rfl (qK HT_.out kr_) (by decide) (fun K hK => ?_)
       have hcv9 := qN (P := Try.prog) Try.underlying60 Try.underlying5 Try.underlying9 (Kd.qd HO126.out)
       refine jBw (w1 := ?_) (v := ?_) (by rfl) rfl ?_ ?_
       rotate_left 2
       ·
        go_simp
        constructor
        ·
         rfl
        ·
         rfl
       clear hcv9
       refine hK.out _ _ trivial (fun hHeld => ?_)
       clear hK K
       refine zY (a' := ?_) ?_ ?_
       rotate_left
       ·
        show Act.put _ (some 15) _ = _
        simp only [Act.put, ss_, vY, zQ]
        rfl
       exact zY (by simp only [qz, Act.put, ss_]) (hCont (v125) _ ⟨(rR_ HO126), (bb_ HB)⟩)
     rintro v125 w10 ⟨h0_, h1_⟩
     have n0_ : jA (Kd.R (Kd.int .u8) 5 w10 w.heap.size (fun _ => True) v125 y124) := ⟨h0_⟩
     have n1_ : jA (Below w.heap.size w w10) := ⟨h1_⟩
     clear HB
     clear h0_ h1_
     have HO126 := n0_
     have HB := n1_
     clear n0_ n1_
     have hHeld := trivial
     refine zY (a' := ?_) ?_ ?_
     rotate_left
     ·
      simp only [qz, Act.put, ss_]
      rfl
     refine pu_ 7 (some 19) (ba_ 9 255) (vO HT_.out kr_) ?_
     refine pu_ 8 (some 2) (ba_ 9 511) (vO HT_.out kr_) ?_
     refine jBc (jAx HT_.out kr_) ?_
     try go_wp2
     go_ret
     exact ⟨ew_, (bb_ HB)⟩
    ·
     rw [if_neg c4] at H
     exact absurd H (by simp)

/-! ### je: function 74 -/
def je.f (l0 : List Int) : Option (Bool) := if (l0.length : Int) ≤ 8 then (if (l0.length : Int) = 0 then (some true) else (if 0 ≤ (wrap64 ((l0.length : Int) - 1)) then (if (wrap64 ((l0.length : Int) - 1)) < (l0.length : Int) then (some ((rd l0 (wrap64 ((l0.length : Int) - 1))) != 0)) else (none)) else (none))) else (some false)
theorem je.calls (A0 : Option Addr) (c0 : Nat) (l0 : List Int) (r : Bool) (w : World) (hr0 : Kd.C (Kd.int .u64) w A0 l0.length l0) (hc0 : l0.length ≤ c0) (h : je.f l0 = some r) :
  Calls Try.prog 74 #[.slice A0 l0.length c0] w fun e w' => e = .returned (.bool r) ∧ zH w w' := by
 have HR0 := jA.mk hr0
 have HC0 := jA.mk hc0
 clear hr0 hc0
 have H : (if (l0.length : Int) ≤ 8 then (if (l0.length : Int) = 0 then (some true) else (if 0 ≤ (wrap64 ((l0.length : Int) - 1)) then (if (wrap64 ((l0.length : Int) - 1)) < (l0.length : Int) then (some ((rd l0 (wrap64 ((l0.length : Int) - 1))) != 0)) else (none)) else (none))) else (some false)) = some r := h
 clear h
 by_cases c2 : (l0.length : Int) ≤ 8
 ·
  rw [if_pos c2] at H
  have c2b0 := decide_eq_true c2
  have c2b1 : decide (l0.length ≤ 8) = true := decide_eq_true (by omega)
  clear c2
  by_cases c3 : (l0.length : Int) = 0
  ·
   rw [if_pos c3] at H
   have c3b0 := beq_iff_eq.mpr c3
   have c3b1 := bne_eq_false_iff_eq.mpr c3
   clear c3
   obtain rfl := Option.some.inj H
   go_enter Try.func74, Try.ntmps74
   go_wp2
   go_ret
   exact ⟨by first | rfl | (simp; done) | (simp [*]; done), by repeat (first | exact zH.refl _ | apply zH.step)⟩
  ·
   rw [if_neg c3] at H
   have c3b0 := beq_eq_false_iff_ne.mpr c3
   have c3b1 := bne_iff_ne.mpr c3
   have c3b2 : ¬ (l0 = []) := fun h_ => c3 (by rw [h_]; rfl)
   obtain ⟨ji4, hji4⟩ : ∃ j_ : Int, (wrap64 ((l0.length : Int) - 1)) = j_ := ⟨_, rfl⟩
   replace H : (if 0 ≤ (ji4) then (if (ji4) < (l0.length : Int) then (some ((rd l0 (ji4)) != 0)) else (none)) else (none)) = some r := by first | (rw [hji4] at H; exact H) | (simp only [hji4] at H ⊢; exact H)
   have hji4w : (IntKind.i64.wrap ((l0.length : Int) - 1)) = ji4 := (vY _).trans hji4
   by_cases c5 : 0 ≤ (ji4)
   ·
    rw [if_pos c5] at H
    have c5b0 := decide_eq_true c5
    clear c5
    by_cases c6 : (ji4) < (l0.length : Int)
    ·
     rw [if_pos c6] at H
     have c6b0 := decide_eq_true c6
     clear c6
     obtain rfl := Option.some.inj H
     have p128 : 0 ≤ ((ji4) : Int) := of_decide_eq_true am_
     have q128 : (ji4) < (l0.length : Int) := of_decide_eq_true am_
     obtain ⟨ad128, e128, hx128_0⟩ := Kd.vW HR0.out (ji4) p128 q128
     cases e128
     replace p128 := eq_true p128
     replace q128 := eq_true q128
     go_enter Try.func74, Try.ntmps74
     go_wp2
     go_ret
     exact ⟨by first | rfl | (simp; done) | (simp only [← hji4] <;> (first | rfl | simp)) | (simp [*]; done), by repeat (first | exact zH.refl _ | apply zH.step)⟩
    ·
     rw [if_neg c6] at H
     exact absurd H (by simp)
   ·
    rw [if_neg c5] at H
    exact absurd H (by simp)
 ·
  rw [if_neg c2] at H
  have c2b0 := decide_eq_false c2
  have c2b1 : decide (l0.length ≤ 8) = false := decide_eq_false (by omega)
  clear c2
  obtain rfl := Option.some.inj H
  go_enter Try.func74, Try.ntmps74
  go_wp2
  go_ret
  exact ⟨by first | rfl | (simp; done) | (simp [*]; done), by repeat (first | exact zH.refl _ | apply zH.step)⟩

/-! ### jJ: function 30 -/
def jJ.l0 : Nat → List Int → ByteArray → Int → Option (ByteArray × Int)
 | 0, _, _, _ => none
 | k + 1, x0, x4, x5 => if x5 ≥ 0 then (if 0 ≤ x5 then (if x5 < (x0.length : Int) then ((jP.f k (rd x0 x5) 8).bind fun t132 => (if x4.size + t132.size ≤ 9223372036854775807 then (jJ.l0 k x0 (x4 ++ t132) (wrap64 (x5 - 1))) else (none))) else (none)) else (none)) else (some (x4, 0))
def jJ.f (k : Nat) (l0 : List Int) : Option (ByteArray × Int) := (je.f l0).bind fun t129 => (if t129 = true then ((jN.f k (IntKind.u64.wrap ((l0.length : Int)))).bind fun t130 => (jJ.l0 k l0 t130 (wrap64 ((l0.length : Int) - 1)))) else (some ((⟨#[]⟩ : ByteArray), 1)))
theorem jJ.vJ : ∀ k, (∀ y0 y1 y2, LeO (jJ.l0 k y0 y1 y2) (jJ.l0 (k + 1) y0 y1 y2))
 | 0 => fun _ _ _ r h => by simp [jJ.l0] at h
 | k + 1 => by
  have ih0 := jJ.vJ k
  ·
   intro y0 y1 y2
   unfold jJ.l0
   repeat' first
   | (with_reducible exact ih0 _ _ _)
   | (with_reducible exact jN.mono _ _)
   | (with_reducible exact jP.mono _ _ _)
   | (with_reducible exact LeO.refl _)
   | (with_reducible exact LeO.none _)
   | (with_reducible refine LeO.ite ?_ ?_)
   | (with_reducible refine LeO.bind ?_ (fun _ => ?_))
theorem jJ.mono : ∀ a0 k, LeO (jJ.f k a0) (jJ.f (k + 1) a0) := by
 intro a0 k
 have ih0 := jJ.vJ k
 unfold jJ.f
 repeat' first
   | (with_reducible exact ih0 _ _ _)
   | (with_reducible exact jN.mono _ _)
   | (with_reducible exact jP.mono _ _ _)
   | (with_reducible exact LeO.refl _)
   | (with_reducible exact LeO.none _)
   | (with_reducible refine LeO.ite ?_ ?_)
   | (with_reducible refine LeO.bind ?_ (fun _ => ?_))
theorem jJ.calls (k : Nat) (A0 : Option Addr) (c0 : Nat) (l0 : List Int) (r1 : ByteArray) (r2 : Int) (w : World) (hr0 : Kd.C (Kd.int .u64) w A0 l0.length l0) (hc0 : l0.length ≤ c0) (h : jJ.f k l0 = some (r1, r2)) :
  Calls Try.prog 30 #[.slice A0 l0.length c0] w fun e w' => e = .returned (.tuple #[.string r1, .int .i64 r2]) ∧ Below w.heap.size w w' := by
 have HR0 := jA.mk hr0
 have HC0 := jA.mk hc0
 clear hr0 hc0
 have HB := jA.mk (Below.refl w.heap.size w)
 have H : ((je.f l0).bind fun t129 => (if t129 = true then ((jN.f k (IntKind.u64.wrap ((l0.length : Int)))).bind fun t130 => (jJ.l0 k l0 t130 (wrap64 ((l0.length : Int) - 1)))) else (some ((⟨#[]⟩ : ByteArray), 1)))) = some (r1, r2) := h
 clear h
 replace H := ob_ H
 obtain ⟨t129, A20, H⟩ := H
 try dsimp only at H
 have A2 := jA.mk A20
 clear A20
 by_cases c3 : t129 = true
 ·
  subst c3
  have H1 : ((jN.f k (IntKind.u64.wrap ((l0.length : Int)))).bind fun t130 => (jJ.l0 k l0 t130 (wrap64 ((l0.length : Int) - 1)))) = some (r1, r2) := by rw [if_pos rfl] at H; exact H
  clear H
  have H := H1
  clear H1
  replace H := ob_ H
  obtain ⟨t130, A40, H⟩ := H
  try dsimp only at H
  have A4 := jA.mk A40
  clear A40
  have H' := jA.mk H
  clear H
  go_enter Try.func30, Try.ntmps30
  go_wp2_with (first | ((with_reducible refine jF (f := 74) rfl ?_); refine jg (some 7) rfl rfl Try.func74 kr_ rfl #[.slice A0 l0.length c0] rfl mt_ ?_; (with_reducible refine (je.calls _ _ l0 true _ ?side1 ?side2 A2.out).mono ?_); (case side1 => exact cc_ HR0.out); (case side2 => exact HC0.out); rintro e w' ⟨rfl, ⟨nd, rfl⟩⟩; refine ⟨_, rfl, ?_⟩) | ((with_reducible refine jF (f := 33) rfl ?_); refine jg (some 12) rfl rfl Try.func33 kr_ rfl #[.int .u64 (IntKind.u64.wrap ((l0.length : Int)))] rfl mt_ ?_; (with_reducible refine (jN.calls k (IntKind.u64.wrap ((l0.length : Int))) t130 _ A4.out).mono ?_); rintro e w5 ⟨rfl, hb⟩; refine ⟨_, rfl, ?_⟩; replace HB := bs_ HB hb))
  go_loopg [4, 5] k (fun kq v4 v5 w' => ∃ (x4_1 : ByteArray) (x5_1 : Int), v4 = .string x4_1 ∧ v5 = .int .i64 x5_1 ∧ jA (jJ.l0 kq l0 x4_1 x5_1 = some (r1, r2)) ∧ jA (kq ≤ k) ∧ jA (Below w.heap.size w w'))
  case atStart => exact ⟨(t130), (wrap64 ((l0.length : Int) - 1)), sd_, sd_, H', ⟨Nat.le_refl _⟩, ⟨(bb_ HB)⟩⟩
  case round =>
   clear H'
   try clear p2
   try clear c3
   obtain ⟨x4_1, x5_1, rfl, rfl, HA, HK1, HB⟩ := hrel
   cases gk with
   | zero => exact absurd HA.out (by simp [jJ.l0])
   | succ k1 =>
    have H := HA.out
    clear HA
    simp only [jJ.l0] at H
    by_cases c6 : x5_1 ≥ 0
    ·
     rw [if_pos c6] at H
     have c6b0 := decide_eq_true c6
     clear c6
     by_cases c7 : 0 ≤ x5_1
     ·
      rw [if_pos c7] at H
      have c7b0 := decide_eq_true c7
      clear c7
      by_cases c8 : x5_1 < (l0.length : Int)
      ·
       rw [if_pos c8] at H
       have c8b0 := decide_eq_true c8
       clear c8
       replace H := ob_ H
       obtain ⟨t132, A90, H⟩ := H
       try dsimp only at H
       have A9 := jA.mk A90
       clear A90
       by_cases c10 : x4_1.size + t132.size ≤ 9223372036854775807
       ·
        rw [if_pos c10] at H
        have c10b0 := eq_true c10
        have c10b1 := decide_eq_true c10
        try have c10b2 : (9223372036854775807 < x4_1.size + t132.size) = False := eq_false (Nat.not_lt.2 c10)
        have H' := jA.mk H
        clear H
        have p131 : 0 ≤ (x5_1 : Int) := of_decide_eq_true am_
        have q131 : x5_1 < (l0.length : Int) := of_decide_eq_true am_
        obtain ⟨ad131, e131, hx131_0⟩ := Kd.vW HR0.out x5_1 p131 q131
        cases e131
        replace hx131_0 := (HB.out.cell (World.block_lt_of_cell? w _ hx131_0)).trans hx131_0
        replace p131 := eq_true p131
        replace q131 := eq_true q131
        go_wp2_with (first | ((with_reducible refine jF (f := 75) rfl ?_); refine jg (some 25) rfl rfl Try.func75 kr_ rfl #[.int .u64 (rd l0 x5_1), .int .i64 8] rfl mt_ ?_; (with_reducible refine (jP.calls k1 (rd l0 x5_1) 8 t132 _ A9.out).mono ?_); rintro e w11 ⟨rfl, hb⟩; refine ⟨_, rfl, ?_⟩; replace HB := bs_ HB hb))
        go_roundg k1
        case measure => have := HK1.out; omega
        case rel => exact ⟨(x4_1 ++ t132), (wrap64 (x5_1 - 1)), sd_, sd_, H', ⟨by have := HK1.out; omega⟩, ⟨(bb_ HB)⟩⟩
       ·
        rw [if_neg c10] at H
        exact absurd H (by simp)
      ·
       rw [if_neg c8] at H
       exact absurd H (by simp)
     ·
      rw [if_neg c7] at H
      exact absurd H (by simp)
    ·
     rw [if_neg c6] at H
     have c6b0 := decide_eq_false c6
     clear c6
     simp only [Option.some.injEq, Prod.mk.injEq] at H
     obtain ⟨rfl, rfl⟩ := H
     go_wp2
     go_ret2
     exact ⟨ew_, (bb_ HB)⟩
 ·
  replace c3 := Bool.eq_false_iff.mpr c3
  subst c3
  have H1 : (some ((⟨#[]⟩ : ByteArray), 1)) = some (r1, r2) := by rw [if_neg (show ¬ (false = true) by decide)] at H; exact H
  clear H
  have H := H1
  clear H1
  simp only [Option.some.injEq, Prod.mk.injEq] at H
  obtain ⟨rfl, rfl⟩ := H
  go_enter Try.func30, Try.ntmps30
  go_wp2_with (first | ((with_reducible refine jF (f := 74) rfl ?_); refine jg (some 7) rfl rfl Try.func74 kr_ rfl #[.slice A0 l0.length c0] rfl mt_ ?_; (with_reducible refine (je.calls _ _ l0 false _ ?side1 ?side2 A2.out).mono ?_); (case side1 => exact cc_ HR0.out); (case side2 => exact HC0.out); rintro e w' ⟨rfl, ⟨nd, rfl⟩⟩; refine ⟨_, rfl, ?_⟩))
  go_ret2
  exact ⟨ew_, (bb_ HB)⟩

/-! ### qc: function 54 -/
def qc.f (a0_0 : Bool) (l0_1 : List Int) (l0_2 : List Int) : Option (Bool) := some ((l0_1.length : Int) == 0)
theorem qc.calls (a0_0 : Bool) (A0_1 : Option Addr) (c0_1 : Nat) (l0_1 : List Int) (A0_2 : Option Addr) (c0_2 : Nat) (l0_2 : List Int) (r : Bool) (w : World) (hr0_1 : Kd.C (Kd.int .u64) w A0_1 l0_1.length l0_1) (hc0_1 : l0_1.length ≤ c0_1) (hr0_2 : Kd.C (Kd.int .u64) w A0_2 l0_2.length l0_2) (hc0_2 : l0_2.length ≤ c0_2) (h : qc.f a0_0 l0_1 l0_2 = some r) :
  Calls Try.prog 54 #[.agg #[.bool a0_0, .slice A0_1 l0_1.length c0_1, .slice A0_2 l0_2.length c0_2]] w fun e w' => e = .returned (.bool r) ∧ Below w.heap.size w w' := by
 have hu44 := Try.underlying44
 have HR0_1 := jA.mk hr0_1
 have HC0_1 := jA.mk hc0_1
 clear hr0_1 hc0_1
 have HR0_2 := jA.mk hr0_2
 have HC0_2 := jA.mk hc0_2
 clear hr0_2 hc0_2
 have HB := jA.mk (Below.refl w.heap.size w)
 have H : (some ((l0_1.length : Int) == 0)) = some r := h
 clear h
 obtain rfl := Option.some.inj H
 go_enter Try.func54, Try.ntmps54
 go_wp2_with (first | ((with_reducible refine jq (N := 1) rfl ?_); refine zf ?hg (N := 1) ?hd (cs := #[.bool a0_0, .slice A0_1 l0_1.length c0_1, .slice A0_2 l0_2.length c0_2]) (t := 44) ?hr ?_; (case hd => rfl); (case hg => rfl); (case hr => exact gs_); intro gb133 hg w2 hbox hb; have BK133 := jA.mk (hbox); have GW133 := jA.mk ((by rw [hg]; exact (jB (bb_ HB)) : w.heap.size ≤ gb133)); have GE133 := jA.mk ((by rw [hg]; exact (jB (bb_ HB)) : w.heap.size ≤ gb133)); replace HB := bs_ HB hb; clear hb hbox hg; obtain ⟨hcz3_0, hcz3_1, hcz3_2, hfz3_0, hfz3_1, hfz3_2⟩ := bf3_ BK133))
 go_ret
 exact ⟨ew_, (bb1_ HB GE133)⟩

/-! ### jBk: function 81 -/
def jBk.f (a0 : Int) : Option (List Int) := if a0 = 0 then (some ([] : List Int)) else (some (([a0] : List Int)))
theorem jBk.calls (a0 : Int) (r : List Int) (w : World) (h : jBk.f a0 = some r) :
  Calls Try.prog 81 #[.int .u64 a0] w fun e w' => ∃ v0_ : Value, e = .returned (v0_) ∧ Kd.R (Kd.int .u64) 22 w' w.heap.size (fun _ => True) v0_ r ∧ Below w.heap.size w w' := by
 have HB := jA.mk (Below.refl w.heap.size w)
 have H : (if a0 = 0 then (some ([] : List Int)) else (some (([a0] : List Int)))) = some r := h
 clear h
 by_cases c2 : a0 = 0
 ·
  rw [if_pos c2] at H
  have c2b0 := beq_iff_eq.mpr c2
  have c2b1 := bne_eq_false_iff_eq.mpr c2
  clear c2
  obtain rfl := Option.some.inj H
  go_enter Try.func81, Try.ntmps81
  go_wp2
  go_ret
  exact ⟨_, ew_, nl_, (bb_ HB)⟩
 ·
  rw [if_neg c2] at H
  have c2b0 := beq_eq_false_iff_ne.mpr c2
  have c2b1 := bne_iff_ne.mpr c2
  obtain ⟨y134, hy134⟩ : ∃ y_ : List Int, y_ = (([a0] : List Int)) := ⟨_, rfl⟩
  replace H : (some y134) = some r := by first | (rw [hy134]; with_reducible exact H) | (have H2_ := (Option.bind_some _ _).symm.trans H; rw [hy134]; with_reducible exact H2_) | (with_reducible exact hs_ H) | with_reducible exact H | (rw [hy134]; exact H) | exact H
  have Ny134 := jA.mk hy134
  clear hy134
  obtain rfl := Option.some.inj H
  go_enter Try.func81, Try.ntmps81
  go_wp2_with (first | ((with_reducible refine jq (N := 6) rfl ?_); refine Kd.jAC (Kd.int .u64) _ 22 ?hg (N := 6) ?hd (xs := ([a0] : List Int)) (inner := [.int .u64 a0]) (ok := fun _ => True) (okp := fun _ => True) ?hr ?hp (fun _ hk => hk) trivial (Below.refl _ _) (Nat.le_refl _) (by simp) ?_; (case hd => rfl); (case hg => rfl); (case hr => exact gs_); (case hp => exact (Reps.one (show Kd.M (Kd.int .u64) _ _ _ a0 [.int .u64 a0] from rfl) (Reps.none _ _))); intro v135 w3 ho4 hb hg_ hnew_; clear hg_ hnew_; (first | rw [← Ny134.out] at ho4 | (simp only [Int.reduceToNat] at ho4; rw [← Ny134.out] at ho4)); have HO136 := jA.mk (Kd.jZ ho4 (jB (bb_ HB))); replace HB := bs_ HB hb; clear hb ho4))
  go_ret
  exact ⟨_, ew_, (rR_ HO136), (bb_ HB)⟩

end Go.Proofs.Ytijgeonhbmgikaa.POOctetPuts
