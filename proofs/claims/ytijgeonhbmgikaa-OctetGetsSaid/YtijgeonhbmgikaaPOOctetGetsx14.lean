-- printed (pr.py)
import Derived.Test.YtijgeonhbmgikaaPOOctetGetsx0
import Derived.Test.YtijgeonhbmgikaaPOOctetGetsx13
namespace Go.Proofs.Ytijgeonhbmgikaa.POOctetGets
open Go.RowKit Go.Proofs.YtijgeonhbmgikaaN Go.Proofs.YtijgeonhbmgikaaW.PrintWords Go.Proofs.YtijgeonhbmgikaaW.PrintLast Go.Proofs.YtijgeonhbmgikaaW.PrintMore
attribute [local go_sem] qC zy qR qP za zZ qA zx
set_option maxHeartbeats 8000000
set_option maxRecDepth 100000
set_option linter.unusedVariables false
set_option linter.unusedSimpArgs false

/-! ### jD: function 68 -/
def jD.l0 : Nat → List Int → List Int → Int → Option (List Int)
 | 0, _, _, _ => none
 | k + 1, x0, x3, x4 => if x4 < (x0.length : Int) then (if 0 ≤ x4 then ((some (([Int.tmod (rd x0 x4) 4294967296, IntKind.u64.wrap (Int.tdiv (rd x0 x4) 4294967296)] : List Int) : List Int)).bind fun y332 => (if x3.length + y332.length < 17592186044416 then (jD.l0 k x0 (x3 ++ y332) (wrap64 (x4 + 1))) else (none))) else (none)) else (some x3)
def jD.f (k : Nat) (l0 : List Int) : Option (List Int) := jD.l0 k l0 (([] : List Int)) 0
theorem jD.vN : ∀ k, (∀ y0 y1 y2, LeO (jD.l0 k y0 y1 y2) (jD.l0 (k + 1) y0 y1 y2))
 | 0 => fun _ _ _ r h => by simp [jD.l0] at h
 | k + 1 => by
  have ih0 := jD.vN k
  ·
   intro y0 y1 y2
   unfold jD.l0
   repeat' first
   | (with_reducible exact ih0 _ _ _)
   | (with_reducible exact LeO.refl _)
   | (with_reducible exact LeO.none _)
   | (with_reducible refine LeO.ite ?_ ?_)
   | (with_reducible refine LeO.bind ?_ (fun _ => ?_))
theorem jD.mono : ∀ a0 k, LeO (jD.f k a0) (jD.f (k + 1) a0) := by
 intro a0 k
 have ih0 := jD.vN k
 unfold jD.f
 repeat' first
   | (with_reducible exact ih0 _ _ _)
   | (with_reducible exact LeO.refl _)
   | (with_reducible exact LeO.none _)
   | (with_reducible refine LeO.ite ?_ ?_)
   | (with_reducible refine LeO.bind ?_ (fun _ => ?_))
def jD.T5 : Bool × List (List Nat × List Nat) := (true, [([], []), ([], []), ([], []), ([1, 2], [1, 2]), ([3], [3]), ([4], [4]), ([], []), ([], []), ([6, 7], [6, 7]), ([8], [8]), ([9], [9]), ([5, 10], [5, 10]), ([0, 11], [0, 11]), ([12, 12, 0, 1, 2, 3, 4, 5, 6, 7, 8, 9, 10, 11, 12], [0, 12])])
def jD.B5 : List Nat := [0, 0, 0, 6, 14, 30, 0, 0, 192, 448, 960, 2046, 4095, 8191]
theorem jD.tab5 : rtab .any (opsOf Try.f68 5) = jD.T5 := by kernel_rfl
theorem jD.jLY : jAj jD.T5.2 jD.B5 = true := by kernel_rfl
theorem jD.calls (k : Nat) (A0 : Option Addr) (c0 : Nat) (l0 : List Int) (r : List Int) (w : World) (hr0 : Kd.C (Kd.int .u64) w A0 l0.length l0) (hc0 : l0.length ≤ c0) (h : jD.f k l0 = some r) :
  Calls Try.prog 68 #[.slice A0 l0.length c0] w fun e w' => ∃ v0_ : Value, e = .returned (v0_) ∧ Kd.R (Kd.int .u64) 22 w' w.heap.size (fun _ => True) v0_ r ∧ Below w.heap.size w w' := by
 have HR0 := jA.mk hr0
 have HC0 := jA.mk hc0
 clear hr0 hc0
 have HB := jA.mk (Below.refl w.heap.size w)
 have H : (jD.l0 k l0 (([] : List Int)) 0) = some r := h
 clear h
 obtain ⟨y327, hy327⟩ : ∃ y_ : List Int, y_ = (([] : List Int)) := ⟨_, rfl⟩
 replace H : (jD.l0 k l0 y327 0) = some r := by first | (rw [hy327]; with_reducible exact H) | (have H2_ := (Option.bind_some _ _).symm.trans H; rw [hy327]; with_reducible exact H2_) | (with_reducible exact hs_ H) | with_reducible exact H | (rw [hy327]; exact H) | exact H
 have Ny327 := jA.mk hy327
 clear hy327
 have H' := jA.mk H
 clear H
 go_enter Try.func68, Try.ntmps68
 go_wp2_with (first | ((with_reducible refine jr (N := 5) rfl ?_); refine Kd.jAN (Kd.int .u64) _ 22 ?hg (N := 5) ?hd (xs := ([] : List Int)) (inner := []) (ok := fun _ => True) (okp := fun _ => True) ?hr ?hp (fun _ hk => hk) trivial (Below.refl _ _) (Nat.le_refl _) (by simp) ?_; (case hd => rfl); (case hg => rfl); (case hr => exact gs_); (case hp => exact (Reps.none _ _)); intro v328 w2 ho3 hb hg_ hnew_; clear hg_ hnew_; (first | rw [← Ny327.out] at ho3 | (simp only [Int.reduceToNat] at ho3; rw [← Ny327.out] at ho3)); have HO329 := jA.mk (Kd.jU ho3 (jB (bb_ HB))); replace HB := bs_ HB hb; clear hb ho3))
 go_loopg [3, 4] k (fun kq v3 v4 w' => ∃ (x3_1 : List Int) (x4_1 : Int), v4 = .int .i64 x4_1 ∧ jA (jD.l0 kq l0 x3_1 x4_1 = some r) ∧ jA (kq ≤ k) ∧ jA (Kd.R (Kd.int .u64) 22 w' w.heap.size (fun _ => True) v3 x3_1) ∧ jA (Below w.heap.size w w'))
 case atStart => exact ⟨(y327), (0), sd_, H', ⟨Nat.le_refl _⟩, ⟨(rR_ HO329)⟩, ⟨(bb_ HB)⟩⟩
 case round =>
  clear H'
  try clear p2
  obtain ⟨x3_1, x4_1, rfl, HA, HK1, HO_3, HB⟩ := hrel
  cases gk with
  | zero => exact absurd HA.out (by simp [jD.l0])
  | succ k1 =>
   have H := HA.out
   clear HA
   simp only [jD.l0] at H
   by_cases c4 : x4_1 < (l0.length : Int)
   ·
    rw [if_pos c4] at H
    have c4b0 := decide_eq_true c4
    clear c4
    by_cases c5 : 0 ≤ x4_1
    ·
     rw [if_pos c5] at H
     have c5b0 := decide_eq_true c5
     clear c5
     obtain ⟨ji6, hji6⟩ : ∃ j_ : Int, (Int.tmod (rd l0 x4_1) 4294967296) = j_ := ⟨_, rfl⟩
     replace H : ((some (([ji6, IntKind.u64.wrap (Int.tdiv (rd l0 x4_1) 4294967296)] : List Int) : List Int)).bind fun y332 => (if x3_1.length + y332.length < 17592186044416 then (jD.l0 k1 l0 (x3_1 ++ y332) (wrap64 (x4_1 + 1))) else (none))) = some r := by first | (rw [hji6] at H; exact H) | (simp only [hji6] at H ⊢; exact H)
     obtain ⟨y332, hy332⟩ : ∃ y_ : List Int, y_ = (([ji6, IntKind.u64.wrap (Int.tdiv (rd l0 x4_1) 4294967296)] : List Int)) := ⟨_, rfl⟩
     replace H : (if x3_1.length + y332.length < 17592186044416 then (jD.l0 k1 l0 (x3_1 ++ y332) (wrap64 (x4_1 + 1))) else (none)) = some r := by first | (rw [hy332]; with_reducible exact H) | (have H2_ := (Option.bind_some _ _).symm.trans H; rw [hy332]; with_reducible exact H2_) | (with_reducible exact hs_ H) | with_reducible exact H | (rw [hy332]; exact H) | exact H
     have Ny332 := jA.mk hy332
     clear hy332
     by_cases c7 : x3_1.length + y332.length < 17592186044416
     ·
      rw [if_pos c7] at H
      have LMc7 := jA.mk c7
      clear c7
      obtain ⟨y335, hy335⟩ : ∃ y_ : List Int, y_ = (x3_1 ++ y332) := ⟨_, rfl⟩
      replace H : (jD.l0 k1 l0 y335 (wrap64 (x4_1 + 1))) = some r := by first | (rw [hy335]; with_reducible exact H) | (have H2_ := (Option.bind_some _ _).symm.trans H; rw [hy335]; with_reducible exact H2_) | (with_reducible exact hs_ H) | with_reducible exact H | (rw [hy335]; exact H) | exact H
      have Ny335 := jA.mk hy335
      clear hy335
      have H' := jA.mk H
      clear H
      try go_wp2
      have n0_ := jA.mk (Kd.zM HO_3.out)
      have n1_ := jA.mk (qF HB.out)
      clear HO_3
      clear HB
      have HO_3 := n0_
      have HB := n1_
      clear n0_ n1_
      have p330 : 0 ≤ (x4_1 : Int) := of_decide_eq_true am_
      have q330 : x4_1 < (l0.length : Int) := of_decide_eq_true am_
      obtain ⟨ad330, e330, hx330_0⟩ := Kd.zD HR0.out x4_1 p330 q330
      have hw330_0 := hx330_0
      cases e330
      replace hx330_0 := (HB.out.cell (World.block_lt_of_cell? w _ hx330_0)).trans hx330_0
      replace p330 := eq_true p330
      replace q330 := eq_true q330
      have p331 : 0 ≤ (x4_1 : Int) := of_decide_eq_true am_
      have q331 : x4_1 < (l0.length : Int) := of_decide_eq_true am_
      obtain ⟨ad331, e331, hx331_0⟩ := Kd.zD HR0.out x4_1 p331 q331
      have hw331_0 := hx331_0
      obtain rfl : ad330 = ad331 := (by injection e331)
      replace hx331_0 := (HB.out.cell (World.block_lt_of_cell? w _ hx331_0)).trans hx331_0
      replace p331 := eq_true p331
      replace q331 := eq_true q331
      refine jAc (n := 14) (S := fun w' => w'.cell? (ad330.add (x4_1).toNat) = some (.int .u64 (rd l0 x4_1)) ∧ w'.cell? (ad330.add (x4_1).toNat) = some (.int .u64 (rd l0 x4_1))) (ds := []) #[false, false, false, false, false, false, false, false, false, false, false, false, false, false] kr_ rfl rfl ⟨((HB.out.cell (World.block_lt_of_cell? w _ hw330_0)).trans hw330_0), ((HB.out.cell (World.block_lt_of_cell? w _ hw331_0)).trans hw331_0)⟩ (fun hHeld => ?_); refine jAX jD.tab5 jD.jLY (fun HT_ HW_ => ?_)
      generalize wr.drew = w8 at HO_3 HB hx330_0 hx331_0 hHeld ⊢
      refine pu_ 0 (some 12) (ba_ 14 1) (vO HT_.out kr_) ?_
      refine pu_ 1 (some 13) (ba_ 14 3) (vO HT_.out kr_) ?_
      refine pu_ 2 (some 14) (ba_ 14 7) (vO HT_.out kr_) ?_
      refine pu_ 3 (some 15) (ba_ 14 15) (vO HT_.out kr_) ?_
      refine pu_ 6 (some 18) (ba_ 14 79) (vO HT_.out kr_) ?_
      refine pu_ 7 (some 19) (ba_ 14 207) (vO HT_.out kr_) ?_
      refine pu_ 8 (some 20) (ba_ 14 463) (vO HT_.out kr_) ?_
      refine tk2_ 4 (some 16) (ba_ 14 479) (jAD HT_.out HW_.out kr_) hHeld ?_
      refine pu_ 5 (some 17) (ba_ 14 511) (vO HT_.out kr_) ?_
      refine tk2_ 9 (some 21) (ba_ 14 1023) (jAD HT_.out HW_.out kr_) hHeld ?_
      refine pu_ 10 (some 22) (ba_ 14 2047) (vO HT_.out kr_) ?_
      refine one_ (i := 11) (N := some 23) (ba_ 14 4095) rfl rfl (ql HT_.out kr_) (by decide) (fun K hK => ?_)
      refine Kd.qI (Kd.int .u64) _ 22 ?hg (N := 23) ?hd (xs := ([ji6, IntKind.u64.wrap (Int.tdiv (rd l0 x4_1) 4294967296)] : List Int)) (inner := [.int .u64 ji6, .int .u64 (IntKind.u64.wrap (Int.tdiv (rd l0 x4_1) 4294967296))]) (ok := fun _ => True) (okp := fun _ => True) ?hr ?hp (fun _ hk => hk) trivial (Below.refl _ _) (Nat.le_refl _) (by simp) ?_; (case hd => rfl); (case hg => rfl); (case hr => exact gs_); (case hp => exact (Reps.one (show Kd.M (Kd.int .u64) _ _ _ ji6 [.int .u64 ji6] from rfl) (Reps.one (show Kd.M (Kd.int .u64) _ _ _ (IntKind.u64.wrap (Int.tdiv (rd l0 x4_1) 4294967296)) [.int .u64 (IntKind.u64.wrap (Int.tdiv (rd l0 x4_1) 4294967296))] from rfl) (Reps.none _ _))))
      intro v333 w9 ho10 hb hg_ hnew_
      clear hg_ hnew_
      (first | rw [← Ny332.out] at ho10 | (simp only [Int.reduceToNat] at ho10; rw [← Ny332.out] at ho10))
      have n0_ := re_ HO_3 ho10 hb
      have n1_ := jA.mk (Kd.jU (Kd.jR ho10 (Kd.R_lt (rR_ HO_3))) (jB (bb_ HB)))
      have n2_ := bs_ HB hb
      clear HO_3
      clear HB
      have HO_3 := n0_
      have HO334 := n1_
      have HB := n2_
      clear n0_ n1_ n2_
      clear hb ho10
      obtain ⟨Ao12, co12, eo12⟩ := Kd.jm HO334.out
      (first | subst eo12 | (injection eo12 with f1_ f2_ f3_; have f4_ := f1_.symm; have f5_ := f3_.symm; clear f1_ f2_ f3_; subst f4_; subst f5_))
      refine hK.out _ _ ⟨((HB.out.cell (World.block_lt_of_cell? w _ hw330_0)).trans hw330_0), ((HB.out.cell (World.block_lt_of_cell? w _ hw331_0)).trans hw331_0)⟩ (fun hHeld => ?_)
      clear hK K
      refine qJ (a' := ?_) ?_ ?_
      rotate_left
      ·
       show Act.put _ (some 23) _ = _
       simp only [Act.put, ss_, zF, zW]
       rfl
      refine one_ (i := 12) (N := some 24) (ba_ 14 8191) rfl rfl (ql HT_.out kr_) (by decide) (fun K hK => ?_)
      refine Kd.jBs (Kd.int .u64) (w0 := w) w.heap.size (by rfl) (.tmp 12) (.tmp 23) 35 22 (.int .u64 0) 8 rfl Try.underlying35 zw rfl (by decide) (by omega) u3 x3_1 y332 _ _ _ (fun k_ => some k_ ≠ (.slice Ao12 y332.length co12 : Value).ownBlock) (fun _ => False) rfl rfl ?aO ?aR (fun _ _ h => h) (fun _ h => h.elim) ?aF ?aB ?aS ?aL ?_
      (case aR => exact cc_ (Kd.jF HO334.out).2.2)
      (case aB => exact (bb_ HB))
      (case aF => exact (fun k_ hk => Kd.fresh' (Kd.R_lt (rR_ HO334)) k_ hk))
      (case aO => exact (by refine pR_ ?_; exact Kd.jk HO_3.out (fun _ hk => hk.2)))
      (case aS => exact (jB (bb_ HB)))
      (case aL => have := LMc7.out; omega)
      intro v336 w11 ho hb hg hat
      rw [← Ny335.out] at ho
      have n0_ := jA.mk (Kd.zP (ok := (fun _ => True)) (rR_ HO334) hg hat)
      have n1_ := jA.mk (hb)
      have n2_ := jA.mk (ho)
      clear HO334
      clear HB
      clear HO_3
      have HO334 := n0_
      have HB := n1_
      have HO337 := n2_
      clear n0_ n1_ n2_
      clear ho hb hg hat
      refine hK.out _ _ ⟨((HB.out.cell (World.block_lt_of_cell? w _ hw330_0)).trans hw330_0), ((HB.out.cell (World.block_lt_of_cell? w _ hw331_0)).trans hw331_0)⟩ (fun hHeld => ?_)
      clear hK K
      refine qJ (a' := ?_) ?_ ?_
      rotate_left
      ·
       show Act.put _ (some 24) _ = _
       simp only [Act.put, ss_, zF, zW]
       rfl
      refine pu_ 13 (some 3) (ba_ 14 16383) (vO HT_.out kr_) ?_
      refine jBZ (jBT HT_.out kr_) ?_
      try go_wp2
      go_roundg k1
      case measure => have := HK1.out; omega
      case rel => exact ⟨(y335), (wrap64 (x4_1 + 1)), sd_, H', ⟨by have := HK1.out; omega⟩, ⟨by (with_reducible repeat (first | apply Kd.zK | apply Kd.zN | apply Kd.zM)); exact Kd.jk HO337.out (fun _ hk => trivial)⟩, ⟨(bb_ HB)⟩⟩
     ·
      rw [if_neg c7] at H
      exact absurd H (by simp)
    ·
     rw [if_neg c5] at H
     exact absurd H (by simp)
   ·
    rw [if_neg c4] at H
    have c4b0 := decide_eq_false c4
    clear c4
    obtain rfl := Option.some.inj H
    go_wp2
    go_ret
    exact ⟨_, ew_, (rR_ HO_3), (bb_ HB)⟩

/-! ### jg: function 69 -/
def jg.f (l0 : List Int) (a1 : Int) : Option (Int) := if a1 < (l0.length : Int) then (if 0 ≤ a1 then (some (rd l0 a1)) else (none)) else (some 0)
theorem jg.calls (A0 : Option Addr) (c0 : Nat) (l0 : List Int) (a1 : Int) (r : Int) (w : World) (hr0 : Kd.C (Kd.int .u64) w A0 l0.length l0) (hc0 : l0.length ≤ c0) (h : jg.f l0 a1 = some r) :
  Calls Try.prog 69 #[.slice A0 l0.length c0, .int .i64 a1] w fun e w' => e = .returned (.int .u64 r) ∧ vR w w' := by
 have HR0 := jA.mk hr0
 have HC0 := jA.mk hc0
 clear hr0 hc0
 have H : (if a1 < (l0.length : Int) then (if 0 ≤ a1 then (some (rd l0 a1)) else (none)) else (some 0)) = some r := h
 clear h
 by_cases c3 : a1 < (l0.length : Int)
 ·
  rw [if_pos c3] at H
  have c3b0 := decide_eq_true c3
  clear c3
  by_cases c4 : 0 ≤ a1
  ·
   rw [if_pos c4] at H
   have c4b0 := decide_eq_true c4
   clear c4
   obtain rfl := Option.some.inj H
   have p338 : 0 ≤ (a1 : Int) := of_decide_eq_true am_
   have q338 : a1 < (l0.length : Int) := of_decide_eq_true am_
   obtain ⟨ad338, e338, hx338_0⟩ := Kd.zD HR0.out a1 p338 q338
   cases e338
   replace p338 := eq_true p338
   replace q338 := eq_true q338
   go_enter Try.func69, Try.ntmps69
   go_wp2
   go_ret
   exact ⟨by first | rfl | (simp; done) | (simp [*]; done), by repeat (first | exact vR.refl _ | apply vR.step)⟩
  ·
   rw [if_neg c4] at H
   exact absurd H (by simp)
 ·
  rw [if_neg c3] at H
  have c3b0 := decide_eq_false c3
  clear c3
  obtain rfl := Option.some.inj H
  go_enter Try.func69, Try.ntmps69
  go_wp2
  go_ret
  exact ⟨by first | rfl | (simp; done) | (simp [*]; done), by repeat (first | exact vR.refl _ | apply vR.step)⟩

/-! ### jI: function 70 -/
def jI.l0 : Nat → List Int → List Int → Int → Option (List Int)
 | 0, _, _, _ => none
 | k + 1, x0, x3, x4 => if x4 < (x0.length : Int) then (if 0 ≤ x4 then (if (wrap64 (x4 + 1)) < (x0.length : Int) then (if 0 ≤ (wrap64 (x4 + 1)) then (if x3.length < 17592186044416 then (jI.l0 k x0 (x3 ++ [IntKind.u64.wrap ((rd x0 x4) + (IntKind.u64.wrap ((rd x0 (wrap64 (x4 + 1))) * 4294967296)))]) (wrap64 (x4 + 2))) else (none)) else (none)) else (if x3.length < 17592186044416 then (jI.l0 k x0 (x3 ++ [rd x0 x4]) (wrap64 (x4 + 2))) else (none))) else (none)) else ((jX.f k x3).bind fun t350 => (some t350))
def jI.f (k : Nat) (l0 : List Int) : Option (List Int) := jI.l0 k l0 (([] : List Int)) 0
theorem jI.vN : ∀ k, (∀ y0 y1 y2, LeO (jI.l0 k y0 y1 y2) (jI.l0 (k + 1) y0 y1 y2))
 | 0 => fun _ _ _ r h => by simp [jI.l0] at h
 | k + 1 => by
  have ih0 := jI.vN k
  ·
   intro y0 y1 y2
   unfold jI.l0
   repeat' first
   | (with_reducible exact ih0 _ _ _)
   | (with_reducible exact jX.mono _ _)
   | (with_reducible exact LeO.refl _)
   | (with_reducible exact LeO.none _)
   | (with_reducible refine LeO.ite ?_ ?_)
   | (with_reducible refine LeO.bind ?_ (fun _ => ?_))
theorem jI.mono : ∀ a0 k, LeO (jI.f k a0) (jI.f (k + 1) a0) := by
 intro a0 k
 have ih0 := jI.vN k
 unfold jI.f
 repeat' first
   | (with_reducible exact ih0 _ _ _)
   | (with_reducible exact jX.mono _ _)
   | (with_reducible exact LeO.refl _)
   | (with_reducible exact LeO.none _)
   | (with_reducible refine LeO.ite ?_ ?_)
   | (with_reducible refine LeO.bind ?_ (fun _ => ?_))
theorem jI.calls (k : Nat) (A0 : Option Addr) (c0 : Nat) (l0 : List Int) (r : List Int) (w : World) (hr0 : Kd.C (Kd.int .u64) w A0 l0.length l0) (hc0 : l0.length ≤ c0) (h : jI.f k l0 = some r) :
  Calls Try.prog 70 #[.slice A0 l0.length c0] w fun e w' => ∃ v0_ : Value, e = .returned (v0_) ∧ Kd.R (Kd.int .u64) 22 w' w.heap.size (fun _ => True) v0_ r ∧ Below w.heap.size w w' := by
 have HR0 := jA.mk hr0
 have HC0 := jA.mk hc0
 clear hr0 hc0
 have HB := jA.mk (Below.refl w.heap.size w)
 have H : (jI.l0 k l0 (([] : List Int)) 0) = some r := h
 clear h
 obtain ⟨y339, hy339⟩ : ∃ y_ : List Int, y_ = (([] : List Int)) := ⟨_, rfl⟩
 replace H : (jI.l0 k l0 y339 0) = some r := by first | (rw [hy339]; with_reducible exact H) | (have H2_ := (Option.bind_some _ _).symm.trans H; rw [hy339]; with_reducible exact H2_) | (with_reducible exact hs_ H) | with_reducible exact H | (rw [hy339]; exact H) | exact H
 have Ny339 := jA.mk hy339
 clear hy339
 have H' := jA.mk H
 clear H
 go_enter Try.func70, Try.ntmps70
 go_wp2_with (first | ((with_reducible refine jr (N := 6) rfl ?_); refine Kd.jAN (Kd.int .u64) _ 22 ?hg (N := 6) ?hd (xs := ([] : List Int)) (inner := []) (ok := fun _ => True) (okp := fun _ => True) ?hr ?hp (fun _ hk => hk) trivial (Below.refl _ _) (Nat.le_refl _) (by simp) ?_; (case hd => rfl); (case hg => rfl); (case hr => exact gs_); (case hp => exact (Reps.none _ _)); intro v340 w2 ho3 hb hg_ hnew_; clear hg_ hnew_; (first | rw [← Ny339.out] at ho3 | (simp only [Int.reduceToNat] at ho3; rw [← Ny339.out] at ho3)); have HO341 := jA.mk (Kd.jU ho3 (jB (bb_ HB))); replace HB := bs_ HB hb; clear hb ho3))
 go_loopg [3, 4] k (fun kq v3 v4 w' => ∃ (x3_1 : List Int) (x4_1 : Int), v4 = .int .i64 x4_1 ∧ jA (jI.l0 kq l0 x3_1 x4_1 = some r) ∧ jA (kq ≤ k) ∧ jA (Kd.R (Kd.int .u64) 22 w' w.heap.size (fun _ => True) v3 x3_1) ∧ jA (Below w.heap.size w w'))
 case atStart => exact ⟨(y339), (0), sd_, H', ⟨Nat.le_refl _⟩, ⟨(rR_ HO341)⟩, ⟨(bb_ HB)⟩⟩
 case round =>
  clear H'
  try clear p2
  obtain ⟨x3_1, x4_1, rfl, HA, HK1, HO_3, HB⟩ := hrel
  cases gk with
  | zero => exact absurd HA.out (by simp [jI.l0])
  | succ k1 =>
   have H := HA.out
   clear HA
   simp only [jI.l0] at H
   by_cases c4 : x4_1 < (l0.length : Int)
   ·
    rw [if_pos c4] at H
    have c4b0 := decide_eq_true c4
    clear c4
    by_cases c5 : 0 ≤ x4_1
    ·
     rw [if_pos c5] at H
     have c5b0 := decide_eq_true c5
     clear c5
     by_cases c6 : (wrap64 (x4_1 + 1)) < (l0.length : Int)
     ·
      rw [if_pos c6] at H
      have c6b0 := decide_eq_true c6
      clear c6
      obtain ⟨ji7, hji7⟩ : ∃ j_ : Int, (wrap64 (x4_1 + 1)) = j_ := ⟨_, rfl⟩
      replace H : (if 0 ≤ (ji7) then (if x3_1.length < 17592186044416 then (jI.l0 k1 l0 (x3_1 ++ [IntKind.u64.wrap ((rd l0 x4_1) + (IntKind.u64.wrap ((rd l0 (ji7)) * 4294967296)))]) (wrap64 (x4_1 + 2))) else (none)) else (none)) = some r := by first | (rw [hji7] at H; exact H) | (simp only [hji7] at H ⊢; exact H)
      (try rw [hji7] at c6b0)
      have hji7w : (IntKind.i64.wrap (x4_1 + 1)) = ji7 := (zF _).trans hji7
      by_cases c8 : 0 ≤ (ji7)
      ·
       rw [if_pos c8] at H
       have c8b0 := decide_eq_true c8
       clear c8
       by_cases c9 : x3_1.length < 17592186044416
       ·
        rw [if_pos c9] at H
        have LMc9 := jA.mk c9
        clear c9
        obtain ⟨y344, hy344⟩ : ∃ y_ : List Int, y_ = (x3_1 ++ [IntKind.u64.wrap ((rd l0 x4_1) + (IntKind.u64.wrap ((rd l0 (ji7)) * 4294967296)))]) := ⟨_, rfl⟩
        replace H : (jI.l0 k1 l0 y344 (wrap64 (x4_1 + 2))) = some r := by first | (rw [hy344]; with_reducible exact H) | (have H2_ := (Option.bind_some _ _).symm.trans H; rw [hy344]; with_reducible exact H2_) | (with_reducible exact hs_ H) | with_reducible exact H | (rw [hy344]; exact H) | exact H
        have Ny344 := jA.mk hy344
        clear hy344
        have H' := jA.mk H
        clear H
        have p342 : 0 ≤ (x4_1 : Int) := of_decide_eq_true am_
        have q342 : x4_1 < (l0.length : Int) := of_decide_eq_true am_
        obtain ⟨ad342, e342, hx342_0⟩ := Kd.zD HR0.out x4_1 p342 q342
        cases e342
        replace hx342_0 := (HB.out.cell (World.block_lt_of_cell? w _ hx342_0)).trans hx342_0
        replace p342 := eq_true p342
        replace q342 := eq_true q342
        have p343 : 0 ≤ ((ji7) : Int) := of_decide_eq_true am_
        have q343 : (ji7) < (l0.length : Int) := of_decide_eq_true am_
        obtain ⟨ad343, e343, hx343_0⟩ := Kd.zD HR0.out (ji7) p343 q343
        obtain rfl : ad342 = ad343 := (by injection e343)
        replace hx343_0 := (HB.out.cell (World.block_lt_of_cell? w _ hx343_0)).trans hx343_0
        replace p343 := eq_true p343
        replace q343 := eq_true q343
        go_wp2_with (first | ((with_reducible refine vU (b := .append) (xs := #[.tmp 30, .tmp 32]) rfl ?_); at_builtin; refine Kd.qM (Kd.int .u64) (w0 := w) w.heap.size rfl (.tmp 30) (.tmp 32) 35 22 (.int .u64 0) 8 rfl Try.underlying35 zw rfl (by decide) (by omega) u3 x3_1 (IntKind.u64.wrap ((rd l0 x4_1) + (IntKind.u64.wrap ((rd l0 (ji7)) * 4294967296)))) [.int .u64 (IntKind.u64.wrap ((rd l0 x4_1) + (IntKind.u64.wrap ((rd l0 (ji7)) * 4294967296))))] (fun _ => True) (fun _ => False) rfl rfl ?aP (fun _ hk => hk.elim) ?aF ?aO ?aB ?aS ?aL ?_; (case aP => exact rfl); (case aB => exact (bb_ HB)); (case aF => exact (fun _ _ => trivial)); (case aO => exact (rR_ HO_3)); (case aS => exact (jB (bb_ HB))); (case aL => have := LMc9.out; omega); intro v345 w10 ho hb hg hat; rw [← Ny344.out] at ho; replace HB := jA.mk (hb); have HO346 := jA.mk (ho); clear HO_3 ho hb hg hat))
        go_roundg k1
        case measure => have := HK1.out; omega
        case rel => exact ⟨(y344), (wrap64 (x4_1 + 2)), sd_, H', ⟨by have := HK1.out; omega⟩, ⟨(rR_ HO346)⟩, ⟨(bb_ HB)⟩⟩
       ·
        rw [if_neg c9] at H
        exact absurd H (by simp)
      ·
       rw [if_neg c8] at H
       exact absurd H (by simp)
     ·
      rw [if_neg c6] at H
      have c6b0 := decide_eq_false c6
      clear c6
      by_cases c11 : x3_1.length < 17592186044416
      ·
       rw [if_pos c11] at H
       have LMc11 := jA.mk c11
       clear c11
       obtain ⟨y347, hy347⟩ : ∃ y_ : List Int, y_ = (x3_1 ++ [rd l0 x4_1]) := ⟨_, rfl⟩
       replace H : (jI.l0 k1 l0 y347 (wrap64 (x4_1 + 2))) = some r := by first | (rw [hy347]; with_reducible exact H) | (have H2_ := (Option.bind_some _ _).symm.trans H; rw [hy347]; with_reducible exact H2_) | (with_reducible exact hs_ H) | with_reducible exact H | (rw [hy347]; exact H) | exact H
       have Ny347 := jA.mk hy347
       clear hy347
       have H' := jA.mk H
       clear H
       have p342 : 0 ≤ (x4_1 : Int) := of_decide_eq_true am_
       have q342 : x4_1 < (l0.length : Int) := of_decide_eq_true am_
       obtain ⟨ad342, e342, hx342_0⟩ := Kd.zD HR0.out x4_1 p342 q342
       cases e342
       replace hx342_0 := (HB.out.cell (World.block_lt_of_cell? w _ hx342_0)).trans hx342_0
       replace p342 := eq_true p342
       replace q342 := eq_true q342
       go_wp2_with (first | ((with_reducible refine vU (b := .append) (xs := #[.tmp 30, .tmp 32]) rfl ?_); at_builtin; refine Kd.qM (Kd.int .u64) (w0 := w) w.heap.size rfl (.tmp 30) (.tmp 32) 35 22 (.int .u64 0) 8 rfl Try.underlying35 zw rfl (by decide) (by omega) u3 x3_1 (rd l0 x4_1) [.int .u64 (rd l0 x4_1)] (fun _ => True) (fun _ => False) rfl rfl ?aP (fun _ hk => hk.elim) ?aF ?aO ?aB ?aS ?aL ?_; (case aP => exact rfl); (case aB => exact (bb_ HB)); (case aF => exact (fun _ _ => trivial)); (case aO => exact (rR_ HO_3)); (case aS => exact (jB (bb_ HB))); (case aL => have := LMc11.out; omega); intro v348 w12 ho hb hg hat; rw [← Ny347.out] at ho; replace HB := jA.mk (hb); have HO349 := jA.mk (ho); clear HO_3 ho hb hg hat))
       go_roundg k1
       case measure => have := HK1.out; omega
       case rel => exact ⟨(y347), (wrap64 (x4_1 + 2)), sd_, H', ⟨by have := HK1.out; omega⟩, ⟨(rR_ HO349)⟩, ⟨(bb_ HB)⟩⟩
      ·
       rw [if_neg c11] at H
       exact absurd H (by simp)
    ·
     rw [if_neg c5] at H
     exact absurd H (by simp)
   ·
    rw [if_neg c4] at H
    have c4b0 := decide_eq_false c4
    clear c4
    replace H := ob_ H
    obtain ⟨t350, A130, H⟩ := H
    replace H : (some t350) = some r := H
    have A13 := jA.mk A130
    clear A130
    obtain rfl := Option.some.inj H
    obtain ⟨Ao14, co14, eo14⟩ := Kd.jm HO_3.out
    subst eo14
    go_wp2_with (first | ((with_reducible refine jG (f := 25) rfl ?_); refine jo (some 35) rfl rfl Try.func25 kr_ rfl #[.slice Ao14 x3_1.length co14] rfl mt_ ?_; (with_reducible refine (jX.calls k1 _ _ x3_1 t350 _ ?side1 ?side2 A13.out).mono ?_); (case side1 => exact cc_ (Kd.jF HO_3.out).2.2); (case side2 => exact (Kd.jF HO_3.out).2.1); rintro e w15 ⟨v351, rfl, ho0, hb⟩; refine ⟨_, rfl, ?_⟩; have HO352 := jA.mk (Kd.jU (Kd.jR ho0 (Kd.R_lt (rR_ HO_3))) (jB (bb_ HB))); replace HO_3 := re_ HO_3 ho0 hb; replace HB := bs_ HB hb))
    go_ret
    exact ⟨_, ew_, by refine pR_ ?_; exact Kd.jk HO352.out (fun _ hk => trivial), (bb_ HB)⟩

/-! ### jE: function 23 -/
mutual
def jE.l0 : Nat → List Int → List Int → List Int → Int → Option (List Int)
 | 0, _, _, _, _ => none
 | k + 1, x5, x6, x7, x8 => if x8 < (wrap64 ((wrap64 ((x5.length : Int) + (x6.length : Int))) + 1)) then (if x7.length < 17592186044416 then (jE.l0 k x5 x6 (x7 ++ [0]) (wrap64 (x8 + 1))) else (none)) else (jE.l1 k x5 x6 x7 0)
def jE.l1 : Nat → List Int → List Int → List Int → Int → Option (List Int)
 | 0, _, _, _, _ => none
 | k + 1, x5, x6, x7, x9 => if x9 < (x5.length : Int) then (jE.l2 k x5 x6 x7 x9 0 0) else ((jI.f k x7).bind fun t365 => (some t365))
def jE.l2 : Nat → List Int → List Int → List Int → Int → Int → Int → Option (List Int)
 | 0, _, _, _, _, _, _ => none
 | k + 1, x5, x6, x7, x9, x10, x11 => if x11 < (x6.length : Int) then (if 0 ≤ (wrap64 (x9 + x11)) then (if (wrap64 (x9 + x11)) < (x7.length : Int) then (if 0 ≤ x9 then (if x9 < (x5.length : Int) then ((jg.f x6 x11).bind fun t370 => (jE.l2 k x5 x6 (x7.set ((wrap64 (x9 + x11)) : Int).toNat (Int.tmod (IntKind.u64.wrap ((IntKind.u64.wrap ((rd x7 (wrap64 (x9 + x11))) + (IntKind.u64.wrap ((rd x5 x9) * t370)))) + x10)) 4294967296)) x9 (IntKind.u64.wrap (Int.tdiv (IntKind.u64.wrap ((IntKind.u64.wrap ((rd x7 (wrap64 (x9 + x11))) + (IntKind.u64.wrap ((rd x5 x9) * t370)))) + x10)) 4294967296)) (wrap64 (x11 + 1)))) else (none)) else (none)) else (none)) else (none)) else (if x10 > 0 then (if 0 ≤ (wrap64 (x9 + x11)) then (if (wrap64 (x9 + x11)) < (x7.length : Int) then (if 0 ≤ x9 then (if x9 < (x5.length : Int) then ((jg.f x6 x11).bind fun t374 => (jE.l2 k x5 x6 (x7.set ((wrap64 (x9 + x11)) : Int).toNat (Int.tmod (IntKind.u64.wrap ((IntKind.u64.wrap ((rd x7 (wrap64 (x9 + x11))) + (IntKind.u64.wrap ((rd x5 x9) * t374)))) + x10)) 4294967296)) x9 (IntKind.u64.wrap (Int.tdiv (IntKind.u64.wrap ((IntKind.u64.wrap ((rd x7 (wrap64 (x9 + x11))) + (IntKind.u64.wrap ((rd x5 x9) * t374)))) + x10)) 4294967296)) (wrap64 (x11 + 1)))) else (none)) else (none)) else (none)) else (none)) else (jE.l1 k x5 x6 x7 (wrap64 (x9 + 1))))
end
def jE.f (k : Nat) (l0 : List Int) (l1 : List Int) : Option (List Int) := (jD.f k l0).bind fun t353 => ((jD.f k l1).bind fun t356 => (jE.l0 k t353 t356 (([] : List Int)) 0))
theorem jE.vN : ∀ k, (∀ y0 y1 y2 y3, LeO (jE.l0 k y0 y1 y2 y3) (jE.l0 (k + 1) y0 y1 y2 y3)) ∧ (∀ y0 y1 y2 y3, LeO (jE.l1 k y0 y1 y2 y3) (jE.l1 (k + 1) y0 y1 y2 y3)) ∧ (∀ y0 y1 y2 y3 y4 y5, LeO (jE.l2 k y0 y1 y2 y3 y4 y5) (jE.l2 (k + 1) y0 y1 y2 y3 y4 y5))
 | 0 => ⟨fun _ _ _ _ r h => by simp [jE.l0] at h, fun _ _ _ _ r h => by simp [jE.l1] at h, fun _ _ _ _ _ _ r h => by simp [jE.l2] at h⟩
 | k + 1 => by
  obtain ⟨ih0, ih1, ih2⟩ := jE.vN k
  refine ⟨?_, ?_, ?_⟩ <;> (intros; first | unfold jE.l0 | unfold jE.l1 | unfold jE.l2) <;> repeat' first
   | (with_reducible exact ih0 _ _ _ _)
   | (with_reducible exact ih1 _ _ _ _)
   | (with_reducible exact ih2 _ _ _ _ _ _)
   | (with_reducible exact jD.mono _ _)
   | (with_reducible exact jI.mono _ _)
   | (with_reducible exact LeO.refl _)
   | (with_reducible exact LeO.none _)
   | (with_reducible refine LeO.ite ?_ ?_)
   | (with_reducible refine LeO.bind ?_ (fun _ => ?_))
theorem jE.mono : ∀ a0 a1 k, LeO (jE.f k a0 a1) (jE.f (k + 1) a0 a1) := by
 intro a0 a1 k
 obtain ⟨ih0, ih1, ih2⟩ := jE.vN k
 unfold jE.f
 repeat' first
   | (with_reducible exact ih0 _ _ _ _)
   | (with_reducible exact ih1 _ _ _ _)
   | (with_reducible exact ih2 _ _ _ _ _ _)
   | (with_reducible exact jD.mono _ _)
   | (with_reducible exact jI.mono _ _)
   | (with_reducible exact LeO.refl _)
   | (with_reducible exact LeO.none _)
   | (with_reducible refine LeO.ite ?_ ?_)
   | (with_reducible refine LeO.bind ?_ (fun _ => ?_))
theorem jE.calls (k : Nat) (A0 : Option Addr) (c0 : Nat) (l0 : List Int) (A1 : Option Addr) (c1 : Nat) (l1 : List Int) (r : List Int) (w : World) (hr0 : Kd.C (Kd.int .u64) w A0 l0.length l0) (hc0 : l0.length ≤ c0) (hr1 : Kd.C (Kd.int .u64) w A1 l1.length l1) (hc1 : l1.length ≤ c1) (h : jE.f k l0 l1 = some r) :
  Calls Try.prog 23 #[.slice A0 l0.length c0, .slice A1 l1.length c1] w fun e w' => ∃ v0_ : Value, e = .returned (v0_) ∧ Kd.R (Kd.int .u64) 22 w' w.heap.size (fun _ => True) v0_ r ∧ Below w.heap.size w w' := by
 have HR0 := jA.mk hr0
 have HC0 := jA.mk hc0
 clear hr0 hc0
 have HR1 := jA.mk hr1
 have HC1 := jA.mk hc1
 clear hr1 hc1
 have HB := jA.mk (Below.refl w.heap.size w)
 have H : ((jD.f k l0).bind fun t353 => ((jD.f k l1).bind fun t356 => (jE.l0 k t353 t356 (([] : List Int)) 0))) = some r := h
 clear h
 replace H := ob_ H
 obtain ⟨t353, A30, H⟩ := H
 try dsimp only at H
 have A3 := jA.mk A30
 clear A30
 replace H := ob_ H
 obtain ⟨t356, A40, H⟩ := H
 try dsimp only at H
 have A4 := jA.mk A40
 clear A40
 obtain ⟨y359, hy359⟩ : ∃ y_ : List Int, y_ = (([] : List Int)) := ⟨_, rfl⟩
 replace H : (jE.l0 k t353 t356 y359 0) = some r := by first | (rw [hy359]; with_reducible exact H) | (have H2_ := (Option.bind_some _ _).symm.trans H; rw [hy359]; with_reducible exact H2_) | (with_reducible exact hs_ H) | with_reducible exact H | (rw [hy359]; exact H) | exact H
 have Ny359 := jA.mk hy359
 clear hy359
 have H' := jA.mk H
 clear H
 go_enter Try.func23, Try.ntmps23
 go_wp2_with (first | (go_at_call 68; (with_reducible refine (jD.calls k _ _ l0 t353 _ ?side1 ?side2 A3.out).mono ?_); (case side1 => exact cc_ HR0.out); (case side2 => exact HC0.out); rintro e w5 ⟨v354, rfl, ho0, hb⟩; have HO355 := jA.mk (Kd.jU ho0 (jB (bb_ HB))); replace HB := bs_ HB hb) | (go_at_call 68; (with_reducible refine (jD.calls k _ _ l1 t356 _ ?side1 ?side2 A4.out).mono ?_); (case side1 => exact cc_ (Kd.jq HR1.out HB.out)); (case side2 => exact HC1.out); rintro e w6 ⟨v357, rfl, ho0, hb⟩; have HO358 := jA.mk (Kd.jU (Kd.jR ho0 (Kd.R_lt (rR_ HO355))) (jB (bb_ HB))); replace HO355 := re_ HO355 ho0 hb; replace HB := bs_ HB hb) | ((with_reducible refine jr (N := 17) rfl ?_); refine Kd.jAN (Kd.int .u64) _ 22 ?hg (N := 17) ?hd (xs := ([] : List Int)) (inner := []) (ok := fun _ => True) (okp := fun _ => True) ?hr ?hp (fun _ hk => hk) trivial (Below.refl _ _) (Nat.le_refl _) (by simp) ?_; (case hd => rfl); (case hg => rfl); (case hr => exact gs_); (case hp => exact (Reps.none _ _)); intro v360 w7 ho8 hb hg_ hnew_; clear hg_ hnew_; (first | rw [← Ny359.out] at ho8 | (simp only [Int.reduceToNat] at ho8; rw [← Ny359.out] at ho8)); have HO361 := jA.mk (Kd.jU (Kd.jR (Kd.jR ho8 (Kd.R_lt (rR_ HO355))) (Kd.R_lt (rR_ HO358))) (jB (bb_ HB))); replace HO355 := re_ HO355 ho8 hb; replace HO358 := re_ HO358 ho8 hb; replace HB := bs_ HB hb; clear hb ho8))
 repeat (go_quiet (first | (go_at_call 68; (with_reducible refine (jD.calls k _ _ l0 t353 _ ?side1 ?side2 A3.out).mono ?_); (case side1 => exact cc_ HR0.out); (case side2 => exact HC0.out); rintro e w5 ⟨v354, rfl, ho0, hb⟩; have HO355 := jA.mk (Kd.jU ho0 (jB (bb_ HB))); replace HB := bs_ HB hb) | (go_at_call 68; (with_reducible refine (jD.calls k _ _ l1 t356 _ ?side1 ?side2 A4.out).mono ?_); (case side1 => exact cc_ (Kd.jq HR1.out HB.out)); (case side2 => exact HC1.out); rintro e w6 ⟨v357, rfl, ho0, hb⟩; have HO358 := jA.mk (Kd.jU (Kd.jR ho0 (Kd.R_lt (rR_ HO355))) (jB (bb_ HB))); replace HO355 := re_ HO355 ho0 hb; replace HB := bs_ HB hb) | ((with_reducible refine jr (N := 17) rfl ?_); refine Kd.jAN (Kd.int .u64) _ 22 ?hg (N := 17) ?hd (xs := ([] : List Int)) (inner := []) (ok := fun _ => True) (okp := fun _ => True) ?hr ?hp (fun _ hk => hk) trivial (Below.refl _ _) (Nat.le_refl _) (by simp) ?_; (case hd => rfl); (case hg => rfl); (case hr => exact gs_); (case hp => exact (Reps.none _ _)); intro v360 w7 ho8 hb hg_ hnew_; clear hg_ hnew_; (first | rw [← Ny359.out] at ho8 | (simp only [Int.reduceToNat] at ho8; rw [← Ny359.out] at ho8)); have HO361 := jA.mk (Kd.jU (Kd.jR (Kd.jR ho8 (Kd.R_lt (rR_ HO355))) (Kd.R_lt (rR_ HO358))) (jB (bb_ HB))); replace HO355 := re_ HO355 ho8 hb; replace HO358 := re_ HO358 ho8 hb; replace HB := bs_ HB hb; clear hb ho8)); try go_wp2_with (first | (go_at_call 68; (with_reducible refine (jD.calls k _ _ l0 t353 _ ?side1 ?side2 A3.out).mono ?_); (case side1 => exact cc_ HR0.out); (case side2 => exact HC0.out); rintro e w5 ⟨v354, rfl, ho0, hb⟩; have HO355 := jA.mk (Kd.jU ho0 (jB (bb_ HB))); replace HB := bs_ HB hb) | (go_at_call 68; (with_reducible refine (jD.calls k _ _ l1 t356 _ ?side1 ?side2 A4.out).mono ?_); (case side1 => exact cc_ (Kd.jq HR1.out HB.out)); (case side2 => exact HC1.out); rintro e w6 ⟨v357, rfl, ho0, hb⟩; have HO358 := jA.mk (Kd.jU (Kd.jR ho0 (Kd.R_lt (rR_ HO355))) (jB (bb_ HB))); replace HO355 := re_ HO355 ho0 hb; replace HB := bs_ HB hb) | ((with_reducible refine jr (N := 17) rfl ?_); refine Kd.jAN (Kd.int .u64) _ 22 ?hg (N := 17) ?hd (xs := ([] : List Int)) (inner := []) (ok := fun _ => True) (okp := fun _ => True) ?hr ?hp (fun _ hk => hk) trivial (Below.refl _ _) (Nat.le_refl _) (by simp) ?_; (case hd => rfl); (case hg => rfl); (case hr => exact gs_); (case hp => exact (Reps.none _ _)); intro v360 w7 ho8 hb hg_ hnew_; clear hg_ hnew_; (first | rw [← Ny359.out] at ho8 | (simp only [Int.reduceToNat] at ho8; rw [← Ny359.out] at ho8)); have HO361 := jA.mk (Kd.jU (Kd.jR (Kd.jR ho8 (Kd.R_lt (rR_ HO355))) (Kd.R_lt (rR_ HO358))) (jB (bb_ HB))); replace HO355 := re_ HO355 ho8 hb; replace HO358 := re_ HO358 ho8 hb; replace HB := bs_ HB hb; clear hb ho8)))
 go_loopg [7, 8] k (fun kq v7 v8 w' => ∃ (x7_1 : List Int) (x8_1 : Int), v8 = .int .i64 x8_1 ∧ jA (jE.l0 kq t353 t356 x7_1 x8_1 = some r) ∧ jA (kq ≤ k) ∧ jA (Kd.R (Kd.int .u64) 22 w' w.heap.size (fun k_ => some k_ ≠ (v357 : Value).ownBlock ∧ some k_ ≠ (v7 : Value).ownBlock) v354 t353) ∧ jA (Kd.R (Kd.int .u64) 22 w' w.heap.size (fun k_ => some k_ ≠ (v354 : Value).ownBlock ∧ some k_ ≠ (v7 : Value).ownBlock) v357 t356) ∧ jA (Kd.R (Kd.int .u64) 22 w' w.heap.size (fun k_ => some k_ ≠ (v354 : Value).ownBlock ∧ some k_ ≠ (v357 : Value).ownBlock) v7 x7_1) ∧ jA (Below w.heap.size w w'))
 case atStart => exact ⟨(y359), (0), sd_, H', ⟨Nat.le_refl _⟩, ⟨by (with_reducible repeat (first | apply Kd.zK | apply Kd.zN | apply Kd.zM)); exact Kd.jk HO355.out (fun _ hk => ⟨hk.1.2, hk.2⟩)⟩, ⟨by (with_reducible repeat (first | apply Kd.zK | apply Kd.zN | apply Kd.zM)); exact Kd.jk HO358.out (fun _ hk => ⟨hk.1.2, hk.2⟩)⟩, ⟨by (with_reducible repeat (first | apply Kd.zK | apply Kd.zN | apply Kd.zM)); exact Kd.jk HO361.out (fun _ hk => ⟨hk.1.2, hk.2⟩)⟩, ⟨(bb_ HB)⟩⟩
 case round =>
  clear H'
  try clear c1
  try clear c2
  try clear p2
  obtain ⟨x7_1, x8_1, rfl, HA, HK1, HO_5, HO_6, HO_7, HB⟩ := hrel
  cases gk with
  | zero => exact absurd HA.out (by simp [jE.l0])
  | succ k1 =>
   have H := HA.out
   clear HA
   simp only [jE.l0] at H
   by_cases c9 : x8_1 < (wrap64 ((wrap64 ((t353.length : Int) + (t356.length : Int))) + 1))
   ·
    rw [if_pos c9] at H
    have c9b0 := decide_eq_true c9
    clear c9
    by_cases c10 : x7_1.length < 17592186044416
    ·
     rw [if_pos c10] at H
     have LMc10 := jA.mk c10
     clear c10
     obtain ⟨y362, hy362⟩ : ∃ y_ : List Int, y_ = (x7_1 ++ [0]) := ⟨_, rfl⟩
     replace H : (jE.l0 k1 t353 t356 y362 (wrap64 (x8_1 + 1))) = some r := by first | (rw [hy362]; with_reducible exact H) | (have H2_ := (Option.bind_some _ _).symm.trans H; rw [hy362]; with_reducible exact H2_) | (with_reducible exact hs_ H) | with_reducible exact H | (rw [hy362]; exact H) | exact H
     have Ny362 := jA.mk hy362
     clear hy362
     have H' := jA.mk H
     clear H
     obtain ⟨Ao11, co11, eo11⟩ := Kd.jm HO_5.out
     subst eo11
     obtain ⟨Ao12, co12, eo12⟩ := Kd.jm HO_6.out
     subst eo12
     go_wp2_with (first | ((with_reducible refine vU (b := .append) (xs := #[.tmp 28, .tmp 29]) rfl ?_); at_builtin; refine Kd.qM (Kd.int .u64) (w0 := w) w.heap.size rfl (.tmp 28) (.tmp 29) 35 22 (.int .u64 0) 8 rfl Try.underlying35 zw rfl (by decide) (by omega) u7 x7_1 0 [.int .u64 0] (fun k_ => some k_ ≠ (.slice Ao11 t353.length co11 : Value).ownBlock ∧ some k_ ≠ (.slice Ao12 t356.length co12 : Value).ownBlock) (fun _ => False) rfl rfl ?aP (fun _ hk => hk.elim) ?aF ?aO ?aB ?aS ?aL ?_; (case aP => exact rfl); (case aB => exact (bb_ HB)); (case aF => exact (fun k_ hk => ⟨Kd.fresh' (Kd.R_lt (rR_ HO_5)) k_ hk, Kd.fresh' (Kd.R_lt (rR_ HO_6)) k_ hk⟩)); (case aO => exact (rR_ HO_7)); (case aS => exact (jB (bb_ HB))); (case aL => have := LMc10.out; omega); intro v363 w13 ho hb hg hat; rw [← Ny362.out] at ho; replace HO_5 := jA.mk (Kd.zP (ok := (fun k_ => some k_ ≠ (.slice Ao12 t356.length co12 : Value).ownBlock)) (rR_ HO_5) hg hat); replace HO_6 := jA.mk (Kd.zP (ok := (fun k_ => some k_ ≠ (.slice Ao11 t353.length co11 : Value).ownBlock)) (rR_ HO_6) hg hat); replace HB := jA.mk (hb); have HO364 := jA.mk (ho); clear HO_7 ho hb hg hat))
     repeat (go_quiet (first | ((with_reducible refine vU (b := .append) (xs := #[.tmp 28, .tmp 29]) rfl ?_); at_builtin; refine Kd.qM (Kd.int .u64) (w0 := w) w.heap.size rfl (.tmp 28) (.tmp 29) 35 22 (.int .u64 0) 8 rfl Try.underlying35 zw rfl (by decide) (by omega) u7 x7_1 0 [.int .u64 0] (fun k_ => some k_ ≠ (.slice Ao11 t353.length co11 : Value).ownBlock ∧ some k_ ≠ (.slice Ao12 t356.length co12 : Value).ownBlock) (fun _ => False) rfl rfl ?aP (fun _ hk => hk.elim) ?aF ?aO ?aB ?aS ?aL ?_; (case aP => exact rfl); (case aB => exact (bb_ HB)); (case aF => exact (fun k_ hk => ⟨Kd.fresh' (Kd.R_lt (rR_ HO_5)) k_ hk, Kd.fresh' (Kd.R_lt (rR_ HO_6)) k_ hk⟩)); (case aO => exact (rR_ HO_7)); (case aS => exact (jB (bb_ HB))); (case aL => have := LMc10.out; omega); intro v363 w13 ho hb hg hat; rw [← Ny362.out] at ho; replace HO_5 := jA.mk (Kd.zP (ok := (fun k_ => some k_ ≠ (.slice Ao12 t356.length co12 : Value).ownBlock)) (rR_ HO_5) hg hat); replace HO_6 := jA.mk (Kd.zP (ok := (fun k_ => some k_ ≠ (.slice Ao11 t353.length co11 : Value).ownBlock)) (rR_ HO_6) hg hat); replace HB := jA.mk (hb); have HO364 := jA.mk (ho); clear HO_7 ho hb hg hat)); try go_wp2_with (first | ((with_reducible refine vU (b := .append) (xs := #[.tmp 28, .tmp 29]) rfl ?_); at_builtin; refine Kd.qM (Kd.int .u64) (w0 := w) w.heap.size rfl (.tmp 28) (.tmp 29) 35 22 (.int .u64 0) 8 rfl Try.underlying35 zw rfl (by decide) (by omega) u7 x7_1 0 [.int .u64 0] (fun k_ => some k_ ≠ (.slice Ao11 t353.length co11 : Value).ownBlock ∧ some k_ ≠ (.slice Ao12 t356.length co12 : Value).ownBlock) (fun _ => False) rfl rfl ?aP (fun _ hk => hk.elim) ?aF ?aO ?aB ?aS ?aL ?_; (case aP => exact rfl); (case aB => exact (bb_ HB)); (case aF => exact (fun k_ hk => ⟨Kd.fresh' (Kd.R_lt (rR_ HO_5)) k_ hk, Kd.fresh' (Kd.R_lt (rR_ HO_6)) k_ hk⟩)); (case aO => exact (rR_ HO_7)); (case aS => exact (jB (bb_ HB))); (case aL => have := LMc10.out; omega); intro v363 w13 ho hb hg hat; rw [← Ny362.out] at ho; replace HO_5 := jA.mk (Kd.zP (ok := (fun k_ => some k_ ≠ (.slice Ao12 t356.length co12 : Value).ownBlock)) (rR_ HO_5) hg hat); replace HO_6 := jA.mk (Kd.zP (ok := (fun k_ => some k_ ≠ (.slice Ao11 t353.length co11 : Value).ownBlock)) (rR_ HO_6) hg hat); replace HB := jA.mk (hb); have HO364 := jA.mk (ho); clear HO_7 ho hb hg hat)))
     go_roundg k1
     case measure => have := HK1.out; omega
     case rel => exact ⟨(y362), (wrap64 (x8_1 + 1)), sd_, H', ⟨by have := HK1.out; omega⟩, ⟨(rR_ HO_5)⟩, ⟨(rR_ HO_6)⟩, ⟨(rR_ HO364)⟩, ⟨(bb_ HB)⟩⟩
    ·
     rw [if_neg c10] at H
     exact absurd H (by simp)
   ·
    rw [if_neg c9] at H
    have c9b0 := decide_eq_false c9
    clear c9
    have H' := jA.mk H
    clear H
    obtain ⟨Ao14, co14, eo14⟩ := Kd.jm HO_5.out
    subst eo14
    obtain ⟨Ao15, co15, eo15⟩ := Kd.jm HO_6.out
    subst eo15
    go_wp2
    repeat (go_quiet (fail); try go_wp2)
    go_loopg [9] k1 (fun kq v9 w' => ∃ (x7_2 : List Int) (x9_2 : Int), v9 = .int .i64 x9_2 ∧ jA (jE.l1 kq t353 t356 x7_2 x9_2 = some r) ∧ jA (kq ≤ k1) ∧ jA (Kd.R (Kd.int .u64) 22 w' w.heap.size (fun k_ => some k_ ≠ ((.slice Ao15 t356.length co15) : Value).ownBlock ∧ some k_ ≠ (u7 : Value).ownBlock) (.slice Ao14 t353.length co14) t353) ∧ jA (Kd.R (Kd.int .u64) 22 w' w.heap.size (fun k_ => some k_ ≠ ((.slice Ao14 t353.length co14) : Value).ownBlock ∧ some k_ ≠ (u7 : Value).ownBlock) (.slice Ao15 t356.length co15) t356) ∧ jA (Kd.R (Kd.int .u64) 22 w' w.heap.size (fun k_ => some k_ ≠ ((.slice Ao14 t353.length co14) : Value).ownBlock ∧ some k_ ≠ ((.slice Ao15 t356.length co15) : Value).ownBlock) u7 x7_2) ∧ jA (Below w.heap.size w w'))
    case atStart => exact ⟨(x7_1), (0), sd_, H', ⟨Nat.le_refl _⟩, ⟨(rR_ HO_5)⟩, ⟨(rR_ HO_6)⟩, ⟨(rR_ HO_7)⟩, ⟨(bb_ HB)⟩⟩
    case round =>
     clear H'
     try clear c1
     try clear c2
     try clear p2
     try clear p6
     try clear c9
     try clear c9b0
     try clear c10
     try clear p2
     obtain ⟨x7_2, x9_2, rfl, HA, HK2, HO_5, HO_6, HO_7, HB⟩ := hrel
     cases gk with
     | zero => exact absurd HA.out (by simp [jE.l1])
     | succ k2 =>
      have H := HA.out
      clear HA
      simp only [jE.l1] at H
      by_cases c16 : x9_2 < (t353.length : Int)
      ·
       rw [if_pos c16] at H
       have c16b0 := decide_eq_true c16
       clear c16
       have H' := jA.mk H
       clear H
       go_wp2
       repeat (go_quiet (fail); try go_wp2)
       go_loopg [10, 11] k2 (fun kq v10 v11 w' => ∃ (x7_3 : List Int) (x10_3 : Int) (x11_3 : Int), v10 = .int .u64 x10_3 ∧ v11 = .int .i64 x11_3 ∧ jA (jE.l2 kq t353 t356 x7_3 x9_2 x10_3 x11_3 = some r) ∧ jA (kq ≤ k2) ∧ jA (Kd.R (Kd.int .u64) 22 w' w.heap.size (fun k_ => some k_ ≠ ((.slice Ao15 t356.length co15) : Value).ownBlock ∧ some k_ ≠ (u7 : Value).ownBlock) (.slice Ao14 t353.length co14) t353) ∧ jA (Kd.R (Kd.int .u64) 22 w' w.heap.size (fun k_ => some k_ ≠ ((.slice Ao14 t353.length co14) : Value).ownBlock ∧ some k_ ≠ (u7 : Value).ownBlock) (.slice Ao15 t356.length co15) t356) ∧ jA (Kd.R (Kd.int .u64) 22 w' w.heap.size (fun k_ => some k_ ≠ ((.slice Ao14 t353.length co14) : Value).ownBlock ∧ some k_ ≠ ((.slice Ao15 t356.length co15) : Value).ownBlock) u7 x7_3) ∧ jA (Below w.heap.size w w'))
       case atStart => exact ⟨(x7_2), (0), (0), sd_, sd_, H', ⟨Nat.le_refl _⟩, ⟨(rR_ HO_5)⟩, ⟨(rR_ HO_6)⟩, ⟨(rR_ HO_7)⟩, ⟨(bb_ HB)⟩⟩
       case round =>
        clear H'
        try clear c1
        try clear c2
        try clear p2
        try clear p6
        try clear c9
        try clear c9b0
        try clear c10
        try clear c16
        try clear c16b0
        try clear p2
        try clear p6
        obtain ⟨x7_3, x10_3, x11_3, rfl, rfl, HA, HK3, HO_5, HO_6, HO_7, HB⟩ := hrel
        cases gk with
        | zero => exact absurd HA.out (by simp [jE.l2])
        | succ k3 =>
         have H := HA.out
         clear HA
         simp only [jE.l2] at H
         by_cases c17 : x11_3 < (t356.length : Int)
         ·
          rw [if_pos c17] at H
          have c17b0 := decide_eq_true c17
          clear c17
          obtain ⟨ji18, hji18⟩ : ∃ j_ : Int, (wrap64 (x9_2 + x11_3)) = j_ := ⟨_, rfl⟩
          replace H : (if 0 ≤ (ji18) then (if (ji18) < (x7_3.length : Int) then (if 0 ≤ x9_2 then (if x9_2 < (t353.length : Int) then ((jg.f t356 x11_3).bind fun t370 => (jE.l2 k3 t353 t356 (x7_3.set ((ji18) : Int).toNat (Int.tmod (IntKind.u64.wrap ((IntKind.u64.wrap ((rd x7_3 (ji18)) + (IntKind.u64.wrap ((rd t353 x9_2) * t370)))) + x10_3)) 4294967296)) x9_2 (IntKind.u64.wrap (Int.tdiv (IntKind.u64.wrap ((IntKind.u64.wrap ((rd x7_3 (ji18)) + (IntKind.u64.wrap ((rd t353 x9_2) * t370)))) + x10_3)) 4294967296)) (wrap64 (x11_3 + 1)))) else (none)) else (none)) else (none)) else (none)) = some r := by first | (rw [hji18] at H; exact H) | (simp only [hji18] at H ⊢; exact H)
          have hji18w : (IntKind.i64.wrap (x9_2 + x11_3)) = ji18 := (zF _).trans hji18
          by_cases c19 : 0 ≤ (ji18)
          ·
           rw [if_pos c19] at H
           have c19b0 := decide_eq_true c19
           clear c19
           by_cases c20 : (ji18) < (x7_3.length : Int)
           ·
            rw [if_pos c20] at H
            have c20b0 := decide_eq_true c20
            clear c20
            by_cases c21 : 0 ≤ x9_2
            ·
             rw [if_pos c21] at H
             have c21b0 := decide_eq_true c21
             clear c21
             by_cases c22 : x9_2 < (t353.length : Int)
             ·
              rw [if_pos c22] at H
              have c22b0 := decide_eq_true c22
              clear c22
              replace H := ob_ H
              obtain ⟨t370, A230, H⟩ := H
              try dsimp only at H
              have A23 := jA.mk A230
              clear A230
              obtain ⟨ji24, hji24⟩ : ∃ j_ : Int, (Int.tmod (IntKind.u64.wrap ((IntKind.u64.wrap ((rd x7_3 (ji18)) + (IntKind.u64.wrap ((rd t353 x9_2) * t370)))) + x10_3)) 4294967296) = j_ := ⟨_, rfl⟩
              replace H : (jE.l2 k3 t353 t356 (x7_3.set ((ji18) : Int).toNat (ji24)) x9_2 (IntKind.u64.wrap (Int.tdiv (IntKind.u64.wrap ((IntKind.u64.wrap ((rd x7_3 (ji18)) + (IntKind.u64.wrap ((rd t353 x9_2) * t370)))) + x10_3)) 4294967296)) (wrap64 (x11_3 + 1))) = some r := by first | (rw [hji24] at H; exact H) | (simp only [hji24] at H ⊢; exact H)
              (try rw [hji24] at A23)
              obtain ⟨y371, hy371⟩ : ∃ y_ : List Int, y_ = (x7_3.set ((ji18) : Int).toNat (ji24)) := ⟨_, rfl⟩
              replace H : (jE.l2 k3 t353 t356 y371 x9_2 (IntKind.u64.wrap (Int.tdiv (IntKind.u64.wrap ((IntKind.u64.wrap ((rd x7_3 (ji18)) + (IntKind.u64.wrap ((rd t353 x9_2) * t370)))) + x10_3)) 4294967296)) (wrap64 (x11_3 + 1))) = some r := by first | (rw [hy371]; with_reducible exact H) | (have H2_ := (Option.bind_some _ _).symm.trans H; rw [hy371]; with_reducible exact H2_) | (with_reducible exact hs_ H) | with_reducible exact H | (rw [hy371]; exact H) | exact H
              have Ny371 := jA.mk hy371
              clear hy371
              have H' := jA.mk H
              clear H
              obtain ⟨Ao26, co26, eo26⟩ := Kd.jm HO_7.out
              subst eo26
              have p368 : 0 ≤ ((ji18) : Int) := of_decide_eq_true am_
              have q368 : (ji18) < (x7_3.length : Int) := of_decide_eq_true am_
              obtain ⟨ad368, e368, hx368_0⟩ := Kd.zD (Kd.jF HO_7.out).2.2 (ji18) p368 q368
              cases e368
              replace p368 := eq_true p368
              replace q368 := eq_true q368
              have p369 : 0 ≤ (x9_2 : Int) := of_decide_eq_true am_
              have q369 : x9_2 < (t353.length : Int) := of_decide_eq_true am_
              obtain ⟨ad369, e369, hx369_0⟩ := Kd.zD (Kd.jF HO_5.out).2.2 x9_2 p369 q369
              cases e369
              replace p369 := eq_true p369
              replace q369 := eq_true q369
              go_wp2_with (first | (go_at_call 69; (with_reducible refine (jg.calls _ _ t356 x11_3 t370 _ ?side1 ?side2 A23.out).mono ?_); (case side1 => exact cc_ (Kd.jF HO_6.out).2.2); (case side2 => exact (Kd.jF HO_6.out).2.1); rintro e w' ⟨rfl, ⟨nd, rfl⟩⟩; (try first | exact ⟨rfl, _, World.drewN_drewN _ _ _⟩ | exact ⟨rfl, _, Eq.trans (World.drewN_drewN _ _ _) (congrArg (World.drewN _) (Nat.add_assoc _ _ _))⟩); have p25 : 0 ≤ ((ji18) : Int) := of_decide_eq_true am_; have q25 : ((ji18) : Int) < ((x7_3.length : Int) : Int) := of_decide_eq_true am_; obtain ⟨go25, co25, eo25, gb25, gl25, cl25, HG25⟩ := Kd.jAA HO_7.out (by omega); (first | cases eo25 | (injection eo25 with ea_ en_ ec_; (first | subst ea_ | (injection ea_ with ea_; subst ea_)); subst ec_; clear en_)); have GB25 := jA.mk gb25; have GG25 := jA.mk HG25; clear gb25 gl25 HG25; (first | simp only [add_plain] at hx368_0 | skip); obtain ⟨hx25_0, hf25_0⟩ := Kd.zJ 0 HO_7.out ((ji18) : Int) p25 q25; replace p25 := eq_true p25; replace q25 := eq_true q25; obtain ⟨hy27_, hz27_⟩ := Kd.zJ 0 HO_7.out ((ji18) : Int) (of_decide_eq_true am_) (of_decide_eq_true am_); have HP27 := Kd.qz HO_7.out ((ji18) : Int) ji24) | ((with_reducible refine qD (t := 22) (p := 70) rfl ?_); (try (rw [jAJ wr]; generalize hq_ : World.drewN wr _ = wr; replace HO_5 := jA.mk (Kd.R_at hq_ HO_5.out); replace HO_6 := jA.mk (Kd.R_at hq_ HO_6.out); replace HO_7 := jA.mk (Kd.R_at hq_ HO_7.out); replace HB := jA.mk (jBY hq_ HB.out); clear hq_; (try (obtain ⟨hy27_, hz27_⟩ := Kd.zJ 0 HO_7.out ((ji18) : Int) (of_decide_eq_true am_) (of_decide_eq_true am_))); (try (have HP27 := Kd.qz HO_7.out ((ji18) : Int) ji24)))); refine zm (t := 22) (p := 70) (v := ?vo_w28) (w1 := (wr.setCell ⟨go25, ((ji18) : Int).toNat, none⟩ (.int .u64 ji24))) ?hg ?ho ?hn ?hr ?_; (case ho => rfl); (case hg => rfl); (case hn => rfl); (case hr => exact gs_); intro w28 hw; have hg : wr.grownBy w28 (some go25) := (by rw [hw]; exact HP27.2); have hp_ : Kd.R (Kd.int .u64) 22 w28 w.heap.size (fun k_ => some k_ ≠ (.slice (some ad369) t353.length co14 : Value).ownBlock ∧ some k_ ≠ (.slice Ao15 t356.length co15 : Value).ownBlock) (.slice (some ⟨go25, 0, none⟩) x7_3.length co26) y371 := (by rw [hw, Ny371.out]; exact HP27.1); clear HP27; replace HO_5 := jA.mk (Kd.zP (v := (.slice (some ⟨go25, 0, none⟩) x7_3.length co26)) (v1 := (.slice (some ⟨go25, 0, none⟩) x7_3.length co26)) (ok := (fun k_ => some k_ ≠ (.slice Ao15 t356.length co15 : Value).ownBlock)) (rR_ HO_5) hg (.inl rfl)); replace HO_6 := jA.mk (Kd.zP (v := (.slice (some ⟨go25, 0, none⟩) x7_3.length co26)) (v1 := (.slice (some ⟨go25, 0, none⟩) x7_3.length co26)) (ok := (fun k_ => some k_ ≠ (.slice (some ad369) t353.length co14 : Value).ownBlock)) (rR_ HO_6) hg (.inl rfl)); replace HO_7 := jA.mk (hp_); replace HB := jA.mk ((by rw [hw]; exact zI (HB.out) GB25.out : Below w.heap.size w w28)); clear hg hw hp_))
              repeat (go_quiet (first | (go_at_call 69; (with_reducible refine (jg.calls _ _ t356 x11_3 t370 _ ?side1 ?side2 A23.out).mono ?_); (case side1 => exact cc_ (Kd.jF HO_6.out).2.2); (case side2 => exact (Kd.jF HO_6.out).2.1); rintro e w' ⟨rfl, ⟨nd, rfl⟩⟩; (try first | exact ⟨rfl, _, World.drewN_drewN _ _ _⟩ | exact ⟨rfl, _, Eq.trans (World.drewN_drewN _ _ _) (congrArg (World.drewN _) (Nat.add_assoc _ _ _))⟩); have p25 : 0 ≤ ((ji18) : Int) := of_decide_eq_true am_; have q25 : ((ji18) : Int) < ((x7_3.length : Int) : Int) := of_decide_eq_true am_; obtain ⟨go25, co25, eo25, gb25, gl25, cl25, HG25⟩ := Kd.jAA HO_7.out (by omega); (first | cases eo25 | (injection eo25 with ea_ en_ ec_; (first | subst ea_ | (injection ea_ with ea_; subst ea_)); subst ec_; clear en_)); have GB25 := jA.mk gb25; have GG25 := jA.mk HG25; clear gb25 gl25 HG25; (first | simp only [add_plain] at hx368_0 | skip); obtain ⟨hx25_0, hf25_0⟩ := Kd.zJ 0 HO_7.out ((ji18) : Int) p25 q25; replace p25 := eq_true p25; replace q25 := eq_true q25; obtain ⟨hy27_, hz27_⟩ := Kd.zJ 0 HO_7.out ((ji18) : Int) (of_decide_eq_true am_) (of_decide_eq_true am_); have HP27 := Kd.qz HO_7.out ((ji18) : Int) ji24) | ((with_reducible refine qD (t := 22) (p := 70) rfl ?_); (try (rw [jAJ wr]; generalize hq_ : World.drewN wr _ = wr; replace HO_5 := jA.mk (Kd.R_at hq_ HO_5.out); replace HO_6 := jA.mk (Kd.R_at hq_ HO_6.out); replace HO_7 := jA.mk (Kd.R_at hq_ HO_7.out); replace HB := jA.mk (jBY hq_ HB.out); clear hq_; (try (obtain ⟨hy27_, hz27_⟩ := Kd.zJ 0 HO_7.out ((ji18) : Int) (of_decide_eq_true am_) (of_decide_eq_true am_))); (try (have HP27 := Kd.qz HO_7.out ((ji18) : Int) ji24)))); refine zm (t := 22) (p := 70) (v := ?vo_w28) (w1 := (wr.setCell ⟨go25, ((ji18) : Int).toNat, none⟩ (.int .u64 ji24))) ?hg ?ho ?hn ?hr ?_; (case ho => rfl); (case hg => rfl); (case hn => rfl); (case hr => exact gs_); intro w28 hw; have hg : wr.grownBy w28 (some go25) := (by rw [hw]; exact HP27.2); have hp_ : Kd.R (Kd.int .u64) 22 w28 w.heap.size (fun k_ => some k_ ≠ (.slice (some ad369) t353.length co14 : Value).ownBlock ∧ some k_ ≠ (.slice Ao15 t356.length co15 : Value).ownBlock) (.slice (some ⟨go25, 0, none⟩) x7_3.length co26) y371 := (by rw [hw, Ny371.out]; exact HP27.1); clear HP27; replace HO_5 := jA.mk (Kd.zP (v := (.slice (some ⟨go25, 0, none⟩) x7_3.length co26)) (v1 := (.slice (some ⟨go25, 0, none⟩) x7_3.length co26)) (ok := (fun k_ => some k_ ≠ (.slice Ao15 t356.length co15 : Value).ownBlock)) (rR_ HO_5) hg (.inl rfl)); replace HO_6 := jA.mk (Kd.zP (v := (.slice (some ⟨go25, 0, none⟩) x7_3.length co26)) (v1 := (.slice (some ⟨go25, 0, none⟩) x7_3.length co26)) (ok := (fun k_ => some k_ ≠ (.slice (some ad369) t353.length co14 : Value).ownBlock)) (rR_ HO_6) hg (.inl rfl)); replace HO_7 := jA.mk (hp_); replace HB := jA.mk ((by rw [hw]; exact zI (HB.out) GB25.out : Below w.heap.size w w28)); clear hg hw hp_)); try go_wp2_with (first | (go_at_call 69; (with_reducible refine (jg.calls _ _ t356 x11_3 t370 _ ?side1 ?side2 A23.out).mono ?_); (case side1 => exact cc_ (Kd.jF HO_6.out).2.2); (case side2 => exact (Kd.jF HO_6.out).2.1); rintro e w' ⟨rfl, ⟨nd, rfl⟩⟩; (try first | exact ⟨rfl, _, World.drewN_drewN _ _ _⟩ | exact ⟨rfl, _, Eq.trans (World.drewN_drewN _ _ _) (congrArg (World.drewN _) (Nat.add_assoc _ _ _))⟩); have p25 : 0 ≤ ((ji18) : Int) := of_decide_eq_true am_; have q25 : ((ji18) : Int) < ((x7_3.length : Int) : Int) := of_decide_eq_true am_; obtain ⟨go25, co25, eo25, gb25, gl25, cl25, HG25⟩ := Kd.jAA HO_7.out (by omega); (first | cases eo25 | (injection eo25 with ea_ en_ ec_; (first | subst ea_ | (injection ea_ with ea_; subst ea_)); subst ec_; clear en_)); have GB25 := jA.mk gb25; have GG25 := jA.mk HG25; clear gb25 gl25 HG25; (first | simp only [add_plain] at hx368_0 | skip); obtain ⟨hx25_0, hf25_0⟩ := Kd.zJ 0 HO_7.out ((ji18) : Int) p25 q25; replace p25 := eq_true p25; replace q25 := eq_true q25; obtain ⟨hy27_, hz27_⟩ := Kd.zJ 0 HO_7.out ((ji18) : Int) (of_decide_eq_true am_) (of_decide_eq_true am_); have HP27 := Kd.qz HO_7.out ((ji18) : Int) ji24) | ((with_reducible refine qD (t := 22) (p := 70) rfl ?_); (try (rw [jAJ wr]; generalize hq_ : World.drewN wr _ = wr; replace HO_5 := jA.mk (Kd.R_at hq_ HO_5.out); replace HO_6 := jA.mk (Kd.R_at hq_ HO_6.out); replace HO_7 := jA.mk (Kd.R_at hq_ HO_7.out); replace HB := jA.mk (jBY hq_ HB.out); clear hq_; (try (obtain ⟨hy27_, hz27_⟩ := Kd.zJ 0 HO_7.out ((ji18) : Int) (of_decide_eq_true am_) (of_decide_eq_true am_))); (try (have HP27 := Kd.qz HO_7.out ((ji18) : Int) ji24)))); refine zm (t := 22) (p := 70) (v := ?vo_w28) (w1 := (wr.setCell ⟨go25, ((ji18) : Int).toNat, none⟩ (.int .u64 ji24))) ?hg ?ho ?hn ?hr ?_; (case ho => rfl); (case hg => rfl); (case hn => rfl); (case hr => exact gs_); intro w28 hw; have hg : wr.grownBy w28 (some go25) := (by rw [hw]; exact HP27.2); have hp_ : Kd.R (Kd.int .u64) 22 w28 w.heap.size (fun k_ => some k_ ≠ (.slice (some ad369) t353.length co14 : Value).ownBlock ∧ some k_ ≠ (.slice Ao15 t356.length co15 : Value).ownBlock) (.slice (some ⟨go25, 0, none⟩) x7_3.length co26) y371 := (by rw [hw, Ny371.out]; exact HP27.1); clear HP27; replace HO_5 := jA.mk (Kd.zP (v := (.slice (some ⟨go25, 0, none⟩) x7_3.length co26)) (v1 := (.slice (some ⟨go25, 0, none⟩) x7_3.length co26)) (ok := (fun k_ => some k_ ≠ (.slice Ao15 t356.length co15 : Value).ownBlock)) (rR_ HO_5) hg (.inl rfl)); replace HO_6 := jA.mk (Kd.zP (v := (.slice (some ⟨go25, 0, none⟩) x7_3.length co26)) (v1 := (.slice (some ⟨go25, 0, none⟩) x7_3.length co26)) (ok := (fun k_ => some k_ ≠ (.slice (some ad369) t353.length co14 : Value).ownBlock)) (rR_ HO_6) hg (.inl rfl)); replace HO_7 := jA.mk (hp_); replace HB := jA.mk ((by rw [hw]; exact zI (HB.out) GB25.out : Below w.heap.size w w28)); clear hg hw hp_)))
              go_roundg k3
              case measure => have := HK1.out; have := HK2.out; have := HK3.out; omega
              case rel => exact ⟨(y371), (IntKind.u64.wrap (Int.tdiv (IntKind.u64.wrap ((IntKind.u64.wrap ((rd x7_3 (ji18)) + (IntKind.u64.wrap ((rd t353 x9_2) * t370)))) + x10_3)) 4294967296)), (wrap64 (x11_3 + 1)), (by first | rfl | (simp; done) | (simp only [← hji18] <;> (first | rfl | simp)) | (simp [*]; done)), sd_, H', ⟨by have := HK1.out; have := HK2.out; have := HK3.out; omega⟩, ⟨(rR_ HO_5)⟩, ⟨(rR_ HO_6)⟩, ⟨(rR_ HO_7)⟩, ⟨(bb_ HB)⟩⟩
             ·
              rw [if_neg c22] at H
              exact absurd H (by simp)
            ·
             rw [if_neg c21] at H
             exact absurd H (by simp)
           ·
            rw [if_neg c20] at H
            exact absurd H (by simp)
          ·
           rw [if_neg c19] at H
           exact absurd H (by simp)
         ·
          rw [if_neg c17] at H
          have c17b0 := decide_eq_false c17
          clear c17
          by_cases c29 : x10_3 > 0
          ·
           rw [if_pos c29] at H
           have c29b0 := decide_eq_true c29
           clear c29
           obtain ⟨ji30, hji30⟩ : ∃ j_ : Int, (wrap64 (x9_2 + x11_3)) = j_ := ⟨_, rfl⟩
           replace H : (if 0 ≤ (ji30) then (if (ji30) < (x7_3.length : Int) then (if 0 ≤ x9_2 then (if x9_2 < (t353.length : Int) then ((jg.f t356 x11_3).bind fun t374 => (jE.l2 k3 t353 t356 (x7_3.set ((ji30) : Int).toNat (Int.tmod (IntKind.u64.wrap ((IntKind.u64.wrap ((rd x7_3 (ji30)) + (IntKind.u64.wrap ((rd t353 x9_2) * t374)))) + x10_3)) 4294967296)) x9_2 (IntKind.u64.wrap (Int.tdiv (IntKind.u64.wrap ((IntKind.u64.wrap ((rd x7_3 (ji30)) + (IntKind.u64.wrap ((rd t353 x9_2) * t374)))) + x10_3)) 4294967296)) (wrap64 (x11_3 + 1)))) else (none)) else (none)) else (none)) else (none)) = some r := by first | (rw [hji30] at H; exact H) | (simp only [hji30] at H ⊢; exact H)
           have hji30w : (IntKind.i64.wrap (x9_2 + x11_3)) = ji30 := (zF _).trans hji30
           by_cases c31 : 0 ≤ (ji30)
           ·
            rw [if_pos c31] at H
            have c31b0 := decide_eq_true c31
            clear c31
            by_cases c32 : (ji30) < (x7_3.length : Int)
            ·
             rw [if_pos c32] at H
             have c32b0 := decide_eq_true c32
             clear c32
             by_cases c33 : 0 ≤ x9_2
             ·
              rw [if_pos c33] at H
              have c33b0 := decide_eq_true c33
              clear c33
              by_cases c34 : x9_2 < (t353.length : Int)
              ·
               rw [if_pos c34] at H
               have c34b0 := decide_eq_true c34
               clear c34
               replace H := ob_ H
               obtain ⟨t374, A350, H⟩ := H
               try dsimp only at H
               have A35 := jA.mk A350
               clear A350
               obtain ⟨ji36, hji36⟩ : ∃ j_ : Int, (Int.tmod (IntKind.u64.wrap ((IntKind.u64.wrap ((rd x7_3 (ji30)) + (IntKind.u64.wrap ((rd t353 x9_2) * t374)))) + x10_3)) 4294967296) = j_ := ⟨_, rfl⟩
               replace H : (jE.l2 k3 t353 t356 (x7_3.set ((ji30) : Int).toNat (ji36)) x9_2 (IntKind.u64.wrap (Int.tdiv (IntKind.u64.wrap ((IntKind.u64.wrap ((rd x7_3 (ji30)) + (IntKind.u64.wrap ((rd t353 x9_2) * t374)))) + x10_3)) 4294967296)) (wrap64 (x11_3 + 1))) = some r := by first | (rw [hji36] at H; exact H) | (simp only [hji36] at H ⊢; exact H)
               (try rw [hji36] at A35)
               obtain ⟨y375, hy375⟩ : ∃ y_ : List Int, y_ = (x7_3.set ((ji30) : Int).toNat (ji36)) := ⟨_, rfl⟩
               replace H : (jE.l2 k3 t353 t356 y375 x9_2 (IntKind.u64.wrap (Int.tdiv (IntKind.u64.wrap ((IntKind.u64.wrap ((rd x7_3 (ji30)) + (IntKind.u64.wrap ((rd t353 x9_2) * t374)))) + x10_3)) 4294967296)) (wrap64 (x11_3 + 1))) = some r := by first | (rw [hy375]; with_reducible exact H) | (have H2_ := (Option.bind_some _ _).symm.trans H; rw [hy375]; with_reducible exact H2_) | (with_reducible exact hs_ H) | with_reducible exact H | (rw [hy375]; exact H) | exact H
               have Ny375 := jA.mk hy375
               clear hy375
               have H' := jA.mk H
               clear H
               obtain ⟨Ao38, co38, eo38⟩ := Kd.jm HO_7.out
               subst eo38
               have p372 : 0 ≤ ((ji30) : Int) := of_decide_eq_true am_
               have q372 : (ji30) < (x7_3.length : Int) := of_decide_eq_true am_
               obtain ⟨ad372, e372, hx372_0⟩ := Kd.zD (Kd.jF HO_7.out).2.2 (ji30) p372 q372
               cases e372
               replace p372 := eq_true p372
               replace q372 := eq_true q372
               have p373 : 0 ≤ (x9_2 : Int) := of_decide_eq_true am_
               have q373 : x9_2 < (t353.length : Int) := of_decide_eq_true am_
               obtain ⟨ad373, e373, hx373_0⟩ := Kd.zD (Kd.jF HO_5.out).2.2 x9_2 p373 q373
               cases e373
               replace p373 := eq_true p373
               replace q373 := eq_true q373
               go_wp2_with (first | (go_at_call 69; (with_reducible refine (jg.calls _ _ t356 x11_3 t374 _ ?side1 ?side2 A35.out).mono ?_); (case side1 => exact cc_ (Kd.jF HO_6.out).2.2); (case side2 => exact (Kd.jF HO_6.out).2.1); rintro e w' ⟨rfl, ⟨nd, rfl⟩⟩; (try first | exact ⟨rfl, _, World.drewN_drewN _ _ _⟩ | exact ⟨rfl, _, Eq.trans (World.drewN_drewN _ _ _) (congrArg (World.drewN _) (Nat.add_assoc _ _ _))⟩); have p37 : 0 ≤ ((ji30) : Int) := of_decide_eq_true am_; have q37 : ((ji30) : Int) < ((x7_3.length : Int) : Int) := of_decide_eq_true am_; obtain ⟨go37, co37, eo37, gb37, gl37, cl37, HG37⟩ := Kd.jAA HO_7.out (by omega); (first | cases eo37 | (injection eo37 with ea_ en_ ec_; (first | subst ea_ | (injection ea_ with ea_; subst ea_)); subst ec_; clear en_)); have GB37 := jA.mk gb37; have GG37 := jA.mk HG37; clear gb37 gl37 HG37; (first | simp only [add_plain] at hx372_0 | skip); obtain ⟨hx37_0, hf37_0⟩ := Kd.zJ 0 HO_7.out ((ji30) : Int) p37 q37; replace p37 := eq_true p37; replace q37 := eq_true q37; obtain ⟨hy39_, hz39_⟩ := Kd.zJ 0 HO_7.out ((ji30) : Int) (of_decide_eq_true am_) (of_decide_eq_true am_); have HP39 := Kd.qz HO_7.out ((ji30) : Int) ji36) | ((with_reducible refine qD (t := 22) (p := 70) rfl ?_); (try (rw [jAJ wr]; generalize hq_ : World.drewN wr _ = wr; replace HO_5 := jA.mk (Kd.R_at hq_ HO_5.out); replace HO_6 := jA.mk (Kd.R_at hq_ HO_6.out); replace HO_7 := jA.mk (Kd.R_at hq_ HO_7.out); replace HB := jA.mk (jBY hq_ HB.out); clear hq_; (try (obtain ⟨hy39_, hz39_⟩ := Kd.zJ 0 HO_7.out ((ji30) : Int) (of_decide_eq_true am_) (of_decide_eq_true am_))); (try (have HP39 := Kd.qz HO_7.out ((ji30) : Int) ji36)))); refine zm (t := 22) (p := 70) (v := ?vo_w40) (w1 := (wr.setCell ⟨go37, ((ji30) : Int).toNat, none⟩ (.int .u64 ji36))) ?hg ?ho ?hn ?hr ?_; (case ho => rfl); (case hg => rfl); (case hn => rfl); (case hr => exact gs_); intro w40 hw; have hg : wr.grownBy w40 (some go37) := (by rw [hw]; exact HP39.2); have hp_ : Kd.R (Kd.int .u64) 22 w40 w.heap.size (fun k_ => some k_ ≠ (.slice (some ad373) t353.length co14 : Value).ownBlock ∧ some k_ ≠ (.slice Ao15 t356.length co15 : Value).ownBlock) (.slice (some ⟨go37, 0, none⟩) x7_3.length co38) y375 := (by rw [hw, Ny375.out]; exact HP39.1); clear HP39; replace HO_5 := jA.mk (Kd.zP (v := (.slice (some ⟨go37, 0, none⟩) x7_3.length co38)) (v1 := (.slice (some ⟨go37, 0, none⟩) x7_3.length co38)) (ok := (fun k_ => some k_ ≠ (.slice Ao15 t356.length co15 : Value).ownBlock)) (rR_ HO_5) hg (.inl rfl)); replace HO_6 := jA.mk (Kd.zP (v := (.slice (some ⟨go37, 0, none⟩) x7_3.length co38)) (v1 := (.slice (some ⟨go37, 0, none⟩) x7_3.length co38)) (ok := (fun k_ => some k_ ≠ (.slice (some ad373) t353.length co14 : Value).ownBlock)) (rR_ HO_6) hg (.inl rfl)); replace HO_7 := jA.mk (hp_); replace HB := jA.mk ((by rw [hw]; exact zI (HB.out) GB37.out : Below w.heap.size w w40)); clear hg hw hp_))
               repeat (go_quiet (first | (go_at_call 69; (with_reducible refine (jg.calls _ _ t356 x11_3 t374 _ ?side1 ?side2 A35.out).mono ?_); (case side1 => exact cc_ (Kd.jF HO_6.out).2.2); (case side2 => exact (Kd.jF HO_6.out).2.1); rintro e w' ⟨rfl, ⟨nd, rfl⟩⟩; (try first | exact ⟨rfl, _, World.drewN_drewN _ _ _⟩ | exact ⟨rfl, _, Eq.trans (World.drewN_drewN _ _ _) (congrArg (World.drewN _) (Nat.add_assoc _ _ _))⟩); have p37 : 0 ≤ ((ji30) : Int) := of_decide_eq_true am_; have q37 : ((ji30) : Int) < ((x7_3.length : Int) : Int) := of_decide_eq_true am_; obtain ⟨go37, co37, eo37, gb37, gl37, cl37, HG37⟩ := Kd.jAA HO_7.out (by omega); (first | cases eo37 | (injection eo37 with ea_ en_ ec_; (first | subst ea_ | (injection ea_ with ea_; subst ea_)); subst ec_; clear en_)); have GB37 := jA.mk gb37; have GG37 := jA.mk HG37; clear gb37 gl37 HG37; (first | simp only [add_plain] at hx372_0 | skip); obtain ⟨hx37_0, hf37_0⟩ := Kd.zJ 0 HO_7.out ((ji30) : Int) p37 q37; replace p37 := eq_true p37; replace q37 := eq_true q37; obtain ⟨hy39_, hz39_⟩ := Kd.zJ 0 HO_7.out ((ji30) : Int) (of_decide_eq_true am_) (of_decide_eq_true am_); have HP39 := Kd.qz HO_7.out ((ji30) : Int) ji36) | ((with_reducible refine qD (t := 22) (p := 70) rfl ?_); (try (rw [jAJ wr]; generalize hq_ : World.drewN wr _ = wr; replace HO_5 := jA.mk (Kd.R_at hq_ HO_5.out); replace HO_6 := jA.mk (Kd.R_at hq_ HO_6.out); replace HO_7 := jA.mk (Kd.R_at hq_ HO_7.out); replace HB := jA.mk (jBY hq_ HB.out); clear hq_; (try (obtain ⟨hy39_, hz39_⟩ := Kd.zJ 0 HO_7.out ((ji30) : Int) (of_decide_eq_true am_) (of_decide_eq_true am_))); (try (have HP39 := Kd.qz HO_7.out ((ji30) : Int) ji36)))); refine zm (t := 22) (p := 70) (v := ?vo_w40) (w1 := (wr.setCell ⟨go37, ((ji30) : Int).toNat, none⟩ (.int .u64 ji36))) ?hg ?ho ?hn ?hr ?_; (case ho => rfl); (case hg => rfl); (case hn => rfl); (case hr => exact gs_); intro w40 hw; have hg : wr.grownBy w40 (some go37) := (by rw [hw]; exact HP39.2); have hp_ : Kd.R (Kd.int .u64) 22 w40 w.heap.size (fun k_ => some k_ ≠ (.slice (some ad373) t353.length co14 : Value).ownBlock ∧ some k_ ≠ (.slice Ao15 t356.length co15 : Value).ownBlock) (.slice (some ⟨go37, 0, none⟩) x7_3.length co38) y375 := (by rw [hw, Ny375.out]; exact HP39.1); clear HP39; replace HO_5 := jA.mk (Kd.zP (v := (.slice (some ⟨go37, 0, none⟩) x7_3.length co38)) (v1 := (.slice (some ⟨go37, 0, none⟩) x7_3.length co38)) (ok := (fun k_ => some k_ ≠ (.slice Ao15 t356.length co15 : Value).ownBlock)) (rR_ HO_5) hg (.inl rfl)); replace HO_6 := jA.mk (Kd.zP (v := (.slice (some ⟨go37, 0, none⟩) x7_3.length co38)) (v1 := (.slice (some ⟨go37, 0, none⟩) x7_3.length co38)) (ok := (fun k_ => some k_ ≠ (.slice (some ad373) t353.length co14 : Value).ownBlock)) (rR_ HO_6) hg (.inl rfl)); replace HO_7 := jA.mk (hp_); replace HB := jA.mk ((by rw [hw]; exact zI (HB.out) GB37.out : Below w.heap.size w w40)); clear hg hw hp_)); try go_wp2_with (first | (go_at_call 69; (with_reducible refine (jg.calls _ _ t356 x11_3 t374 _ ?side1 ?side2 A35.out).mono ?_); (case side1 => exact cc_ (Kd.jF HO_6.out).2.2); (case side2 => exact (Kd.jF HO_6.out).2.1); rintro e w' ⟨rfl, ⟨nd, rfl⟩⟩; (try first | exact ⟨rfl, _, World.drewN_drewN _ _ _⟩ | exact ⟨rfl, _, Eq.trans (World.drewN_drewN _ _ _) (congrArg (World.drewN _) (Nat.add_assoc _ _ _))⟩); have p37 : 0 ≤ ((ji30) : Int) := of_decide_eq_true am_; have q37 : ((ji30) : Int) < ((x7_3.length : Int) : Int) := of_decide_eq_true am_; obtain ⟨go37, co37, eo37, gb37, gl37, cl37, HG37⟩ := Kd.jAA HO_7.out (by omega); (first | cases eo37 | (injection eo37 with ea_ en_ ec_; (first | subst ea_ | (injection ea_ with ea_; subst ea_)); subst ec_; clear en_)); have GB37 := jA.mk gb37; have GG37 := jA.mk HG37; clear gb37 gl37 HG37; (first | simp only [add_plain] at hx372_0 | skip); obtain ⟨hx37_0, hf37_0⟩ := Kd.zJ 0 HO_7.out ((ji30) : Int) p37 q37; replace p37 := eq_true p37; replace q37 := eq_true q37; obtain ⟨hy39_, hz39_⟩ := Kd.zJ 0 HO_7.out ((ji30) : Int) (of_decide_eq_true am_) (of_decide_eq_true am_); have HP39 := Kd.qz HO_7.out ((ji30) : Int) ji36) | ((with_reducible refine qD (t := 22) (p := 70) rfl ?_); (try (rw [jAJ wr]; generalize hq_ : World.drewN wr _ = wr; replace HO_5 := jA.mk (Kd.R_at hq_ HO_5.out); replace HO_6 := jA.mk (Kd.R_at hq_ HO_6.out); replace HO_7 := jA.mk (Kd.R_at hq_ HO_7.out); replace HB := jA.mk (jBY hq_ HB.out); clear hq_; (try (obtain ⟨hy39_, hz39_⟩ := Kd.zJ 0 HO_7.out ((ji30) : Int) (of_decide_eq_true am_) (of_decide_eq_true am_))); (try (have HP39 := Kd.qz HO_7.out ((ji30) : Int) ji36)))); refine zm (t := 22) (p := 70) (v := ?vo_w40) (w1 := (wr.setCell ⟨go37, ((ji30) : Int).toNat, none⟩ (.int .u64 ji36))) ?hg ?ho ?hn ?hr ?_; (case ho => rfl); (case hg => rfl); (case hn => rfl); (case hr => exact gs_); intro w40 hw; have hg : wr.grownBy w40 (some go37) := (by rw [hw]; exact HP39.2); have hp_ : Kd.R (Kd.int .u64) 22 w40 w.heap.size (fun k_ => some k_ ≠ (.slice (some ad373) t353.length co14 : Value).ownBlock ∧ some k_ ≠ (.slice Ao15 t356.length co15 : Value).ownBlock) (.slice (some ⟨go37, 0, none⟩) x7_3.length co38) y375 := (by rw [hw, Ny375.out]; exact HP39.1); clear HP39; replace HO_5 := jA.mk (Kd.zP (v := (.slice (some ⟨go37, 0, none⟩) x7_3.length co38)) (v1 := (.slice (some ⟨go37, 0, none⟩) x7_3.length co38)) (ok := (fun k_ => some k_ ≠ (.slice Ao15 t356.length co15 : Value).ownBlock)) (rR_ HO_5) hg (.inl rfl)); replace HO_6 := jA.mk (Kd.zP (v := (.slice (some ⟨go37, 0, none⟩) x7_3.length co38)) (v1 := (.slice (some ⟨go37, 0, none⟩) x7_3.length co38)) (ok := (fun k_ => some k_ ≠ (.slice (some ad373) t353.length co14 : Value).ownBlock)) (rR_ HO_6) hg (.inl rfl)); replace HO_7 := jA.mk (hp_); replace HB := jA.mk ((by rw [hw]; exact zI (HB.out) GB37.out : Below w.heap.size w w40)); clear hg hw hp_)))
               go_roundg k3
               case measure => have := HK1.out; have := HK2.out; have := HK3.out; omega
               case rel => exact ⟨(y375), (IntKind.u64.wrap (Int.tdiv (IntKind.u64.wrap ((IntKind.u64.wrap ((rd x7_3 (ji30)) + (IntKind.u64.wrap ((rd t353 x9_2) * t374)))) + x10_3)) 4294967296)), (wrap64 (x11_3 + 1)), (by first | rfl | (simp; done) | (simp only [← hji30] <;> (first | rfl | simp)) | (simp [*]; done)), sd_, H', ⟨by have := HK1.out; have := HK2.out; have := HK3.out; omega⟩, ⟨(rR_ HO_5)⟩, ⟨(rR_ HO_6)⟩, ⟨(rR_ HO_7)⟩, ⟨(bb_ HB)⟩⟩
              ·
               rw [if_neg c34] at H
               exact absurd H (by simp)
             ·
              rw [if_neg c33] at H
              exact absurd H (by simp)
            ·
             rw [if_neg c32] at H
             exact absurd H (by simp)
           ·
            rw [if_neg c31] at H
            exact absurd H (by simp)
          ·
           rw [if_neg c29] at H
           have c29b0 := decide_eq_false c29
           clear c29
           have H' := jA.mk H
           clear H
           go_wp2
           repeat (go_quiet (fail); try go_wp2)
           go_roundg k3
           case measure => have := HK1.out; have := HK2.out; have := HK3.out; omega
           case rel => exact ⟨(x7_3), (wrap64 (x9_2 + 1)), sd_, H', ⟨by have := HK1.out; have := HK2.out; have := HK3.out; omega⟩, ⟨(rR_ HO_5)⟩, ⟨(rR_ HO_6)⟩, ⟨(rR_ HO_7)⟩, ⟨(bb_ HB)⟩⟩
      ·
       rw [if_neg c16] at H
       have c16b0 := decide_eq_false c16
       clear c16
       replace H := ob_ H
       obtain ⟨t365, A410, H⟩ := H
       replace H : (some t365) = some r := H
       have A41 := jA.mk A410
       clear A410
       obtain rfl := Option.some.inj H
       obtain ⟨Ao42, co42, eo42⟩ := Kd.jm HO_7.out
       subst eo42
       go_wp2_with (first | (go_at_call 70; (with_reducible refine (jI.calls k2 _ _ x7_2 t365 _ ?side1 ?side2 A41.out).mono ?_); (case side1 => exact cc_ (Kd.jF HO_7.out).2.2); (case side2 => exact (Kd.jF HO_7.out).2.1); rintro e w43 ⟨v366, rfl, ho0, hb⟩; have HO367 := jA.mk (Kd.jU (Kd.jR (Kd.jR (Kd.jR ho0 (Kd.R_lt (rR_ HO_5))) (Kd.R_lt (rR_ HO_6))) (Kd.R_lt (rR_ HO_7))) (jB (bb_ HB))); replace HO_5 := re_ HO_5 ho0 hb; replace HO_6 := re_ HO_6 ho0 hb; replace HO_7 := re_ HO_7 ho0 hb; replace HB := bs_ HB hb))
       repeat (go_quiet (first | (go_at_call 70; (with_reducible refine (jI.calls k2 _ _ x7_2 t365 _ ?side1 ?side2 A41.out).mono ?_); (case side1 => exact cc_ (Kd.jF HO_7.out).2.2); (case side2 => exact (Kd.jF HO_7.out).2.1); rintro e w43 ⟨v366, rfl, ho0, hb⟩; have HO367 := jA.mk (Kd.jU (Kd.jR (Kd.jR (Kd.jR ho0 (Kd.R_lt (rR_ HO_5))) (Kd.R_lt (rR_ HO_6))) (Kd.R_lt (rR_ HO_7))) (jB (bb_ HB))); replace HO_5 := re_ HO_5 ho0 hb; replace HO_6 := re_ HO_6 ho0 hb; replace HO_7 := re_ HO_7 ho0 hb; replace HB := bs_ HB hb)); try go_wp2_with (first | (go_at_call 70; (with_reducible refine (jI.calls k2 _ _ x7_2 t365 _ ?side1 ?side2 A41.out).mono ?_); (case side1 => exact cc_ (Kd.jF HO_7.out).2.2); (case side2 => exact (Kd.jF HO_7.out).2.1); rintro e w43 ⟨v366, rfl, ho0, hb⟩; have HO367 := jA.mk (Kd.jU (Kd.jR (Kd.jR (Kd.jR ho0 (Kd.R_lt (rR_ HO_5))) (Kd.R_lt (rR_ HO_6))) (Kd.R_lt (rR_ HO_7))) (jB (bb_ HB))); replace HO_5 := re_ HO_5 ho0 hb; replace HO_6 := re_ HO_6 ho0 hb; replace HO_7 := re_ HO_7 ho0 hb; replace HB := bs_ HB hb)))
       go_ret
       exact ⟨_, ew_, by refine pR_ ?_; exact Kd.jk HO367.out (fun _ hk => trivial), (bb_ HB)⟩

end Go.Proofs.Ytijgeonhbmgikaa.POOctetGets
