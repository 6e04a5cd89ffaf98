-- printed (pr.py)
import Derived.Test.YtijgeonhbmgikaaPORatioSumsx0
import Derived.Test.YtijgeonhbmgikaaPORatioSumsx1
import Derived.Test.YtijgeonhbmgikaaPORatioSumsx10
import Derived.Test.YtijgeonhbmgikaaPORatioSumsx11
import Derived.Test.YtijgeonhbmgikaaPORatioSumsx15
namespace Go.Proofs.Ytijgeonhbmgikaa.PORatioSums
open Go.RowKit Go.Proofs.YtijgeonhbmgikaaN Go.Proofs.YtijgeonhbmgikaaW.PrintWords Go.Proofs.YtijgeonhbmgikaaW.PrintLast Go.Proofs.YtijgeonhbmgikaaW.PrintMore
attribute [local go_sem] qV qR qy qx qA zy qU qP
set_option maxHeartbeats 8000000
set_option maxRecDepth 100000

/-! ### syzygylaw05_RatioSums: function 8 -/
mutual
def syzygylaw05_RatioSums.j0 : Nat → List Int → List Int → Int → Bool → Option (Bool)
 | 0, _, _, _, _ => none
 | k + 1, x0, x1, x2, x26 => if x26 = true then ((vN.f k).bind fun t634 => (some t634)) else (syzygylaw05_RatioSums.l0 k x0 x1 x2 (([] : List (S44))) 0)
def syzygylaw05_RatioSums.j2 : Nat → Int → List (S44) → Option (Bool)
 | 0, _, _ => none
 | k + 1, x2, x7 => if (wrap64 ((x7.length : Int) + 1)) = 0 then (none) else ((some (([] : List (S44)) : List (S44))).bind fun y651 => (if 0 ≤ (Int.tmod (wrap64 (x2)) (wrap64 ((x7.length : Int) + 1))) then (if (Int.tmod (wrap64 (x2)) (wrap64 ((x7.length : Int) + 1))) ≤ (x7.length : Int) then ((some (x7.drop ((Int.tmod (wrap64 (x2)) (wrap64 ((x7.length : Int) + 1))) : Int).toNat : List (S44))).bind fun y654 => (if y651.length + y654.length < 2513169434916 then ((some (y651 ++ y654 : List (S44))).bind fun y659 => ((zH.f 0).bind fun bt662 => (if y659.length < 2513169434916 then ((some (y659 ++ [(⟨bt662.1, bt662.2.1, bt662.2.2⟩ : S44)] : List (S44))).bind fun y669 => ((some (x7.take ((Int.tmod (wrap64 (x2)) (wrap64 ((x7.length : Int) + 1))) : Int).toNat : List (S44))).bind fun y672 => (if y669.length + y672.length < 2513169434916 then ((vG.f k x7).bind fun bt680 => ((vG.f k (y669 ++ y672)).bind fun bt689 => (if bt680.2.2.2 = 0 then (if bt689.2.2.2 = 0 then ((jh.f k bt680.1 bt680.2.1 bt680.2.2.1 bt689.1 bt689.2.1 bt689.2.2.1).bind fun t698 => (some t698)) else (some false)) else (some false)))) else (none)))) else (none)))) else (none))) else (none)) else (none)))
def syzygylaw05_RatioSums.l0 : Nat → List Int → List Int → Int → List (S44) → Int → Option (Bool)
 | 0, _, _, _, _, _ => none
 | k + 1, x0, x1, x2, x7, x8 => if x8 < (x0.length : Int) then (if x8 < (x1.length : Int) then (if 0 ≤ x8 then ((zJ.f k (decide ((rd x0 x8) < 0)) ((Go.bits .and .i8 (rd x0 x8) 127) % 4294967296) (((rd x1 x8) % 4294967296) % 9)).bind fun bt641 => (if x7.length < 2513169434916 then (syzygylaw05_RatioSums.l0 k x0 x1 x2 (x7 ++ [(⟨bt641.1, bt641.2.1, bt641.2.2⟩ : S44)]) (wrap64 (x8 + 1))) else (none))) else (none)) else (syzygylaw05_RatioSums.j2 k x2 x7)) else (syzygylaw05_RatioSums.j2 k x2 x7)
end
def syzygylaw05_RatioSums.f (k : Nat) (l0 : List Int) (l1 : List Int) (a2 : Int) : Option (Bool) := if (l0.length : Int) > 8 then (syzygylaw05_RatioSums.j0 k l0 l1 a2 true) else (if (l1.length : Int) > 8 then (syzygylaw05_RatioSums.j0 k l0 l1 a2 true) else ((vN.f k).bind fun t633 => (syzygylaw05_RatioSums.j0 k l0 l1 a2 (!t633))))
theorem syzygylaw05_RatioSums.vk : ∀ k, (∀ y0 y1 y2 y3, LeO (syzygylaw05_RatioSums.j0 k y0 y1 y2 y3) (syzygylaw05_RatioSums.j0 (k + 1) y0 y1 y2 y3)) ∧ (∀ y0 y1, LeO (syzygylaw05_RatioSums.j2 k y0 y1) (syzygylaw05_RatioSums.j2 (k + 1) y0 y1)) ∧ (∀ y0 y1 y2 y3 y4, LeO (syzygylaw05_RatioSums.l0 k y0 y1 y2 y3 y4) (syzygylaw05_RatioSums.l0 (k + 1) y0 y1 y2 y3 y4))
 | 0 => ⟨fun _ _ _ _ r h => by simp [syzygylaw05_RatioSums.j0] at h, fun _ _ r h => by simp [syzygylaw05_RatioSums.j2] at h, fun _ _ _ _ _ r h => by simp [syzygylaw05_RatioSums.l0] at h⟩
 | k + 1 => by
  obtain ⟨ih0, ih1, ih2⟩ := syzygylaw05_RatioSums.vk k
  refine ⟨?_, ?_, ?_⟩ <;> (intros; first | unfold syzygylaw05_RatioSums.j0 | unfold syzygylaw05_RatioSums.j2 | unfold syzygylaw05_RatioSums.l0) <;> repeat' first
   | (with_reducible exact ih0 _ _ _ _)
   | (with_reducible exact ih1 _ _)
   | (with_reducible exact ih2 _ _ _ _ _)
   | (with_reducible exact vG.mono _ _)
   | (with_reducible exact zJ.mono _ _ _ _)
   | (with_reducible exact vN.mono _)
   | (with_reducible exact jh.mono _ _ _ _ _ _ _)
   | (with_reducible exact LeO.refl _)
   | (with_reducible exact LeO.none _)
   | (with_reducible refine LeO.ite ?_ ?_)
   | (with_reducible refine LeO.bind ?_ (fun _ => ?_))
theorem syzygylaw05_RatioSums.mono : ∀ a0 a1 a2 k, LeO (syzygylaw05_RatioSums.f k a0 a1 a2) (syzygylaw05_RatioSums.f (k + 1) a0 a1 a2) := by
 intro a0 a1 a2 k
 obtain ⟨ih0, ih1, ih2⟩ := syzygylaw05_RatioSums.vk k
 unfold syzygylaw05_RatioSums.f
 repeat' first
   | (with_reducible exact ih0 _ _ _ _)
   | (with_reducible exact ih1 _ _)
   | (with_reducible exact ih2 _ _ _ _ _)
   | (with_reducible exact vG.mono _ _)
   | (with_reducible exact zJ.mono _ _ _ _)
   | (with_reducible exact vN.mono _)
   | (with_reducible exact jh.mono _ _ _ _ _ _ _)
   | (with_reducible exact LeO.refl _)
   | (with_reducible exact LeO.none _)
   | (with_reducible refine LeO.ite ?_ ?_)
   | (with_reducible refine LeO.bind ?_ (fun _ => ?_))
def syzygylaw05_RatioSums.T7 : Bool × List (List Nat × List Nat) := (true, [([], []), ([], []), ([], []), ([1, 2], [1, 2]), ([3], [3]), ([4], [4]), ([], []), ([], []), ([6, 7], [6, 7]), ([8], [8]), ([9], [9]), ([10], [10]), ([], []), ([], []), ([12, 13], [12, 13]), ([14], [14]), ([15], [15]), ([16], [16]), ([5, 11, 17], [5, 11, 17]), ([18], [18]), ([0, 19, 18], [0, 19]), ([20, 20, 0, 1, 2, 3, 4, 5, 6, 7, 8, 9, 10, 11, 12, 13, 14, 15, 16, 17, 18, 19, 20], [0, 20])])
def syzygylaw05_RatioSums.B7 : List Nat := [0, 0, 0, 6, 14, 30, 0, 0, 192, 448, 960, 1984, 0, 0, 12288, 28672, 61440, 126976, 262142, 524286, 1048575, 2097151]
theorem syzygylaw05_RatioSums.tab7 : rtab .any (opsOf Try.f8 7) = syzygylaw05_RatioSums.T7 := by kernel_rfl
theorem syzygylaw05_RatioSums.jKP : jAk syzygylaw05_RatioSums.T7.2 syzygylaw05_RatioSums.B7 = true := by kernel_rfl
theorem syzygylaw05_RatioSums.calls (k : Nat) (A0 : Option Addr) (c0 : Nat) (l0 : List Int) (A1 : Option Addr) (c1 : Nat) (l1 : List Int) (a2 : Int) (w : World) (hr0 : Kd.C (Kd.int .i8) w A0 l0.length l0) (hc0 : l0.length ≤ c0) (hr1 : Kd.C (Kd.int .u8) w A1 l1.length l1) (hc1 : l1.length ≤ c1) (h : syzygylaw05_RatioSums.f k l0 l1 a2 = some true) :
  Calls Try.prog 8 #[.slice A0 l0.length c0, .slice A1 l1.length c1, .int .u8 a2] w fun e w' => e = .returned (.bool true) ∧ Below w.heap.size w w' := by
 have hu44 := Try.underlying44
 have HR0 := jA.mk hr0
 have HC0 := jA.mk hc0
 clear hr0 hc0
 have HR1 := jA.mk hr1
 have HC1 := jA.mk hc1
 clear hr1 hc1
 have HB := jA.mk (Below.refl w.heap.size w)
 have H : (if (l0.length : Int) > 8 then (syzygylaw05_RatioSums.j0 k l0 l1 a2 true) else (if (l1.length : Int) > 8 then (syzygylaw05_RatioSums.j0 k l0 l1 a2 true) else ((vN.f k).bind fun t633 => (syzygylaw05_RatioSums.j0 k l0 l1 a2 (!t633))))) = some true := h
 clear h
 have HC4 := jA.mk H
 clear H
 go_enter Try.func8, Try.ntmps8
 go_upto_region 1 with (fail)
 go_cut [26] (fun v26 wc => ∃ (kq : Nat) (x26_3 : Bool), v26 = .bool x26_3 ∧ jA (syzygylaw05_RatioSums.j0 kq l0 l1 a2 x26_3 = some true) ∧ jA (kq ≤ k) ∧ jA (Below w.heap.size w wc))
 case first =>
  have H := HC4.out
  clear HC4
  by_cases c5 : (l0.length : Int) > 8
  ·
   rw [if_pos c5] at H
   have c5b0 := decide_eq_true c5
   have c5b1 : decide (8 < l0.length) = true := decide_eq_true (by omega)
   clear c5
   (first | rw [c5b0] | (simp only [jk, jo]; rw [c5b0]) | skip)
   have H' := jA.mk H
   clear H
   go_wp2
   go_meet
   case rel => exact ⟨_, (true), sd_, H', ⟨by first | omega | exact Nat.le_refl _⟩, ⟨(bb_ HB)⟩⟩
  ·
   rw [if_neg c5] at H
   have c5b0 := decide_eq_false c5
   have c5b1 : decide (8 < l0.length) = false := decide_eq_false (by omega)
   clear c5
   (first | rw [c5b0] | (simp only [jk, jo]; rw [c5b0]) | skip)
   by_cases c6 : (l1.length : Int) > 8
   ·
    rw [if_pos c6] at H
    have c6b0 := decide_eq_true c6
    have c6b1 : decide (8 < l1.length) = true := decide_eq_true (by omega)
    clear c6
    have H' := jA.mk H
    clear H
    go_wp2
    go_meet
    case rel => exact ⟨_, (true), sd_, H', ⟨by first | omega | exact Nat.le_refl _⟩, ⟨(bb_ HB)⟩⟩
   ·
    rw [if_neg c6] at H
    have c6b0 := decide_eq_false c6
    have c6b1 : decide (8 < l1.length) = false := decide_eq_false (by omega)
    clear c6
    replace H := ob_ H
    obtain ⟨t633, A70, H⟩ := H
    try dsimp only at H
    have A7 := jA.mk A70
    clear A70
    have H' := jA.mk H
    clear H
    go_wp2_with (first | ((with_reducible refine jl (N := 24) rfl ?_); (try (refine jv (by rfl) ?_; dsimp only)); refine jv (by first | rfl | kernel_rfl) ?_; dsimp only; (with_reducible refine jJ (f := 28) rfl ?_); refine jr (some 24) rfl rfl Try.func28 kr_ rfl #[] rfl mt_ ?_; (with_reducible refine (vN.calls k  t633 _ A7.out).mono ?_); rintro e w8 ⟨rfl, hb⟩; refine ⟨_, rfl, ?_⟩; have n0_ := jA.mk (jC (bb_ HB) hb); clear HB; have HB := n0_; clear n0_))
    go_meet
    case rel => exact ⟨_, (!t633), sd_, H', ⟨by first | omega | exact Nat.le_refl _⟩, ⟨(bb_ HB)⟩⟩
 case rest =>
  clear HC4
  try clear c1
  try clear c2
  try clear p2
  try clear c5
  try clear c5b0
  try clear c5b1
  try clear c6
  try clear c6b0
  try clear c6b1
  try clear c8
  obtain ⟨kq, x26_3, rfl, HA, HJ3, HB⟩ := hcut
  cases kq with
  | zero => exact absurd HA.out (by simp [syzygylaw05_RatioSums.j0])
  | succ kj3 =>
   have H := HA.out
   clear HA
   simp only [syzygylaw05_RatioSums.j0] at H
   by_cases c9 : x26_3 = true
   ·
    subst c9
    have H1 : ((vN.f kj3).bind fun t634 => (some t634)) = some true := by rw [if_pos rfl] at H; exact H
    clear H
    have H := H1
    clear H1
    replace H := ob_ H
    obtain ⟨t634, A100, H⟩ := H
    replace H : (some t634) = some true := H
    have A10 := jA.mk A100
    clear A100
    have HRT_ := jA.mk (Option.some.inj H)
    clear H
    go_wp2_with (first | ((with_reducible refine jJ (f := 28) rfl ?_); refine jr (some 27) rfl rfl Try.func28 kr_ rfl #[] rfl mt_ ?_; (with_reducible refine (vN.calls kj3  t634 _ A10.out).mono ?_); rintro e w11 ⟨rfl, hb⟩; refine ⟨_, rfl, ?_⟩; have n0_ := jA.mk (jC (bb_ HB) hb); clear HB; have HB := n0_; clear n0_))
    go_ret
    exact ⟨by first | rfl | (rw [HRT_.out]; rfl) | (simp only [HRT_.out]; done) | exact of_decide_eq_true HRT_.out | (have h_ := HRT_.out; simp at h_ ⊢; exact h_) | (have h_ := HRT_.out; simp at h_ ⊢; omega) | (have h_ := HRT_.out; simp [h_]; done) | (simp [vY, vX] <;> rfl) | (simp [*, vY, vX] <;> rfl), (bb_ HB)⟩
   ·
    replace c9 := Bool.eq_false_iff.mpr c9
    subst c9
    have H1 : (syzygylaw05_RatioSums.l0 kj3 l0 l1 a2 (([] : List (S44))) 0) = some true := by rw [if_neg (show ¬ (false = true) by decide)] at H; exact H
    clear H
    have H := H1
    clear H1
    obtain ⟨y635, hy635⟩ : ∃ y_ : List (S44), y_ = (([] : List (S44))) := ⟨_, rfl⟩
    replace H : (syzygylaw05_RatioSums.l0 kj3 l0 l1 a2 y635 0) = some true := by first | (rw [hy635]; with_reducible exact H) | (have H2_ := (Option.bind_some _ _).symm.trans H; rw [hy635]; with_reducible exact H2_) | (with_reducible exact hs_ H) | with_reducible exact H | (rw [hy635]; exact H) | exact H
    have Ny635 := jA.mk hy635
    clear hy635
    have HC12 := jA.mk H
    clear H
    go_upto_block 0 with (first | ((with_reducible refine jl (N := 28) rfl ?_); (try (refine jv (by rfl) ?_; dsimp only)); refine Kd.jHa k44 _ 44 ?hg (N' := 28) ?hd (xs := ([] : List (S44))) (inner := []) (ok := (fun _ => True)) (okp := (fun _ => True)) ?hr ?hp (fun _ hk => hk) ((show ∀ k_, wc.heap.size ≤ k_ → (fun _ => True) k_ from fun k_ hk => trivial) _ (Nat.le_refl _)) (Below.refl _ _) (Nat.le_refl _) (by simp) ?_; (case hd => rfl); (case hg => rfl); (case hr => exact gs_); (case hp => exact (Reps.none _ _)); intro v636 w13 ho14 hb hg_ hnew_; clear hg_ hnew_; (first | rw [← Ny635.out] at ho14 | (simp only [Int.reduceToNat] at ho14; rw [← Ny635.out] at ho14)); have n0_ := jA.mk (Kd.jDS ho14 (jB (bb_ HB))); have n1_ := jA.mk (jC (bb_ HB) hb); clear HB; have HO637 := n0_; have HB := n1_; clear n0_ n1_ hb ho14))
    (try simp only [Act.put, ss_])
    go_cut [7] (fun v7 wc => ∃ (kq : Nat) (x7_11 : List (S44)), jA (syzygylaw05_RatioSums.j2 kq a2 x7_11 = some true) ∧ jA (kq ≤ kj3) ∧ jA (Kd.N k44 44 wc w.heap.size (fun _ => True) v7 x7_11) ∧ jA (Below w.heap.size w wc))
    case first =>
     have H := HC12.out
     clear HC12
     have H' := jA.mk H
     clear H
     go_wp2
     go_loopg [7, 8] kj3 (fun kq v7 v8 w' => ∃ (x7_2 : List (S44)) (x8_2 : Int), v8 = .int .i64 x8_2 ∧ jA (syzygylaw05_RatioSums.l0 kq l0 l1 a2 x7_2 x8_2 = some true) ∧ jA (kq ≤ kj3) ∧ jA (Kd.N k44 44 w' w.heap.size (fun _ => True) v7 x7_2) ∧ jA (Below w.heap.size w w'))
     case atStart => exact ⟨(y635), (0), sd_, H', ⟨Nat.le_refl _⟩, ⟨(rN_ HO637)⟩, ⟨(bb_ HB)⟩⟩
     case round =>
      clear H'
      try clear c1
      try clear c2
      try clear p2
      try clear c5
      try clear c5b0
      try clear c5b1
      try clear c6
      try clear c6b0
      try clear c6b1
      try clear c8
      try clear c9
      try clear p2
      obtain ⟨x7_2, x8_2, rfl, HA, HK2, HO_7, HB⟩ := hrel
      cases gk with
      | zero => exact absurd HA.out (by simp [syzygylaw05_RatioSums.l0])
      | succ k2 =>
       have H := HA.out
       clear HA
       simp only [syzygylaw05_RatioSums.l0] at H
       by_cases c15 : x8_2 < (l0.length : Int)
       ·
        rw [if_pos c15] at H
        have c15b0 := decide_eq_true c15
        clear c15
        (first | rw [c15b0] | (simp only [jk, jo]; rw [c15b0]) | skip)
        by_cases c16 : x8_2 < (l1.length : Int)
        ·
         rw [if_pos c16] at H
         have c16b0 := decide_eq_true c16
         clear c16
         by_cases c17 : 0 ≤ x8_2
         ·
          rw [if_pos c17] at H
          have c17b0 := decide_eq_true c17
          clear c17
          replace H := ob_ H
          obtain ⟨⟨t641, t642, t645⟩, A180, H⟩ := H
          try dsimp only at H
          have A18 := jA.mk A180
          clear A180
          by_cases c19 : x7_2.length < 2513169434916
          ·
           rw [if_pos c19] at H
           have LMc19 := jA.mk c19
           clear c19
           obtain ⟨y648, hy648⟩ : ∃ y_ : List (S44), y_ = (x7_2 ++ [(⟨t641, t642, t645⟩ : S44)]) := ⟨_, rfl⟩
           replace H : (syzygylaw05_RatioSums.l0 k2 l0 l1 a2 y648 (wrap64 (x8_2 + 1))) = some true := by first | (rw [hy648]; with_reducible exact H) | (have H2_ := (Option.bind_some _ _).symm.trans H; rw [hy648]; with_reducible exact H2_) | (with_reducible exact hs_ H) | with_reducible exact H | (rw [hy648]; exact H) | exact H
           have Ny648 := jA.mk hy648
           clear hy648
           have H' := jA.mk H
           clear H
           try go_wp2
           have n0_ := jA.mk (Kd.jGf HO_7.out)
           have n1_ := jA.mk (qI HB.out)
           clear HO_7
           clear HB
           have HO_7 := n0_
           have HB := n1_
           clear n0_ n1_
           have p638 : 0 ≤ (x8_2 : Int) := of_decide_eq_true am_
           have q638 : x8_2 < (l0.length : Int) := of_decide_eq_true am_
           obtain ⟨ad638, e638, hx638_0⟩ := Kd.zF HR0.out x8_2 p638 q638
           have hw638_0 := hx638_0
           cases e638
           replace hx638_0 := (HB.out.cell (World.block_lt_of_cell? w _ hx638_0)).trans hx638_0
           replace p638 := eq_true p638
           replace q638 := eq_true q638
           have p639 : 0 ≤ (x8_2 : Int) := of_decide_eq_true am_
           have q639 : x8_2 < (l0.length : Int) := of_decide_eq_true am_
           obtain ⟨ad639, e639, hx639_0⟩ := Kd.zF HR0.out x8_2 p639 q639
           have hw639_0 := hx639_0
           obtain rfl : ad638 = ad639 := (by injection e639)
           replace hx639_0 := (HB.out.cell (World.block_lt_of_cell? w _ hx639_0)).trans hx639_0
           replace p639 := eq_true p639
           replace q639 := eq_true q639
           have p640 : 0 ≤ (x8_2 : Int) := of_decide_eq_true am_
           have q640 : x8_2 < (l1.length : Int) := of_decide_eq_true am_
           obtain ⟨ad640, e640, hx640_0⟩ := Kd.zF HR1.out x8_2 p640 q640
           have hw640_0 := hx640_0
           cases e640
           replace hx640_0 := (HB.out.cell (World.block_lt_of_cell? w _ hx640_0)).trans hx640_0
           replace p640 := eq_true p640
           replace q640 := eq_true q640
           refine jAs (n := 22) (S := fun w' => w'.cell? (ad638.add (x8_2).toNat) = some (.int .i8 (rd l0 x8_2)) ∧ w'.cell? (ad638.add (x8_2).toNat) = some (.int .i8 (rd l0 x8_2)) ∧ w'.cell? (ad640.add (x8_2).toNat) = some (.int .u8 (rd l1 x8_2))) (ds := []) #[false, false, false, false, false, false, false, false, false, false, false, false, false, false, false, false, false, false, false, false, false, false] kr_ rfl rfl ⟨((HB.out.cell (World.block_lt_of_cell? w _ hw638_0)).trans hw638_0), ((HB.out.cell (World.block_lt_of_cell? w _ hw639_0)).trans hw639_0), ((HB.out.cell (World.block_lt_of_cell? w _ hw640_0)).trans hw640_0)⟩ (fun hHeld => ?_); refine jAa syzygylaw05_RatioSums.tab7 syzygylaw05_RatioSums.jKP (fun HT_ HW_ => ?_)
           generalize wr.drew = w20 at HO_7 HB hx638_0 hx639_0 hx640_0 hHeld ⊢
           refine vU (i := 0) (N := some 41) (v := ?_) (a' := ?_) #[true, false, false, false, false, false, false, false, false, false, false, false, false, false, false, false, false, false, false, false, false, false] rfl rfl (vQ HT_.out kr_) (fun _ _ _ h => h) (Or.inl ⟨by rfl, ?_⟩) ?_ ?_
           rotate_left
           ·
            intro w'
            go_simp
            with_reducible rfl
           rotate_left
           ·
            simp only [Act.put, ss_, jk, jo]
            rfl
           refine vU (i := 1) (N := some 42) (v := ?_) (a' := ?_) #[true, true, false, false, false, false, false, false, false, false, false, false, false, false, false, false, false, false, false, false, false, false] rfl rfl (vQ HT_.out kr_) (fun _ _ _ h => h) (Or.inl ⟨by rfl, ?_⟩) ?_ ?_
           rotate_left
           ·
            intro w'
            go_simp
            with_reducible rfl
           rotate_left
           ·
            simp only [Act.put, ss_, jk, jo]
            rfl
           refine vU (i := 2) (N := some 43) (v := ?_) (a' := ?_) #[true, true, true, false, false, false, false, false, false, false, false, false, false, false, false, false, false, false, false, false, false, false] rfl rfl (vQ HT_.out kr_) (fun _ _ _ h => h) (Or.inl ⟨by rfl, ?_⟩) ?_ ?_
           rotate_left
           ·
            intro w'
            go_simp
            with_reducible rfl
           rotate_left
           ·
            simp only [Act.put, ss_, jk, jo]
            rfl
           refine vU (i := 3) (N := some 44) (v := ?_) (a' := ?_) #[true, true, true, true, false, false, false, false, false, false, false, false, false, false, false, false, false, false, false, false, false, false] rfl rfl (vQ HT_.out kr_) (fun _ _ _ h => h) (Or.inl ⟨by rfl, ?_⟩) ?_ ?_
           rotate_left
           ·
            intro w'
            go_simp
            with_reducible rfl
           rotate_left
           ·
            simp only [Act.put, ss_, jk, jo]
            rfl
           refine vU (i := 6) (N := some 47) (v := ?_) (a' := ?_) #[true, true, true, true, false, false, true, false, false, false, false, false, false, false, false, false, false, false, false, false, false, false] rfl rfl (vQ HT_.out kr_) (fun _ _ _ h => h) (Or.inl ⟨by rfl, ?_⟩) ?_ ?_
           rotate_left
           ·
            intro w'
            go_simp
            with_reducible rfl
           rotate_left
           ·
            simp only [Act.put, ss_, jk, jo]
            rfl
           refine vU (i := 7) (N := some 48) (v := ?_) (a' := ?_) #[true, true, true, true, false, false, true, true, false, false, false, false, false, false, false, false, false, false, false, false, false, false] rfl rfl (vQ HT_.out kr_) (fun _ _ _ h => h) (Or.inl ⟨by rfl, ?_⟩) ?_ ?_
           rotate_left
           ·
            intro w'
            go_simp
            with_reducible rfl
           rotate_left
           ·
            simp only [Act.put, ss_, jk, jo]
            rfl
           refine vU (i := 8) (N := some 49) (v := ?_) (a' := ?_) #[true, true, true, true, false, false, true, true, true, false, false, false, false, false, false, false, false, false, false, false, false, false] rfl rfl (vQ HT_.out kr_) (fun _ _ _ h => h) (Or.inl ⟨by rfl, ?_⟩) ?_ ?_
           rotate_left
           ·
            intro w'
            go_simp
            with_reducible rfl
           rotate_left
           ·
            simp only [Act.put, ss_, jk, jo]
            rfl
           refine vU (i := 12) (N := some 53) (v := ?_) (a' := ?_) #[true, true, true, true, false, false, true, true, true, false, false, false, true, false, false, false, false, false, false, false, false, false] rfl rfl (vQ HT_.out kr_) (fun _ _ _ h => h) (Or.inl ⟨by rfl, ?_⟩) ?_ ?_
           rotate_left
           ·
            intro w'
            go_simp
            with_reducible rfl
           rotate_left
           ·
            simp only [Act.put, ss_, jk, jo]
            rfl
           refine vU (i := 13) (N := some 54) (v := ?_) (a' := ?_) #[true, true, true, true, false, false, true, true, true, false, false, false, true, true, false, false, false, false, false, false, false, false] rfl rfl (vQ HT_.out kr_) (fun _ _ _ h => h) (Or.inl ⟨by rfl, ?_⟩) ?_ ?_
           rotate_left
           ·
            intro w'
            go_simp
            with_reducible rfl
           rotate_left
           ·
            simp only [Act.put, ss_, jk, jo]
            rfl
           refine vU (i := 14) (N := some 55) (v := ?_) (a' := ?_) #[true, true, true, true, false, false, true, true, true, false, false, false, true, true, true, false, false, false, false, false, false, false] rfl rfl (vQ HT_.out kr_) (fun _ _ _ h => h) (Or.inl ⟨by rfl, ?_⟩) ?_ ?_
           rotate_left
           ·
            intro w'
            go_simp
            with_reducible rfl
           rotate_left
           ·
            simp only [Act.put, ss_, jk, jo]
            rfl
           refine qw (i := 4) (N := some 45) (v := ?_) (a' := ?_) #[true, true, true, true, true, false, true, true, true, false, false, false, true, true, true, false, false, false, false, false, false, false] rfl rfl (qZ HT_.out HW_.out kr_) (fun _ _ _ h => h) (Or.inl ⟨by rfl, ?_⟩) hHeld ?_ ?_
           rotate_left
           ·
            rintro w' ⟨s0, s1, s2⟩
            go_simp
            with_reducible rfl
           rotate_left
           ·
            simp only [Act.put, ss_, jk, jo]
            rfl
           refine vU (i := 5) (N := some 46) (v := ?_) (a' := ?_) #[true, true, true, true, true, true, true, true, true, false, false, false, true, true, true, false, false, false, false, false, false, false] rfl rfl (vQ HT_.out kr_) (fun _ _ _ h => h) (Or.inl ⟨by rfl, ?_⟩) ?_ ?_
           rotate_left
           ·
            intro w'
            go_simp
            with_reducible rfl
           rotate_left
           ·
            simp only [Act.put, ss_, jk, jo]
            rfl
           refine qw (i := 9) (N := some 50) (v := ?_) (a' := ?_) #[true, true, true, true, true, true, true, true, true, true, false, false, true, true, true, false, false, false, false, false, false, false] rfl rfl (qZ HT_.out HW_.out kr_) (fun _ _ _ h => h) (Or.inl ⟨by rfl, ?_⟩) hHeld ?_ ?_
           rotate_left
           ·
            rintro w' ⟨s0, s1, s2⟩
            go_simp
            with_reducible rfl
           rotate_left
           ·
            simp only [Act.put, ss_, jk, jo]
            rfl
           refine vU (i := 10) (N := some 51) (v := ?_) (a' := ?_) #[true, true, true, true, true, true, true, true, true, true, true, false, true, true, true, false, false, false, false, false, false, false] rfl rfl (vQ HT_.out kr_) (fun _ _ _ h => h) (Or.inl ⟨by rfl, ?_⟩) ?_ ?_
           rotate_left
           ·
            intro w'
            go_simp
            with_reducible rfl
           rotate_left
           ·
            simp only [Act.put, ss_, jk, jo]
            rfl
           refine vU (i := 11) (N := some 52) (v := ?_) (a' := ?_) #[true, true, true, true, true, true, true, true, true, true, true, true, true, true, true, false, false, false, false, false, false, false] rfl rfl (vQ HT_.out kr_) (fun _ _ _ h => h) (Or.inl ⟨by rfl, ?_⟩) ?_ ?_
           rotate_left
           ·
            intro w'
            go_simp
            with_reducible rfl
           rotate_left
           ·
            simp only [Act.put, ss_, jk, jo]
            rfl
           refine qw (i := 15) (N := some 56) (v := ?_) (a' := ?_) #[true, true, true, true, true, true, true, true, true, true, true, true, true, true, true, true, false, false, false, false, false, false] rfl rfl (qZ HT_.out HW_.out kr_) (fun _ _ _ h => h) (Or.inl ⟨by rfl, ?_⟩) hHeld ?_ ?_
           rotate_left
           ·
            rintro w' ⟨s0, s1, s2⟩
            go_simp
            with_reducible rfl
           rotate_left
           ·
            simp only [Act.put, ss_, jk, jo]
            rfl
           refine vU (i := 16) (N := some 57) (v := ?_) (a' := ?_) #[true, true, true, true, true, true, true, true, true, true, true, true, true, true, true, true, true, false, false, false, false, false] rfl rfl (vQ HT_.out kr_) (fun _ _ _ h => h) (Or.inl ⟨by rfl, ?_⟩) ?_ ?_
           rotate_left
           ·
            intro w'
            go_simp
            with_reducible rfl
           rotate_left
           ·
            simp only [Act.put, ss_, jk, jo]
            rfl
           refine vU (i := 17) (N := some 58) (v := ?_) (a' := ?_) #[true, true, true, true, true, true, true, true, true, true, true, true, true, true, true, true, true, true, false, false, false, false] rfl rfl (vQ HT_.out kr_) (fun _ _ _ h => h) (Or.inl ⟨by rfl, ?_⟩) ?_ ?_
           rotate_left
           ·
            intro w'
            go_simp
            with_reducible rfl
           rotate_left
           ·
            simp only [Act.put, ss_, jk, jo]
            rfl
           refine one_ (i := 18) (N := some 59) #[true, true, true, true, true, true, true, true, true, true, true, true, true, true, true, true, true, true, true, false, false, false] rfl rfl (jAK HT_.out kr_) (by decide) (fun K hK => ?_)
           refine jBJ Try.func41 kr_ rfl #[.bool (decide ((rd l0 x8_2) < 0)), .int .u32 ((Go.bits .and .i8 (rd l0 x8_2) 127) % 4294967296), .int .u32 (((rd l1 x8_2) % 4294967296) % 9)] (by rfl) rfl rfl (by (try simp only [List.map_toArray, List.map_cons, List.map_nil]); go_simp; refine ⟨IntKind.wrap_u32 _, ?_⟩; rw [IntKind.wrap_u32]; exact Int.tmod_eq_emod_of_nonneg (Int.emod_nonneg _ (by decide))) ?_
           with_reducible refine (zJ.calls k2 (decide ((rd l0 x8_2) < 0)) ((Go.bits .and .i8 (rd l0 x8_2) 127) % 4294967296) (((rd l1 x8_2) % 4294967296) % 9) t641 t642 t645 _ A18.out).mono ?_
           rintro e w21 ⟨v643, v646, rfl, ho0, ho1, hb⟩
           refine ⟨_, rfl, ?_⟩
           have n0_ := jA.mk (Kd.qg (Kd.jAf (Kd.jAf (Kd.jED (rN_ HO_7) hb) (Kd.jL ho0)) (Kd.jL ho1)) (fun _ h_ => h_.1))
           have n1_ := jA.mk (Kd.jS ho0 (jB (bb_ HB)))
           have n2_ := jA.mk (Kd.jS ho1 (jB (bb_ HB)))
           have n3_ := jA.mk (jC (bb_ HB) hb)
           clear HO_7
           clear HB
           have HO_7 := n0_
           have HO644 := n1_
           have HO647 := n2_
           have HB := n3_
           clear n0_ n1_ n2_ n3_
           (try clear hb)
           (try clear hb2)
           (try clear hk)
           (try clear hi)
           (try clear ho0)
           (try clear ho1)
           obtain ⟨Ao23, co23, eo23⟩ := Kd.jc HO644.out
           (first | subst eo23 | (injection eo23 with f1_ f2_ f3_; have f4_ := f1_.symm; have f5_ := f3_.symm; clear f1_ f2_ f3_; subst f4_; subst f5_))
           obtain ⟨Ao24, co24, eo24⟩ := Kd.jc HO647.out
           (first | subst eo24 | (injection eo24 with f1_ f2_ f3_; have f4_ := f1_.symm; have f5_ := f3_.symm; clear f1_ f2_ f3_; subst f4_; subst f5_))
           refine hK.out _ _ ⟨((HB.out.cell (World.block_lt_of_cell? w _ hw638_0)).trans hw638_0), ((HB.out.cell (World.block_lt_of_cell? w _ hw639_0)).trans hw639_0), ((HB.out.cell (World.block_lt_of_cell? w _ hw640_0)).trans hw640_0)⟩ (fun hHeld => ?_)
           clear hK K
           refine qO (a' := ?_) ?_ ?_
           rotate_left
           ·
            show Act.put _ (some 59) _ = _
            simp only [Act.put, ss_, jk, jo]
            rfl
           refine one_ (i := 19) (N := some 60) #[true, true, true, true, true, true, true, true, true, true, true, true, true, true, true, true, true, true, true, true, false, false] rfl rfl (jAK HT_.out kr_) (by decide) (fun K hK => ?_)
           refine jDa (w1 := ?_) (v := ?_) (by rfl) rfl ?_ ?_
           rotate_left 2
           ·
            go_simp
            constructor
            ·
             rfl
            ·
             rfl
           refine hK.out _ _ ⟨(World.cell?_alloc_lt _ _ _ (World.block_lt_of_cell? _ _ (((HB.out.cell (World.block_lt_of_cell? w _ hw638_0)).trans hw638_0)))).trans (((HB.out.cell (World.block_lt_of_cell? w _ hw638_0)).trans hw638_0)), (World.cell?_alloc_lt _ _ _ (World.block_lt_of_cell? _ _ (((HB.out.cell (World.block_lt_of_cell? w _ hw639_0)).trans hw639_0)))).trans (((HB.out.cell (World.block_lt_of_cell? w _ hw639_0)).trans hw639_0)), (World.cell?_alloc_lt _ _ _ (World.block_lt_of_cell? _ _ (((HB.out.cell (World.block_lt_of_cell? w _ hw640_0)).trans hw640_0)))).trans (((HB.out.cell (World.block_lt_of_cell? w _ hw640_0)).trans hw640_0))⟩ (fun hHeld => ?_)
           clear hK K
           refine qO (a' := ?_) ?_ ?_
           rotate_left
           ·
            show Act.put _ (some 60) _ = _
            simp only [Act.put, ss_, jk, jo]
            rfl
           refine one_ (i := 20) (N := some 61) #[true, true, true, true, true, true, true, true, true, true, true, true, true, true, true, true, true, true, true, true, true, false] rfl rfl (jAK HT_.out kr_) (by decide) (fun K hK => ?_)
           refine Kd.jDU k44 (w0 := w) w.heap.size (by rfl) (.tmp 41) (.tmp 60) 54 44 (.agg #[(.bool false), (.slice none 0 0), (.slice none 0 0)]) 56 rfl Try.underlying54 jCr rfl (by decide) (by omega) u7 x7_2 (⟨t641, t642, t645⟩ : S44) [.bool t641, .slice Ao23 t642.length co23, .slice Ao24 t645.length co24] (fun _ => True) (fun k_ => ((fun _ => True)) k_ ∧ some k_ ≠ (u7 : Value).ownBlock) rfl rfl ?aP (fun _ hk => hk) ?aF ?aO ?aB ?aS ?aL ?_
           (case aP => exact (jFy _ _ (⟨t641, t642, t645⟩ : S44) (Kd.jI (Kd.jP (ok' := (fun k_ => ((fun _ => True)) k_ ∧ some k_ ≠ (u7 : Value).ownBlock)) (Kd.jAZ (HO644.out) (Kd.jBN HO_7.out) (by decide)) (fun k_ hk => ⟨trivial, hk.2⟩))).2.1 (Kd.R_F (Kd.jP (ok' := (fun k_ => ((fun _ => True)) k_ ∧ some k_ ≠ (u7 : Value).ownBlock)) (Kd.jAZ (HO644.out) (Kd.jBN HO_7.out) (by decide)) (fun k_ hk => ⟨trivial, hk.2⟩))) (Kd.jI (Kd.jP (ok' := (fun k_ => ((fun _ => True)) k_ ∧ some k_ ≠ (u7 : Value).ownBlock)) (Kd.jAZ (HO647.out) (Kd.jBN HO_7.out) (by decide)) (fun k_ hk => ⟨trivial, hk.2⟩))).2.1 (Kd.R_F (Kd.jP (ok' := (fun k_ => ((fun _ => True)) k_ ∧ some k_ ≠ (u7 : Value).ownBlock)) (Kd.jAZ (HO647.out) (Kd.jBN HO_7.out) (by decide)) (fun k_ hk => ⟨trivial, hk.2⟩)))))
           (case aB => exact (bb_ HB))
           (case aF => exact (fun _ _ => trivial))
           (case aO => exact (by refine pN_ ?_; exact Kd.qg HO_7.out (fun _ hk => trivial)))
           (case aS => exact (jB (bb_ HB)))
           (case aL => have := LMc19.out; omega)
           intro v649 w22 ho hb hg hat
           rw [← Ny648.out] at ho
           have n0_ := jA.mk (hb)
           have n1_ := jA.mk (ho)
           clear HB
           clear HO_7
           clear HO644
           clear HO647
           have HB := n0_
           have HO650 := n1_
           clear n0_ n1_
           clear ho hb hg hat
           refine hK.out _ _ ⟨((HB.out.cell (World.block_lt_of_cell? w _ hw638_0)).trans hw638_0), ((HB.out.cell (World.block_lt_of_cell? w _ hw639_0)).trans hw639_0), ((HB.out.cell (World.block_lt_of_cell? w _ hw640_0)).trans hw640_0)⟩ (fun hHeld => ?_)
           clear hK K
           refine qO (a' := ?_) ?_ ?_
           rotate_left
           ·
            show Act.put _ (some 61) _ = _
            simp only [Act.put, ss_, jk, jo]
            rfl
           refine vU (i := 21) (N := some 7) (v := ?_) (a' := ?_) #[true, true, true, true, true, true, true, true, true, true, true, true, true, true, true, true, true, true, true, true, true, true] rfl rfl (vQ HT_.out kr_) (fun _ _ _ h => h) (Or.inl ⟨by rfl, ?_⟩) ?_ ?_
           rotate_left
           ·
            intro w'
            go_simp
            with_reducible rfl
           rotate_left
           ·
            simp only [Act.put, ss_, jk, jo]
            rfl
           refine jBW (jBK HT_.out kr_) ?_
           try go_wp2
           go_roundg k2
           case measure => have := HJ3.out; have := HK2.out; omega
           case rel => exact ⟨(y648), (wrap64 (x8_2 + 1)), sd_, H', ⟨by have := HJ3.out; have := HK2.out; omega⟩, ⟨(rN_ HO650)⟩, ⟨(bb_ HB)⟩⟩
          ·
           rw [if_neg c19] at H
           exact absurd H (by simp)
         ·
          rw [if_neg c17] at H
          exact absurd H (by simp)
        ·
         rw [if_neg c16] at H
         have c16b0 := decide_eq_false c16
         clear c16
         have H' := jA.mk H
         clear H
         go_wp2
         go_meet
         case rel => exact ⟨_, (x7_2), H', ⟨by have := HJ3.out; have := HK2.out; first | omega | exact Nat.le_refl _⟩, ⟨(rN_ HO_7)⟩, ⟨(bb_ HB)⟩⟩
       ·
        rw [if_neg c15] at H
        have c15b0 := decide_eq_false c15
        clear c15
        (first | rw [c15b0] | (simp only [jk, jo]; rw [c15b0]) | skip)
        have H' := jA.mk H
        clear H
        go_wp2
        go_meet
        case rel => exact ⟨_, (x7_2), H', ⟨by have := HJ3.out; have := HK2.out; first | omega | exact Nat.le_refl _⟩, ⟨(rN_ HO_7)⟩, ⟨(bb_ HB)⟩⟩
    case rest =>
     clear HC12
     try clear c1
     try clear c2
     try clear p2
     try clear c4
     try clear c5
     try clear c5b0
     try clear c5b1
     try clear c6
     try clear c6b0
     try clear c6b1
     try clear p6
     try clear q6
     try clear hx6
     try clear c8
     try clear c9
     try clear c15
     try clear c15b0
     try clear c16
     try clear c16b0
     try clear c17
     try clear c17b0
     try clear c19
     try clear hx638_0
     try clear hx639_0
     try clear hx640_0
     try clear p2
     try clear p638
     try clear p639
     try clear p640
     try clear q638
     try clear q639
     try clear q640
     obtain ⟨kq, x7_11, HA, HJ11, HO_7, HB⟩ := hcut
     cases kq with
     | zero => exact absurd HA.out (by simp [syzygylaw05_RatioSums.j2])
     | succ kj11 =>
      have H := HA.out
      clear HA
      simp only [syzygylaw05_RatioSums.j2] at H
      by_cases c25 : (wrap64 ((x7_11.length : Int) + 1)) = 0
      ·
       rw [if_pos c25] at H
       exact absurd H (by simp)
      ·
       rw [if_neg c25] at H
       have c25b0 := beq_eq_false_iff_ne.mpr c25
       have c25b1 := bne_iff_ne.mpr c25
       obtain ⟨y651, hy651⟩ : ∃ y_ : List (S44), y_ = (([] : List (S44))) := ⟨_, rfl⟩
       replace H : (if 0 ≤ (Int.tmod (wrap64 (a2)) (wrap64 ((x7_11.length : Int) + 1))) then (if (Int.tmod (wrap64 (a2)) (wrap64 ((x7_11.length : Int) + 1))) ≤ (x7_11.length : Int) then ((some (x7_11.drop ((Int.tmod (wrap64 (a2)) (wrap64 ((x7_11.length : Int) + 1))) : Int).toNat : List (S44))).bind fun y654 => (if y651.length + y654.length < 2513169434916 then ((some (y651 ++ y654 : List (S44))).bind fun y659 => ((zH.f 0).bind fun bt662 => (if y659.length < 2513169434916 then ((some (y659 ++ [(⟨bt662.1, bt662.2.1, bt662.2.2⟩ : S44)] : List (S44))).bind fun y669 => ((some (x7_11.take ((Int.tmod (wrap64 (a2)) (wrap64 ((x7_11.length : Int) + 1))) : Int).toNat : List (S44))).bind fun y672 => (if y669.length + y672.length < 2513169434916 then ((vG.f kj11 x7_11).bind fun bt680 => ((vG.f kj11 (y669 ++ y672)).bind fun bt689 => (if bt680.2.2.2 = 0 then (if bt689.2.2.2 = 0 then ((jh.f kj11 bt680.1 bt680.2.1 bt680.2.2.1 bt689.1 bt689.2.1 bt689.2.2.1).bind fun t698 => (some t698)) else (some false)) else (some false)))) else (none)))) else (none)))) else (none))) else (none)) else (none)) = some true := by first | (rw [hy651]; with_reducible exact H) | (have H2_ := (Option.bind_some _ _).symm.trans H; rw [hy651]; with_reducible exact H2_) | (with_reducible exact hs_ H) | with_reducible exact H | (rw [hy651]; exact H) | exact H
       have Ny651 := jA.mk hy651
       clear hy651
       obtain ⟨ji26, hji26⟩ : ∃ j_ : Int, (Int.tmod (wrap64 (a2)) (wrap64 ((x7_11.length : Int) + 1))) = j_ := ⟨_, rfl⟩
       replace H : (if 0 ≤ (ji26) then (if (ji26) ≤ (x7_11.length : Int) then ((some (x7_11.drop ((ji26) : Int).toNat : List (S44))).bind fun y654 => (if y651.length + y654.length < 2513169434916 then ((some (y651 ++ y654 : List (S44))).bind fun y659 => ((zH.f 0).bind fun bt662 => (if y659.length < 2513169434916 then ((some (y659 ++ [(⟨bt662.1, bt662.2.1, bt662.2.2⟩ : S44)] : List (S44))).bind fun y669 => ((some (x7_11.take ((ji26) : Int).toNat : List (S44))).bind fun y672 => (if y669.length + y672.length < 2513169434916 then ((vG.f kj11 x7_11).bind fun bt680 => ((vG.f kj11 (y669 ++ y672)).bind fun bt689 => (if bt680.2.2.2 = 0 then (if bt689.2.2.2 = 0 then ((jh.f kj11 bt680.1 bt680.2.1 bt680.2.2.1 bt689.1 bt689.2.1 bt689.2.2.1).bind fun t698 => (some t698)) else (some false)) else (some false)))) else (none)))) else (none)))) else (none))) else (none)) else (none)) = some true := by first | (rw [hji26] at H; exact H) | (simp only [hji26] at H ⊢; exact H)
       by_cases c27 : 0 ≤ (ji26)
       ·
        rw [if_pos c27] at H
        have c27b0 := eq_true c27
        have c27b1 := decide_eq_true c27
        clear c27
        by_cases c28 : (ji26) ≤ (x7_11.length : Int)
        ·
         rw [if_pos c28] at H
         have c28b0 := eq_true c28
         have c28b1 := decide_eq_true c28
         clear c28
         obtain ⟨y654, hy654⟩ : ∃ y_ : List (S44), y_ = (x7_11.drop ((ji26) : Int).toNat) := ⟨_, rfl⟩
         replace H : (if y651.length + y654.length < 2513169434916 then ((some (y651 ++ y654 : List (S44))).bind fun y659 => ((zH.f 0).bind fun bt662 => (if y659.length < 2513169434916 then ((some (y659 ++ [(⟨bt662.1, bt662.2.1, bt662.2.2⟩ : S44)] : List (S44))).bind fun y669 => ((some (x7_11.take ((ji26) : Int).toNat : List (S44))).bind fun y672 => (if y669.length + y672.length < 2513169434916 then ((vG.f kj11 x7_11).bind fun bt680 => ((vG.f kj11 (y669 ++ y672)).bind fun bt689 => (if bt680.2.2.2 = 0 then (if bt689.2.2.2 = 0 then ((jh.f kj11 bt680.1 bt680.2.1 bt680.2.2.1 bt689.1 bt689.2.1 bt689.2.2.1).bind fun t698 => (some t698)) else (some false)) else (some false)))) else (none)))) else (none)))) else (none)) = some true := by first | (rw [hy654]; with_reducible exact H) | (have H2_ := (Option.bind_some _ _).symm.trans H; rw [hy654]; with_reducible exact H2_) | (with_reducible exact hs_ H) | with_reducible exact H | (rw [hy654]; exact H) | exact H
         have Ny654 := jA.mk hy654
         clear hy654
         by_cases c29 : y651.length + y654.length < 2513169434916
         ·
          rw [if_pos c29] at H
          have LMc29 := jA.mk c29
          clear c29
          obtain ⟨y659, hy659⟩ : ∃ y_ : List (S44), y_ = (y651 ++ y654) := ⟨_, rfl⟩
          replace H : ((zH.f 0).bind fun bt662 => (if y659.length < 2513169434916 then ((some (y659 ++ [(⟨bt662.1, bt662.2.1, bt662.2.2⟩ : S44)] : List (S44))).bind fun y669 => ((some (x7_11.take ((ji26) : Int).toNat : List (S44))).bind fun y672 => (if y669.length + y672.length < 2513169434916 then ((vG.f kj11 x7_11).bind fun bt680 => ((vG.f kj11 (y669 ++ y672)).bind fun bt689 => (if bt680.2.2.2 = 0 then (if bt689.2.2.2 = 0 then ((jh.f kj11 bt680.1 bt680.2.1 bt680.2.2.1 bt689.1 bt689.2.1 bt689.2.2.1).bind fun t698 => (some t698)) else (some false)) else (some false)))) else (none)))) else (none))) = some true := by first | (rw [hy659]; with_reducible exact H) | (have H2_ := (Option.bind_some _ _).symm.trans H; rw [hy659]; with_reducible exact H2_) | (with_reducible exact hs_ H) | with_reducible exact H | (rw [hy659]; exact H) | exact H
          have Ny659 := jA.mk hy659
          clear hy659
          replace H := ob_ H
          obtain ⟨⟨t662, t663, t666⟩, A300, H⟩ := H
          try dsimp only at H
          have A30 := jA.mk A300
          clear A300
          by_cases c31 : y659.length < 2513169434916
          ·
           rw [if_pos c31] at H
           have LMc31 := jA.mk c31
           clear c31
           obtain ⟨y669, hy669⟩ : ∃ y_ : List (S44), y_ = (y659 ++ [(⟨t662, t663, t666⟩ : S44)]) := ⟨_, rfl⟩
           replace H : ((some (x7_11.take ((ji26) : Int).toNat : List (S44))).bind fun y672 => (if y669.length + y672.length < 2513169434916 then ((vG.f kj11 x7_11).bind fun bt680 => ((vG.f kj11 (y669 ++ y672)).bind fun bt689 => (if bt680.2.2.2 = 0 then (if bt689.2.2.2 = 0 then ((jh.f kj11 bt680.1 bt680.2.1 bt680.2.2.1 bt689.1 bt689.2.1 bt689.2.2.1).bind fun t698 => (some t698)) else (some false)) else (some false)))) else (none))) = some true := by first | (rw [hy669]; with_reducible exact H) | (have H2_ := (Option.bind_some _ _).symm.trans H; rw [hy669]; with_reducible exact H2_) | (with_reducible exact hs_ H) | with_reducible exact H | (rw [hy669]; exact H) | exact H
           have Ny669 := jA.mk hy669
           clear hy669
           have c32b0 := eq_true (of_decide_eq_true am_ : 0 ≤ (ji26))
           have c33b0 := eq_true (of_decide_eq_true am_ : (ji26) ≤ (x7_11.length : Int))
           obtain ⟨y672, hy672⟩ : ∃ y_ : List (S44), y_ = (x7_11.take ((ji26) : Int).toNat) := ⟨_, rfl⟩
           replace H : (if y669.length + y672.length < 2513169434916 then ((vG.f kj11 x7_11).bind fun bt680 => ((vG.f kj11 (y669 ++ y672)).bind fun bt689 => (if bt680.2.2.2 = 0 then (if bt689.2.2.2 = 0 then ((jh.f kj11 bt680.1 bt680.2.1 bt680.2.2.1 bt689.1 bt689.2.1 bt689.2.2.1).bind fun t698 => (some t698)) else (some false)) else (some false)))) else (none)) = some true := by first | (rw [hy672]; with_reducible exact H) | (have H2_ := (Option.bind_some _ _).symm.trans H; rw [hy672]; with_reducible exact H2_) | (with_reducible exact hs_ H) | with_reducible exact H | (rw [hy672]; exact H) | exact H
           have Ny672 := jA.mk hy672
           clear hy672
           by_cases c34 : y669.length + y672.length < 2513169434916
           ·
            rw [if_pos c34] at H
            have LMc34 := jA.mk c34
            clear c34
            obtain ⟨y677, hy677⟩ : ∃ y_ : List (S44), y_ = (y669 ++ y672) := ⟨_, rfl⟩
            replace H : ((vG.f kj11 x7_11).bind fun bt680 => ((vG.f kj11 y677).bind fun bt689 => (if bt680.2.2.2 = 0 then (if bt689.2.2.2 = 0 then ((jh.f kj11 bt680.1 bt680.2.1 bt680.2.2.1 bt689.1 bt689.2.1 bt689.2.2.1).bind fun t698 => (some t698)) else (some false)) else (some false)))) = some true := by first | (rw [hy677]; with_reducible exact H) | (have H2_ := (Option.bind_some _ _).symm.trans H; rw [hy677]; with_reducible exact H2_) | (with_reducible exact hs_ H) | with_reducible exact H | (rw [hy677]; exact H) | exact H
            have Ny677 := jA.mk hy677
            clear hy677
            replace H := ob_ H
            obtain ⟨⟨t680, t681, t684, t687⟩, A350, H⟩ := H
            try dsimp only at H
            have A35 := jA.mk A350
            clear A350
            replace H := ob_ H
            obtain ⟨⟨t689, t690, t693, t696⟩, A360, H⟩ := H
            try dsimp only at H
            have A36 := jA.mk A360
            clear A360
            by_cases c37 : t687 = 0
            ·
             rw [if_pos c37] at H
             have c37b0 := beq_iff_eq.mpr c37
             have c37b1 := bne_eq_false_iff_eq.mpr c37
             clear c37
             by_cases c38 : t696 = 0
             ·
              rw [if_pos c38] at H
              have c38b0 := beq_iff_eq.mpr c38
              have c38b1 := bne_eq_false_iff_eq.mpr c38
              clear c38
              replace H := ob_ H
              obtain ⟨t698, A390, H⟩ := H
              replace H : (some t698) = some true := H
              have A39 := jA.mk A390
              clear A390
              have HRT_ := jA.mk (Option.some.inj H)
              clear H
              obtain ⟨Ao40, co40, eo40⟩ := Kd.jCf HO_7.out
              subst eo40
              go_wp2_with (first | ((with_reducible refine jl (N := 68) rfl ?_); (try (refine jv (by rfl) ?_; dsimp only)); refine Kd.jHa k44 _ 44 ?hg (N' := 68) ?hd (xs := ([] : List (S44))) (inner := []) (ok := (fun k_ => some k_ ≠ (.slice Ao40 x7_11.length co40 : Value).ownBlock)) (okp := (fun k_ => some k_ ≠ (.slice Ao40 x7_11.length co40 : Value).ownBlock)) ?hr ?hp (fun _ hk => hk) ((show ∀ k_, wc.heap.size ≤ k_ → (fun k_ => some k_ ≠ (.slice Ao40 x7_11.length co40 : Value).ownBlock) k_ from fun k_ hk => Kd.fresh' (Kd.N_lt (rN_ HO_7)) k_ hk) _ (Nat.le_refl _)) (Below.refl _ _) (Nat.le_refl _) (by simp) ?_; (case hd => rfl); (case hg => rfl); (case hr => exact gs_); (case hp => exact (Reps.none _ _)); intro v652 w41 ho42 hb hg_ hnew_; clear hg_ hnew_; (first | rw [← Ny651.out] at ho42 | (simp only [Int.reduceToNat] at ho42; rw [← Ny651.out] at ho42)); have n0_ := jA.mk (Kd.jHb (rN_ HO_7) (Kd.jFJ ho42) hb); have n1_ := jA.mk (Kd.jDS ho42 (jB (bb_ HB))); have n2_ := jA.mk (jC (bb_ HB) hb); clear HO_7 HB; have HO_7 := n0_; have HO653 := n1_; have HB := n2_; clear n0_ n1_ n2_ hb ho42; have q43 : ((ji26) : Int) ≤ ((x7_11.length : Int) : Int) := of_decide_eq_true am_; obtain ⟨i043, hi043, _, hsz43, _⟩ := info_parts jCr; have hroom43 : x7_11.length ≤ co40 := (Kd.jAP HO_7.out).2.1; have hC43 : Kd.F k44 _ _ Ao40 x7_11.length x7_11 := (Kd.V_at (base := w.heap.size) (Kd.N_V HO_7.out)).2.2; have q043 : (0 : Int) ≤ ((ji26) : Int) := of_decide_eq_true am_; have hcut43 := jFB (P := Try.prog) 54 44 .i64 Try.underlying54 hi043 3 hsz43 Ao40 x7_11.length co40 (ji26) q043 q43; have hr43 := Kd.jKD (m := ((ji26) : Int).toNat) (c := co40) hC43 (by omega) hroom43; obtain ⟨A43, hA43⟩ : ∃ A1, A1 = (if co40 = ((ji26) : Int).toNat then Ao40 else (Ao40 : Option Addr).map (·.add (((ji26) : Int).toNat * 3))) := ⟨_, rfl⟩; obtain ⟨c43, hc43⟩ : ∃ c1, c1 = co40 - ((ji26) : Int).toNat := ⟨_, rfl⟩; have hy43 : y654.length = x7_11.length - ((ji26) : Int).toNat := (by rw [Ny654.out, List.length_drop] <;> omega); rw [show (x7_11).drop ((ji26) : Int).toNat = y654 from Ny654.out.symm] at hr43; replace hr43 : Kd.F k44 _ _ A43 y654.length y654 := (by rw [hA43]; exact hr43); rw [← hy43, ← hA43, ← hc43] at hcut43; have HO658 := jA.mk (show Kd.V k44 44 _ w.heap.size _ (.slice A43 y654.length c43) y654 from Kd.V_mk (by rw [hy43, hc43]; exact Nat.sub_le_sub_right hroom43 _) hr43); have HC658 := jA.mk (show y654.length ≤ c43 from by rw [hy43, hc43]; exact Nat.sub_le_sub_right hroom43 _); clear hr43 hC43 hroom43 hi043 hsz43 hc43; have KY43 := jA.mk hy43; have KA43 := jA.mk hA43; clear hy43 hA43; replace q43 := eq_true q43) | ((with_reducible refine vw (b := .append) (xs := #[.tmp 68, .tmp 71]) rfl ?_); (try (refine jv (by rfl) ?_; dsimp only)); at_builtin; refine Kd.jBm k44 (w0 := w) w.heap.size rfl (.tmp 68) (.tmp 71) 54 44 (.agg #[(.bool false), (.slice none 0 0), (.slice none 0 0)]) 56 rfl Try.underlying54 jCr rfl (by decide) (by omega) v652 y651 y654 _ _ _ (fun _ => True) (fun k_ => ((fun _ => True)) k_ ∧ some k_ ≠ (v652 : Value).ownBlock) rfl rfl ?aO ?aR (fun _ hk => hk) ?aF ?aB ?aS ?aL ?_; (case aR => exact (by skip; exact Kd.V_F (Kd.vO (ok' := (fun k_ => ((fun _ => True)) k_ ∧ some k_ ≠ (v652 : Value).ownBlock)) (HO658.out) (fun k_ hk => ⟨trivial, hk.2⟩)))); (case aB => exact (bb_ HB)); (case aF => exact (fun _ _ => trivial)); (case aO => exact (by refine pN_ ?_; exact Kd.qg HO653.out (fun _ hk => trivial))); (case aS => exact (jB (bb_ HB))); (case aL => have := LMc29.out; omega); intro v660 w44 ho hb hg hat; rw [← Ny659.out] at ho; have n0_ := jA.mk (Kd.jDV (ok := (fun _ => True)) (rN_ HO_7) hg hat); have n1_ := jA.mk (Kd.qm (ok := (fun _ => True)) (rV_ HO658) hg hat); have n2_ := jA.mk (hb); have n3_ := jA.mk (ho); clear HO_7 HO658 HB HO653; have HO_7 := n0_; have HO658 := n1_; have HB := n2_; have HO661 := n3_; clear n0_ n1_ n2_ n3_ ho hb hg hat) | ((with_reducible refine jJ (f := 39) rfl ?_); refine jr (some 73) rfl rfl Try.func39 kr_ rfl #[.int .i64 0] rfl mt_ ?_; (with_reducible refine (zH.calls 0 t662 t663 t666 _ A30.out).mono ?_); rintro e w45 ⟨v664, v667, rfl, ho0, ho1, hb⟩; refine ⟨_, rfl, ?_⟩; have n0_ := jA.mk (Kd.qg (Kd.jAf (Kd.jAf (Kd.jED (rN_ HO_7) hb) (Kd.jL ho0)) (Kd.jL ho1)) (fun _ h_ => h_.1)); have n1_ := jA.mk (Kd.vO (Kd.jAA (Kd.jAA (Kd.jCA (rV_ HO658) hb) (Kd.jL ho0)) (Kd.jL ho1)) (fun _ h_ => h_.1)); have n2_ := jA.mk (Kd.qg (Kd.jAf (Kd.jAf (Kd.jED (rN_ HO661) hb) (Kd.jL ho0)) (Kd.jL ho1)) (fun _ h_ => h_.1)); have n3_ := jA.mk (Kd.jS ho0 (jB (bb_ HB))); have n4_ := jA.mk (Kd.jS ho1 (jB (bb_ HB))); have n5_ := jA.mk (jC (bb_ HB) hb); clear HO_7 HO658 HO661 HB; have HO_7 := n0_; have HO658 := n1_; have HO661 := n2_; have HO665 := n3_; have HO668 := n4_; have HB := n5_; clear n0_ n1_ n2_ n3_ n4_ n5_; obtain ⟨Ao47, co47, eo47⟩ := Kd.jc HO665.out; subst eo47; obtain ⟨Ao48, co48, eo48⟩ := Kd.jc HO668.out; subst eo48) | ((with_reducible refine vw (b := .append) (xs := #[.tmp 72, .tmp 74]) rfl ?_); (try (refine jv (by rfl) ?_; dsimp only)); at_builtin; refine Kd.jHc k44 (w0 := w) w.heap.size rfl (.tmp 72) (.tmp 74) 54 44 (.agg #[(.bool false), (.slice none 0 0), (.slice none 0 0)]) 56 rfl Try.underlying54 jCr rfl (by decide) (by omega) v660 y659 (⟨t662, t663, t666⟩ : S44) [.bool t662, .slice Ao47 t663.length co47, .slice Ao48 t666.length co48] (fun _ => True) (fun k_ => ((fun _ => True)) k_ ∧ some k_ ≠ (v660 : Value).ownBlock) rfl rfl ?aP (fun _ hk => hk) ?aF ?aO ?aB ?aS ?aL ?_; (case aP => exact (jFy _ _ (⟨t662, t663, t666⟩ : S44) (Kd.jI (Kd.jP (ok' := (fun k_ => ((fun _ => True)) k_ ∧ some k_ ≠ (v660 : Value).ownBlock)) (Kd.jAZ (HO665.out) (Kd.jBN HO661.out) (by decide)) (fun k_ hk => ⟨trivial, hk.2⟩))).2.1 (Kd.R_F (Kd.jP (ok' := (fun k_ => ((fun _ => True)) k_ ∧ some k_ ≠ (v660 : Value).ownBlock)) (Kd.jAZ (HO665.out) (Kd.jBN HO661.out) (by decide)) (fun k_ hk => ⟨trivial, hk.2⟩))) (Kd.jI (Kd.jP (ok' := (fun k_ => ((fun _ => True)) k_ ∧ some k_ ≠ (v660 : Value).ownBlock)) (Kd.jAZ (HO668.out) (Kd.jBN HO661.out) (by decide)) (fun k_ hk => ⟨trivial, hk.2⟩))).2.1 (Kd.R_F (Kd.jP (ok' := (fun k_ => ((fun _ => True)) k_ ∧ some k_ ≠ (v660 : Value).ownBlock)) (Kd.jAZ (HO668.out) (Kd.jBN HO661.out) (by decide)) (fun k_ hk => ⟨trivial, hk.2⟩))))); (case aB => exact (bb_ HB)); (case aF => exact (fun _ _ => trivial)); (case aO => exact (by refine pN_ ?_; exact Kd.qg HO661.out (fun _ hk => trivial))); (case aS => exact (jB (bb_ HB))); (case aL => have := LMc31.out; omega); intro v670 w46 ho hb hg hat; rw [← Ny669.out] at ho; have n0_ := jA.mk (Kd.jDV (ok := (fun k_ => some k_ ≠ (.slice Ao47 t663.length co47 : Value).ownBlock ∧ some k_ ≠ (.slice Ao48 t666.length co48 : Value).ownBlock)) (by refine pN_ ?_; exact Kd.qg HO_7.out (fun _ hk => ⟨⟨hk.1.2, hk.2⟩, hk.1.1.2⟩)) hg hat); have n1_ := jA.mk (Kd.qm (ok := (fun k_ => some k_ ≠ (.slice Ao47 t663.length co47 : Value).ownBlock ∧ some k_ ≠ (.slice Ao48 t666.length co48 : Value).ownBlock)) (by refine pV_ ?_; exact Kd.vO HO658.out (fun _ hk => ⟨⟨hk.1.2, hk.2⟩, hk.1.1.2⟩)) hg hat); have n2_ := jA.mk (hb); have n3_ := jA.mk (ho); clear HO_7 HO658 HB HO661 HO665 HO668; have HO_7 := n0_; have HO658 := n1_; have HB := n2_; have HO671 := n3_; clear n0_ n1_ n2_ n3_ ho hb hg hat; have q49 : ((ji26) : Int) ≤ ((x7_11.length : Int) : Int) := of_decide_eq_true am_; obtain ⟨i049, hi049, _, hsz49, _⟩ := info_parts jCr; have hroom49 : x7_11.length ≤ co40 := (Kd.jAP HO_7.out).2.1; have hC49 : Kd.F k44 _ _ Ao40 x7_11.length x7_11 := (Kd.V_at (base := w.heap.size) (Kd.N_V HO_7.out)).2.2; have hcut49 := jFA (P := Try.prog) 54 44 .i64 Try.underlying54 hi049 Ao40 x7_11.length co40 (ji26) (of_decide_eq_true am_) q49 hroom49; have hr49 := Kd.jHs (m := ((ji26) : Int).toNat) hC49 (by omega); have hy49 : y672.length = ((ji26) : Int).toNat := (by rw [Ny672.out, List.length_take]; omega); rw [← Ny672.out] at hr49; rw [← hy49] at hcut49; have HO676 := jA.mk (show Kd.V k44 44 _ w.heap.size _ (.slice Ao40 y672.length co40) y672 from Kd.V_mk (by omega) hr49); have HC676 := jA.mk (show y672.length ≤ co40 from by omega); clear hr49 hC49 hroom49 hi049 hsz49; have KY49 := jA.mk hy49; clear hy49; replace q49 := eq_true q49) | ((with_reducible refine vw (b := .append) (xs := #[.tmp 76, .tmp 79]) rfl ?_); (try (refine jv (by rfl) ?_; dsimp only)); at_builtin; refine Kd.jBm k44 (w0 := w) w.heap.size rfl (.tmp 76) (.tmp 79) 54 44 (.agg #[(.bool false), (.slice none 0 0), (.slice none 0 0)]) 56 rfl Try.underlying54 jCr rfl (by decide) (by omega) v670 y669 y672 _ _ _ (fun _ => True) (fun k_ => ((fun _ => True)) k_ ∧ some k_ ≠ (v670 : Value).ownBlock) rfl rfl ?aO ?aR (fun _ hk => hk) ?aF ?aB ?aS ?aL ?_; (case aR => exact (by skip; exact Kd.V_F (Kd.vO (ok' := (fun k_ => ((fun _ => True)) k_ ∧ some k_ ≠ (v670 : Value).ownBlock)) (HO676.out) (fun k_ hk => ⟨trivial, hk.2⟩)))); (case aB => exact (bb_ HB)); (case aF => exact (fun _ _ => trivial)); (case aO => exact (rN_ HO671)); (case aS => exact (jB (bb_ HB))); (case aL => have := LMc34.out; omega); intro v678 w50 ho hb hg hat; rw [← Ny677.out] at ho; have n0_ := jA.mk (Kd.jDV (ok := (fun _ => True)) (by refine pN_ ?_; exact Kd.qg HO_7.out (fun _ hk => ⟨trivial, hk.2⟩)) hg hat); have n1_ := jA.mk (Kd.qm (ok := (fun _ => True)) (by refine pV_ ?_; exact Kd.vO HO658.out (fun _ hk => ⟨trivial, hk.2⟩)) hg hat); have n2_ := jA.mk (Kd.qm (ok := (fun _ => True)) (by refine pV_ ?_; exact Kd.vO HO676.out (fun _ hk => ⟨trivial, hk.2⟩)) hg hat); have n3_ := jA.mk (hb); have n4_ := jA.mk (ho); clear HO_7 HO658 HO676 HB HO671; have HO_7 := n0_; have HO658 := n1_; have HO676 := n2_; have HB := n3_; have HO679 := n4_; clear n0_ n1_ n2_ n3_ n4_ ho hb hg hat) | ((with_reducible refine jJ (f := 37) rfl ?_); refine jr (some 83) rfl rfl Try.func37 kr_ rfl #[.slice Ao40 x7_11.length co40] rfl mt_ ?_; (with_reducible refine (vG.calls kj11 _ _ x7_11 t680 t681 t684 t687 _ ?side1 ?side2 A35.out).mono ?_); (case side1 => repeat (first | exact (Kd.jAP HO_7.out).2.2 | (with_reducible refine Kd.zR ?_ _) | (with_reducible refine Kd.zh ?_ _) | (with_reducible refine Kd.qG ?_))); (case side2 => exact (Kd.jAP HO_7.out).2.1); rintro e w51 ⟨v682, v685, rfl, ho0, ho1, hb⟩; refine ⟨_, rfl, ?_⟩; have n0_ := jA.mk (Kd.qg (Kd.jAf (Kd.jAf (Kd.jED (rN_ HO_7) hb) (Kd.jL ho0)) (Kd.jL ho1)) (fun _ h_ => h_.1)); have n1_ := jA.mk (Kd.vO (Kd.jAA (Kd.jAA (Kd.jCA (rV_ HO658) hb) (Kd.jL ho0)) (Kd.jL ho1)) (fun _ h_ => h_.1)); have n2_ := jA.mk (Kd.vO (Kd.jAA (Kd.jAA (Kd.jCA (rV_ HO676) hb) (Kd.jL ho0)) (Kd.jL ho1)) (fun _ h_ => h_.1)); have n3_ := jA.mk (Kd.qg (Kd.jAf (Kd.jAf (Kd.jED (rN_ HO679) hb) (Kd.jL ho0)) (Kd.jL ho1)) (fun _ h_ => h_.1)); have n4_ := jA.mk (Kd.jS ho0 (jB (bb_ HB))); have n5_ := jA.mk (Kd.jS ho1 (jB (bb_ HB))); have n6_ := jA.mk (jC (bb_ HB) hb); clear HO_7 HO658 HO676 HO679 HB; have HO_7 := n0_; have HO658 := n1_; have HO676 := n2_; have HO679 := n3_; have HO683 := n4_; have HO686 := n5_; have HB := n6_; clear n0_ n1_ n2_ n3_ n4_ n5_ n6_) | ((with_reducible refine jl (N := 11) rfl ?_); (try (refine jv (by rfl) ?_; dsimp only)); refine zA ?hg (N := 11) ?hd (cs := #[.bool false, .slice none 0 0, .slice none 0 0]) (t := 44) ?hr ?_; (case hd => rfl); (case hg => rfl); (case hr => exact gs_); intro gb688 hg w52 hbox hb; have n0_ := jA.mk (Kd.jAo (Kd.jCK (rN_ HO_7) gb688 (Nat.le_of_eq hg.symm)) hb); have n1_ := jA.mk (Kd.qL (Kd.jCJ (rV_ HO658) gb688 (Nat.le_of_eq hg.symm)) hb); have n2_ := jA.mk (Kd.qL (Kd.jCJ (rV_ HO676) gb688 (Nat.le_of_eq hg.symm)) hb); have n3_ := jA.mk (Kd.jAo (Kd.jCK (rN_ HO679) gb688 (Nat.le_of_eq hg.symm)) hb); have n4_ := jA.mk (Kd.jy (rR_ HO683) hb); have n5_ := jA.mk (Kd.jy (rR_ HO686) hb); have n6_ := jA.mk (jC (bb_ HB) hb); have n7_ := jA.mk (hbox); have n8_ := jA.mk ((by rw [hg]; exact (jB (bb_ HB)) : w.heap.size ≤ gb688)); have n9_ := jA.mk ((by rw [hg]; exact (jB (bb_ HB)) : w.heap.size ≤ gb688)); clear HO_7 HO658 HO676 HO679 HO683 HO686 HB; have HO_7 := n0_; have HO658 := n1_; have HO676 := n2_; have HO679 := n3_; have HO683 := n4_; have HO686 := n5_; have HB := n6_; have BK688 := n7_; have GW688 := n8_; have GE688 := n9_; clear n0_ n1_ n2_ n3_ n4_ n5_ n6_ n7_ n8_ n9_ hb hbox hg; have hcz53_0 : w52.cell? ⟨gb688, 0, none⟩ = some (.bool false) := (jF BK688.out 0).trans rfl; have hcz53_1 : w52.cell? ⟨gb688, 1, none⟩ = some (.slice none 0 0) := (jF BK688.out 1).trans rfl; have hcz53_2 : w52.cell? ⟨gb688, 2, none⟩ = some (.slice none 0 0) := (jF BK688.out 2).trans rfl; have hfz53_0 := jE BK688.out 0; have hfz53_1 := jE BK688.out 1; have hfz53_2 := jE BK688.out 2; obtain ⟨Ao54, co54, eo54⟩ := Kd.jc HO683.out; subst eo54; obtain ⟨Ao55, co55, eo55⟩ := Kd.jc HO686.out; subst eo55; obtain ⟨Ao56, co56, eo56⟩ := Kd.jCf HO679.out; subst eo56) | ((with_reducible refine jJ (f := 37) rfl ?_); refine jr (some 88) rfl rfl Try.func37 kr_ rfl #[.slice Ao56 y677.length co56] rfl mt_ ?_; (with_reducible refine (vG.calls kj11 _ _ y677 t689 t690 t693 t696 _ ?side1 ?side2 A36.out).mono ?_); (case side1 => refine (Kd.jAP (e := 44) (base := w.heap.size) (ok := fun k_ => (((True ∧ some k_ ≠ (.slice Ao54 t681.length co54 : Value).ownBlock) ∧ some k_ ≠ (.slice Ao55 t684.length co55 : Value).ownBlock) ∧ k_ ≠ gb688)) (n := y677.length) (c := co56) ?_).2.2; exact (by refine pN_ ?_; exact (Kd.qg (Kd.jBY (p := ⟨gb688, 2, none⟩) (Kd.jBY (p := ⟨gb688, 1, none⟩) (Kd.jBY (p := ⟨gb688, 0, none⟩) (Kd.qg HO679.out (fun k_ hk => (⟨hk, hk.2⟩ : _ ∧ k_ ≠ gb688))) (fun _ hk => hk.2) (.bool t680)) (fun _ hk => hk.2) (.slice Ao54 t681.length co54)) (fun _ hk => hk.2) (.slice Ao55 t684.length co55)) (fun _ h_ => h_.1)))); (case side2 => exact (Kd.jAP HO679.out).2.1); rintro e w57 ⟨v691, v694, rfl, ho0, ho1, hb⟩; refine ⟨_, rfl, ?_⟩; have n0_ := jA.mk (Kd.qg (Kd.jAf (Kd.jAf (Kd.jED (by refine pN_ ?_; exact (Kd.qg (Kd.jBY (p := ⟨gb688, 2, none⟩) (Kd.jBY (p := ⟨gb688, 1, none⟩) (Kd.jBY (p := ⟨gb688, 0, none⟩) (Kd.qg HO_7.out (fun k_ hk => (⟨hk, hk.2⟩ : _ ∧ k_ ≠ gb688))) (fun _ hk => hk.2) (.bool t680)) (fun _ hk => hk.2) (.slice Ao54 t681.length co54)) (fun _ hk => hk.2) (.slice Ao55 t684.length co55)) (fun _ h_ => h_.1))) hb) (Kd.jL ho0)) (Kd.jL ho1)) (fun _ h_ => h_.1)); have n1_ := jA.mk (Kd.vO (Kd.jAA (Kd.jAA (Kd.jCA (by refine pV_ ?_; exact (Kd.vO (Kd.jCB (p := ⟨gb688, 2, none⟩) (Kd.jCB (p := ⟨gb688, 1, none⟩) (Kd.jCB (p := ⟨gb688, 0, none⟩) (Kd.vO HO658.out (fun k_ hk => (⟨hk, hk.2⟩ : _ ∧ k_ ≠ gb688))) (fun _ hk => hk.2) (.bool t680)) (fun _ hk => hk.2) (.slice Ao54 t681.length co54)) (fun _ hk => hk.2) (.slice Ao55 t684.length co55)) (fun _ h_ => h_.1))) hb) (Kd.jL ho0)) (Kd.jL ho1)) (fun _ h_ => h_.1)); have n2_ := jA.mk (Kd.vO (Kd.jAA (Kd.jAA (Kd.jCA (by refine pV_ ?_; exact (Kd.vO (Kd.jCB (p := ⟨gb688, 2, none⟩) (Kd.jCB (p := ⟨gb688, 1, none⟩) (Kd.jCB (p := ⟨gb688, 0, none⟩) (Kd.vO HO676.out (fun k_ hk => (⟨hk, hk.2⟩ : _ ∧ k_ ≠ gb688))) (fun _ hk => hk.2) (.bool t680)) (fun _ hk => hk.2) (.slice Ao54 t681.length co54)) (fun _ hk => hk.2) (.slice Ao55 t684.length co55)) (fun _ h_ => h_.1))) hb) (Kd.jL ho0)) (Kd.jL ho1)) (fun _ h_ => h_.1)); have n3_ := jA.mk (Kd.qg (Kd.jAf (Kd.jAf (Kd.jED (by refine pN_ ?_; exact (Kd.qg (Kd.jBY (p := ⟨gb688, 2, none⟩) (Kd.jBY (p := ⟨gb688, 1, none⟩) (Kd.jBY (p := ⟨gb688, 0, none⟩) (Kd.qg HO679.out (fun k_ hk => (⟨hk, hk.2⟩ : _ ∧ k_ ≠ gb688))) (fun _ hk => hk.2) (.bool t680)) (fun _ hk => hk.2) (.slice Ao54 t681.length co54)) (fun _ hk => hk.2) (.slice Ao55 t684.length co55)) (fun _ h_ => h_.1))) hb) (Kd.jL ho0)) (Kd.jL ho1)) (fun _ h_ => h_.1)); have n4_ := jA.mk (Kd.jP (Kd.zI (Kd.zI (Kd.jAR (by refine pR_ ?_; exact (Kd.jP (Kd.ji (p := ⟨gb688, 2, none⟩) (Kd.ji (p := ⟨gb688, 1, none⟩) (Kd.ji (p := ⟨gb688, 0, none⟩) (Kd.jW HO683.out BK688.out (by decide)) (fun _ hk => hk.2) (.bool t680)) (fun _ hk => hk.2) (.slice Ao54 t681.length co54)) (fun _ hk => hk.2) (.slice Ao55 t684.length co55)) (fun _ h_ => h_.1))) hb) (Kd.jL ho0)) (Kd.jL ho1)) (fun _ h_ => h_.1)); have n5_ := jA.mk (Kd.jP (Kd.zI (Kd.zI (Kd.jAR (by refine pR_ ?_; exact (Kd.jP (Kd.ji (p := ⟨gb688, 2, none⟩) (Kd.ji (p := ⟨gb688, 1, none⟩) (Kd.ji (p := ⟨gb688, 0, none⟩) (Kd.jW HO686.out BK688.out (by decide)) (fun _ hk => hk.2) (.bool t680)) (fun _ hk => hk.2) (.slice Ao54 t681.length co54)) (fun _ hk => hk.2) (.slice Ao55 t684.length co55)) (fun _ h_ => h_.1))) hb) (Kd.jL ho0)) (Kd.jL ho1)) (fun _ h_ => h_.1)); have n6_ := jA.mk (Kd.jS (Kd.jN (Kd.jN ho0 (Kd.R_lt (by refine pR_ ?_; exact (Kd.jP (Kd.ji (p := ⟨gb688, 2, none⟩) (Kd.ji (p := ⟨gb688, 1, none⟩) (Kd.ji (p := ⟨gb688, 0, none⟩) (Kd.jW HO683.out BK688.out (by decide)) (fun _ hk => hk.2) (.bool t680)) (fun _ hk => hk.2) (.slice Ao54 t681.length co54)) (fun _ hk => hk.2) (.slice Ao55 t684.length co55)) (fun _ h_ => h_.1))))) (Kd.R_lt (by refine pR_ ?_; exact (Kd.jP (Kd.ji (p := ⟨gb688, 2, none⟩) (Kd.ji (p := ⟨gb688, 1, none⟩) (Kd.ji (p := ⟨gb688, 0, none⟩) (Kd.jW HO686.out BK688.out (by decide)) (fun _ hk => hk.2) (.bool t680)) (fun _ hk => hk.2) (.slice Ao54 t681.length co54)) (fun _ hk => hk.2) (.slice Ao55 t684.length co55)) (fun _ h_ => h_.1))))) (jB (bb1_ HB GE688))); have n7_ := jA.mk (Kd.jS (Kd.jN (Kd.jN ho1 (Kd.R_lt (by refine pR_ ?_; exact (Kd.jP (Kd.ji (p := ⟨gb688, 2, none⟩) (Kd.ji (p := ⟨gb688, 1, none⟩) (Kd.ji (p := ⟨gb688, 0, none⟩) (Kd.jW HO683.out BK688.out (by decide)) (fun _ hk => hk.2) (.bool t680)) (fun _ hk => hk.2) (.slice Ao54 t681.length co54)) (fun _ hk => hk.2) (.slice Ao55 t684.length co55)) (fun _ h_ => h_.1))))) (Kd.R_lt (by refine pR_ ?_; exact (Kd.jP (Kd.ji (p := ⟨gb688, 2, none⟩) (Kd.ji (p := ⟨gb688, 1, none⟩) (Kd.ji (p := ⟨gb688, 0, none⟩) (Kd.jW HO686.out BK688.out (by decide)) (fun _ hk => hk.2) (.bool t680)) (fun _ hk => hk.2) (.slice Ao54 t681.length co54)) (fun _ hk => hk.2) (.slice Ao55 t684.length co55)) (fun _ h_ => h_.1))))) (jB (bb1_ HB GE688))); have n8_ := jA.mk (zC (g := gb688) (o := .cells #[.bool t680, .slice Ao54 t681.length co54, .slice Ao55 t684.length co55] 44 (0, 0)) (by refine pk_ ?_; refine vD (cs := #[.bool t680, .slice Ao54 t681.length co54, .slice none 0 0]) ?_ 2 _ rs_; refine pk_ ?_; refine vD (cs := #[.bool t680, .slice none 0 0, .slice none 0 0]) ?_ 1 _ rs_; refine pk_ ?_; refine vD (cs := #[.bool false, .slice none 0 0, .slice none 0 0]) ?_ 0 _ rs_; refine pk_ ?_; exact BK688.out) hb); have n9_ := jA.mk (jC (bb1_ HB GE688) hb); clear HO_7 HO658 HO676 HO679 HO683 HO686 BK688 HB; have HO_7 := n0_; have HO658 := n1_; have HO676 := n2_; have HO679 := n3_; have HO683 := n4_; have HO686 := n5_; have HO692 := n6_; have HO695 := n7_; have BK688 := n8_; have HB := n9_; clear n0_ n1_ n2_ n3_ n4_ n5_ n6_ n7_ n8_ n9_) | ((with_reducible refine jl (N := 13) rfl ?_); (try (refine jv (by rfl) ?_; dsimp only)); refine zA ?hg (N := 13) ?hd (cs := #[.bool false, .slice none 0 0, .slice none 0 0]) (t := 44) ?hr ?_; (case hd => rfl); (case hg => rfl); (case hr => exact gs_); intro gb697 hg w58 hbox hb; have n0_ := jA.mk (Kd.jAo (Kd.jCK (rN_ HO_7) gb697 (Nat.le_of_eq hg.symm)) hb); have n1_ := jA.mk (Kd.qL (Kd.jCJ (rV_ HO658) gb697 (Nat.le_of_eq hg.symm)) hb); have n2_ := jA.mk (Kd.qL (Kd.jCJ (rV_ HO676) gb697 (Nat.le_of_eq hg.symm)) hb); have n3_ := jA.mk (Kd.jAo (Kd.jCK (rN_ HO679) gb697 (Nat.le_of_eq hg.symm)) hb); have n4_ := jA.mk (Kd.jy (rR_ HO683) hb); have n5_ := jA.mk (Kd.jy (rR_ HO686) hb); have n6_ := jA.mk (Kd.jy (rR_ HO692) hb); have n7_ := jA.mk (Kd.jy (rR_ HO695) hb); have n8_ := jA.mk (bl_ BK688 hb); have n9_ := jA.mk (jC (bb1_ HB GE688) hb); have n10_ := jA.mk (hbox); have n11_ := jA.mk ((by rw [hg]; exact (jB (bb1_ HB GE688)) : w.heap.size ≤ gb697)); have n12_ := jA.mk ((by rw [hg]; exact (jB (bb1_ HB GE688)) : w.heap.size ≤ gb697)); have n13_ := jA.mk ((by rw [hg]; exact Nat.ne_of_lt (qC (g := gb688) (o := .cells #[.bool t680, .slice Ao54 t681.length co54, .slice Ao55 t684.length co55] 44 (0, 0)) (kb_ BK688)) : gb688 ≠ gb697)); have n14_ := jA.mk ((by rw [hg]; exact Nat.ne_of_gt (qC (g := gb688) (o := .cells #[.bool t680, .slice Ao54 t681.length co54, .slice Ao55 t684.length co55] 44 (0, 0)) (kb_ BK688)) : gb697 ≠ gb688)); clear HO_7 HO658 HO676 HO679 HO683 HO686 HO692 HO695 BK688 HB; have HO_7 := n0_; have HO658 := n1_; have HO676 := n2_; have HO679 := n3_; have HO683 := n4_; have HO686 := n5_; have HO692 := n6_; have HO695 := n7_; have BK688 := n8_; have HB := n9_; have BK697 := n10_; have GW697 := n11_; have GE697 := n12_; have NB688_697 := n13_; have NB697_688 := n14_; clear n0_ n1_ n2_ n3_ n4_ n5_ n6_ n7_ n8_ n9_ n10_ n11_ n12_ n13_ n14_ hb hbox hg; have hnb59 := NB697_688.out; have hnc59 := NB688_697.out; have hcz60_0 : w58.cell? ⟨gb697, 0, none⟩ = some (.bool false) := (jF BK697.out 0).trans rfl; have hcz60_1 : w58.cell? ⟨gb697, 1, none⟩ = some (.slice none 0 0) := (jF BK697.out 1).trans rfl; have hcz60_2 : w58.cell? ⟨gb697, 2, none⟩ = some (.slice none 0 0) := (jF BK697.out 2).trans rfl; have hfz60_0 := jE BK697.out 0; have hfz60_1 := jE BK697.out 1; have hfz60_2 := jE BK697.out 2; obtain ⟨Ao61, co61, eo61⟩ := Kd.jc HO692.out; subst eo61; obtain ⟨Ao62, co62, eo62⟩ := Kd.jc HO695.out; subst eo62; have hcz63_0 : w58.cell? ⟨gb688, 0, none⟩ = some (.bool t680) := (jF BK688.out 0).trans rfl; have hcz63_1 : w58.cell? ⟨gb688, 1, none⟩ = some (.slice Ao54 t681.length co54) := (jF BK688.out 1).trans rfl; have hcz63_2 : w58.cell? ⟨gb688, 2, none⟩ = some (.slice Ao55 t684.length co55) := (jF BK688.out 2).trans rfl; have hfz63_0 := jE BK688.out 0; have hfz63_1 := jE BK688.out 1; have hfz63_2 := jE BK688.out 2) | (go_at_call 26; (with_reducible refine (jh.calls kj11 t680 _ _ t681 _ _ t684 t689 _ _ t690 _ _ t693 t698 _ ?side1 ?side2 ?side3 ?side4 ?side5 ?side6 ?side7 ?side8 A39.out).mono ?_); (case side1 => refine (Kd.jI (e := 22) (base := w.heap.size) (ok := fun k_ => ((some k_ ≠ (.slice Ao55 t684.length co55 : Value).ownBlock ∧ some k_ ≠ (.slice Ao61 t690.length co61 : Value).ownBlock) ∧ some k_ ≠ (.slice Ao62 t693.length co62 : Value).ownBlock)) (n := t681.length) (c := co54) ?_).2.2; exact (by refine pR_ ?_; exact (Kd.jP (Kd.ji (p := ⟨gb697, 2, none⟩) (Kd.ji (p := ⟨gb697, 1, none⟩) (Kd.ji (p := ⟨gb697, 0, none⟩) (Kd.jW HO683.out BK697.out (by decide)) (fun _ hk => hk.2) (.bool t689)) (fun _ hk => hk.2) (.slice Ao61 t690.length co61)) (fun _ hk => hk.2) (.slice Ao62 t693.length co62)) (fun _ h_ => h_.1)))); (case side2 => exact (Kd.jI HO683.out).2.1); (case side3 => refine (Kd.jI (e := 22) (base := w.heap.size) (ok := fun k_ => ((some k_ ≠ (.slice Ao54 t681.length co54 : Value).ownBlock ∧ some k_ ≠ (.slice Ao61 t690.length co61 : Value).ownBlock) ∧ some k_ ≠ (.slice Ao62 t693.length co62 : Value).ownBlock)) (n := t684.length) (c := co55) ?_).2.2; exact (by refine pR_ ?_; exact (Kd.jP (Kd.ji (p := ⟨gb697, 2, none⟩) (Kd.ji (p := ⟨gb697, 1, none⟩) (Kd.ji (p := ⟨gb697, 0, none⟩) (Kd.jW HO686.out BK697.out (by decide)) (fun _ hk => hk.2) (.bool t689)) (fun _ hk => hk.2) (.slice Ao61 t690.length co61)) (fun _ hk => hk.2) (.slice Ao62 t693.length co62)) (fun _ h_ => h_.1)))); (case side4 => exact (Kd.jI HO686.out).2.1); (case side5 => refine (Kd.jI (e := 22) (base := w.heap.size) (ok := fun k_ => ((some k_ ≠ (.slice Ao62 t693.length co62 : Value).ownBlock ∧ some k_ ≠ (.slice Ao54 t681.length co54 : Value).ownBlock) ∧ some k_ ≠ (.slice Ao55 t684.length co55 : Value).ownBlock)) (n := t690.length) (c := co61) ?_).2.2; exact (by refine pR_ ?_; exact (Kd.jP (Kd.ji (p := ⟨gb697, 2, none⟩) (Kd.ji (p := ⟨gb697, 1, none⟩) (Kd.ji (p := ⟨gb697, 0, none⟩) (Kd.jW HO692.out BK697.out (by decide)) (fun _ hk => hk.2) (.bool t689)) (fun _ hk => hk.2) (.slice Ao61 t690.length co61)) (fun _ hk => hk.2) (.slice Ao62 t693.length co62)) (fun _ h_ => h_.1)))); (case side6 => exact (Kd.jI HO692.out).2.1); (case side7 => refine (Kd.jI (e := 22) (base := w.heap.size) (ok := fun k_ => ((some k_ ≠ (.slice Ao61 t690.length co61 : Value).ownBlock ∧ some k_ ≠ (.slice Ao54 t681.length co54 : Value).ownBlock) ∧ some k_ ≠ (.slice Ao55 t684.length co55 : Value).ownBlock)) (n := t693.length) (c := co62) ?_).2.2; exact (by refine pR_ ?_; exact (Kd.jP (Kd.ji (p := ⟨gb697, 2, none⟩) (Kd.ji (p := ⟨gb697, 1, none⟩) (Kd.ji (p := ⟨gb697, 0, none⟩) (Kd.jW HO695.out BK697.out (by decide)) (fun _ hk => hk.2) (.bool t689)) (fun _ hk => hk.2) (.slice Ao61 t690.length co61)) (fun _ hk => hk.2) (.slice Ao62 t693.length co62)) (fun _ h_ => h_.1)))); (case side8 => exact (Kd.jI HO695.out).2.1); rintro e w64 ⟨rfl, hb⟩; have n0_ := jA.mk (Kd.jAo (by refine pN_ ?_; exact (Kd.qg (Kd.jBY (p := ⟨gb697, 2, none⟩) (Kd.jBY (p := ⟨gb697, 1, none⟩) (Kd.jBY (p := ⟨gb697, 0, none⟩) (Kd.qg HO_7.out (fun k_ hk => (⟨hk, hk.2⟩ : _ ∧ k_ ≠ gb697))) (fun _ hk => hk.2) (.bool t689)) (fun _ hk => hk.2) (.slice Ao61 t690.length co61)) (fun _ hk => hk.2) (.slice Ao62 t693.length co62)) (fun _ h_ => h_.1))) hb); have n1_ := jA.mk (Kd.qL (by refine pV_ ?_; exact (Kd.vO (Kd.jCB (p := ⟨gb697, 2, none⟩) (Kd.jCB (p := ⟨gb697, 1, none⟩) (Kd.jCB (p := ⟨gb697, 0, none⟩) (Kd.vO HO658.out (fun k_ hk => (⟨hk, hk.2⟩ : _ ∧ k_ ≠ gb697))) (fun _ hk => hk.2) (.bool t689)) (fun _ hk => hk.2) (.slice Ao61 t690.length co61)) (fun _ hk => hk.2) (.slice Ao62 t693.length co62)) (fun _ h_ => h_.1))) hb); have n2_ := jA.mk (Kd.qL (by refine pV_ ?_; exact (Kd.vO (Kd.jCB (p := ⟨gb697, 2, none⟩) (Kd.jCB (p := ⟨gb697, 1, none⟩) (Kd.jCB (p := ⟨gb697, 0, none⟩) (Kd.vO HO676.out (fun k_ hk => (⟨hk, hk.2⟩ : _ ∧ k_ ≠ gb697))) (fun _ hk => hk.2) (.bool t689)) (fun _ hk => hk.2) (.slice Ao61 t690.length co61)) (fun _ hk => hk.2) (.slice Ao62 t693.length co62)) (fun _ h_ => h_.1))) hb); have n3_ := jA.mk (Kd.jAo (by refine pN_ ?_; exact (Kd.qg (Kd.jBY (p := ⟨gb697, 2, none⟩) (Kd.jBY (p := ⟨gb697, 1, none⟩) (Kd.jBY (p := ⟨gb697, 0, none⟩) (Kd.qg HO679.out (fun k_ hk => (⟨hk, hk.2⟩ : _ ∧ k_ ≠ gb697))) (fun _ hk => hk.2) (.bool t689)) (fun _ hk => hk.2) (.slice Ao61 t690.length co61)) (fun _ hk => hk.2) (.slice Ao62 t693.length co62)) (fun _ h_ => h_.1))) hb); have n4_ := jA.mk (Kd.jy (by refine pR_ ?_; exact (Kd.jP (Kd.ji (p := ⟨gb697, 2, none⟩) (Kd.ji (p := ⟨gb697, 1, none⟩) (Kd.ji (p := ⟨gb697, 0, none⟩) (Kd.jW HO683.out BK697.out (by decide)) (fun _ hk => hk.2) (.bool t689)) (fun _ hk => hk.2) (.slice Ao61 t690.length co61)) (fun _ hk => hk.2) (.slice Ao62 t693.length co62)) (fun _ h_ => h_.1))) hb); have n5_ := jA.mk (Kd.jy (by refine pR_ ?_; exact (Kd.jP (Kd.ji (p := ⟨gb697, 2, none⟩) (Kd.ji (p := ⟨gb697, 1, none⟩) (Kd.ji (p := ⟨gb697, 0, none⟩) (Kd.jW HO686.out BK697.out (by decide)) (fun _ hk => hk.2) (.bool t689)) (fun _ hk => hk.2) (.slice Ao61 t690.length co61)) (fun _ hk => hk.2) (.slice Ao62 t693.length co62)) (fun _ h_ => h_.1))) hb); have n6_ := jA.mk (Kd.jy (by refine pR_ ?_; exact (Kd.jP (Kd.ji (p := ⟨gb697, 2, none⟩) (Kd.ji (p := ⟨gb697, 1, none⟩) (Kd.ji (p := ⟨gb697, 0, none⟩) (Kd.jW HO692.out BK697.out (by decide)) (fun _ hk => hk.2) (.bool t689)) (fun _ hk => hk.2) (.slice Ao61 t690.length co61)) (fun _ hk => hk.2) (.slice Ao62 t693.length co62)) (fun _ h_ => h_.1))) hb); have n7_ := jA.mk (Kd.jy (by refine pR_ ?_; exact (Kd.jP (Kd.ji (p := ⟨gb697, 2, none⟩) (Kd.ji (p := ⟨gb697, 1, none⟩) (Kd.ji (p := ⟨gb697, 0, none⟩) (Kd.jW HO695.out BK697.out (by decide)) (fun _ hk => hk.2) (.bool t689)) (fun _ hk => hk.2) (.slice Ao61 t690.length co61)) (fun _ hk => hk.2) (.slice Ao62 t693.length co62)) (fun _ h_ => h_.1))) hb); have n8_ := jA.mk (zC (g := gb688) (o := .cells #[.bool t680, .slice Ao54 t681.length co54, .slice Ao55 t684.length co55] 44 (0, 0)) (by refine pk_ ?_; refine qX ?_ NB688_697.out _; refine pk_ ?_; refine qX ?_ NB688_697.out _; refine pk_ ?_; refine qX ?_ NB688_697.out _; refine pk_ ?_; exact BK688.out) hb); have n9_ := jA.mk (zC (g := gb697) (o := .cells #[.bool t689, .slice Ao61 t690.length co61, .slice Ao62 t693.length co62] 44 (0, 0)) (by refine pk_ ?_; refine vD (cs := #[.bool t689, .slice Ao61 t690.length co61, .slice none 0 0]) ?_ 2 _ rs_; refine pk_ ?_; refine vD (cs := #[.bool t689, .slice none 0 0, .slice none 0 0]) ?_ 1 _ rs_; refine pk_ ?_; refine vD (cs := #[.bool false, .slice none 0 0, .slice none 0 0]) ?_ 0 _ rs_; refine pk_ ?_; exact BK697.out) hb); have n10_ := jA.mk (jC (bb2_ HB GE688 GE697) hb); clear HO_7 HO658 HO676 HO679 HO683 HO686 HO692 HO695 BK688 BK697 HB; have HO_7 := n0_; have HO658 := n1_; have HO676 := n2_; have HO679 := n3_; have HO683 := n4_; have HO686 := n5_; have HO692 := n6_; have HO695 := n7_; have BK688 := n8_; have BK697 := n9_; have HB := n10_; clear n0_ n1_ n2_ n3_ n4_ n5_ n6_ n7_ n8_ n9_ n10_))
              go_ret
              exact ⟨by first | rfl | (rw [HRT_.out]; rfl) | (simp only [HRT_.out]; done) | exact of_decide_eq_true HRT_.out | (have h_ := HRT_.out; simp at h_ ⊢; exact h_) | (have h_ := HRT_.out; simp at h_ ⊢; omega) | (have h_ := HRT_.out; simp [h_]; done) | (simp [vY, vX] <;> rfl) | (simp only [← hji26]; first | rfl | (simp [vY, vX] <;> rfl)) | (simp [*, vY, vX] <;> rfl), (bb2_ HB GE688 GE697)⟩
             ·
              rw [if_neg c38] at H
              have c38b0 := beq_eq_false_iff_ne.mpr c38
              have c38b1 := bne_iff_ne.mpr c38
              exact absurd H (by simp)
            ·
             rw [if_neg c37] at H
             have c37b0 := beq_eq_false_iff_ne.mpr c37
             have c37b1 := bne_iff_ne.mpr c37
             exact absurd H (by simp)
           ·
            rw [if_neg c34] at H
            exact absurd H (by simp)
          ·
           rw [if_neg c31] at H
           exact absurd H (by simp)
         ·
          rw [if_neg c29] at H
          exact absurd H (by simp)
        ·
         rw [if_neg c28] at H
         exact absurd H (by simp)
       ·
        rw [if_neg c27] at H
        exact absurd H (by simp)

/-- THE ONE PURE STATEMENT of syzygylaw05_RatioSums: yours. -/
def syzygylaw05_RatioSums.Pure : Prop := ∀ (l0 : List Int) (l1 : List Int) (a2 : Int), l0.length ≤ maxLen → l0.length * 1 ≤ 140737488351232 → (∀ x ∈ l0, (Lit.int .i8 x).wf = true) → l1.length ≤ maxLen → l1.length * 1 ≤ 140737488351232 → (∀ x ∈ l1, (Lit.int .u8 x).wf = true) → (Lit.int .u8 a2).wf = true → ∃ k, syzygylaw05_RatioSums.f k l0 l1 a2 = some true
theorem syzygylaw05_RatioSums.walk (P : syzygylaw05_RatioSums.Pure) (a0 : Option Addr) (len0 cap0 : Nat) (z0 : List Int) (a1 : Option Addr) (len1 cap1 : Nat) (z1 : List Int) (a2 : Int) (w : World) (w0 : (a0 = none ∧ len0 = 0 ∧ cap0 = 0 ∧ z0 = []) ∨ ∃ x, a0 = some x ∧ len0 ≤ cap0 ∧ cap0 ≤ maxLen ∧ z0.length = cap0 ∧ (∀ i, i < z0.length → w.cell? (x.add i) = some (.int .i8 (z0.getD i 0))) ∧ ∀ n ∈ z0, (Lit.int .i8 n).wf = true) (y0 : len0 * 1 ≤ 140737488351232) (w1 : (a1 = none ∧ len1 = 0 ∧ cap1 = 0 ∧ z1 = []) ∨ ∃ x, a1 = some x ∧ len1 ≤ cap1 ∧ cap1 ≤ maxLen ∧ z1.length = cap1 ∧ (∀ i, i < z1.length → w.cell? (x.add i) = some (.int .u8 (z1.getD i 0))) ∧ ∀ n ∈ z1, (Lit.int .u8 n).wf = true) (y1 : len1 * 1 ≤ 140737488351232) (w2 : (Lit.int .u8 a2).wf = true) :
  Calls Try.prog 8 #[.slice a0 len0 cap0, .slice a1 len1 cap1, .int .u8 a2] w fun e w' => e = .returned (.bool true) ∧ Below w.heap.size w w' := by
 obtain ⟨l0, rfl, hr0, hm0, hw0, hc0⟩ := qF.jHj w0
 obtain ⟨l1, rfl, hr1, hm1, hw1, hc1⟩ := qF.jHj w1
 obtain ⟨k, h⟩ := P l0 l1 a2 hm0 y0 hw0 hm1 y1 hw1 w2
 refine (syzygylaw05_RatioSums.calls k _ _ l0 _ _ l1 a2 w (Kd.jBS (d := (0 : Int)) (h1 := fun _ => rfl) hr0) hc0 (Kd.jBS (d := (0 : Int)) (h1 := fun _ => rfl) hr1) hc1 h).mono ?_
 rintro e w' ⟨rfl, hd⟩
 exact ⟨rfl, hd⟩

end Go.Proofs.Ytijgeonhbmgikaa.PORatioSums
