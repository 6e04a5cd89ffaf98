-- printed (pr.py)
import Derived.Test.YtijgeonhbmgikaaPOOctetGetsx0
namespace Go.Proofs.Ytijgeonhbmgikaa.POOctetGets
open Go.RowKit Go.Proofs.YtijgeonhbmgikaaN Go.Proofs.YtijgeonhbmgikaaW.PrintWords Go.Proofs.YtijgeonhbmgikaaW.PrintLast Go.Proofs.YtijgeonhbmgikaaW.PrintMore
attribute [local go_sem] qC zy qR qP za zZ qA zx
set_option maxHeartbeats 8000000
set_option maxRecDepth 100000
set_option linter.unusedVariables false
set_option linter.unusedSimpArgs false

/-! ### bits_Len64: function 57 -/

def bits_Len64.f (a0 : Int) : Option Int := if 0 ≤ a0 ∧ a0 < B then some (Lib.bitLen a0.toNat) else none
theorem bits_Len64.calls (a0 : Int) (r : Int) (w : World) (h : bits_Len64.f a0 = some r) :
  Calls Try.prog 57 #[.int .u64 a0] w fun e w' => e = .returned (.int .i64 r) ∧ Below w.heap.size w w' := by
 unfold bits_Len64.f at h
 by_cases hc : 0 ≤ a0 ∧ a0 < B
 ·
  rw [if_pos hc] at h
  cases h
  exact (Go.Proofs.Ytijgeonhbmgikaa.Len64.calls_ a0 w hc.1 (by have := hc.2; rw [B_eq] at this; omega)).mono fun e w' ⟨he, hw⟩ => ⟨he, by rw [hw]; exact Below.refl _ _⟩
 ·
  rw [if_neg hc] at h; cases h

/-! ### vB: function 58 -/
def vB.l0 : Nat → Int → Int → List Int → Int → Int → Option (ByteArray)
 | 0, _, _, _, _, _ => none
 | k + 1, x0, x1, x5, x10, x11 => if x11 < x10 then (if 0 ≤ (wrap64 (8 * x11)) then (if 0 ≤ (wrap64 ((wrap64 (x1 - 1)) - x11)) then (if (wrap64 ((wrap64 (x1 - 1)) - x11)) < (x5.length : Int) then (vB.l0 k x0 x1 (x5.set ((wrap64 ((wrap64 (x1 - 1)) - x11)) : Int).toNat ((shr .u64 x0 (wrap64 (8 * x11))) % 256)) x10 (wrap64 (x11 + 1))) else (none)) else (none)) else (none)) else (some (strOfNums x5))
def vB.f (k : Nat) (a0 : Int) (a1 : Int) : Option (ByteArray) := if 0 ≤ a1 then (if (a1 : Int).toNat ≤ 281474976710656 then ((some (List.replicate (a1 : Int).toNat 0 : List Int)).bind fun y101 => (vB.l0 k a0 a1 y101 (y101.length : Int) 0)) else (none)) else (none)
theorem vB.vN : ∀ k, (∀ y0 y1 y2 y3 y4, LeO (vB.l0 k y0 y1 y2 y3 y4) (vB.l0 (k + 1) y0 y1 y2 y3 y4))
 | 0 => fun _ _ _ _ _ r h => by simp [vB.l0] at h
 | k + 1 => by
  have ih0 := vB.vN k
  ·
   intro y0 y1 y2 y3 y4
   unfold vB.l0
   repeat' first
   | (with_reducible exact ih0 _ _ _ _ _)
   | (with_reducible exact LeO.refl _)
   | (with_reducible exact LeO.none _)
   | (with_reducible refine LeO.ite ?_ ?_)
   | (with_reducible refine LeO.bind ?_ (fun _ => ?_))
theorem vB.mono : ∀ a0 a1 k, LeO (vB.f k a0 a1) (vB.f (k + 1) a0 a1) := by
 intro a0 a1 k
 have ih0 := vB.vN k
 unfold vB.f
 repeat' first
   | (with_reducible exact ih0 _ _ _ _ _)
   | (with_reducible exact LeO.refl _)
   | (with_reducible exact LeO.none _)
   | (with_reducible refine LeO.ite ?_ ?_)
   | (with_reducible refine LeO.bind ?_ (fun _ => ?_))
theorem vB.calls (k : Nat) (a0 : Int) (a1 : Int) (r : ByteArray) (w : World) (h : vB.f k a0 a1 = some r) :
  Calls Try.prog 58 #[.int .u64 a0, .int .i64 a1] w fun e w' => e = .returned (.string r) ∧ Below w.heap.size w w' := by
 have HB := jA.mk (Below.refl w.heap.size w)
 have H : (if 0 ≤ a1 then (if (a1 : Int).toNat ≤ 281474976710656 then ((some (List.replicate (a1 : Int).toNat 0 : List Int)).bind fun y101 => (vB.l0 k a0 a1 y101 (y101.length : Int) 0)) else (none)) else (none)) = some r := h
 clear h
 by_cases c3 : 0 ≤ a1
 ·
  rw [if_pos c3] at H
  have c3b0 := eq_true c3
  have c3b1 := decide_eq_true c3
  clear c3
  by_cases c4 : (a1 : Int).toNat ≤ 281474976710656
  ·
   rw [if_pos c4] at H
   have c4b0 := eq_true c4
   have c4b1 := decide_eq_true c4
   clear c4
   obtain ⟨y101, hy101⟩ : ∃ y_ : List Int, y_ = (List.replicate (a1 : Int).toNat 0) := ⟨_, rfl⟩
   replace H : (vB.l0 k a0 a1 y101 (y101.length : Int) 0) = some r := by first | (rw [hy101]; with_reducible exact H) | (have H2_ := (Option.bind_some _ _).symm.trans H; rw [hy101]; with_reducible exact H2_) | (with_reducible exact hs_ H) | with_reducible exact H | (rw [hy101]; exact H) | exact H
   have Ny101 := jA.mk hy101
   clear hy101
   have H' := jA.mk H
   clear H
   go_enter Try.func58, Try.ntmps58
   go_wp2_with (first | ((with_reducible refine jr (N := 8) rfl ?_); refine Kd.jFT (Kd.int .u8) _ 5 rfl (N := 8) rfl 60 _ _ rfl a1 rfl rfl Try.underlying60 (.int .u8 0) 1 info5 rfl (by decide) (by omega) 0 (ok := fun _ => True) (okp := fun _ => True) rfl (fun _ hk => hk) trivial (of_decide_eq_true am_) (Nat.le_trans (Nat.mul_le_mul_right _ (of_decide_eq_true am_ : a1.toNat ≤ 281474976710656)) (by omega)) (Below.refl _ _) (Nat.le_refl _) ?_; intro v102 w5 ho6 hb hg_ hnew_; clear hg_ hnew_; (first | rw [← Ny101.out] at ho6 | (simp only [Int.reduceToNat] at ho6; rw [← Ny101.out] at ho6)); have HO103 := jA.mk (Kd.jU ho6 (jB (bb_ HB))); replace HB := bs_ HB hb; clear hb ho6; obtain ⟨Ao7, co7, eo7⟩ := Kd.jm HO103.out; subst eo7))
   go_loopg [11] k (fun kq v11 w' => ∃ (x5_1 : List Int) (x11_1 : Int), v11 = .int .i64 x11_1 ∧ jA (vB.l0 kq a0 a1 x5_1 (y101.length : Int) x11_1 = some r) ∧ jA (kq ≤ k) ∧ jA (Kd.R (Kd.int .u8) 5 w' w.heap.size (fun _ => True) (.slice Ao7 y101.length co7) x5_1) ∧ jA (Below w.heap.size w w'))
   case atStart => exact ⟨(y101), (0), sd_, H', ⟨Nat.le_refl _⟩, ⟨(rR_ HO103)⟩, ⟨(bb_ HB)⟩⟩
   case round =>
    clear H'
    try clear p2
    try clear c3
    try clear c3b0
    try clear c3b1
    try clear c4
    try clear c4b0
    try clear c4b1
    try clear c5
    obtain ⟨x5_1, x11_1, rfl, HA, HK1, HO_5, HB⟩ := hrel
    have hl5_1 := (Kd.jF HO_5.out).1
    rw [hl5_1] at HO_5
    (try simp only [hl5_1])
    cases gk with
    | zero => exact absurd HA.out (by simp [vB.l0])
    | succ k1 =>
     have H := HA.out
     clear HA
     simp only [vB.l0] at H
     by_cases c8 : x11_1 < (y101.length : Int)
     ·
      rw [if_pos c8] at H
      have c8b0 := decide_eq_true c8
      (try simp only [hl5_1] at c8b0)
      clear c8
      obtain ⟨ji9, hji9⟩ : ∃ j_ : Int, (wrap64 (8 * x11_1)) = j_ := ⟨_, rfl⟩
      replace H : (if 0 ≤ (ji9) then (if 0 ≤ (wrap64 ((wrap64 (a1 - 1)) - x11_1)) then (if (wrap64 ((wrap64 (a1 - 1)) - x11_1)) < (x5_1.length : Int) then (vB.l0 k1 a0 a1 (x5_1.set ((wrap64 ((wrap64 (a1 - 1)) - x11_1)) : Int).toNat ((shr .u64 a0 (ji9)) % 256)) (y101.length : Int) (wrap64 (x11_1 + 1))) else (none)) else (none)) else (none)) = some r := by first | (rw [hji9] at H; exact H) | (simp only [hji9] at H ⊢; exact H)
      have hji9w : (IntKind.i64.wrap (8 * x11_1)) = ji9 := (zF _).trans hji9
      by_cases c10 : 0 ≤ (ji9)
      ·
       rw [if_pos c10] at H
       have c10b0 := eq_true c10
       have c10b1 := decide_eq_true c10
       clear c10
       obtain ⟨ji11, hji11⟩ : ∃ j_ : Int, (shr .u64 a0 (ji9)) = j_ := ⟨_, rfl⟩
       replace H : (if 0 ≤ (wrap64 ((wrap64 (a1 - 1)) - x11_1)) then (if (wrap64 ((wrap64 (a1 - 1)) - x11_1)) < (x5_1.length : Int) then (vB.l0 k1 a0 a1 (x5_1.set ((wrap64 ((wrap64 (a1 - 1)) - x11_1)) : Int).toNat ((ji11) % 256)) (y101.length : Int) (wrap64 (x11_1 + 1))) else (none)) else (none)) = some r := by first | (rw [hji11] at H; exact H) | (simp only [hji11] at H ⊢; exact H)
       have hji11_ : (a0 / 2 ^ min (ji9).toNat 64) = ji11 := hji11
       have hji11z : (ji9) ≤ 64 → (a0 / 2 ^ (ji9).toNat) = ji11 := jAv hji11
       obtain ⟨ji12, hji12⟩ : ∃ j_ : Int, (wrap64 ((wrap64 (a1 - 1)) - x11_1)) = j_ := ⟨_, rfl⟩
       replace H : (if 0 ≤ (ji12) then (if (ji12) < (x5_1.length : Int) then (vB.l0 k1 a0 a1 (x5_1.set ((ji12) : Int).toNat ((ji11) % 256)) (y101.length : Int) (wrap64 (x11_1 + 1))) else (none)) else (none)) = some r := by first | (rw [hji12] at H; exact H) | (simp only [hji12] at H ⊢; exact H)
       have hji12w : (IntKind.i64.wrap ((wrap64 (a1 - 1)) - x11_1)) = ji12 := (zF _).trans hji12
       by_cases c13 : 0 ≤ (ji12)
       ·
        rw [if_pos c13] at H
        have c13b0 := decide_eq_true c13
        clear c13
        by_cases c14 : (ji12) < (x5_1.length : Int)
        ·
         rw [if_pos c14] at H
         have c14b0 := decide_eq_true c14
         (try simp only [hl5_1] at c14b0)
         clear c14
         obtain ⟨y104, hy104⟩ : ∃ y_ : List Int, y_ = (x5_1.set ((ji12) : Int).toNat ((ji11) % 256)) := ⟨_, rfl⟩
         replace H : (vB.l0 k1 a0 a1 y104 (y101.length : Int) (wrap64 (x11_1 + 1))) = some r := by first | (rw [hy104]; with_reducible exact H) | (have H2_ := (Option.bind_some _ _).symm.trans H; rw [hy104]; with_reducible exact H2_) | (with_reducible exact hs_ H) | with_reducible exact H | (rw [hy104]; exact H) | exact H
         have Ny104 := jA.mk hy104
         clear hy104
         have H' := jA.mk H
         clear H
         have p15 : 0 ≤ ((ji12) : Int) := of_decide_eq_true am_
         have q15 : ((ji12) : Int) < ((x5_1.length : Int) : Int) := of_decide_eq_true am_
         obtain ⟨go15, co15, eo15, gb15, gl15, cl15, HG15⟩ := Kd.jAA HO_5.out (by omega)
         (first | cases eo15 | (injection eo15 with ea_ en_ ec_; (first | subst ea_ | (injection ea_ with ea_; subst ea_)); subst ec_; clear en_))
         have GB15 := jA.mk gb15
         have GG15 := jA.mk HG15
         clear gb15 gl15 HG15
         obtain ⟨hx15_0, hf15_0⟩ := Kd.zJ 0 HO_5.out ((ji12) : Int) p15 q15
         replace p15 := eq_true p15
         replace q15 := eq_true q15
         have HP16 := Kd.qz HO_5.out ((ji12) : Int) ((ji11) % 256)
         go_wp2_with (first | ((with_reducible refine qD (t := 5) (p := 24) rfl ?_); refine zm (t := 5) (p := 24) (v := ?vo_w17) (w1 := (wr.setCell ⟨go15, ((ji12) : Int).toNat, none⟩ (.int .u8 ((ji11) % 256)))) ?hg ?ho ?hn ?hr ?_; (case ho => rfl); (case hg => rfl); (case hn => rfl); (case hr => exact gs_); intro w17 hw; have hg : wr.grownBy w17 (some go15) := (by rw [hw]; exact HP16.2); have hp_ : Kd.R (Kd.int .u8) 5 w17 w.heap.size (fun _ => True) (.slice (some ⟨go15, 0, none⟩) x5_1.length co7) y104 := (by rw [hw, Ny104.out]; exact HP16.1); clear HP16; replace HO_5 := jA.mk (hp_); replace HB := jA.mk ((by rw [hw]; exact zI (HB.out) GB15.out : Below w.heap.size w w17)); clear hg hw hp_))
         (try simp only [← hl5_1])
         go_roundg k1
         case measure => have := HK1.out; omega
         case rel => exact ⟨(y104), (wrap64 (x11_1 + 1)), sd_, H', ⟨by have := HK1.out; omega⟩, ⟨by (try simp only [hl5_1]); refine pR_ ?_; exact HO_5.out⟩, ⟨(bb_ HB)⟩⟩
        ·
         rw [if_neg c14] at H
         exact absurd H (by simp)
       ·
        rw [if_neg c13] at H
        exact absurd H (by simp)
      ·
       rw [if_neg c10] at H
       exact absurd H (by simp)
     ·
      rw [if_neg c8] at H
      have c8b0 := decide_eq_false c8
      (try simp only [hl5_1] at c8b0)
      clear c8
      obtain rfl := Option.some.inj H
      have hcv18 := jBV (P := Try.prog) Try.underlying60 Try.underlying5 Try.underlying9 (Kd.jBD HO_5.out)
      go_wp2
      go_ret
      exact ⟨ew_, (bb_ HB)⟩
  ·
   rw [if_neg c4] at H
   exact absurd H (by simp)
 ·
  rw [if_neg c3] at H
  exact absurd H (by simp)

/-! ### zG: function 15 -/
def zG.f (k : Nat) (a0 : Int) : Option (ByteArray) := (bits_Len64.f a0).bind fun t105 => ((some (([(wrap64 (Int.tdiv (wrap64 (t105 + 7)) 8)) % 256] : List Int) : List Int)).bind fun y106 => ((vB.f k a0 (wrap64 (Int.tdiv (wrap64 (t105 + 7)) 8))).bind fun t109 => (if (strOfNums y106).size + t109.size ≤ 9223372036854775807 then (some ((strOfNums y106) ++ t109)) else (none))))
theorem zG.mono : ∀ a0 k, LeO (zG.f k a0) (zG.f (k + 1) a0) := by
 intro a0 k
 unfold zG.f
 repeat' first
   | (with_reducible exact vB.mono _ _ _)
   | (with_reducible exact LeO.refl _)
   | (with_reducible exact LeO.none _)
   | (with_reducible refine LeO.ite ?_ ?_)
   | (with_reducible refine LeO.bind ?_ (fun _ => ?_))
def zG.T2 : Bool × List (List Nat × List Nat) := (true, [([], []), ([0], [0]), ([1], [1]), ([2], [2]), ([], []), ([], []), ([4, 5], [4, 5]), ([3, 6], [3, 6]), ([7, 6, 0, 1, 2, 3, 4, 5, 6, 7], [7])])
def zG.B2 : List Nat := [0, 1, 3, 7, 0, 0, 48, 127, 255]
theorem zG.tab2 : rtab .any (opsOf Try.f15 2) = zG.T2 := by kernel_rfl
theorem zG.jLa : jAj zG.T2.2 zG.B2 = true := by kernel_rfl
theorem zG.calls (k : Nat) (a0 : Int) (r : ByteArray) (w : World) (h : zG.f k a0 = some r) :
  Calls Try.prog 15 #[.int .u64 a0] w fun e w' => e = .returned (.string r) ∧ Below w.heap.size w w' := by
 have HB := jA.mk (Below.refl w.heap.size w)
 have H : ((bits_Len64.f a0).bind fun t105 => ((some (([(wrap64 (Int.tdiv (wrap64 (t105 + 7)) 8)) % 256] : List Int) : List Int)).bind fun y106 => ((vB.f k a0 (wrap64 (Int.tdiv (wrap64 (t105 + 7)) 8))).bind fun t109 => (if (strOfNums y106).size + t109.size ≤ 9223372036854775807 then (some ((strOfNums y106) ++ t109)) else (none))))) = some r := h
 clear h
 replace H := ob_ H
 obtain ⟨t105, A20, H⟩ := H
 try dsimp only at H
 have A2 := jA.mk A20
 clear A20
 obtain ⟨y106, hy106⟩ : ∃ y_ : List Int, y_ = (([(wrap64 (Int.tdiv (wrap64 (t105 + 7)) 8)) % 256] : List Int)) := ⟨_, rfl⟩
 replace H : ((vB.f k a0 (wrap64 (Int.tdiv (wrap64 (t105 + 7)) 8))).bind fun t109 => (if (strOfNums y106).size + t109.size ≤ 9223372036854775807 then (some ((strOfNums y106) ++ t109)) else (none))) = some r := by first | (rw [hy106]; with_reducible exact H) | (have H2_ := (Option.bind_some _ _).symm.trans H; rw [hy106]; with_reducible exact H2_) | (with_reducible exact hs_ H) | with_reducible exact H | (rw [hy106]; exact H) | exact H
 have Ny106 := jA.mk hy106
 clear hy106
 replace H := ob_ H
 obtain ⟨t109, A30, H⟩ := H
 try dsimp only at H
 have A3 := jA.mk A30
 clear A30
 by_cases c4 : (strOfNums y106).size + t109.size ≤ 9223372036854775807
 ·
  rw [if_pos c4] at H
  have c4b0 := eq_true c4
  have c4b1 := decide_eq_true c4
  try have c4b2 : (9223372036854775807 < (strOfNums y106).size + t109.size) = False := eq_false (Nat.not_lt.2 c4)
  obtain rfl := Option.some.inj H
  go_enter Try.func15, Try.ntmps15
  try go_wp2_with (first | ((with_reducible refine jG (f := 57) rfl ?_); refine jo (some 5) rfl rfl Try.func57 kr_ rfl #[.int .u64 a0] rfl mt_ ?_; (with_reducible refine (bits_Len64.calls a0 t105 _ A2.out).mono ?_); rintro e w5 ⟨rfl, hb⟩; refine ⟨_, rfl, ?_⟩; replace HB := bs_ HB hb))
  have n0_ := jA.mk (qF HB.out)
  clear HB
  have HB := n0_
  clear n0_
  refine jAc (n := 9) (S := fun w' => True) (ds := []) #[false, false, false, false, false, false, false, false, false] kr_ rfl rfl trivial (fun hHeld => ?_); refine jAX zG.tab2 zG.jLa (fun HT_ HW_ => ?_)
  generalize w5.drew = w6 at HB hHeld ⊢
  refine pu_ 0 (some 8) (ba_ 9 1) (vO HT_.out kr_) ?_
  refine pu_ 1 (some 9) (ba_ 9 3) (vO HT_.out kr_) ?_
  refine pu_ 4 (some 12) (ba_ 9 19) (vO HT_.out kr_) ?_
  refine pu_ 5 (some 13) (ba_ 9 51) (vO HT_.out kr_) ?_
  refine jJR (σ := Value) 2 #[true, true, true, true, true, true, true, false, false] (fun s_ => [(10, s_), (11, .string (strOfNums y106)), (14, .string t109)]) (fun s_ w' => (Kd.R (Kd.int .u8) 5 w' w.heap.size (fun _ => True) s_ y106) ∧ (Below w.heap.size w w')) ?_ ?_
  rotate_left
  ·
   intro hCont
   refine two_ (i := 2) (j := 6) (Ni := some 10) (Nj := some 14) (ba_ 9 55) (ba_ 9 115) rfl rfl rfl rfl (jCs HT_.out kr_) (by decide) (by decide) (fun K hK => ?_) (fun K hK => ?_)
   ·
    skip
    refine Kd.qI (Kd.int .u8) _ 5 ?hg (N := 10) ?hd (xs := ([(wrap64 (Int.tdiv (wrap64 (t105 + 7)) 8)) % 256] : List Int)) (inner := [.int .u8 ((wrap64 (Int.tdiv (wrap64 (t105 + 7)) 8)) % 256)]) (ok := fun _ => True) (okp := fun _ => True) ?hr ?hp (fun _ hk => hk) trivial (Below.refl _ _) (Nat.le_refl _) (by simp) ?_; (case hd => rfl); (case hg => rfl); (case hr => exact gs_); (case hp => exact (Reps.one (show Kd.M (Kd.int .u8) _ _ _ ((wrap64 (Int.tdiv (wrap64 (t105 + 7)) 8)) % 256) [.int .u8 ((wrap64 (Int.tdiv (wrap64 (t105 + 7)) 8)) % 256)] from rfl) (Reps.none _ _)))
    intro v107 w7 ho8 hb hg_ hnew_
    clear hg_ hnew_
    (first | rw [← Ny106.out] at ho8 | (simp only [Int.reduceToNat] at ho8; rw [← Ny106.out] at ho8))
    have n0_ := jA.mk (Kd.jU ho8 (jB (bb_ HB)))
    have n1_ := bs_ HB hb
    clear HB
    have HO108 := n0_
    have HB := n1_
    clear n0_ n1_
    clear hb ho8
    refine hK.out _ _ trivial (fun hHeld => ?_)
    clear hK K
    refine qJ (a' := ?_) ?_ ?_
    rotate_left
    ·
     show Act.put _ (some 10) _ = _
     simp only [Act.put, ss_, zF, zW]
     rfl
    refine two_ (i := 3) (j := 6) (Ni := some 11) (Nj := some 14) (ba_ 9 63) (ba_ 9 119) rfl rfl rfl rfl (jCs HT_.out kr_) (by decide) (by decide) (fun K hK => ?_) (fun K hK => ?_)
    ·
     skip
     have hcv9 := jBV (P := Try.prog) Try.underlying60 Try.underlying5 Try.underlying9 (Kd.jBD HO108.out)
     refine jEp (w1 := ?_) (v := ?_) (by rfl) rfl ?_ ?_
     rotate_left 2
     ·
      go_simp
      constructor
      ·
       rfl
      ·
       rfl
     clear hcv9
     refine hK.out _ _ trivial (fun hHeld => ?_)
     clear hK K
     refine qJ (a' := ?_) ?_ ?_
     rotate_left
     ·
      show Act.put _ (some 11) _ = _
      simp only [Act.put, ss_, zF, zW]
      rfl
     refine one_ (i := 6) (N := some 14) (ba_ 9 127) rfl rfl (ql HT_.out kr_) (by decide) (fun K hK => ?_)
     refine jBr Try.func58 kr_ rfl #[.int .u64 a0, .int .i64 (wrap64 (Int.tdiv (wrap64 (t105 + 7)) 8))] (by rfl) rfl rfl (by (try simp only [List.map_toArray, List.map_cons, List.map_nil]); first | done | rfl | (simp only [List.length_drop, List.length_take]; rfl)) ?_
     with_reducible refine (vB.calls k a0 (wrap64 (Int.tdiv (wrap64 (t105 + 7)) 8)) t109 _ A3.out).mono ?_
     rintro e w10 ⟨rfl, hb⟩
     refine ⟨_, rfl, ?_⟩
     have n0_ := ro_ HO108 hb
     have n1_ := bs_ HB hb
     clear HO108
     clear HB
     have HO108 := n0_
     have HB := n1_
     clear n0_ n1_
     (try clear hb)
     (try clear hb2)
     (try clear hk)
     (try clear hi)
     refine hK.out _ _ trivial (fun hHeld => ?_)
     clear hK K
     refine qJ (a' := ?_) ?_ ?_
     rotate_left
     ·
      show Act.put _ (some 14) _ = _
      simp only [Act.put, ss_, zF, zW]
      rfl
     exact qJ (by simp only [jAl, Act.put, ss_]) (hCont (v107) _ ⟨(rR_ HO108), (bb_ HB)⟩)
    ·
     skip
     refine jBr Try.func58 kr_ rfl #[.int .u64 a0, .int .i64 (wrap64 (Int.tdiv (wrap64 (t105 + 7)) 8))] (by rfl) rfl rfl (by (try simp only [List.map_toArray, List.map_cons, List.map_nil]); first | done | rfl | (simp only [List.length_drop, List.length_take]; rfl)) ?_
     with_reducible refine (vB.calls k a0 (wrap64 (Int.tdiv (wrap64 (t105 + 7)) 8)) t109 _ A3.out).mono ?_
     rintro e w9 ⟨rfl, hb⟩
     refine ⟨_, rfl, ?_⟩
     have n0_ := ro_ HO108 hb
     have n1_ := bs_ HB hb
     clear HO108
     clear HB
     have HO108 := n0_
     have HB := n1_
     clear n0_ n1_
     (try clear hb)
     (try clear hb2)
     (try clear hk)
     (try clear hi)
     refine hK.out _ _ trivial (fun hHeld => ?_)
     clear hK K
     refine qJ (a' := ?_) ?_ ?_
     rotate_left
     ·
      show Act.put _ (some 14) _ = _
      simp only [Act.put, ss_, zF, zW]
      rfl
     refine one_ (i := 3) (N := some 11) (ba_ 9 127) rfl rfl (ql HT_.out kr_) (by decide) (fun K hK => ?_)
     have hcv10 := jBV (P := Try.prog) Try.underlying60 Try.underlying5 Try.underlying9 (Kd.jBD HO108.out)
     refine jEp (w1 := ?_) (v := ?_) (by rfl) rfl ?_ ?_
     rotate_left 2
     ·
      go_simp
      constructor
      ·
       rfl
      ·
       rfl
     clear hcv10
     refine hK.out _ _ trivial (fun hHeld => ?_)
     clear hK K
     refine qJ (a' := ?_) ?_ ?_
     rotate_left
     ·
      show Act.put _ (some 11) _ = _
      simp only [Act.put, ss_, zF, zW]
      rfl
     exact qJ (by simp only [jAl, Act.put, ss_]) (hCont (v107) _ ⟨(rR_ HO108), (bb_ HB)⟩)
   ·
    skip
    refine jBr Try.func58 kr_ rfl #[.int .u64 a0, .int .i64 (wrap64 (Int.tdiv (wrap64 (t105 + 7)) 8))] (by rfl) rfl rfl (by (try simp only [List.map_toArray, List.map_cons, List.map_nil]); first | done | rfl | (simp only [List.length_drop, List.length_take]; rfl)) ?_
    with_reducible refine (vB.calls k a0 (wrap64 (Int.tdiv (wrap64 (t105 + 7)) 8)) t109 _ A3.out).mono ?_
    rintro e w7 ⟨rfl, hb⟩
    refine ⟨_, rfl, ?_⟩
    have n0_ := bs_ HB hb
    clear HB
    have HB := n0_
    clear n0_
    (try clear hb)
    (try clear hb2)
    (try clear hk)
    (try clear hi)
    refine hK.out _ _ trivial (fun hHeld => ?_)
    clear hK K
    refine qJ (a' := ?_) ?_ ?_
    rotate_left
    ·
     show Act.put _ (some 14) _ = _
     simp only [Act.put, ss_, zF, zW]
     rfl
    refine one_ (i := 2) (N := some 10) (ba_ 9 119) rfl rfl (ql HT_.out kr_) (by decide) (fun K hK => ?_)
    refine Kd.qI (Kd.int .u8) _ 5 ?hg (N := 10) ?hd (xs := ([(wrap64 (Int.tdiv (wrap64 (t105 + 7)) 8)) % 256] : List Int)) (inner := [.int .u8 ((wrap64 (Int.tdiv (wrap64 (t105 + 7)) 8)) % 256)]) (ok := fun _ => True) (okp := fun _ => True) ?hr ?hp (fun _ hk => hk) trivial (Below.refl _ _) (Nat.le_refl _) (by simp) ?_; (case hd => rfl); (case hg => rfl); (case hr => exact gs_); (case hp => exact (Reps.one (show Kd.M (Kd.int .u8) _ _ _ ((wrap64 (Int.tdiv (wrap64 (t105 + 7)) 8)) % 256) [.int .u8 ((wrap64 (Int.tdiv (wrap64 (t105 + 7)) 8)) % 256)] from rfl) (Reps.none _ _)))
    intro v107 w8 ho9 hb hg_ hnew_
    clear hg_ hnew_
    (first | rw [← Ny106.out] at ho9 | (simp only [Int.reduceToNat] at ho9; rw [← Ny106.out] at ho9))
    have n0_ := jA.mk (Kd.jU ho9 (jB (bb_ HB)))
    have n1_ := bs_ HB hb
    clear HB
    have HO108 := n0_
    have HB := n1_
    clear n0_ n1_
    clear hb ho9
    refine hK.out _ _ trivial (fun hHeld => ?_)
    clear hK K
    refine qJ (a' := ?_) ?_ ?_
    rotate_left
    ·
     show Act.put _ (some 10) _ = _
     simp only [Act.put, ss_, zF, zW]
     rfl
    refine one_ (i := 3) (N := some 11) (ba_ 9 127) rfl rfl (ql HT_.out kr_) (by decide) (fun K hK => ?_)
    have hcv10 := jBV (P := Try.prog) Try.underlying60 Try.underlying5 Try.underlying9 (Kd.jBD HO108.out)
    refine jEp (w1 := ?_) (v := ?_) (by rfl) rfl ?_ ?_
    rotate_left 2
    ·
     go_simp
     constructor
     ·
      rfl
     ·
      rfl
    clear hcv10
    refine hK.out _ _ trivial (fun hHeld => ?_)
    clear hK K
    refine qJ (a' := ?_) ?_ ?_
    rotate_left
    ·
     show Act.put _ (some 11) _ = _
     simp only [Act.put, ss_, zF, zW]
     rfl
    exact qJ (by simp only [jAl, Act.put, ss_]) (hCont (v107) _ ⟨(rR_ HO108), (bb_ HB)⟩)
  rintro v107 w11 ⟨h0_, h1_⟩
  have n0_ : jA (Kd.R (Kd.int .u8) 5 w11 w.heap.size (fun _ => True) v107 y106) := ⟨h0_⟩
  have n1_ : jA (Below w.heap.size w w11) := ⟨h1_⟩
  clear HB
  clear h0_ h1_
  have HO108 := n0_
  have HB := n1_
  clear n0_ n1_
  have hHeld := trivial
  refine qJ (a' := ?_) ?_ ?_
  rotate_left
  ·
   simp only [jAl, Act.put, ss_]
   rfl
  refine pu_ 7 (some 15) (ba_ 9 255) (vO HT_.out kr_) ?_
  refine pu_ 8 (some 2) (ba_ 9 511) (vO HT_.out kr_) ?_
  refine jBZ (jBT HT_.out kr_) ?_
  try go_wp2
  go_ret
  exact ⟨ew_, (bb_ HB)⟩
 ·
  rw [if_neg c4] at H
  exact absurd H (by simp)

/-! ### octet_caught: function 59 -/


-- NOT PRINTED: function 60 (octet_Get_1)

/-! ### octet_reader_take: function 63 -/


/-! ### octet_sure: function 92 -/

namespace Oct
def pan (n : Int) : List PanicEntry := [{ v := .iface 28 (.int .i64 n), recovered := false }]
theorem jAk (w : World) : Calls Try.prog 92 #[.bool true] w fun e w' => e = .returned (.tuple #[]) ∧ w = w' := by
 go_enter Try.func92, Try.ntmps92
 go_wp2
 go_end0
 exact ⟨rfl, rfl⟩
theorem jBu (w : World) : Calls Try.prog 92 #[.bool false] w fun e w' => e = .panicked (pan 62) ∧ w = w' := by
 go_enter Try.func92, Try.ntmps92
 go_wp2
 exact ⟨rfl, rfl, rfl⟩
set_option maxHeartbeats 1000000 in
theorem jAy (g n : Nat) (s : ByteArray) (w : World) (hb : w.heap[g]? = some (.cells #[.string s] 86 (0, 0))) (hz : s.size ≤ 9223372036854775807) (hn : n ≤ s.size) :
  Calls Try.prog 63 #[.pointer (some ⟨g, 0, none⟩), .int .u64 n] w fun e w' => e = .returned (.string (s.extract 0 n)) ∧ w.setCell ⟨g, 0, none⟩ (.string (s.extract n s.size)) = w' := by
 have hc : w.cell? ⟨g, 0, none⟩ = some (.string s) := (jJ hb 0).trans rfl
 have hf := jT hb 0
 have h1 : decide (s.size < n) = false := decide_eq_false (by omega)
 have h2 : decide ((s.size : Int) < (n : Int)) = false := decide_eq_false (by omega)
 clear hb
 go_enter Try.func63, Try.ntmps63
 go_wp2
 go_ret
 exact ⟨rfl, rfl⟩
theorem jCT (g n : Nat) (s : ByteArray) (w : World) (hb : w.heap[g]? = some (.cells #[.string s] 86 (0, 0))) (hz : s.size ≤ 9223372036854775807) (hn : s.size < n) :
  Calls Try.prog 63 #[.pointer (some ⟨g, 0, none⟩), .int .u64 n] w fun e w' => e = .panicked (pan 60) ∧ w = w' := by
 have hc : w.cell? ⟨g, 0, none⟩ = some (.string s) := (jJ hb 0).trans rfl
 have h1 : decide (s.size < n) = true := decide_eq_true (by omega)
 clear hb
 go_enter Try.func63, Try.ntmps63
 go_wp2
 exact ⟨rfl, rfl, rfl⟩

def stp (n c : Int) : Int := Go.bits .or .u64 (IntKind.u64.wrap (n * 256)) (IntKind.u64.wrap c)
def be (l : List Int) : Int := l.foldl stp 0
theorem jJb (l : List Int) (c : Int) : be (l ++ [c]) = stp (be l) c := by unfold be; rw [List.foldl_append]; rfl
theorem jDf (l : List Int) (k : Nat) (h : k < l.length) : l.take (k + 1) = l.take k ++ [l.getD k 0] := by
 rw [List.take_succ_eq_append_getElem h, List.getD_eq_getElem?_getD, List.getElem?_eq_getElem h]; rfl
set_option maxHeartbeats 1000000 in
theorem jEM (s : ByteArray) (w : World) (hz : s.size ≤ 140737488351232) :
  Calls Try.prog 93 #[.string s] w fun e w' => e = .returned (.int .u64 (be (bytesOf s))) ∧ Below w.heap.size w w' := by
 have kb := fun W => jEX (P := Try.prog) 9 60 5 Try.underlying9 Try.underlying60 Try.underlying5 s W
 have HR := jA.mk (jEh w 5 s (by omega))
 have HD := jA.mk (jEi (Below.refl w.heap.size w) (Nat.le_refl _) 5 s)
 go_enter Try.func93, Try.ntmps93
 go_wp2
 generalize Lib.bytesWorld w 5 s = w1 at HR HD ⊢
 clear kb
 go_loop [2, 8] (fun n i => ∃ k : Nat, k ≤ s.size ∧ i = .int .i64 k ∧ n = .int .u64 (be ((bytesOf s).take k))) (fun _ i => s.size - (intOf i).toNat)
 case atStart => exact ⟨0, Nat.zero_le _, rfl, rfl⟩
 case round =>
  obtain ⟨k, hk, rfl, rfl⟩ := hrel
  by_cases hlt : k < s.size
  ·
   have hc : w1.cell? ⟨w.heap.size, k, none⟩ = some (.int .u8 ((bytesOf s).getD k 0)) := by
    obtain ⟨ad, e, hc⟩ := HR.out.2.2 (by omega)
    cases e
    have := hc k hlt
    by_cases h0 : k = 0
    ·
     subst h0; simpa [Addr.add] using this
    ·
     simpa [Addr.add, h0] using this
   have HS := jA.mk (show be ((bytesOf s).take (k + 1)) = stp (be ((bytesOf s).take k)) ((bytesOf s).getD k 0) by rw [jDf _ _ (by rw [bytesOf_length]; exact hlt), jJb])
   go_wp2
   go_round
   case rel => exact ⟨k + 1, by omega, by go_num, by rw [HS.out]; unfold stp; simp⟩
   case measure => simp [intOf]; omega
  ·
   go_wp2
   go_ret
   exact ⟨congrArg (fun l => Ending.returned (.int .u64 (be l))) (List.take_of_length_le (by rw [bytesOf_length]; omega)), HD.out⟩

theorem jJs {w w1 : World} {g B : Nat} {o : Obj} (h : w.heap[g]? = some o) (hb : Below B w w1) (hg : g < B) : w1.heap[g]? = some o := (hb.block g hg).trans h
/-- What lies below g stays, and but for g what was there at all. -/
def jAt (g : Nat) (w w' : World) : Prop := Below g w w' ∧ qV w w' g none
theorem jAt.refl (g : Nat) (w : World) : jAt g w w := ⟨Below.refl g w, qV.refl w g none⟩
theorem jFz {g : Nat} {w : World} (v : Value) : jAt g w (w.setCell ⟨g, 0, none⟩ v) := ⟨(Below.refl g w).setCell (Nat.le_refl _) v, (qV.refl w g none).set_ 0 v⟩
theorem jDh {g : Nat} {w w1 : World} (h : jAt g w w1) (v : Value) : jAt g w (w1.setCell ⟨g, 0, none⟩ v) := ⟨h.1.setCell (Nat.le_refl _) v, h.2.set_ 0 v⟩
theorem jBd {g : Nat} {w w1 w2 : World} (hg : g < w.heap.size) (h : jAt g w w1) (k : Below w1.heap.size w1 w2) : jAt g w w2 := ⟨h.1.trans (k.mono (Nat.le_trans (Nat.le_of_lt hg) h.1.size)), h.2.trans (qV.of_below k g none) (.inl rfl)⟩
theorem jGA {g : Nat} {w w1 w2 : World} (hg : g < w.heap.size) (h : jAt g w w1) (k : Below w.heap.size w1 w2) : jAt g w w2 := ⟨h.1.trans (k.mono (Nat.le_of_lt hg)), Nat.le_trans h.2.1 k.size, fun i hi hg hr => (k.block i hi).trans (h.2.2 i hi hg hr)⟩
theorem jIs {g : Nat} {w w1 w2 : World} (h : jAt g w w1) (k : jAt g w1 w2) : jAt g w w2 := ⟨h.1.trans k.1, h.2.trans k.2 (.inl rfl)⟩
/-- number: what it reads, and what is left; or the error. -/
def num (s : ByteArray) : Int ⊕ (Int × ByteArray) :=
 if s.size < 1 then .inl 60 else if 8 < (bt s 0).toNat then .inl 62 else if s.size < 1 + (bt s 0).toNat then .inl 60
 else if (bt s 0).toNat ≠ 0 ∧ bt s 1 = 0 then .inl 62 else .inr (be (bytesOf (s.extract 1 (1 + (bt s 0).toNat))), s.extract (1 + (bt s 0).toNat) s.size)
def jAW (g : Nat) (s : ByteArray) (w : World) (e : Ending) (w' : World) : Prop :=
 match num s with
 | .inl c => e = .panicked (pan c) ∧ jAt g w w'
 | .inr (n, t) => e = .returned (.int .u64 n) ∧ jAt g w w' ∧ w'.heap[g]? = some (.cells #[.string t] 86 (0, 0))
theorem jAG {g : Nat} {s : ByteArray} {w : World} {c : Int} (h : num s = .inl c) : jAW g s w = fun e w' => e = .panicked (pan c) ∧ jAt g w w' := by unfold jAW; rw [h]
theorem jAI {g : Nat} {s t : ByteArray} {w : World} {n : Int} (h : num s = .inr (n, t)) : jAW g s w = fun e w' => e = .returned (.int .u64 n) ∧ jAt g w w' ∧ w'.heap[g]? = some (.cells #[.string t] 86 (0, 0)) := by unfold jAW; rw [h]
theorem jJt {g : Nat} {w w1 w2 : World} (hg : g < w.heap.size) (h : Below g w w1) (k : Below w1.heap.size w1 w2) : Below g w w2 := h.trans (k.mono (Nat.le_trans (Nat.le_of_lt hg) h.size))
theorem jKs {g : Nat} {w : World} (v : Value) (hg : g < w.heap.size) : Below g w (w.setCell ⟨g, 0, none⟩ v) := (Below.refl g w).setCell (Nat.le_refl _) v
set_option maxHeartbeats 4000000 in
theorem jAf (g : Nat) (s : ByteArray) (w : World) (hb : w.heap[g]? = some (.cells #[.string s] 86 (0, 0))) (hz : s.size ≤ 140737488351232) :
  Calls Try.prog 61 #[.pointer (some ⟨g, 0, none⟩)] w (jAW g s w) := by
 have HB := jA.mk hb
 have HG := jA.mk (qK hb)
 clear hb
 by_cases h1 : s.size < 1
 ·
  rw [jAG (c := 60) (by unfold num; rw [if_pos h1])]
  go_enter Try.func61, Try.ntmps61
  go_wp2_with (go_at_call 63; refine (jCT g 1 s _ HB.out (by omega) h1).mono ?_; rintro e w1 ⟨rfl, rfl⟩)
  exact ⟨rfl, rfl, jAt.refl _ _⟩
 ·
  obtain ⟨k, hk⟩ := Int.eq_ofNat_of_zero_le (jBH s 0).1
  have hkb : k ≤ 255 := by have := (jBH s 0).2; omega
  have e1 : s.extract 0 1 = s.extract 0 1 := rfl
  have hx1 : (s.extract 0 1).size = 1 := by rw [ByteArray.size_extract]; omega
  have hget : ∀ h : 0 < (s.extract 0 1).size, (((s.extract 0 1)[0]'h).toNat : Int) = (k : Int) := fun h => by
   rw [ByteArray.getElem_extract, ← hk]; exact jBN s 0 (by simp; omega)
  have HB1 := jA.mk (jw (cs' := #[.string (s.extract 1 s.size)]) HB.out 0 (.string (s.extract 1 s.size)) rfl)
  have HD1 := jA.mk (jFz (g := g) (w := w) (.string (s.extract 1 s.size)))
  have HK := jA.mk hk
  clear hk e1
  by_cases h2 : 8 < k
  ·
   have t2 : decide ((k : Int) ≤ 8) = false := decide_eq_false (by omega)
   have t3 : decide (k ≤ 8) = false := decide_eq_false (by omega)
   rw [jAG (c := 62) (by unfold num; rw [if_neg h1, if_pos (by rw [HK.out]; exact h2)])]
   go_enter Try.func61, Try.ntmps61
   go_wp2_with (go_at_call 63; refine (jAy g 1 s _ HB.out (by omega) (by omega)).mono ?_; rintro e w1 ⟨rfl, rfl⟩)
   refine (jBu _).mono ?_
   rintro e w1 ⟨rfl, rfl⟩
   exact ⟨rfl, rfl, HD1.out⟩
  ·
   have t2 : decide ((k : Int) ≤ 8) = true := decide_eq_true (by omega)
   have t3 : decide (k ≤ 8) = true := decide_eq_true (by omega)
   by_cases h3 : s.size < 1 + k
   ·
    rw [jAG (c := 60) (by unfold num; rw [if_neg h1, if_neg (by rw [HK.out]; exact h2), if_pos (by rw [HK.out]; exact h3)])]
    go_enter Try.func61, Try.ntmps61
    go_wp2_with (go_at_call 63; refine (jAy g 1 s _ HB.out (by omega) (by omega)).mono ?_; rintro e w1 ⟨rfl, rfl⟩)
    refine (jAk _).mono ?_
    rintro e w1 ⟨rfl, rfl⟩
    go_wp2_with (go_at_call 63; refine (jCT g k _ _ HB1.out (by rw [ByteArray.size_extract]; omega) (by rw [ByteArray.size_extract]; omega)).mono ?_; rintro e w1 ⟨rfl, rfl⟩)
    exact ⟨rfl, rfl, HD1.out⟩
   ·
    have E1 : (s.extract 1 s.size).extract 0 k = s.extract 1 (1 + k) := by rw [ByteArray.extract_extract]; congr 1; omega
    have E2 : (s.extract 1 s.size).extract k (s.extract 1 s.size).size = s.extract (1 + k) s.size := by rw [ByteArray.extract_extract, ByteArray.size_extract]; congr 1; omega
    have T := jAy g k (s.extract 1 s.size) _ HB1.out (by rw [ByteArray.size_extract]; omega) (by rw [ByteArray.size_extract]; omega)
    rw [E1, E2] at T
    have HT := jA.mk T
    have HB2 := jA.mk (jw (cs' := #[.string (s.extract (1 + k) s.size)]) HB1.out 0 (.string (s.extract (1 + k) s.size)) rfl)
    have HD2 := jA.mk (jDh HD1.out (.string (s.extract (1 + k) s.size)))
    have hsz : (s.extract 1 (1 + k)).size = k := by rw [ByteArray.size_extract]; omega
    have HSZ := jA.mk (show (s.extract 1 (1 + k)).size ≤ 140737488351232 by omega)
    clear T E1 E2
    by_cases h4 : k = 0
    ·
     rw [jAI (n := be (bytesOf (s.extract 1 (1 + k)))) (t := s.extract (1 + k) s.size) (by unfold num; rw [if_neg h1, if_neg (by rw [HK.out]; exact h2), if_neg (by rw [HK.out]; exact h3), if_neg (by rw [HK.out]; intro q; exact q.1 h4), HK.out]; rfl)]
     have t4 : ((k : Int) == 0) = true := by rw [h4]; rfl
     have t5 : (k == 0) = true := by rw [h4]; rfl
     clear h4
     go_enter Try.func61, Try.ntmps61
     go_wp2_with (go_at_call 63; refine (jAy g 1 s _ HB.out (by omega) (by omega)).mono ?_; rintro e w1 ⟨rfl, rfl⟩)
     refine (jAk _).mono ?_
     rintro e w1 ⟨rfl, rfl⟩
     go_wp2_with fail
     refine HT.out.mono ?_
     rintro e w1 ⟨rfl, rfl⟩
     go_wp2_with fail
     refine (jAk _).mono ?_
     rintro e w1 ⟨rfl, rfl⟩
     go_wp2_with fail
     refine (jEM _ _ HSZ.out).mono ?_
     rintro e w3 ⟨rfl, hv⟩
     have HB3 := jA.mk (vw HB2.out hv)
     have HD3 := jA.mk (jBd HG.out HD2.out hv)
     clear hv
     go_wp2
     go_ret
     exact ⟨rfl, HD3.out, HB3.out⟩
    ·
     have hget2 : ∀ h : 0 < (s.extract 1 (1 + k)).size, (((s.extract 1 (1 + k))[0]'h).toNat : Int) = bt s 1 := fun h => by
      rw [ByteArray.getElem_extract]; exact jBN s 1 (by simp; omega)
     have t4 : ((k : Int) == 0) = false := beq_eq_false_iff_ne.mpr (by omega)
     have t5 : (k == 0) = false := beq_eq_false_iff_ne.mpr h4
     have hpos : 0 < (s.extract 1 (1 + k)).size := by omega
     by_cases h5 : bt s 1 = 0
     ·
      rw [jAG (c := 62) (by unfold num; rw [if_neg h1, if_neg (by rw [HK.out]; exact h2), if_neg (by rw [HK.out]; exact h3), if_pos (by rw [HK.out]; exact ⟨h4, h5⟩)])]
      have t6 : (bt s 1 != 0) = false := bne_eq_false_iff_eq.mpr h5
      clear h4 h5
      go_enter Try.func61, Try.ntmps61
      go_wp2_with (go_at_call 63; refine (jAy g 1 s _ HB.out (by omega) (by omega)).mono ?_; rintro e w1 ⟨rfl, rfl⟩)
      refine (jAk _).mono ?_
      rintro e w1 ⟨rfl, rfl⟩
      go_wp2_with fail
      refine HT.out.mono ?_
      rintro e w1 ⟨rfl, rfl⟩
      go_wp2_with fail
      refine (jBu _).mono ?_
      rintro e w1 ⟨rfl, rfl⟩
      exact ⟨rfl, rfl, HD2.out⟩
     ·
      rw [jAI (n := be (bytesOf (s.extract 1 (1 + k)))) (t := s.extract (1 + k) s.size) (by unfold num; rw [if_neg h1, if_neg (by rw [HK.out]; exact h2), if_neg (by rw [HK.out]; exact h3), if_neg (by rw [HK.out]; intro q; exact h5 q.2), HK.out]; rfl)]
      have t6 : (bt s 1 != 0) = true := bne_iff_ne.mpr h5
      clear h4 h5
      go_enter Try.func61, Try.ntmps61
      go_wp2_with (go_at_call 63; refine (jAy g 1 s _ HB.out (by omega) (by omega)).mono ?_; rintro e w1 ⟨rfl, rfl⟩)
      refine (jAk _).mono ?_
      rintro e w1 ⟨rfl, rfl⟩
      go_wp2_with fail
      refine HT.out.mono ?_
      rintro e w1 ⟨rfl, rfl⟩
      go_wp2_with fail
      refine (jAk _).mono ?_
      rintro e w1 ⟨rfl, rfl⟩
      go_wp2_with fail
      refine (jEM _ _ HSZ.out).mono ?_
      rintro e w3 ⟨rfl, hv⟩
      have HB3 := jA.mk (vw HB2.out hv)
      have HD3 := jA.mk (jBd HG.out HD2.out hv)
      clear hv
      go_wp2
      go_ret
      exact ⟨rfl, HD3.out, HB3.out⟩
theorem jIk {P : Program} {Q : Exit → Act → List Frame → World → Prop} {a a' : Act} {cs : List Frame} {w : World} {c : Code} (h : a = a') (h2 : c.wpS P Q a' cs w) : c.wpS P Q a cs w := h ▸ h2
theorem jIW {P : Program} {Q : Exit → Act → World → Prop} {a : Act} {w : World} {c : Code} (h : ∀ Q' : Exit → Act → World → Prop, (∀ e a' w', Q' e a' w' = Q e a' w') → c.wp P Q' a w) : c.wp P Q a w := h Q (fun _ _ _ => rfl)
theorem jBG (pe : Value) (undo : Value) (w : World) :
  CallsD Try.prog 59 #[pe, undo] .returning w fun e u' w' => e = .returned (.tuple #[]) ∧ u' = .returning ∧ w' = w := by
 refine callsD_of_wpS Try.func59 rfl fun c₀ cs hu => ?_
 apply wpS_seq
 apply wpS_region
 simp [wpOpsS, go_sem, recoverD, hu, Try.ntmps59, Exit.thenS]
 refine jIk (a' := { tmps := #[pe, undo, undef, undef, undef, undef, undef, .nilIface, undef, undef, undef, undef, undef, undef, undef, undef, undef, undef], defers := [] }) rfl ?_
 refine wpS_of_wp (jIW fun Q' hQ' => ?_)
 go_wp2
 rw [hQ']
 cases c₀
 simp_all [bodyPostS, results, Try.results59]
theorem jJw (a b v : Value) : (#[a, b] ++ (Array.replicate 16 undef).setIfInBounds 5 v) = #[a, b, undef, undef, undef, undef, undef, v, undef, undef, undef, undef, undef, undef, undef, undef, undef, undef] := by kernel_rfl
set_option maxHeartbeats 2000000 in
theorem jAY (p : Addr) (x c : Int) (F : Nat) (fn : Func) (cap : Array Value) (older : List PanicEntry) (w w1 : World) (hc : w.cell? p = some (.int .i64 x)) (hz : w.frozen? p = false) (he : ∀ args W, (callFunc F args).run Try.prog W = .ok (.enter F args) W) (hu : Calls Try.prog F cap (w.setCell p (.int .i64 c)) fun e w' => e = .returned (.tuple #[]) ∧ w' = w1) :
  CallsD Try.prog 59 #[.pointer (some p), .func (.func F) #[] cap] (.panicking ({ v := .iface 28 (.int .i64 c), recovered := false } :: older)) w fun e u' w' =>
   e = .returned (.tuple #[]) ∧ u' = .panicking ({ v := .iface 28 (.int .i64 c), recovered := true } :: older) ∧ w' = w1 := by
 have HU := jA.mk hu
 clear hu
 refine callsD_of_wpS Try.func59 rfl fun c₀ cs hu => ?_
 apply wpS_seq
 apply wpS_region
 simp [wpOpsS, go_sem, recoverD, hu, Try.ntmps59, Exit.thenS]
 rw [jJw]
 refine wpS_of_wp (jIW fun Q' hQ' => ?_)
 have hta : ∀ (v : Value) (W : World), (Instr.typeAssert (.iface 28 v) 20 28 true).run Try.prog W = .ok (.tuple #[v, .bool true]) W := fun v W => by kernel_rfl
 go_wp2_with fail
 refine HU.out.mono ?_
 rintro e w' ⟨rfl, rfl⟩
 go_wp2
 rw [hQ']
 cases c₀
 simp_all [bodyPostS, results, Try.results59]
def jGY (Q : Exit → Act → World → Prop) : Exit → Act → World → Prop
 | .panic _, _, _ => False
 | e, a, w => Q e a w
theorem jDI {P : Program} {c : Code} {Q : Exit → Act → World → Prop} {a : Act} {w : World} (h : c.wp P (jGY Q) a w) : c.wp P Q a w :=
 Code.wp_mono (by intro e a w h; cases e <;> first | exact h | exact h.elim) h
theorem jAU {Q : Exit → Act → World → Prop} {a : Act} {w : World} (h : Q .normal a w) : jGY Q .normal a w := h
theorem jEH {α : Type} {d : Kd α} {e base m : Nat} {W : World} {v : Value} {xs : List α} {p : Addr} (h : d.R e W base (fun k_ => m ≤ k_) v xs) (hp : p.block < m) (u : Value) : d.R e (W.setCell p u) base (fun k_ => m ≤ k_) v xs :=
 Kd.qX h (fun k hk => by omega) u
theorem jIQ (x y : Int) : 0 ≤ Go.bits .or .u64 x y := by
 unfold Go.bits
 rw [IntKind.wrap_u64]
 exact Int.emod_nonneg _ (by decide)
theorem jKt (l : List Int) : 0 ≤ be l := by
 unfold be
 suffices h : ∀ (l : List Int) (a : Int), 0 ≤ a → 0 ≤ l.foldl stp a from h l 0 (Int.le_refl _)
 intro l
 induction l with
 | nil => exact fun a h => h
 | cons x l ih => exact fun a _ => ih _ (jIQ _ _)
theorem jDQ {s t : ByteArray} {n : Int} (h : num s = .inr (n, t)) : 0 ≤ n := by
 unfold num at h
 repeat (split at h; cases h)
 cases h
 exact jKt _
theorem jBE {s t : ByteArray} {n : Int} (h : num s = .inr (n, t)) : t.size ≤ s.size := by
 unfold num at h
 repeat (split at h; cases h)
 cases h
 rw [ByteArray.size_extract]
 omega
end Oct

/-! ### octet_value: function 93 -/


/-! ### octet_reader_number: function 61 -/


end Go.Proofs.Ytijgeonhbmgikaa.POOctetGets
