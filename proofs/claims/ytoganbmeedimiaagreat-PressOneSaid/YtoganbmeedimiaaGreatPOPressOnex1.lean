-- printed (pr.py)
import Derived.Test.YtoganbmeedimiaaGreatPOPressOnex0
namespace Go.Proofs.YtoganbmeedimiaaGreat.POPressOne
open Go.RowKit Go.Proofs.YtoganbmeedimiaaGreatN Go.Proofs.YtoganbmeedimiaaGreatW.PrintWords Go.Proofs.YtoganbmeedimiaaGreatW.PrintLast Go.Proofs.YtoganbmeedimiaaGreatW.PrintMore
attribute [local go_sem] zV zR qA zy vZ vY zU zQ
set_option maxHeartbeats 8000000
set_option maxRecDepth 100000
set_option linter.unusedVariables false
set_option linter.unusedSimpArgs false
def bits_Len64.f (a0 : Int) : Option Int := if 0 ≤ a0 ∧ a0 < B then some (Lib.bitLen a0.toNat) else none
theorem bits_Len64.calls (a0 : Int) (r : Int) (w : World) (h : bits_Len64.f a0 = some r) :
  Calls Tryz.prog 86 #[.int .u64 a0] w fun e w' => e = .returned (.int .i64 r) ∧ Below w.heap.size w w' := by
 unfold bits_Len64.f at h
 by_cases hc : 0 ≤ a0 ∧ a0 < B
 rotate_left
 ·
  rw [if_neg hc] at h; cases h
 rw [if_pos hc] at h
 cases h
 exact (Go.Proofs.YtoganbmeedimiaaGreat.Len64.calls_ a0 w hc.1 (by have := hc.2; rw [B_eq] at this; omega)).mono fun e w' ⟨he, hw⟩ => ⟨he, by rw [hw]; exact Below.refl _ _⟩
def jd.l0 : Nat → Int → Int → List Int → Int → Int → Option (ByteArray)
 | 0, _, _, _, _, _ => none
 | k + 1, x0, x1, x5, x10, x11 => if x11 < x10 then (if 0 ≤ (wrap64 (8 * x11)) then (if 0 ≤ (wrap64 ((wrap64 (x1 - 1)) - x11)) then (if (wrap64 ((wrap64 (x1 - 1)) - x11)) < (x5.length : Int) then (jd.l0 k x0 x1 (x5.set ((wrap64 ((wrap64 (x1 - 1)) - x11)) : Int).toNat ((shr .u64 x0 (wrap64 (8 * x11))) % 256)) x10 (wrap64 (x11 + 1))) else (none)) else (none)) else (none)) else (some (strOfNums x5))
def jd.f (k : Nat) (a0 : Int) (a1 : Int) : Option (ByteArray) := if 0 ≤ a1 then (if (a1 : Int).toNat ≤ 281474976710656 then ((some (List.replicate (a1 : Int).toNat 0 : List Int)).bind fun y101 => (jd.l0 k a0 a1 y101 (y101.length : Int) 0)) else (none)) else (none)
theorem jd.calls (k : Nat) (a0 : Int) (a1 : Int) (r : ByteArray) (w : World) (h : jd.f k a0 a1 = some r) :
  Calls Tryz.prog 87 #[.int .u64 a0, .int .i64 a1] w fun e w' => e = .returned (.string r) ∧ Below w.heap.size w w' := by
 have HB := jA.mk (Below.refl w.heap.size w)
 have H : (if 0 ≤ a1 then (if (a1 : Int).toNat ≤ 281474976710656 then ((some (List.replicate (a1 : Int).toNat 0 : List Int)).bind fun y101 => (jd.l0 k a0 a1 y101 (y101.length : Int) 0)) else (none)) else (none)) = some r := h
 clear h
 by_cases c3 : 0 ≤ a1
 rotate_left
 ·
  rw [if_neg c3] at H
  exact absurd H (by simp)
 rw [if_pos c3] at H
 have c3b0 := eq_true c3
 have c3b1 := decide_eq_true c3
 clear c3
 by_cases c4 : (a1 : Int).toNat ≤ 281474976710656
 rotate_left
 ·
  rw [if_neg c4] at H
  exact absurd H (by simp)
 rw [if_pos c4] at H
 have c4b0 := eq_true c4
 have c4b1 := decide_eq_true c4
 clear c4
 obtain ⟨y101, hy101⟩ : ∃ y_ : List Int, y_ = (List.replicate (a1 : Int).toNat 0) := ⟨_, rfl⟩
 replace H : (jd.l0 k a0 a1 y101 (y101.length : Int) 0) = some r := by first | (rw [hy101]; with_reducible exact H) | (have H2_ := (Option.bind_some _ _).symm.trans H; rw [hy101]; with_reducible exact H2_) | (with_reducible exact hs_ H) | with_reducible exact H | (rw [hy101]; exact H) | exact H
 have Ny101 := jA.mk hy101
 clear hy101
 have H' := jA.mk H
 clear H
 go_enter Tryz.func87, Tryz.ntmps87
 go_wp2_with (first | ((with_reducible refine jl (N := 8) rfl ?_); refine Kd.jIt (Kd.int .u8) _ 5 rfl (N := 8) rfl 58 _ _ rfl a1 rfl rfl Tryz.underlying58 (.int .u8 0) 1 info5 rfl (by decide) (by omega) 0 (ok := fun _ => True) (okp := fun _ => True) rfl (fun _ hk => hk) trivial (of_decide_eq_true am_) (Nat.le_trans (Nat.mul_le_mul_right _ (of_decide_eq_true am_ : a1.toNat ≤ 281474976710656)) (by omega)) (Below.refl _ _) (Nat.le_refl _) ?_; intro v102 w5 ho6 hb hg_ hnew_; clear hg_ hnew_; (first | rw [← Ny101.out] at ho6 | (simp only [Int.reduceToNat] at ho6; rw [← Ny101.out] at ho6)); have HO103 := jA.mk (Kd.jk ho6 (jE (bb_ HB))); replace HB := bs_ HB hb; clear hb ho6; obtain ⟨Ao7, co7, rfl⟩ := Kd.vE HO103.out))
 go_loopg [11] k (fun kq v11 w' => ∃ (x5_1 : List Int) (x11_1 : Int), v11 = .int .i64 x11_1 ∧ jA (jd.l0 kq a0 a1 x5_1 (y101.length : Int) x11_1 = some r) ∧ jA (kq ≤ k) ∧ jA (Kd.R (Kd.int .u8) 5 w' w.heap.size (fun _ => True) (.slice Ao7 y101.length co7) x5_1) ∧ jA (Below w.heap.size w w'))
 case atStart => exact ⟨(y101), (0), sd_, H', ⟨Nat.le_refl _⟩, ⟨(rR_ HO103)⟩, ⟨(bb_ HB)⟩⟩
 case round =>
  clear H'
  try clear p2
  try clear c3
  try clear c3b0
  try clear c3b1
  try clear c4
  try clear c4b0
  try clear c4b1
  obtain ⟨x5_1, x11_1, rfl, HA, HK1, HO_5, HB⟩ := hrel
  have hl5_1 := (Kd.jW HO_5.out).1
  rw [hl5_1] at HO_5
  (try simp only [hl5_1])
  cases gk with
  | zero => exact absurd HA.out (by simp [jd.l0])
  | succ k1 =>
   have H := HA.out
   clear HA
   simp only [jd.l0] at H
   by_cases c8 : x11_1 < (y101.length : Int)
   rotate_left
   ·
    rw [if_neg c8] at H
    have c8b0 := decide_eq_false c8
    (try simp only [hl5_1] at c8b0)
    clear c8
    obtain rfl := Option.some.inj H
    have hcv18 := jAZ (P := Tryz.prog) Tryz.underlying58 Tryz.underlying5 Tryz.underlying9 (Kd.jAW HO_5.out)
    go_wp2
    go_ret
    exact ⟨ew_, (bb_ HB)⟩
   rw [if_pos c8] at H
   have c8b0 := decide_eq_true c8
   (try simp only [hl5_1] at c8b0)
   clear c8
   obtain ⟨ji9, hji9⟩ : ∃ j_ : Int, (wrap64 (8 * x11_1)) = j_ := ⟨_, rfl⟩
   replace H : (if 0 ≤ (ji9) then (if 0 ≤ (wrap64 ((wrap64 (a1 - 1)) - x11_1)) then (if (wrap64 ((wrap64 (a1 - 1)) - x11_1)) < (x5_1.length : Int) then (jd.l0 k1 a0 a1 (x5_1.set ((wrap64 ((wrap64 (a1 - 1)) - x11_1)) : Int).toNat ((shr .u64 a0 (ji9)) % 256)) (y101.length : Int) (wrap64 (x11_1 + 1))) else (none)) else (none)) else (none)) = some r := by first | (rw [hji9] at H; exact H) | (simp only [hji9] at H ⊢; exact H)
   have hji9w : (IntKind.i64.wrap (8 * x11_1)) = ji9 := (vF _).trans hji9
   by_cases c10 : 0 ≤ (ji9)
   rotate_left
   ·
    rw [if_neg c10] at H
    exact absurd H (by simp)
   rw [if_pos c10] at H
   have c10b0 := eq_true c10
   have c10b1 := decide_eq_true c10
   clear c10
   obtain ⟨ji11, hji11⟩ : ∃ j_ : Int, (shr .u64 a0 (ji9)) = j_ := ⟨_, rfl⟩
   replace H : (if 0 ≤ (wrap64 ((wrap64 (a1 - 1)) - x11_1)) then (if (wrap64 ((wrap64 (a1 - 1)) - x11_1)) < (x5_1.length : Int) then (jd.l0 k1 a0 a1 (x5_1.set ((wrap64 ((wrap64 (a1 - 1)) - x11_1)) : Int).toNat ((ji11) % 256)) (y101.length : Int) (wrap64 (x11_1 + 1))) else (none)) else (none)) = some r := by first | (rw [hji11] at H; exact H) | (simp only [hji11] at H ⊢; exact H)
   have hji11_ : (a0 / 2 ^ min (ji9).toNat 64) = ji11 := hji11
   have hji11z : (ji9) ≤ 64 → (a0 / 2 ^ (ji9).toNat) = ji11 := jAr hji11
   obtain ⟨ji12, hji12⟩ : ∃ j_ : Int, (wrap64 ((wrap64 (a1 - 1)) - x11_1)) = j_ := ⟨_, rfl⟩
   replace H : (if 0 ≤ (ji12) then (if (ji12) < (x5_1.length : Int) then (jd.l0 k1 a0 a1 (x5_1.set ((ji12) : Int).toNat ((ji11) % 256)) (y101.length : Int) (wrap64 (x11_1 + 1))) else (none)) else (none)) = some r := by first | (rw [hji12] at H; exact H) | (simp only [hji12] at H ⊢; exact H)
   have hji12w : (IntKind.i64.wrap ((wrap64 (a1 - 1)) - x11_1)) = ji12 := (vF _).trans hji12
   by_cases c13 : 0 ≤ (ji12)
   rotate_left
   ·
    rw [if_neg c13] at H
    exact absurd H (by simp)
   rw [if_pos c13] at H
   have c13b0 := decide_eq_true c13
   clear c13
   by_cases c14 : (ji12) < (x5_1.length : Int)
   rotate_left
   ·
    rw [if_neg c14] at H
    exact absurd H (by simp)
   rw [if_pos c14] at H
   have c14b0 := decide_eq_true c14
   (try simp only [hl5_1] at c14b0)
   clear c14
   obtain ⟨y104, hy104⟩ : ∃ y_ : List Int, y_ = (x5_1.set ((ji12) : Int).toNat ((ji11) % 256)) := ⟨_, rfl⟩
   replace H : (jd.l0 k1 a0 a1 y104 (y101.length : Int) (wrap64 (x11_1 + 1))) = some r := by first | (rw [hy104]; with_reducible exact H) | (have H2_ := (Option.bind_some _ _).symm.trans H; rw [hy104]; with_reducible exact H2_) | (with_reducible exact hs_ H) | with_reducible exact H | (rw [hy104]; exact H) | exact H
   have Ny104 := jA.mk hy104
   clear hy104
   have H' := jA.mk H
   clear H
   have p15 : 0 ≤ ((ji12) : Int) := of_decide_eq_true am_
   have q15 : ((ji12) : Int) < ((x5_1.length : Int) : Int) := of_decide_eq_true am_
   obtain ⟨go15, co15, eo15, gb15, gl15, cl15, HG15⟩ := Kd.jAg HO_5.out (by omega)
   (first | cases eo15 | (injection eo15 with ea_ en_ ec_; (first | subst ea_ | (injection ea_ with ea_; subst ea_)); subst ec_; clear en_))
   have GB15 := jA.mk gb15
   have GG15 := jA.mk HG15
   clear gb15 gl15 HG15
   obtain ⟨hx15_0, hf15_0⟩ := Kd.qI 0 HO_5.out ((ji12) : Int) p15 q15
   replace p15 := eq_true p15
   replace q15 := eq_true q15
   have HP16 := Kd.jCh HO_5.out ((ji12) : Int) ((ji11) % 256)
   go_wp2_with (first | ((with_reducible refine jAF (t := 5) (p := 24) rfl ?_); refine qY (t := 5) (p := 24) (v := ?vo_w17) (w1 := (wr.setCell ⟨go15, ((ji12) : Int).toNat, none⟩ (.int .u8 ((ji11) % 256)))) ?hg ?ho ?hn ?hr ?_; (case ho => rfl); (case hg => rfl); (case hn => rfl); (case hr => exact gs_); intro w17 hw; have hg : wr.grownBy w17 (some go15) := (by rw [hw]; exact HP16.2); have hp_ : Kd.R (Kd.int .u8) 5 w17 w.heap.size (fun _ => True) (.slice (some ⟨go15, 0, none⟩) x5_1.length co7) y104 := (by rw [hw, Ny104.out]; exact HP16.1); clear HP16; replace HO_5 := jA.mk (hp_); replace HB := jA.mk ((by rw [hw]; exact vP (HB.out) GB15.out : Below w.heap.size w w17)); clear hg hw hp_))
   (try simp only [← hl5_1])
   go_roundg k1
   case measure => have := HK1.out; omega
   case rel => exact ⟨(y104), (wrap64 (x11_1 + 1)), sd_, H', ⟨by have := HK1.out; omega⟩, ⟨by (try simp only [hl5_1]); refine pR_ ?_; exact HO_5.out⟩, ⟨(bb_ HB)⟩⟩
def vO.f (k : Nat) (a0 : Int) : Option (ByteArray) := (bits_Len64.f a0).bind fun t105 => ((some (([(wrap64 (Int.tdiv (wrap64 (t105 + 7)) 8)) % 256] : List Int) : List Int)).bind fun y106 => ((jd.f k a0 (wrap64 (Int.tdiv (wrap64 (t105 + 7)) 8))).bind fun t109 => (if (strOfNums y106).size + t109.size ≤ 9223372036854775807 then (some ((strOfNums y106) ++ t109)) else (none))))
def vO.T2 : Bool × List (List Nat × List Nat) := (true, [([], []), ([0], [0]), ([1], [1]), ([2], [2]), ([], []), ([], []), ([4, 5], [4, 5]), ([3, 6], [3, 6]), ([7, 6, 0, 1, 2, 3, 4, 5, 6, 7], [7])])
def vO.B2 : List Nat := [0, 1, 3, 7, 0, 0, 48, 127, 255]
theorem vO.tab2 : rtab .any (opsOf Tryz.f49 2) = vO.T2 := by kernel_rfl
theorem vO.jRe : jAz vO.T2.2 vO.B2 = true := by kernel_rfl
theorem vO.calls (k : Nat) (a0 : Int) (r : ByteArray) (w : World) (h : vO.f k a0 = some r) :
  Calls Tryz.prog 49 #[.int .u64 a0] w fun e w' => e = .returned (.string r) ∧ Below w.heap.size w w' := by
 have HB := jA.mk (Below.refl w.heap.size w)
 have H : ((bits_Len64.f a0).bind fun t105 => ((some (([(wrap64 (Int.tdiv (wrap64 (t105 + 7)) 8)) % 256] : List Int) : List Int)).bind fun y106 => ((jd.f k a0 (wrap64 (Int.tdiv (wrap64 (t105 + 7)) 8))).bind fun t109 => (if (strOfNums y106).size + t109.size ≤ 9223372036854775807 then (some ((strOfNums y106) ++ t109)) else (none))))) = some r := h
 clear h
 obtain ⟨t105, A2, H⟩ := oc_ H
 try dsimp only at H
 obtain ⟨y106, hy106⟩ : ∃ y_ : List Int, y_ = (([(wrap64 (Int.tdiv (wrap64 (t105 + 7)) 8)) % 256] : List Int)) := ⟨_, rfl⟩
 replace H : ((jd.f k a0 (wrap64 (Int.tdiv (wrap64 (t105 + 7)) 8))).bind fun t109 => (if (strOfNums y106).size + t109.size ≤ 9223372036854775807 then (some ((strOfNums y106) ++ t109)) else (none))) = some r := by first | (rw [hy106]; with_reducible exact H) | (have H2_ := (Option.bind_some _ _).symm.trans H; rw [hy106]; with_reducible exact H2_) | (with_reducible exact hs_ H) | with_reducible exact H | (rw [hy106]; exact H) | exact H
 have Ny106 := jA.mk hy106
 clear hy106
 obtain ⟨t109, A3, H⟩ := oc_ H
 try dsimp only at H
 by_cases c4 : (strOfNums y106).size + t109.size ≤ 9223372036854775807
 rotate_left
 ·
  rw [if_neg c4] at H
  exact absurd H (by simp)
 rw [if_pos c4] at H
 have c4b0 := eq_true c4
 have c4b1 := decide_eq_true c4
 try have c4b2 : (9223372036854775807 < (strOfNums y106).size + t109.size) = False := eq_false (Nat.not_lt.2 c4)
 obtain rfl := Option.some.inj H
 go_enter Tryz.func49, Tryz.ntmps49
 try go_wp2_with (first | ((with_reducible refine jL (f := 86) rfl ?_); refine gl_ (some 5) Tryz.func86 #[.int .u64 a0] ?_; (with_reducible refine (bits_Len64.calls a0 t105 _ A2.out).mono ?_); rintro e w5 ⟨rfl, hb⟩; refine ⟨_, rfl, ?_⟩; replace HB := bs_ HB hb))
 have n0_ := jA.mk (vk HB.out)
 clear HB
 have HB := n0_
 clear n0_
 refine zw (n := 9) (S := fun w' => True) (ds := []) #[false, false, false, false, false, false, false, false, false] kr_ rfl rfl trivial (fun hHeld => ?_); refine qd vO.tab2 vO.jRe (fun HT_ HW_ => ?_)
 generalize w5.drew = w6 at HB hHeld ⊢
 refine pu_ 0 (some 8) (ba_ 9 1) (jR HT_.out kr_) ?_
 refine pu_ 1 (some 9) (ba_ 9 3) (jR HT_.out kr_) ?_
 refine pu_ 4 (some 12) (ba_ 9 19) (jR HT_.out kr_) ?_
 refine pu_ 5 (some 13) (ba_ 9 51) (jR HT_.out kr_) ?_
 refine jQH (σ := Value) 2 #[true, true, true, true, true, true, true, false, false] (fun s_ => [(10, s_), (11, .string (strOfNums y106)), (14, .string t109)]) (fun s_ w' => (Kd.R (Kd.int .u8) 5 w' w.heap.size (fun _ => True) s_ y106) ∧ (Below w.heap.size w w')) ?_ ?_
 rotate_left
 ·
  intro hCont
  refine two_ (i := 2) (j := 6) (Ni := some 10) (Nj := some 14) (ba_ 9 55) (ba_ 9 115) rfl rfl rfl rfl (jNN HT_.out kr_) (by decide) (by decide) (fun K hK => ?_) (fun K hK => ?_)
  rotate_left
  ·
   skip
   refine jAX Tryz.func87 kr_ rfl #[.int .u64 a0, .int .i64 (wrap64 (Int.tdiv (wrap64 (t105 + 7)) 8))] (by rfl) rfl rfl (by (try simp only [List.map_toArray, List.map_cons, List.map_nil]); first | done | rfl | (simp only [List.length_drop, List.length_take]; rfl)) ?_
   with_reducible refine (jd.calls k a0 (wrap64 (Int.tdiv (wrap64 (t105 + 7)) 8)) t109 _ A3.out).mono ?_
   rintro e w7 ⟨rfl, hb⟩
   refine ⟨_, rfl, ?_⟩
   have n0_ := bs_ HB hb
   clear HB
   have HB := n0_
   clear n0_
   (try clear hb)
   (try clear hb2)
   (try clear hk)
   (try clear hi)
   refine hK.out _ _ trivial (fun hHeld => ?_)
   clear hK K
   refine ns_ 14 ?_
   refine one_ (i := 2) (N := some 10) (ba_ 9 119) rfl rfl (qb HT_.out kr_) (by decide) (fun K hK => ?_)
   refine Kd.jFC (Kd.int .u8) _ 5 ?hg (N := 10) ?hd (xs := ([(wrap64 (Int.tdiv (wrap64 (t105 + 7)) 8)) % 256] : List Int)) (inner := [.int .u8 ((wrap64 (Int.tdiv (wrap64 (t105 + 7)) 8)) % 256)]) (ok := fun _ => True) (okp := fun _ => True) ?hr ?hp (fun _ hk => hk) trivial (Below.refl _ _) (Nat.le_refl _) (by simp) ?_; (case hd => rfl); (case hg => rfl); (case hr => exact gs_); (case hp => exact (Reps.one (show Kd.M (Kd.int .u8) _ _ _ ((wrap64 (Int.tdiv (wrap64 (t105 + 7)) 8)) % 256) [.int .u8 ((wrap64 (Int.tdiv (wrap64 (t105 + 7)) 8)) % 256)] from rfl) (Reps.none _ _)))
   intro v107 w8 ho9 hb hg_ hnew_
   clear hg_ hnew_
   (first | rw [← Ny106.out] at ho9 | (simp only [Int.reduceToNat] at ho9; rw [← Ny106.out] at ho9))
   have n0_ := jA.mk (Kd.jk ho9 (jE (bb_ HB)))
   have n1_ := bs_ HB hb
   clear HB
   have HO108 := n0_
   have HB := n1_
   clear n0_ n1_
   clear hb ho9
   refine hK.out _ _ trivial (fun hHeld => ?_)
   clear hK K
   refine ns_ 10 ?_
   refine one_ (i := 3) (N := some 11) (ba_ 9 127) rfl rfl (qb HT_.out kr_) (by decide) (fun K hK => ?_)
   have hcv10 := jAZ (P := Tryz.prog) Tryz.underlying58 Tryz.underlying5 Tryz.underlying9 (Kd.jAW HO108.out)
   refine jCM (w1 := ?_) (v := ?_) (by rfl) rfl ?_ ?_
   rotate_left 2
   ·
    go_simp
    constructor
    ·
     rfl
    rfl
   clear hcv10
   refine hK.out _ _ trivial (fun hHeld => ?_)
   clear hK K
   refine ns_ 11 ?_
   exact jHP (by simp only [jCy, Act.put, ss_]) (hCont (v107) _ ⟨(rR_ HO108), (bb_ HB)⟩)
  skip
  refine Kd.jFC (Kd.int .u8) _ 5 ?hg (N := 10) ?hd (xs := ([(wrap64 (Int.tdiv (wrap64 (t105 + 7)) 8)) % 256] : List Int)) (inner := [.int .u8 ((wrap64 (Int.tdiv (wrap64 (t105 + 7)) 8)) % 256)]) (ok := fun _ => True) (okp := fun _ => True) ?hr ?hp (fun _ hk => hk) trivial (Below.refl _ _) (Nat.le_refl _) (by simp) ?_; (case hd => rfl); (case hg => rfl); (case hr => exact gs_); (case hp => exact (Reps.one (show Kd.M (Kd.int .u8) _ _ _ ((wrap64 (Int.tdiv (wrap64 (t105 + 7)) 8)) % 256) [.int .u8 ((wrap64 (Int.tdiv (wrap64 (t105 + 7)) 8)) % 256)] from rfl) (Reps.none _ _)))
  intro v107 w7 ho8 hb hg_ hnew_
  clear hg_ hnew_
  (first | rw [← Ny106.out] at ho8 | (simp only [Int.reduceToNat] at ho8; rw [← Ny106.out] at ho8))
  have n0_ := jA.mk (Kd.jk ho8 (jE (bb_ HB)))
  have n1_ := bs_ HB hb
  clear HB
  have HO108 := n0_
  have HB := n1_
  clear n0_ n1_
  clear hb ho8
  refine hK.out _ _ trivial (fun hHeld => ?_)
  clear hK K
  refine ns_ 10 ?_
  refine two_ (i := 3) (j := 6) (Ni := some 11) (Nj := some 14) (ba_ 9 63) (ba_ 9 119) rfl rfl rfl rfl (jNN HT_.out kr_) (by decide) (by decide) (fun K hK => ?_) (fun K hK => ?_)
  ·
   skip
   have hcv9 := jAZ (P := Tryz.prog) Tryz.underlying58 Tryz.underlying5 Tryz.underlying9 (Kd.jAW HO108.out)
   refine jCM (w1 := ?_) (v := ?_) (by rfl) rfl ?_ ?_
   rotate_left 2
   ·
    go_simp
    constructor
    ·
     rfl
    rfl
   clear hcv9
   refine hK.out _ _ trivial (fun hHeld => ?_)
   clear hK K
   refine ns_ 11 ?_
   refine one_ (i := 6) (N := some 14) (ba_ 9 127) rfl rfl (qb HT_.out kr_) (by decide) (fun K hK => ?_)
   refine jAX Tryz.func87 kr_ rfl #[.int .u64 a0, .int .i64 (wrap64 (Int.tdiv (wrap64 (t105 + 7)) 8))] (by rfl) rfl rfl (by (try simp only [List.map_toArray, List.map_cons, List.map_nil]); first | done | rfl | (simp only [List.length_drop, List.length_take]; rfl)) ?_
   with_reducible refine (jd.calls k a0 (wrap64 (Int.tdiv (wrap64 (t105 + 7)) 8)) t109 _ A3.out).mono ?_
   rintro e w10 ⟨rfl, hb⟩
   refine ⟨_, rfl, ?_⟩
   have n0_ := ro_ HO108 hb
   have n1_ := bs_ HB hb
   clear HO108
   clear HB
   have HO108 := n0_
   have HB := n1_
   clear n0_ n1_
   (try clear hb)
   (try clear hb2)
   (try clear hk)
   (try clear hi)
   refine hK.out _ _ trivial (fun hHeld => ?_)
   clear hK K
   refine ns_ 14 ?_
   exact jHP (by simp only [jCy, Act.put, ss_]) (hCont (v107) _ ⟨(rR_ HO108), (bb_ HB)⟩)
  skip
  refine jAX Tryz.func87 kr_ rfl #[.int .u64 a0, .int .i64 (wrap64 (Int.tdiv (wrap64 (t105 + 7)) 8))] (by rfl) rfl rfl (by (try simp only [List.map_toArray, List.map_cons, List.map_nil]); first | done | rfl | (simp only [List.length_drop, List.length_take]; rfl)) ?_
  with_reducible refine (jd.calls k a0 (wrap64 (Int.tdiv (wrap64 (t105 + 7)) 8)) t109 _ A3.out).mono ?_
  rintro e w9 ⟨rfl, hb⟩
  refine ⟨_, rfl, ?_⟩
  have n0_ := ro_ HO108 hb
  have n1_ := bs_ HB hb
  clear HO108
  clear HB
  have HO108 := n0_
  have HB := n1_
  clear n0_ n1_
  (try clear hb)
  (try clear hb2)
  (try clear hk)
  (try clear hi)
  refine hK.out _ _ trivial (fun hHeld => ?_)
  clear hK K
  refine ns_ 14 ?_
  refine one_ (i := 3) (N := some 11) (ba_ 9 127) rfl rfl (qb HT_.out kr_) (by decide) (fun K hK => ?_)
  have hcv10 := jAZ (P := Tryz.prog) Tryz.underlying58 Tryz.underlying5 Tryz.underlying9 (Kd.jAW HO108.out)
  refine jCM (w1 := ?_) (v := ?_) (by rfl) rfl ?_ ?_
  rotate_left 2
  ·
   go_simp
   constructor
   ·
    rfl
   rfl
  clear hcv10
  refine hK.out _ _ trivial (fun hHeld => ?_)
  clear hK K
  refine ns_ 11 ?_
  exact jHP (by simp only [jCy, Act.put, ss_]) (hCont (v107) _ ⟨(rR_ HO108), (bb_ HB)⟩)
 rintro v107 w11 ⟨h0_, h1_⟩
 have n0_ : jA (Kd.R (Kd.int .u8) 5 w11 w.heap.size (fun _ => True) v107 y106) := ⟨h0_⟩
 have n1_ : jA (Below w.heap.size w w11) := ⟨h1_⟩
 clear HB
 clear h0_ h1_
 have HO108 := n0_
 have HB := n1_
 clear n0_ n1_
 have hHeld := trivial
 refine jHP (a' := ?_) ?_ ?_
 rotate_left
 ·
  simp only [jCy, Act.put, ss_]
  rfl
 refine pu_ 7 (some 15) (ba_ 9 255) (jR HT_.out kr_) ?_
 refine pu_ 8 (some 2) (ba_ 9 511) (jR HT_.out kr_) ?_
 refine jAR (jBG HT_.out kr_) ?_
 try go_wp2
 go_ret
 exact ⟨ew_, (bb_ HB)⟩
def vU.f (l0 : List Int) : Option (Bool) := if (l0.length : Int) ≤ 8 then (if (l0.length : Int) = 0 then (some true) else (if 0 ≤ (wrap64 ((l0.length : Int) - 1)) then (if (wrap64 ((l0.length : Int) - 1)) < (l0.length : Int) then (some ((rd l0 (wrap64 ((l0.length : Int) - 1))) != 0)) else (none)) else (none))) else (some false)
theorem vU.calls (A0 : Option Addr) (c0 : Nat) (l0 : List Int) (r : Bool) (w : World) (hr0 : Kd.C (Kd.int .u64) w A0 l0.length l0) (hc0 : l0.length ≤ c0) (h : vU.f l0 = some r) :
  Calls Tryz.prog 109 #[.slice A0 l0.length c0] w fun e w' => e = .returned (.bool r) ∧ jq w w' := by
 have HR0 := jA.mk hr0
 have HC0 := jA.mk hc0
 clear hr0 hc0
 have H : (if (l0.length : Int) ≤ 8 then (if (l0.length : Int) = 0 then (some true) else (if 0 ≤ (wrap64 ((l0.length : Int) - 1)) then (if (wrap64 ((l0.length : Int) - 1)) < (l0.length : Int) then (some ((rd l0 (wrap64 ((l0.length : Int) - 1))) != 0)) else (none)) else (none))) else (some false)) = some r := h
 clear h
 by_cases c2 : (l0.length : Int) ≤ 8
 rotate_left
 ·
  rw [if_neg c2] at H
  have c2b0 := decide_eq_false c2
  have c2b1 : decide (l0.length ≤ 8) = false := decide_eq_false (by omega)
  clear c2
  obtain rfl := Option.some.inj H
  go_enter Tryz.func109, Tryz.ntmps109
  go_wp2
  go_ret
  exact ⟨by first | rfl | (simp; done) | (simp [*]; done), by repeat (first | exact jq.refl _ | apply jq.step)⟩
 rw [if_pos c2] at H
 have c2b0 := decide_eq_true c2
 have c2b1 : decide (l0.length ≤ 8) = true := decide_eq_true (by omega)
 clear c2
 by_cases c3 : (l0.length : Int) = 0
 ·
  rw [if_pos c3] at H
  have c3b0 := beq_iff_eq.mpr c3
  have c3b1 := bne_eq_false_iff_eq.mpr c3
  clear c3
  obtain rfl := Option.some.inj H
  go_enter Tryz.func109, Tryz.ntmps109
  go_wp2
  go_ret
  exact ⟨by first | rfl | (simp; done) | (simp [*]; done), by repeat (first | exact jq.refl _ | apply jq.step)⟩
 rw [if_neg c3] at H
 have c3b0 := beq_eq_false_iff_ne.mpr c3
 have c3b1 := bne_iff_ne.mpr c3
 have c3b2 : ¬ (l0 = []) := fun h_ => c3 (by rw [h_]; rfl)
 obtain ⟨ji4, hji4⟩ : ∃ j_ : Int, (wrap64 ((l0.length : Int) - 1)) = j_ := ⟨_, rfl⟩
 replace H : (if 0 ≤ (ji4) then (if (ji4) < (l0.length : Int) then (some ((rd l0 (ji4)) != 0)) else (none)) else (none)) = some r := by first | (rw [hji4] at H; exact H) | (simp only [hji4] at H ⊢; exact H)
 have hji4w : (IntKind.i64.wrap ((l0.length : Int) - 1)) = ji4 := (vF _).trans hji4
 by_cases c5 : 0 ≤ (ji4)
 rotate_left
 ·
  rw [if_neg c5] at H
  exact absurd H (by simp)
 rw [if_pos c5] at H
 have c5b0 := decide_eq_true c5
 clear c5
 by_cases c6 : (ji4) < (l0.length : Int)
 rotate_left
 ·
  rw [if_neg c6] at H
  exact absurd H (by simp)
 rw [if_pos c6] at H
 have c6b0 := decide_eq_true c6
 clear c6
 obtain rfl := Option.some.inj H
 have p110 : 0 ≤ ((ji4) : Int) := of_decide_eq_true am_
 have q110 : (ji4) < (l0.length : Int) := of_decide_eq_true am_
 obtain ⟨ad110, e110, hx110_0⟩ := Kd.vS HR0.out (ji4) p110 q110
 cases e110
 replace p110 := eq_true p110
 replace q110 := eq_true q110
 go_enter Tryz.func109, Tryz.ntmps109
 go_wp2
 go_ret
 exact ⟨by first | rfl | (simp; done) | (simp only [← hji4] <;> (first | rfl | simp)) | (simp [*]; done), by repeat (first | exact jq.refl _ | apply jq.step)⟩
-- NOT PRINTED: function 131 (api_Nat_uint64_1)
namespace OctPut
open Go.Shelf
attribute [local go_sem] Oper.semAt_some
def upto {α : Type} (f : Nat → α) (k : Nat) : List α := (List.range k).map f
theorem jFs {α : Type} (f : Nat → α) (k : Nat) : upto f (k + 1) = upto f k ++ [f k] := by simp [upto, List.range_succ]
theorem jHC {α : Type} (f : Nat → α) (k : Nat) : (upto f k).length = k := by simp [upto]
/-- What lies below n₀ but block g stays. -/
def KpG (n₀ g : Nat) (W W' : World) : Prop := ∀ i, i < n₀ → i ≠ g → W'.heap[i]? = W.heap[i]?
theorem KpG.refl (n₀ g : Nat) (W : World) : KpG n₀ g W W := fun _ _ _ => rfl
theorem KpG.trans {n₀ g : Nat} {A B C : World} (h : KpG n₀ g A B) (k : KpG n₀ g B C) : KpG n₀ g A C := fun i hi hg => (k i hi hg).trans (h i hi hg)
theorem KpG.cell {n₀ g : Nat} {W W' : World} {p : Addr} (h : KpG n₀ g W W') (hp : p.block < n₀) (hg : p.block ≠ g) : W'.cell? p = W.cell? p := by
 unfold World.cell?; rw [h _ hp hg]
theorem KpG.of_below {n₀ g B : Nat} {W W' : World} (h : Below B W.drew W') (hB : n₀ ≤ B) : KpG n₀ g W W' := fun i hi _ => h.block i (by omega)
theorem KpG.put {n₀ g : Nat} {w : World} (hn : n₀ ≤ w.heap.size) (W : World) (l : Nat) (o o' : Obj) (hl : w.heap.size ≤ l) (h : W.heap[l]? = some o) (_ : o.isCells = false) (_ : o.isWalk = false) : KpG n₀ g W (W.putObj l o') := fun i hi _ =>
 (grownBy_putObj' W l o').block i (by have := (Array.getElem?_eq_some_iff.1 h).1; omega) (by simp; omega)
theorem KpG.set (n₀ g j : Nat) (W : World) (v : Value) : KpG n₀ g W (W.setCell ⟨g, j, none⟩ v) := fun i _ hg => Below.heap_setCell W ⟨g, j, none⟩ v i hg
def bk (zs : List Int) (j : Nat) : Int × Int := ((zs.length : Int) - 1 - j, zs[zs.length - 1 - j]?.getD 0)
set_option maxHeartbeats 2000000 in
theorem jND (n : Nat) (hn : 1 ≤ n) (l Bs n₀ g b off cap : Nat) (zs : List Int) (hreach : zs.length * 8 ≤ 140737488351232) (hb : b < n₀ ∧ b ≠ g) (J Jx : List (Int × Int) → World → Prop)
  (hY : ∀ pre x W, J pre W → pre.length < zs.length → YieldAt Fence.wide (n - 1) Tryz.prog l #[.int .i64 x.1, .int .u64 x.2] W fun e W' =>
   (e = .returned (.bool true) ∧ J (pre ++ [x]) W' ∧ KpG n₀ g W W') ∨ (e = .returned (.bool false) ∧ Jx (pre ++ [x]) W'))
  (W : World) (hBsn : Bs < n₀ ∧ Bs ≠ g) (hBs : W.cell? ⟨Bs, 0, none⟩ = some (.slice (some ⟨b, off, none⟩) zs.length cap)) (hc : ∀ j, j < zs.length → W.cell? ⟨b, off + j, none⟩ = some (.int .u64 (zs[j]?.getD 0))) (h0 : J [] W) :
  CallsIn Fence.wide n Tryz.prog 131 #[.func (.yield l) #[] #[], .pointer (some ⟨Bs, 0, none⟩)] W fun e W' => (∃ v, e = .returned v) ∧
   ((∃ ys, ys = upto (bk zs) zs.length ∧ J ys W') ∨ (∃ pre, (∃ k, k ≤ zs.length ∧ pre = upto (bk zs) k) ∧ Jx pre W')) := by
 refine callsIn_of_wp Tryz.func131 rfl trivial ?_ rfl
 simp only [Tryz.ntmps131, List.size_toArray, List.length_cons, List.length_nil, Nat.reduceAdd, Nat.reduceSub, Array.replicate_succ, Array.replicate_zero, List.push_toArray, List.append_toArray, List.nil_append, List.cons_append]
 gi_wp2
 gi_loopw [3] (fun i wr => ∃ k : Nat, k ≤ zs.length ∧ i = .int .i64 ((zs.length : Int) - 1 - k) ∧ J (upto (bk zs) k) wr ∧ KpG n₀ g W wr)
  (fun i _ => (intOf i + 1).toNat)
 case atStart => exact ⟨0, Nat.zero_le _, by congr 1; omega, h0, KpG.refl _ _ _⟩
 case round =>
  obtain ⟨k, hk, hi, hJs, hnx⟩ := hrel
  have hBs' : wr.cell? ⟨Bs, 0, none⟩ = some (.slice (some ⟨b, off, none⟩) zs.length cap) := (hnx.cell (p := ⟨Bs, 0, none⟩) hBsn.1 hBsn.2).trans hBs
  by_cases hlt : k < zs.length
  rotate_left
  ·
   obtain rfl : k = zs.length := by omega
   have hi' : u3 = .int .i64 (-1) := by rw [hi]; congr 1; omega
   subst hi'
   gi_wp2
   go_end0
   exact ⟨⟨_, rfl⟩, .inl ⟨_, rfl, hJs⟩⟩
  obtain ⟨m, hm⟩ : ∃ m : Nat, m = zs.length - 1 - k := ⟨_, rfl⟩
  have hi' : u3 = .int .i64 (m : Int) := by rw [hi]; congr 1; omega
  have hbk : bk zs k = ((m : Int), zs[m]?.getD 0) := by unfold bk; rw [← hm]; congr 1; omega
  subst hi'
  clear hi
  have hcx : wr.cell? ⟨b, off + m, none⟩ = some (.int .u64 (zs[m]?.getD 0)) := (hnx.cell (p := ⟨b, off + m, none⟩) hb.1 hb.2).trans (hc m (by omega))
  have hml : m < zs.length := by omega
  have HM := jA.mk (show m + 1 + k = zs.length by omega)
  clear hm
  generalize zs[m]?.getD 0 = x at hbk hcx
  obtain ⟨fn, tmps, assign, body, hy, hR⟩ := hY _ ((m : Int), x) wr hJs (by rw [jHC]; exact hlt)
  dsimp only at hy
  gi_wp2
  refine hR.mono ?_
  rintro e W3 (⟨rfl, hJ3, hk3⟩ | ⟨rfl, hJx3⟩)
  ·
   gi_wp2
   go_roundw
   case rel => exact ⟨k + 1, by have := HM.out; omega, by have := HM.out; congr 1; omega, by rw [jFs, hbk]; exact hJ3, hnx.trans hk3⟩
   case measure => have := HM.out; simp [intOf] <;> omega
  gi_wp2
  refine bodyPost_ret (results_none rfl _ _ _) rfl ?_
  exact ⟨⟨_, rfl⟩, .inr ⟨_, ⟨k + 1, by have := HM.out; omega, by rw [jFs, hbk]⟩, hJx3⟩⟩
set_option maxHeartbeats 1000000 in
theorem jLY (n : Nat) (l Bs c : Nat) (A : Option Addr) (J : List (Int × Int) → World → Prop) (W : World) (hBs : W.cell? ⟨Bs, 0, none⟩ = some (.slice A 0 c)) (h0 : J [] W) :
  CallsIn Fence.wide n Tryz.prog 131 #[.func (.yield l) #[] #[], .pointer (some ⟨Bs, 0, none⟩)] W fun e W' => (∃ v, e = .returned v) ∧ J [] W' := by
 refine callsIn_of_wp Tryz.func131 rfl trivial ?_ rfl
 simp only [Tryz.ntmps131, List.size_toArray, List.length_cons, List.length_nil, Nat.reduceAdd, Nat.reduceSub, Array.replicate_succ, Array.replicate_zero, List.push_toArray, List.append_toArray, List.nil_append, List.cons_append]
 gi_wp2
 gi_loopw [3] (fun i wr => i = .int .i64 (-1) ∧ J [] wr) (fun _ _ => 0)
 case atStart => exact ⟨rfl, h0⟩
 case round =>
  obtain ⟨rfl, hJs⟩ := hrel
  gi_wp2
  go_end0
  exact ⟨⟨_, rfl⟩, hJs⟩
set_option maxHeartbeats 1000000 in
theorem jOq (n : Nat) (a : Option Addr) (len cap : Nat) (w : World) :
  CallsIn Fence.wide n Tryz.prog 110 #[.slice a len cap] w fun e w' => e = .returned (.func (.func 131) #[] #[.pointer (some ⟨w.heap.size, 0, none⟩)]) ∧ w' = w.alloc (.cells #[.slice a len cap] 31) := by
 refine callsIn_of_wp Tryz.func110 rfl trivial ?_ rfl
 simp only [Tryz.ntmps110, List.size_toArray, List.length_cons, List.length_nil, Nat.reduceAdd, Nat.reduceSub, Array.replicate_succ, Array.replicate_zero, List.push_toArray, List.append_toArray, List.nil_append, List.cons_append]
 gi_wp2
 go_ret
 exact ⟨rfl, rfl⟩
theorem jJb (n : Nat) (hn : 1 ≤ n) (Bs n₀ g cap : Nat) (A : Option Addr) (zs : List Int) (hreach : zs.length * 8 ≤ 140737488351232) (w : World) (hBs : Bs < n₀ ∧ Bs ≠ g) (hn₀ : n₀ ≤ w.heap.size)
  (hc : w.cell? ⟨Bs, 0, none⟩ = some (.slice A zs.length cap)) (hI : zs = [] ∨ ∃ b off, A = some ⟨b, off, none⟩ ∧ (b < n₀ ∧ b ≠ g) ∧ ∀ j, j < zs.length → w.cell? ⟨b, off + j, none⟩ = some (.int .u64 (zs[j]?.getD 0))) :
  SeqStopsK Fence.wide n Tryz.prog 131 #[.pointer (some ⟨Bs, 0, none⟩)] (fun x : Int × Int => #[Value.int .i64 x.1, Value.int .u64 x.2]) (KpG n₀ g) (fun ys => ys = upto (bk zs) zs.length)
   (fun pre => ∃ k, k ≤ zs.length ∧ pre = upto (bk zs) k) zs.length w := fun l J Jx W hW _ _ hY h0 => by
 have hc' := (hW.cell (p := ⟨Bs, 0, none⟩) (by have := hBs.1; show Bs < _; omega)).trans hc
 rcases hI with rfl | ⟨b, off, rfl, hb, hcs⟩
 ·
  exact (jLY n l Bs cap A J W hc' h0).mono fun e W' ⟨he, hj⟩ => ⟨he, .inl ⟨_, rfl, hj⟩⟩
 exact jND n hn l Bs n₀ g b off cap zs hreach hb J Jx hY W hBs hc' (fun j hj => (hW.cell (p := ⟨b, off + j, none⟩) (by have := hb.1; show b < _; omega)).trans (hcs j hj)) h0
def lows (n : Int) : Nat → List Int
 | 0 => []
 | i + 1 => n / 256 ^ i % 256 :: lows n i
theorem jBD (n : Int) : ∀ w, (lows n w).length = w
 | 0 => rfl
 | w + 1 => by rw [lows, List.length_cons, jBD n w]
theorem jCV (i : Nat) : (256 : Int) ^ i = 2 ^ (8 * i) := by rw [Int.pow_mul]; rfl
theorem jFK (n : Int) {i : Nat} (h : i ≤ 8) : shr .u64 n (8 * (i : Int)) = n / 256 ^ i := by
 unfold shr
 have e : min (Int.toNat (8 * (i : Int))) IntKind.u64.bits = 8 * i := by
  rw [show 8 * (i : Int) = ((8 * i : Nat) : Int) by omega, Int.toNat_natCast]
  exact Nat.min_eq_left (by show 8 * i ≤ 64; omega)
 rw [e, jCV]
theorem jDw {n : Int} {w : Nat} (hw : w ≤ 8) : ∀ (d i k : Nat), i + d = w → d < k → jd.l0 k n w (List.replicate d 0 ++ lows n i) w i = some (strOfNums (lows n w))
 | 0, i, k, hi, hk => by
  obtain ⟨k, rfl⟩ : ∃ j, k = j + 1 := ⟨k - 1, by omega⟩
  have : ¬ ((i : Int) < (w : Int)) := by omega
  rw [jd.l0, if_neg this]
  obtain rfl : i = w := by omega
  rfl
 | d + 1, i, k, hi, hk => by
  obtain ⟨k, rfl⟩ : ∃ j, k = j + 1 := ⟨k - 1, by omega⟩
  have e1 : wrap64 (8 * (i : Int)) = 8 * (i : Int) := by unfold wrap64; omega
  have e2 : wrap64 (wrap64 ((w : Int) - 1) - (i : Int)) = (d : Int) := by unfold wrap64; omega
  have e3 : wrap64 ((i : Int) + 1) = ((i + 1 : Nat) : Int) := by unfold wrap64; omega
  have c1 : (i : Int) < (w : Int) := by omega
  have c4 : (d : Int) < ((List.replicate (d + 1) (0 : Int) ++ lows n i).length : Int) := by
   rw [List.length_append, List.length_replicate]; omega
  have hs : (List.replicate (d + 1) (0 : Int) ++ lows n i).set d (n / 256 ^ i % 256) = List.replicate d 0 ++ lows n (i + 1) := by
   rw [List.replicate_succ', List.append_assoc, List.set_append_right _ _ (by rw [List.length_replicate]; exact Nat.le_refl _), List.length_replicate, Nat.sub_self]
   rfl
  rw [jd.l0, e1, e2, e3, if_pos c1, if_pos (by omega), if_pos (by omega), if_pos c4, jFK n (by omega), Int.toNat_natCast, hs]
  exact jDw hw d (i + 1) k (by omega) (by omega)
theorem jQT (n : Int) : jd.f 9 n 8 = some (strOfNums (lows n 8)) := by
 unfold jd.f
 rw [if_pos (by omega), if_pos (by omega), Option.bind_some]
 exact jDw (n := n) (w := 8) (Nat.le_refl _) 8 0 9 (by omega) (by omega)
/-- s, and the bytes of l's numbers behind it. -/
def puts (s : ByteArray) (l : List Int) : ByteArray := l.foldl (fun s x => s ++ strOfNums (lows x 8)) s
theorem jKK (s : ByteArray) (l : List Int) (x : Int) : puts s (l ++ [x]) = puts s l ++ strOfNums (lows x 8) := by simp [puts]
theorem jDi : ∀ (l : List Int) (s : ByteArray), (puts s l).size = s.size + 8 * l.length
 | [], _ => rfl
 | x :: l, s => by
  show (puts (s ++ strOfNums (lows x 8)) l).size = _
  rw [jDi l, ByteArray.size_append, strOfNums_size, jBD, List.length_cons]; omega
theorem jNu (zs : List Int) : (upto (bk zs) zs.length).map Prod.snd = zs.reverse := by
 apply List.ext_getElem
 ·
  simp [upto]
 intro i h1 h2
 simp [upto] at h1
 have h3 : zs.length - 1 - i < zs.length := by omega
 simp [upto, bk, h3]
theorem row_of {w : World} {A : Option Addr} {n : Nat} {xs : List Int} (h : Kd.C (Kd.int .u64) w A n xs) (hp : 0 < n) : ∃ b off, A = some ⟨b, off, none⟩ ∧ b < w.heap.size ∧ ∀ j, j < n → w.cell? ⟨b, off + j, none⟩ = some (.int .u64 (xs[j]?.getD 0)) := by
 obtain ⟨ad, e, hc⟩ := h.2.2 hp
 have hl := h.1
 have key : ∀ j, j < n → w.cell? (ad.add j) = some (.int .u64 (xs[j]?.getD 0)) := fun j hj => by
  obtain ⟨c, h1, h2, h3⟩ := hc j (xs[j]'(by omega)) (List.getElem?_eq_getElem (by omega))
  have h2' : c = [.int .u64 (xs[j]'(by omega))] := h2
  have := h3 0 (.int .u64 (xs[j]'(by omega))) (by rw [h2']; rfl)
  rw [List.getElem?_eq_getElem (by omega)]
  have e1 : j * (Kd.int .u64).sz + 0 = j := by show j * 1 + 0 = j; omega
  rw [e1] at this
  exact this
 obtain ⟨b, off, spot⟩ := ad
 have k0 := key 0 hp
 have hs : spot = none := by
  cases spot with
  | none => rfl
  | some x => simp [Addr.add, World.cell?] at k0; split at k0 <;> simp at k0
 subst hs
 refine ⟨b, off, e, World.block_lt_of_cell? w _ k0, fun j hj => ?_⟩
 have := key j hj
 by_cases h0 : j = 0
 ·
  subst h0; exact this
 simpa [Addr.add, h0] using this
set_option maxHeartbeats 4000000 in
theorem jRR (k : Nat) (A : Option Addr) (c : Nat) (l0 : List Int) (s0 : ByteArray) (w : World) (hr0 : Kd.C (Kd.int .u64) w A l0.length l0) (hc0 : l0.length ≤ c) (hm : vU.f l0 = some true) (hp : vO.f k (l0.length : Int) = some s0) (hs : s0.size ≤ 1000) (hl : l0.length ≤ 8) :
  Calls Tryz.prog 88 #[.slice A l0.length c] w fun e w' => e = .returned (.tuple #[.string (puts s0 l0.reverse), .int .i64 0]) ∧ Below w.heap.size w w' := by
 have HR := jA.mk hr0
 have HC := jA.mk hc0
 have HM := jA.mk hm
 have HP := jA.mk hp
 have HS := jA.mk hs
 have HL := jA.mk hl
 clear hr0 hc0 hm hp hs
 have hw8 : IntKind.u64.wrap (l0.length : Int) = (l0.length : Int) := by rw [IntKind.wrap_u64]; omega
 refine (callsIn_wide (n := 5)).1 ?_
 refine callsIn_of_wp_marks Tryz.func88 rfl trivial ?_ rfl
 simp only [Tryz.ntmps88, List.size_toArray, List.length_cons, List.length_nil, Nat.reduceAdd, Nat.reduceSub, Array.replicate_succ, Array.replicate_zero, List.push_toArray, List.append_toArray, List.nil_append, List.cons_append]
 gi_wp2_with fail
 refine ⟨trivial, callsIn_wide.2 ((vU.calls A c l0 true _ HR.out HC.out HM.out).mono ?_)⟩
 rintro e w1 ⟨rfl, ⟨nd, rfl⟩⟩
 gi_wp2_with fail
 refine ⟨trivial, callsIn_wide.2 ((vO.calls k _ s0 _ HP.out).mono ?_)⟩
 rintro e w1 ⟨rfl, hb⟩
 have HB1 := jA.mk ((vH (Below.refl w.heap.size w) nd).trans hb)
 have HR1 := jA.mk (Kd.vQ (Kd.jBM HR.out nd) hb)
 clear hb HR
 gi_wp2_with fail
 refine ⟨trivial, (jOq 4 _ _ _ _).mono ?_⟩
 rintro e w2 ⟨rfl, rfl⟩
 have bS := Boxed.new w1 9 (.string s0)
 have bN := Boxed.new (w1.alloc (.cells #[.string s0] 9)) 31 (.slice A l0.length c)
 have hB0 : Below w.heap.size w ((w1.alloc (.cells #[.string s0] 9)).alloc (.cells #[.slice A l0.length c] 31)) := jQ (jQ HB1.out _) _
 have HR2 := Kd.jAH (Kd.jAH HR1.out (.cells #[.string s0] 9)) (.cells #[.slice A l0.length c] 31)
 rw [World.size_alloc] at bN
 gi_wp2_with fail
 have hI : l0 = [] ∨ ∃ b off, A = some ⟨b, off, none⟩ ∧ (b < w1.heap.size + 1 + 1 ∧ b ≠ w1.heap.size) ∧ ∀ j, j < l0.length → ((w1.alloc (.cells #[.string s0] 9)).alloc (.cells #[.slice A l0.length c] 31)).cell? ⟨b, off + j, none⟩ = some (.int .u64 (l0[j]?.getD 0)) := by
  by_cases h0 : l0 = []
  ·
   exact .inl h0
  refine .inr ?_
  obtain ⟨b, off, e, hlt, hcs⟩ := row_of HR1.out (List.length_pos_iff.2 h0)
  obtain ⟨b', off', e', _, hcs'⟩ := row_of HR2 (List.length_pos_iff.2 h0)
  rw [e] at e'
  cases e'
  exact ⟨b, off, e, ⟨by omega, by omega⟩, hcs'⟩
 have hsz : ((w1.alloc (.cells #[.string s0] 9)).alloc (.cells #[.slice A l0.length c] 31)).heap.size = w1.heap.size + 1 + 1 := by rw [World.size_alloc, World.size_alloc]
 have hle := HB1.out.size
 refine wpIn_rangeFunc_ownF (w0 := (w1.alloc (.cells #[.string s0] 9)).alloc (.cells #[.slice A l0.length c] 31)) rfl (by omega) (gf := 131) (lb := #[.pointer (some ⟨w1.heap.size + 1, 0, none⟩)]) rfl trivial (enters_of Tryz.func131 kr_ rfl)
  (jJb 4 (by omega) (w1.heap.size + 1) (w1.heap.size + 1 + 1) w1.heap.size c A l0 (by omega) _ ⟨by omega, by omega⟩ (by rw [hsz]; exact Nat.le_refl _) bN.cell hI) KpG.trans (KpG.put (by rw [hsz]; exact Nat.le_refl _)) (Below.refl _ _) (fun _ => rfl)
  (fun pre W => (W.cell? ⟨w1.heap.size, 0, none⟩ = some (.string (puts s0 (pre.map Prod.snd))) ∧ W.frozen? ⟨w1.heap.size, 0, none⟩ = false) ∧ Below w.heap.size w W ∧ w1.heap.size + 1 + 1 ≤ W.heap.size)
  (fun _ _ _ => False)
  (OwnFrom.and (Own.from (fun s A B row hs hg hr => ⟨cell_kept hs.1 hg hr, (frozen_kept hs.1 hg hr).trans hs.2⟩) _) (OwnFrom.and (ownFrom_below (Nat.le_refl _) (by rw [hsz]; omega)) (fun _ _ _ _ hs hg _ => Nat.le_trans hs hg.size)))
  (fun _ _ _ _ _ hs _ _ => hs)
  ⟨⟨(bS.alloc _).cell, (bS.alloc _).frozen⟩, hB0, by rw [hsz]; exact Nat.le_refl _⟩
  (fun x => { tmps := #[.slice A l0.length c, undef, .string { data := #[] }, .int .i64 0, .pointer (some ⟨w1.heap.size, 0, none⟩), undef, .int .u64 x.2, .slice A l0.length c, .bool true, .bool false, .slice A l0.length c, .int .i64 l0.length, .int .u64 l0.length, .string s0, .slice A l0.length c, .func (.func 131) #[] #[.pointer (some ⟨w1.heap.size + 1, 0, none⟩)], .int .i64 x.1, .int .u64 x.2, undef, undef, undef, undef, undef], defers := [] }) ?assign ?body ?done ?stop
 case assign =>
  intro l x W K hK
  gi_wp2
  exact hK
 case body =>
  rintro l pre x W ⟨⟨hc, hf⟩, hB, hS2⟩ hlt
  have hmx : Tryz.prog.follows .mixedOrders = true := by kernel_rfl
  have hsz2 : (puts s0 (pre.map Prod.snd)).size + (strOfNums (lows x.2 8)).size ≤ 9223372036854775807 := by
   rw [jDi, List.length_map, strOfNums_size, jBD]; have := HS.out; omega
  have hd : 1 ≤ 5 - 1 - 1 := by omega
  have hgl : w1.heap.size < W.heap.size := World.block_lt_of_cell? W ⟨w1.heap.size, 0, none⟩ hc
  gi_wp2
  gi_region_with_o (refine ⟨trivial, ?_⟩; gi_at_call 87; refine (CallsIn.inRound l (callsIn_wide.2 (jd.calls 9 x.2 8 _ _ (jQT x.2)))).mono ?_; rintro e w' ⟨rfl, hb⟩; have hc' := jAV (w := W.drew) hb hc; have hf' : w'.frozen? ⟨w1.heap.size, 0, none⟩ = false := by { have := hb.block w1.heap.size hgl; unfold World.frozen? at hf ⊢; rw [this]; exact hf })
  all_goals gi_wp2
  all_goals
   have h7 : W.drew.heap.size = W.heap.size := rfl
   refine ⟨?_, ?_, ⟨?_, ?_⟩, ?_, ?_⟩
   ·
    exact ((KeepsOthers.drew W).trans (KeepsOthers.of_grownBy (qP hb none) (fun _ _ e _ => by cases e))).trans (KeepsOthers.setCell _ _ _)
   ·
    exact (KpG.of_below (W := W) hb (by omega)).trans (KpG.set _ _ 0 _ _)
   ·
    rw [List.map_append, List.map_cons, List.map_nil, jKK]; exact World.cell?_setCell_same' _ _ _ (by rw [hc']; rfl)
   ·
    rw [World.frozen?_setCell]; exact hf'
   ·
    exact ((jv hB).trans (hb.mono (by have := hB.size; omega))).setCell (by show w.heap.size ≤ w1.heap.size; exact hle) _
   have h5 := (KeepsOthers.setCell w' ⟨w1.heap.size, 0, none⟩ (.string (puts s0 (pre.map Prod.snd) ++ strOfNums (lows x.2 8)))).size; have h6 := hb.size; omega
 case done =>
  rintro D ys W hD rfl ⟨⟨hc, hf⟩, hB, _⟩ hK
  rw [jNu] at hc
  gi_wp2
  refine ⟨by simp, .inl ⟨_, _, rfl, run_takeDeferred hK, ?_⟩⟩
  exact ⟨_, results_tmp2 rfl _ _ _, by rfl, hB.trans (belowK_b (w := w) (Nat.le_refl _) W D _ _ (by rw [hsz] at hD; omega) hK rfl rfl)⟩
 case stop =>
  rintro D c pre W _ _ h _
  exact h.elim
theorem jPe (A : Option Addr) (c : Nat) (l0 : List Int) (w : World) (hr0 : Kd.C (Kd.int .u64) w A l0.length l0) (hc0 : l0.length ≤ c) (hm : vU.f l0 = some false) :
  Calls Tryz.prog 88 #[.slice A l0.length c] w fun e w' => e = .returned (.tuple #[.string { data := #[] }, .int .i64 1]) ∧ Below w.heap.size w w' := by
 have HR := jA.mk hr0
 have HC := jA.mk hc0
 have HM := jA.mk hm
 clear hr0 hc0 hm
 go_enter Tryz.func88, Tryz.ntmps88
 go_wp2_with fail
 refine (vU.calls A c l0 false _ HR.out HC.out HM.out).mono ?_
 rintro e w1 ⟨rfl, ⟨nd, rfl⟩⟩
 go_wp2
 go_ret2
 exact ⟨rfl, vH (Below.refl _ _) nd⟩
end OctPut
def jy.f (k : Nat) (l0 : List Int) : Option (ByteArray × Int) := (vU.f l0).bind fun b => if b = true then (vO.f k (l0.length : Int)).bind fun s0 => (if s0.size ≤ 1000 ∧ l0.length ≤ 8 then some (OctPut.puts s0 l0.reverse, 0) else none) else some ({ data := #[] }, 1)
theorem jy.calls (k : Nat) (A0 : Option Addr) (c0 : Nat) (l0 : List Int) (r1 : ByteArray) (r2 : Int) (w : World) (hr0 : Kd.C (Kd.int .u64) w A0 l0.length l0) (hc0 : l0.length ≤ c0) (h : jy.f k l0 = some (r1, r2)) :
  Calls Tryz.prog 88 #[.slice A0 l0.length c0] w fun e w' => e = .returned (.tuple #[.string r1, .int .i64 r2]) ∧ Below w.heap.size w w' := by
 unfold jy.f at h
 obtain ⟨b, hm, h⟩ := Option.bind_eq_some_iff.mp h
 cases b with
 | false =>
  cases h
  exact OctPut.jPe A0 c0 l0 w hr0 hc0 hm
 | true =>
  rw [if_pos rfl] at h
  obtain ⟨s0, hp, h⟩ := Option.bind_eq_some_iff.mp h
  by_cases hs : s0.size ≤ 1000 ∧ l0.length ≤ 8
  rotate_left
  ·
   rw [if_neg hs] at h; cases h
  rw [if_pos hs] at h
  cases h
  exact OctPut.jRR k A0 c0 l0 s0 w hr0 hc0 hm hp hs.1 hs.2
end Go.Proofs.YtoganbmeedimiaaGreat.POPressOne
