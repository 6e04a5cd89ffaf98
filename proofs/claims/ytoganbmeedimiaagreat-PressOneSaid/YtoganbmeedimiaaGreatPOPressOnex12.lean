-- printed (pr.py)
import Derived.Test.YtoganbmeedimiaaGreatPOPressOnex10
import Derived.Test.YtoganbmeedimiaaGreatPOPressOnex11
namespace Go.Proofs.YtoganbmeedimiaaGreat.POPressOne
open Go.RowKit Go.Proofs.YtoganbmeedimiaaGreatN Go.Proofs.YtoganbmeedimiaaGreatW.PrintWords Go.Proofs.YtoganbmeedimiaaGreatW.PrintLast Go.Proofs.YtoganbmeedimiaaGreatW.PrintMore
attribute [local go_sem] zV zR qA zy vZ vY zU zQ
set_option maxHeartbeats 8000000
set_option maxRecDepth 100000
set_option linter.unusedVariables false
set_option linter.unusedSimpArgs false
def jh.l0 : Nat → Int → List (S37) → List (S37) → Int → Int → Option (Bool)
 | 0, _, _, _, _, _ => none
 | k + 1, x0, x1, x7, x8, x9 => if x9 < x8 then (if 0 ≤ x9 then (if x9 < (x7.length : Int) then ((zx.f k ((jC x7 x9).f0.f0) ((jC x7 x9).f0.f1) ((jC x7 x9).f0.f2) ((jC x7 x9).f1.f0) ((jC x7 x9).f1.f1) ((jC x7 x9).f1.f2) ((jC x7 x9).f1.f3)).bind fun t288 => (if t288 = true then ((zJ.f ((jC x7 x9).f0.f0) ((jC x7 x9).f0.f1) ((jC x7 x9).f0.f2)).bind fun t289 => (if t289 = true then (some false) else (if x9 > 0 then (if 0 ≤ (wrap64 (x9 - 1)) then (if (wrap64 (x9 - 1)) < (x1.length : Int) then ((jBC.f x0 ((jC x1 (wrap64 (x9 - 1))).f1.f0) ((jC x1 (wrap64 (x9 - 1))).f1.f1) ((jC x1 (wrap64 (x9 - 1))).f1.f2) ((jC x1 (wrap64 (x9 - 1))).f1.f3) ((jC x7 x9).f1.f0) ((jC x7 x9).f1.f1) ((jC x7 x9).f1.f2) ((jC x7 x9).f1.f3)).bind fun t291 => (if t291 ≤ 0 then (some false) else (jh.l0 k x0 x1 x7 x8 (wrap64 (x9 + 1))))) else (none)) else (none)) else (jh.l0 k x0 x1 x7 x8 (wrap64 (x9 + 1)))))) else (some false))) else (none)) else (none)) else ((qZ.f x0).bind fun t285 => (if t285 = true then (some (decide ((x1.length : Int) ≤ 60))) else (some false)))
def jh.f (k : Nat) (a0 : Int) (l1 : List (S37)) : Option (Bool) := jh.l0 k a0 l1 l1 (l1.length : Int) 0
def jh.T4 : Bool × List (List Nat × List Nat) := (true, [([], []), ([0], [0]), ([1], [1]), ([2, 1], [2]), ([3], [3]), ([4, 3], [3, 4]), ([5, 3, 3], [3, 5]), ([3, 6], [3, 6]), ([7, 6], [7]), ([8], [8]), ([9, 8], [8, 9]), ([10, 8, 8], [8, 10]), ([11], [11]), ([11], [11]), ([11], [11]), ([14, 11], [11, 14]), ([13, 15, 11], [11, 13, 15]), ([16, 11], [11, 16]), ([17, 11], [11, 17]), ([11], [11]), ([19, 11], [11, 19]), ([12, 18, 20, 11, 11], [11, 12, 18, 20]), ([21, 11], [11, 21]), ([11, 22, 8], [8, 11, 22]), ([8, 23], [8, 23])])
def jh.B4 : List Nat := [0, 1, 3, 7, 15, 31, 63, 127, 255, 511, 1023, 2047, 4095, 4095, 4095, 20479, 61439, 126975, 258047, 4095, 528383, 2097151, 4194303, 8388607, 16777215]
theorem jh.tab4 : rtab .any (opsOf Tryz.f22 4) = jh.T4 := by kernel_rfl
theorem jh.jLT : jAz jh.T4.2 jh.B4 = true := by kernel_rfl
theorem jh.calls (k : Nat) (a0 : Int) (A1 : Option Addr) (c1 : Nat) (l1 : List (S37)) (r : Bool) (w : World) (hr1 : Kd.C k37 w A1 l1.length l1) (hc1 : l1.length ≤ c1) (h : jh.f k a0 l1 = some r) :
  Calls Tryz.prog 22 #[.int .i64 a0, .slice A1 l1.length c1] w fun e w' => e = .returned (.bool r) ∧ Below w.heap.size w w' := by
 have hu37 := Tryz.underlying37
 have hu33 := Tryz.underlying33
 have hu35 := Tryz.underlying35
 have HR1 := jA.mk hr1
 have HC1 := jA.mk hc1
 clear hr1 hc1
 have HB := jA.mk (Below.refl w.heap.size w)
 have H : (jh.l0 k a0 l1 l1 (l1.length : Int) 0) = some r := h
 clear h
 have H' := jA.mk H
 clear H
 go_enter Tryz.func22, Tryz.ntmps22
 go_wp2
 go_loopg [9] k (fun kq v9 w' => ∃ (x9_1 : Int), v9 = .int .i64 x9_1 ∧ jA (jh.l0 kq a0 l1 l1 (l1.length : Int) x9_1 = some r) ∧ jA (kq ≤ k) ∧ jA (Below w.heap.size w w'))
 case atStart => exact ⟨(0), sd_, H', ⟨Nat.le_refl _⟩, ⟨(bb_ HB)⟩⟩
 case round =>
  clear H'
  try clear c1
  try clear c2
  try clear p2
  obtain ⟨x9_1, rfl, HA, HK1, HB⟩ := hrel
  cases gk with
  | zero => exact absurd HA.out (by simp [jh.l0])
  | succ k1 =>
   have H := HA.out
   clear HA
   simp only [jh.l0] at H
   by_cases c3 : x9_1 < (l1.length : Int)
   rotate_left
   ·
    rw [if_neg c3] at H
    have c3b0 := decide_eq_false c3
    clear c3
    obtain ⟨t285, A47, H⟩ := oc_ H
    try dsimp only at H
    by_cases c48 : t285 = true
    ·
     subst c48
     replace H := ip_ H
     obtain rfl := Option.some.inj H
     go_wp2_with (first | ((with_reducible refine jL (f := 47) rfl ?_); refine gl_ (some 41) Tryz.func47 #[.int .i64 a0] ?_; (with_reducible refine (qZ.calls a0 true _ A47.out).mono ?_); rintro e w' ⟨rfl, ⟨nd, rfl⟩⟩; refine ⟨_, rfl, ?_⟩))
     go_ret
     exact ⟨ew_, (bb_ HB)⟩
    replace c48 := Bool.eq_false_iff.mpr c48
    subst c48
    replace H := in_ H
    obtain rfl := Option.some.inj H
    go_wp2_with (first | ((with_reducible refine jL (f := 47) rfl ?_); refine gl_ (some 41) Tryz.func47 #[.int .i64 a0] ?_; (with_reducible refine (qZ.calls a0 false _ A47.out).mono ?_); rintro e w' ⟨rfl, ⟨nd, rfl⟩⟩; refine ⟨_, rfl, ?_⟩))
    go_ret
    exact ⟨ew_, (bb_ HB)⟩
   rw [if_pos c3] at H
   have c3b0 := decide_eq_true c3
   clear c3
   by_cases c4 : 0 ≤ x9_1
   rotate_left
   ·
    rw [if_neg c4] at H
    exact absurd H (by simp)
   rw [if_pos c4] at H
   have c4b0 := decide_eq_true c4
   clear c4
   by_cases c5 : x9_1 < (l1.length : Int)
   rotate_left
   ·
    rw [if_neg c5] at H
    exact absurd H (by simp)
   rw [if_pos c5] at H
   have c5b0 := decide_eq_true c5
   clear c5
   obtain ⟨t288, A6, H⟩ := oc_ H
   try dsimp only at H
   by_cases c7 : t288 = true
   rotate_left
   ·
    replace c7 := Bool.eq_false_iff.mpr c7
    subst c7
    replace H := in_ H
    obtain rfl := Option.some.inj H
    have p286 : 0 ≤ (x9_1 : Int) := of_decide_eq_true am_
    have q286 : x9_1 < (l1.length : Int) := of_decide_eq_true am_
    obtain ⟨ad286, A286_1, c286_1, A286_2, c286_2, e286, hx286_0, hx286_1, hx286_2, hx286_3, hx286_4, hx286_5, hx286_6, hl286_1, hi286_1, hl286_2, hi286_2⟩ := jDD HR1.out x9_1 p286 q286
    cases e286
    replace hx286_0 := (HB.out.cell (World.block_lt_of_cell? w _ hx286_0)).trans hx286_0
    replace hx286_1 := (HB.out.cell (World.block_lt_of_cell? w _ hx286_1)).trans hx286_1
    replace hx286_2 := (HB.out.cell (World.block_lt_of_cell? w _ hx286_2)).trans hx286_2
    replace hx286_3 := (HB.out.cell (World.block_lt_of_cell? w _ hx286_3)).trans hx286_3
    replace hx286_4 := (HB.out.cell (World.block_lt_of_cell? w _ hx286_4)).trans hx286_4
    replace hx286_5 := (HB.out.cell (World.block_lt_of_cell? w _ hx286_5)).trans hx286_5
    replace hx286_6 := (HB.out.cell (World.block_lt_of_cell? w _ hx286_6)).trans hx286_6
    have HR286_1 := jA.mk hi286_1
    have HC286_1 := jA.mk hl286_1
    clear hi286_1 hl286_1
    have HR286_2 := jA.mk hi286_2
    have HC286_2 := jA.mk hl286_2
    clear hi286_2 hl286_2
    replace p286 := eq_true p286
    replace q286 := eq_true q286
    try go_wp2_with (first | ((with_reducible refine jl (N := 6) rfl ?_); (try (refine jg (by rfl) ?_; dsimp only)); refine bx_ 6 #[.bool false, .slice none 0 0, .slice none 0 0, .int .i64 0, .int .i64 0, .int .i64 0, .int .i64 0] 37 ?_; intro gb287 hg w42 hbox hb; have BK287 := jA.mk (hbox); have GW287 := jA.mk ((by rw [hg]; exact (jE (bb_ HB)) : w.heap.size ≤ gb287)); have GE287 := GW287; replace HB := bs_ HB hb; clear hb hbox hg; obtain ⟨hcz43_0, hcz43_1, hcz43_2, hcz43_3, hcz43_4, hcz43_5, hcz43_6, hfz43_0, hfz43_1, hfz43_2, hfz43_3, hfz43_4, hfz43_5, hfz43_6⟩ := bf7_ BK287))
    have n0_ : jA ((((((((w42.setCell ⟨gb287, 0, none⟩ (.bool ((jC l1 x9_1).f0.f0))).setCell ⟨gb287, 1, none⟩ (.slice A286_1 ((jC l1 x9_1).f0.f1).length c286_1)).setCell ⟨gb287, 2, none⟩ (.slice A286_2 ((jC l1 x9_1).f0.f2).length c286_2)).setCell ⟨gb287, 3, none⟩ (.int .i64 ((jC l1 x9_1).f1.f0))).setCell ⟨gb287, 4, none⟩ (.int .i64 ((jC l1 x9_1).f1.f1))).setCell ⟨gb287, 5, none⟩ (.int .i64 ((jC l1 x9_1).f1.f2))).setCell ⟨gb287, 6, none⟩ (.int .i64 ((jC l1 x9_1).f1.f3))).heap[gb287]? = some (.cells #[.bool ((jC l1 x9_1).f0.f0), .slice A286_1 ((jC l1 x9_1).f0.f1).length c286_1, .slice A286_2 ((jC l1 x9_1).f0.f2).length c286_2, .int .i64 ((jC l1 x9_1).f1.f0), .int .i64 ((jC l1 x9_1).f1.f1), .int .i64 ((jC l1 x9_1).f1.f2), .int .i64 ((jC l1 x9_1).f1.f3)] 37 (0, 0))) := ⟨by (with_reducible repeat (first | refine qR ?_ _ | refine jI ?_ | refine jO ?_ _)); refine jM (cs := #[.bool ((jC l1 x9_1).f0.f0), .slice A286_1 ((jC l1 x9_1).f0.f1).length c286_1, .slice A286_2 ((jC l1 x9_1).f0.f2).length c286_2, .int .i64 ((jC l1 x9_1).f1.f0), .int .i64 ((jC l1 x9_1).f1.f1), .int .i64 ((jC l1 x9_1).f1.f2), .int .i64 0]) ?_ 6 _ rs_; refine pk_ ?_; refine jM (cs := #[.bool ((jC l1 x9_1).f0.f0), .slice A286_1 ((jC l1 x9_1).f0.f1).length c286_1, .slice A286_2 ((jC l1 x9_1).f0.f2).length c286_2, .int .i64 ((jC l1 x9_1).f1.f0), .int .i64 ((jC l1 x9_1).f1.f1), .int .i64 0, .int .i64 0]) ?_ 5 _ rs_; refine pk_ ?_; refine jM (cs := #[.bool ((jC l1 x9_1).f0.f0), .slice A286_1 ((jC l1 x9_1).f0.f1).length c286_1, .slice A286_2 ((jC l1 x9_1).f0.f2).length c286_2, .int .i64 ((jC l1 x9_1).f1.f0), .int .i64 0, .int .i64 0, .int .i64 0]) ?_ 4 _ rs_; refine pk_ ?_; refine jM (cs := #[.bool ((jC l1 x9_1).f0.f0), .slice A286_1 ((jC l1 x9_1).f0.f1).length c286_1, .slice A286_2 ((jC l1 x9_1).f0.f2).length c286_2, .int .i64 0, .int .i64 0, .int .i64 0, .int .i64 0]) ?_ 3 _ rs_; refine pk_ ?_; refine jM (cs := #[.bool ((jC l1 x9_1).f0.f0), .slice A286_1 ((jC l1 x9_1).f0.f1).length c286_1, .slice none 0 0, .int .i64 0, .int .i64 0, .int .i64 0, .int .i64 0]) ?_ 2 _ rs_; refine pk_ ?_; refine jM (cs := #[.bool ((jC l1 x9_1).f0.f0), .slice none 0 0, .slice none 0 0, .int .i64 0, .int .i64 0, .int .i64 0, .int .i64 0]) ?_ 1 _ rs_; refine pk_ ?_; refine jM (cs := #[.bool false, .slice none 0 0, .slice none 0 0, .int .i64 0, .int .i64 0, .int .i64 0, .int .i64 0]) ?_ 0 _ rs_; refine pk_ ?_; exact BK287.out⟩
    have n1_ : jA (Below w.heap.size w (((((((w42.setCell ⟨gb287, 0, none⟩ (.bool ((jC l1 x9_1).f0.f0))).setCell ⟨gb287, 1, none⟩ (.slice A286_1 ((jC l1 x9_1).f0.f1).length c286_1)).setCell ⟨gb287, 2, none⟩ (.slice A286_2 ((jC l1 x9_1).f0.f2).length c286_2)).setCell ⟨gb287, 3, none⟩ (.int .i64 ((jC l1 x9_1).f1.f0))).setCell ⟨gb287, 4, none⟩ (.int .i64 ((jC l1 x9_1).f1.f1))).setCell ⟨gb287, 5, none⟩ (.int .i64 ((jC l1 x9_1).f1.f2))).setCell ⟨gb287, 6, none⟩ (.int .i64 ((jC l1 x9_1).f1.f3)))) := ⟨(bb1_ HB GE287)⟩
    (try clear BK287)
    (try clear HB)
    generalize (((((((w42.setCell ⟨gb287, 0, none⟩ (.bool ((jC l1 x9_1).f0.f0))).setCell ⟨gb287, 1, none⟩ (.slice A286_1 ((jC l1 x9_1).f0.f1).length c286_1)).setCell ⟨gb287, 2, none⟩ (.slice A286_2 ((jC l1 x9_1).f0.f2).length c286_2)).setCell ⟨gb287, 3, none⟩ (.int .i64 ((jC l1 x9_1).f1.f0))).setCell ⟨gb287, 4, none⟩ (.int .i64 ((jC l1 x9_1).f1.f1))).setCell ⟨gb287, 5, none⟩ (.int .i64 ((jC l1 x9_1).f1.f2))).setCell ⟨gb287, 6, none⟩ (.int .i64 ((jC l1 x9_1).f1.f3))) = w44 at n0_ n1_ ⊢
    have BK287 := n0_
    have HB := n1_
    clear n0_ n1_
    have n0_ := jA.mk (jI BK287.out)
    have n1_ := jA.mk (vk HB.out)
    clear BK287
    clear HB
    have BK287 := n0_
    have HB := n1_
    clear n0_ n1_
    refine zw (n := 25) (S := fun w' => w'.cell? ⟨gb287, 0, none⟩ = some (.bool ((jC l1 x9_1).f0.f0)) ∧ w'.cell? ⟨gb287, 1, none⟩ = some (.slice A286_1 ((jC l1 x9_1).f0.f1).length c286_1) ∧ w'.cell? ⟨gb287, 2, none⟩ = some (.slice A286_2 ((jC l1 x9_1).f0.f2).length c286_2) ∧ w'.cell? ⟨gb287, 3, none⟩ = some (.int .i64 ((jC l1 x9_1).f1.f0)) ∧ w'.cell? ⟨gb287, 4, none⟩ = some (.int .i64 ((jC l1 x9_1).f1.f1)) ∧ w'.cell? ⟨gb287, 5, none⟩ = some (.int .i64 ((jC l1 x9_1).f1.f2)) ∧ w'.cell? ⟨gb287, 6, none⟩ = some (.int .i64 ((jC l1 x9_1).f1.f3))) (ds := []) #[false, false, false, false, false, false, false, false, false, false, false, false, false, false, false, false, false, false, false, false, false, false, false, false, false] kr_ rfl rfl ⟨(jB BK287.out 0).trans rfl, (jB BK287.out 1).trans rfl, (jB BK287.out 2).trans rfl, (jB BK287.out 3).trans rfl, (jB BK287.out 4).trans rfl, (jB BK287.out 5).trans rfl, (jB BK287.out 6).trans rfl⟩ (fun hHeld => ?_); refine qd jh.tab4 jh.jLT (fun HT_ HW_ => ?_)
    generalize w44.drew = w45 at BK287 HB hHeld ⊢
    refine tk7_ 0 (some 14) (ba_ 25 1) (ze HT_.out HW_.out kr_) hHeld ?_
    refine one_ (i := 1) (N := some 15) (ba_ 25 3) rfl rfl (qb HT_.out kr_) (by decide) (fun K hK => ?_)
    refine jAX Tryz.func44 kr_ rfl #[.agg #[.bool ((jC l1 x9_1).f0.f0), .slice A286_1 ((jC l1 x9_1).f0.f1).length c286_1, .slice A286_2 ((jC l1 x9_1).f0.f2).length c286_2, .int .i64 ((jC l1 x9_1).f1.f0), .int .i64 ((jC l1 x9_1).f1.f1), .int .i64 ((jC l1 x9_1).f1.f2), .int .i64 ((jC l1 x9_1).f1.f3)]] (by rfl) rfl rfl (by (try simp only [List.map_toArray, List.map_cons, List.map_nil]); first | done | rfl | (simp only [List.length_drop, List.length_take]; rfl)) ?_
    with_reducible refine (zx.calls k1 ((jC l1 x9_1).f0.f0) _ _ ((jC l1 x9_1).f0.f1) _ _ ((jC l1 x9_1).f0.f2) ((jC l1 x9_1).f1.f0) ((jC l1 x9_1).f1.f1) ((jC l1 x9_1).f1.f2) ((jC l1 x9_1).f1.f3) false _ ?side1 ?side2 ?side3 ?side4 A6.out).mono ?_
    (case side1 => exact cb_ HR286_1 HB)
    (case side2 => exact HC286_1.out)
    (case side3 => exact cb_ HR286_2 HB)
    (case side4 => exact HC286_2.out)
    rintro e w46 ⟨rfl, hb⟩
    refine ⟨_, rfl, ?_⟩
    have n0_ := bk_ BK287 hb
    have n1_ := jA.mk (jG (bb1_ HB GE287) hb)
    clear BK287
    clear HB
    have BK287 := n0_
    have HB := n1_
    clear n0_ n1_
    (try clear hb)
    (try clear hb2)
    (try clear hk)
    (try clear hi)
    refine hK.out _ _ ⟨(jB BK287.out 0).trans rfl, (jB BK287.out 1).trans rfl, (jB BK287.out 2).trans rfl, (jB BK287.out 3).trans rfl, (jB BK287.out 4).trans rfl, (jB BK287.out 5).trans rfl, (jB BK287.out 6).trans rfl⟩ (fun hHeld => ?_)
    clear hK K
    refine ns_ 15 ?_
    refine pu_ 2 (some 16) (ba_ 25 7) (jR HT_.out kr_) ?_
    refine pu_ 3 (some 17) (ba_ 25 15) (jR HT_.out kr_) ?_
    refine zZ (i := 4) (N := some 18) (v := undef) (a' := ?_) (ba_ 25 31) rfl rfl (jR HT_.out kr_) (fun _ _ _ h => h) (Or.inr ⟨by rfl, rfl⟩) ?_ ?_
    rotate_left
    ·
     simp only [Act.put, ss_, vF, vN]
     rfl
    refine zZ (i := 5) (N := some 19) (v := undef) (a' := ?_) (ba_ 25 63) rfl rfl (jR HT_.out kr_) (fun _ _ _ h => h) (Or.inr ⟨by rfl, rfl⟩) ?_ ?_
    rotate_left
    ·
     simp only [Act.put, ss_, vF, vN]
     rfl
    refine zZ (i := 6) (N := some 20) (v := undef) (a' := ?_) (ba_ 25 127) rfl rfl (jR HT_.out kr_) (fun _ _ _ h => h) (Or.inr ⟨by rfl, rfl⟩) ?_ ?_
    rotate_left
    ·
     simp only [Act.put, ss_, vF, vN]
     rfl
    refine pu_ 7 (some 21) (ba_ 25 255) (jR HT_.out kr_) ?_
    refine pu_ 8 (some 22) (ba_ 25 511) (jR HT_.out kr_) ?_
    refine zZ (i := 9) (N := some 23) (v := undef) (a' := ?_) (ba_ 25 1023) rfl rfl (jR HT_.out kr_) (fun _ _ _ h => h) (Or.inr ⟨by rfl, rfl⟩) ?_ ?_
    rotate_left
    ·
     simp only [Act.put, ss_, vF, vN]
     rfl
    refine zZ (i := 10) (N := some 24) (v := undef) (a' := ?_) (ba_ 25 2047) rfl rfl (jR HT_.out kr_) (fun _ _ _ h => h) (Or.inr ⟨by rfl, rfl⟩) ?_ ?_
    rotate_left
    ·
     simp only [Act.put, ss_, vF, vN]
     rfl
    refine zZ (i := 11) (N := some 25) (v := undef) (a' := ?_) (ba_ 25 4095) rfl rfl (jR HT_.out kr_) (fun _ _ _ h => h) (Or.inr ⟨by rfl, rfl⟩) ?_ ?_
    rotate_left
    ·
     simp only [Act.put, ss_, vF, vN]
     rfl
    refine zZ (i := 12) (N := some 26) (v := undef) (a' := ?_) (ba_ 25 8191) rfl rfl (jR HT_.out kr_) (fun _ _ _ h => h) (Or.inr ⟨by rfl, rfl⟩) ?_ ?_
    rotate_left
    ·
     simp only [Act.put, ss_, vF, vN]
     rfl
    refine zZ (i := 13) (N := some 27) (v := undef) (a' := ?_) (ba_ 25 16383) rfl rfl (jR HT_.out kr_) (fun _ _ _ h => h) (Or.inr ⟨by rfl, rfl⟩) ?_ ?_
    rotate_left
    ·
     simp only [Act.put, ss_, vF, vN]
     rfl
    refine zZ (i := 14) (N := some 28) (v := undef) (a' := ?_) (ba_ 25 32767) rfl rfl (jR HT_.out kr_) (fun _ _ _ h => h) (Or.inr ⟨by rfl, rfl⟩) ?_ ?_
    rotate_left
    ·
     simp only [Act.put, ss_, vF, vN]
     rfl
    refine zZ (i := 15) (N := some 29) (v := undef) (a' := ?_) (ba_ 25 65535) rfl rfl (jR HT_.out kr_) (fun _ _ _ h => h) (Or.inr ⟨by rfl, rfl⟩) ?_ ?_
    rotate_left
    ·
     simp only [Act.put, ss_, vF, vN]
     rfl
    refine zZ (i := 16) (N := some 30) (v := undef) (a' := ?_) (ba_ 25 131071) rfl rfl (jR HT_.out kr_) (fun _ _ _ h => h) (Or.inr ⟨by rfl, rfl⟩) ?_ ?_
    rotate_left
    ·
     simp only [Act.put, ss_, vF, vN]
     rfl
    refine zZ (i := 17) (N := some 31) (v := undef) (a' := ?_) (ba_ 25 262143) rfl rfl (jR HT_.out kr_) (fun _ _ _ h => h) (Or.inr ⟨by rfl, rfl⟩) ?_ ?_
    rotate_left
    ·
     simp only [Act.put, ss_, vF, vN]
     rfl
    refine zZ (i := 18) (N := some 32) (v := undef) (a' := ?_) (ba_ 25 524287) rfl rfl (jR HT_.out kr_) (fun _ _ _ h => h) (Or.inr ⟨by rfl, rfl⟩) ?_ ?_
    rotate_left
    ·
     simp only [Act.put, ss_, vF, vN]
     rfl
    refine zZ (i := 19) (N := some 33) (v := undef) (a' := ?_) (ba_ 25 1048575) rfl rfl (jR HT_.out kr_) (fun _ _ _ h => h) (Or.inr ⟨by rfl, rfl⟩) ?_ ?_
    rotate_left
    ·
     simp only [Act.put, ss_, vF, vN]
     rfl
    refine zZ (i := 20) (N := some 34) (v := undef) (a' := ?_) (ba_ 25 2097151) rfl rfl (jR HT_.out kr_) (fun _ _ _ h => h) (Or.inr ⟨by rfl, rfl⟩) ?_ ?_
    rotate_left
    ·
     simp only [Act.put, ss_, vF, vN]
     rfl
    refine zZ (i := 21) (N := some 35) (v := undef) (a' := ?_) (ba_ 25 4194303) rfl rfl (jR HT_.out kr_) (fun _ _ _ h => h) (Or.inr ⟨by rfl, rfl⟩) ?_ ?_
    rotate_left
    ·
     simp only [Act.put, ss_, vF, vN]
     rfl
    refine zZ (i := 22) (N := some 36) (v := undef) (a' := ?_) (ba_ 25 8388607) rfl rfl (jR HT_.out kr_) (fun _ _ _ h => h) (Or.inr ⟨by rfl, rfl⟩) ?_ ?_
    rotate_left
    ·
     simp only [Act.put, ss_, vF, vN]
     rfl
    refine zZ (i := 23) (N := some 37) (v := undef) (a' := ?_) (ba_ 25 16777215) rfl rfl (jR HT_.out kr_) (fun _ _ _ h => h) (Or.inr ⟨by rfl, rfl⟩) ?_ ?_
    rotate_left
    ·
     simp only [Act.put, ss_, vF, vN]
     rfl
    refine pu_ 24 (some 38) (ba_ 25 33554431) (jR HT_.out kr_) ?_
    refine jAR (jBG HT_.out kr_) ?_
    try go_wp2
    go_ret
    exact ⟨ew_, (bb1_ HB GE287)⟩
   subst c7
   replace H := ip_ H
   obtain ⟨t289, A8, H⟩ := oc_ H
   try dsimp only at H
   by_cases c9 : t289 = true
   ·
    subst c9
    replace H := ip_ H
    obtain rfl := Option.some.inj H
    have p286 : 0 ≤ (x9_1 : Int) := of_decide_eq_true am_
    have q286 : x9_1 < (l1.length : Int) := of_decide_eq_true am_
    obtain ⟨ad286, A286_1, c286_1, A286_2, c286_2, e286, hx286_0, hx286_1, hx286_2, hx286_3, hx286_4, hx286_5, hx286_6, hl286_1, hi286_1, hl286_2, hi286_2⟩ := jDD HR1.out x9_1 p286 q286
    cases e286
    replace hx286_0 := (HB.out.cell (World.block_lt_of_cell? w _ hx286_0)).trans hx286_0
    replace hx286_1 := (HB.out.cell (World.block_lt_of_cell? w _ hx286_1)).trans hx286_1
    replace hx286_2 := (HB.out.cell (World.block_lt_of_cell? w _ hx286_2)).trans hx286_2
    replace hx286_3 := (HB.out.cell (World.block_lt_of_cell? w _ hx286_3)).trans hx286_3
    replace hx286_4 := (HB.out.cell (World.block_lt_of_cell? w _ hx286_4)).trans hx286_4
    replace hx286_5 := (HB.out.cell (World.block_lt_of_cell? w _ hx286_5)).trans hx286_5
    replace hx286_6 := (HB.out.cell (World.block_lt_of_cell? w _ hx286_6)).trans hx286_6
    have HR286_1 := jA.mk hi286_1
    have HC286_1 := jA.mk hl286_1
    clear hi286_1 hl286_1
    have HR286_2 := jA.mk hi286_2
    have HC286_2 := jA.mk hl286_2
    clear hi286_2 hl286_2
    replace p286 := eq_true p286
    replace q286 := eq_true q286
    try go_wp2_with (first | ((with_reducible refine jl (N := 6) rfl ?_); (try (refine jg (by rfl) ?_; dsimp only)); refine bx_ 6 #[.bool false, .slice none 0 0, .slice none 0 0, .int .i64 0, .int .i64 0, .int .i64 0, .int .i64 0] 37 ?_; intro gb287 hg w10 hbox hb; have BK287 := jA.mk (hbox); have GW287 := jA.mk ((by rw [hg]; exact (jE (bb_ HB)) : w.heap.size ≤ gb287)); have GE287 := GW287; replace HB := bs_ HB hb; clear hb hbox hg; obtain ⟨hcz11_0, hcz11_1, hcz11_2, hcz11_3, hcz11_4, hcz11_5, hcz11_6, hfz11_0, hfz11_1, hfz11_2, hfz11_3, hfz11_4, hfz11_5, hfz11_6⟩ := bf7_ BK287))
    have n0_ : jA ((((((((w10.setCell ⟨gb287, 0, none⟩ (.bool ((jC l1 x9_1).f0.f0))).setCell ⟨gb287, 1, none⟩ (.slice A286_1 ((jC l1 x9_1).f0.f1).length c286_1)).setCell ⟨gb287, 2, none⟩ (.slice A286_2 ((jC l1 x9_1).f0.f2).length c286_2)).setCell ⟨gb287, 3, none⟩ (.int .i64 ((jC l1 x9_1).f1.f0))).setCell ⟨gb287, 4, none⟩ (.int .i64 ((jC l1 x9_1).f1.f1))).setCell ⟨gb287, 5, none⟩ (.int .i64 ((jC l1 x9_1).f1.f2))).setCell ⟨gb287, 6, none⟩ (.int .i64 ((jC l1 x9_1).f1.f3))).heap[gb287]? = some (.cells #[.bool ((jC l1 x9_1).f0.f0), .slice A286_1 ((jC l1 x9_1).f0.f1).length c286_1, .slice A286_2 ((jC l1 x9_1).f0.f2).length c286_2, .int .i64 ((jC l1 x9_1).f1.f0), .int .i64 ((jC l1 x9_1).f1.f1), .int .i64 ((jC l1 x9_1).f1.f2), .int .i64 ((jC l1 x9_1).f1.f3)] 37 (0, 0))) := ⟨by (with_reducible repeat (first | refine qR ?_ _ | refine jI ?_ | refine jO ?_ _)); refine jM (cs := #[.bool ((jC l1 x9_1).f0.f0), .slice A286_1 ((jC l1 x9_1).f0.f1).length c286_1, .slice A286_2 ((jC l1 x9_1).f0.f2).length c286_2, .int .i64 ((jC l1 x9_1).f1.f0), .int .i64 ((jC l1 x9_1).f1.f1), .int .i64 ((jC l1 x9_1).f1.f2), .int .i64 0]) ?_ 6 _ rs_; refine pk_ ?_; refine jM (cs := #[.bool ((jC l1 x9_1).f0.f0), .slice A286_1 ((jC l1 x9_1).f0.f1).length c286_1, .slice A286_2 ((jC l1 x9_1).f0.f2).length c286_2, .int .i64 ((jC l1 x9_1).f1.f0), .int .i64 ((jC l1 x9_1).f1.f1), .int .i64 0, .int .i64 0]) ?_ 5 _ rs_; refine pk_ ?_; refine jM (cs := #[.bool ((jC l1 x9_1).f0.f0), .slice A286_1 ((jC l1 x9_1).f0.f1).length c286_1, .slice A286_2 ((jC l1 x9_1).f0.f2).length c286_2, .int .i64 ((jC l1 x9_1).f1.f0), .int .i64 0, .int .i64 0, .int .i64 0]) ?_ 4 _ rs_; refine pk_ ?_; refine jM (cs := #[.bool ((jC l1 x9_1).f0.f0), .slice A286_1 ((jC l1 x9_1).f0.f1).length c286_1, .slice A286_2 ((jC l1 x9_1).f0.f2).length c286_2, .int .i64 0, .int .i64 0, .int .i64 0, .int .i64 0]) ?_ 3 _ rs_; refine pk_ ?_; refine jM (cs := #[.bool ((jC l1 x9_1).f0.f0), .slice A286_1 ((jC l1 x9_1).f0.f1).length c286_1, .slice none 0 0, .int .i64 0, .int .i64 0, .int .i64 0, .int .i64 0]) ?_ 2 _ rs_; refine pk_ ?_; refine jM (cs := #[.bool ((jC l1 x9_1).f0.f0), .slice none 0 0, .slice none 0 0, .int .i64 0, .int .i64 0, .int .i64 0, .int .i64 0]) ?_ 1 _ rs_; refine pk_ ?_; refine jM (cs := #[.bool false, .slice none 0 0, .slice none 0 0, .int .i64 0, .int .i64 0, .int .i64 0, .int .i64 0]) ?_ 0 _ rs_; refine pk_ ?_; exact BK287.out⟩
    have n1_ : jA (Below w.heap.size w (((((((w10.setCell ⟨gb287, 0, none⟩ (.bool ((jC l1 x9_1).f0.f0))).setCell ⟨gb287, 1, none⟩ (.slice A286_1 ((jC l1 x9_1).f0.f1).length c286_1)).setCell ⟨gb287, 2, none⟩ (.slice A286_2 ((jC l1 x9_1).f0.f2).length c286_2)).setCell ⟨gb287, 3, none⟩ (.int .i64 ((jC l1 x9_1).f1.f0))).setCell ⟨gb287, 4, none⟩ (.int .i64 ((jC l1 x9_1).f1.f1))).setCell ⟨gb287, 5, none⟩ (.int .i64 ((jC l1 x9_1).f1.f2))).setCell ⟨gb287, 6, none⟩ (.int .i64 ((jC l1 x9_1).f1.f3)))) := ⟨(bb1_ HB GE287)⟩
    (try clear BK287)
    (try clear HB)
    generalize (((((((w10.setCell ⟨gb287, 0, none⟩ (.bool ((jC l1 x9_1).f0.f0))).setCell ⟨gb287, 1, none⟩ (.slice A286_1 ((jC l1 x9_1).f0.f1).length c286_1)).setCell ⟨gb287, 2, none⟩ (.slice A286_2 ((jC l1 x9_1).f0.f2).length c286_2)).setCell ⟨gb287, 3, none⟩ (.int .i64 ((jC l1 x9_1).f1.f0))).setCell ⟨gb287, 4, none⟩ (.int .i64 ((jC l1 x9_1).f1.f1))).setCell ⟨gb287, 5, none⟩ (.int .i64 ((jC l1 x9_1).f1.f2))).setCell ⟨gb287, 6, none⟩ (.int .i64 ((jC l1 x9_1).f1.f3))) = w12 at n0_ n1_ ⊢
    have BK287 := n0_
    have HB := n1_
    clear n0_ n1_
    have n0_ := jA.mk (jI BK287.out)
    have n1_ := jA.mk (vk HB.out)
    clear BK287
    clear HB
    have BK287 := n0_
    have HB := n1_
    clear n0_ n1_
    refine zw (n := 25) (S := fun w' => w'.cell? ⟨gb287, 0, none⟩ = some (.bool ((jC l1 x9_1).f0.f0)) ∧ w'.cell? ⟨gb287, 1, none⟩ = some (.slice A286_1 ((jC l1 x9_1).f0.f1).length c286_1) ∧ w'.cell? ⟨gb287, 2, none⟩ = some (.slice A286_2 ((jC l1 x9_1).f0.f2).length c286_2) ∧ w'.cell? ⟨gb287, 3, none⟩ = some (.int .i64 ((jC l1 x9_1).f1.f0)) ∧ w'.cell? ⟨gb287, 4, none⟩ = some (.int .i64 ((jC l1 x9_1).f1.f1)) ∧ w'.cell? ⟨gb287, 5, none⟩ = some (.int .i64 ((jC l1 x9_1).f1.f2)) ∧ w'.cell? ⟨gb287, 6, none⟩ = some (.int .i64 ((jC l1 x9_1).f1.f3))) (ds := []) #[false, false, false, false, false, false, false, false, false, false, false, false, false, false, false, false, false, false, false, false, false, false, false, false, false] kr_ rfl rfl ⟨(jB BK287.out 0).trans rfl, (jB BK287.out 1).trans rfl, (jB BK287.out 2).trans rfl, (jB BK287.out 3).trans rfl, (jB BK287.out 4).trans rfl, (jB BK287.out 5).trans rfl, (jB BK287.out 6).trans rfl⟩ (fun hHeld => ?_); refine qd jh.tab4 jh.jLT (fun HT_ HW_ => ?_)
    generalize w12.drew = w13 at BK287 HB hHeld ⊢
    refine tk7_ 0 (some 14) (ba_ 25 1) (ze HT_.out HW_.out kr_) hHeld ?_
    refine one_ (i := 1) (N := some 15) (ba_ 25 3) rfl rfl (qb HT_.out kr_) (by decide) (fun K hK => ?_)
    refine jAX Tryz.func44 kr_ rfl #[.agg #[.bool ((jC l1 x9_1).f0.f0), .slice A286_1 ((jC l1 x9_1).f0.f1).length c286_1, .slice A286_2 ((jC l1 x9_1).f0.f2).length c286_2, .int .i64 ((jC l1 x9_1).f1.f0), .int .i64 ((jC l1 x9_1).f1.f1), .int .i64 ((jC l1 x9_1).f1.f2), .int .i64 ((jC l1 x9_1).f1.f3)]] (by rfl) rfl rfl (by (try simp only [List.map_toArray, List.map_cons, List.map_nil]); first | done | rfl | (simp only [List.length_drop, List.length_take]; rfl)) ?_
    with_reducible refine (zx.calls k1 ((jC l1 x9_1).f0.f0) _ _ ((jC l1 x9_1).f0.f1) _ _ ((jC l1 x9_1).f0.f2) ((jC l1 x9_1).f1.f0) ((jC l1 x9_1).f1.f1) ((jC l1 x9_1).f1.f2) ((jC l1 x9_1).f1.f3) true _ ?side1 ?side2 ?side3 ?side4 A6.out).mono ?_
    (case side1 => exact cb_ HR286_1 HB)
    (case side2 => exact HC286_1.out)
    (case side3 => exact cb_ HR286_2 HB)
    (case side4 => exact HC286_2.out)
    rintro e w14 ⟨rfl, hb⟩
    refine ⟨_, rfl, ?_⟩
    have n0_ := bk_ BK287 hb
    have n1_ := jA.mk (jG (bb1_ HB GE287) hb)
    clear BK287
    clear HB
    have BK287 := n0_
    have HB := n1_
    clear n0_ n1_
    (try clear hb)
    (try clear hb2)
    (try clear hk)
    (try clear hi)
    refine hK.out _ _ ⟨(jB BK287.out 0).trans rfl, (jB BK287.out 1).trans rfl, (jB BK287.out 2).trans rfl, (jB BK287.out 3).trans rfl, (jB BK287.out 4).trans rfl, (jB BK287.out 5).trans rfl, (jB BK287.out 6).trans rfl⟩ (fun hHeld => ?_)
    clear hK K
    refine ns_ 15 ?_
    refine pu_ 2 (some 16) (ba_ 25 7) (jR HT_.out kr_) ?_
    refine pu_ 3 (some 17) (ba_ 25 15) (jR HT_.out kr_) ?_
    refine pu_ 4 (some 18) (ba_ 25 31) (jR HT_.out kr_) ?_
    refine tk7_ 5 (some 19) (ba_ 25 63) (ze HT_.out HW_.out kr_) hHeld ?_
    refine one_ (i := 6) (N := some 20) (ba_ 25 127) rfl rfl (qb HT_.out kr_) (by decide) (fun K hK => ?_)
    refine jAX Tryz.func45 kr_ rfl #[.agg #[.bool ((jC l1 x9_1).f0.f0), .slice A286_1 ((jC l1 x9_1).f0.f1).length c286_1, .slice A286_2 ((jC l1 x9_1).f0.f2).length c286_2]] (by rfl) rfl rfl (by (try simp only [List.map_toArray, List.map_cons, List.map_nil]); first | done | rfl | (simp only [List.length_drop, List.length_take]; rfl)) ?_
    with_reducible refine (zJ.calls ((jC l1 x9_1).f0.f0) _ _ ((jC l1 x9_1).f0.f1) _ _ ((jC l1 x9_1).f0.f2) true _ ?side1 ?side2 ?side3 ?side4 A8.out).mono ?_
    (case side1 => exact cb_ HR286_1 HB)
    (case side2 => exact HC286_1.out)
    (case side3 => exact cb_ HR286_2 HB)
    (case side4 => exact HC286_2.out)
    rintro e w15 ⟨rfl, hb⟩
    refine ⟨_, rfl, ?_⟩
    have n0_ := bk_ BK287 hb
    have n1_ := jA.mk (jG (bb1_ HB GE287) hb)
    clear BK287
    clear HB
    have BK287 := n0_
    have HB := n1_
    clear n0_ n1_
    (try clear hb)
    (try clear hb2)
    (try clear hk)
    (try clear hi)
    refine hK.out _ _ ⟨(jB BK287.out 0).trans rfl, (jB BK287.out 1).trans rfl, (jB BK287.out 2).trans rfl, (jB BK287.out 3).trans rfl, (jB BK287.out 4).trans rfl, (jB BK287.out 5).trans rfl, (jB BK287.out 6).trans rfl⟩ (fun hHeld => ?_)
    clear hK K
    refine ns_ 20 ?_
    refine pu_ 7 (some 21) (ba_ 25 255) (jR HT_.out kr_) ?_
    refine pu_ 8 (some 22) (ba_ 25 511) (jR HT_.out kr_) ?_
    refine zZ (i := 9) (N := some 23) (v := undef) (a' := ?_) (ba_ 25 1023) rfl rfl (jR HT_.out kr_) (fun _ _ _ h => h) (Or.inr ⟨by rfl, rfl⟩) ?_ ?_
    rotate_left
    ·
     simp only [Act.put, ss_, vF, vN]
     rfl
    refine zZ (i := 10) (N := some 24) (v := undef) (a' := ?_) (ba_ 25 2047) rfl rfl (jR HT_.out kr_) (fun _ _ _ h => h) (Or.inr ⟨by rfl, rfl⟩) ?_ ?_
    rotate_left
    ·
     simp only [Act.put, ss_, vF, vN]
     rfl
    refine zZ (i := 11) (N := some 25) (v := undef) (a' := ?_) (ba_ 25 4095) rfl rfl (jR HT_.out kr_) (fun _ _ _ h => h) (Or.inr ⟨by rfl, rfl⟩) ?_ ?_
    rotate_left
    ·
     simp only [Act.put, ss_, vF, vN]
     rfl
    refine zZ (i := 12) (N := some 26) (v := undef) (a' := ?_) (ba_ 25 8191) rfl rfl (jR HT_.out kr_) (fun _ _ _ h => h) (Or.inr ⟨by rfl, rfl⟩) ?_ ?_
    rotate_left
    ·
     simp only [Act.put, ss_, vF, vN]
     rfl
    refine zZ (i := 13) (N := some 27) (v := undef) (a' := ?_) (ba_ 25 16383) rfl rfl (jR HT_.out kr_) (fun _ _ _ h => h) (Or.inr ⟨by rfl, rfl⟩) ?_ ?_
    rotate_left
    ·
     simp only [Act.put, ss_, vF, vN]
     rfl
    refine zZ (i := 14) (N := some 28) (v := undef) (a' := ?_) (ba_ 25 32767) rfl rfl (jR HT_.out kr_) (fun _ _ _ h => h) (Or.inr ⟨by rfl, rfl⟩) ?_ ?_
    rotate_left
    ·
     simp only [Act.put, ss_, vF, vN]
     rfl
    refine zZ (i := 15) (N := some 29) (v := undef) (a' := ?_) (ba_ 25 65535) rfl rfl (jR HT_.out kr_) (fun _ _ _ h => h) (Or.inr ⟨by rfl, rfl⟩) ?_ ?_
    rotate_left
    ·
     simp only [Act.put, ss_, vF, vN]
     rfl
    refine zZ (i := 16) (N := some 30) (v := undef) (a' := ?_) (ba_ 25 131071) rfl rfl (jR HT_.out kr_) (fun _ _ _ h => h) (Or.inr ⟨by rfl, rfl⟩) ?_ ?_
    rotate_left
    ·
     simp only [Act.put, ss_, vF, vN]
     rfl
    refine zZ (i := 17) (N := some 31) (v := undef) (a' := ?_) (ba_ 25 262143) rfl rfl (jR HT_.out kr_) (fun _ _ _ h => h) (Or.inr ⟨by rfl, rfl⟩) ?_ ?_
    rotate_left
    ·
     simp only [Act.put, ss_, vF, vN]
     rfl
    refine zZ (i := 18) (N := some 32) (v := undef) (a' := ?_) (ba_ 25 524287) rfl rfl (jR HT_.out kr_) (fun _ _ _ h => h) (Or.inr ⟨by rfl, rfl⟩) ?_ ?_
    rotate_left
    ·
     simp only [Act.put, ss_, vF, vN]
     rfl
    refine zZ (i := 19) (N := some 33) (v := undef) (a' := ?_) (ba_ 25 1048575) rfl rfl (jR HT_.out kr_) (fun _ _ _ h => h) (Or.inr ⟨by rfl, rfl⟩) ?_ ?_
    rotate_left
    ·
     simp only [Act.put, ss_, vF, vN]
     rfl
    refine zZ (i := 20) (N := some 34) (v := undef) (a' := ?_) (ba_ 25 2097151) rfl rfl (jR HT_.out kr_) (fun _ _ _ h => h) (Or.inr ⟨by rfl, rfl⟩) ?_ ?_
    rotate_left
    ·
     simp only [Act.put, ss_, vF, vN]
     rfl
    refine zZ (i := 21) (N := some 35) (v := undef) (a' := ?_) (ba_ 25 4194303) rfl rfl (jR HT_.out kr_) (fun _ _ _ h => h) (Or.inr ⟨by rfl, rfl⟩) ?_ ?_
    rotate_left
    ·
     simp only [Act.put, ss_, vF, vN]
     rfl
    refine zZ (i := 22) (N := some 36) (v := undef) (a' := ?_) (ba_ 25 8388607) rfl rfl (jR HT_.out kr_) (fun _ _ _ h => h) (Or.inr ⟨by rfl, rfl⟩) ?_ ?_
    rotate_left
    ·
     simp only [Act.put, ss_, vF, vN]
     rfl
    refine zZ (i := 23) (N := some 37) (v := undef) (a' := ?_) (ba_ 25 16777215) rfl rfl (jR HT_.out kr_) (fun _ _ _ h => h) (Or.inr ⟨by rfl, rfl⟩) ?_ ?_
    rotate_left
    ·
     simp only [Act.put, ss_, vF, vN]
     rfl
    refine pu_ 24 (some 38) (ba_ 25 33554431) (jR HT_.out kr_) ?_
    refine jAR (jBG HT_.out kr_) ?_
    try go_wp2
    go_ret
    exact ⟨ew_, (bb1_ HB GE287)⟩
   replace c9 := Bool.eq_false_iff.mpr c9
   subst c9
   replace H := in_ H
   by_cases c16 : x9_1 > 0
   rotate_left
   ·
    rw [if_neg c16] at H
    have c16b0 := decide_eq_false c16
    clear c16
    have H' := jA.mk H
    clear H
    have p286 : 0 ≤ (x9_1 : Int) := of_decide_eq_true am_
    have q286 : x9_1 < (l1.length : Int) := of_decide_eq_true am_
    obtain ⟨ad286, A286_1, c286_1, A286_2, c286_2, e286, hx286_0, hx286_1, hx286_2, hx286_3, hx286_4, hx286_5, hx286_6, hl286_1, hi286_1, hl286_2, hi286_2⟩ := jDD HR1.out x9_1 p286 q286
    cases e286
    replace hx286_0 := (HB.out.cell (World.block_lt_of_cell? w _ hx286_0)).trans hx286_0
    replace hx286_1 := (HB.out.cell (World.block_lt_of_cell? w _ hx286_1)).trans hx286_1
    replace hx286_2 := (HB.out.cell (World.block_lt_of_cell? w _ hx286_2)).trans hx286_2
    replace hx286_3 := (HB.out.cell (World.block_lt_of_cell? w _ hx286_3)).trans hx286_3
    replace hx286_4 := (HB.out.cell (World.block_lt_of_cell? w _ hx286_4)).trans hx286_4
    replace hx286_5 := (HB.out.cell (World.block_lt_of_cell? w _ hx286_5)).trans hx286_5
    replace hx286_6 := (HB.out.cell (World.block_lt_of_cell? w _ hx286_6)).trans hx286_6
    have HR286_1 := jA.mk hi286_1
    have HC286_1 := jA.mk hl286_1
    clear hi286_1 hl286_1
    have HR286_2 := jA.mk hi286_2
    have HC286_2 := jA.mk hl286_2
    clear hi286_2 hl286_2
    replace p286 := eq_true p286
    replace q286 := eq_true q286
    try go_wp2_with (first | ((with_reducible refine jl (N := 6) rfl ?_); (try (refine jg (by rfl) ?_; dsimp only)); refine bx_ 6 #[.bool false, .slice none 0 0, .slice none 0 0, .int .i64 0, .int .i64 0, .int .i64 0, .int .i64 0] 37 ?_; intro gb287 hg w36 hbox hb; have BK287 := jA.mk (hbox); have GW287 := jA.mk ((by rw [hg]; exact (jE (bb_ HB)) : w.heap.size ≤ gb287)); have GE287 := GW287; replace HB := bs_ HB hb; clear hb hbox hg; obtain ⟨hcz37_0, hcz37_1, hcz37_2, hcz37_3, hcz37_4, hcz37_5, hcz37_6, hfz37_0, hfz37_1, hfz37_2, hfz37_3, hfz37_4, hfz37_5, hfz37_6⟩ := bf7_ BK287))
    have n0_ : jA ((((((((w36.setCell ⟨gb287, 0, none⟩ (.bool ((jC l1 x9_1).f0.f0))).setCell ⟨gb287, 1, none⟩ (.slice A286_1 ((jC l1 x9_1).f0.f1).length c286_1)).setCell ⟨gb287, 2, none⟩ (.slice A286_2 ((jC l1 x9_1).f0.f2).length c286_2)).setCell ⟨gb287, 3, none⟩ (.int .i64 ((jC l1 x9_1).f1.f0))).setCell ⟨gb287, 4, none⟩ (.int .i64 ((jC l1 x9_1).f1.f1))).setCell ⟨gb287, 5, none⟩ (.int .i64 ((jC l1 x9_1).f1.f2))).setCell ⟨gb287, 6, none⟩ (.int .i64 ((jC l1 x9_1).f1.f3))).heap[gb287]? = some (.cells #[.bool ((jC l1 x9_1).f0.f0), .slice A286_1 ((jC l1 x9_1).f0.f1).length c286_1, .slice A286_2 ((jC l1 x9_1).f0.f2).length c286_2, .int .i64 ((jC l1 x9_1).f1.f0), .int .i64 ((jC l1 x9_1).f1.f1), .int .i64 ((jC l1 x9_1).f1.f2), .int .i64 ((jC l1 x9_1).f1.f3)] 37 (0, 0))) := ⟨by (with_reducible repeat (first | refine qR ?_ _ | refine jI ?_ | refine jO ?_ _)); refine jM (cs := #[.bool ((jC l1 x9_1).f0.f0), .slice A286_1 ((jC l1 x9_1).f0.f1).length c286_1, .slice A286_2 ((jC l1 x9_1).f0.f2).length c286_2, .int .i64 ((jC l1 x9_1).f1.f0), .int .i64 ((jC l1 x9_1).f1.f1), .int .i64 ((jC l1 x9_1).f1.f2), .int .i64 0]) ?_ 6 _ rs_; refine pk_ ?_; refine jM (cs := #[.bool ((jC l1 x9_1).f0.f0), .slice A286_1 ((jC l1 x9_1).f0.f1).length c286_1, .slice A286_2 ((jC l1 x9_1).f0.f2).length c286_2, .int .i64 ((jC l1 x9_1).f1.f0), .int .i64 ((jC l1 x9_1).f1.f1), .int .i64 0, .int .i64 0]) ?_ 5 _ rs_; refine pk_ ?_; refine jM (cs := #[.bool ((jC l1 x9_1).f0.f0), .slice A286_1 ((jC l1 x9_1).f0.f1).length c286_1, .slice A286_2 ((jC l1 x9_1).f0.f2).length c286_2, .int .i64 ((jC l1 x9_1).f1.f0), .int .i64 0, .int .i64 0, .int .i64 0]) ?_ 4 _ rs_; refine pk_ ?_; refine jM (cs := #[.bool ((jC l1 x9_1).f0.f0), .slice A286_1 ((jC l1 x9_1).f0.f1).length c286_1, .slice A286_2 ((jC l1 x9_1).f0.f2).length c286_2, .int .i64 0, .int .i64 0, .int .i64 0, .int .i64 0]) ?_ 3 _ rs_; refine pk_ ?_; refine jM (cs := #[.bool ((jC l1 x9_1).f0.f0), .slice A286_1 ((jC l1 x9_1).f0.f1).length c286_1, .slice none 0 0, .int .i64 0, .int .i64 0, .int .i64 0, .int .i64 0]) ?_ 2 _ rs_; refine pk_ ?_; refine jM (cs := #[.bool ((jC l1 x9_1).f0.f0), .slice none 0 0, .slice none 0 0, .int .i64 0, .int .i64 0, .int .i64 0, .int .i64 0]) ?_ 1 _ rs_; refine pk_ ?_; refine jM (cs := #[.bool false, .slice none 0 0, .slice none 0 0, .int .i64 0, .int .i64 0, .int .i64 0, .int .i64 0]) ?_ 0 _ rs_; refine pk_ ?_; exact BK287.out⟩
    have n1_ : jA (Below w.heap.size w (((((((w36.setCell ⟨gb287, 0, none⟩ (.bool ((jC l1 x9_1).f0.f0))).setCell ⟨gb287, 1, none⟩ (.slice A286_1 ((jC l1 x9_1).f0.f1).length c286_1)).setCell ⟨gb287, 2, none⟩ (.slice A286_2 ((jC l1 x9_1).f0.f2).length c286_2)).setCell ⟨gb287, 3, none⟩ (.int .i64 ((jC l1 x9_1).f1.f0))).setCell ⟨gb287, 4, none⟩ (.int .i64 ((jC l1 x9_1).f1.f1))).setCell ⟨gb287, 5, none⟩ (.int .i64 ((jC l1 x9_1).f1.f2))).setCell ⟨gb287, 6, none⟩ (.int .i64 ((jC l1 x9_1).f1.f3)))) := ⟨(bb1_ HB GE287)⟩
    (try clear BK287)
    (try clear HB)
    generalize (((((((w36.setCell ⟨gb287, 0, none⟩ (.bool ((jC l1 x9_1).f0.f0))).setCell ⟨gb287, 1, none⟩ (.slice A286_1 ((jC l1 x9_1).f0.f1).length c286_1)).setCell ⟨gb287, 2, none⟩ (.slice A286_2 ((jC l1 x9_1).f0.f2).length c286_2)).setCell ⟨gb287, 3, none⟩ (.int .i64 ((jC l1 x9_1).f1.f0))).setCell ⟨gb287, 4, none⟩ (.int .i64 ((jC l1 x9_1).f1.f1))).setCell ⟨gb287, 5, none⟩ (.int .i64 ((jC l1 x9_1).f1.f2))).setCell ⟨gb287, 6, none⟩ (.int .i64 ((jC l1 x9_1).f1.f3))) = w38 at n0_ n1_ ⊢
    have BK287 := n0_
    have HB := n1_
    clear n0_ n1_
    have n0_ := jA.mk (jI BK287.out)
    have n1_ := jA.mk (vk HB.out)
    clear BK287
    clear HB
    have BK287 := n0_
    have HB := n1_
    clear n0_ n1_
    refine zw (n := 25) (S := fun w' => w'.cell? ⟨gb287, 0, none⟩ = some (.bool ((jC l1 x9_1).f0.f0)) ∧ w'.cell? ⟨gb287, 1, none⟩ = some (.slice A286_1 ((jC l1 x9_1).f0.f1).length c286_1) ∧ w'.cell? ⟨gb287, 2, none⟩ = some (.slice A286_2 ((jC l1 x9_1).f0.f2).length c286_2) ∧ w'.cell? ⟨gb287, 3, none⟩ = some (.int .i64 ((jC l1 x9_1).f1.f0)) ∧ w'.cell? ⟨gb287, 4, none⟩ = some (.int .i64 ((jC l1 x9_1).f1.f1)) ∧ w'.cell? ⟨gb287, 5, none⟩ = some (.int .i64 ((jC l1 x9_1).f1.f2)) ∧ w'.cell? ⟨gb287, 6, none⟩ = some (.int .i64 ((jC l1 x9_1).f1.f3))) (ds := []) #[false, false, false, false, false, false, false, false, false, false, false, false, false, false, false, false, false, false, false, false, false, false, false, false, false] kr_ rfl rfl ⟨(jB BK287.out 0).trans rfl, (jB BK287.out 1).trans rfl, (jB BK287.out 2).trans rfl, (jB BK287.out 3).trans rfl, (jB BK287.out 4).trans rfl, (jB BK287.out 5).trans rfl, (jB BK287.out 6).trans rfl⟩ (fun hHeld => ?_); refine qd jh.tab4 jh.jLT (fun HT_ HW_ => ?_)
    generalize w38.drew = w39 at BK287 HB hHeld ⊢
    refine tk7_ 0 (some 14) (ba_ 25 1) (ze HT_.out HW_.out kr_) hHeld ?_
    refine one_ (i := 1) (N := some 15) (ba_ 25 3) rfl rfl (qb HT_.out kr_) (by decide) (fun K hK => ?_)
    refine jAX Tryz.func44 kr_ rfl #[.agg #[.bool ((jC l1 x9_1).f0.f0), .slice A286_1 ((jC l1 x9_1).f0.f1).length c286_1, .slice A286_2 ((jC l1 x9_1).f0.f2).length c286_2, .int .i64 ((jC l1 x9_1).f1.f0), .int .i64 ((jC l1 x9_1).f1.f1), .int .i64 ((jC l1 x9_1).f1.f2), .int .i64 ((jC l1 x9_1).f1.f3)]] (by rfl) rfl rfl (by (try simp only [List.map_toArray, List.map_cons, List.map_nil]); first | done | rfl | (simp only [List.length_drop, List.length_take]; rfl)) ?_
    with_reducible refine (zx.calls k1 ((jC l1 x9_1).f0.f0) _ _ ((jC l1 x9_1).f0.f1) _ _ ((jC l1 x9_1).f0.f2) ((jC l1 x9_1).f1.f0) ((jC l1 x9_1).f1.f1) ((jC l1 x9_1).f1.f2) ((jC l1 x9_1).f1.f3) true _ ?side1 ?side2 ?side3 ?side4 A6.out).mono ?_
    (case side1 => exact cb_ HR286_1 HB)
    (case side2 => exact HC286_1.out)
    (case side3 => exact cb_ HR286_2 HB)
    (case side4 => exact HC286_2.out)
    rintro e w40 ⟨rfl, hb⟩
    refine ⟨_, rfl, ?_⟩
    have n0_ := bk_ BK287 hb
    have n1_ := jA.mk (jG (bb1_ HB GE287) hb)
    clear BK287
    clear HB
    have BK287 := n0_
    have HB := n1_
    clear n0_ n1_
    (try clear hb)
    (try clear hb2)
    (try clear hk)
    (try clear hi)
    refine hK.out _ _ ⟨(jB BK287.out 0).trans rfl, (jB BK287.out 1).trans rfl, (jB BK287.out 2).trans rfl, (jB BK287.out 3).trans rfl, (jB BK287.out 4).trans rfl, (jB BK287.out 5).trans rfl, (jB BK287.out 6).trans rfl⟩ (fun hHeld => ?_)
    clear hK K
    refine ns_ 15 ?_
    refine pu_ 2 (some 16) (ba_ 25 7) (jR HT_.out kr_) ?_
    refine pu_ 3 (some 17) (ba_ 25 15) (jR HT_.out kr_) ?_
    refine pu_ 4 (some 18) (ba_ 25 31) (jR HT_.out kr_) ?_
    refine tk7_ 5 (some 19) (ba_ 25 63) (ze HT_.out HW_.out kr_) hHeld ?_
    refine one_ (i := 6) (N := some 20) (ba_ 25 127) rfl rfl (qb HT_.out kr_) (by decide) (fun K hK => ?_)
    refine jAX Tryz.func45 kr_ rfl #[.agg #[.bool ((jC l1 x9_1).f0.f0), .slice A286_1 ((jC l1 x9_1).f0.f1).length c286_1, .slice A286_2 ((jC l1 x9_1).f0.f2).length c286_2]] (by rfl) rfl rfl (by (try simp only [List.map_toArray, List.map_cons, List.map_nil]); first | done | rfl | (simp only [List.length_drop, List.length_take]; rfl)) ?_
    with_reducible refine (zJ.calls ((jC l1 x9_1).f0.f0) _ _ ((jC l1 x9_1).f0.f1) _ _ ((jC l1 x9_1).f0.f2) false _ ?side1 ?side2 ?side3 ?side4 A8.out).mono ?_
    (case side1 => exact cb_ HR286_1 HB)
    (case side2 => exact HC286_1.out)
    (case side3 => exact cb_ HR286_2 HB)
    (case side4 => exact HC286_2.out)
    rintro e w41 ⟨rfl, hb⟩
    refine ⟨_, rfl, ?_⟩
    have n0_ := bk_ BK287 hb
    have n1_ := jA.mk (jG (bb1_ HB GE287) hb)
    clear BK287
    clear HB
    have BK287 := n0_
    have HB := n1_
    clear n0_ n1_
    (try clear hb)
    (try clear hb2)
    (try clear hk)
    (try clear hi)
    refine hK.out _ _ ⟨(jB BK287.out 0).trans rfl, (jB BK287.out 1).trans rfl, (jB BK287.out 2).trans rfl, (jB BK287.out 3).trans rfl, (jB BK287.out 4).trans rfl, (jB BK287.out 5).trans rfl, (jB BK287.out 6).trans rfl⟩ (fun hHeld => ?_)
    clear hK K
    refine ns_ 20 ?_
    refine pu_ 7 (some 21) (ba_ 25 255) (jR HT_.out kr_) ?_
    refine pu_ 8 (some 22) (ba_ 25 511) (jR HT_.out kr_) ?_
    refine pu_ 9 (some 23) (ba_ 25 1023) (jR HT_.out kr_) ?_
    refine pu_ 10 (some 24) (ba_ 25 2047) (jR HT_.out kr_) ?_
    refine pu_ 11 (some 25) (ba_ 25 4095) (jR HT_.out kr_) ?_
    refine zZ (i := 12) (N := some 26) (v := undef) (a' := ?_) (ba_ 25 8191) rfl rfl (jR HT_.out kr_) (fun _ _ _ h => h) (Or.inr ⟨by rfl, rfl⟩) ?_ ?_
    rotate_left
    ·
     simp only [Act.put, ss_, vF, vN]
     rfl
    refine zZ (i := 13) (N := some 27) (v := undef) (a' := ?_) (ba_ 25 16383) rfl rfl (jR HT_.out kr_) (fun _ _ _ h => h) (Or.inr ⟨by rfl, rfl⟩) ?_ ?_
    rotate_left
    ·
     simp only [Act.put, ss_, vF, vN]
     rfl
    refine zZ (i := 14) (N := some 28) (v := undef) (a' := ?_) (ba_ 25 32767) rfl rfl (jR HT_.out kr_) (fun _ _ _ h => h) (Or.inr ⟨by rfl, rfl⟩) ?_ ?_
    rotate_left
    ·
     simp only [Act.put, ss_, vF, vN]
     rfl
    refine zZ (i := 15) (N := some 29) (v := undef) (a' := ?_) (ba_ 25 65535) rfl rfl (jR HT_.out kr_) (fun _ _ _ h => h) (Or.inr ⟨by rfl, rfl⟩) ?_ ?_
    rotate_left
    ·
     simp only [Act.put, ss_, vF, vN]
     rfl
    refine zZ (i := 16) (N := some 30) (v := undef) (a' := ?_) (ba_ 25 131071) rfl rfl (jR HT_.out kr_) (fun _ _ _ h => h) (Or.inr ⟨by rfl, rfl⟩) ?_ ?_
    rotate_left
    ·
     simp only [Act.put, ss_, vF, vN]
     rfl
    refine zZ (i := 17) (N := some 31) (v := undef) (a' := ?_) (ba_ 25 262143) rfl rfl (jR HT_.out kr_) (fun _ _ _ h => h) (Or.inr ⟨by rfl, rfl⟩) ?_ ?_
    rotate_left
    ·
     simp only [Act.put, ss_, vF, vN]
     rfl
    refine zZ (i := 18) (N := some 32) (v := undef) (a' := ?_) (ba_ 25 524287) rfl rfl (jR HT_.out kr_) (fun _ _ _ h => h) (Or.inr ⟨by rfl, rfl⟩) ?_ ?_
    rotate_left
    ·
     simp only [Act.put, ss_, vF, vN]
     rfl
    refine zZ (i := 19) (N := some 33) (v := undef) (a' := ?_) (ba_ 25 1048575) rfl rfl (jR HT_.out kr_) (fun _ _ _ h => h) (Or.inr ⟨by rfl, rfl⟩) ?_ ?_
    rotate_left
    ·
     simp only [Act.put, ss_, vF, vN]
     rfl
    refine zZ (i := 20) (N := some 34) (v := undef) (a' := ?_) (ba_ 25 2097151) rfl rfl (jR HT_.out kr_) (fun _ _ _ h => h) (Or.inr ⟨by rfl, rfl⟩) ?_ ?_
    rotate_left
    ·
     simp only [Act.put, ss_, vF, vN]
     rfl
    refine zZ (i := 21) (N := some 35) (v := undef) (a' := ?_) (ba_ 25 4194303) rfl rfl (jR HT_.out kr_) (fun _ _ _ h => h) (Or.inr ⟨by rfl, rfl⟩) ?_ ?_
    rotate_left
    ·
     simp only [Act.put, ss_, vF, vN]
     rfl
    refine zZ (i := 22) (N := some 36) (v := undef) (a' := ?_) (ba_ 25 8388607) rfl rfl (jR HT_.out kr_) (fun _ _ _ h => h) (Or.inr ⟨by rfl, rfl⟩) ?_ ?_
    rotate_left
    ·
     simp only [Act.put, ss_, vF, vN]
     rfl
    refine pu_ 23 (some 37) (ba_ 25 16777215) (jR HT_.out kr_) ?_
    refine pu_ 24 (some 38) (ba_ 25 33554431) (jR HT_.out kr_) ?_
    refine jAR (jBG HT_.out kr_) ?_
    try go_wp2
    go_roundg k1
    case measure => have := HK1.out; omega
    case rel => exact ⟨(wrap64 (x9_1 + 1)), sd_, H', ⟨by have := HK1.out; omega⟩, ⟨(bb1_ HB GE287)⟩⟩
   rw [if_pos c16] at H
   have c16b0 := decide_eq_true c16
   clear c16
   obtain ⟨ji17, hji17⟩ : ∃ j_ : Int, (wrap64 (x9_1 - 1)) = j_ := ⟨_, rfl⟩
   replace H : (if 0 ≤ (ji17) then (if (ji17) < (l1.length : Int) then ((jBC.f a0 ((jC l1 (ji17)).f1.f0) ((jC l1 (ji17)).f1.f1) ((jC l1 (ji17)).f1.f2) ((jC l1 (ji17)).f1.f3) ((jC l1 x9_1).f1.f0) ((jC l1 x9_1).f1.f1) ((jC l1 x9_1).f1.f2) ((jC l1 x9_1).f1.f3)).bind fun t291 => (if t291 ≤ 0 then (some false) else (jh.l0 k1 a0 l1 l1 (l1.length : Int) (wrap64 (x9_1 + 1))))) else (none)) else (none)) = some r := by first | (rw [hji17] at H; exact H) | (simp only [hji17] at H ⊢; exact H)
   (try rw [hji17] at A6)
   (try rw [hji17] at A8)
   have hji17w : (IntKind.i64.wrap (x9_1 - 1)) = ji17 := (vF _).trans hji17
   by_cases c18 : 0 ≤ (ji17)
   rotate_left
   ·
    rw [if_neg c18] at H
    exact absurd H (by simp)
   rw [if_pos c18] at H
   have c18b0 := decide_eq_true c18
   clear c18
   by_cases c19 : (ji17) < (l1.length : Int)
   rotate_left
   ·
    rw [if_neg c19] at H
    exact absurd H (by simp)
   rw [if_pos c19] at H
   have c19b0 := decide_eq_true c19
   clear c19
   obtain ⟨t291, A20, H⟩ := oc_ H
   try dsimp only at H
   by_cases c21 : t291 ≤ 0
   ·
    rw [if_pos c21] at H
    have c21b0 := decide_eq_true c21
    clear c21
    obtain rfl := Option.some.inj H
    have p286 : 0 ≤ (x9_1 : Int) := of_decide_eq_true am_
    have q286 : x9_1 < (l1.length : Int) := of_decide_eq_true am_
    obtain ⟨ad286, A286_1, c286_1, A286_2, c286_2, e286, hx286_0, hx286_1, hx286_2, hx286_3, hx286_4, hx286_5, hx286_6, hl286_1, hi286_1, hl286_2, hi286_2⟩ := jDD HR1.out x9_1 p286 q286
    cases e286
    replace hx286_0 := (HB.out.cell (World.block_lt_of_cell? w _ hx286_0)).trans hx286_0
    replace hx286_1 := (HB.out.cell (World.block_lt_of_cell? w _ hx286_1)).trans hx286_1
    replace hx286_2 := (HB.out.cell (World.block_lt_of_cell? w _ hx286_2)).trans hx286_2
    replace hx286_3 := (HB.out.cell (World.block_lt_of_cell? w _ hx286_3)).trans hx286_3
    replace hx286_4 := (HB.out.cell (World.block_lt_of_cell? w _ hx286_4)).trans hx286_4
    replace hx286_5 := (HB.out.cell (World.block_lt_of_cell? w _ hx286_5)).trans hx286_5
    replace hx286_6 := (HB.out.cell (World.block_lt_of_cell? w _ hx286_6)).trans hx286_6
    have HR286_1 := jA.mk hi286_1
    have HC286_1 := jA.mk hl286_1
    clear hi286_1 hl286_1
    have HR286_2 := jA.mk hi286_2
    have HC286_2 := jA.mk hl286_2
    clear hi286_2 hl286_2
    replace p286 := eq_true p286
    replace q286 := eq_true q286
    try go_wp2_with (first | ((with_reducible refine jl (N := 6) rfl ?_); (try (refine jg (by rfl) ?_; dsimp only)); refine bx_ 6 #[.bool false, .slice none 0 0, .slice none 0 0, .int .i64 0, .int .i64 0, .int .i64 0, .int .i64 0] 37 ?_; intro gb287 hg w22 hbox hb; have BK287 := jA.mk (hbox); have GW287 := jA.mk ((by rw [hg]; exact (jE (bb_ HB)) : w.heap.size ≤ gb287)); have GE287 := GW287; replace HB := bs_ HB hb; clear hb hbox hg; obtain ⟨hcz23_0, hcz23_1, hcz23_2, hcz23_3, hcz23_4, hcz23_5, hcz23_6, hfz23_0, hfz23_1, hfz23_2, hfz23_3, hfz23_4, hfz23_5, hfz23_6⟩ := bf7_ BK287))
    have n0_ : jA ((((((((w22.setCell ⟨gb287, 0, none⟩ (.bool ((jC l1 x9_1).f0.f0))).setCell ⟨gb287, 1, none⟩ (.slice A286_1 ((jC l1 x9_1).f0.f1).length c286_1)).setCell ⟨gb287, 2, none⟩ (.slice A286_2 ((jC l1 x9_1).f0.f2).length c286_2)).setCell ⟨gb287, 3, none⟩ (.int .i64 ((jC l1 x9_1).f1.f0))).setCell ⟨gb287, 4, none⟩ (.int .i64 ((jC l1 x9_1).f1.f1))).setCell ⟨gb287, 5, none⟩ (.int .i64 ((jC l1 x9_1).f1.f2))).setCell ⟨gb287, 6, none⟩ (.int .i64 ((jC l1 x9_1).f1.f3))).heap[gb287]? = some (.cells #[.bool ((jC l1 x9_1).f0.f0), .slice A286_1 ((jC l1 x9_1).f0.f1).length c286_1, .slice A286_2 ((jC l1 x9_1).f0.f2).length c286_2, .int .i64 ((jC l1 x9_1).f1.f0), .int .i64 ((jC l1 x9_1).f1.f1), .int .i64 ((jC l1 x9_1).f1.f2), .int .i64 ((jC l1 x9_1).f1.f3)] 37 (0, 0))) := ⟨by (with_reducible repeat (first | refine qR ?_ _ | refine jI ?_ | refine jO ?_ _)); refine jM (cs := #[.bool ((jC l1 x9_1).f0.f0), .slice A286_1 ((jC l1 x9_1).f0.f1).length c286_1, .slice A286_2 ((jC l1 x9_1).f0.f2).length c286_2, .int .i64 ((jC l1 x9_1).f1.f0), .int .i64 ((jC l1 x9_1).f1.f1), .int .i64 ((jC l1 x9_1).f1.f2), .int .i64 0]) ?_ 6 _ rs_; refine pk_ ?_; refine jM (cs := #[.bool ((jC l1 x9_1).f0.f0), .slice A286_1 ((jC l1 x9_1).f0.f1).length c286_1, .slice A286_2 ((jC l1 x9_1).f0.f2).length c286_2, .int .i64 ((jC l1 x9_1).f1.f0), .int .i64 ((jC l1 x9_1).f1.f1), .int .i64 0, .int .i64 0]) ?_ 5 _ rs_; refine pk_ ?_; refine jM (cs := #[.bool ((jC l1 x9_1).f0.f0), .slice A286_1 ((jC l1 x9_1).f0.f1).length c286_1, .slice A286_2 ((jC l1 x9_1).f0.f2).length c286_2, .int .i64 ((jC l1 x9_1).f1.f0), .int .i64 0, .int .i64 0, .int .i64 0]) ?_ 4 _ rs_; refine pk_ ?_; refine jM (cs := #[.bool ((jC l1 x9_1).f0.f0), .slice A286_1 ((jC l1 x9_1).f0.f1).length c286_1, .slice A286_2 ((jC l1 x9_1).f0.f2).length c286_2, .int .i64 0, .int .i64 0, .int .i64 0, .int .i64 0]) ?_ 3 _ rs_; refine pk_ ?_; refine jM (cs := #[.bool ((jC l1 x9_1).f0.f0), .slice A286_1 ((jC l1 x9_1).f0.f1).length c286_1, .slice none 0 0, .int .i64 0, .int .i64 0, .int .i64 0, .int .i64 0]) ?_ 2 _ rs_; refine pk_ ?_; refine jM (cs := #[.bool ((jC l1 x9_1).f0.f0), .slice none 0 0, .slice none 0 0, .int .i64 0, .int .i64 0, .int .i64 0, .int .i64 0]) ?_ 1 _ rs_; refine pk_ ?_; refine jM (cs := #[.bool false, .slice none 0 0, .slice none 0 0, .int .i64 0, .int .i64 0, .int .i64 0, .int .i64 0]) ?_ 0 _ rs_; refine pk_ ?_; exact BK287.out⟩
    have n1_ : jA (Below w.heap.size w (((((((w22.setCell ⟨gb287, 0, none⟩ (.bool ((jC l1 x9_1).f0.f0))).setCell ⟨gb287, 1, none⟩ (.slice A286_1 ((jC l1 x9_1).f0.f1).length c286_1)).setCell ⟨gb287, 2, none⟩ (.slice A286_2 ((jC l1 x9_1).f0.f2).length c286_2)).setCell ⟨gb287, 3, none⟩ (.int .i64 ((jC l1 x9_1).f1.f0))).setCell ⟨gb287, 4, none⟩ (.int .i64 ((jC l1 x9_1).f1.f1))).setCell ⟨gb287, 5, none⟩ (.int .i64 ((jC l1 x9_1).f1.f2))).setCell ⟨gb287, 6, none⟩ (.int .i64 ((jC l1 x9_1).f1.f3)))) := ⟨(bb1_ HB GE287)⟩
    (try clear BK287)
    (try clear HB)
    generalize (((((((w22.setCell ⟨gb287, 0, none⟩ (.bool ((jC l1 x9_1).f0.f0))).setCell ⟨gb287, 1, none⟩ (.slice A286_1 ((jC l1 x9_1).f0.f1).length c286_1)).setCell ⟨gb287, 2, none⟩ (.slice A286_2 ((jC l1 x9_1).f0.f2).length c286_2)).setCell ⟨gb287, 3, none⟩ (.int .i64 ((jC l1 x9_1).f1.f0))).setCell ⟨gb287, 4, none⟩ (.int .i64 ((jC l1 x9_1).f1.f1))).setCell ⟨gb287, 5, none⟩ (.int .i64 ((jC l1 x9_1).f1.f2))).setCell ⟨gb287, 6, none⟩ (.int .i64 ((jC l1 x9_1).f1.f3))) = w24 at n0_ n1_ ⊢
    have BK287 := n0_
    have HB := n1_
    clear n0_ n1_
    have n0_ := jA.mk (jI BK287.out)
    have n1_ := jA.mk (vk HB.out)
    clear BK287
    clear HB
    have BK287 := n0_
    have HB := n1_
    clear n0_ n1_
    have p290 : 0 ≤ ((ji17) : Int) := of_decide_eq_true am_
    have q290 : (ji17) < (l1.length : Int) := of_decide_eq_true am_
    obtain ⟨ad290, A290_1, c290_1, A290_2, c290_2, e290, hx290_0, hx290_1, hx290_2, hx290_3, hx290_4, hx290_5, hx290_6, hl290_1, hi290_1, hl290_2, hi290_2⟩ := jDD HR1.out (ji17) p290 q290
    have hw290_6 := hx290_6
    have hw290_5 := hx290_5
    have hw290_4 := hx290_4
    have hw290_3 := hx290_3
    have hw290_2 := hx290_2
    have hw290_1 := hx290_1
    have hw290_0 := hx290_0
    obtain rfl : ad286 = ad290 := (by injection e290)
    replace hx290_0 := (HB.out.cell (World.block_lt_of_cell? w _ hx290_0)).trans hx290_0
    replace hx290_1 := (HB.out.cell (World.block_lt_of_cell? w _ hx290_1)).trans hx290_1
    replace hx290_2 := (HB.out.cell (World.block_lt_of_cell? w _ hx290_2)).trans hx290_2
    replace hx290_3 := (HB.out.cell (World.block_lt_of_cell? w _ hx290_3)).trans hx290_3
    replace hx290_4 := (HB.out.cell (World.block_lt_of_cell? w _ hx290_4)).trans hx290_4
    replace hx290_5 := (HB.out.cell (World.block_lt_of_cell? w _ hx290_5)).trans hx290_5
    replace hx290_6 := (HB.out.cell (World.block_lt_of_cell? w _ hx290_6)).trans hx290_6
    have HR290_1 := jA.mk hi290_1
    have HC290_1 := jA.mk hl290_1
    clear hi290_1 hl290_1
    have HR290_2 := jA.mk hi290_2
    have HC290_2 := jA.mk hl290_2
    clear hi290_2 hl290_2
    replace p290 := eq_true p290
    replace q290 := eq_true q290
    refine zw (n := 25) (S := fun w' => w'.cell? ⟨gb287, 0, none⟩ = some (.bool ((jC l1 x9_1).f0.f0)) ∧ w'.cell? ⟨gb287, 1, none⟩ = some (.slice A286_1 ((jC l1 x9_1).f0.f1).length c286_1) ∧ w'.cell? ⟨gb287, 2, none⟩ = some (.slice A286_2 ((jC l1 x9_1).f0.f2).length c286_2) ∧ w'.cell? ⟨gb287, 3, none⟩ = some (.int .i64 ((jC l1 x9_1).f1.f0)) ∧ w'.cell? ⟨gb287, 4, none⟩ = some (.int .i64 ((jC l1 x9_1).f1.f1)) ∧ w'.cell? ⟨gb287, 5, none⟩ = some (.int .i64 ((jC l1 x9_1).f1.f2)) ∧ w'.cell? ⟨gb287, 6, none⟩ = some (.int .i64 ((jC l1 x9_1).f1.f3)) ∧ w'.cell? (ad286.add (((ji17)).toNat * 7)) = some (.bool ((jC l1 (ji17)).f0.f0)) ∧ w'.cell? ⟨(ad286.add (((ji17)).toNat * 7)).block, (ad286.add (((ji17)).toNat * 7)).off + 1, none⟩ = some (.slice A290_1 ((jC l1 (ji17)).f0.f1).length c290_1) ∧ w'.cell? ⟨(ad286.add (((ji17)).toNat * 7)).block, (ad286.add (((ji17)).toNat * 7)).off + 2, none⟩ = some (.slice A290_2 ((jC l1 (ji17)).f0.f2).length c290_2) ∧ w'.cell? ⟨(ad286.add (((ji17)).toNat * 7)).block, (ad286.add (((ji17)).toNat * 7)).off + 3, none⟩ = some (.int .i64 ((jC l1 (ji17)).f1.f0)) ∧ w'.cell? ⟨(ad286.add (((ji17)).toNat * 7)).block, (ad286.add (((ji17)).toNat * 7)).off + 4, none⟩ = some (.int .i64 ((jC l1 (ji17)).f1.f1)) ∧ w'.cell? ⟨(ad286.add (((ji17)).toNat * 7)).block, (ad286.add (((ji17)).toNat * 7)).off + 5, none⟩ = some (.int .i64 ((jC l1 (ji17)).f1.f2)) ∧ w'.cell? ⟨(ad286.add (((ji17)).toNat * 7)).block, (ad286.add (((ji17)).toNat * 7)).off + 6, none⟩ = some (.int .i64 ((jC l1 (ji17)).f1.f3))) (ds := []) #[false, false, false, false, false, false, false, false, false, false, false, false, false, false, false, false, false, false, false, false, false, false, false, false, false] kr_ rfl rfl ⟨(jB BK287.out 0).trans rfl, (jB BK287.out 1).trans rfl, (jB BK287.out 2).trans rfl, (jB BK287.out 3).trans rfl, (jB BK287.out 4).trans rfl, (jB BK287.out 5).trans rfl, (jB BK287.out 6).trans rfl, ((HB.out.cell (World.block_lt_of_cell? w _ hw290_0)).trans hw290_0), ((HB.out.cell (World.block_lt_of_cell? w _ hw290_1)).trans hw290_1), ((HB.out.cell (World.block_lt_of_cell? w _ hw290_2)).trans hw290_2), ((HB.out.cell (World.block_lt_of_cell? w _ hw290_3)).trans hw290_3), ((HB.out.cell (World.block_lt_of_cell? w _ hw290_4)).trans hw290_4), ((HB.out.cell (World.block_lt_of_cell? w _ hw290_5)).trans hw290_5), ((HB.out.cell (World.block_lt_of_cell? w _ hw290_6)).trans hw290_6)⟩ (fun hHeld => ?_); refine qd jh.tab4 jh.jLT (fun HT_ HW_ => ?_)
    generalize w24.drew = w25 at BK287 HB HR290_1 HR290_2 hx290_0 hx290_1 hx290_2 hx290_3 hx290_4 hx290_5 hx290_6 hHeld ⊢
    refine jFt 0 (some 14) (ba_ 25 1) (ze HT_.out HW_.out kr_) hHeld ?_
    refine one_ (i := 1) (N := some 15) (ba_ 25 3) rfl rfl (qb HT_.out kr_) (by decide) (fun K hK => ?_)
    refine jAX Tryz.func44 kr_ rfl #[.agg #[.bool ((jC l1 x9_1).f0.f0), .slice A286_1 ((jC l1 x9_1).f0.f1).length c286_1, .slice A286_2 ((jC l1 x9_1).f0.f2).length c286_2, .int .i64 ((jC l1 x9_1).f1.f0), .int .i64 ((jC l1 x9_1).f1.f1), .int .i64 ((jC l1 x9_1).f1.f2), .int .i64 ((jC l1 x9_1).f1.f3)]] (by rfl) rfl rfl (by (try simp only [List.map_toArray, List.map_cons, List.map_nil]); first | done | rfl | (simp only [List.length_drop, List.length_take]; rfl)) ?_
    with_reducible refine (zx.calls k1 ((jC l1 x9_1).f0.f0) _ _ ((jC l1 x9_1).f0.f1) _ _ ((jC l1 x9_1).f0.f2) ((jC l1 x9_1).f1.f0) ((jC l1 x9_1).f1.f1) ((jC l1 x9_1).f1.f2) ((jC l1 x9_1).f1.f3) true _ ?side1 ?side2 ?side3 ?side4 A6.out).mono ?_
    (case side1 => exact cb_ HR286_1 HB)
    (case side2 => exact HC286_1.out)
    (case side3 => exact cb_ HR286_2 HB)
    (case side4 => exact HC286_2.out)
    rintro e w26 ⟨rfl, hb⟩
    refine ⟨_, rfl, ?_⟩
    have n0_ := bk_ BK287 hb
    have n1_ := jA.mk (jG (bb1_ HB GE287) hb)
    clear BK287
    clear HB
    have BK287 := n0_
    have HB := n1_
    clear n0_ n1_
    (try clear hb)
    (try clear hb2)
    (try clear hk)
    (try clear hi)
    refine hK.out _ _ ⟨(jB BK287.out 0).trans rfl, (jB BK287.out 1).trans rfl, (jB BK287.out 2).trans rfl, (jB BK287.out 3).trans rfl, (jB BK287.out 4).trans rfl, (jB BK287.out 5).trans rfl, (jB BK287.out 6).trans rfl, ((HB.out.cell (World.block_lt_of_cell? w _ hw290_0)).trans hw290_0), ((HB.out.cell (World.block_lt_of_cell? w _ hw290_1)).trans hw290_1), ((HB.out.cell (World.block_lt_of_cell? w _ hw290_2)).trans hw290_2), ((HB.out.cell (World.block_lt_of_cell? w _ hw290_3)).trans hw290_3), ((HB.out.cell (World.block_lt_of_cell? w _ hw290_4)).trans hw290_4), ((HB.out.cell (World.block_lt_of_cell? w _ hw290_5)).trans hw290_5), ((HB.out.cell (World.block_lt_of_cell? w _ hw290_6)).trans hw290_6)⟩ (fun hHeld => ?_)
    clear hK K
    refine ns_ 15 ?_
    refine pu_ 2 (some 16) (ba_ 25 7) (jR HT_.out kr_) ?_
    refine pu_ 3 (some 17) (ba_ 25 15) (jR HT_.out kr_) ?_
    refine pu_ 4 (some 18) (ba_ 25 31) (jR HT_.out kr_) ?_
    refine jFt 5 (some 19) (ba_ 25 63) (ze HT_.out HW_.out kr_) hHeld ?_
    refine one_ (i := 6) (N := some 20) (ba_ 25 127) rfl rfl (qb HT_.out kr_) (by decide) (fun K hK => ?_)
    refine jAX Tryz.func45 kr_ rfl #[.agg #[.bool ((jC l1 x9_1).f0.f0), .slice A286_1 ((jC l1 x9_1).f0.f1).length c286_1, .slice A286_2 ((jC l1 x9_1).f0.f2).length c286_2]] (by rfl) rfl rfl (by (try simp only [List.map_toArray, List.map_cons, List.map_nil]); first | done | rfl | (simp only [List.length_drop, List.length_take]; rfl)) ?_
    with_reducible refine (zJ.calls ((jC l1 x9_1).f0.f0) _ _ ((jC l1 x9_1).f0.f1) _ _ ((jC l1 x9_1).f0.f2) false _ ?side1 ?side2 ?side3 ?side4 A8.out).mono ?_
    (case side1 => exact cb_ HR286_1 HB)
    (case side2 => exact HC286_1.out)
    (case side3 => exact cb_ HR286_2 HB)
    (case side4 => exact HC286_2.out)
    rintro e w27 ⟨rfl, hb⟩
    refine ⟨_, rfl, ?_⟩
    have n0_ := bk_ BK287 hb
    have n1_ := jA.mk (jG (bb1_ HB GE287) hb)
    clear BK287
    clear HB
    have BK287 := n0_
    have HB := n1_
    clear n0_ n1_
    (try clear hb)
    (try clear hb2)
    (try clear hk)
    (try clear hi)
    refine hK.out _ _ ⟨(jB BK287.out 0).trans rfl, (jB BK287.out 1).trans rfl, (jB BK287.out 2).trans rfl, (jB BK287.out 3).trans rfl, (jB BK287.out 4).trans rfl, (jB BK287.out 5).trans rfl, (jB BK287.out 6).trans rfl, ((HB.out.cell (World.block_lt_of_cell? w _ hw290_0)).trans hw290_0), ((HB.out.cell (World.block_lt_of_cell? w _ hw290_1)).trans hw290_1), ((HB.out.cell (World.block_lt_of_cell? w _ hw290_2)).trans hw290_2), ((HB.out.cell (World.block_lt_of_cell? w _ hw290_3)).trans hw290_3), ((HB.out.cell (World.block_lt_of_cell? w _ hw290_4)).trans hw290_4), ((HB.out.cell (World.block_lt_of_cell? w _ hw290_5)).trans hw290_5), ((HB.out.cell (World.block_lt_of_cell? w _ hw290_6)).trans hw290_6)⟩ (fun hHeld => ?_)
    clear hK K
    refine ns_ 20 ?_
    refine pu_ 7 (some 21) (ba_ 25 255) (jR HT_.out kr_) ?_
    refine pu_ 8 (some 22) (ba_ 25 511) (jR HT_.out kr_) ?_
    refine pu_ 9 (some 23) (ba_ 25 1023) (jR HT_.out kr_) ?_
    refine pu_ 10 (some 24) (ba_ 25 2047) (jR HT_.out kr_) ?_
    refine pu_ 11 (some 25) (ba_ 25 4095) (jR HT_.out kr_) ?_
    refine pu_ 12 (some 26) (ba_ 25 8191) (jR HT_.out kr_) ?_
    refine pu_ 13 (some 27) (ba_ 25 16383) (jR HT_.out kr_) ?_
    refine pu_ 14 (some 28) (ba_ 25 32767) (jR HT_.out kr_) ?_
    refine pu_ 15 (some 29) (ba_ 25 65535) (jR HT_.out kr_) ?_
    refine pu_ 16 (some 30) (ba_ 25 131071) (jR HT_.out kr_) ?_
    refine pu_ 17 (some 31) (ba_ 25 262143) (jR HT_.out kr_) ?_
    refine pu_ 19 (some 33) (ba_ 25 786431) (jR HT_.out kr_) ?_
    refine jFt 18 (some 32) (ba_ 25 1048575) (ze HT_.out HW_.out kr_) hHeld ?_
    refine jFt 20 (some 34) (ba_ 25 2097151) (ze HT_.out HW_.out kr_) hHeld ?_
    refine one_ (i := 21) (N := some 35) (ba_ 25 4194303) rfl rfl (qb HT_.out kr_) (by decide) (fun K hK => ?_)
    refine jAX Tryz.func46 kr_ rfl #[.int .i64 a0, .agg #[.int .i64 ((jC l1 (ji17)).f1.f0), .int .i64 ((jC l1 (ji17)).f1.f1), .int .i64 ((jC l1 (ji17)).f1.f2), .int .i64 ((jC l1 (ji17)).f1.f3)], .agg #[.int .i64 ((jC l1 x9_1).f1.f0), .int .i64 ((jC l1 x9_1).f1.f1), .int .i64 ((jC l1 x9_1).f1.f2), .int .i64 ((jC l1 x9_1).f1.f3)]] (by rfl) rfl rfl (by (try simp only [List.map_toArray, List.map_cons, List.map_nil]); first | done | (simp only [hji17]; rfl) | rfl | (simp only [List.length_drop, List.length_take]; rfl)) ?_
    with_reducible refine (jBC.calls a0 ((jC l1 (ji17)).f1.f0) ((jC l1 (ji17)).f1.f1) ((jC l1 (ji17)).f1.f2) ((jC l1 (ji17)).f1.f3) ((jC l1 x9_1).f1.f0) ((jC l1 x9_1).f1.f1) ((jC l1 x9_1).f1.f2) ((jC l1 x9_1).f1.f3) t291 _ A20.out).mono ?_
    rintro e w28 ⟨rfl, hb⟩
    refine ⟨_, rfl, ?_⟩
    have n0_ := bk_ BK287 hb
    have n1_ := jA.mk (jG (bb1_ HB GE287) hb)
    clear BK287
    clear HB
    have BK287 := n0_
    have HB := n1_
    clear n0_ n1_
    (try clear hb)
    (try clear hb2)
    (try clear hk)
    (try clear hi)
    refine hK.out _ _ ⟨(jB BK287.out 0).trans rfl, (jB BK287.out 1).trans rfl, (jB BK287.out 2).trans rfl, (jB BK287.out 3).trans rfl, (jB BK287.out 4).trans rfl, (jB BK287.out 5).trans rfl, (jB BK287.out 6).trans rfl, ((HB.out.cell (World.block_lt_of_cell? w _ hw290_0)).trans hw290_0), ((HB.out.cell (World.block_lt_of_cell? w _ hw290_1)).trans hw290_1), ((HB.out.cell (World.block_lt_of_cell? w _ hw290_2)).trans hw290_2), ((HB.out.cell (World.block_lt_of_cell? w _ hw290_3)).trans hw290_3), ((HB.out.cell (World.block_lt_of_cell? w _ hw290_4)).trans hw290_4), ((HB.out.cell (World.block_lt_of_cell? w _ hw290_5)).trans hw290_5), ((HB.out.cell (World.block_lt_of_cell? w _ hw290_6)).trans hw290_6)⟩ (fun hHeld => ?_)
    clear hK K
    refine ns_ 35 ?_
    refine pu_ 22 (some 36) (ba_ 25 8388607) (jR HT_.out kr_) ?_
    refine pu_ 23 (some 37) (ba_ 25 16777215) (jR HT_.out kr_) ?_
    refine pu_ 24 (some 38) (ba_ 25 33554431) (jR HT_.out kr_) ?_
    refine jAR (jBG HT_.out kr_) ?_
    try go_wp2
    go_ret
    exact ⟨by first | rfl | (simp [vM, vL] <;> rfl) | (simp only [← hji17]; first | rfl | (simp [vM, vL] <;> rfl)) | (simp [*, vM, vL] <;> rfl), (bb1_ HB GE287)⟩
   rw [if_neg c21] at H
   have c21b0 := decide_eq_false c21
   clear c21
   have H' := jA.mk H
   clear H
   have p286 : 0 ≤ (x9_1 : Int) := of_decide_eq_true am_
   have q286 : x9_1 < (l1.length : Int) := of_decide_eq_true am_
   obtain ⟨ad286, A286_1, c286_1, A286_2, c286_2, e286, hx286_0, hx286_1, hx286_2, hx286_3, hx286_4, hx286_5, hx286_6, hl286_1, hi286_1, hl286_2, hi286_2⟩ := jDD HR1.out x9_1 p286 q286
   cases e286
   replace hx286_0 := (HB.out.cell (World.block_lt_of_cell? w _ hx286_0)).trans hx286_0
   replace hx286_1 := (HB.out.cell (World.block_lt_of_cell? w _ hx286_1)).trans hx286_1
   replace hx286_2 := (HB.out.cell (World.block_lt_of_cell? w _ hx286_2)).trans hx286_2
   replace hx286_3 := (HB.out.cell (World.block_lt_of_cell? w _ hx286_3)).trans hx286_3
   replace hx286_4 := (HB.out.cell (World.block_lt_of_cell? w _ hx286_4)).trans hx286_4
   replace hx286_5 := (HB.out.cell (World.block_lt_of_cell? w _ hx286_5)).trans hx286_5
   replace hx286_6 := (HB.out.cell (World.block_lt_of_cell? w _ hx286_6)).trans hx286_6
   have HR286_1 := jA.mk hi286_1
   have HC286_1 := jA.mk hl286_1
   clear hi286_1 hl286_1
   have HR286_2 := jA.mk hi286_2
   have HC286_2 := jA.mk hl286_2
   clear hi286_2 hl286_2
   replace p286 := eq_true p286
   replace q286 := eq_true q286
   try go_wp2_with (first | ((with_reducible refine jl (N := 6) rfl ?_); (try (refine jg (by rfl) ?_; dsimp only)); refine bx_ 6 #[.bool false, .slice none 0 0, .slice none 0 0, .int .i64 0, .int .i64 0, .int .i64 0, .int .i64 0] 37 ?_; intro gb287 hg w29 hbox hb; have BK287 := jA.mk (hbox); have GW287 := jA.mk ((by rw [hg]; exact (jE (bb_ HB)) : w.heap.size ≤ gb287)); have GE287 := GW287; replace HB := bs_ HB hb; clear hb hbox hg; obtain ⟨hcz30_0, hcz30_1, hcz30_2, hcz30_3, hcz30_4, hcz30_5, hcz30_6, hfz30_0, hfz30_1, hfz30_2, hfz30_3, hfz30_4, hfz30_5, hfz30_6⟩ := bf7_ BK287))
   have n0_ : jA ((((((((w29.setCell ⟨gb287, 0, none⟩ (.bool ((jC l1 x9_1).f0.f0))).setCell ⟨gb287, 1, none⟩ (.slice A286_1 ((jC l1 x9_1).f0.f1).length c286_1)).setCell ⟨gb287, 2, none⟩ (.slice A286_2 ((jC l1 x9_1).f0.f2).length c286_2)).setCell ⟨gb287, 3, none⟩ (.int .i64 ((jC l1 x9_1).f1.f0))).setCell ⟨gb287, 4, none⟩ (.int .i64 ((jC l1 x9_1).f1.f1))).setCell ⟨gb287, 5, none⟩ (.int .i64 ((jC l1 x9_1).f1.f2))).setCell ⟨gb287, 6, none⟩ (.int .i64 ((jC l1 x9_1).f1.f3))).heap[gb287]? = some (.cells #[.bool ((jC l1 x9_1).f0.f0), .slice A286_1 ((jC l1 x9_1).f0.f1).length c286_1, .slice A286_2 ((jC l1 x9_1).f0.f2).length c286_2, .int .i64 ((jC l1 x9_1).f1.f0), .int .i64 ((jC l1 x9_1).f1.f1), .int .i64 ((jC l1 x9_1).f1.f2), .int .i64 ((jC l1 x9_1).f1.f3)] 37 (0, 0))) := ⟨by (with_reducible repeat (first | refine qR ?_ _ | refine jI ?_ | refine jO ?_ _)); refine jM (cs := #[.bool ((jC l1 x9_1).f0.f0), .slice A286_1 ((jC l1 x9_1).f0.f1).length c286_1, .slice A286_2 ((jC l1 x9_1).f0.f2).length c286_2, .int .i64 ((jC l1 x9_1).f1.f0), .int .i64 ((jC l1 x9_1).f1.f1), .int .i64 ((jC l1 x9_1).f1.f2), .int .i64 0]) ?_ 6 _ rs_; refine pk_ ?_; refine jM (cs := #[.bool ((jC l1 x9_1).f0.f0), .slice A286_1 ((jC l1 x9_1).f0.f1).length c286_1, .slice A286_2 ((jC l1 x9_1).f0.f2).length c286_2, .int .i64 ((jC l1 x9_1).f1.f0), .int .i64 ((jC l1 x9_1).f1.f1), .int .i64 0, .int .i64 0]) ?_ 5 _ rs_; refine pk_ ?_; refine jM (cs := #[.bool ((jC l1 x9_1).f0.f0), .slice A286_1 ((jC l1 x9_1).f0.f1).length c286_1, .slice A286_2 ((jC l1 x9_1).f0.f2).length c286_2, .int .i64 ((jC l1 x9_1).f1.f0), .int .i64 0, .int .i64 0, .int .i64 0]) ?_ 4 _ rs_; refine pk_ ?_; refine jM (cs := #[.bool ((jC l1 x9_1).f0.f0), .slice A286_1 ((jC l1 x9_1).f0.f1).length c286_1, .slice A286_2 ((jC l1 x9_1).f0.f2).length c286_2, .int .i64 0, .int .i64 0, .int .i64 0, .int .i64 0]) ?_ 3 _ rs_; refine pk_ ?_; refine jM (cs := #[.bool ((jC l1 x9_1).f0.f0), .slice A286_1 ((jC l1 x9_1).f0.f1).length c286_1, .slice none 0 0, .int .i64 0, .int .i64 0, .int .i64 0, .int .i64 0]) ?_ 2 _ rs_; refine pk_ ?_; refine jM (cs := #[.bool ((jC l1 x9_1).f0.f0), .slice none 0 0, .slice none 0 0, .int .i64 0, .int .i64 0, .int .i64 0, .int .i64 0]) ?_ 1 _ rs_; refine pk_ ?_; refine jM (cs := #[.bool false, .slice none 0 0, .slice none 0 0, .int .i64 0, .int .i64 0, .int .i64 0, .int .i64 0]) ?_ 0 _ rs_; refine pk_ ?_; exact BK287.out⟩
   have n1_ : jA (Below w.heap.size w (((((((w29.setCell ⟨gb287, 0, none⟩ (.bool ((jC l1 x9_1).f0.f0))).setCell ⟨gb287, 1, none⟩ (.slice A286_1 ((jC l1 x9_1).f0.f1).length c286_1)).setCell ⟨gb287, 2, none⟩ (.slice A286_2 ((jC l1 x9_1).f0.f2).length c286_2)).setCell ⟨gb287, 3, none⟩ (.int .i64 ((jC l1 x9_1).f1.f0))).setCell ⟨gb287, 4, none⟩ (.int .i64 ((jC l1 x9_1).f1.f1))).setCell ⟨gb287, 5, none⟩ (.int .i64 ((jC l1 x9_1).f1.f2))).setCell ⟨gb287, 6, none⟩ (.int .i64 ((jC l1 x9_1).f1.f3)))) := ⟨(bb1_ HB GE287)⟩
   (try clear BK287)
   (try clear HB)
   generalize (((((((w29.setCell ⟨gb287, 0, none⟩ (.bool ((jC l1 x9_1).f0.f0))).setCell ⟨gb287, 1, none⟩ (.slice A286_1 ((jC l1 x9_1).f0.f1).length c286_1)).setCell ⟨gb287, 2, none⟩ (.slice A286_2 ((jC l1 x9_1).f0.f2).length c286_2)).setCell ⟨gb287, 3, none⟩ (.int .i64 ((jC l1 x9_1).f1.f0))).setCell ⟨gb287, 4, none⟩ (.int .i64 ((jC l1 x9_1).f1.f1))).setCell ⟨gb287, 5, none⟩ (.int .i64 ((jC l1 x9_1).f1.f2))).setCell ⟨gb287, 6, none⟩ (.int .i64 ((jC l1 x9_1).f1.f3))) = w31 at n0_ n1_ ⊢
   have BK287 := n0_
   have HB := n1_
   clear n0_ n1_
   have n0_ := jA.mk (jI BK287.out)
   have n1_ := jA.mk (vk HB.out)
   clear BK287
   clear HB
   have BK287 := n0_
   have HB := n1_
   clear n0_ n1_
   have p290 : 0 ≤ ((ji17) : Int) := of_decide_eq_true am_
   have q290 : (ji17) < (l1.length : Int) := of_decide_eq_true am_
   obtain ⟨ad290, A290_1, c290_1, A290_2, c290_2, e290, hx290_0, hx290_1, hx290_2, hx290_3, hx290_4, hx290_5, hx290_6, hl290_1, hi290_1, hl290_2, hi290_2⟩ := jDD HR1.out (ji17) p290 q290
   have hw290_6 := hx290_6
   have hw290_5 := hx290_5
   have hw290_4 := hx290_4
   have hw290_3 := hx290_3
   have hw290_2 := hx290_2
   have hw290_1 := hx290_1
   have hw290_0 := hx290_0
   obtain rfl : ad286 = ad290 := (by injection e290)
   replace hx290_0 := (HB.out.cell (World.block_lt_of_cell? w _ hx290_0)).trans hx290_0
   replace hx290_1 := (HB.out.cell (World.block_lt_of_cell? w _ hx290_1)).trans hx290_1
   replace hx290_2 := (HB.out.cell (World.block_lt_of_cell? w _ hx290_2)).trans hx290_2
   replace hx290_3 := (HB.out.cell (World.block_lt_of_cell? w _ hx290_3)).trans hx290_3
   replace hx290_4 := (HB.out.cell (World.block_lt_of_cell? w _ hx290_4)).trans hx290_4
   replace hx290_5 := (HB.out.cell (World.block_lt_of_cell? w _ hx290_5)).trans hx290_5
   replace hx290_6 := (HB.out.cell (World.block_lt_of_cell? w _ hx290_6)).trans hx290_6
   have HR290_1 := jA.mk hi290_1
   have HC290_1 := jA.mk hl290_1
   clear hi290_1 hl290_1
   have HR290_2 := jA.mk hi290_2
   have HC290_2 := jA.mk hl290_2
   clear hi290_2 hl290_2
   replace p290 := eq_true p290
   replace q290 := eq_true q290
   refine zw (n := 25) (S := fun w' => w'.cell? ⟨gb287, 0, none⟩ = some (.bool ((jC l1 x9_1).f0.f0)) ∧ w'.cell? ⟨gb287, 1, none⟩ = some (.slice A286_1 ((jC l1 x9_1).f0.f1).length c286_1) ∧ w'.cell? ⟨gb287, 2, none⟩ = some (.slice A286_2 ((jC l1 x9_1).f0.f2).length c286_2) ∧ w'.cell? ⟨gb287, 3, none⟩ = some (.int .i64 ((jC l1 x9_1).f1.f0)) ∧ w'.cell? ⟨gb287, 4, none⟩ = some (.int .i64 ((jC l1 x9_1).f1.f1)) ∧ w'.cell? ⟨gb287, 5, none⟩ = some (.int .i64 ((jC l1 x9_1).f1.f2)) ∧ w'.cell? ⟨gb287, 6, none⟩ = some (.int .i64 ((jC l1 x9_1).f1.f3)) ∧ w'.cell? (ad286.add (((ji17)).toNat * 7)) = some (.bool ((jC l1 (ji17)).f0.f0)) ∧ w'.cell? ⟨(ad286.add (((ji17)).toNat * 7)).block, (ad286.add (((ji17)).toNat * 7)).off + 1, none⟩ = some (.slice A290_1 ((jC l1 (ji17)).f0.f1).length c290_1) ∧ w'.cell? ⟨(ad286.add (((ji17)).toNat * 7)).block, (ad286.add (((ji17)).toNat * 7)).off + 2, none⟩ = some (.slice A290_2 ((jC l1 (ji17)).f0.f2).length c290_2) ∧ w'.cell? ⟨(ad286.add (((ji17)).toNat * 7)).block, (ad286.add (((ji17)).toNat * 7)).off + 3, none⟩ = some (.int .i64 ((jC l1 (ji17)).f1.f0)) ∧ w'.cell? ⟨(ad286.add (((ji17)).toNat * 7)).block, (ad286.add (((ji17)).toNat * 7)).off + 4, none⟩ = some (.int .i64 ((jC l1 (ji17)).f1.f1)) ∧ w'.cell? ⟨(ad286.add (((ji17)).toNat * 7)).block, (ad286.add (((ji17)).toNat * 7)).off + 5, none⟩ = some (.int .i64 ((jC l1 (ji17)).f1.f2)) ∧ w'.cell? ⟨(ad286.add (((ji17)).toNat * 7)).block, (ad286.add (((ji17)).toNat * 7)).off + 6, none⟩ = some (.int .i64 ((jC l1 (ji17)).f1.f3))) (ds := []) #[false, false, false, false, false, false, false, false, false, false, false, false, false, false, false, false, false, false, false, false, false, false, false, false, false] kr_ rfl rfl ⟨(jB BK287.out 0).trans rfl, (jB BK287.out 1).trans rfl, (jB BK287.out 2).trans rfl, (jB BK287.out 3).trans rfl, (jB BK287.out 4).trans rfl, (jB BK287.out 5).trans rfl, (jB BK287.out 6).trans rfl, ((HB.out.cell (World.block_lt_of_cell? w _ hw290_0)).trans hw290_0), ((HB.out.cell (World.block_lt_of_cell? w _ hw290_1)).trans hw290_1), ((HB.out.cell (World.block_lt_of_cell? w _ hw290_2)).trans hw290_2), ((HB.out.cell (World.block_lt_of_cell? w _ hw290_3)).trans hw290_3), ((HB.out.cell (World.block_lt_of_cell? w _ hw290_4)).trans hw290_4), ((HB.out.cell (World.block_lt_of_cell? w _ hw290_5)).trans hw290_5), ((HB.out.cell (World.block_lt_of_cell? w _ hw290_6)).trans hw290_6)⟩ (fun hHeld => ?_); refine qd jh.tab4 jh.jLT (fun HT_ HW_ => ?_)
   generalize w31.drew = w32 at BK287 HB HR290_1 HR290_2 hx290_0 hx290_1 hx290_2 hx290_3 hx290_4 hx290_5 hx290_6 hHeld ⊢
   refine jFt 0 (some 14) (ba_ 25 1) (ze HT_.out HW_.out kr_) hHeld ?_
   refine one_ (i := 1) (N := some 15) (ba_ 25 3) rfl rfl (qb HT_.out kr_) (by decide) (fun K hK => ?_)
   refine jAX Tryz.func44 kr_ rfl #[.agg #[.bool ((jC l1 x9_1).f0.f0), .slice A286_1 ((jC l1 x9_1).f0.f1).length c286_1, .slice A286_2 ((jC l1 x9_1).f0.f2).length c286_2, .int .i64 ((jC l1 x9_1).f1.f0), .int .i64 ((jC l1 x9_1).f1.f1), .int .i64 ((jC l1 x9_1).f1.f2), .int .i64 ((jC l1 x9_1).f1.f3)]] (by rfl) rfl rfl (by (try simp only [List.map_toArray, List.map_cons, List.map_nil]); first | done | rfl | (simp only [List.length_drop, List.length_take]; rfl)) ?_
   with_reducible refine (zx.calls k1 ((jC l1 x9_1).f0.f0) _ _ ((jC l1 x9_1).f0.f1) _ _ ((jC l1 x9_1).f0.f2) ((jC l1 x9_1).f1.f0) ((jC l1 x9_1).f1.f1) ((jC l1 x9_1).f1.f2) ((jC l1 x9_1).f1.f3) true _ ?side1 ?side2 ?side3 ?side4 A6.out).mono ?_
   (case side1 => exact cb_ HR286_1 HB)
   (case side2 => exact HC286_1.out)
   (case side3 => exact cb_ HR286_2 HB)
   (case side4 => exact HC286_2.out)
   rintro e w33 ⟨rfl, hb⟩
   refine ⟨_, rfl, ?_⟩
   have n0_ := bk_ BK287 hb
   have n1_ := jA.mk (jG (bb1_ HB GE287) hb)
   clear BK287
   clear HB
   have BK287 := n0_
   have HB := n1_
   clear n0_ n1_
   (try clear hb)
   (try clear hb2)
   (try clear hk)
   (try clear hi)
   refine hK.out _ _ ⟨(jB BK287.out 0).trans rfl, (jB BK287.out 1).trans rfl, (jB BK287.out 2).trans rfl, (jB BK287.out 3).trans rfl, (jB BK287.out 4).trans rfl, (jB BK287.out 5).trans rfl, (jB BK287.out 6).trans rfl, ((HB.out.cell (World.block_lt_of_cell? w _ hw290_0)).trans hw290_0), ((HB.out.cell (World.block_lt_of_cell? w _ hw290_1)).trans hw290_1), ((HB.out.cell (World.block_lt_of_cell? w _ hw290_2)).trans hw290_2), ((HB.out.cell (World.block_lt_of_cell? w _ hw290_3)).trans hw290_3), ((HB.out.cell (World.block_lt_of_cell? w _ hw290_4)).trans hw290_4), ((HB.out.cell (World.block_lt_of_cell? w _ hw290_5)).trans hw290_5), ((HB.out.cell (World.block_lt_of_cell? w _ hw290_6)).trans hw290_6)⟩ (fun hHeld => ?_)
   clear hK K
   refine ns_ 15 ?_
   refine pu_ 2 (some 16) (ba_ 25 7) (jR HT_.out kr_) ?_
   refine pu_ 3 (some 17) (ba_ 25 15) (jR HT_.out kr_) ?_
   refine pu_ 4 (some 18) (ba_ 25 31) (jR HT_.out kr_) ?_
   refine jFt 5 (some 19) (ba_ 25 63) (ze HT_.out HW_.out kr_) hHeld ?_
   refine one_ (i := 6) (N := some 20) (ba_ 25 127) rfl rfl (qb HT_.out kr_) (by decide) (fun K hK => ?_)
   refine jAX Tryz.func45 kr_ rfl #[.agg #[.bool ((jC l1 x9_1).f0.f0), .slice A286_1 ((jC l1 x9_1).f0.f1).length c286_1, .slice A286_2 ((jC l1 x9_1).f0.f2).length c286_2]] (by rfl) rfl rfl (by (try simp only [List.map_toArray, List.map_cons, List.map_nil]); first | done | rfl | (simp only [List.length_drop, List.length_take]; rfl)) ?_
   with_reducible refine (zJ.calls ((jC l1 x9_1).f0.f0) _ _ ((jC l1 x9_1).f0.f1) _ _ ((jC l1 x9_1).f0.f2) false _ ?side1 ?side2 ?side3 ?side4 A8.out).mono ?_
   (case side1 => exact cb_ HR286_1 HB)
   (case side2 => exact HC286_1.out)
   (case side3 => exact cb_ HR286_2 HB)
   (case side4 => exact HC286_2.out)
   rintro e w34 ⟨rfl, hb⟩
   refine ⟨_, rfl, ?_⟩
   have n0_ := bk_ BK287 hb
   have n1_ := jA.mk (jG (bb1_ HB GE287) hb)
   clear BK287
   clear HB
   have BK287 := n0_
   have HB := n1_
   clear n0_ n1_
   (try clear hb)
   (try clear hb2)
   (try clear hk)
   (try clear hi)
   refine hK.out _ _ ⟨(jB BK287.out 0).trans rfl, (jB BK287.out 1).trans rfl, (jB BK287.out 2).trans rfl, (jB BK287.out 3).trans rfl, (jB BK287.out 4).trans rfl, (jB BK287.out 5).trans rfl, (jB BK287.out 6).trans rfl, ((HB.out.cell (World.block_lt_of_cell? w _ hw290_0)).trans hw290_0), ((HB.out.cell (World.block_lt_of_cell? w _ hw290_1)).trans hw290_1), ((HB.out.cell (World.block_lt_of_cell? w _ hw290_2)).trans hw290_2), ((HB.out.cell (World.block_lt_of_cell? w _ hw290_3)).trans hw290_3), ((HB.out.cell (World.block_lt_of_cell? w _ hw290_4)).trans hw290_4), ((HB.out.cell (World.block_lt_of_cell? w _ hw290_5)).trans hw290_5), ((HB.out.cell (World.block_lt_of_cell? w _ hw290_6)).trans hw290_6)⟩ (fun hHeld => ?_)
   clear hK K
   refine ns_ 20 ?_
   refine pu_ 7 (some 21) (ba_ 25 255) (jR HT_.out kr_) ?_
   refine pu_ 8 (some 22) (ba_ 25 511) (jR HT_.out kr_) ?_
   refine pu_ 9 (some 23) (ba_ 25 1023) (jR HT_.out kr_) ?_
   refine pu_ 10 (some 24) (ba_ 25 2047) (jR HT_.out kr_) ?_
   refine pu_ 11 (some 25) (ba_ 25 4095) (jR HT_.out kr_) ?_
   refine pu_ 12 (some 26) (ba_ 25 8191) (jR HT_.out kr_) ?_
   refine pu_ 13 (some 27) (ba_ 25 16383) (jR HT_.out kr_) ?_
   refine pu_ 14 (some 28) (ba_ 25 32767) (jR HT_.out kr_) ?_
   refine pu_ 15 (some 29) (ba_ 25 65535) (jR HT_.out kr_) ?_
   refine pu_ 16 (some 30) (ba_ 25 131071) (jR HT_.out kr_) ?_
   refine pu_ 17 (some 31) (ba_ 25 262143) (jR HT_.out kr_) ?_
   refine pu_ 19 (some 33) (ba_ 25 786431) (jR HT_.out kr_) ?_
   refine jFt 18 (some 32) (ba_ 25 1048575) (ze HT_.out HW_.out kr_) hHeld ?_
   refine jFt 20 (some 34) (ba_ 25 2097151) (ze HT_.out HW_.out kr_) hHeld ?_
   refine one_ (i := 21) (N := some 35) (ba_ 25 4194303) rfl rfl (qb HT_.out kr_) (by decide) (fun K hK => ?_)
   refine jAX Tryz.func46 kr_ rfl #[.int .i64 a0, .agg #[.int .i64 ((jC l1 (ji17)).f1.f0), .int .i64 ((jC l1 (ji17)).f1.f1), .int .i64 ((jC l1 (ji17)).f1.f2), .int .i64 ((jC l1 (ji17)).f1.f3)], .agg #[.int .i64 ((jC l1 x9_1).f1.f0), .int .i64 ((jC l1 x9_1).f1.f1), .int .i64 ((jC l1 x9_1).f1.f2), .int .i64 ((jC l1 x9_1).f1.f3)]] (by rfl) rfl rfl (by (try simp only [List.map_toArray, List.map_cons, List.map_nil]); first | done | (simp only [hji17]; rfl) | rfl | (simp only [List.length_drop, List.length_take]; rfl)) ?_
   with_reducible refine (jBC.calls a0 ((jC l1 (ji17)).f1.f0) ((jC l1 (ji17)).f1.f1) ((jC l1 (ji17)).f1.f2) ((jC l1 (ji17)).f1.f3) ((jC l1 x9_1).f1.f0) ((jC l1 x9_1).f1.f1) ((jC l1 x9_1).f1.f2) ((jC l1 x9_1).f1.f3) t291 _ A20.out).mono ?_
   rintro e w35 ⟨rfl, hb⟩
   refine ⟨_, rfl, ?_⟩
   have n0_ := bk_ BK287 hb
   have n1_ := jA.mk (jG (bb1_ HB GE287) hb)
   clear BK287
   clear HB
   have BK287 := n0_
   have HB := n1_
   clear n0_ n1_
   (try clear hb)
   (try clear hb2)
   (try clear hk)
   (try clear hi)
   refine hK.out _ _ ⟨(jB BK287.out 0).trans rfl, (jB BK287.out 1).trans rfl, (jB BK287.out 2).trans rfl, (jB BK287.out 3).trans rfl, (jB BK287.out 4).trans rfl, (jB BK287.out 5).trans rfl, (jB BK287.out 6).trans rfl, ((HB.out.cell (World.block_lt_of_cell? w _ hw290_0)).trans hw290_0), ((HB.out.cell (World.block_lt_of_cell? w _ hw290_1)).trans hw290_1), ((HB.out.cell (World.block_lt_of_cell? w _ hw290_2)).trans hw290_2), ((HB.out.cell (World.block_lt_of_cell? w _ hw290_3)).trans hw290_3), ((HB.out.cell (World.block_lt_of_cell? w _ hw290_4)).trans hw290_4), ((HB.out.cell (World.block_lt_of_cell? w _ hw290_5)).trans hw290_5), ((HB.out.cell (World.block_lt_of_cell? w _ hw290_6)).trans hw290_6)⟩ (fun hHeld => ?_)
   clear hK K
   refine ns_ 35 ?_
   refine pu_ 22 (some 36) (ba_ 25 8388607) (jR HT_.out kr_) ?_
   refine pu_ 23 (some 37) (ba_ 25 16777215) (jR HT_.out kr_) ?_
   refine pu_ 24 (some 38) (ba_ 25 33554431) (jR HT_.out kr_) ?_
   refine jAR (jBG HT_.out kr_) ?_
   try go_wp2
   go_roundg k1
   case measure => have := HK1.out; omega
   case rel => exact ⟨(wrap64 (x9_1 + 1)), sd_, H', ⟨by have := HK1.out; omega⟩, ⟨(bb1_ HB GE287)⟩⟩
end Go.Proofs.YtoganbmeedimiaaGreat.POPressOne
