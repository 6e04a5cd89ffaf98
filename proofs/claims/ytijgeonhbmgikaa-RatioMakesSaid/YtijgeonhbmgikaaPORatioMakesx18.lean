-- printed (pr.py)
import Derived.Test.YtijgeonhbmgikaaPORatioMakesx17
namespace Go.Proofs.Ytijgeonhbmgikaa.PORatioMakes
open Go.RowKit Go.Proofs.YtijgeonhbmgikaaN Go.Proofs.YtijgeonhbmgikaaW.PrintWords Go.Proofs.YtijgeonhbmgikaaW.PrintLast Go.Proofs.YtijgeonhbmgikaaW.PrintMore
attribute [local go_sem] qJ qH qd qc zo zn qI qG
set_option maxHeartbeats 8000000
set_option maxRecDepth 100000
set_option linter.unusedVariables false
set_option linter.unusedSimpArgs false
def jd.l0 : Nat → List (S44) → Int → Bool → List Int → List Int → Option (Bool × List Int × List Int × Int)
 | 0, _, _, _, _, _ => none
 | k + 1, x0, x5, x701000, x701001, x701002 => if x5 < (x0.length : Int) then (if 0 ≤ x5 then ((jq.f k x701000 x701001 x701002 ((vH x0 x5).f0) ((vH x0 x5).f1) ((vH x0 x5).f2)).bind fun bt702 => (if bt702.2.2.2 = 0 then (jd.l0 k x0 (wrap64 (x5 + 1)) bt702.1 bt702.2.1 bt702.2.2.1) else (some (false, ([] : List Int), ([] : List Int), bt702.2.2.2)))) else (none)) else (some (x701000, x701001, x701002, 0))
def jd.f (k : Nat) (l0 : List (S44)) : Option (Bool × List Int × List Int × Int) := (zH.f k 0).bind fun bt693 => (jd.l0 k l0 0 bt693.1 bt693.2.1 bt693.2.2)
theorem jd.vQ : ∀ k, (∀ y0 y1 y2 y3 y4, LeO (jd.l0 k y0 y1 y2 y3 y4) (jd.l0 (k + 1) y0 y1 y2 y3 y4))
 | 0 => fun _ _ _ _ _ r h => by simp [jd.l0] at h
 | k + 1 => by
  have ih0 := jd.vQ k
  ·
   intro y0 y1 y2 y3 y4
   unfold jd.l0
   repeat' first
   | (with_reducible exact ih0 _ _ _ _ _)
   | (with_reducible exact jq.mono _ _ _ _ _ _ _)
   | (with_reducible exact zH.mono _ _)
   | (with_reducible exact LeO.refl _)
   | (with_reducible exact LeO.none _)
   | (with_reducible refine LeO.ite ?_ ?_)
   | (with_reducible refine LeO.bind ?_ (fun _ => ?_))
theorem jd.mono : ∀ a0 k, LeO (jd.f k a0) (jd.f (k + 1) a0) := by
 intro a0 k
 have ih0 := jd.vQ k
 unfold jd.f
 repeat' first
   | (with_reducible exact ih0 _ _ _ _ _)
   | (with_reducible exact jq.mono _ _ _ _ _ _ _)
   | (with_reducible exact zH.mono _ _)
   | (with_reducible exact LeO.refl _)
   | (with_reducible exact LeO.none _)
   | (with_reducible refine LeO.ite ?_ ?_)
   | (with_reducible refine LeO.bind ?_ (fun _ => ?_))
def jd.T5 : Bool × List (List Nat × List Nat) := (true, [([], []), ([], []), ([], []), ([1, 2], [1, 2]), ([3], [3]), ([0, 4], [0, 4]), ([5], [5]), ([6], [6]), ([6], [6]), ([], []), ([9, 7, 5, 0, 1, 2, 3, 4, 5, 6, 7, 9], [7, 9]), ([8, 10, 0, 1, 2, 3, 4, 5, 6, 7, 8, 9, 10], [8])])
def jd.B5 : List Nat := [0, 0, 0, 6, 14, 31, 63, 127, 127, 0, 767, 2047]
theorem jd.tab5 : rtab .any (opsOf Try.f38 5) = jd.T5 := by kernel_rfl
theorem jd.jHX : jAa jd.T5.2 jd.B5 = true := by kernel_rfl
theorem jd.calls (k : Nat) (A0 : Option Addr) (c0 : Nat) (l0 : List (S44)) (r1 : Bool) (r2 : List Int) (r3 : List Int) (r4 : Int) (w : World) (hr0 : Kd.C k44 w A0 l0.length l0) (hc0 : l0.length ≤ c0) (h : jd.f k l0 = some (r1, r2, r3, r4)) :
  Calls Try.prog 38 #[.slice A0 l0.length c0] w fun e w' => ∃ v1_ v2_ : Value, e = .returned (.tuple #[.agg #[.bool r1, v1_, v2_], .int .i64 r4]) ∧ Kd.R (Kd.int .u64) 22 w' w.heap.size (fun k_ => some k_ ≠ (v2_ : Value).ownBlock) v1_ r2 ∧ Kd.R (Kd.int .u64) 22 w' w.heap.size (fun k_ => some k_ ≠ (v1_ : Value).ownBlock) v2_ r3 ∧ Below w.heap.size w w' := by
 have hu44 := Try.underlying44
 have HR0 := jA.mk hr0
 have HC0 := jA.mk hc0
 clear hr0 hc0
 have HB := jA.mk (Below.refl w.heap.size w)
 have H : ((zH.f k 0).bind fun bt693 => (jd.l0 k l0 0 bt693.1 bt693.2.1 bt693.2.2)) = some (r1, r2, r3, r4) := h
 clear h
 replace H := ob_ H
 obtain ⟨⟨t693, t694, t697⟩, A20, H⟩ := H
 try dsimp only at H
 have A2 := jA.mk A20
 clear A20
 have H' := jA.mk H
 clear H
 go_enter Try.func38, Try.ntmps38
 go_wp2_with (first | ((with_reducible refine jW (N := 2) rfl ?_); refine bx_ 2 #[.bool false, .slice none 0 0, .slice none 0 0] 44 ?_; intro gb692 hg w3 hbox hb; have BK692 := jA.mk (hbox); have GW692 := jA.mk ((by rw [hg]; exact (jB (bb_ HB)) : w.heap.size ≤ gb692)); have GE692 := GW692; replace HB := bs_ HB hb; clear hb hbox hg) | ((with_reducible refine jD (f := 40) rfl ?_); refine gl_ (some 8) Try.func40 #[.int .i64 0] ?_; (with_reducible refine (zH.calls k 0 t693 t694 t697 _ A2.out).mono ?_); rintro e w4 ⟨v695, v698, rfl, ho0, ho1, hb⟩; refine ⟨_, rfl, ?_⟩; have HO696 := jA.mk (Kd.jL ho0 (jB (bb1_ HB GE692))); have HO699 := jA.mk (Kd.jL ho1 (jB (bb1_ HB GE692))); replace BK692 := bk_ BK692 hb; replace HB := jA.mk (jJ (bb1_ HB GE692) hb)) | ((with_reducible refine jW (N := 4) rfl ?_); refine bx_ 4 #[.bool false, .slice none 0 0, .slice none 0 0] 44 ?_; intro gb700 hg w5 hbox hb; replace HO696 := ro_ HO696 hb; replace HO699 := ro_ HO699 hb; have BK700 := jA.mk (hbox); have GW700 := jA.mk ((by rw [hg]; exact (jB (bb1_ HB GE692)) : w.heap.size ≤ gb700)); have GE700 := GW700; replace HB := jA.mk (jJ (bb1_ HB GE692) hb); have NB692_700 := jA.mk ((by rw [hg]; exact nlt_ BK692 : gb692 ≠ gb700)); have NB700_692 := jA.mk ((by rw [hg]; exact ngt_ BK692 : gb700 ≠ gb692)); replace BK692 := bk_ BK692 hb; clear hb hbox hg; have hnb6 := NB700_692.out; have hnc6 := NB692_700.out; obtain ⟨hcz7_0, hcz7_1, hcz7_2, hfz7_0, hfz7_1, hfz7_2⟩ := bf3_ BK700; obtain ⟨Ao8, co8, rfl⟩ := Kd.jP HO696.out; obtain ⟨Ao9, co9, rfl⟩ := Kd.jP HO699.out))
 go_loopg [5] k (fun kq v5 w' => ∃ (x5_1 : Int) (x693000_1 : Bool) (x701000_1 : Bool) (x701001_1 : List Int) (x701002_1 : List Int) (u701001 : Value) (u701002 : Value), v5 = .int .i64 x5_1 ∧ jA (jd.l0 kq l0 x5_1 x701000_1 x701001_1 x701002_1 = some (r1, r2, r3, r4)) ∧ jA (kq ≤ k) ∧ jA (Kd.R (Kd.int .u64) 22 w' w.heap.size (fun k_ => some k_ ≠ (u701002 : Value).ownBlock) u701001 x701001_1) ∧ jA (Kd.R (Kd.int .u64) 22 w' w.heap.size (fun k_ => some k_ ≠ (u701001 : Value).ownBlock) u701002 x701002_1) ∧ jA (w'.heap[gb692]? = some (.cells #[.bool x693000_1, (.slice none 0 0), (.slice none 0 0)] 44 (0, 0))) ∧ jA (w'.heap[gb700]? = some (.cells #[.bool x701000_1, u701001, u701002] 44 (0, 0))) ∧ jA (Below w.heap.size w w'))
 case atStart => exact ⟨(0), (false), (t693), (t694), (t697), (.slice Ao8 t694.length co8), (.slice Ao9 t697.length co9), sd_, H', ⟨Nat.le_refl _⟩, ⟨by (with_reducible repeat (first | apply Kd.zG | apply Kd.zM | apply Kd.zP)); exact Kd.jO (Kd.vU (p := ⟨gb700, 2, none⟩) (Kd.vU (p := ⟨gb700, 1, none⟩) (Kd.vU (p := ⟨gb700, 0, none⟩) (Kd.jm HO696.out BK700.out (by decide)) (fun _ hk => hk.2) (.bool t693)) (fun _ hk => hk.2) (.slice Ao8 t694.length co8)) (fun _ hk => hk.2) (.slice Ao9 t697.length co9)) (fun _ hk => hk.1)⟩, ⟨by (with_reducible repeat (first | apply Kd.zG | apply Kd.zM | apply Kd.zP)); exact Kd.jO (Kd.vU (p := ⟨gb700, 2, none⟩) (Kd.vU (p := ⟨gb700, 1, none⟩) (Kd.vU (p := ⟨gb700, 0, none⟩) (Kd.jm HO699.out BK700.out (by decide)) (fun _ hk => hk.2) (.bool t693)) (fun _ hk => hk.2) (.slice Ao8 t694.length co8)) (fun _ hk => hk.2) (.slice Ao9 t697.length co9)) (fun _ hk => hk.1)⟩, ⟨by (with_reducible repeat (first | refine zU ?_ _ | refine vN ?_ | refine vT ?_ _)); refine vP ?_ NB692_700.out _; refine pk_ ?_; refine vP ?_ NB692_700.out _; refine pk_ ?_; refine vP ?_ NB692_700.out _; refine pk_ ?_; exact BK692.out⟩, ⟨by (with_reducible repeat (first | refine zU ?_ _ | refine vN ?_ | refine vT ?_ _)); refine jc (cs := #[.bool t693, .slice Ao8 t694.length co8, .slice none 0 0]) ?_ 2 _ rs_; refine pk_ ?_; refine jc (cs := #[.bool t693, .slice none 0 0, .slice none 0 0]) ?_ 1 _ rs_; refine pk_ ?_; refine jc (cs := #[.bool false, .slice none 0 0, .slice none 0 0]) ?_ 0 _ rs_; refine pk_ ?_; exact BK700.out⟩, ⟨(bb2_ HB GE692 GE700)⟩⟩
 case round =>
  clear H'
  try clear p2
  try clear c3
  try clear c4
  try clear c6
  try clear hcz7_0
  try clear hcz7_1
  try clear hcz7_2
  try clear hfz7_0
  try clear hfz7_1
  try clear hfz7_2
  obtain ⟨x5_1, x693000_1, x701000_1, x701001_1, x701002_1, u701001, u701002, rfl, HA, HK1, HO_701001, HO_701002, BK692, BK700, HB⟩ := hrel
  cases gk with
  | zero => exact absurd HA.out (by simp [jd.l0])
  | succ k1 =>
   have H := HA.out
   clear HA
   simp only [jd.l0] at H
   by_cases c10 : x5_1 < (l0.length : Int)
   ·
    rw [if_pos c10] at H
    have c10b0 := decide_eq_true c10
    clear c10
    by_cases c11 : 0 ≤ x5_1
    ·
     rw [if_pos c11] at H
     have c11b0 := decide_eq_true c11
     clear c11
     replace H := ob_ H
     obtain ⟨⟨t702, t703, t706, t709⟩, A120, H⟩ := H
     try dsimp only at H
     have A12 := jA.mk A120
     clear A120
     by_cases c13 : t709 = 0
     ·
      rw [if_pos c13] at H
      have c13b0 := beq_iff_eq.mpr c13
      have c13b1 := bne_eq_false_iff_eq.mpr c13
      clear c13
      have H' := jA.mk H
      clear H
      obtain ⟨Ao14, co14, eo14⟩ := Kd.jP HO_701001.out
      subst eo14
      obtain ⟨Ao15, co15, eo15⟩ := Kd.jP HO_701002.out
      subst eo15
      try go_wp2
      have n0_ := jA.mk (Kd.zP HO_701001.out)
      have n1_ := jA.mk (Kd.zP HO_701002.out)
      have n2_ := jA.mk (vN BK692.out)
      have n3_ := jA.mk (vN BK700.out)
      have n4_ := jA.mk (zk HB.out)
      clear HO_701001
      clear HO_701002
      clear BK692
      clear BK700
      clear HB
      have HO_701001 := n0_
      have HO_701002 := n1_
      have BK692 := n2_
      have BK700 := n3_
      have HB := n4_
      clear n0_ n1_ n2_ n3_ n4_
      have p701 : 0 ≤ (x5_1 : Int) := of_decide_eq_true am_
      have q701 : x5_1 < (l0.length : Int) := of_decide_eq_true am_
      obtain ⟨ad701, A701_1, c701_1, A701_2, c701_2, e701, hx701_0, hx701_1, hx701_2, hl701_1, hi701_1, hl701_2, hi701_2⟩ := jCt HR0.out x5_1 p701 q701
      have hw701_2 := hx701_2
      have hw701_1 := hx701_1
      have hw701_0 := hx701_0
      cases e701
      replace hx701_0 := (HB.out.cell (World.block_lt_of_cell? w _ hx701_0)).trans hx701_0
      replace hx701_1 := (HB.out.cell (World.block_lt_of_cell? w _ hx701_1)).trans hx701_1
      replace hx701_2 := (HB.out.cell (World.block_lt_of_cell? w _ hx701_2)).trans hx701_2
      have HR701_1 := jA.mk hi701_1
      have HC701_1 := jA.mk hl701_1
      clear hi701_1 hl701_1
      have HR701_2 := jA.mk hi701_2
      have HC701_2 := jA.mk hl701_2
      clear hi701_2 hl701_2
      replace p701 := eq_true p701
      replace q701 := eq_true q701
      refine jAk (n := 12) (S := fun w' => w'.cell? ⟨gb700, 0, none⟩ = some (.bool x701000_1) ∧ w'.cell? ⟨gb700, 1, none⟩ = some (.slice Ao14 x701001_1.length co14) ∧ w'.cell? ⟨gb700, 2, none⟩ = some (.slice Ao15 x701002_1.length co15) ∧ w'.cell? (ad701.add ((x5_1).toNat * 3)) = some (.bool ((vH l0 x5_1).f0)) ∧ w'.cell? ⟨(ad701.add ((x5_1).toNat * 3)).block, (ad701.add ((x5_1).toNat * 3)).off + 1, none⟩ = some (.slice A701_1 ((vH l0 x5_1).f1).length c701_1) ∧ w'.cell? ⟨(ad701.add ((x5_1).toNat * 3)).block, (ad701.add ((x5_1).toNat * 3)).off + 2, none⟩ = some (.slice A701_2 ((vH l0 x5_1).f2).length c701_2)) (ds := []) #[false, false, false, false, false, false, false, false, false, false, false, false] kr_ rfl rfl ⟨(jI BK700.out 0).trans rfl, (jI BK700.out 1).trans rfl, (jI BK700.out 2).trans rfl, ((HB.out.cell (World.block_lt_of_cell? w _ hw701_0)).trans hw701_0), ((HB.out.cell (World.block_lt_of_cell? w _ hw701_1)).trans hw701_1), ((HB.out.cell (World.block_lt_of_cell? w _ hw701_2)).trans hw701_2)⟩ (fun hHeld => ?_); refine jAK jd.tab5 jd.jHX (fun HT_ HW_ => ?_)
      generalize wr.drew = w16 at HO_701001 HO_701002 BK692 BK700 HB HR701_1 HR701_2 hx701_0 hx701_1 hx701_2 hHeld ⊢
      refine pu_ 1 (some 17) (ba_ 12 2) (vL HT_.out kr_) ?_
      refine pu_ 2 (some 18) (ba_ 12 6) (vL HT_.out kr_) ?_
      refine pu_ 3 (some 19) (ba_ 12 14) (vL HT_.out kr_) ?_
      refine tk6_ 0 (some 16) (ba_ 12 15) (qF HT_.out HW_.out kr_) hHeld ?_
      refine tk6_ 4 (some 20) (ba_ 12 31) (qF HT_.out HW_.out kr_) hHeld ?_
      refine jHN (σ := Value × Value × Nat) 2 #[true, true, true, true, true, true, true, true, true, true, false, false] (fun s_ => [(21, .tuple #[.agg #[.bool t702, s_.1, s_.2.1], .int .i64 t709]), (6, .pointer (some ⟨s_.2.2, 0, none⟩)), (15, .tuple #[.agg #[.bool t702, s_.1, s_.2.1], .int .i64 t709]), (22, .agg #[.bool t702, s_.1, s_.2.1]), (23, .int .i64 t709)]) (fun s_ w' => (w'.cell? ⟨gb700, 0, none⟩ = some (.bool x701000_1) ∧ w'.cell? ⟨gb700, 1, none⟩ = some (.slice Ao14 x701001_1.length co14) ∧ w'.cell? ⟨gb700, 2, none⟩ = some (.slice Ao15 x701002_1.length co15) ∧ w'.cell? (ad701.add ((x5_1).toNat * 3)) = some (.bool ((vH l0 x5_1).f0)) ∧ w'.cell? ⟨(ad701.add ((x5_1).toNat * 3)).block, (ad701.add ((x5_1).toNat * 3)).off + 1, none⟩ = some (.slice A701_1 ((vH l0 x5_1).f1).length c701_1) ∧ w'.cell? ⟨(ad701.add ((x5_1).toNat * 3)).block, (ad701.add ((x5_1).toNat * 3)).off + 2, none⟩ = some (.slice A701_2 ((vH l0 x5_1).f2).length c701_2)) ∧ (Kd.R (Kd.int .u64) 22 w' w.heap.size (fun k_ => some k_ ≠ (s_.2.1 : Value).ownBlock ∧ some k_ ≠ (.slice Ao14 x701001_1.length co14 : Value).ownBlock ∧ some k_ ≠ (.slice Ao15 x701002_1.length co15 : Value).ownBlock) s_.1 t703) ∧ (Kd.R (Kd.int .u64) 22 w' w.heap.size (fun k_ => some k_ ≠ (s_.1 : Value).ownBlock ∧ some k_ ≠ (.slice Ao14 x701001_1.length co14 : Value).ownBlock ∧ some k_ ≠ (.slice Ao15 x701002_1.length co15 : Value).ownBlock) s_.2.1 t706) ∧ (Kd.R (Kd.int .u64) 22 w' w.heap.size (fun k_ => some k_ ≠ (s_.1 : Value).ownBlock ∧ some k_ ≠ (s_.2.1 : Value).ownBlock ∧ some k_ ≠ (.slice Ao15 x701002_1.length co15 : Value).ownBlock) (.slice Ao14 x701001_1.length co14) x701001_1) ∧ (Kd.R (Kd.int .u64) 22 w' w.heap.size (fun k_ => some k_ ≠ (s_.1 : Value).ownBlock ∧ some k_ ≠ (s_.2.1 : Value).ownBlock ∧ some k_ ≠ (.slice Ao14 x701001_1.length co14 : Value).ownBlock) (.slice Ao15 x701002_1.length co15) x701002_1) ∧ (w'.heap[gb692]? = some (.cells #[.bool x693000_1, .slice none 0 0, .slice none 0 0] 44 (0, 0))) ∧ (w'.heap[gb700]? = some (.cells #[.bool x701000_1, .slice Ao14 x701001_1.length co14, .slice Ao15 x701002_1.length co15] 44 (0, 0))) ∧ (w'.heap[s_.2.2]? = some (.cells #[.bool false, .slice none 0 0, .slice none 0 0] 44 (0, 0))) ∧ (w.heap.size ≤ s_.2.2) ∧ (w.heap.size ≤ s_.2.2) ∧ (gb692 ≠ s_.2.2) ∧ (s_.2.2 ≠ gb692) ∧ (gb700 ≠ s_.2.2) ∧ (s_.2.2 ≠ gb700) ∧ (Below w.heap.size w w')) ?_ ?_
      rotate_left
      ·
       intro hCont
       refine two_ (i := 5) (j := 9) (Ni := some 21) (Nj := some 6) (ba_ 12 63) (ba_ 12 543) rfl rfl rfl rfl (jCi HT_.out kr_) (by decide) (by decide) (fun K hK => ?_) (fun K hK => ?_)
       ·
        skip
        refine jAs Try.func79 kr_ rfl #[.agg #[.bool x701000_1, .slice Ao14 x701001_1.length co14, .slice Ao15 x701002_1.length co15], .agg #[.bool ((vH l0 x5_1).f0), .slice A701_1 ((vH l0 x5_1).f1).length c701_1, .slice A701_2 ((vH l0 x5_1).f2).length c701_2]] (by rfl) rfl rfl (by (try simp only [List.map_toArray, List.map_cons, List.map_nil]); first | done | rfl | (simp only [List.length_drop, List.length_take]; rfl)) ?_
        with_reducible refine (jq.calls k1 x701000_1 _ _ x701001_1 _ _ x701002_1 ((vH l0 x5_1).f0) _ _ ((vH l0 x5_1).f1) _ _ ((vH l0 x5_1).f2) t702 t703 t706 t709 _ ?side1 ?side2 ?side3 ?side4 ?side5 ?side6 ?side7 ?side8 A12.out).mono ?_
        (case side1 => exact cc_ (Kd.jC HO_701001.out).2.2)
        (case side2 => exact (Kd.jC HO_701001.out).2.1)
        (case side3 => exact cc_ (Kd.jC HO_701002.out).2.2)
        (case side4 => exact (Kd.jC HO_701002.out).2.1)
        (case side5 => exact cb_ HR701_1 HB)
        (case side6 => exact HC701_1.out)
        (case side7 => exact cb_ HR701_2 HB)
        (case side8 => exact HC701_2.out)
        rintro e w17 ⟨v704, v707, rfl, ho0, ho1, hb⟩
        refine ⟨_, rfl, ?_⟩
        have n0_ := jA.mk (Kd.jO (Kd.jo (Kd.jo (Kd.zm (rR_ HO_701001) hb) (Kd.jY ho0)) (Kd.jY ho1)) (fun _ h_ => h_.1))
        have n1_ := jA.mk (Kd.jO (Kd.jo (Kd.jo (Kd.zm (rR_ HO_701002) hb) (Kd.jY ho0)) (Kd.jY ho1)) (fun _ h_ => h_.1))
        have n2_ := jA.mk (Kd.jL (Kd.jG (Kd.jG ho0 (Kd.R_lt (rR_ HO_701001))) (Kd.R_lt (rR_ HO_701002))) (jB (bb2_ HB GE692 GE700)))
        have n3_ := jA.mk (Kd.jL (Kd.jG (Kd.jG ho1 (Kd.R_lt (rR_ HO_701001))) (Kd.R_lt (rR_ HO_701002))) (jB (bb2_ HB GE692 GE700)))
        have n4_ := bk_ BK692 hb
        have n5_ := bk_ BK700 hb
        have n6_ := jA.mk (jJ (bb2_ HB GE692 GE700) hb)
        clear HO_701001
        clear HO_701002
        clear BK692
        clear BK700
        clear HB
        have HO_701001 := n0_
        have HO_701002 := n1_
        have HO705 := n2_
        have HO708 := n3_
        have BK692 := n4_
        have BK700 := n5_
        have HB := n6_
        clear n0_ n1_ n2_ n3_ n4_ n5_ n6_
        (try clear hb)
        (try clear hb2)
        (try clear hk)
        (try clear hi)
        (try clear ho0)
        (try clear ho1)
        refine hK.out _ _ ⟨(jI BK700.out 0).trans rfl, (jI BK700.out 1).trans rfl, (jI BK700.out 2).trans rfl, ((HB.out.cell (World.block_lt_of_cell? w _ hw701_0)).trans hw701_0), ((HB.out.cell (World.block_lt_of_cell? w _ hw701_1)).trans hw701_1), ((HB.out.cell (World.block_lt_of_cell? w _ hw701_2)).trans hw701_2)⟩ (fun hHeld => ?_)
        clear hK K
        refine ns_ 21 ?_
        refine pu_ 6 (some 15) (ba_ 12 127) (vL HT_.out kr_) ?_
        refine pu_ 7 (some 22) (ba_ 12 255) (vL HT_.out kr_) ?_
        refine pu_ 8 (some 23) (ba_ 12 511) (vL HT_.out kr_) ?_
        refine one_ (i := 9) (N := some 6) (ba_ 12 1023) rfl rfl (ql HT_.out kr_) (by decide) (fun K hK => ?_)
        refine jCE ?hg (N := 6) ?hd (cs := #[.bool false, .slice none 0 0, .slice none 0 0]) (t := 44) ?hr ?_; (case hd => rfl); (case hg => rfl); (case hr => exact gs_)
        intro gb710 hg w18 hbox hb
        have n0_ := ro_ HO_701001 hb
        have n1_ := ro_ HO_701002 hb
        have n2_ := ro_ HO705 hb
        have n3_ := ro_ HO708 hb
        have n4_ := bk_ BK692 hb
        have n5_ := bk_ BK700 hb
        have n6_ := jA.mk (jJ (bb2_ HB GE692 GE700) hb)
        have n7_ := jA.mk (hbox)
        have n8_ := jA.mk ((by rw [hg]; exact (jB (bb2_ HB GE692 GE700)) : w.heap.size ≤ gb710))
        have n9_ := jA.mk ((by rw [hg]; exact (jB (bb2_ HB GE692 GE700)) : w.heap.size ≤ gb710))
        have n10_ := jA.mk ((by rw [hg]; exact nlt_ BK692 : gb692 ≠ gb710))
        have n11_ := jA.mk ((by rw [hg]; exact ngt_ BK692 : gb710 ≠ gb692))
        have n12_ := jA.mk ((by rw [hg]; exact nlt_ BK700 : gb700 ≠ gb710))
        have n13_ := jA.mk ((by rw [hg]; exact ngt_ BK700 : gb710 ≠ gb700))
        clear HO_701001
        clear HO_701002
        clear HO705
        clear HO708
        clear BK692
        clear BK700
        clear HB
        have HO_701001 := n0_
        have HO_701002 := n1_
        have HO705 := n2_
        have HO708 := n3_
        have BK692 := n4_
        have BK700 := n5_
        have HB := n6_
        have BK710 := n7_
        have GW710 := n8_
        have GE710 := n9_
        have NB692_710 := n10_
        have NB710_692 := n11_
        have NB700_710 := n12_
        have NB710_700 := n13_
        clear n0_ n1_ n2_ n3_ n4_ n5_ n6_ n7_ n8_ n9_ n10_ n11_ n12_ n13_
        clear hb hbox hg
        refine hK.out _ _ ⟨(jI BK700.out 0).trans rfl, (jI BK700.out 1).trans rfl, (jI BK700.out 2).trans rfl, ((HB.out.cell (World.block_lt_of_cell? w _ hw701_0)).trans hw701_0), ((HB.out.cell (World.block_lt_of_cell? w _ hw701_1)).trans hw701_1), ((HB.out.cell (World.block_lt_of_cell? w _ hw701_2)).trans hw701_2)⟩ (fun hHeld => ?_)
        clear hK K
        refine ns_ 6 ?_
        exact jBR (by simp only [jAX, Act.put, ss_]) (hCont (v704, v707, gb710) _ ⟨hHeld, (by refine pR_ ?_; exact Kd.jO HO705.out (fun _ hk => ⟨hk.1.1, ⟨hk.1.2, hk.2⟩⟩)), (by refine pR_ ?_; exact Kd.jO HO708.out (fun _ hk => ⟨hk.1.1, ⟨hk.1.2, hk.2⟩⟩)), (by refine pR_ ?_; exact Kd.jO HO_701001.out (fun _ hk => ⟨hk.1.2, ⟨hk.2, hk.1.1⟩⟩)), (by refine pR_ ?_; exact Kd.jO HO_701002.out (fun _ hk => ⟨hk.1.2, ⟨hk.2, hk.1.1⟩⟩)), (kb_ BK692), (kb_ BK700), (kb_ BK710), GW710.out, GE710.out, NB692_710.out, NB710_692.out, NB700_710.out, NB710_700.out, (bb3_ HB GE692 GE700 GE710)⟩)
       ·
        skip
        refine jCE ?hg (N := 6) ?hd (cs := #[.bool false, .slice none 0 0, .slice none 0 0]) (t := 44) ?hr ?_; (case hd => rfl); (case hg => rfl); (case hr => exact gs_)
        intro gb710 hg w17 hbox hb
        have n0_ := ro_ HO_701001 hb
        have n1_ := ro_ HO_701002 hb
        have n2_ := bk_ BK692 hb
        have n3_ := bk_ BK700 hb
        have n4_ := jA.mk (jJ (bb2_ HB GE692 GE700) hb)
        have n5_ := jA.mk (hbox)
        have n6_ := jA.mk ((by rw [hg]; exact (jB (bb2_ HB GE692 GE700)) : w.heap.size ≤ gb710))
        have n7_ := jA.mk ((by rw [hg]; exact (jB (bb2_ HB GE692 GE700)) : w.heap.size ≤ gb710))
        have n8_ := jA.mk ((by rw [hg]; exact nlt_ BK692 : gb692 ≠ gb710))
        have n9_ := jA.mk ((by rw [hg]; exact ngt_ BK692 : gb710 ≠ gb692))
        have n10_ := jA.mk ((by rw [hg]; exact nlt_ BK700 : gb700 ≠ gb710))
        have n11_ := jA.mk ((by rw [hg]; exact ngt_ BK700 : gb710 ≠ gb700))
        clear HO_701001
        clear HO_701002
        clear BK692
        clear BK700
        clear HB
        have HO_701001 := n0_
        have HO_701002 := n1_
        have BK692 := n2_
        have BK700 := n3_
        have HB := n4_
        have BK710 := n5_
        have GW710 := n6_
        have GE710 := n7_
        have NB692_710 := n8_
        have NB710_692 := n9_
        have NB700_710 := n10_
        have NB710_700 := n11_
        clear n0_ n1_ n2_ n3_ n4_ n5_ n6_ n7_ n8_ n9_ n10_ n11_
        clear hb hbox hg
        refine hK.out _ _ ⟨(jI BK700.out 0).trans rfl, (jI BK700.out 1).trans rfl, (jI BK700.out 2).trans rfl, ((HB.out.cell (World.block_lt_of_cell? w _ hw701_0)).trans hw701_0), ((HB.out.cell (World.block_lt_of_cell? w _ hw701_1)).trans hw701_1), ((HB.out.cell (World.block_lt_of_cell? w _ hw701_2)).trans hw701_2)⟩ (fun hHeld => ?_)
        clear hK K
        refine ns_ 6 ?_
        refine one_ (i := 5) (N := some 21) (ba_ 12 575) rfl rfl (ql HT_.out kr_) (by decide) (fun K hK => ?_)
        refine jAs Try.func79 kr_ rfl #[.agg #[.bool x701000_1, .slice Ao14 x701001_1.length co14, .slice Ao15 x701002_1.length co15], .agg #[.bool ((vH l0 x5_1).f0), .slice A701_1 ((vH l0 x5_1).f1).length c701_1, .slice A701_2 ((vH l0 x5_1).f2).length c701_2]] (by rfl) rfl rfl (by (try simp only [List.map_toArray, List.map_cons, List.map_nil]); first | done | rfl | (simp only [List.length_drop, List.length_take]; rfl)) ?_
        with_reducible refine (jq.calls k1 x701000_1 _ _ x701001_1 _ _ x701002_1 ((vH l0 x5_1).f0) _ _ ((vH l0 x5_1).f1) _ _ ((vH l0 x5_1).f2) t702 t703 t706 t709 _ ?side1 ?side2 ?side3 ?side4 ?side5 ?side6 ?side7 ?side8 A12.out).mono ?_
        (case side1 => exact cc_ (Kd.jC HO_701001.out).2.2)
        (case side2 => exact (Kd.jC HO_701001.out).2.1)
        (case side3 => exact cc_ (Kd.jC HO_701002.out).2.2)
        (case side4 => exact (Kd.jC HO_701002.out).2.1)
        (case side5 => exact cb_ HR701_1 HB)
        (case side6 => exact HC701_1.out)
        (case side7 => exact cb_ HR701_2 HB)
        (case side8 => exact HC701_2.out)
        rintro e w18 ⟨v704, v707, rfl, ho0, ho1, hb⟩
        refine ⟨_, rfl, ?_⟩
        have n0_ := jA.mk (Kd.jO (Kd.jo (Kd.jo (Kd.zm (rR_ HO_701001) hb) (Kd.jY ho0)) (Kd.jY ho1)) (fun _ h_ => h_.1))
        have n1_ := jA.mk (Kd.jO (Kd.jo (Kd.jo (Kd.zm (rR_ HO_701002) hb) (Kd.jY ho0)) (Kd.jY ho1)) (fun _ h_ => h_.1))
        have n2_ := jA.mk (Kd.jL (Kd.jG (Kd.jG ho0 (Kd.R_lt (rR_ HO_701001))) (Kd.R_lt (rR_ HO_701002))) (jB (bb3_ HB GE692 GE700 GE710)))
        have n3_ := jA.mk (Kd.jL (Kd.jG (Kd.jG ho1 (Kd.R_lt (rR_ HO_701001))) (Kd.R_lt (rR_ HO_701002))) (jB (bb3_ HB GE692 GE700 GE710)))
        have n4_ := bk_ BK692 hb
        have n5_ := bk_ BK700 hb
        have n6_ := bk_ BK710 hb
        have n7_ := jA.mk (jJ (bb3_ HB GE692 GE700 GE710) hb)
        clear HO_701001
        clear HO_701002
        clear BK692
        clear BK700
        clear BK710
        clear HB
        have HO_701001 := n0_
        have HO_701002 := n1_
        have HO705 := n2_
        have HO708 := n3_
        have BK692 := n4_
        have BK700 := n5_
        have BK710 := n6_
        have HB := n7_
        clear n0_ n1_ n2_ n3_ n4_ n5_ n6_ n7_
        (try clear hb)
        (try clear hb2)
        (try clear hk)
        (try clear hi)
        (try clear ho0)
        (try clear ho1)
        refine hK.out _ _ ⟨(jI BK700.out 0).trans rfl, (jI BK700.out 1).trans rfl, (jI BK700.out 2).trans rfl, ((HB.out.cell (World.block_lt_of_cell? w _ hw701_0)).trans hw701_0), ((HB.out.cell (World.block_lt_of_cell? w _ hw701_1)).trans hw701_1), ((HB.out.cell (World.block_lt_of_cell? w _ hw701_2)).trans hw701_2)⟩ (fun hHeld => ?_)
        clear hK K
        refine ns_ 21 ?_
        refine pu_ 6 (some 15) (ba_ 12 639) (vL HT_.out kr_) ?_
        refine pu_ 7 (some 22) (ba_ 12 767) (vL HT_.out kr_) ?_
        refine pu_ 8 (some 23) (ba_ 12 1023) (vL HT_.out kr_) ?_
        exact jBR (by simp only [jAX, Act.put, ss_]) (hCont (v704, v707, gb710) _ ⟨hHeld, (by refine pR_ ?_; exact Kd.jO HO705.out (fun _ hk => ⟨hk.1.1, ⟨hk.1.2, hk.2⟩⟩)), (by refine pR_ ?_; exact Kd.jO HO708.out (fun _ hk => ⟨hk.1.1, ⟨hk.1.2, hk.2⟩⟩)), (by refine pR_ ?_; exact Kd.jO HO_701001.out (fun _ hk => ⟨hk.1.2, ⟨hk.2, hk.1.1⟩⟩)), (by refine pR_ ?_; exact Kd.jO HO_701002.out (fun _ hk => ⟨hk.1.2, ⟨hk.2, hk.1.1⟩⟩)), (kb_ BK692), (kb_ BK700), (kb_ BK710), GW710.out, GE710.out, NB692_710.out, NB710_692.out, NB700_710.out, NB710_700.out, (bb3_ HB GE692 GE700 GE710)⟩)
      rintro ⟨v704, v707, gb710⟩ w19 ⟨hS_, h0_, h1_, h2_, h3_, h4_, h5_, h6_, h7_, h8_, h9_, h10_, h11_, h12_, h13_⟩
      have n0_ : jA (Kd.R (Kd.int .u64) 22 w19 w.heap.size (fun k_ => some k_ ≠ (v707 : Value).ownBlock ∧ some k_ ≠ (.slice Ao14 x701001_1.length co14 : Value).ownBlock ∧ some k_ ≠ (.slice Ao15 x701002_1.length co15 : Value).ownBlock) v704 t703) := ⟨h0_⟩
      have n1_ : jA (Kd.R (Kd.int .u64) 22 w19 w.heap.size (fun k_ => some k_ ≠ (v704 : Value).ownBlock ∧ some k_ ≠ (.slice Ao14 x701001_1.length co14 : Value).ownBlock ∧ some k_ ≠ (.slice Ao15 x701002_1.length co15 : Value).ownBlock) v707 t706) := ⟨h1_⟩
      have n2_ : jA (Kd.R (Kd.int .u64) 22 w19 w.heap.size (fun k_ => some k_ ≠ (v704 : Value).ownBlock ∧ some k_ ≠ (v707 : Value).ownBlock ∧ some k_ ≠ (.slice Ao15 x701002_1.length co15 : Value).ownBlock) (.slice Ao14 x701001_1.length co14) x701001_1) := ⟨h2_⟩
      have n3_ : jA (Kd.R (Kd.int .u64) 22 w19 w.heap.size (fun k_ => some k_ ≠ (v704 : Value).ownBlock ∧ some k_ ≠ (v707 : Value).ownBlock ∧ some k_ ≠ (.slice Ao14 x701001_1.length co14 : Value).ownBlock) (.slice Ao15 x701002_1.length co15) x701002_1) := ⟨h3_⟩
      have n4_ : jA (w19.heap[gb692]? = some (.cells #[.bool x693000_1, .slice none 0 0, .slice none 0 0] 44 (0, 0))) := ⟨h4_⟩
      have n5_ : jA (w19.heap[gb700]? = some (.cells #[.bool x701000_1, .slice Ao14 x701001_1.length co14, .slice Ao15 x701002_1.length co15] 44 (0, 0))) := ⟨h5_⟩
      have n6_ : jA (w19.heap[gb710]? = some (.cells #[.bool false, .slice none 0 0, .slice none 0 0] 44 (0, 0))) := ⟨h6_⟩
      have n7_ : jA (w.heap.size ≤ gb710) := ⟨h7_⟩
      have n8_ : jA (w.heap.size ≤ gb710) := ⟨h8_⟩
      have n9_ : jA (gb692 ≠ gb710) := ⟨h9_⟩
      have n10_ : jA (gb710 ≠ gb692) := ⟨h10_⟩
      have n11_ : jA (gb700 ≠ gb710) := ⟨h11_⟩
      have n12_ : jA (gb710 ≠ gb700) := ⟨h12_⟩
      have n13_ : jA (Below w.heap.size w w19) := ⟨h13_⟩
      clear HO_701001
      clear HO_701002
      clear BK692
      clear BK700
      clear HB
      clear h0_ h1_ h2_ h3_ h4_ h5_ h6_ h7_ h8_ h9_ h10_ h11_ h12_ h13_
      have HO705 := n0_
      have HO708 := n1_
      have HO_701001 := n2_
      have HO_701002 := n3_
      have BK692 := n4_
      have BK700 := n5_
      have BK710 := n6_
      have GW710 := n7_
      have GE710 := n8_
      have NB692_710 := n9_
      have NB710_692 := n10_
      have NB700_710 := n11_
      have NB710_700 := n12_
      have HB := n13_
      clear n0_ n1_ n2_ n3_ n4_ n5_ n6_ n7_ n8_ n9_ n10_ n11_ n12_ n13_
      have hHeld : w19.cell? ⟨gb700, 0, none⟩ = some (.bool x701000_1) ∧ w19.cell? ⟨gb700, 1, none⟩ = some (.slice Ao14 x701001_1.length co14) ∧ w19.cell? ⟨gb700, 2, none⟩ = some (.slice Ao15 x701002_1.length co15) ∧ w19.cell? (ad701.add ((x5_1).toNat * 3)) = some (.bool ((vH l0 x5_1).f0)) ∧ w19.cell? ⟨(ad701.add ((x5_1).toNat * 3)).block, (ad701.add ((x5_1).toNat * 3)).off + 1, none⟩ = some (.slice A701_1 ((vH l0 x5_1).f1).length c701_1) ∧ w19.cell? ⟨(ad701.add ((x5_1).toNat * 3)).block, (ad701.add ((x5_1).toNat * 3)).off + 2, none⟩ = some (.slice A701_2 ((vH l0 x5_1).f2).length c701_2) := hS_
      obtain ⟨Ao21, co21, eo21⟩ := Kd.jP HO705.out
      (first | subst eo21 | (injection eo21 with f1_ f2_ f3_; have f4_ := f1_.symm; have f5_ := f3_.symm; clear f1_ f2_ f3_; subst f4_; subst f5_))
      obtain ⟨Ao23, co23, eo23⟩ := Kd.jP HO708.out
      (first | subst eo23 | (injection eo23 with f1_ f2_ f3_; have f4_ := f1_.symm; have f5_ := f3_.symm; clear f1_ f2_ f3_; subst f4_; subst f5_))
      refine jBR (a' := ?_) ?_ ?_
      rotate_left
      ·
       simp only [jAX, Act.put, ss_]
       rfl
      refine one_ (i := 10) (N := none) (ba_ 12 2047) rfl rfl (ql HT_.out kr_) (by decide) (fun K hK => ?_)
      have hs20 : w19.cell? ⟨gb710, 0, none⟩ = some (.bool false) := (jI BK710.out 0).trans rfl
      have hfs20 := jK BK710.out 0
      have hns20_0 := NB692_710.out
      have hns20_1 := NB700_710.out
      have hms20_0 := NB710_692.out
      have hms20_1 := NB710_700.out
      have hs22 : w19.cell? ⟨gb710, 1, none⟩ = some (.slice none 0 0) := (jI BK710.out 1).trans rfl
      have hfs22 := jK BK710.out 1
      have hns22_0 := NB692_710.out
      have hns22_1 := NB700_710.out
      have hms22_0 := NB710_692.out
      have hms22_1 := NB710_700.out
      have hs24 : w19.cell? ⟨gb710, 2, none⟩ = some (.slice none 0 0) := (jI BK710.out 2).trans rfl
      have hfs24 := jK BK710.out 2
      have hns24_0 := NB692_710.out
      have hns24_1 := NB700_710.out
      have hms24_0 := NB710_692.out
      have hms24_1 := NB710_700.out
      refine jBt (w1 := ?_) (by rfl) rfl ?_ ?_
      rotate_left
      ·
       go_simp
       rfl
      refine hK.out _ _ ⟨((cell_far (p := ⟨gb710, _, none⟩) NB700_710.out _).trans (((cell_far (p := ⟨gb710, _, none⟩) NB700_710.out _).trans (((cell_far (p := ⟨gb710, _, none⟩) NB700_710.out _).trans (hHeld.1)))))), ((cell_far (p := ⟨gb710, _, none⟩) NB700_710.out _).trans (((cell_far (p := ⟨gb710, _, none⟩) NB700_710.out _).trans (((cell_far (p := ⟨gb710, _, none⟩) NB700_710.out _).trans (hHeld.2.1)))))), ((cell_far (p := ⟨gb710, _, none⟩) NB700_710.out _).trans (((cell_far (p := ⟨gb710, _, none⟩) NB700_710.out _).trans (((cell_far (p := ⟨gb710, _, none⟩) NB700_710.out _).trans (hHeld.2.2.1)))))), ((cell_far (p := ⟨gb710, _, none⟩) (wb_ hw701_0 GW710) _).trans (((cell_far (p := ⟨gb710, _, none⟩) (wb_ hw701_0 GW710) _).trans (((cell_far (p := ⟨gb710, _, none⟩) (wb_ hw701_0 GW710) _).trans (hHeld.2.2.2.1)))))), ((cell_far (p := ⟨gb710, _, none⟩) (wb_ hw701_1 GW710) _).trans (((cell_far (p := ⟨gb710, _, none⟩) (wb_ hw701_1 GW710) _).trans (((cell_far (p := ⟨gb710, _, none⟩) (wb_ hw701_1 GW710) _).trans (hHeld.2.2.2.2.1)))))), ((cell_far (p := ⟨gb710, _, none⟩) (wb_ hw701_2 GW710) _).trans (((cell_far (p := ⟨gb710, _, none⟩) (wb_ hw701_2 GW710) _).trans (((cell_far (p := ⟨gb710, _, none⟩) (wb_ hw701_2 GW710) _).trans (hHeld.2.2.2.2.2))))))⟩ (fun hHeld => ?_)
      clear hK K
      refine pu_ 11 (some 7) (ba_ 12 4095) (vL HT_.out kr_) ?_
      refine jBH (jAt HT_.out kr_) ?_
      have hnb25 := NB710_692.out
      have hnc25 := NB692_710.out
      have hnb26 := NB710_700.out
      have hnc26 := NB700_710.out
      have hcz27_0 : w19.cell? ⟨gb710, 0, none⟩ = some (.bool false) := (jI BK710.out 0).trans rfl
      have hcz27_1 : w19.cell? ⟨gb710, 1, none⟩ = some (.slice none 0 0) := (jI BK710.out 1).trans rfl
      have hcz27_2 : w19.cell? ⟨gb710, 2, none⟩ = some (.slice none 0 0) := (jI BK710.out 2).trans rfl
      have hfz27_0 := jK BK710.out 0
      have hfz27_1 := jK BK710.out 1
      have hfz27_2 := jK BK710.out 2
      have hnb28 := NB700_692.out
      have hnc28 := NB692_700.out
      have hcz29_0 : w19.cell? ⟨gb700, 0, none⟩ = some (.bool x701000_1) := (jI BK700.out 0).trans rfl
      have hcz29_1 : w19.cell? ⟨gb700, 1, none⟩ = some (.slice Ao14 x701001_1.length co14) := (jI BK700.out 1).trans rfl
      have hcz29_2 : w19.cell? ⟨gb700, 2, none⟩ = some (.slice Ao15 x701002_1.length co15) := (jI BK700.out 2).trans rfl
      have hfz29_0 := jK BK700.out 0
      have hfz29_1 := jK BK700.out 1
      have hfz29_2 := jK BK700.out 2
      try go_wp2
      go_roundg k1
      case measure => have := HK1.out; omega
      case rel => exact ⟨(wrap64 (x5_1 + 1)), (x693000_1), (t702), (t703), (t706), (.slice Ao21 t703.length co21), (.slice Ao23 t706.length co23), sd_, H', ⟨by have := HK1.out; omega⟩, ⟨by (with_reducible repeat (first | apply Kd.zG | apply Kd.zM | apply Kd.zP)); exact Kd.jO (Kd.vU (p := ⟨gb700, 2, none⟩) (Kd.vU (p := ⟨gb700, 1, none⟩) (Kd.vU (p := ⟨gb700, 0, none⟩) (Kd.vU (p := ⟨gb710, 2, none⟩) (Kd.vU (p := ⟨gb710, 1, none⟩) (Kd.vU (p := ⟨gb710, 0, none⟩) (Kd.jm (Kd.jm HO705.out BK710.out (by decide)) BK700.out (by decide)) (fun _ hk => hk.1.2) (.bool t702)) (fun _ hk => hk.1.2) (.slice Ao21 t703.length co21)) (fun _ hk => hk.1.2) (.slice Ao23 t706.length co23)) (fun _ hk => hk.2) (.bool t702)) (fun _ hk => hk.2) (.slice Ao21 t703.length co21)) (fun _ hk => hk.2) (.slice Ao23 t706.length co23)) (fun _ hk => hk.1.1.1)⟩, ⟨by (with_reducible repeat (first | apply Kd.zG | apply Kd.zM | apply Kd.zP)); exact Kd.jO (Kd.vU (p := ⟨gb700, 2, none⟩) (Kd.vU (p := ⟨gb700, 1, none⟩) (Kd.vU (p := ⟨gb700, 0, none⟩) (Kd.vU (p := ⟨gb710, 2, none⟩) (Kd.vU (p := ⟨gb710, 1, none⟩) (Kd.vU (p := ⟨gb710, 0, none⟩) (Kd.jm (Kd.jm HO708.out BK710.out (by decide)) BK700.out (by decide)) (fun _ hk => hk.1.2) (.bool t702)) (fun _ hk => hk.1.2) (.slice Ao21 t703.length co21)) (fun _ hk => hk.1.2) (.slice Ao23 t706.length co23)) (fun _ hk => hk.2) (.bool t702)) (fun _ hk => hk.2) (.slice Ao21 t703.length co21)) (fun _ hk => hk.2) (.slice Ao23 t706.length co23)) (fun _ hk => hk.1.1.1)⟩, ⟨by (with_reducible repeat (first | refine zU ?_ _ | refine vN ?_ | refine vT ?_ _)); refine vP ?_ NB692_700.out _; refine pk_ ?_; refine vP ?_ NB692_700.out _; refine pk_ ?_; refine vP ?_ NB692_700.out _; refine pk_ ?_; refine vP ?_ NB692_710.out _; refine pk_ ?_; refine vP ?_ NB692_710.out _; refine pk_ ?_; refine vP ?_ NB692_710.out _; refine pk_ ?_; exact BK692.out⟩, ⟨by (with_reducible repeat (first | refine zU ?_ _ | refine vN ?_ | refine vT ?_ _)); refine jc (cs := #[.bool t702, .slice Ao21 t703.length co21, .slice Ao15 x701002_1.length co15]) ?_ 2 _ rs_; refine pk_ ?_; refine jc (cs := #[.bool t702, .slice Ao14 x701001_1.length co14, .slice Ao15 x701002_1.length co15]) ?_ 1 _ rs_; refine pk_ ?_; refine jc (cs := #[.bool x701000_1, .slice Ao14 x701001_1.length co14, .slice Ao15 x701002_1.length co15]) ?_ 0 _ rs_; refine pk_ ?_; refine vP ?_ NB700_710.out _; refine pk_ ?_; refine vP ?_ NB700_710.out _; refine pk_ ?_; refine vP ?_ NB700_710.out _; refine pk_ ?_; exact BK700.out⟩, ⟨(bb3_ HB GE692 GE700 GE710)⟩⟩
     ·
      rw [if_neg c13] at H
      have c13b0 := beq_eq_false_iff_ne.mpr c13
      have c13b1 := bne_iff_ne.mpr c13
      simp only [Option.some.injEq, Prod.mk.injEq] at H
      obtain ⟨rfl, rfl, rfl, rfl⟩ := H
      obtain ⟨Ao30, co30, eo30⟩ := Kd.jP HO_701001.out
      subst eo30
      obtain ⟨Ao31, co31, eo31⟩ := Kd.jP HO_701002.out
      subst eo31
      try go_wp2
      have n0_ := jA.mk (Kd.zP HO_701001.out)
      have n1_ := jA.mk (Kd.zP HO_701002.out)
      have n2_ := jA.mk (vN BK692.out)
      have n3_ := jA.mk (vN BK700.out)
      have n4_ := jA.mk (zk HB.out)
      clear HO_701001
      clear HO_701002
      clear BK692
      clear BK700
      clear HB
      have HO_701001 := n0_
      have HO_701002 := n1_
      have BK692 := n2_
      have BK700 := n3_
      have HB := n4_
      clear n0_ n1_ n2_ n3_ n4_
      have p701 : 0 ≤ (x5_1 : Int) := of_decide_eq_true am_
      have q701 : x5_1 < (l0.length : Int) := of_decide_eq_true am_
      obtain ⟨ad701, A701_1, c701_1, A701_2, c701_2, e701, hx701_0, hx701_1, hx701_2, hl701_1, hi701_1, hl701_2, hi701_2⟩ := jCt HR0.out x5_1 p701 q701
      have hw701_2 := hx701_2
      have hw701_1 := hx701_1
      have hw701_0 := hx701_0
      cases e701
      replace hx701_0 := (HB.out.cell (World.block_lt_of_cell? w _ hx701_0)).trans hx701_0
      replace hx701_1 := (HB.out.cell (World.block_lt_of_cell? w _ hx701_1)).trans hx701_1
      replace hx701_2 := (HB.out.cell (World.block_lt_of_cell? w _ hx701_2)).trans hx701_2
      have HR701_1 := jA.mk hi701_1
      have HC701_1 := jA.mk hl701_1
      clear hi701_1 hl701_1
      have HR701_2 := jA.mk hi701_2
      have HC701_2 := jA.mk hl701_2
      clear hi701_2 hl701_2
      replace p701 := eq_true p701
      replace q701 := eq_true q701
      refine jAk (n := 12) (S := fun w' => w'.cell? ⟨gb700, 0, none⟩ = some (.bool x701000_1) ∧ w'.cell? ⟨gb700, 1, none⟩ = some (.slice Ao30 x701001_1.length co30) ∧ w'.cell? ⟨gb700, 2, none⟩ = some (.slice Ao31 x701002_1.length co31) ∧ w'.cell? (ad701.add ((x5_1).toNat * 3)) = some (.bool ((vH l0 x5_1).f0)) ∧ w'.cell? ⟨(ad701.add ((x5_1).toNat * 3)).block, (ad701.add ((x5_1).toNat * 3)).off + 1, none⟩ = some (.slice A701_1 ((vH l0 x5_1).f1).length c701_1) ∧ w'.cell? ⟨(ad701.add ((x5_1).toNat * 3)).block, (ad701.add ((x5_1).toNat * 3)).off + 2, none⟩ = some (.slice A701_2 ((vH l0 x5_1).f2).length c701_2)) (ds := []) #[false, false, false, false, false, false, false, false, false, false, false, false] kr_ rfl rfl ⟨(jI BK700.out 0).trans rfl, (jI BK700.out 1).trans rfl, (jI BK700.out 2).trans rfl, ((HB.out.cell (World.block_lt_of_cell? w _ hw701_0)).trans hw701_0), ((HB.out.cell (World.block_lt_of_cell? w _ hw701_1)).trans hw701_1), ((HB.out.cell (World.block_lt_of_cell? w _ hw701_2)).trans hw701_2)⟩ (fun hHeld => ?_); refine jAK jd.tab5 jd.jHX (fun HT_ HW_ => ?_)
      generalize wr.drew = w32 at HO_701001 HO_701002 BK692 BK700 HB HR701_1 HR701_2 hx701_0 hx701_1 hx701_2 hHeld ⊢
      refine pu_ 1 (some 17) (ba_ 12 2) (vL HT_.out kr_) ?_
      refine pu_ 2 (some 18) (ba_ 12 6) (vL HT_.out kr_) ?_
      refine pu_ 3 (some 19) (ba_ 12 14) (vL HT_.out kr_) ?_
      refine tk6_ 0 (some 16) (ba_ 12 15) (qF HT_.out HW_.out kr_) hHeld ?_
      refine tk6_ 4 (some 20) (ba_ 12 31) (qF HT_.out HW_.out kr_) hHeld ?_
      refine jHN (σ := Value × Value × Nat) 2 #[true, true, true, true, true, true, true, true, true, true, false, false] (fun s_ => [(21, .tuple #[.agg #[.bool t702, s_.1, s_.2.1], .int .i64 t709]), (6, .pointer (some ⟨s_.2.2, 0, none⟩)), (15, .tuple #[.agg #[.bool t702, s_.1, s_.2.1], .int .i64 t709]), (22, .agg #[.bool t702, s_.1, s_.2.1]), (23, .int .i64 t709)]) (fun s_ w' => (w'.cell? ⟨gb700, 0, none⟩ = some (.bool x701000_1) ∧ w'.cell? ⟨gb700, 1, none⟩ = some (.slice Ao30 x701001_1.length co30) ∧ w'.cell? ⟨gb700, 2, none⟩ = some (.slice Ao31 x701002_1.length co31) ∧ w'.cell? (ad701.add ((x5_1).toNat * 3)) = some (.bool ((vH l0 x5_1).f0)) ∧ w'.cell? ⟨(ad701.add ((x5_1).toNat * 3)).block, (ad701.add ((x5_1).toNat * 3)).off + 1, none⟩ = some (.slice A701_1 ((vH l0 x5_1).f1).length c701_1) ∧ w'.cell? ⟨(ad701.add ((x5_1).toNat * 3)).block, (ad701.add ((x5_1).toNat * 3)).off + 2, none⟩ = some (.slice A701_2 ((vH l0 x5_1).f2).length c701_2)) ∧ (Kd.R (Kd.int .u64) 22 w' w.heap.size (fun k_ => some k_ ≠ (s_.2.1 : Value).ownBlock ∧ some k_ ≠ (.slice Ao30 x701001_1.length co30 : Value).ownBlock ∧ some k_ ≠ (.slice Ao31 x701002_1.length co31 : Value).ownBlock) s_.1 t703) ∧ (Kd.R (Kd.int .u64) 22 w' w.heap.size (fun k_ => some k_ ≠ (s_.1 : Value).ownBlock ∧ some k_ ≠ (.slice Ao30 x701001_1.length co30 : Value).ownBlock ∧ some k_ ≠ (.slice Ao31 x701002_1.length co31 : Value).ownBlock) s_.2.1 t706) ∧ (Kd.R (Kd.int .u64) 22 w' w.heap.size (fun k_ => some k_ ≠ (s_.1 : Value).ownBlock ∧ some k_ ≠ (s_.2.1 : Value).ownBlock ∧ some k_ ≠ (.slice Ao31 x701002_1.length co31 : Value).ownBlock) (.slice Ao30 x701001_1.length co30) x701001_1) ∧ (Kd.R (Kd.int .u64) 22 w' w.heap.size (fun k_ => some k_ ≠ (s_.1 : Value).ownBlock ∧ some k_ ≠ (s_.2.1 : Value).ownBlock ∧ some k_ ≠ (.slice Ao30 x701001_1.length co30 : Value).ownBlock) (.slice Ao31 x701002_1.length co31) x701002_1) ∧ (w'.heap[gb692]? = some (.cells #[.bool x693000_1, .slice none 0 0, .slice none 0 0] 44 (0, 0))) ∧ (w'.heap[gb700]? = some (.cells #[.bool x701000_1, .slice Ao30 x701001_1.length co30, .slice Ao31 x701002_1.length co31] 44 (0, 0))) ∧ (w'.heap[s_.2.2]? = some (.cells #[.bool false, .slice none 0 0, .slice none 0 0] 44 (0, 0))) ∧ (w.heap.size ≤ s_.2.2) ∧ (w.heap.size ≤ s_.2.2) ∧ (gb692 ≠ s_.2.2) ∧ (s_.2.2 ≠ gb692) ∧ (gb700 ≠ s_.2.2) ∧ (s_.2.2 ≠ gb700) ∧ (Below w.heap.size w w')) ?_ ?_
      rotate_left
      ·
       intro hCont
       refine two_ (i := 5) (j := 9) (Ni := some 21) (Nj := some 6) (ba_ 12 63) (ba_ 12 543) rfl rfl rfl rfl (jCi HT_.out kr_) (by decide) (by decide) (fun K hK => ?_) (fun K hK => ?_)
       ·
        skip
        refine jAs Try.func79 kr_ rfl #[.agg #[.bool x701000_1, .slice Ao30 x701001_1.length co30, .slice Ao31 x701002_1.length co31], .agg #[.bool ((vH l0 x5_1).f0), .slice A701_1 ((vH l0 x5_1).f1).length c701_1, .slice A701_2 ((vH l0 x5_1).f2).length c701_2]] (by rfl) rfl rfl (by (try simp only [List.map_toArray, List.map_cons, List.map_nil]); first | done | rfl | (simp only [List.length_drop, List.length_take]; rfl)) ?_
        with_reducible refine (jq.calls k1 x701000_1 _ _ x701001_1 _ _ x701002_1 ((vH l0 x5_1).f0) _ _ ((vH l0 x5_1).f1) _ _ ((vH l0 x5_1).f2) t702 t703 t706 t709 _ ?side1 ?side2 ?side3 ?side4 ?side5 ?side6 ?side7 ?side8 A12.out).mono ?_
        (case side1 => exact cc_ (Kd.jC HO_701001.out).2.2)
        (case side2 => exact (Kd.jC HO_701001.out).2.1)
        (case side3 => exact cc_ (Kd.jC HO_701002.out).2.2)
        (case side4 => exact (Kd.jC HO_701002.out).2.1)
        (case side5 => exact cb_ HR701_1 HB)
        (case side6 => exact HC701_1.out)
        (case side7 => exact cb_ HR701_2 HB)
        (case side8 => exact HC701_2.out)
        rintro e w33 ⟨v704, v707, rfl, ho0, ho1, hb⟩
        refine ⟨_, rfl, ?_⟩
        have n0_ := jA.mk (Kd.jO (Kd.jo (Kd.jo (Kd.zm (rR_ HO_701001) hb) (Kd.jY ho0)) (Kd.jY ho1)) (fun _ h_ => h_.1))
        have n1_ := jA.mk (Kd.jO (Kd.jo (Kd.jo (Kd.zm (rR_ HO_701002) hb) (Kd.jY ho0)) (Kd.jY ho1)) (fun _ h_ => h_.1))
        have n2_ := jA.mk (Kd.jL (Kd.jG (Kd.jG ho0 (Kd.R_lt (rR_ HO_701001))) (Kd.R_lt (rR_ HO_701002))) (jB (bb2_ HB GE692 GE700)))
        have n3_ := jA.mk (Kd.jL (Kd.jG (Kd.jG ho1 (Kd.R_lt (rR_ HO_701001))) (Kd.R_lt (rR_ HO_701002))) (jB (bb2_ HB GE692 GE700)))
        have n4_ := bk_ BK692 hb
        have n5_ := bk_ BK700 hb
        have n6_ := jA.mk (jJ (bb2_ HB GE692 GE700) hb)
        clear HO_701001
        clear HO_701002
        clear BK692
        clear BK700
        clear HB
        have HO_701001 := n0_
        have HO_701002 := n1_
        have HO705 := n2_
        have HO708 := n3_
        have BK692 := n4_
        have BK700 := n5_
        have HB := n6_
        clear n0_ n1_ n2_ n3_ n4_ n5_ n6_
        (try clear hb)
        (try clear hb2)
        (try clear hk)
        (try clear hi)
        (try clear ho0)
        (try clear ho1)
        refine hK.out _ _ ⟨(jI BK700.out 0).trans rfl, (jI BK700.out 1).trans rfl, (jI BK700.out 2).trans rfl, ((HB.out.cell (World.block_lt_of_cell? w _ hw701_0)).trans hw701_0), ((HB.out.cell (World.block_lt_of_cell? w _ hw701_1)).trans hw701_1), ((HB.out.cell (World.block_lt_of_cell? w _ hw701_2)).trans hw701_2)⟩ (fun hHeld => ?_)
        clear hK K
        refine ns_ 21 ?_
        refine pu_ 6 (some 15) (ba_ 12 127) (vL HT_.out kr_) ?_
        refine pu_ 7 (some 22) (ba_ 12 255) (vL HT_.out kr_) ?_
        refine pu_ 8 (some 23) (ba_ 12 511) (vL HT_.out kr_) ?_
        refine one_ (i := 9) (N := some 6) (ba_ 12 1023) rfl rfl (ql HT_.out kr_) (by decide) (fun K hK => ?_)
        refine jCE ?hg (N := 6) ?hd (cs := #[.bool false, .slice none 0 0, .slice none 0 0]) (t := 44) ?hr ?_; (case hd => rfl); (case hg => rfl); (case hr => exact gs_)
        intro gb710 hg w34 hbox hb
        have n0_ := ro_ HO_701001 hb
        have n1_ := ro_ HO_701002 hb
        have n2_ := ro_ HO705 hb
        have n3_ := ro_ HO708 hb
        have n4_ := bk_ BK692 hb
        have n5_ := bk_ BK700 hb
        have n6_ := jA.mk (jJ (bb2_ HB GE692 GE700) hb)
        have n7_ := jA.mk (hbox)
        have n8_ := jA.mk ((by rw [hg]; exact (jB (bb2_ HB GE692 GE700)) : w.heap.size ≤ gb710))
        have n9_ := jA.mk ((by rw [hg]; exact (jB (bb2_ HB GE692 GE700)) : w.heap.size ≤ gb710))
        have n10_ := jA.mk ((by rw [hg]; exact nlt_ BK692 : gb692 ≠ gb710))
        have n11_ := jA.mk ((by rw [hg]; exact ngt_ BK692 : gb710 ≠ gb692))
        have n12_ := jA.mk ((by rw [hg]; exact nlt_ BK700 : gb700 ≠ gb710))
        have n13_ := jA.mk ((by rw [hg]; exact ngt_ BK700 : gb710 ≠ gb700))
        clear HO_701001
        clear HO_701002
        clear HO705
        clear HO708
        clear BK692
        clear BK700
        clear HB
        have HO_701001 := n0_
        have HO_701002 := n1_
        have HO705 := n2_
        have HO708 := n3_
        have BK692 := n4_
        have BK700 := n5_
        have HB := n6_
        have BK710 := n7_
        have GW710 := n8_
        have GE710 := n9_
        have NB692_710 := n10_
        have NB710_692 := n11_
        have NB700_710 := n12_
        have NB710_700 := n13_
        clear n0_ n1_ n2_ n3_ n4_ n5_ n6_ n7_ n8_ n9_ n10_ n11_ n12_ n13_
        clear hb hbox hg
        refine hK.out _ _ ⟨(jI BK700.out 0).trans rfl, (jI BK700.out 1).trans rfl, (jI BK700.out 2).trans rfl, ((HB.out.cell (World.block_lt_of_cell? w _ hw701_0)).trans hw701_0), ((HB.out.cell (World.block_lt_of_cell? w _ hw701_1)).trans hw701_1), ((HB.out.cell (World.block_lt_of_cell? w _ hw701_2)).trans hw701_2)⟩ (fun hHeld => ?_)
        clear hK K
        refine ns_ 6 ?_
        exact jBR (by simp only [jAX, Act.put, ss_]) (hCont (v704, v707, gb710) _ ⟨hHeld, (by refine pR_ ?_; exact Kd.jO HO705.out (fun _ hk => ⟨hk.1.1, ⟨hk.1.2, hk.2⟩⟩)), (by refine pR_ ?_; exact Kd.jO HO708.out (fun _ hk => ⟨hk.1.1, ⟨hk.1.2, hk.2⟩⟩)), (by refine pR_ ?_; exact Kd.jO HO_701001.out (fun _ hk => ⟨hk.1.2, ⟨hk.2, hk.1.1⟩⟩)), (by refine pR_ ?_; exact Kd.jO HO_701002.out (fun _ hk => ⟨hk.1.2, ⟨hk.2, hk.1.1⟩⟩)), (kb_ BK692), (kb_ BK700), (kb_ BK710), GW710.out, GE710.out, NB692_710.out, NB710_692.out, NB700_710.out, NB710_700.out, (bb3_ HB GE692 GE700 GE710)⟩)
       ·
        skip
        refine jCE ?hg (N := 6) ?hd (cs := #[.bool false, .slice none 0 0, .slice none 0 0]) (t := 44) ?hr ?_; (case hd => rfl); (case hg => rfl); (case hr => exact gs_)
        intro gb710 hg w33 hbox hb
        have n0_ := ro_ HO_701001 hb
        have n1_ := ro_ HO_701002 hb
        have n2_ := bk_ BK692 hb
        have n3_ := bk_ BK700 hb
        have n4_ := jA.mk (jJ (bb2_ HB GE692 GE700) hb)
        have n5_ := jA.mk (hbox)
        have n6_ := jA.mk ((by rw [hg]; exact (jB (bb2_ HB GE692 GE700)) : w.heap.size ≤ gb710))
        have n7_ := jA.mk ((by rw [hg]; exact (jB (bb2_ HB GE692 GE700)) : w.heap.size ≤ gb710))
        have n8_ := jA.mk ((by rw [hg]; exact nlt_ BK692 : gb692 ≠ gb710))
        have n9_ := jA.mk ((by rw [hg]; exact ngt_ BK692 : gb710 ≠ gb692))
        have n10_ := jA.mk ((by rw [hg]; exact nlt_ BK700 : gb700 ≠ gb710))
        have n11_ := jA.mk ((by rw [hg]; exact ngt_ BK700 : gb710 ≠ gb700))
        clear HO_701001
        clear HO_701002
        clear BK692
        clear BK700
        clear HB
        have HO_701001 := n0_
        have HO_701002 := n1_
        have BK692 := n2_
        have BK700 := n3_
        have HB := n4_
        have BK710 := n5_
        have GW710 := n6_
        have GE710 := n7_
        have NB692_710 := n8_
        have NB710_692 := n9_
        have NB700_710 := n10_
        have NB710_700 := n11_
        clear n0_ n1_ n2_ n3_ n4_ n5_ n6_ n7_ n8_ n9_ n10_ n11_
        clear hb hbox hg
        refine hK.out _ _ ⟨(jI BK700.out 0).trans rfl, (jI BK700.out 1).trans rfl, (jI BK700.out 2).trans rfl, ((HB.out.cell (World.block_lt_of_cell? w _ hw701_0)).trans hw701_0), ((HB.out.cell (World.block_lt_of_cell? w _ hw701_1)).trans hw701_1), ((HB.out.cell (World.block_lt_of_cell? w _ hw701_2)).trans hw701_2)⟩ (fun hHeld => ?_)
        clear hK K
        refine ns_ 6 ?_
        refine one_ (i := 5) (N := some 21) (ba_ 12 575) rfl rfl (ql HT_.out kr_) (by decide) (fun K hK => ?_)
        refine jAs Try.func79 kr_ rfl #[.agg #[.bool x701000_1, .slice Ao30 x701001_1.length co30, .slice Ao31 x701002_1.length co31], .agg #[.bool ((vH l0 x5_1).f0), .slice A701_1 ((vH l0 x5_1).f1).length c701_1, .slice A701_2 ((vH l0 x5_1).f2).length c701_2]] (by rfl) rfl rfl (by (try simp only [List.map_toArray, List.map_cons, List.map_nil]); first | done | rfl | (simp only [List.length_drop, List.length_take]; rfl)) ?_
        with_reducible refine (jq.calls k1 x701000_1 _ _ x701001_1 _ _ x701002_1 ((vH l0 x5_1).f0) _ _ ((vH l0 x5_1).f1) _ _ ((vH l0 x5_1).f2) t702 t703 t706 t709 _ ?side1 ?side2 ?side3 ?side4 ?side5 ?side6 ?side7 ?side8 A12.out).mono ?_
        (case side1 => exact cc_ (Kd.jC HO_701001.out).2.2)
        (case side2 => exact (Kd.jC HO_701001.out).2.1)
        (case side3 => exact cc_ (Kd.jC HO_701002.out).2.2)
        (case side4 => exact (Kd.jC HO_701002.out).2.1)
        (case side5 => exact cb_ HR701_1 HB)
        (case side6 => exact HC701_1.out)
        (case side7 => exact cb_ HR701_2 HB)
        (case side8 => exact HC701_2.out)
        rintro e w34 ⟨v704, v707, rfl, ho0, ho1, hb⟩
        refine ⟨_, rfl, ?_⟩
        have n0_ := jA.mk (Kd.jO (Kd.jo (Kd.jo (Kd.zm (rR_ HO_701001) hb) (Kd.jY ho0)) (Kd.jY ho1)) (fun _ h_ => h_.1))
        have n1_ := jA.mk (Kd.jO (Kd.jo (Kd.jo (Kd.zm (rR_ HO_701002) hb) (Kd.jY ho0)) (Kd.jY ho1)) (fun _ h_ => h_.1))
        have n2_ := jA.mk (Kd.jL (Kd.jG (Kd.jG ho0 (Kd.R_lt (rR_ HO_701001))) (Kd.R_lt (rR_ HO_701002))) (jB (bb3_ HB GE692 GE700 GE710)))
        have n3_ := jA.mk (Kd.jL (Kd.jG (Kd.jG ho1 (Kd.R_lt (rR_ HO_701001))) (Kd.R_lt (rR_ HO_701002))) (jB (bb3_ HB GE692 GE700 GE710)))
        have n4_ := bk_ BK692 hb
        have n5_ := bk_ BK700 hb
        have n6_ := bk_ BK710 hb
        have n7_ := jA.mk (jJ (bb3_ HB GE692 GE700 GE710) hb)
        clear HO_701001
        clear HO_701002
        clear BK692
        clear BK700
        clear BK710
        clear HB
        have HO_701001 := n0_
        have HO_701002 := n1_
        have HO705 := n2_
        have HO708 := n3_
        have BK692 := n4_
        have BK700 := n5_
        have BK710 := n6_
        have HB := n7_
        clear n0_ n1_ n2_ n3_ n4_ n5_ n6_ n7_
        (try clear hb)
        (try clear hb2)
        (try clear hk)
        (try clear hi)
        (try clear ho0)
        (try clear ho1)
        refine hK.out _ _ ⟨(jI BK700.out 0).trans rfl, (jI BK700.out 1).trans rfl, (jI BK700.out 2).trans rfl, ((HB.out.cell (World.block_lt_of_cell? w _ hw701_0)).trans hw701_0), ((HB.out.cell (World.block_lt_of_cell? w _ hw701_1)).trans hw701_1), ((HB.out.cell (World.block_lt_of_cell? w _ hw701_2)).trans hw701_2)⟩ (fun hHeld => ?_)
        clear hK K
        refine ns_ 21 ?_
        refine pu_ 6 (some 15) (ba_ 12 639) (vL HT_.out kr_) ?_
        refine pu_ 7 (some 22) (ba_ 12 767) (vL HT_.out kr_) ?_
        refine pu_ 8 (some 23) (ba_ 12 1023) (vL HT_.out kr_) ?_
        exact jBR (by simp only [jAX, Act.put, ss_]) (hCont (v704, v707, gb710) _ ⟨hHeld, (by refine pR_ ?_; exact Kd.jO HO705.out (fun _ hk => ⟨hk.1.1, ⟨hk.1.2, hk.2⟩⟩)), (by refine pR_ ?_; exact Kd.jO HO708.out (fun _ hk => ⟨hk.1.1, ⟨hk.1.2, hk.2⟩⟩)), (by refine pR_ ?_; exact Kd.jO HO_701001.out (fun _ hk => ⟨hk.1.2, ⟨hk.2, hk.1.1⟩⟩)), (by refine pR_ ?_; exact Kd.jO HO_701002.out (fun _ hk => ⟨hk.1.2, ⟨hk.2, hk.1.1⟩⟩)), (kb_ BK692), (kb_ BK700), (kb_ BK710), GW710.out, GE710.out, NB692_710.out, NB710_692.out, NB700_710.out, NB710_700.out, (bb3_ HB GE692 GE700 GE710)⟩)
      rintro ⟨v704, v707, gb710⟩ w35 ⟨hS_, h0_, h1_, h2_, h3_, h4_, h5_, h6_, h7_, h8_, h9_, h10_, h11_, h12_, h13_⟩
      have n0_ : jA (Kd.R (Kd.int .u64) 22 w35 w.heap.size (fun k_ => some k_ ≠ (v707 : Value).ownBlock ∧ some k_ ≠ (.slice Ao30 x701001_1.length co30 : Value).ownBlock ∧ some k_ ≠ (.slice Ao31 x701002_1.length co31 : Value).ownBlock) v704 t703) := ⟨h0_⟩
      have n1_ : jA (Kd.R (Kd.int .u64) 22 w35 w.heap.size (fun k_ => some k_ ≠ (v704 : Value).ownBlock ∧ some k_ ≠ (.slice Ao30 x701001_1.length co30 : Value).ownBlock ∧ some k_ ≠ (.slice Ao31 x701002_1.length co31 : Value).ownBlock) v707 t706) := ⟨h1_⟩
      have n2_ : jA (Kd.R (Kd.int .u64) 22 w35 w.heap.size (fun k_ => some k_ ≠ (v704 : Value).ownBlock ∧ some k_ ≠ (v707 : Value).ownBlock ∧ some k_ ≠ (.slice Ao31 x701002_1.length co31 : Value).ownBlock) (.slice Ao30 x701001_1.length co30) x701001_1) := ⟨h2_⟩
      have n3_ : jA (Kd.R (Kd.int .u64) 22 w35 w.heap.size (fun k_ => some k_ ≠ (v704 : Value).ownBlock ∧ some k_ ≠ (v707 : Value).ownBlock ∧ some k_ ≠ (.slice Ao30 x701001_1.length co30 : Value).ownBlock) (.slice Ao31 x701002_1.length co31) x701002_1) := ⟨h3_⟩
      have n4_ : jA (w35.heap[gb692]? = some (.cells #[.bool x693000_1, .slice none 0 0, .slice none 0 0] 44 (0, 0))) := ⟨h4_⟩
      have n5_ : jA (w35.heap[gb700]? = some (.cells #[.bool x701000_1, .slice Ao30 x701001_1.length co30, .slice Ao31 x701002_1.length co31] 44 (0, 0))) := ⟨h5_⟩
      have n6_ : jA (w35.heap[gb710]? = some (.cells #[.bool false, .slice none 0 0, .slice none 0 0] 44 (0, 0))) := ⟨h6_⟩
      have n7_ : jA (w.heap.size ≤ gb710) := ⟨h7_⟩
      have n8_ : jA (w.heap.size ≤ gb710) := ⟨h8_⟩
      have n9_ : jA (gb692 ≠ gb710) := ⟨h9_⟩
      have n10_ : jA (gb710 ≠ gb692) := ⟨h10_⟩
      have n11_ : jA (gb700 ≠ gb710) := ⟨h11_⟩
      have n12_ : jA (gb710 ≠ gb700) := ⟨h12_⟩
      have n13_ : jA (Below w.heap.size w w35) := ⟨h13_⟩
      clear HO_701001
      clear HO_701002
      clear BK692
      clear BK700
      clear HB
      clear h0_ h1_ h2_ h3_ h4_ h5_ h6_ h7_ h8_ h9_ h10_ h11_ h12_ h13_
      have HO705 := n0_
      have HO708 := n1_
      have HO_701001 := n2_
      have HO_701002 := n3_
      have BK692 := n4_
      have BK700 := n5_
      have BK710 := n6_
      have GW710 := n7_
      have GE710 := n8_
      have NB692_710 := n9_
      have NB710_692 := n10_
      have NB700_710 := n11_
      have NB710_700 := n12_
      have HB := n13_
      clear n0_ n1_ n2_ n3_ n4_ n5_ n6_ n7_ n8_ n9_ n10_ n11_ n12_ n13_
      have hHeld : w35.cell? ⟨gb700, 0, none⟩ = some (.bool x701000_1) ∧ w35.cell? ⟨gb700, 1, none⟩ = some (.slice Ao30 x701001_1.length co30) ∧ w35.cell? ⟨gb700, 2, none⟩ = some (.slice Ao31 x701002_1.length co31) ∧ w35.cell? (ad701.add ((x5_1).toNat * 3)) = some (.bool ((vH l0 x5_1).f0)) ∧ w35.cell? ⟨(ad701.add ((x5_1).toNat * 3)).block, (ad701.add ((x5_1).toNat * 3)).off + 1, none⟩ = some (.slice A701_1 ((vH l0 x5_1).f1).length c701_1) ∧ w35.cell? ⟨(ad701.add ((x5_1).toNat * 3)).block, (ad701.add ((x5_1).toNat * 3)).off + 2, none⟩ = some (.slice A701_2 ((vH l0 x5_1).f2).length c701_2) := hS_
      obtain ⟨Ao37, co37, eo37⟩ := Kd.jP HO705.out
      (first | subst eo37 | (injection eo37 with f1_ f2_ f3_; have f4_ := f1_.symm; have f5_ := f3_.symm; clear f1_ f2_ f3_; subst f4_; subst f5_))
      obtain ⟨Ao39, co39, eo39⟩ := Kd.jP HO708.out
      (first | subst eo39 | (injection eo39 with f1_ f2_ f3_; have f4_ := f1_.symm; have f5_ := f3_.symm; clear f1_ f2_ f3_; subst f4_; subst f5_))
      refine jBR (a' := ?_) ?_ ?_
      rotate_left
      ·
       simp only [jAX, Act.put, ss_]
       rfl
      refine one_ (i := 10) (N := none) (ba_ 12 2047) rfl rfl (ql HT_.out kr_) (by decide) (fun K hK => ?_)
      have hs36 : w35.cell? ⟨gb710, 0, none⟩ = some (.bool false) := (jI BK710.out 0).trans rfl
      have hfs36 := jK BK710.out 0
      have hns36_0 := NB692_710.out
      have hns36_1 := NB700_710.out
      have hms36_0 := NB710_692.out
      have hms36_1 := NB710_700.out
      have hs38 : w35.cell? ⟨gb710, 1, none⟩ = some (.slice none 0 0) := (jI BK710.out 1).trans rfl
      have hfs38 := jK BK710.out 1
      have hns38_0 := NB692_710.out
      have hns38_1 := NB700_710.out
      have hms38_0 := NB710_692.out
      have hms38_1 := NB710_700.out
      have hs40 : w35.cell? ⟨gb710, 2, none⟩ = some (.slice none 0 0) := (jI BK710.out 2).trans rfl
      have hfs40 := jK BK710.out 2
      have hns40_0 := NB692_710.out
      have hns40_1 := NB700_710.out
      have hms40_0 := NB710_692.out
      have hms40_1 := NB710_700.out
      refine jBt (w1 := ?_) (by rfl) rfl ?_ ?_
      rotate_left
      ·
       go_simp
       rfl
      refine hK.out _ _ ⟨((cell_far (p := ⟨gb710, _, none⟩) NB700_710.out _).trans (((cell_far (p := ⟨gb710, _, none⟩) NB700_710.out _).trans (((cell_far (p := ⟨gb710, _, none⟩) NB700_710.out _).trans (hHeld.1)))))), ((cell_far (p := ⟨gb710, _, none⟩) NB700_710.out _).trans (((cell_far (p := ⟨gb710, _, none⟩) NB700_710.out _).trans (((cell_far (p := ⟨gb710, _, none⟩) NB700_710.out _).trans (hHeld.2.1)))))), ((cell_far (p := ⟨gb710, _, none⟩) NB700_710.out _).trans (((cell_far (p := ⟨gb710, _, none⟩) NB700_710.out _).trans (((cell_far (p := ⟨gb710, _, none⟩) NB700_710.out _).trans (hHeld.2.2.1)))))), ((cell_far (p := ⟨gb710, _, none⟩) (wb_ hw701_0 GW710) _).trans (((cell_far (p := ⟨gb710, _, none⟩) (wb_ hw701_0 GW710) _).trans (((cell_far (p := ⟨gb710, _, none⟩) (wb_ hw701_0 GW710) _).trans (hHeld.2.2.2.1)))))), ((cell_far (p := ⟨gb710, _, none⟩) (wb_ hw701_1 GW710) _).trans (((cell_far (p := ⟨gb710, _, none⟩) (wb_ hw701_1 GW710) _).trans (((cell_far (p := ⟨gb710, _, none⟩) (wb_ hw701_1 GW710) _).trans (hHeld.2.2.2.2.1)))))), ((cell_far (p := ⟨gb710, _, none⟩) (wb_ hw701_2 GW710) _).trans (((cell_far (p := ⟨gb710, _, none⟩) (wb_ hw701_2 GW710) _).trans (((cell_far (p := ⟨gb710, _, none⟩) (wb_ hw701_2 GW710) _).trans (hHeld.2.2.2.2.2))))))⟩ (fun hHeld => ?_)
      clear hK K
      refine pu_ 11 (some 7) (ba_ 12 4095) (vL HT_.out kr_) ?_
      refine jBH (jAt HT_.out kr_) ?_
      have hnb41 := NB692_700.out
      have hnc41 := NB700_692.out
      have hnb42 := NB692_710.out
      have hnc42 := NB710_692.out
      have hcz43_0 : w35.cell? ⟨gb692, 0, none⟩ = some (.bool x693000_1) := (jI BK692.out 0).trans rfl
      have hcz43_1 : w35.cell? ⟨gb692, 1, none⟩ = some (.slice none 0 0) := (jI BK692.out 1).trans rfl
      have hcz43_2 : w35.cell? ⟨gb692, 2, none⟩ = some (.slice none 0 0) := (jI BK692.out 2).trans rfl
      have hfz43_0 := jK BK692.out 0
      have hfz43_1 := jK BK692.out 1
      have hfz43_2 := jK BK692.out 2
      try go_wp2
      refine bodyPost_ret (za rfl _ _ gb692 44 #[.bool false, .slice none 0 0, .slice none 0 0] (0, 0) _ rfl (by refine pk_ ?_; refine jc (cs := #[.bool false, .slice none 0 0, .slice none 0 0]) ?_ 2 _ rs_; refine pk_ ?_; refine jc (cs := #[.bool false, .slice none 0 0, .slice none 0 0]) ?_ 1 _ rs_; refine pk_ ?_; refine jc (cs := #[.bool x693000_1, .slice none 0 0, .slice none 0 0]) ?_ 0 _ rs_; refine pk_ ?_; refine vP ?_ NB692_710.out _; refine pk_ ?_; refine vP ?_ NB692_710.out _; refine pk_ ?_; refine vP ?_ NB692_710.out _; refine pk_ ?_; exact BK692.out) Try.underlying44 rfl kr_) rfl ?_
      exact ⟨_, _, ew_, nl_, nl_, (bb3_ HB GE692 GE700 GE710)⟩
    ·
     rw [if_neg c11] at H
     exact absurd H (by simp)
   ·
    rw [if_neg c10] at H
    have c10b0 := decide_eq_false c10
    clear c10
    simp only [Option.some.injEq, Prod.mk.injEq] at H
    obtain ⟨rfl, rfl, rfl, rfl⟩ := H
    have hnb44 := NB700_692.out
    have hnc44 := NB692_700.out
    have hcz45_0 : wr.cell? ⟨gb700, 0, none⟩ = some (.bool x701000_1) := (jI BK700.out 0).trans rfl
    have hcz45_1 : wr.cell? ⟨gb700, 1, none⟩ = some (u701001) := (jI BK700.out 1).trans rfl
    have hcz45_2 : wr.cell? ⟨gb700, 2, none⟩ = some (u701002) := (jI BK700.out 2).trans rfl
    have hfz45_0 := jK BK700.out 0
    have hfz45_1 := jK BK700.out 1
    have hfz45_2 := jK BK700.out 2
    have hcz46_0 : wr.cell? ⟨gb692, 0, none⟩ = some (.bool x693000_1) := (jI BK692.out 0).trans rfl
    have hcz46_1 : wr.cell? ⟨gb692, 1, none⟩ = some (.slice none 0 0) := (jI BK692.out 1).trans rfl
    have hcz46_2 : wr.cell? ⟨gb692, 2, none⟩ = some (.slice none 0 0) := (jI BK692.out 2).trans rfl
    have hfz46_0 := jK BK692.out 0
    have hfz46_1 := jK BK692.out 1
    have hfz46_2 := jK BK692.out 2
    obtain ⟨Ao47, co47, eo47⟩ := Kd.jP HO_701001.out
    subst eo47
    obtain ⟨Ao48, co48, eo48⟩ := Kd.jP HO_701002.out
    subst eo48
    go_wp2
    refine bodyPost_ret (za rfl _ _ gb692 44 #[.bool x701000_1, .slice Ao47 x701001_1.length co47, .slice Ao48 x701002_1.length co48] (0, 0) _ rfl (by refine pk_ ?_; refine jc (cs := #[.bool x701000_1, .slice Ao47 x701001_1.length co47, .slice none 0 0]) ?_ 2 _ rs_; refine pk_ ?_; refine jc (cs := #[.bool x701000_1, .slice none 0 0, .slice none 0 0]) ?_ 1 _ rs_; refine pk_ ?_; refine jc (cs := #[.bool x693000_1, .slice none 0 0, .slice none 0 0]) ?_ 0 _ rs_; refine pk_ ?_; exact BK692.out) Try.underlying44 rfl kr_) rfl ?_
    exact ⟨_, _, ew_, by refine pR_ ?_; exact Kd.jO (Kd.vU (p := ⟨gb692, 2, none⟩) (Kd.vU (p := ⟨gb692, 1, none⟩) (Kd.vU (p := ⟨gb692, 0, none⟩) (Kd.jm HO_701001.out BK692.out (by decide)) (fun _ hk => hk.2) (.bool x701000_1)) (fun _ hk => hk.2) (.slice Ao47 x701001_1.length co47)) (fun _ hk => hk.2) (.slice Ao48 x701002_1.length co48)) (fun _ hk => hk.1), by refine pR_ ?_; exact Kd.jO (Kd.vU (p := ⟨gb692, 2, none⟩) (Kd.vU (p := ⟨gb692, 1, none⟩) (Kd.vU (p := ⟨gb692, 0, none⟩) (Kd.jm HO_701002.out BK692.out (by decide)) (fun _ hk => hk.2) (.bool x701000_1)) (fun _ hk => hk.2) (.slice Ao47 x701001_1.length co47)) (fun _ hk => hk.2) (.slice Ao48 x701002_1.length co48)) (fun _ hk => hk.1), (bb2_ HB GE692 GE700)⟩
end Go.Proofs.Ytijgeonhbmgikaa.PORatioMakes
