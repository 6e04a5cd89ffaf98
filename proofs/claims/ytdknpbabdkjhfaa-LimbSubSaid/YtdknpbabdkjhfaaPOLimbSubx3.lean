-- Written by a program of this session (pr.py, over the kit's print.py).
import Derived.Test.YtdknpbabdkjhfaaPOLimbSubx0
import Derived.Test.YtdknpbabdkjhfaaPOLimbSubx1
import Derived.Test.YtdknpbabdkjhfaaPOLimbSubx2
namespace Go.Proofs.Ytdknpbabdkjhfaa.POLimbSub
open Go.RowKit Go.Proofs.YtdknpbabdkjhfaaN Go.Proofs.YtdknpbabdkjhfaaW.PrintWords Go.Proofs.YtdknpbabdkjhfaaW.PrintLast Go.Proofs.YtdknpbabdkjhfaaW.PrintMore
attribute [local go_sem] max2_int min2_int max_two min_two max_three min_three max_four min_four   -- for this text's walks alone
set_option linter.unusedVariables false
set_option linter.unusedSimpArgs false

/-! ### limb_Sub: function 19 -/
set_option maxHeartbeats 4000000 in
set_option maxRecDepth 100000 in
theorem limb_Sub.cl (gx gc ga i n cap : Nat) (y a b : Int) (w : World) (hx : w.cell? ⟨gx, 0, none⟩ = some (.slice (some ⟨ga, 0, none⟩) n cap)) (hc : w.cell? ⟨gc, 0, none⟩ = some (.int .u64 b)) (ha : w.cell? ⟨ga, i, none⟩ = some (.int .u64 a))
    (hne : gc ≠ ga) (fa : w.frozen? ⟨ga, i, none⟩ = false) (fc : w.frozen? ⟨gc, 0, none⟩ = false) (hi : (i : Int) < (n : Int)) (hb : decide (b ≤ 1) = true) :
    Calls Try.prog 33 #[.int .i64 i, .int .u64 y, .pointer (some ⟨gx, 0, none⟩), .pointer (some ⟨gc, 0, none⟩)] w fun e w' => e = .returned (.tuple #[]) ∧ w' = ((w.setCell ⟨ga, i, none⟩ (.int .u64 (sb64 a y b))).setCell ⟨gc, 0, none⟩ (.int .u64 (bb64 a y b))).drew := by
  rw [← World.setCell_drew, ← World.setCell_drew]
  have hi0 : 0 ≤ (i : Int) := by omega
  have fa' : w.drew.frozen? ⟨ga, i, none⟩ = false := fa
  have fc' : w.drew.frozen? ⟨gc, 0, none⟩ = false := fc
  have hx' : w.drew.cell? ⟨gx, 0, none⟩ = some (.slice (some ⟨ga, 0, none⟩) n cap) := hx
  have ha' : w.drew.cell? ⟨ga, i, none⟩ = some (.int .u64 a) := ha
  have hc' : w.drew.cell? ⟨gc, 0, none⟩ = some (.int .u64 b) := hc
  clear fa fc hx ha hc
  go_enter Try.func33, Try.ntmps33
  refine start_ (n := 15) (S := fun w' => w'.cell? ⟨gx, 0, none⟩ = some (.slice (some ⟨ga, 0, none⟩) n cap) ∧ w'.cell? ⟨ga, i, none⟩ = some (.int .u64 a) ∧ w'.cell? ⟨gc, 0, none⟩ = some (.int .u64 b)) (ds := [13, 14]) #[false, false, false, false, false, false, false, false, false, false, false, false, false, false, false] (by kernel_rfl) rfl rfl ⟨hx', ha', hc'⟩ (fun hHeld => ?_)
  generalize w.drew = w1 at fa' fc' hx' ha' hc' hHeld ⊢
  refine pure_ (i := 1) (N := some 8) (v := ?_) (a' := ?_) #[false, true, false, false, false, false, false, false, false, false, false, false, false, false, false] rfl rfl (by kernel_rfl) (fun _ _ _ h => h) (Or.inl ⟨by rfl, ?_⟩) ?_ ?_
  rotate_left
  · intro w'
    go_simp
    with_reducible rfl
  rotate_left
  · simp only [Act.put, List.setIfInBounds_toArray, List.set_cons_zero, List.set_cons_succ, i64_w, i32_w]
    rfl
  refine pure_ (i := 3) (N := some 10) (v := ?_) (a' := ?_) #[false, true, false, true, false, false, false, false, false, false, false, false, false, false, false] rfl rfl (by kernel_rfl) (fun _ _ _ h => h) (Or.inl ⟨by rfl, ?_⟩) ?_ ?_
  rotate_left
  · intro w'
    go_simp
    with_reducible rfl
  rotate_left
  · simp only [Act.put, List.setIfInBounds_toArray, List.set_cons_zero, List.set_cons_succ, i64_w, i32_w]
    rfl
  refine pure_ (i := 6) (N := some 13) (v := ?_) (a' := ?_) #[false, true, false, true, false, false, true, false, false, false, false, false, false, false, false] rfl rfl (by kernel_rfl) (fun _ _ _ h => h) (Or.inl ⟨by rfl, ?_⟩) ?_ ?_
  rotate_left
  · intro w'
    go_simp
    with_reducible rfl
  rotate_left
  · simp only [Act.put, List.setIfInBounds_toArray, List.set_cons_zero, List.set_cons_succ, i64_w, i32_w]
    rfl
  refine take_ (i := 0) (N := some 7) (v := ?_) (a' := ?_) #[true, true, false, true, false, false, true, false, false, false, false, false, false, false, false] rfl rfl (by kernel_rfl) (fun _ _ _ h => h) (Or.inl ⟨by rfl, ?_⟩) hHeld ?_ ?_
  rotate_left
  · rintro w' ⟨s0, s1, s2⟩
    go_simp
    with_reducible rfl
  rotate_left
  · simp only [Act.put, List.setIfInBounds_toArray, List.set_cons_zero, List.set_cons_succ, i64_w, i32_w]
    rfl
  refine take_ (i := 2) (N := some 9) (v := ?_) (a' := ?_) #[true, true, true, true, false, false, true, false, false, false, false, false, false, false, false] rfl rfl (by kernel_rfl) (fun _ _ _ h => h) (Or.inl ⟨by rfl, ?_⟩) hHeld ?_ ?_
  rotate_left
  · rintro w' ⟨s0, s1, s2⟩
    go_simp
    with_reducible rfl
  rotate_left
  · simp only [Act.put, List.setIfInBounds_toArray, List.set_cons_zero, List.set_cons_succ, i64_w, i32_w]
    rfl
  refine pure_ (i := 4) (N := some 11) (v := ?_) (a' := ?_) #[true, true, true, true, true, false, true, false, false, false, false, false, false, false, false] rfl rfl (by kernel_rfl) (fun _ _ _ h => h) (Or.inl ⟨by rfl, ?_⟩) ?_ ?_
  rotate_left
  · intro w'
    go_simp
    with_reducible rfl
  rotate_left
  · simp only [Act.put, List.setIfInBounds_toArray, List.set_cons_zero, List.set_cons_succ, i64_w, i32_w]
    rfl
  refine take_ (i := 5) (N := some 12) (v := ?_) (a' := ?_) #[true, true, true, true, true, true, true, false, false, false, false, false, false, false, false] rfl rfl (by kernel_rfl) (fun _ _ _ h => h) (Or.inl ⟨by rfl, ?_⟩) hHeld ?_ ?_
  rotate_left
  · rintro w' ⟨s0, s1, s2⟩
    go_simp
    with_reducible rfl
  rotate_left
  · simp only [Act.put, List.setIfInBounds_toArray, List.set_cons_zero, List.set_cons_succ, i64_w, i32_w]
    rfl
  refine take_ (i := 7) (N := some 14) (v := ?_) (a' := ?_) #[true, true, true, true, true, true, true, true, false, false, false, false, false, false, false] rfl rfl (by kernel_rfl) (fun _ _ _ h => h) (Or.inl ⟨by rfl, ?_⟩) hHeld ?_ ?_
  rotate_left
  · rintro w' ⟨s0, s1, s2⟩
    go_simp
    with_reducible rfl
  rotate_left
  · simp only [Act.put, List.setIfInBounds_toArray, List.set_cons_zero, List.set_cons_succ, i64_w, i32_w]
    rfl
  refine pure_ (i := 8) (N := some 15) (v := ?_) (a' := ?_) #[true, true, true, true, true, true, true, true, true, false, false, false, false, false, false] rfl rfl (by kernel_rfl) (fun _ _ _ h => h) (Or.inl ⟨by rfl, ?_⟩) ?_ ?_
  rotate_left
  · intro w'
    go_simp
    with_reducible rfl
  rotate_left
  · simp only [Act.put, List.setIfInBounds_toArray, List.set_cons_zero, List.set_cons_succ, i64_w, i32_w]
    rfl
  refine pure_ (i := 9) (N := some 6) (v := ?_) (a' := ?_) #[true, true, true, true, true, true, true, true, true, true, false, false, false, false, false] rfl rfl (by kernel_rfl) (fun _ _ _ h => h) (Or.inl ⟨by rfl, ?_⟩) ?_ ?_
  rotate_left
  · intro w'
    go_simp
    with_reducible rfl
  rotate_left
  · simp only [Act.put, List.setIfInBounds_toArray, List.set_cons_zero, List.set_cons_succ, i64_w, i32_w]
    rfl
  refine pure_ (i := 10) (N := some 16) (v := ?_) (a' := ?_) #[true, true, true, true, true, true, true, true, true, true, true, false, false, false, false] rfl rfl (by kernel_rfl) (fun _ _ _ h => h) (Or.inl ⟨by rfl, ?_⟩) ?_ ?_
  rotate_left
  · intro w'
    go_simp
    with_reducible rfl
  rotate_left
  · simp only [Act.put, List.setIfInBounds_toArray, List.set_cons_zero, List.set_cons_succ, i64_w, i32_w]
    rfl
  refine pure_ (i := 11) (N := some 17) (v := ?_) (a' := ?_) #[true, true, true, true, true, true, true, true, true, true, true, true, false, false, false] rfl rfl (by kernel_rfl) (fun _ _ _ h => h) (Or.inl ⟨by rfl, ?_⟩) ?_ ?_
  rotate_left
  · intro w'
    go_simp
    with_reducible rfl
  rotate_left
  · simp only [Act.put, List.setIfInBounds_toArray, List.set_cons_zero, List.set_cons_succ, i64_w, i32_w]
    rfl
  refine pure_ (i := 12) (N := some 18) (v := ?_) (a' := ?_) #[true, true, true, true, true, true, true, true, true, true, true, true, true, false, false] rfl rfl (by kernel_rfl) (fun _ _ _ h => h) (Or.inl ⟨by rfl, ?_⟩) ?_ ?_
  rotate_left
  · intro w'
    go_simp
    with_reducible rfl
  rotate_left
  · simp only [Act.put, List.setIfInBounds_toArray, List.set_cons_zero, List.set_cons_succ, i64_w, i32_w]
    rfl
  refine last_ (i := 13) (N := none) #[true, true, true, true, true, true, true, true, true, true, true, true, true, true, false] rfl rfl (by kernel_rfl) (by decide) (fun K hK => ?_)
  refine skip_ (w1 := ?_) (by rfl) rfl ?_ ?_
  rotate_left
  · go_simp
    rfl
  refine hK.out _ _ ?_
  clear hK K
  refine last_ (i := 14) (N := none) #[true, true, true, true, true, true, true, true, true, true, true, true, true, true, true] rfl rfl (by kernel_rfl) (by decide) (fun K hK => ?_)
  refine skip_ (w1 := ?_) (by rfl) rfl ?_ ?_
  rotate_left
  · go_simp
    rfl
  refine hK.out _ _ ?_
  clear hK K
  refine done_ (by kernel_rfl) ?_
  go_wp2
  go_end0
  exact ⟨rfl, rfl⟩

/-- The loop: from place i on, d limbs are still to come. -/
def limb_Sub.l0 : Nat → List Int → List Int → Int → Nat → List Int
  | 0, x, _, _, _ => x
  | d + 1, x, b, c, i => limb_Sub.l0 d (x.set i (sb64 (x.getD i 0) (b.getD i 0) c)) b (bb64 (x.getD i 0) (b.getD i 0) c) (i + 1)
def limb_Sub.f (k : Nat) (l0 l1 : List Int) : Option (List Int × Bool) := (limb_Cmp.f k l0 l1).bind fun t => if t < 0 then some ([], false) else (limb_Trim.f k l0).bind fun x => (limb_trim.f k (limb_Sub.l0 x.length x l1 0 0)).bind fun r => some (r, true)
theorem limb_Sub.mono : ∀ a0 a1 k, LeO (limb_Sub.f k a0 a1) (limb_Sub.f (k + 1) a0 a1) := by
  intro a0 a1 k
  unfold limb_Sub.f
  exact LeO.bind (limb_Cmp.mono _ _ _) fun _ => LeO.ite (LeO.refl _) (LeO.bind (limb_Trim.mono _ _) fun _ => LeO.bind (limb_trim.mono _ _) fun _ => LeO.refl _)
theorem bb64_le (x y b : Int) : decide (bb64 x y b ≤ 1) = true := by
  unfold bb64; split <;> decide
set_option maxHeartbeats 8000000 in
set_option maxRecDepth 100000 in
theorem limb_Sub.calls (k : Nat) (A0 : Option Addr) (c0 : Nat) (l0 : List Int) (A1 : Option Addr) (c1 : Nat) (l1 : List Int) (r1 : List Int) (r2 : Bool) (w : World) (hr0 : Kd.C (Kd.int .u64) w A0 l0.length l0) (hc0 : l0.length ≤ c0) (hr1 : Kd.C (Kd.int .u64) w A1 l1.length l1) (hc1 : l1.length ≤ c1) (h : limb_Sub.f k l0 l1 = some (r1, r2)) :
    Calls Try.prog 19 #[.slice A0 l0.length c0, .slice A1 l1.length c1] w fun e w' => ∃ v0_ : Value, e = .returned (.tuple #[v0_, .bool r2]) ∧ Kd.R (Kd.int .u64) 36 w' w.heap.size (fun _ => True) v0_ r1 ∧ Below w.heap.size w w' := by
  have HR0 := Aside0.mk hr0
  have HC0 := Aside0.mk hc0
  have HR1 := Aside0.mk hr1
  have HC1 := Aside0.mk hc1
  clear hr0 hc0 hr1 hc1
  unfold limb_Sub.f at h
  obtain ⟨t, ht, h⟩ := Option.bind_eq_some_iff.mp h
  have HT := Aside0.mk ht
  clear ht
  by_cases hneg : t < 0
  · rw [if_pos hneg] at h
    have c4b0 : decide (t < 0) = true := decide_eq_true hneg
    clear hneg
    simp only [Option.some.injEq, Prod.mk.injEq] at h
    obtain ⟨rfl, rfl⟩ := h
    go_enter Try.func19, Try.ntmps19
    go_wp2_with (go_at_call 13; (with_reducible refine (limb_Cmp.calls k _ _ l0 _ _ l1 t _ HR0.out HC0.out HR1.out HC1.out HT.out).mono ?_); rintro e w1 ⟨rfl, hb⟩; have HB := Aside0.mk hb; clear hb)
    go_ret2
    exact ⟨_, rfl, Kd.R_nil _ _ _ _ _, HB.out⟩
  · rw [if_neg hneg] at h
    have c4b0 : decide (t < 0) = false := decide_eq_false hneg
    clear hneg
    obtain ⟨x, hx, h⟩ := Option.bind_eq_some_iff.mp h
    obtain ⟨r, hr, h⟩ := Option.bind_eq_some_iff.mp h
    have HX := Aside0.mk hx
    have HR := Aside0.mk hr
    clear hx hr
    simp only [Option.some.injEq, Prod.mk.injEq] at h
    obtain ⟨rfl, rfl⟩ := h
    go_enter Try.func19, Try.ntmps19
    go_wp2_with (go_at_call 13; (with_reducible refine (limb_Cmp.calls k _ _ l0 _ _ l1 t _ HR0.out HC0.out HR1.out HC1.out HT.out).mono ?_); rintro e w1 ⟨rfl, hb⟩; have HB := Aside0.mk hb; clear hb)
    refine (limb_Trim.calls k _ _ l0 x _ (Kd.C_below HR0.out HB.out) HC0.out HX.out).mono ?_
    rintro e w2 ⟨v, rfl, ho, hb⟩
    obtain ⟨Ax, cx, ev⟩ := Kd.R_slice ho
    subst ev
    have HB2 := Aside0.mk (below_step HB.out hb)
    have HB1 := HB
    have HO := Aside0.mk ho
    clear HB ho hb
    go_wp2_with fail
    go_loopg [19] x.length (fun kq v19 wr => ∃ (i : Nat) (xs : List Int) (c : Int), v19 = .int .i64 i ∧ Aside0 (i + kq = x.length) ∧ Aside0 (limb_Sub.l0 kq xs l1 c i = limb_Sub.l0 x.length x l1 0 0) ∧ Aside0 (decide (c ≤ 1) = true) ∧ Aside0 (wr.heap[w2.heap.size]? = some (.cells #[.slice Ax x.length cx] 22 (0, 0))) ∧ Aside0 (wr.heap[w2.heap.size + 1]? = some (.cells #[.int .u64 c] 36 (0, 0))) ∧ Aside0 (Kd.R (Kd.int .u64) 36 wr w.heap.size (fun k_ => k_ < w2.heap.size) (.slice Ax x.length cx) xs) ∧ Aside0 (Below w.heap.size w wr))
    case atStart =>
      refine ⟨0, x, 0, rfl, ⟨by omega⟩, ⟨rfl⟩, ⟨by decide⟩, ⟨blk_alloc (blk_new w2 _) _⟩, ⟨?_⟩, ⟨?_⟩, ⟨below_alloc (below_alloc HB2.out _) _⟩⟩
      · have h_ := blk_new (w2.alloc (.cells #[.slice Ax x.length cx] 22)) (.cells #[.int .u64 0] 36)
        simpa using h_
      · refine Kd.R_alloc (Kd.R_alloc (Kd.R_mono (Kd.R_bound (Kd.R_lower HO.out (below_size HB1.out))) (fun k_ hk => hk.2.2.1)) _) _
    case round =>
      obtain ⟨i, xs, c, rfl, HI, HS, HC, HX1, HX2, HO1, HB3⟩ := hrel
      have hcx : wr.cell? ⟨w2.heap.size, 0, none⟩ = some (.slice Ax x.length cx) := (blk_cell HX1.out 0).trans rfl
      cases gk with
      | zero =>
        obtain rfl : i = x.length := by have := HI.out; omega
        have hxl : xs.length = x.length := (Kd.R_reads' HO1.out).1.symm
        have hs := HS.out
        simp only [limb_Sub.l0] at hs
        have HR' := Aside0.mk (show limb_trim.f k xs = some r from hs ▸ HR.out)
        have HO2 := HO1.out
        rw [← hxl] at HO2
        have HO3 := Aside0.mk HO2
        have HXL := Aside0.mk hxl
        clear hxl hs HO2
        go_wp2_with fail
        rw [← HXL.out]
        refine (limb_trim.own k _ _ _ _ xs r _ HO3.out HR'.out).mono ?_
        rintro e w3 ⟨v, rfl, ho, hb⟩
        have HO4 := Aside0.mk ho
        have HB4 := Aside0.mk (below_step HB3.out hb)
        clear ho hb
        go_wp2
        go_ret2
        exact ⟨_, rfl, Kd.R_mono HO4.out (fun _ _ => trivial), HB4.out⟩
      | succ d =>
        have hilt : i < x.length := by have := HI.out; omega
        have hxl : xs.length = x.length := (Kd.R_reads' HO1.out).1.symm
        obtain ⟨ga, ca, ea, hga0, hga1, cells, hga2⟩ := Kd.R_form HO1.out (by omega)
        injection ea with ea_ en_ ec_
        subst ea_
        subst ec_
        clear en_ hga2 cells hga1
        have hgl : ga < w2.heap.size := HO1.out.1 ga rfl
        have HN := Aside0.mk (show w2.heap.size ≠ ga ∧ w2.heap.size + 1 ≠ ga ∧ w.heap.size ≤ ga from ⟨by omega, by omega, hga0⟩)
        have hne : w2.heap.size + 1 ≠ ga := HN.out.2.1
        obtain ⟨hca, hfa⟩ := Kd.R_celln 0 HO1.out (i : Int) (by omega) (by omega)
        rw [Int.toNat_natCast] at hca hfa
        replace hca : wr.cell? ⟨ga, i, none⟩ = some (.int .u64 (xs.getD i 0)) := hca
        have hcc : wr.cell? ⟨w2.heap.size + 1, 0, none⟩ = some (.int .u64 c) := (blk_cell HX2.out 0).trans rfl
        have hfc : wr.frozen? ⟨w2.heap.size + 1, 0, none⟩ = false := blk_frozen HX2.out 0
        have hin : (i : Int) < (x.length : Int) := by omega
        have hmx : (x.length : Int) ≤ 9223372036854775807 := by have := (Kd.R_reads' HO1.out).2.2.2.1; omega
        clear hgl hga0 hxl hilt
        by_cases hib : i < l1.length
        · obtain ⟨ad, e1, hcb⟩ := Kd.at_int HR1.out (i : Int) (by omega) (by omega)
          cases e1
          replace hcb := (HB3.out.cell (World.block_lt_of_cell? w _ hcb)).trans hcb
          rw [Int.toNat_natCast] at hcb
          have hib' : (i : Int) < (l1.length : Int) := by omega
          have hyv : l1.getD i 0 = rd l1 (i : Int) := rfl
          go_wp2_with fail
          refine (limb_Sub.cl w2.heap.size (w2.heap.size + 1) ga i x.length cx (rd l1 (i : Int)) (xs.getD i 0) c wr hcx hcc hca hne hfa hfc hin HC.out).mono ?_
          rintro e w' ⟨rfl, rfl⟩
          go_wp2
          go_roundg d
          case measure => omega
          case rel =>
            have hst := box_step (i := i) (s := sb64 (xs.getD i 0) (l1.getD i 0) c) (c' := bb64 (xs.getD i 0) (l1.getD i 0) c) HX1.out HX2.out HO1.out HB3.out HN.out.1 HN.out.2.1 (by omega) HN.out.2.2 (by have := below_size HB2.out; omega) (fun k_ hk => by omega)
            rw [hyv] at hst
            exact ⟨i + 1, _, _, by go_num, ⟨by have := HI.out; omega⟩, ⟨by have h_ := HS.out; rw [limb_Sub.l0, hyv] at h_; exact h_⟩, ⟨bb64_le _ _ _⟩, ⟨hst.1⟩, ⟨hst.2.1⟩, ⟨hst.2.2.1⟩, ⟨hst.2.2.2⟩⟩
        · have hib' : decide (i < l1.length) = false := decide_eq_false hib
          have hyv : l1.getD i 0 = 0 := by rw [List.getD_eq_getElem?_getD, List.getElem?_eq_none (by omega)]; rfl
          go_wp2_with fail
          refine (limb_Sub.cl w2.heap.size (w2.heap.size + 1) ga i x.length cx (0) (xs.getD i 0) c wr hcx hcc hca hne hfa hfc hin HC.out).mono ?_
          rintro e w' ⟨rfl, rfl⟩
          go_wp2
          go_roundg d
          case measure => omega
          case rel =>
            have hst := box_step (i := i) (s := sb64 (xs.getD i 0) (l1.getD i 0) c) (c' := bb64 (xs.getD i 0) (l1.getD i 0) c) HX1.out HX2.out HO1.out HB3.out HN.out.1 HN.out.2.1 (by omega) HN.out.2.2 (by have := below_size HB2.out; omega) (fun k_ hk => by omega)
            rw [hyv] at hst
            exact ⟨i + 1, _, _, by go_num, ⟨by have := HI.out; omega⟩, ⟨by have h_ := HS.out; rw [limb_Sub.l0, hyv] at h_; exact h_⟩, ⟨bb64_le _ _ _⟩, ⟨hst.1⟩, ⟨hst.2.1⟩, ⟨hst.2.2.1⟩, ⟨hst.2.2.2⟩⟩

/-! ### syzygylaw01_LimbSub: function 6 -/
mutual
def syzygylaw01_LimbSub.j0 : Nat → List Int → List Int → Bool → Option (Bool)
  | 0, _, _, _ => none
  | k + 1, x0, x1, x17 => if x17 = true then ((syzygylaw01_shown.f k).bind fun t180 => (some t180)) else ((limb_Sub.f k x0 x1).bind fun bt181 => ((limb_Sub.f k x1 x0).bind fun bt185 => ((limb_Cmp.f k x0 x1).bind fun t189 => (if (bt181.2 != (decide (t189 ≥ 0))) = true then (syzygylaw01_LimbSub.j1 k x0 x1 bt181.1 bt181.2 bt185.1 bt185.2 true) else (syzygylaw01_LimbSub.j1 k x0 x1 bt181.1 bt181.2 bt185.1 bt185.2 (bt185.2 != (decide (t189 ≤ 0))))))))
def syzygylaw01_LimbSub.j1 : Nat → List Int → List Int → List Int → Bool → List Int → Bool → Bool → Option (Bool)
  | 0, _, _, _, _, _, _, _ => none
  | k + 1, x0, x1, x5, x6, x7, x8, x43 => if x43 = true then (some false) else (if x6 = true then (syzygylaw01_LimbSub.j2 k x0 x1 x5 x6 x7 x8) else (syzygylaw01_LimbSub.j2 k x0 x1 x5 x6 x7 false))
def syzygylaw01_LimbSub.j2 : Nat → List Int → List Int → List Int → Bool → List Int → Bool → Option (Bool)
  | 0, _, _, _, _, _, _ => none
  | k + 1, x0, x1, x5, x6, x7, x47 => if x47 = true then (if (x5.length : Int) = 0 then (some ((x7.length : Int) == 0)) else (some false)) else (if x6 = true then (if (x7.length : Int) = 0 then ((limb_Add.f k x5 x1).bind fun t190 => ((syzygyref01_Trim.f k x0).bind fun t193 => ((syzygyref01_Same.f k t190 t193).bind fun t196 => (some t196)))) else (some false)) else (if (x5.length : Int) = 0 then ((limb_Add.f k x7 x0).bind fun t197 => ((syzygyref01_Trim.f k x1).bind fun t200 => ((syzygyref01_Same.f k t197 t200).bind fun t203 => (some t203)))) else (some false)))
end
def syzygylaw01_LimbSub.f (k : Nat) (l0 : List Int) (l1 : List Int) : Option (Bool) := (syzygylaw01_heavy.f l0 l1).bind fun t178 => (if t178 = true then (syzygylaw01_LimbSub.j0 k l0 l1 true) else ((syzygylaw01_shown.f k).bind fun t179 => (syzygylaw01_LimbSub.j0 k l0 l1 (!t179))))
theorem syzygylaw01_LimbSub.mono_l : ∀ k, (∀ y0 y1 y2, LeO (syzygylaw01_LimbSub.j0 k y0 y1 y2) (syzygylaw01_LimbSub.j0 (k + 1) y0 y1 y2)) ∧ (∀ y0 y1 y2 y3 y4 y5 y6, LeO (syzygylaw01_LimbSub.j1 k y0 y1 y2 y3 y4 y5 y6) (syzygylaw01_LimbSub.j1 (k + 1) y0 y1 y2 y3 y4 y5 y6)) ∧ (∀ y0 y1 y2 y3 y4 y5, LeO (syzygylaw01_LimbSub.j2 k y0 y1 y2 y3 y4 y5) (syzygylaw01_LimbSub.j2 (k + 1) y0 y1 y2 y3 y4 y5))
  | 0 => ⟨fun _ _ _ r h => by simp [syzygylaw01_LimbSub.j0] at h, fun _ _ _ _ _ _ _ r h => by simp [syzygylaw01_LimbSub.j1] at h, fun _ _ _ _ _ _ r h => by simp [syzygylaw01_LimbSub.j2] at h⟩
  | k + 1 => by
    obtain ⟨ih0, ih1, ih2⟩ := syzygylaw01_LimbSub.mono_l k
    refine ⟨?_, ?_, ?_⟩
    · intro y0 y1 y2
      unfold syzygylaw01_LimbSub.j0
      repeat' first
      | (with_reducible exact ih0 _ _ _)
      | (with_reducible exact ih1 _ _ _ _ _ _ _)
      | (with_reducible exact ih2 _ _ _ _ _ _)
      | (with_reducible exact limb_Add.mono _ _ _)
      | (with_reducible exact limb_Cmp.mono _ _ _)
      | (with_reducible exact limb_Sub.mono _ _ _)
      | (with_reducible exact syzygylaw01_shown.mono _)
      | (with_reducible exact syzygyref01_Same.mono _ _ _)
      | (with_reducible exact syzygyref01_Trim.mono _ _)
      | (with_reducible exact LeO.refl _)
      | (with_reducible exact LeO.none _)
      | (with_reducible refine LeO.ite ?_ ?_)
      | (with_reducible refine LeO.bind ?_ (fun _ => ?_))
      | exact ih0 _ _ _
      | exact ih1 _ _ _ _ _ _ _
      | exact ih2 _ _ _ _ _ _
      | exact limb_Add.mono _ _ _
      | exact limb_Cmp.mono _ _ _
      | exact limb_Sub.mono _ _ _
      | exact syzygylaw01_shown.mono _
      | exact syzygyref01_Same.mono _ _ _
      | exact syzygyref01_Trim.mono _ _
      | exact LeO.none _
      | refine LeO.ite ?_ ?_
      | refine LeO.bind ?_ (fun _ => ?_)
    · intro y0 y1 y2 y3 y4 y5 y6
      unfold syzygylaw01_LimbSub.j1
      repeat' first
      | (with_reducible exact ih0 _ _ _)
      | (with_reducible exact ih1 _ _ _ _ _ _ _)
      | (with_reducible exact ih2 _ _ _ _ _ _)
      | (with_reducible exact limb_Add.mono _ _ _)
      | (with_reducible exact limb_Cmp.mono _ _ _)
      | (with_reducible exact limb_Sub.mono _ _ _)
      | (with_reducible exact syzygylaw01_shown.mono _)
      | (with_reducible exact syzygyref01_Same.mono _ _ _)
      | (with_reducible exact syzygyref01_Trim.mono _ _)
      | (with_reducible exact LeO.refl _)
      | (with_reducible exact LeO.none _)
      | (with_reducible refine LeO.ite ?_ ?_)
      | (with_reducible refine LeO.bind ?_ (fun _ => ?_))
      | exact ih0 _ _ _
      | exact ih1 _ _ _ _ _ _ _
      | exact ih2 _ _ _ _ _ _
      | exact limb_Add.mono _ _ _
      | exact limb_Cmp.mono _ _ _
      | exact limb_Sub.mono _ _ _
      | exact syzygylaw01_shown.mono _
      | exact syzygyref01_Same.mono _ _ _
      | exact syzygyref01_Trim.mono _ _
      | exact LeO.none _
      | refine LeO.ite ?_ ?_
      | refine LeO.bind ?_ (fun _ => ?_)
    · intro y0 y1 y2 y3 y4 y5
      unfold syzygylaw01_LimbSub.j2
      repeat' first
      | (with_reducible exact ih0 _ _ _)
      | (with_reducible exact ih1 _ _ _ _ _ _ _)
      | (with_reducible exact ih2 _ _ _ _ _ _)
      | (with_reducible exact limb_Add.mono _ _ _)
      | (with_reducible exact limb_Cmp.mono _ _ _)
      | (with_reducible exact limb_Sub.mono _ _ _)
      | (with_reducible exact syzygylaw01_shown.mono _)
      | (with_reducible exact syzygyref01_Same.mono _ _ _)
      | (with_reducible exact syzygyref01_Trim.mono _ _)
      | (with_reducible exact LeO.refl _)
      | (with_reducible exact LeO.none _)
      | (with_reducible refine LeO.ite ?_ ?_)
      | (with_reducible refine LeO.bind ?_ (fun _ => ?_))
      | exact ih0 _ _ _
      | exact ih1 _ _ _ _ _ _ _
      | exact ih2 _ _ _ _ _ _
      | exact limb_Add.mono _ _ _
      | exact limb_Cmp.mono _ _ _
      | exact limb_Sub.mono _ _ _
      | exact syzygylaw01_shown.mono _
      | exact syzygyref01_Same.mono _ _ _
      | exact syzygyref01_Trim.mono _ _
      | exact LeO.none _
      | refine LeO.ite ?_ ?_
      | refine LeO.bind ?_ (fun _ => ?_)
theorem syzygylaw01_LimbSub.mono : ∀ a0 a1 k, LeO (syzygylaw01_LimbSub.f k a0 a1) (syzygylaw01_LimbSub.f (k + 1) a0 a1) := by
  intro a0 a1 k
  obtain ⟨ih0, ih1, ih2⟩ := syzygylaw01_LimbSub.mono_l k
  unfold syzygylaw01_LimbSub.f
  repeat' first
      | (with_reducible exact ih0 _ _ _)
      | (with_reducible exact ih1 _ _ _ _ _ _ _)
      | (with_reducible exact ih2 _ _ _ _ _ _)
      | (with_reducible exact limb_Add.mono _ _ _)
      | (with_reducible exact limb_Cmp.mono _ _ _)
      | (with_reducible exact limb_Sub.mono _ _ _)
      | (with_reducible exact syzygylaw01_shown.mono _)
      | (with_reducible exact syzygyref01_Same.mono _ _ _)
      | (with_reducible exact syzygyref01_Trim.mono _ _)
      | (with_reducible exact LeO.refl _)
      | (with_reducible exact LeO.none _)
      | (with_reducible refine LeO.ite ?_ ?_)
      | (with_reducible refine LeO.bind ?_ (fun _ => ?_))
      | exact ih0 _ _ _
      | exact ih1 _ _ _ _ _ _ _
      | exact ih2 _ _ _ _ _ _
      | exact limb_Add.mono _ _ _
      | exact limb_Cmp.mono _ _ _
      | exact limb_Sub.mono _ _ _
      | exact syzygylaw01_shown.mono _
      | exact syzygyref01_Same.mono _ _ _
      | exact syzygyref01_Trim.mono _ _
      | exact LeO.none _
      | refine LeO.ite ?_ ?_
      | refine LeO.bind ?_ (fun _ => ?_)
set_option maxHeartbeats 8000000 in
set_option maxRecDepth 100000 in
theorem syzygylaw01_LimbSub.calls (k : Nat) (A0 : Option Addr) (c0 : Nat) (l0 : List Int) (A1 : Option Addr) (c1 : Nat) (l1 : List Int) (w : World) (hr0 : Kd.C (Kd.int .u64) w A0 l0.length l0) (hc0 : l0.length ≤ c0) (hr1 : Kd.C (Kd.int .u64) w A1 l1.length l1) (hc1 : l1.length ≤ c1) (h : syzygylaw01_LimbSub.f k l0 l1 = some true) :
    Calls Try.prog 6 #[.slice A0 l0.length c0, .slice A1 l1.length c1] w fun e w' => e = .returned (.bool true) ∧ Below w.heap.size w w' := by
  have HR0 := Aside0.mk hr0
  have HC0 := Aside0.mk hc0
  clear hr0 hc0
  have HR1 := Aside0.mk hr1
  have HC1 := Aside0.mk hc1
  clear hr1 hc1
  have HB := Aside0.mk (Below.refl w.heap.size w)
  have H : ((syzygylaw01_heavy.f l0 l1).bind fun t178 => (if t178 = true then (syzygylaw01_LimbSub.j0 k l0 l1 true) else ((syzygylaw01_shown.f k).bind fun t179 => (syzygylaw01_LimbSub.j0 k l0 l1 (!t179))))) = some true := h
  clear h
  have HC3 := Aside0.mk H
  clear H
  go_enter Try.func6, Try.ntmps6
  go_upto_region 1 with (fail)
  go_cut [17] (fun v17 wc => ∃ (kq : Nat) (x17_2 : Bool), v17 = .bool x17_2 ∧ Aside0 (syzygylaw01_LimbSub.j0 kq l0 l1 x17_2 = some true) ∧ Aside0 (kq ≤ k) ∧ Aside0 (Below w.heap.size w wc))
  case first =>
    have H := HC3.out
    clear HC3
    replace H := Option.bind_eq_some_iff.mp H
    obtain ⟨t178, A40, H⟩ := H
    replace H : (if t178 = true then (syzygylaw01_LimbSub.j0 k l0 l1 true) else ((syzygylaw01_shown.f k).bind fun t179 => (syzygylaw01_LimbSub.j0 k l0 l1 (!t179)))) = some true := H
    have A4 := Aside0.mk A40
    clear A40
    by_cases c5 : t178 = true
    · subst c5
      have H1 : (syzygylaw01_LimbSub.j0 k l0 l1 true) = some true := by rw [if_pos rfl] at H; exact H
      clear H
      have H := H1
      clear H1
      have H' := Aside0.mk H
      clear H
      go_wp2_with (first | ((with_reducible refine gate_callee (f := 11) rfl ?_); refine goesL_ (some 13) rfl rfl Try.func11 (by kernel_rfl) rfl #[.slice A0 l0.length c0, .slice A1 l1.length c1] rfl (by (try simp only [List.map_toArray, List.map_cons, List.map_nil]); first | done | rfl | (simp only [List.length_drop, List.length_take]; rfl)) ?_; (with_reducible refine (syzygylaw01_heavy.calls _ _ l0 _ _ l1 true _ ?side1 ?side2 ?side3 ?side4 A4.out).mono ?_); (case side1 => repeat (first | exact (Kd.C_below HR0.out HB.out) | (with_reducible refine Kd.C_alloc ?_ _) | (with_reducible refine Kd.C_drewN ?_ _) | (with_reducible refine Kd.C_drew ?_))); (case side2 => exact HC0.out); (case side3 => repeat (first | exact (Kd.C_below HR1.out HB.out) | (with_reducible refine Kd.C_alloc ?_ _) | (with_reducible refine Kd.C_drewN ?_ _) | (with_reducible refine Kd.C_drew ?_))); (case side4 => exact HC1.out); rintro e w' ⟨rfl, ⟨nd, rfl⟩⟩; refine ⟨_, rfl, ?_⟩))
      go_meet
      case rel => exact ⟨_, (true), (by first | rfl | (simp; done) | (simp [*]; done)), H', ⟨by first | omega | exact Nat.le_refl _⟩, ⟨by repeat (first | (with_reducible first | exact HB.out | apply below_alloc | apply pw_below_drewN | apply below_drew1) | exact HB.out)⟩⟩
    · replace c5 := Bool.eq_false_iff.mpr c5
      subst c5
      have H1 : ((syzygylaw01_shown.f k).bind fun t179 => (syzygylaw01_LimbSub.j0 k l0 l1 (!t179))) = some true := by rw [if_neg (show ¬ (false = true) by decide)] at H; exact H
      clear H
      have H := H1
      clear H1
      replace H := Option.bind_eq_some_iff.mp H
      obtain ⟨t179, A60, H⟩ := H
      replace H : (syzygylaw01_LimbSub.j0 k l0 l1 (!t179)) = some true := H
      have A6 := Aside0.mk A60
      clear A60
      have H' := Aside0.mk H
      clear H
      go_wp2_with (first | ((with_reducible refine gate_callee (f := 11) rfl ?_); refine goesL_ (some 13) rfl rfl Try.func11 (by kernel_rfl) rfl #[.slice A0 l0.length c0, .slice A1 l1.length c1] rfl (by (try simp only [List.map_toArray, List.map_cons, List.map_nil]); first | done | rfl | (simp only [List.length_drop, List.length_take]; rfl)) ?_; (with_reducible refine (syzygylaw01_heavy.calls _ _ l0 _ _ l1 false _ ?side1 ?side2 ?side3 ?side4 A4.out).mono ?_); (case side1 => repeat (first | exact (Kd.C_below HR0.out HB.out) | (with_reducible refine Kd.C_alloc ?_ _) | (with_reducible refine Kd.C_drewN ?_ _) | (with_reducible refine Kd.C_drew ?_))); (case side2 => exact HC0.out); (case side3 => repeat (first | exact (Kd.C_below HR1.out HB.out) | (with_reducible refine Kd.C_alloc ?_ _) | (with_reducible refine Kd.C_drewN ?_ _) | (with_reducible refine Kd.C_drew ?_))); (case side4 => exact HC1.out); rintro e w' ⟨rfl, ⟨nd, rfl⟩⟩; refine ⟨_, rfl, ?_⟩) | ((with_reducible refine gate_dst (N := 15) rfl ?_); (try (refine gate_guard (by rfl) ?_; dsimp only)); refine gate_guard (by first | rfl | kernel_rfl) ?_; dsimp only; (with_reducible refine gate_callee (f := 12) rfl ?_); refine goesL_ (some 15) rfl rfl Try.func12 (by kernel_rfl) rfl #[] rfl (by (try simp only [List.map_toArray, List.map_cons, List.map_nil]); first | done | rfl | (simp only [List.length_drop, List.length_take]; rfl)) ?_; (with_reducible refine (syzygylaw01_shown.calls k  t179 _ A6.out).mono ?_); rintro e w7 ⟨rfl, hb⟩; refine ⟨_, rfl, ?_⟩; have n0_ := Aside0.mk (below_step (by repeat (first | (with_reducible first | exact HB.out | apply below_alloc | apply pw_below_drewN | apply below_drew1) | exact HB.out)) hb); clear HB; have HB := n0_; clear n0_; (try clear hb); (try clear hb2); (try clear hk); (try clear hi)))
      go_meet
      case rel => exact ⟨_, (!t179), (by first | rfl | (simp; done) | (simp [*]; done)), H', ⟨by first | omega | exact Nat.le_refl _⟩, ⟨by repeat (first | (with_reducible first | exact HB.out | apply below_alloc | apply pw_below_drewN | apply below_drew1) | exact HB.out)⟩⟩
  case rest =>
    clear HC3
    try clear c1
    try clear p2
    try clear c5
    try clear c6
    obtain ⟨kq, x17_2, rfl, HA, HJ2, HB⟩ := hcut
    cases kq with
    | zero => exact absurd HA.out (by simp [syzygylaw01_LimbSub.j0])
    | succ kj2 =>
      have H := HA.out
      clear HA
      simp only [syzygylaw01_LimbSub.j0] at H
      by_cases c8 : x17_2 = true
      · subst c8
        have H1 : ((syzygylaw01_shown.f kj2).bind fun t180 => (some t180)) = some true := by rw [if_pos rfl] at H; exact H
        clear H
        have H := H1
        clear H1
        replace H := Option.bind_eq_some_iff.mp H
        obtain ⟨t180, A90, H⟩ := H
        replace H : (some t180) = some true := H
        have A9 := Aside0.mk A90
        clear A90
        have HRT_ := Aside0.mk (Option.some.inj H)
        clear H
        go_wp2_with (first | ((with_reducible refine gate_callee (f := 12) rfl ?_); refine goesL_ (some 18) rfl rfl Try.func12 (by kernel_rfl) rfl #[] rfl (by (try simp only [List.map_toArray, List.map_cons, List.map_nil]); first | done | rfl | (simp only [List.length_drop, List.length_take]; rfl)) ?_; (with_reducible refine (syzygylaw01_shown.calls kj2  t180 _ A9.out).mono ?_); rintro e w10 ⟨rfl, hb⟩; refine ⟨_, rfl, ?_⟩; have n0_ := Aside0.mk (below_step (by repeat (first | (with_reducible first | exact HB.out | apply below_alloc | apply pw_below_drewN | apply below_drew1) | exact HB.out)) hb); clear HB; have HB := n0_; clear n0_; (try clear hb); (try clear hb2); (try clear hk); (try clear hi)))
        go_ret
        exact ⟨by first | rfl | (rw [HRT_.out]; rfl) | (simp only [HRT_.out]; done) | exact of_decide_eq_true HRT_.out | (have h_ := HRT_.out; simp at h_ ⊢; exact h_) | (have h_ := HRT_.out; simp at h_ ⊢; omega) | (have h_ := HRT_.out; simp [h_]; done) | (simp [errW_none, errW_some] <;> rfl) | (simp [*, errW_none, errW_some] <;> rfl), by repeat (first | (with_reducible first | exact HB.out | apply below_alloc | apply pw_below_drewN | apply below_drew1) | exact HB.out)⟩
      · replace c8 := Bool.eq_false_iff.mpr c8
        subst c8
        have H1 : ((limb_Sub.f kj2 l0 l1).bind fun bt181 => ((limb_Sub.f kj2 l1 l0).bind fun bt185 => ((limb_Cmp.f kj2 l0 l1).bind fun t189 => (if (bt181.2 != (decide (t189 ≥ 0))) = true then (syzygylaw01_LimbSub.j1 kj2 l0 l1 bt181.1 bt181.2 bt185.1 bt185.2 true) else (syzygylaw01_LimbSub.j1 kj2 l0 l1 bt181.1 bt181.2 bt185.1 bt185.2 (bt185.2 != (decide (t189 ≤ 0)))))))) = some true := by rw [if_neg (show ¬ (false = true) by decide)] at H; exact H
        clear H
        have H := H1
        clear H1
        replace H := Option.bind_eq_some_iff.mp H
        obtain ⟨⟨t181, t182⟩, A110, H⟩ := H
        replace H : ((limb_Sub.f kj2 l1 l0).bind fun bt185 => ((limb_Cmp.f kj2 l0 l1).bind fun t189 => (if (t182 != (decide (t189 ≥ 0))) = true then (syzygylaw01_LimbSub.j1 kj2 l0 l1 t181 t182 bt185.1 bt185.2 true) else (syzygylaw01_LimbSub.j1 kj2 l0 l1 t181 t182 bt185.1 bt185.2 (bt185.2 != (decide (t189 ≤ 0))))))) = some true := H
        have A11 := Aside0.mk A110
        clear A110
        replace H := Option.bind_eq_some_iff.mp H
        obtain ⟨⟨t185, t186⟩, A120, H⟩ := H
        replace H : ((limb_Cmp.f kj2 l0 l1).bind fun t189 => (if (t182 != (decide (t189 ≥ 0))) = true then (syzygylaw01_LimbSub.j1 kj2 l0 l1 t181 t182 t185 t186 true) else (syzygylaw01_LimbSub.j1 kj2 l0 l1 t181 t182 t185 t186 (t186 != (decide (t189 ≤ 0)))))) = some true := H
        have A12 := Aside0.mk A120
        clear A120
        replace H := Option.bind_eq_some_iff.mp H
        obtain ⟨t189, A130, H⟩ := H
        replace H : (if (t182 != (decide (t189 ≥ 0))) = true then (syzygylaw01_LimbSub.j1 kj2 l0 l1 t181 t182 t185 t186 true) else (syzygylaw01_LimbSub.j1 kj2 l0 l1 t181 t182 t185 t186 (t186 != (decide (t189 ≤ 0))))) = some true := H
        have A13 := Aside0.mk A130
        clear A130
        have HC14 := Aside0.mk H
        clear H
        go_upto_region 6 with (first | ((with_reducible refine gate_callee (f := 19) rfl ?_); refine goesL_ (some 22) rfl rfl Try.func19 (by kernel_rfl) rfl #[.slice A0 l0.length c0, .slice A1 l1.length c1] rfl (by (try simp only [List.map_toArray, List.map_cons, List.map_nil]); first | done | rfl | (simp only [List.length_drop, List.length_take]; rfl)) ?_; (with_reducible refine (limb_Sub.calls kj2 _ _ l0 _ _ l1 t181 t182 _ ?side1 ?side2 ?side3 ?side4 A11.out).mono ?_); (case side1 => repeat (first | exact (Kd.C_below HR0.out HB.out) | (with_reducible refine Kd.C_alloc ?_ _) | (with_reducible refine Kd.C_drewN ?_ _) | (with_reducible refine Kd.C_drew ?_))); (case side2 => exact HC0.out); (case side3 => repeat (first | exact (Kd.C_below HR1.out HB.out) | (with_reducible refine Kd.C_alloc ?_ _) | (with_reducible refine Kd.C_drewN ?_ _) | (with_reducible refine Kd.C_drew ?_))); (case side4 => exact HC1.out); rintro e w15 ⟨v183, rfl, ho0, hb⟩; refine ⟨_, rfl, ?_⟩; have n0_ := Aside0.mk (Kd.R_lower ho0 (below_size (by repeat (first | (with_reducible first | exact HB.out | apply below_alloc | apply pw_below_drewN | apply below_drew1) | exact HB.out)))); have n1_ := Aside0.mk (below_step (by repeat (first | (with_reducible first | exact HB.out | apply below_alloc | apply pw_below_drewN | apply below_drew1) | exact HB.out)) hb); clear HB; have HO184 := n0_; have HB := n1_; clear n0_ n1_; (try clear hb); (try clear hb2); (try clear hk); (try clear hi); (try clear ho0)) | ((with_reducible refine gate_callee (f := 19) rfl ?_); refine goesL_ (some 28) rfl rfl Try.func19 (by kernel_rfl) rfl #[.slice A1 l1.length c1, .slice A0 l0.length c0] rfl (by (try simp only [List.map_toArray, List.map_cons, List.map_nil]); first | done | rfl | (simp only [List.length_drop, List.length_take]; rfl)) ?_; (with_reducible refine (limb_Sub.calls kj2 _ _ l1 _ _ l0 t185 t186 _ ?side1 ?side2 ?side3 ?side4 A12.out).mono ?_); (case side1 => repeat (first | exact (Kd.C_below HR1.out HB.out) | (with_reducible refine Kd.C_alloc ?_ _) | (with_reducible refine Kd.C_drewN ?_ _) | (with_reducible refine Kd.C_drew ?_))); (case side2 => exact HC1.out); (case side3 => repeat (first | exact (Kd.C_below HR0.out HB.out) | (with_reducible refine Kd.C_alloc ?_ _) | (with_reducible refine Kd.C_drewN ?_ _) | (with_reducible refine Kd.C_drew ?_))); (case side4 => exact HC0.out); rintro e w16 ⟨v187, rfl, ho0, hb⟩; refine ⟨_, rfl, ?_⟩; have n0_ := Aside0.mk (Kd.R_elder' (by (with_reducible repeat (first | apply Kd.R_alloc | apply Kd.R_drewN | apply Kd.R_drew)); exact HO184.out) (Kd.R_base ho0) hb); have n1_ := Aside0.mk (Kd.R_lower (Kd.R_new' ho0 (Kd.R_lt (by (with_reducible repeat (first | apply Kd.R_alloc | apply Kd.R_drewN | apply Kd.R_drew)); exact HO184.out))) (below_size (by repeat (first | (with_reducible first | exact HB.out | apply below_alloc | apply pw_below_drewN | apply below_drew1) | exact HB.out)))); have n2_ := Aside0.mk (below_step (by repeat (first | (with_reducible first | exact HB.out | apply below_alloc | apply pw_below_drewN | apply below_drew1) | exact HB.out)) hb); clear HO184; clear HB; have HO184 := n0_; have HO188 := n1_; have HB := n2_; clear n0_ n1_ n2_; (try clear hb); (try clear hb2); (try clear hk); (try clear hi); (try clear ho0)) | ((with_reducible refine gate_callee (f := 13) rfl ?_); refine goesL_ (some 33) rfl rfl Try.func13 (by kernel_rfl) rfl #[.slice A0 l0.length c0, .slice A1 l1.length c1] rfl (by (try simp only [List.map_toArray, List.map_cons, List.map_nil]); first | done | rfl | (simp only [List.length_drop, List.length_take]; rfl)) ?_; (with_reducible refine (limb_Cmp.calls kj2 _ _ l0 _ _ l1 t189 _ ?side1 ?side2 ?side3 ?side4 A13.out).mono ?_); (case side1 => repeat (first | exact (Kd.C_below HR0.out HB.out) | (with_reducible refine Kd.C_alloc ?_ _) | (with_reducible refine Kd.C_drewN ?_ _) | (with_reducible refine Kd.C_drew ?_))); (case side2 => exact HC0.out); (case side3 => repeat (first | exact (Kd.C_below HR1.out HB.out) | (with_reducible refine Kd.C_alloc ?_ _) | (with_reducible refine Kd.C_drewN ?_ _) | (with_reducible refine Kd.C_drew ?_))); (case side4 => exact HC1.out); rintro e w17 ⟨rfl, hb⟩; refine ⟨_, rfl, ?_⟩; have n0_ := Aside0.mk (Kd.R_below (by (with_reducible repeat (first | apply Kd.R_alloc | apply Kd.R_drewN | apply Kd.R_drew)); exact HO184.out) hb); have n1_ := Aside0.mk (Kd.R_below (by (with_reducible repeat (first | apply Kd.R_alloc | apply Kd.R_drewN | apply Kd.R_drew)); exact HO188.out) hb); have n2_ := Aside0.mk (below_step (by repeat (first | (with_reducible first | exact HB.out | apply below_alloc | apply pw_below_drewN | apply below_drew1) | exact HB.out)) hb); clear HO184; clear HO188; clear HB; have HO184 := n0_; have HO188 := n1_; have HB := n2_; clear n0_ n1_ n2_; (try clear hb); (try clear hb2); (try clear hk); (try clear hi)))
        (try simp only [Act.put, List.setIfInBounds_toArray, List.set_cons_zero, List.set_cons_succ])
        go_cut [43] (fun v43 wc => ∃ (kq : Nat) (x43_13 : Bool), v43 = .bool x43_13 ∧ Aside0 (syzygylaw01_LimbSub.j1 kq l0 l1 t181 t182 t185 t186 x43_13 = some true) ∧ Aside0 (kq ≤ kj2) ∧ Aside0 (Kd.R (Kd.int .u64) 36 wc w.heap.size (fun k_ => some k_ ≠ (v187 : Value).ownBlock) v183 t181) ∧ Aside0 (Kd.R (Kd.int .u64) 36 wc w.heap.size (fun k_ => some k_ ≠ (v183 : Value).ownBlock) v187 t185) ∧ Aside0 (Below w.heap.size w wc))
        case first =>
          have H := HC14.out
          clear HC14
          by_cases c18 : (t182 != (decide (t189 ≥ 0))) = true
          · rw [if_pos c18] at H
            have c18b0 : (t182 != (decide (t189 ≥ 0))) = true := c18
            (try (have c18b1 : decide (t182 = (decide (t189 ≥ 0))) = false := by simpa using c18))
            (try (have c18b2 : (t182 == (decide (t189 ≥ 0))) = false := by simpa using c18))
            (try (have c18b3 : ¬ (t182 = (decide (t189 ≥ 0))) := by simpa using c18))
            clear c18
            (first | rw [c18b0] | (simp only [i64_w, i32_w]; rw [c18b0]) | skip)
            have H' := Aside0.mk H
            clear H
            go_wp2
            go_meet
            case rel => exact ⟨_, (true), (by first | rfl | (simp; done) | (simp [*]; done)), H', ⟨by have := HJ2.out; first | omega | exact Nat.le_refl _⟩, ⟨by (with_reducible repeat (first | apply Kd.R_alloc | apply Kd.R_drewN | apply Kd.R_drew)); exact Kd.R_mono HO184.out (fun _ hk => hk.2)⟩, ⟨by (with_reducible repeat (first | apply Kd.R_alloc | apply Kd.R_drewN | apply Kd.R_drew)); exact Kd.R_mono HO188.out (fun _ hk => hk.2)⟩, ⟨by repeat (first | (with_reducible first | exact HB.out | apply below_alloc | apply pw_below_drewN | apply below_drew1) | exact HB.out)⟩⟩
          · rw [if_neg c18] at H
            have c18b0 : (t182 != (decide (t189 ≥ 0))) = false := by simpa using c18
            (try (have c18b1 : decide (t182 = (decide (t189 ≥ 0))) = true := by simpa using c18))
            (try (have c18b2 : (t182 == (decide (t189 ≥ 0))) = true := by simpa using c18))
            clear c18
            (first | rw [c18b0] | (simp only [i64_w, i32_w]; rw [c18b0]) | skip)
            have H' := Aside0.mk H
            clear H
            go_wp2
            go_meet
            case rel => exact ⟨_, ((t186 != (decide (t189 ≤ 0)))), (by first | rfl | (simp; done) | (simp [*]; done)), H', ⟨by have := HJ2.out; first | omega | exact Nat.le_refl _⟩, ⟨by (with_reducible repeat (first | apply Kd.R_alloc | apply Kd.R_drewN | apply Kd.R_drew)); exact Kd.R_mono HO184.out (fun _ hk => hk.2)⟩, ⟨by (with_reducible repeat (first | apply Kd.R_alloc | apply Kd.R_drewN | apply Kd.R_drew)); exact Kd.R_mono HO188.out (fun _ hk => hk.2)⟩, ⟨by repeat (first | (with_reducible first | exact HB.out | apply below_alloc | apply pw_below_drewN | apply below_drew1) | exact HB.out)⟩⟩
        case rest =>
          clear HC14
          try clear c1
          try clear p2
          try clear c5
          try clear c6
          try clear c8
          try clear c11
          try clear c12
          try clear c13
          try clear c18
          try clear c18b0
          try clear c18b1
          try clear c18b2
          try clear p2
          obtain ⟨kq, x43_13, rfl, HA, HJ13, HO_5, HO_7, HB⟩ := hcut
          cases kq with
          | zero => exact absurd HA.out (by simp [syzygylaw01_LimbSub.j1])
          | succ kj13 =>
            have H := HA.out
            clear HA
            simp only [syzygylaw01_LimbSub.j1] at H
            by_cases c19 : x43_13 = true
            · subst c19
              have H1 : (some false) = some true := by rw [if_pos rfl] at H; exact H
              clear H
              have H := H1
              clear H1
              exact absurd H (by simp)
            · replace c19 := Bool.eq_false_iff.mpr c19
              subst c19
              have H1 : (if t182 = true then (syzygylaw01_LimbSub.j2 kj13 l0 l1 t181 t182 t185 t186) else (syzygylaw01_LimbSub.j2 kj13 l0 l1 t181 t182 t185 false)) = some true := by rw [if_neg (show ¬ (false = true) by decide)] at H; exact H
              clear H
              have H := H1
              clear H1
              have HC20 := Aside0.mk H
              clear H
              go_upto_region 9 with (fail)
              go_cut [47] (fun v47 wc => ∃ (kq : Nat) (x47_19 : Bool), v47 = .bool x47_19 ∧ Aside0 (syzygylaw01_LimbSub.j2 kq l0 l1 t181 t182 t185 x47_19 = some true) ∧ Aside0 (kq ≤ kj13) ∧ Aside0 (Kd.R (Kd.int .u64) 36 wc w.heap.size (fun k_ => some k_ ≠ (v187 : Value).ownBlock) v183 t181) ∧ Aside0 (Kd.R (Kd.int .u64) 36 wc w.heap.size (fun k_ => some k_ ≠ (v183 : Value).ownBlock) v187 t185) ∧ Aside0 (Below w.heap.size w wc))
              case first =>
                have H := HC20.out
                clear HC20
                by_cases c21 : t182 = true
                · subst c21
                  have H1 : (syzygylaw01_LimbSub.j2 kj13 l0 l1 t181 true t185 t186) = some true := by rw [if_pos rfl] at H; exact H
                  clear H
                  have H := H1
                  clear H1
                  have H' := Aside0.mk H
                  clear H
                  go_wp2
                  go_meet
                  case rel => exact ⟨_, (t186), (by first | rfl | (simp; done) | (simp [*]; done)), H', ⟨by have := HJ2.out; have := HJ13.out; first | omega | exact Nat.le_refl _⟩, ⟨by (with_reducible repeat (first | apply Kd.R_alloc | apply Kd.R_drewN | apply Kd.R_drew)); exact HO_5.out⟩, ⟨by (with_reducible repeat (first | apply Kd.R_alloc | apply Kd.R_drewN | apply Kd.R_drew)); exact HO_7.out⟩, ⟨by repeat (first | (with_reducible first | exact HB.out | apply below_alloc | apply pw_below_drewN | apply below_drew1) | exact HB.out)⟩⟩
                · replace c21 := Bool.eq_false_iff.mpr c21
                  subst c21
                  have H1 : (syzygylaw01_LimbSub.j2 kj13 l0 l1 t181 false t185 false) = some true := by rw [if_neg (show ¬ (false = true) by decide)] at H; exact H
                  clear H
                  have H := H1
                  clear H1
                  have H' := Aside0.mk H
                  clear H
                  go_wp2
                  go_meet
                  case rel => exact ⟨_, (false), (by first | rfl | (simp; done) | (simp [*]; done)), H', ⟨by have := HJ2.out; have := HJ13.out; first | omega | exact Nat.le_refl _⟩, ⟨by (with_reducible repeat (first | apply Kd.R_alloc | apply Kd.R_drewN | apply Kd.R_drew)); exact HO_5.out⟩, ⟨by (with_reducible repeat (first | apply Kd.R_alloc | apply Kd.R_drewN | apply Kd.R_drew)); exact HO_7.out⟩, ⟨by repeat (first | (with_reducible first | exact HB.out | apply below_alloc | apply pw_below_drewN | apply below_drew1) | exact HB.out)⟩⟩
              case rest =>
                clear HC20
                try clear c1
                try clear c2
                try clear p2
                try clear c5
                try clear c6
                try clear c8
                try clear c11
                try clear c12
                try clear c13
                try clear c18
                try clear c18b0
                try clear c18b1
                try clear c18b2
                try clear c19
                try clear c21
                try clear p2
                obtain ⟨kq, x47_19, rfl, HA, HJ19, HO_5, HO_7, HB⟩ := hcut
                cases kq with
                | zero => exact absurd HA.out (by simp [syzygylaw01_LimbSub.j2])
                | succ kj19 =>
                  have H := HA.out
                  clear HA
                  simp only [syzygylaw01_LimbSub.j2] at H
                  by_cases c22 : x47_19 = true
                  · subst c22
                    have H1 : (if (t181.length : Int) = 0 then (some ((t185.length : Int) == 0)) else (some false)) = some true := by rw [if_pos rfl] at H; exact H
                    clear H
                    have H := H1
                    clear H1
                    by_cases c23 : (t181.length : Int) = 0
                    · rw [if_pos c23] at H
                      have c23b0 : ((t181.length : Int) == 0) = true := beq_iff_eq.mpr c23
                      have c23b1 : ((t181.length : Int) != 0) = false := bne_eq_false_iff_eq.mpr c23
                      clear c23
                      have HRT_ := Aside0.mk (Option.some.inj H)
                      clear H
                      obtain ⟨Ao24, co24, eo24⟩ := Kd.R_slice HO_5.out
                      subst eo24
                      obtain ⟨Ao25, co25, eo25⟩ := Kd.R_slice HO_7.out
                      subst eo25
                      go_wp2
                      go_ret
                      exact ⟨by first | rfl | (rw [HRT_.out]; rfl) | (simp only [HRT_.out]; done) | exact of_decide_eq_true HRT_.out | (have h_ := HRT_.out; simp at h_ ⊢; exact h_) | (have h_ := HRT_.out; simp at h_ ⊢; omega) | (have h_ := HRT_.out; simp [h_]; done) | (simp [errW_none, errW_some] <;> rfl) | (simp [*, errW_none, errW_some] <;> rfl), by repeat (first | (with_reducible first | exact HB.out | apply below_alloc | apply pw_below_drewN | apply below_drew1) | exact HB.out)⟩
                    · rw [if_neg c23] at H
                      have c23b0 : ((t181.length : Int) == 0) = false := beq_eq_false_iff_ne.mpr c23
                      have c23b1 : ((t181.length : Int) != 0) = true := bne_iff_ne.mpr c23
                      have c23b2 : ¬ (t181 = []) := fun h_ => c23 (by rw [h_]; rfl)
                      exact absurd H (by simp)
                  · replace c22 := Bool.eq_false_iff.mpr c22
                    subst c22
                    have H1 : (if t182 = true then (if (t185.length : Int) = 0 then ((limb_Add.f kj19 t181 l1).bind fun t190 => ((syzygyref01_Trim.f kj19 l0).bind fun t193 => ((syzygyref01_Same.f kj19 t190 t193).bind fun t196 => (some t196)))) else (some false)) else (if (t181.length : Int) = 0 then ((limb_Add.f kj19 t185 l0).bind fun t197 => ((syzygyref01_Trim.f kj19 l1).bind fun t200 => ((syzygyref01_Same.f kj19 t197 t200).bind fun t203 => (some t203)))) else (some false))) = some true := by rw [if_neg (show ¬ (false = true) by decide)] at H; exact H
                    clear H
                    have H := H1
                    clear H1
                    by_cases c26 : t182 = true
                    · subst c26
                      have H1 : (if (t185.length : Int) = 0 then ((limb_Add.f kj19 t181 l1).bind fun t190 => ((syzygyref01_Trim.f kj19 l0).bind fun t193 => ((syzygyref01_Same.f kj19 t190 t193).bind fun t196 => (some t196)))) else (some false)) = some true := by rw [if_pos rfl] at H; exact H
                      clear H
                      have H := H1
                      clear H1
                      by_cases c27 : (t185.length : Int) = 0
                      · rw [if_pos c27] at H
                        have c27b0 : ((t185.length : Int) == 0) = true := beq_iff_eq.mpr c27
                        have c27b1 : ((t185.length : Int) != 0) = false := bne_eq_false_iff_eq.mpr c27
                        clear c27
                        replace H := Option.bind_eq_some_iff.mp H
                        obtain ⟨t190, A280, H⟩ := H
                        replace H : ((syzygyref01_Trim.f kj19 l0).bind fun t193 => ((syzygyref01_Same.f kj19 t190 t193).bind fun t196 => (some t196))) = some true := H
                        have A28 := Aside0.mk A280
                        clear A280
                        replace H := Option.bind_eq_some_iff.mp H
                        obtain ⟨t193, A290, H⟩ := H
                        replace H : ((syzygyref01_Same.f kj19 t190 t193).bind fun t196 => (some t196)) = some true := H
                        have A29 := Aside0.mk A290
                        clear A290
                        replace H := Option.bind_eq_some_iff.mp H
                        obtain ⟨t196, A300, H⟩ := H
                        replace H : (some t196) = some true := H
                        have A30 := Aside0.mk A300
                        clear A300
                        have HRT_ := Aside0.mk (Option.some.inj H)
                        clear H
                        obtain ⟨Ao31, co31, eo31⟩ := Kd.R_slice HO_7.out
                        subst eo31
                        obtain ⟨Ao32, co32, eo32⟩ := Kd.R_slice HO_5.out
                        subst eo32
                        go_wp2_with (first | (go_at_call 16; (with_reducible refine (limb_Add.calls kj19 (fun k_ => some k_ = (.slice Ao32 t181.length co32 : Value).ownBlock) _ _ t181 _ _ l1 t190 _ ?side1 ?side2 ?side3 A28.out).mono ?_); (case side1 => exact Kd.R_V (Kd.R_tight rfl (HO_5.out))); (case side2 => repeat (first | exact (Kd.C_below HR1.out HB.out) | (with_reducible refine Kd.C_alloc ?_ _) | (with_reducible refine Kd.C_drewN ?_ _) | (with_reducible refine Kd.C_drew ?_))); (case side3 => exact HC1.out); rintro e w33 ⟨v191, rfl, ho0, hb⟩; have n0_ := Aside0.mk (Kd.R_below (by (with_reducible repeat (first | apply Kd.R_alloc | apply Kd.R_drewN | apply Kd.R_drew)); exact HO_5.out) hb); have n1_ := Aside0.mk (Kd.R_below (by (with_reducible repeat (first | apply Kd.R_alloc | apply Kd.R_drewN | apply Kd.R_drew)); exact HO_7.out) hb); have n2_ := Aside0.mk (Kd.V_lower (Kd.V_mono (ok' := fun k_ => some k_ ≠ (.slice Ao31 t185.length co31 : Value).ownBlock) ho0 (fun k_ hk_ => Or.elim hk_ (fun hs_ => ((HO_5.out).1 k_ hs_.symm)) (fun hn_ => (Kd.fresh' (Kd.R_lt (by (with_reducible repeat (first | apply Kd.R_alloc | apply Kd.R_drewN | apply Kd.R_drew)); exact HO_7.out)) k_ hn_)))) (below_size (by repeat (first | (with_reducible first | exact HB.out | apply below_alloc | apply pw_below_drewN | apply below_drew1) | exact HB.out)))); have n3_ := Aside0.mk (below_step (by repeat (first | (with_reducible first | exact HB.out | apply below_alloc | apply pw_below_drewN | apply below_drew1) | exact HB.out)) hb); clear HO_5; clear HO_7; clear HB; have HO_5 := n0_; have HO_7 := n1_; have HO192 := n2_; have HB := n3_; clear n0_ n1_ n2_ n3_; (try clear hb); (try clear hb2); (try clear hk); (try clear hi); (try clear ho0)) | ((with_reducible refine gate_dst (N := 66) rfl ?_); (try (refine gate_guard (by rfl) ?_; dsimp only)); refine gate_guard (by first | rfl | kernel_rfl) ?_; dsimp only; (with_reducible refine gate_callee (f := 15) rfl ?_); refine goesL_ (some 66) rfl rfl Try.func15 (by kernel_rfl) rfl #[.slice A0 l0.length c0] rfl (by (try simp only [List.map_toArray, List.map_cons, List.map_nil]); first | done | rfl | (simp only [List.length_drop, List.length_take]; rfl)) ?_; (with_reducible refine (syzygyref01_Trim.calls kj19 _ _ l0 t193 _ ?side1 ?side2 A29.out).mono ?_); (case side1 => repeat (first | exact (Kd.C_below HR0.out HB.out) | (with_reducible refine Kd.C_alloc ?_ _) | (with_reducible refine Kd.C_drewN ?_ _) | (with_reducible refine Kd.C_drew ?_))); (case side2 => exact HC0.out); rintro e w34 ⟨v194, rfl, ho0, hb⟩; refine ⟨_, rfl, ?_⟩; have n0_ := Aside0.mk (Kd.R_elder' (by (with_reducible repeat (first | apply Kd.R_alloc | apply Kd.R_drewN | apply Kd.R_drew)); exact HO_5.out) (Kd.R_base ho0) hb); have n1_ := Aside0.mk (Kd.R_elder' (by (with_reducible repeat (first | apply Kd.R_alloc | apply Kd.R_drewN | apply Kd.R_drew)); exact HO_7.out) (Kd.R_base ho0) hb); have n2_ := Aside0.mk (Kd.V_elder' (by (with_reducible repeat (first | apply Kd.V_alloc | apply Kd.V_drewN | apply Kd.V_drew)); exact HO192.out) (Kd.R_base ho0) hb); have n3_ := Aside0.mk (Kd.R_lower (Kd.R_new' (Kd.R_new' ho0 (Kd.R_lt (by (with_reducible repeat (first | apply Kd.R_alloc | apply Kd.R_drewN | apply Kd.R_drew)); exact HO_5.out))) (Kd.R_lt (by (with_reducible repeat (first | apply Kd.R_alloc | apply Kd.R_drewN | apply Kd.R_drew)); exact HO_7.out))) (below_size (by repeat (first | (with_reducible first | exact HB.out | apply below_alloc | apply pw_below_drewN | apply below_drew1) | exact HB.out)))); have n4_ := Aside0.mk (below_step (by repeat (first | (with_reducible first | exact HB.out | apply below_alloc | apply pw_below_drewN | apply below_drew1) | exact HB.out)) hb); clear HO_5; clear HO_7; clear HO192; clear HB; have HO_5 := n0_; have HO_7 := n1_; have HO192 := n2_; have HO195 := n3_; have HB := n4_; clear n0_ n1_ n2_ n3_ n4_; (try clear hb); (try clear hb2); (try clear hk); (try clear hi); (try clear ho0); obtain ⟨Ao35, co35, eo35⟩ := Kd.V_slice HO192.out; subst eo35; obtain ⟨Ao36, co36, eo36⟩ := Kd.R_slice HO195.out; subst eo36) | ((with_reducible refine gate_dst (N := 67) rfl ?_); (try (refine gate_guard (by rfl) ?_; dsimp only)); refine gate_guard (by first | rfl | kernel_rfl) ?_; dsimp only; (with_reducible refine gate_callee_t (t := 61) rfl ?_); refine goesT_ (some 67) rfl rfl Try.func14 (by kernel_rfl) rfl #[.slice Ao35 t190.length co35, .slice Ao36 t193.length co36] rfl rfl (by (try simp only [List.map_toArray, List.map_cons, List.map_nil]); first | done | rfl | (simp only [List.length_drop, List.length_take]; rfl)) ?_; (with_reducible refine (syzygyref01_Same.calls kj19 _ _ t190 _ _ t193 t196 _ ?side1 ?side2 ?side3 ?side4 A30.out).mono ?_); (case side1 => repeat (first | exact (Kd.V_reads' HO192.out).2.2 | (with_reducible refine Kd.C_alloc ?_ _) | (with_reducible refine Kd.C_drewN ?_ _) | (with_reducible refine Kd.C_drew ?_))); (case side2 => exact (Kd.V_reads' HO192.out).2.1); (case side3 => repeat (first | exact (Kd.R_reads' HO195.out).2.2 | (with_reducible refine Kd.C_alloc ?_ _) | (with_reducible refine Kd.C_drewN ?_ _) | (with_reducible refine Kd.C_drew ?_))); (case side4 => exact (Kd.R_reads' HO195.out).2.1); rintro e w' ⟨rfl, ⟨nd, rfl⟩⟩; refine ⟨_, rfl, ?_⟩))
                        go_ret
                        exact ⟨by first | rfl | (rw [HRT_.out]; rfl) | (simp only [HRT_.out]; done) | exact of_decide_eq_true HRT_.out | (have h_ := HRT_.out; simp at h_ ⊢; exact h_) | (have h_ := HRT_.out; simp at h_ ⊢; omega) | (have h_ := HRT_.out; simp [h_]; done) | (simp [errW_none, errW_some] <;> rfl) | (simp [*, errW_none, errW_some] <;> rfl), by repeat (first | (with_reducible first | exact HB.out | apply below_alloc | apply pw_below_drewN | apply below_drew1) | exact HB.out)⟩
                      · rw [if_neg c27] at H
                        have c27b0 : ((t185.length : Int) == 0) = false := beq_eq_false_iff_ne.mpr c27
                        have c27b1 : ((t185.length : Int) != 0) = true := bne_iff_ne.mpr c27
                        have c27b2 : ¬ (t185 = []) := fun h_ => c27 (by rw [h_]; rfl)
                        exact absurd H (by simp)
                    · replace c26 := Bool.eq_false_iff.mpr c26
                      subst c26
                      have H1 : (if (t181.length : Int) = 0 then ((limb_Add.f kj19 t185 l0).bind fun t197 => ((syzygyref01_Trim.f kj19 l1).bind fun t200 => ((syzygyref01_Same.f kj19 t197 t200).bind fun t203 => (some t203)))) else (some false)) = some true := by rw [if_neg (show ¬ (false = true) by decide)] at H; exact H
                      clear H
                      have H := H1
                      clear H1
                      by_cases c37 : (t181.length : Int) = 0
                      · rw [if_pos c37] at H
                        have c37b0 : ((t181.length : Int) == 0) = true := beq_iff_eq.mpr c37
                        have c37b1 : ((t181.length : Int) != 0) = false := bne_eq_false_iff_eq.mpr c37
                        clear c37
                        replace H := Option.bind_eq_some_iff.mp H
                        obtain ⟨t197, A380, H⟩ := H
                        replace H : ((syzygyref01_Trim.f kj19 l1).bind fun t200 => ((syzygyref01_Same.f kj19 t197 t200).bind fun t203 => (some t203))) = some true := H
                        have A38 := Aside0.mk A380
                        clear A380
                        replace H := Option.bind_eq_some_iff.mp H
                        obtain ⟨t200, A390, H⟩ := H
                        replace H : ((syzygyref01_Same.f kj19 t197 t200).bind fun t203 => (some t203)) = some true := H
                        have A39 := Aside0.mk A390
                        clear A390
                        replace H := Option.bind_eq_some_iff.mp H
                        obtain ⟨t203, A400, H⟩ := H
                        replace H : (some t203) = some true := H
                        have A40 := Aside0.mk A400
                        clear A400
                        have HRT_ := Aside0.mk (Option.some.inj H)
                        clear H
                        obtain ⟨Ao41, co41, eo41⟩ := Kd.R_slice HO_5.out
                        subst eo41
                        obtain ⟨Ao42, co42, eo42⟩ := Kd.R_slice HO_7.out
                        subst eo42
                        go_wp2_with (first | (go_at_call 16; (with_reducible refine (limb_Add.calls kj19 (fun k_ => some k_ = (.slice Ao42 t185.length co42 : Value).ownBlock) _ _ t185 _ _ l0 t197 _ ?side1 ?side2 ?side3 A38.out).mono ?_); (case side1 => exact Kd.R_V (Kd.R_tight rfl (HO_7.out))); (case side2 => repeat (first | exact (Kd.C_below HR0.out HB.out) | (with_reducible refine Kd.C_alloc ?_ _) | (with_reducible refine Kd.C_drewN ?_ _) | (with_reducible refine Kd.C_drew ?_))); (case side3 => exact HC0.out); rintro e w43 ⟨v198, rfl, ho0, hb⟩; have n0_ := Aside0.mk (Kd.R_below (by (with_reducible repeat (first | apply Kd.R_alloc | apply Kd.R_drewN | apply Kd.R_drew)); exact HO_5.out) hb); have n1_ := Aside0.mk (Kd.R_below (by (with_reducible repeat (first | apply Kd.R_alloc | apply Kd.R_drewN | apply Kd.R_drew)); exact HO_7.out) hb); have n2_ := Aside0.mk (Kd.V_lower (Kd.V_mono (ok' := fun k_ => some k_ ≠ (.slice Ao41 t181.length co41 : Value).ownBlock) ho0 (fun k_ hk_ => Or.elim hk_ (fun hs_ => ((HO_7.out).1 k_ hs_.symm)) (fun hn_ => (Kd.fresh' (Kd.R_lt (by (with_reducible repeat (first | apply Kd.R_alloc | apply Kd.R_drewN | apply Kd.R_drew)); exact HO_5.out)) k_ hn_)))) (below_size (by repeat (first | (with_reducible first | exact HB.out | apply below_alloc | apply pw_below_drewN | apply below_drew1) | exact HB.out)))); have n3_ := Aside0.mk (below_step (by repeat (first | (with_reducible first | exact HB.out | apply below_alloc | apply pw_below_drewN | apply below_drew1) | exact HB.out)) hb); clear HO_5; clear HO_7; clear HB; have HO_5 := n0_; have HO_7 := n1_; have HO199 := n2_; have HB := n3_; clear n0_ n1_ n2_ n3_; (try clear hb); (try clear hb2); (try clear hk); (try clear hi); (try clear ho0)) | ((with_reducible refine gate_dst (N := 78) rfl ?_); (try (refine gate_guard (by rfl) ?_; dsimp only)); refine gate_guard (by first | rfl | kernel_rfl) ?_; dsimp only; (with_reducible refine gate_callee (f := 15) rfl ?_); refine goesL_ (some 78) rfl rfl Try.func15 (by kernel_rfl) rfl #[.slice A1 l1.length c1] rfl (by (try simp only [List.map_toArray, List.map_cons, List.map_nil]); first | done | rfl | (simp only [List.length_drop, List.length_take]; rfl)) ?_; (with_reducible refine (syzygyref01_Trim.calls kj19 _ _ l1 t200 _ ?side1 ?side2 A39.out).mono ?_); (case side1 => repeat (first | exact (Kd.C_below HR1.out HB.out) | (with_reducible refine Kd.C_alloc ?_ _) | (with_reducible refine Kd.C_drewN ?_ _) | (with_reducible refine Kd.C_drew ?_))); (case side2 => exact HC1.out); rintro e w44 ⟨v201, rfl, ho0, hb⟩; refine ⟨_, rfl, ?_⟩; have n0_ := Aside0.mk (Kd.R_elder' (by (with_reducible repeat (first | apply Kd.R_alloc | apply Kd.R_drewN | apply Kd.R_drew)); exact HO_5.out) (Kd.R_base ho0) hb); have n1_ := Aside0.mk (Kd.R_elder' (by (with_reducible repeat (first | apply Kd.R_alloc | apply Kd.R_drewN | apply Kd.R_drew)); exact HO_7.out) (Kd.R_base ho0) hb); have n2_ := Aside0.mk (Kd.V_elder' (by (with_reducible repeat (first | apply Kd.V_alloc | apply Kd.V_drewN | apply Kd.V_drew)); exact HO199.out) (Kd.R_base ho0) hb); have n3_ := Aside0.mk (Kd.R_lower (Kd.R_new' (Kd.R_new' ho0 (Kd.R_lt (by (with_reducible repeat (first | apply Kd.R_alloc | apply Kd.R_drewN | apply Kd.R_drew)); exact HO_5.out))) (Kd.R_lt (by (with_reducible repeat (first | apply Kd.R_alloc | apply Kd.R_drewN | apply Kd.R_drew)); exact HO_7.out))) (below_size (by repeat (first | (with_reducible first | exact HB.out | apply below_alloc | apply pw_below_drewN | apply below_drew1) | exact HB.out)))); have n4_ := Aside0.mk (below_step (by repeat (first | (with_reducible first | exact HB.out | apply below_alloc | apply pw_below_drewN | apply below_drew1) | exact HB.out)) hb); clear HO_5; clear HO_7; clear HO199; clear HB; have HO_5 := n0_; have HO_7 := n1_; have HO199 := n2_; have HO202 := n3_; have HB := n4_; clear n0_ n1_ n2_ n3_ n4_; (try clear hb); (try clear hb2); (try clear hk); (try clear hi); (try clear ho0); obtain ⟨Ao45, co45, eo45⟩ := Kd.V_slice HO199.out; subst eo45; obtain ⟨Ao46, co46, eo46⟩ := Kd.R_slice HO202.out; subst eo46) | ((with_reducible refine gate_dst (N := 79) rfl ?_); (try (refine gate_guard (by rfl) ?_; dsimp only)); refine gate_guard (by first | rfl | kernel_rfl) ?_; dsimp only; (with_reducible refine gate_callee_t (t := 73) rfl ?_); refine goesT_ (some 79) rfl rfl Try.func14 (by kernel_rfl) rfl #[.slice Ao45 t197.length co45, .slice Ao46 t200.length co46] rfl rfl (by (try simp only [List.map_toArray, List.map_cons, List.map_nil]); first | done | rfl | (simp only [List.length_drop, List.length_take]; rfl)) ?_; (with_reducible refine (syzygyref01_Same.calls kj19 _ _ t197 _ _ t200 t203 _ ?side1 ?side2 ?side3 ?side4 A40.out).mono ?_); (case side1 => repeat (first | exact (Kd.V_reads' HO199.out).2.2 | (with_reducible refine Kd.C_alloc ?_ _) | (with_reducible refine Kd.C_drewN ?_ _) | (with_reducible refine Kd.C_drew ?_))); (case side2 => exact (Kd.V_reads' HO199.out).2.1); (case side3 => repeat (first | exact (Kd.R_reads' HO202.out).2.2 | (with_reducible refine Kd.C_alloc ?_ _) | (with_reducible refine Kd.C_drewN ?_ _) | (with_reducible refine Kd.C_drew ?_))); (case side4 => exact (Kd.R_reads' HO202.out).2.1); rintro e w' ⟨rfl, ⟨nd, rfl⟩⟩; refine ⟨_, rfl, ?_⟩))
                        go_ret
                        exact ⟨by first | rfl | (rw [HRT_.out]; rfl) | (simp only [HRT_.out]; done) | exact of_decide_eq_true HRT_.out | (have h_ := HRT_.out; simp at h_ ⊢; exact h_) | (have h_ := HRT_.out; simp at h_ ⊢; omega) | (have h_ := HRT_.out; simp [h_]; done) | (simp [errW_none, errW_some] <;> rfl) | (simp [*, errW_none, errW_some] <;> rfl), by repeat (first | (with_reducible first | exact HB.out | apply below_alloc | apply pw_below_drewN | apply below_drew1) | exact HB.out)⟩
                      · rw [if_neg c37] at H
                        have c37b0 : ((t181.length : Int) == 0) = false := beq_eq_false_iff_ne.mpr c37
                        have c37b1 : ((t181.length : Int) != 0) = true := bne_iff_ne.mpr c37
                        have c37b2 : ¬ (t181 = []) := fun h_ => c37 (by rw [h_]; rfl)
                        exact absurd H (by simp)

/-- THE ONE PURE STATEMENT of syzygylaw01_LimbSub: yours. -/
def syzygylaw01_LimbSub.Pure : Prop := ∀ (l0 : List Int) (l1 : List Int), l0.length ≤ maxLen → l0.length * 8 ≤ 140737488351232 → (∀ x ∈ l0, (Lit.int .u64 x).wf = true) → l1.length ≤ maxLen → l1.length * 8 ≤ 140737488351232 → (∀ x ∈ l1, (Lit.int .u64 x).wf = true) → ∃ k, syzygylaw01_LimbSub.f k l0 l1 = some true
theorem syzygylaw01_LimbSub.walk (P : syzygylaw01_LimbSub.Pure) (a0 : Option Addr) (len0 cap0 : Nat) (z0 : List Int) (a1 : Option Addr) (len1 cap1 : Nat) (z1 : List Int) (w : World) (w0 : (a0 = none ∧ len0 = 0 ∧ cap0 = 0 ∧ z0 = []) ∨ ∃ x, a0 = some x ∧ len0 ≤ cap0 ∧ cap0 ≤ maxLen ∧ z0.length = cap0 ∧ (∀ i, i < z0.length → w.cell? (x.add i) = some (.int .u64 (z0.getD i 0))) ∧ ∀ n ∈ z0, (Lit.int .u64 n).wf = true) (y0 : len0 * 8 ≤ 140737488351232) (w1 : (a1 = none ∧ len1 = 0 ∧ cap1 = 0 ∧ z1 = []) ∨ ∃ x, a1 = some x ∧ len1 ≤ cap1 ∧ cap1 ≤ maxLen ∧ z1.length = cap1 ∧ (∀ i, i < z1.length → w.cell? (x.add i) = some (.int .u64 (z1.getD i 0))) ∧ ∀ n ∈ z1, (Lit.int .u64 n).wf = true) (y1 : len1 * 8 ≤ 140737488351232) :
    Calls Try.prog 6 #[.slice a0 len0 cap0, .slice a1 len1 cap1] w fun e w' => e = .returned (.bool true) ∧ Below w.heap.size w w' := by
  obtain ⟨l0, rfl, hr0, hm0, hw0, hc0⟩ := ReadsInt.ofRowC w0
  obtain ⟨l1, rfl, hr1, hm1, hw1, hc1⟩ := ReadsInt.ofRowC w1
  obtain ⟨k, h⟩ := P l0 l1 hm0 y0 hw0 hm1 y1 hw1
  refine (syzygylaw01_LimbSub.calls k _ _ l0 _ _ l1 w (Kd.C_of_reads (d := (0 : Int)) (h1 := fun _ => rfl) hr0) hc0 (Kd.C_of_reads (d := (0 : Int)) (h1 := fun _ => rfl) hr1) hc1 h).mono ?_
  rintro e w' ⟨rfl, hd⟩
  exact ⟨rfl, hd⟩

end Go.Proofs.Ytdknpbabdkjhfaa.POLimbSub
