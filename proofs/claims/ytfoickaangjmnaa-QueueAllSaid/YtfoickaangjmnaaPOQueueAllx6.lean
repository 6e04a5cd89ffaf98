-- Written by a program of this session (pr.py, over the kit's print.py).
import Derived.Test.YtfoickaangjmnaaPOQueueAllx0
import Derived.Test.YtfoickaangjmnaaPOQueueAllx2
import Derived.Test.YtfoickaangjmnaaPOQueueAllx3
import Derived.Test.YtfoickaangjmnaaPOQueueAllx4
import Derived.Test.YtfoickaangjmnaaPOQueueAllx5
namespace Go.Proofs.Ytfoickaangjmnaa.POQueueAll
open Go.RowKit Go.Proofs.YtfoickaangjmnaaN Go.Proofs.YtfoickaangjmnaaW.PrintWords Go.Proofs.YtfoickaangjmnaaW.PrintLast Go.Proofs.YtfoickaangjmnaaW.PrintMore
attribute [local go_sem] max2_int min2_int max_two min_two max_three min_three max_four min_four   -- for this text's walks alone
set_option linter.unusedVariables false
set_option linter.unusedSimpArgs false

/-! ### queue_Next: function 15 -/

theorem row3 {g : Nat} {x0 x1 x2 : Int} {t : TypeId} {w : World} (hb : w.heap[g]? = some (.cells #[.int .i64 x0, .int .i64 x1, .int .i64 x2] t (0, 0))) : Kd.C (Kd.int .i64) w (some ⟨g, 0, none⟩) 3 [x0, x1, x2] := by
  have key : ∀ (q : Nat) (v : Value), (#[.int .i64 x0, .int .i64 x1, .int .i64 x2] : Array Value)[q]? = some v → w.cell? ⟨g, q, none⟩ = some v := fun q v hv => (blk_cell hb q).trans hv
  have one : ∀ (q : Nat) (x : Int), (#[.int .i64 x0, .int .i64 x1, .int .i64 x2] : Array Value)[q]? = some (.int .i64 x) → ∃ c : List Value, c.length = (Kd.int .i64).sz ∧ (Kd.int .i64).K w x c ∧ ∀ i u, c[i]? = some u → w.cell? (Addr.add ⟨g, 0, none⟩ (q * (Kd.int .i64).sz + i)) = some u := by
    intro q x hq
    refine ⟨[.int .i64 x], rfl, rfl, fun i u hu => ?_⟩
    cases i with
    | zero =>
      obtain rfl := Option.some.inj hu
      have := key q _ hq
      have e : Addr.add ⟨g, 0, none⟩ (q * (Kd.int .i64).sz + 0) = ⟨g, q, none⟩ := by
        by_cases h0 : q = 0 <;> simp [Addr.add, Kd.int, Kd.scalar, h0]
      rw [e]; exact this
    | succ i => cases hu
  refine ⟨rfl, by decide, fun _ => ⟨⟨g, 0, none⟩, rfl, fun j p hj => ?_⟩⟩
  match j, hj with
  | 0, hj => obtain rfl := Option.some.inj hj; exact one 0 _ rfl
  | 1, hj => obtain rfl := Option.some.inj hj; exact one 1 _ rfl
  | 2, hj => obtain rfl := Option.some.inj hj; exact one 2 _ rfl
theorem row_new (u : World) (a b c : Int) : Kd.C (Kd.int .i64) (u.alloc (.cells #[.int .i64 a, .int .i64 b, .int .i64 c] 3)) (some ⟨u.heap.size, 0, none⟩) 3 [a, b, c] := row3 (blk_new u _)
theorem below_dn {B : Nat} {w X : World} (h : Below B w X) (n : Nat) : Below B w (X.drewN n) := by repeat (first | exact h | apply pw_below_drewN)
theorem cell_dn {X : World} {a : Addr} {v : Value} (h : X.cell? a = some v) (n : Nat) : (X.drewN n).cell? a = some v := (below_dn (Below.refl X.heap.size X) n).cell (World.block_lt_of_cell? _ _ h) |>.trans h
theorem below_dn' {B n : Nat} {w X Y : World} (h : Below B w X) (e : Y = X.drewN n) : Below B w Y := by rw [e]; exact below_dn h n
theorem cell_dn' {X Y : World} {a : Addr} {v : Value} {n : Nat} (h : X.cell? a = some v) (e : Y = X.drewN n) : Y.cell? a = some v := by rw [e]; exact cell_dn h n
theorem below_drewN' (B : Nat) (w : World) (n : Nat) : Below B w (w.drewN n) := by repeat (first | exact Below.refl _ _ | apply pw_below_drewN)
theorem blk_below' {w w1 : World} {g : Nat} {o : Obj} (h : w.heap[g]? = some o) (hb : Below w.heap.size w w1) : w1.heap[g]? = some o := blk_below h hb

set_option maxHeartbeats 8000000 in
set_option maxRecDepth 100000 in
theorem next1_calls (gl : Nat) (A : Option Addr) (c : Nat) (ls : List S36) (x : S26) (r1 r2 r3 r4 : Int) (w : World) (hb : w.heap[gl]? = some (.cells #[.slice A ls.length c] 22 (0, 0))) (hr : Kd.C k36 w A ls.length ls) (h0 : 0 ≤ x.f0 ∧ x.f0 < ls.length) (h1 : 0 ≤ x.f1 ∧ x.f1 < ls.length)
    (h : mono_Lcm.f (rd_T36 ls x.f0).f0 (rd_T36 ls x.f0).f1 (rd_T36 ls x.f0).f2 (rd_T36 ls x.f0).f3 (rd_T36 ls x.f1).f0 (rd_T36 ls x.f1).f1 (rd_T36 ls x.f1).f2 (rd_T36 ls x.f1).f3 = some (r1, r2, r3, r4)) :
    Calls Try.prog 43 #[pr26 x, .pointer (some ⟨gl, 0, none⟩)] w fun e w' => e = .returned (.agg #[.int .i64 r1, .int .i64 r2, .int .i64 r3, .int .i64 r4]) ∧ Below w.heap.size w w' := by
  have hu26 := Try.underlying26
  have hu36 := Try.underlying36
  obtain ⟨ad, e1, x0, x1, x2, x3⟩ := at_T36 hr x.f0 h0.1 h0.2
  obtain ⟨ad', e2, y0, y1, y2, y3⟩ := at_T36 hr x.f1 h1.1 h1.2
  subst e1
  obtain rfl : ad = ad' := by injection e2
  clear e2 hr
  generalize rd_T36 ls x.f0 = a at x0 x1 x2 x3 h
  generalize rd_T36 ls x.f1 = b at y0 y1 y2 y3 h
  have HF := Aside0.mk h
  clear h
  obtain ⟨i, j⟩ := x
  dsimp only at h0 h1 x0 x1 x2 x3 y0 y1 y2 y3
  have p0 := eq_true h0.1
  have q0 := eq_true h0.2
  have p1 := eq_true h1.1
  have q1 := eq_true h1.2
  clear h0 h1
  have H2 := Aside0.mk (blk_alloc (blk_new w (.cells #[.int .i64 i, .int .i64 j] 26)) (.cells #[.int .i64 0, .int .i64 0, .int .i64 0, .int .i64 0] 36))
  have h3 := blk_new (w.alloc (.cells #[.int .i64 i, .int .i64 j] 26)) (.cells #[.int .i64 0, .int .i64 0, .int .i64 0, .int .i64 0] 36)
  rw [World.size_alloc] at h3
  have H3 := Aside0.mk h3
  have HG := Aside0.mk (blk_alloc (blk_alloc hb (.cells #[.int .i64 i, .int .i64 j] 26)) (.cells #[.int .i64 0, .int .i64 0, .int .i64 0, .int .i64 0] 36))
  have HD := Aside0.mk (below_alloc (below_alloc (Below.refl _ w) (.cells #[.int .i64 i, .int .i64 j] 26)) (.cells #[.int .i64 0, .int .i64 0, .int .i64 0, .int .i64 0] 36))
  clear h3 hb
  unfold pr26
  go_enter Try.func43, Try.ntmps43
  go_wp2_with fail
  generalize (w.alloc (.cells #[.int .i64 i, .int .i64 j] 26)).alloc (.cells #[.int .i64 0, .int .i64 0, .int .i64 0, .int .i64 0] 36) = v0 at H2 H3 HG HD ⊢
  replace x0 := (HD.out.cell (World.block_lt_of_cell? w _ x0)).trans x0
  replace x1 := (HD.out.cell (World.block_lt_of_cell? w _ x1)).trans x1
  replace x2 := (HD.out.cell (World.block_lt_of_cell? w _ x2)).trans x2
  replace x3 := (HD.out.cell (World.block_lt_of_cell? w _ x3)).trans x3
  replace y0 := (HD.out.cell (World.block_lt_of_cell? w _ y0)).trans y0
  replace y1 := (HD.out.cell (World.block_lt_of_cell? w _ y1)).trans y1
  replace y2 := (HD.out.cell (World.block_lt_of_cell? w _ y2)).trans y2
  replace y3 := (HD.out.cell (World.block_lt_of_cell? w _ y3)).trans y3
  refine start_ (n := 12) (S := fun w' => w'.cell? ⟨gl, 0, none⟩ = some (.slice (some ad) ls.length c) ∧ w'.cell? ⟨w.heap.size, 0, none⟩ = some (.int .i64 i) ∧ w'.cell? ⟨w.heap.size, 1, none⟩ = some (.int .i64 j) ∧ w'.cell? (ad.add (i.toNat * 4)) = some (.int .i64 a.f0) ∧ w'.cell? ⟨(ad.add (i.toNat * 4)).block, (ad.add (i.toNat * 4)).off + 1, none⟩ = some (.int .i64 a.f1) ∧ w'.cell? ⟨(ad.add (i.toNat * 4)).block, (ad.add (i.toNat * 4)).off + 2, none⟩ = some (.int .i64 a.f2) ∧ w'.cell? ⟨(ad.add (i.toNat * 4)).block, (ad.add (i.toNat * 4)).off + 3, none⟩ = some (.int .i64 a.f3) ∧ w'.cell? (ad.add (j.toNat * 4)) = some (.int .i64 b.f0) ∧ w'.cell? ⟨(ad.add (j.toNat * 4)).block, (ad.add (j.toNat * 4)).off + 1, none⟩ = some (.int .i64 b.f1) ∧ w'.cell? ⟨(ad.add (j.toNat * 4)).block, (ad.add (j.toNat * 4)).off + 2, none⟩ = some (.int .i64 b.f2) ∧ w'.cell? ⟨(ad.add (j.toNat * 4)).block, (ad.add (j.toNat * 4)).off + 3, none⟩ = some (.int .i64 b.f3)) (ds := [11]) #[false, false, false, false, false, false, false, false, false, false, false, false] (by kernel_rfl) rfl rfl ⟨(blk_cell (blk_drew HG.out) 0).trans rfl, (blk_cell (blk_drew H2.out) 0).trans rfl, (blk_cell (blk_drew H2.out) 1).trans rfl, x0, x1, x2, x3, y0, y1, y2, y3⟩ (fun hHeld => ?_)
  have H33 := Aside0.mk (blk_drew H3.out)
  have HD3 := Aside0.mk (below_drew HD.out)
  generalize v0.drew = w3 at H33 HD3 hHeld ⊢
  clear H2 H3 HG HD x0 x1 x2 x3 y0 y1 y2 y3
  refine take_ (i := 0) (N := some 4) (v := ?_) (a' := ?_) #[true, false, false, false, false, false, false, false, false, false, false, false] rfl rfl (by kernel_rfl) (fun _ _ _ h => h) (Or.inl ⟨by rfl, ?_⟩) hHeld ?_ ?_
  rotate_left
  · rintro w' ⟨s0_, s1_, s2_, s3_, s4_, s5_, s6_, s7_, s8_, s9_, s10_⟩
    go_simp
    with_reducible rfl
  rotate_left
  · simp only [Act.put, List.setIfInBounds_toArray, List.set_cons_zero, List.set_cons_succ, i64_w, i32_w]
    rfl
  refine take_ (i := 5) (N := some 9) (v := ?_) (a' := ?_) #[true, false, false, false, false, true, false, false, false, false, false, false] rfl rfl (by kernel_rfl) (fun _ _ _ h => h) (Or.inl ⟨by rfl, ?_⟩) hHeld ?_ ?_
  rotate_left
  · rintro w' ⟨s0_, s1_, s2_, s3_, s4_, s5_, s6_, s7_, s8_, s9_, s10_⟩
    go_simp
    with_reducible rfl
  rotate_left
  · simp only [Act.put, List.setIfInBounds_toArray, List.set_cons_zero, List.set_cons_succ, i64_w, i32_w]
    rfl
  refine pure_ (i := 1) (N := some 5) (v := ?_) (a' := ?_) #[true, true, false, false, false, true, false, false, false, false, false, false] rfl rfl (by kernel_rfl) (fun _ _ _ h => h) (Or.inl ⟨by rfl, ?_⟩) ?_ ?_
  rotate_left
  · intro w'
    go_simp
    with_reducible rfl
  rotate_left
  · simp only [Act.put, List.setIfInBounds_toArray, List.set_cons_zero, List.set_cons_succ, i64_w, i32_w]
    rfl
  refine pure_ (i := 6) (N := some 10) (v := ?_) (a' := ?_) #[true, true, false, false, false, true, true, false, false, false, false, false] rfl rfl (by kernel_rfl) (fun _ _ _ h => h) (Or.inl ⟨by rfl, ?_⟩) ?_ ?_
  rotate_left
  · intro w'
    go_simp
    with_reducible rfl
  rotate_left
  · simp only [Act.put, List.setIfInBounds_toArray, List.set_cons_zero, List.set_cons_succ, i64_w, i32_w]
    rfl
  refine take_ (i := 2) (N := some 6) (v := ?_) (a' := ?_) #[true, true, true, false, false, true, true, false, false, false, false, false] rfl rfl (by kernel_rfl) (fun _ _ _ h => h) (Or.inl ⟨by rfl, ?_⟩) hHeld ?_ ?_
  rotate_left
  · rintro w' ⟨s0_, s1_, s2_, s3_, s4_, s5_, s6_, s7_, s8_, s9_, s10_⟩
    go_simp
    with_reducible rfl
  rotate_left
  · simp only [Act.put, List.setIfInBounds_toArray, List.set_cons_zero, List.set_cons_succ, i64_w, i32_w]
    rfl
  refine take_ (i := 7) (N := some 11) (v := ?_) (a' := ?_) #[true, true, true, false, false, true, true, true, false, false, false, false] rfl rfl (by kernel_rfl) (fun _ _ _ h => h) (Or.inl ⟨by rfl, ?_⟩) hHeld ?_ ?_
  rotate_left
  · rintro w' ⟨s0_, s1_, s2_, s3_, s4_, s5_, s6_, s7_, s8_, s9_, s10_⟩
    go_simp
    with_reducible rfl
  rotate_left
  · simp only [Act.put, List.setIfInBounds_toArray, List.set_cons_zero, List.set_cons_succ, i64_w, i32_w]
    rfl
  refine pure_ (i := 3) (N := some 7) (v := ?_) (a' := ?_) #[true, true, true, true, false, true, true, true, false, false, false, false] rfl rfl (by kernel_rfl) (fun _ _ _ h => h) (Or.inl ⟨by rfl, ?_⟩) ?_ ?_
  rotate_left
  · intro w'
    go_simp
    with_reducible rfl
  rotate_left
  · simp only [Act.put, List.setIfInBounds_toArray, List.set_cons_zero, List.set_cons_succ, i64_w, i32_w]
    rfl
  refine pure_ (i := 8) (N := some 12) (v := ?_) (a' := ?_) #[true, true, true, true, false, true, true, true, true, false, false, false] rfl rfl (by kernel_rfl) (fun _ _ _ h => h) (Or.inl ⟨by rfl, ?_⟩) ?_ ?_
  rotate_left
  · intro w'
    go_simp
    with_reducible rfl
  rotate_left
  · simp only [Act.put, List.setIfInBounds_toArray, List.set_cons_zero, List.set_cons_succ, i64_w, i32_w]
    rfl
  refine take_ (i := 4) (N := some 8) (v := ?_) (a' := ?_) #[true, true, true, true, true, true, true, true, true, false, false, false] rfl rfl (by kernel_rfl) (fun _ _ _ h => h) (Or.inl ⟨by rfl, ?_⟩) hHeld ?_ ?_
  rotate_left
  · rintro w' ⟨s0_, s1_, s2_, s3_, s4_, s5_, s6_, s7_, s8_, s9_, s10_⟩
    go_simp
    with_reducible rfl
  rotate_left
  · simp only [Act.put, List.setIfInBounds_toArray, List.set_cons_zero, List.set_cons_succ, i64_w, i32_w]
    rfl
  refine take_ (i := 9) (N := some 13) (v := ?_) (a' := ?_) #[true, true, true, true, true, true, true, true, true, true, false, false] rfl rfl (by kernel_rfl) (fun _ _ _ h => h) (Or.inl ⟨by rfl, ?_⟩) hHeld ?_ ?_
  rotate_left
  · rintro w' ⟨s0_, s1_, s2_, s3_, s4_, s5_, s6_, s7_, s8_, s9_, s10_⟩
    go_simp
    with_reducible rfl
  rotate_left
  · simp only [Act.put, List.setIfInBounds_toArray, List.set_cons_zero, List.set_cons_succ, i64_w, i32_w]
    rfl
  refine one_ (i := 10) (N := some 14) #[true, true, true, true, true, true, true, true, true, true, true, false] rfl rfl (by kernel_rfl) (by decide) (fun K hK => ?_)
  refine goes_ Try.func44 (by kernel_rfl) rfl #[.agg #[.int .i64 a.f0, .int .i64 a.f1, .int .i64 a.f2, .int .i64 a.f3], .agg #[.int .i64 b.f0, .int .i64 b.f1, .int .i64 b.f2, .int .i64 b.f3]] (by rfl) rfl rfl (by (try simp only [List.map_toArray, List.map_cons, List.map_nil]); first | done | rfl) ?_
  refine (mono_Lcm.calls a.f0 a.f1 a.f2 a.f3 b.f0 b.f1 b.f2 b.f3 r1 r2 r3 r4 _ HF.out).mono ?_
  rintro e w' ⟨rfl, hb⟩
  have H34 := Aside0.mk (blk_below H33.out hb)
  have HD4 := Aside0.mk (below_step HD3.out hb)
  refine ⟨_, rfl, ?_⟩
  refine hK.out _ _ ⟨(hb.cell (World.block_lt_of_cell? _ _ hHeld.1)).trans hHeld.1, (hb.cell (World.block_lt_of_cell? _ _ hHeld.2.1)).trans hHeld.2.1, (hb.cell (World.block_lt_of_cell? _ _ hHeld.2.2.1)).trans hHeld.2.2.1, (hb.cell (World.block_lt_of_cell? _ _ hHeld.2.2.2.1)).trans hHeld.2.2.2.1, (hb.cell (World.block_lt_of_cell? _ _ hHeld.2.2.2.2.1)).trans hHeld.2.2.2.2.1, (hb.cell (World.block_lt_of_cell? _ _ hHeld.2.2.2.2.2.1)).trans hHeld.2.2.2.2.2.1, (hb.cell (World.block_lt_of_cell? _ _ hHeld.2.2.2.2.2.2.1)).trans hHeld.2.2.2.2.2.2.1, (hb.cell (World.block_lt_of_cell? _ _ hHeld.2.2.2.2.2.2.2.1)).trans hHeld.2.2.2.2.2.2.2.1, (hb.cell (World.block_lt_of_cell? _ _ hHeld.2.2.2.2.2.2.2.2.1)).trans hHeld.2.2.2.2.2.2.2.2.1, (hb.cell (World.block_lt_of_cell? _ _ hHeld.2.2.2.2.2.2.2.2.2.1)).trans hHeld.2.2.2.2.2.2.2.2.2.1, (hb.cell (World.block_lt_of_cell? _ _ hHeld.2.2.2.2.2.2.2.2.2.2)).trans hHeld.2.2.2.2.2.2.2.2.2.2⟩ (fun hHeld => ?_)
  clear hK K
  refine norm_ (a' := ?_) ?_ ?_
  rotate_left
  · simp only [Act.put, List.setIfInBounds_toArray, List.set_cons_zero, List.set_cons_succ, i64_w, i32_w]
    rfl
  refine last_ (i := 11) (N := none) #[true, true, true, true, true, true, true, true, true, true, true, true] rfl rfl (by kernel_rfl) (by decide) (fun K hK => ?_)
  have c0 : w'.cell? ⟨w.heap.size + 1, 0, none⟩ = some (.int .i64 0) := (blk_cell H34.out 0).trans rfl
  have f0 := blk_frozen H34.out 0
  have c1 : w'.cell? ⟨w.heap.size + 1, 1, none⟩ = some (.int .i64 0) := (blk_cell H34.out 1).trans rfl
  have f1 := blk_frozen H34.out 1
  have c2 : w'.cell? ⟨w.heap.size + 1, 2, none⟩ = some (.int .i64 0) := (blk_cell H34.out 2).trans rfl
  have f2 := blk_frozen H34.out 2
  have c3 : w'.cell? ⟨w.heap.size + 1, 3, none⟩ = some (.int .i64 0) := (blk_cell H34.out 3).trans rfl
  have f3 := blk_frozen H34.out 3
  refine skip_ (w1 := ?_) (by rfl) rfl ?_ ?_
  rotate_left
  · go_simp
    rfl
  refine hK.out _ _ ?_
  clear hK K
  refine done_ (by kernel_rfl) ?_
  have e0 := blk_put (cs' := #[.int .i64 r1, .int .i64 0, .int .i64 0, .int .i64 0]) H34.out 0 (.int .i64 r1) rfl
  have e1 := blk_put (cs' := #[.int .i64 r1, .int .i64 r2, .int .i64 0, .int .i64 0]) e0 1 (.int .i64 r2) rfl
  have e2 := blk_put (cs' := #[.int .i64 r1, .int .i64 r2, .int .i64 r3, .int .i64 0]) e1 2 (.int .i64 r3) rfl
  have e3 := blk_put (cs' := #[.int .i64 r1, .int .i64 r2, .int .i64 r3, .int .i64 r4]) e2 3 (.int .i64 r4) rfl
  have eb := ((((HD4.out.setCell (p := ⟨w.heap.size + 1, 0, none⟩) (by simp) (.int .i64 r1)).setCell (p := ⟨w.heap.size + 1, 1, none⟩) (by simp) (.int .i64 r2)).setCell (p := ⟨w.heap.size + 1, 2, none⟩) (by simp) (.int .i64 r3)).setCell (p := ⟨w.heap.size + 1, 3, none⟩) (by simp) (.int .i64 r4))
  go_wp2
  refine bodyPost_ret (results_cell_row rfl _ _ (w.heap.size + 1) 36 #[.int .i64 r1, .int .i64 r2, .int .i64 r3, .int .i64 r4] (0, 0) _ rfl e3 hu36 rfl (by kernel_rfl)) rfl ?_
  exact ⟨rfl, eb⟩

set_option maxHeartbeats 8000000 in
set_option maxRecDepth 100000 in
theorem next2_calls (go_ gf gl : Nat) (order : Int) (A : Option Addr) (c : Nat) (ls : List S36) (x y : S26) (a1 a2 a3 a4 b1 b2 b3 b4 k1 k2 k3 r : Int) (k : Nat) (w : World) (ho : w.heap[go_]? = some (.cells #[.int .i64 order] 3 (0, 0))) (hf : w.heap[gf]? = some (.cells #[.func (.func 43) #[] #[.pointer (some ⟨gl, 0, none⟩)]] 65 (0, 0))) (hb : w.heap[gl]? = some (.cells #[.slice A ls.length c] 22 (0, 0))) (hr : Kd.C k36 w A ls.length ls)
    (hx0 : 0 ≤ x.f0 ∧ x.f0 < ls.length) (hx1 : 0 ≤ x.f1 ∧ x.f1 < ls.length) (hy0 : 0 ≤ y.f0 ∧ y.f0 < ls.length) (hy1 : 0 ≤ y.f1 ∧ y.f1 < ls.length)
    (h1 : mono_Lcm.f (rd_T36 ls x.f0).f0 (rd_T36 ls x.f0).f1 (rd_T36 ls x.f0).f2 (rd_T36 ls x.f0).f3 (rd_T36 ls x.f1).f0 (rd_T36 ls x.f1).f1 (rd_T36 ls x.f1).f2 (rd_T36 ls x.f1).f3 = some (a1, a2, a3, a4)) (h2 : mono_Lcm.f (rd_T36 ls y.f0).f0 (rd_T36 ls y.f0).f1 (rd_T36 ls y.f0).f2 (rd_T36 ls y.f0).f3 (rd_T36 ls y.f1).f0 (rd_T36 ls y.f1).f1 (rd_T36 ls y.f1).f2 (rd_T36 ls y.f1).f3 = some (b1, b2, b3, b4)) (h3 : mono_Cmp.f order a1 a2 a3 a4 b1 b2 b3 b4 = some k1) (h4 : cmp_Compare_int.f x.f1 y.f1 = some k2) (h5 : cmp_Compare_int.f x.f0 y.f0 = some k3) (h6 : queue_first.f k [k1, k2, k3] = some r) :
    Calls Try.prog 46 #[pr26 x, pr26 y, .pointer (some ⟨go_, 0, none⟩), .pointer (some ⟨gf, 0, none⟩)] w fun e w' => e = .returned (.int .i64 r) ∧ Below w.heap.size w w' := by
  have hu26 := Try.underlying26
  have HHB := Aside0.mk hb
  have HHR := Aside0.mk hr
  have HX := Aside0.mk (And.intro hx0 hx1)
  have HY := Aside0.mk (And.intro hy0 hy1)
  have HA1 := Aside0.mk h1
  have HA2 := Aside0.mk h2
  have HA3 := Aside0.mk h3
  have HA4 := Aside0.mk h4
  have HA5 := Aside0.mk h5
  have HA6 := Aside0.mk h6
  have HO := Aside0.mk (blk_alloc (blk_alloc ho (.cells #[.int .i64 x.f0, .int .i64 x.f1] 26)) (.cells #[.int .i64 y.f0, .int .i64 y.f1] 26))
  have HF := Aside0.mk (blk_alloc (blk_alloc hf (.cells #[.int .i64 x.f0, .int .i64 x.f1] 26)) (.cells #[.int .i64 y.f0, .int .i64 y.f1] 26))
  have H2 := Aside0.mk (blk_alloc (blk_new w (.cells #[.int .i64 x.f0, .int .i64 x.f1] 26)) (.cells #[.int .i64 y.f0, .int .i64 y.f1] 26))
  have hn3 := blk_new (w.alloc (.cells #[.int .i64 x.f0, .int .i64 x.f1] 26)) (.cells #[.int .i64 y.f0, .int .i64 y.f1] 26)
  rw [World.size_alloc] at hn3
  have H3 := Aside0.mk hn3
  have HD := Aside0.mk (below_alloc (below_alloc (Below.refl _ w) (.cells #[.int .i64 x.f0, .int .i64 x.f1] 26)) (.cells #[.int .i64 y.f0, .int .i64 y.f1] 26))
  clear hn3 hb hr hx0 hx1 hy0 hy1 h1 h2 h3 h4 h5 h6 ho hf
  unfold pr26
  go_enter Try.func46, Try.ntmps46
  go_wp2_with fail
  generalize (w.alloc (.cells #[.int .i64 x.f0, .int .i64 x.f1] 26)).alloc (.cells #[.int .i64 y.f0, .int .i64 y.f1] 26) = v0 at HO HF H2 H3 HD ⊢
  refine start_ (n := 21) (S := fun w' => w'.cell? ⟨go_, 0, none⟩ = some (.int .i64 order) ∧ w'.cell? ⟨gf, 0, none⟩ = some (.func (.func 43) #[] #[.pointer (some ⟨gl, 0, none⟩)]) ∧ w'.cell? ⟨w.heap.size, 0, none⟩ = some (.int .i64 x.f0) ∧ w'.cell? ⟨w.heap.size, 1, none⟩ = some (.int .i64 x.f1) ∧ w'.cell? ⟨w.heap.size + 1, 0, none⟩ = some (.int .i64 y.f0) ∧ w'.cell? ⟨w.heap.size + 1, 1, none⟩ = some (.int .i64 y.f1)) (ds := []) #[false, false, false, false, false, false, false, false, false, false, false, false, false, false, false, false, false, false, false, false, false] (by kernel_rfl) rfl rfl ⟨(blk_cell (blk_drew HO.out) 0).trans rfl, (blk_cell (blk_drew HF.out) 0).trans rfl, (blk_cell (blk_drew H2.out) 0).trans rfl, (blk_cell (blk_drew H2.out) 1).trans rfl, (blk_cell (blk_drew H3.out) 0).trans rfl, (blk_cell (blk_drew H3.out) 1).trans rfl⟩ (fun hHeld => ?_)
  have HD0 := Aside0.mk (below_drew HD.out)
  generalize v0.drew = u0 at HD0 hHeld ⊢
  clear HO HF H2 H3 HD
  refine take_ (i := 0) (N := some 7) (v := ?_) (a' := ?_) #[true, false, false, false, false, false, false, false, false, false, false, false, false, false, false, false, false, false, false, false, false] rfl rfl (by kernel_rfl) (fun _ _ _ h => h) (Or.inl ⟨by rfl, ?_⟩) hHeld ?_ ?_
  rotate_left
  · rintro w' ⟨s0_, s1_, s2_, s3_, s4_, s5_⟩
    go_simp
    with_reducible rfl
  rotate_left
  · simp only [Act.put, List.setIfInBounds_toArray, List.set_cons_zero, List.set_cons_succ, i64_w, i32_w]
    rfl
  refine take_ (i := 1) (N := some 8) (v := ?_) (a' := ?_) #[true, true, false, false, false, false, false, false, false, false, false, false, false, false, false, false, false, false, false, false, false] rfl rfl (by kernel_rfl) (fun _ _ _ h => h) (Or.inl ⟨by rfl, ?_⟩) hHeld ?_ ?_
  rotate_left
  · rintro w' ⟨s0_, s1_, s2_, s3_, s4_, s5_⟩
    go_simp
    with_reducible rfl
  rotate_left
  · simp only [Act.put, List.setIfInBounds_toArray, List.set_cons_zero, List.set_cons_succ, i64_w, i32_w]
    rfl
  refine take_ (i := 2) (N := some 9) (v := ?_) (a' := ?_) #[true, true, true, false, false, false, false, false, false, false, false, false, false, false, false, false, false, false, false, false, false] rfl rfl (by kernel_rfl) (fun _ _ _ h => h) (Or.inl ⟨by rfl, ?_⟩) hHeld ?_ ?_
  rotate_left
  · rintro w' ⟨s0_, s1_, s2_, s3_, s4_, s5_⟩
    go_simp
    with_reducible rfl
  rotate_left
  · simp only [Act.put, List.setIfInBounds_toArray, List.set_cons_zero, List.set_cons_succ, i64_w, i32_w]
    rfl
  refine take_ (i := 4) (N := some 11) (v := ?_) (a' := ?_) #[true, true, true, false, true, false, false, false, false, false, false, false, false, false, false, false, false, false, false, false, false] rfl rfl (by kernel_rfl) (fun _ _ _ h => h) (Or.inl ⟨by rfl, ?_⟩) hHeld ?_ ?_
  rotate_left
  · rintro w' ⟨s0_, s1_, s2_, s3_, s4_, s5_⟩
    go_simp
    with_reducible rfl
  rotate_left
  · simp only [Act.put, List.setIfInBounds_toArray, List.set_cons_zero, List.set_cons_succ, i64_w, i32_w]
    rfl
  refine take_ (i := 5) (N := some 12) (v := ?_) (a' := ?_) #[true, true, true, false, true, true, false, false, false, false, false, false, false, false, false, false, false, false, false, false, false] rfl rfl (by kernel_rfl) (fun _ _ _ h => h) (Or.inl ⟨by rfl, ?_⟩) hHeld ?_ ?_
  rotate_left
  · rintro w' ⟨s0_, s1_, s2_, s3_, s4_, s5_⟩
    go_simp
    with_reducible rfl
  rotate_left
  · simp only [Act.put, List.setIfInBounds_toArray, List.set_cons_zero, List.set_cons_succ, i64_w, i32_w]
    rfl
  refine pure_ (i := 8) (N := some 15) (v := ?_) (a' := ?_) #[true, true, true, false, true, true, false, false, true, false, false, false, false, false, false, false, false, false, false, false, false] rfl rfl (by kernel_rfl) (fun _ _ _ h => h) (Or.inl ⟨by rfl, ?_⟩) ?_ ?_
  rotate_left
  · intro w'
    go_simp
    with_reducible rfl
  rotate_left
  · simp only [Act.put, List.setIfInBounds_toArray, List.set_cons_zero, List.set_cons_succ, i64_w, i32_w]
    rfl
  refine pure_ (i := 10) (N := some 17) (v := ?_) (a' := ?_) #[true, true, true, false, true, true, false, false, true, false, true, false, false, false, false, false, false, false, false, false, false] rfl rfl (by kernel_rfl) (fun _ _ _ h => h) (Or.inl ⟨by rfl, ?_⟩) ?_ ?_
  rotate_left
  · intro w'
    go_simp
    with_reducible rfl
  rotate_left
  · simp only [Act.put, List.setIfInBounds_toArray, List.set_cons_zero, List.set_cons_succ, i64_w, i32_w]
    rfl
  refine pure_ (i := 13) (N := some 20) (v := ?_) (a' := ?_) #[true, true, true, false, true, true, false, false, true, false, true, false, false, true, false, false, false, false, false, false, false] rfl rfl (by kernel_rfl) (fun _ _ _ h => h) (Or.inl ⟨by rfl, ?_⟩) ?_ ?_
  rotate_left
  · intro w'
    go_simp
    with_reducible rfl
  rotate_left
  · simp only [Act.put, List.setIfInBounds_toArray, List.set_cons_zero, List.set_cons_succ, i64_w, i32_w]
    rfl
  refine pure_ (i := 15) (N := some 22) (v := ?_) (a' := ?_) #[true, true, true, false, true, true, false, false, true, false, true, false, false, true, false, true, false, false, false, false, false] rfl rfl (by kernel_rfl) (fun _ _ _ h => h) (Or.inl ⟨by rfl, ?_⟩) ?_ ?_
  rotate_left
  · intro w'
    go_simp
    with_reducible rfl
  rotate_left
  · simp only [Act.put, List.setIfInBounds_toArray, List.set_cons_zero, List.set_cons_succ, i64_w, i32_w]
    rfl
  refine take_ (i := 9) (N := some 16) (v := ?_) (a' := ?_) #[true, true, true, false, true, true, false, false, true, true, true, false, false, true, false, true, false, false, false, false, false] rfl rfl (by kernel_rfl) (fun _ _ _ h => h) (Or.inl ⟨by rfl, ?_⟩) hHeld ?_ ?_
  rotate_left
  · rintro w' ⟨s0_, s1_, s2_, s3_, s4_, s5_⟩
    go_simp
    with_reducible rfl
  rotate_left
  · simp only [Act.put, List.setIfInBounds_toArray, List.set_cons_zero, List.set_cons_succ, i64_w, i32_w]
    rfl
  refine take_ (i := 11) (N := some 18) (v := ?_) (a' := ?_) #[true, true, true, false, true, true, false, false, true, true, true, true, false, true, false, true, false, false, false, false, false] rfl rfl (by kernel_rfl) (fun _ _ _ h => h) (Or.inl ⟨by rfl, ?_⟩) hHeld ?_ ?_
  rotate_left
  · rintro w' ⟨s0_, s1_, s2_, s3_, s4_, s5_⟩
    go_simp
    with_reducible rfl
  rotate_left
  · simp only [Act.put, List.setIfInBounds_toArray, List.set_cons_zero, List.set_cons_succ, i64_w, i32_w]
    rfl
  refine take_ (i := 14) (N := some 21) (v := ?_) (a' := ?_) #[true, true, true, false, true, true, false, false, true, true, true, true, false, true, true, true, false, false, false, false, false] rfl rfl (by kernel_rfl) (fun _ _ _ h => h) (Or.inl ⟨by rfl, ?_⟩) hHeld ?_ ?_
  rotate_left
  · rintro w' ⟨s0_, s1_, s2_, s3_, s4_, s5_⟩
    go_simp
    with_reducible rfl
  rotate_left
  · simp only [Act.put, List.setIfInBounds_toArray, List.set_cons_zero, List.set_cons_succ, i64_w, i32_w]
    rfl
  refine take_ (i := 16) (N := some 23) (v := ?_) (a' := ?_) #[true, true, true, false, true, true, false, false, true, true, true, true, false, true, true, true, true, false, false, false, false] rfl rfl (by kernel_rfl) (fun _ _ _ h => h) (Or.inl ⟨by rfl, ?_⟩) hHeld ?_ ?_
  rotate_left
  · rintro w' ⟨s0_, s1_, s2_, s3_, s4_, s5_⟩
    go_simp
    with_reducible rfl
  rotate_left
  · simp only [Act.put, List.setIfInBounds_toArray, List.set_cons_zero, List.set_cons_succ, i64_w, i32_w]
    rfl
  refine one_ (i := 3) (N := some 10) #[true, true, true, true, true, true, false, false, true, true, true, true, false, true, true, true, true, false, false, false, false] rfl rfl (by kernel_rfl) (by decide) (fun K hK => ?_)
  refine goesQ_ (t := 8) #[.pointer (some ⟨gl, 0, none⟩)] Try.func43 (by kernel_rfl) rfl #[pr26 x, .pointer (some ⟨gl, 0, none⟩)] (by rfl) rfl rfl (by rfl) (by simp [Act.eval, pr26]) ?_
  refine (next1_calls gl A c ls x a1 a2 a3 a4 _ (blk_below' HHB.out HD0.out) (Kd.C_below HHR.out HD0.out) HX.out.1 HX.out.2 HA1.out).mono ?_
  rintro e u1 ⟨rfl, hb⟩
  have HD1 := Aside0.mk (below_step HD0.out hb)
  clear HD0
  refine ⟨_, rfl, ?_⟩
  refine hK.out _ _ ⟨(hb.cell (World.block_lt_of_cell? _ _ hHeld.1)).trans hHeld.1, (hb.cell (World.block_lt_of_cell? _ _ hHeld.2.1)).trans hHeld.2.1, (hb.cell (World.block_lt_of_cell? _ _ hHeld.2.2.1)).trans hHeld.2.2.1, (hb.cell (World.block_lt_of_cell? _ _ hHeld.2.2.2.1)).trans hHeld.2.2.2.1, (hb.cell (World.block_lt_of_cell? _ _ hHeld.2.2.2.2.1)).trans hHeld.2.2.2.2.1, (hb.cell (World.block_lt_of_cell? _ _ hHeld.2.2.2.2.2)).trans hHeld.2.2.2.2.2⟩ (fun hHeld => ?_)
  clear hK K
  refine norm_ (a' := ?_) ?_ ?_
  rotate_left
  · simp only [Act.put, List.setIfInBounds_toArray, List.set_cons_zero, List.set_cons_succ, i64_w, i32_w]
    rfl
  refine one_ (i := 6) (N := some 13) #[true, true, true, true, true, true, true, false, true, true, true, true, false, true, true, true, true, false, false, false, false] rfl rfl (by kernel_rfl) (by decide) (fun K hK => ?_)
  refine goesQ_ (t := 11) #[.pointer (some ⟨gl, 0, none⟩)] Try.func43 (by kernel_rfl) rfl #[pr26 y, .pointer (some ⟨gl, 0, none⟩)] (by rfl) rfl rfl (by rfl) (by simp [Act.eval, pr26]) ?_
  refine (next1_calls gl A c ls y b1 b2 b3 b4 _ (blk_below' HHB.out HD1.out) (Kd.C_below HHR.out HD1.out) HY.out.1 HY.out.2 HA2.out).mono ?_
  rintro e u2 ⟨rfl, hb⟩
  have HD2 := Aside0.mk (below_step HD1.out hb)
  clear HD1
  refine ⟨_, rfl, ?_⟩
  refine hK.out _ _ ⟨(hb.cell (World.block_lt_of_cell? _ _ hHeld.1)).trans hHeld.1, (hb.cell (World.block_lt_of_cell? _ _ hHeld.2.1)).trans hHeld.2.1, (hb.cell (World.block_lt_of_cell? _ _ hHeld.2.2.1)).trans hHeld.2.2.1, (hb.cell (World.block_lt_of_cell? _ _ hHeld.2.2.2.1)).trans hHeld.2.2.2.1, (hb.cell (World.block_lt_of_cell? _ _ hHeld.2.2.2.2.1)).trans hHeld.2.2.2.2.1, (hb.cell (World.block_lt_of_cell? _ _ hHeld.2.2.2.2.2)).trans hHeld.2.2.2.2.2⟩ (fun hHeld => ?_)
  clear hK K
  refine norm_ (a' := ?_) ?_ ?_
  rotate_left
  · simp only [Act.put, List.setIfInBounds_toArray, List.set_cons_zero, List.set_cons_succ, i64_w, i32_w]
    rfl
  refine one_ (i := 7) (N := some 14) #[true, true, true, true, true, true, true, true, true, true, true, true, false, true, true, true, true, false, false, false, false] rfl rfl (by kernel_rfl) (by decide) (fun K hK => ?_)
  refine goes_ Try.func48 (by kernel_rfl) rfl #[.int .i64 order, .agg #[.int .i64 a1, .int .i64 a2, .int .i64 a3, .int .i64 a4], .agg #[.int .i64 b1, .int .i64 b2, .int .i64 b3, .int .i64 b4]] (by rfl) rfl rfl (by (try simp only [List.map_toArray, List.map_cons, List.map_nil]); first | done | rfl) ?_
  refine (mono_Cmp.calls order a1 a2 a3 a4 b1 b2 b3 b4 k1 _ HA3.out).mono ?_
  rintro e u3 ⟨rfl, hb⟩
  have HD3 := Aside0.mk (below_step HD2.out hb)
  clear HD2
  refine ⟨_, rfl, ?_⟩
  refine hK.out _ _ ⟨(hb.cell (World.block_lt_of_cell? _ _ hHeld.1)).trans hHeld.1, (hb.cell (World.block_lt_of_cell? _ _ hHeld.2.1)).trans hHeld.2.1, (hb.cell (World.block_lt_of_cell? _ _ hHeld.2.2.1)).trans hHeld.2.2.1, (hb.cell (World.block_lt_of_cell? _ _ hHeld.2.2.2.1)).trans hHeld.2.2.2.1, (hb.cell (World.block_lt_of_cell? _ _ hHeld.2.2.2.2.1)).trans hHeld.2.2.2.2.1, (hb.cell (World.block_lt_of_cell? _ _ hHeld.2.2.2.2.2)).trans hHeld.2.2.2.2.2⟩ (fun hHeld => ?_)
  clear hK K
  refine norm_ (a' := ?_) ?_ ?_
  rotate_left
  · simp only [Act.put, List.setIfInBounds_toArray, List.set_cons_zero, List.set_cons_succ, i64_w, i32_w]
    rfl
  refine one_ (i := 12) (N := some 19) #[true, true, true, true, true, true, true, true, true, true, true, true, true, true, true, true, true, false, false, false, false] rfl rfl (by kernel_rfl) (by decide) (fun K hK => ?_)
  refine goes_ Try.func49 (by kernel_rfl) rfl #[.int .i64 x.f1, .int .i64 y.f1] (by rfl) rfl rfl (by (try simp only [List.map_toArray, List.map_cons, List.map_nil]); first | done | rfl) ?_
  refine (cmp_Compare_int.calls x.f1 y.f1 k2 _ HA4.out).mono ?_
  rintro e u4 ⟨rfl, ⟨nd, hnd⟩⟩
  have HD4 := Aside0.mk (below_dn' HD3.out hnd)
  clear HD3
  refine ⟨_, rfl, ?_⟩
  refine hK.out _ _ ⟨cell_dn' hHeld.1 hnd, cell_dn' hHeld.2.1 hnd, cell_dn' hHeld.2.2.1 hnd, cell_dn' hHeld.2.2.2.1 hnd, cell_dn' hHeld.2.2.2.2.1 hnd, cell_dn' hHeld.2.2.2.2.2 hnd⟩ (fun hHeld => ?_)
  clear hK K
  clear hnd
  refine norm_ (a' := ?_) ?_ ?_
  rotate_left
  · simp only [Act.put, List.setIfInBounds_toArray, List.set_cons_zero, List.set_cons_succ, i64_w, i32_w]
    rfl
  refine one_ (i := 17) (N := some 24) #[true, true, true, true, true, true, true, true, true, true, true, true, true, true, true, true, true, true, false, false, false] rfl rfl (by kernel_rfl) (by decide) (fun K hK => ?_)
  refine goes_ Try.func49 (by kernel_rfl) rfl #[.int .i64 x.f0, .int .i64 y.f0] (by rfl) rfl rfl (by (try simp only [List.map_toArray, List.map_cons, List.map_nil]); first | done | rfl) ?_
  refine (cmp_Compare_int.calls x.f0 y.f0 k3 _ HA5.out).mono ?_
  rintro e u5 ⟨rfl, ⟨nd, hnd⟩⟩
  have HD5 := Aside0.mk (below_dn' HD4.out hnd)
  clear HD4
  refine ⟨_, rfl, ?_⟩
  refine hK.out _ _ ⟨cell_dn' hHeld.1 hnd, cell_dn' hHeld.2.1 hnd, cell_dn' hHeld.2.2.1 hnd, cell_dn' hHeld.2.2.2.1 hnd, cell_dn' hHeld.2.2.2.2.1 hnd, cell_dn' hHeld.2.2.2.2.2 hnd⟩ (fun hHeld => ?_)
  clear hK K
  clear hnd
  refine norm_ (a' := ?_) ?_ ?_
  rotate_left
  · simp only [Act.put, List.setIfInBounds_toArray, List.set_cons_zero, List.set_cons_succ, i64_w, i32_w]
    rfl
  refine one_ (i := 18) (N := some 25) #[true, true, true, true, true, true, true, true, true, true, true, true, true, true, true, true, true, true, true, false, false] rfl rfl (by kernel_rfl) (by decide) (fun K hK => ?_)
  refine value_ (w1 := u5.alloc (.cells #[.int .i64 k1, .int .i64 k2, .int .i64 k3] 3)) (v := .slice (some ⟨u5.heap.size, 0, none⟩) 3 3) (by rfl) rfl ?_ ?_
  · go_simp
  have HL := Aside0.mk (row_new u5 k1 k2 k3)
  have HD6 := Aside0.mk (HD5.out.alloc HD5.out.size (.cells #[.int .i64 k1, .int .i64 k2, .int .i64 k3] 3))
  refine hK.out _ _ ⟨Lib.cell?_alloc_some _ hHeld.1, Lib.cell?_alloc_some _ hHeld.2.1, Lib.cell?_alloc_some _ hHeld.2.2.1, Lib.cell?_alloc_some _ hHeld.2.2.2.1, Lib.cell?_alloc_some _ hHeld.2.2.2.2.1, Lib.cell?_alloc_some _ hHeld.2.2.2.2.2⟩ (fun hHeld => ?_)
  clear hK K
  refine norm_ (a' := ?_) ?_ ?_
  rotate_left
  · simp only [Act.put, List.setIfInBounds_toArray, List.set_cons_zero, List.set_cons_succ, i64_w, i32_w]
    rfl
  refine one_ (i := 19) (N := some 26) #[true, true, true, true, true, true, true, true, true, true, true, true, true, true, true, true, true, true, true, true, false] rfl rfl (by kernel_rfl) (by decide) (fun K hK => ?_)
  refine goes_ Try.func47 (by kernel_rfl) rfl #[.slice (some ⟨u5.heap.size, 0, none⟩) 3 3] (by rfl) rfl rfl (by (try simp only [List.map_toArray, List.map_cons, List.map_nil]); first | done | rfl) ?_
  refine (queue_first.calls k (some ⟨u5.heap.size, 0, none⟩) 3 [k1, k2, k3] r _ HL.out (Nat.le_refl 3) HA6.out).mono ?_
  rintro e u7 ⟨rfl, ⟨nd, hnd⟩⟩
  have HD7 := Aside0.mk (below_dn' HD6.out hnd)
  clear HD6
  refine ⟨_, rfl, ?_⟩
  refine hK.out _ _ ⟨cell_dn' hHeld.1 hnd, cell_dn' hHeld.2.1 hnd, cell_dn' hHeld.2.2.1 hnd, cell_dn' hHeld.2.2.2.1 hnd, cell_dn' hHeld.2.2.2.2.1 hnd, cell_dn' hHeld.2.2.2.2.2 hnd⟩ (fun hHeld => ?_)
  clear hK K
  refine norm_ (a' := ?_) ?_ ?_
  rotate_left
  · simp only [Act.put, List.setIfInBounds_toArray, List.set_cons_zero, List.set_cons_succ, i64_w, i32_w]
    rfl
  refine pure_ (i := 20) (N := some 6) (v := ?_) (a' := ?_) #[true, true, true, true, true, true, true, true, true, true, true, true, true, true, true, true, true, true, true, true, true] rfl rfl (by kernel_rfl) (fun _ _ _ h => h) (Or.inl ⟨by rfl, ?_⟩) ?_ ?_
  rotate_left
  · intro w'
    go_simp
    with_reducible rfl
  rotate_left
  · simp only [Act.put, List.setIfInBounds_toArray, List.set_cons_zero, List.set_cons_succ, i64_w, i32_w]
    rfl
  refine done_ (by kernel_rfl) ?_
  go_wp2
  go_ret
  exact ⟨rfl, HD7.out⟩

theorem may_all (n : Int) : ∀ (l : List S26) (d : List (Int × Int)), queue_May.go n d l = true → 0 ≤ n ∧ n ≤ 24 ∧ ∀ a ∈ l, 0 ≤ a.f0 ∧ a.f0 < a.f1 ∧ a.f1 < n
  | [], d, h => by
    unfold queue_May.go at h
    rw [Bool.and_eq_true, decide_eq_true_eq, decide_eq_true_eq] at h
    exact ⟨h.1, h.2, fun a ha => by cases ha⟩
  | p :: t, d, h => by
    unfold queue_May.go at h
    by_cases c0 : p.f0 < 0
    · rw [if_pos c0] at h; exact absurd h (by decide)
    rw [if_neg c0] at h
    by_cases c1 : p.f1 ≤ p.f0
    · rw [if_pos c1] at h; exact absurd h (by decide)
    rw [if_neg c1] at h
    by_cases c2 : (if 24 < n then 24 else n) ≤ p.f1
    · rw [if_pos c2] at h; exact absurd h (by decide)
    rw [if_neg c2] at h
    by_cases c3 : d.contains (p.f0, p.f1) = true
    · rw [if_pos c3] at h; exact absurd h (by decide)
    rw [if_neg c3] at h
    obtain ⟨h0, h1, h2⟩ := may_all n t _ h
    refine ⟨h0, h1, fun a ha => ?_⟩
    rcases List.mem_cons.1 ha with rfl | ha
    · exact ⟨by omega, by omega, by split at c2 <;> omega⟩
    · exact h2 a ha
def lcmv (a b : S36) : Int × Int × Int × Int := (mono_Lcm.f a.f0 a.f1 a.f2 a.f3 b.f0 b.f1 b.f2 b.f3).getD (0, 0, 0, 0)
theorem lcm_some (a0 a1 a2 a3 b0 b1 b2 b3 : Int) : ∃ p1 p2 p3 p4, mono_Lcm.f a0 a1 a2 a3 b0 b1 b2 b3 = some (p1, p2, p3, p4) := by
  unfold mono_Lcm.f mono_May.f mono_zipped_82.f
  cases mays a0 a1 a2 a3 <;> cases mays b0 b1 b2 b3 <;> exact ⟨_, _, _, _, rfl⟩
theorem cmp_some (a b : Int) : ∃ r, cmp_Compare_int.f a b = some r := by
  unfold cmp_Compare_int.f cmp_isNaN_int.f
  by_cases h : a < b
  · exact ⟨-1, by simp [h]⟩
  · by_cases h2 : b < a
    · exact ⟨1, by simp [h, h2]⟩
    · exact ⟨0, by simp [h, h2]⟩
theorem first_some (a b c : Int) : ∃ r, queue_first.f 5 [a, b, c] = some r := by
  unfold queue_first.f
  by_cases ha : a = 0
  · by_cases hb : b = 0
    · by_cases hc : c = 0
      · subst ha hb hc; exact ⟨0, by simp [queue_first.l0, rd, wrap64]⟩
      · subst ha hb; exact ⟨c, by simp [queue_first.l0, rd, wrap64, hc]⟩
    · subst ha; exact ⟨b, by simp [queue_first.l0, rd, wrap64, hb]⟩
  · exact ⟨a, by simp [queue_first.l0, rd, ha]⟩

def ord3 (o : Int) (ls : List S36) (a b : S26) : Int :=
  (queue_first.f 5 [mcmp o (lcmv (rd_T36 ls a.f0) (rd_T36 ls a.f1)).1 (lcmv (rd_T36 ls a.f0) (rd_T36 ls a.f1)).2.1 (lcmv (rd_T36 ls a.f0) (rd_T36 ls a.f1)).2.2.1 (lcmv (rd_T36 ls a.f0) (rd_T36 ls a.f1)).2.2.2 (lcmv (rd_T36 ls b.f0) (rd_T36 ls b.f1)).1 (lcmv (rd_T36 ls b.f0) (rd_T36 ls b.f1)).2.1 (lcmv (rd_T36 ls b.f0) (rd_T36 ls b.f1)).2.2.1 (lcmv (rd_T36 ls b.f0) (rd_T36 ls b.f1)).2.2.2,
    (cmp_Compare_int.f a.f1 b.f1).getD 0, (cmp_Compare_int.f a.f0 b.f0).getD 0]).getD 0
theorem ord3_calls (go_ gf gl : Nat) (order : Int) (A : Option Addr) (c : Nat) (ls : List S36) (x y : S26) (w : World) (ho : w.heap[go_]? = some (.cells #[.int .i64 order] 3 (0, 0))) (hf : w.heap[gf]? = some (.cells #[.func (.func 43) #[] #[.pointer (some ⟨gl, 0, none⟩)]] 65 (0, 0))) (hb : w.heap[gl]? = some (.cells #[.slice A ls.length c] 22 (0, 0))) (hr : Kd.C k36 w A ls.length ls)
    (hx0 : 0 ≤ x.f0 ∧ x.f0 < ls.length) (hx1 : 0 ≤ x.f1 ∧ x.f1 < ls.length) (hy0 : 0 ≤ y.f0 ∧ y.f0 < ls.length) (hy1 : 0 ≤ y.f1 ∧ y.f1 < ls.length) :
    Calls Try.prog 46 #[pr26 x, pr26 y, .pointer (some ⟨go_, 0, none⟩), .pointer (some ⟨gf, 0, none⟩)] w fun e w' => e = .returned (.int .i64 (ord3 order ls x y)) ∧ Below w.heap.size w w' := by
  obtain ⟨a1, a2, a3, a4, ha⟩ := lcm_some (rd_T36 ls x.f0).f0 (rd_T36 ls x.f0).f1 (rd_T36 ls x.f0).f2 (rd_T36 ls x.f0).f3 (rd_T36 ls x.f1).f0 (rd_T36 ls x.f1).f1 (rd_T36 ls x.f1).f2 (rd_T36 ls x.f1).f3
  obtain ⟨b1, b2, b3, b4, hb'⟩ := lcm_some (rd_T36 ls y.f0).f0 (rd_T36 ls y.f0).f1 (rd_T36 ls y.f0).f2 (rd_T36 ls y.f0).f3 (rd_T36 ls y.f1).f0 (rd_T36 ls y.f1).f1 (rd_T36 ls y.f1).f2 (rd_T36 ls y.f1).f3
  obtain ⟨k2, h2⟩ := cmp_some x.f1 y.f1
  obtain ⟨k3, h3⟩ := cmp_some x.f0 y.f0
  obtain ⟨r, h6⟩ := first_some (mcmp order a1 a2 a3 a4 b1 b2 b3 b4) k2 k3
  have e : ord3 order ls x y = r := by
    unfold ord3 lcmv
    rw [ha, hb', h2, h3]
    dsimp only [Option.getD_some]
    rw [h6]
    rfl
  rw [e]
  exact next2_calls go_ gf gl order A c ls x y a1 a2 a3 a4 b1 b2 b3 b4 _ k2 k3 r 5 w ho hf hb hr hx0 hx1 hy0 hy1 ha hb' rfl h2 h3 h6
def ixp (l : List S26) (b : S26) : Nat := l.findIdx (fun p => b.f0 == p.f0 && b.f1 == p.f1)
theorem ixp_ev (b : S26) (l : List S26) (hl : l.length < 4398046511104) : ∀ (n k : Nat), k + n = l.length + 1 → b ∈ l.drop k → api_Pair_50.l0 n l l.length k b.f0 b.f1 = some ((k + (l.drop k).findIdx (fun p => b.f0 == p.f0 && b.f1 == p.f1) : Nat) : Int)
  | 0, k, hk, hm => by rw [List.drop_eq_nil_of_le (by omega)] at hm; cases hm
  | n + 1, k, hk, hm => by
    have hlt : k < l.length := by
      by_cases h : k < l.length
      · exact h
      · rw [List.drop_eq_nil_of_le (by omega)] at hm; cases hm
    have e : rd_T26 l (k : Int) = l[k] := by
      unfold rd_T26
      simp [hlt]
    have hd := List.drop_eq_getElem_cons hlt
    unfold api_Pair_50.l0
    rw [if_pos (by omega : (k : Int) < (l.length : Int)), if_pos (by omega : (0 : Int) ≤ (k : Int)), if_pos (by omega : (k : Int) < (l.length : Int)), e]
    rw [hd] at hm ⊢
    rw [List.findIdx_cons]
    cases hp : (b.f0 == l[k].f0 && b.f1 == l[k].f1) with
    | true => rw [if_pos rfl]; rfl
    | false =>
      rw [if_neg (by decide)]
      have hw : wrap64 ((k : Int) + 1) = ((k + 1 : Nat) : Int) := by unfold wrap64; omega
      have hm' : b ∈ l.drop (k + 1) := by
        rcases List.mem_cons.1 hm with h | h
        · rw [← h] at hp; simp at hp
        · exact h
      rw [hw, ixp_ev b l hl n (k + 1) (by omega) hm']
      simp only [cond_false]
      congr 1
      omega
theorem ixp_lt (l : List S26) (b : S26) (h : b ∈ l) : ixp l b < l.length := List.findIdx_lt_length_of_exists ⟨b, h, by simp⟩
theorem minp_mem (cmp : S26 → S26 → Int) : ∀ (l : List S26) (m : S26), minp cmp m l ∈ m :: l
  | [], m => List.mem_cons_self ..
  | x :: t, m => by
    unfold minp
    have := minp_mem cmp t (if cmp x m < 0 then x else m)
    rcases List.mem_cons.1 this with h | h
    · rw [h]
      split
      · exact List.mem_cons_of_mem _ (List.mem_cons_self ..)
      · exact List.mem_cons_self ..
    · exact List.mem_cons_of_mem _ (List.mem_cons_of_mem _ h)
def bestp (o : Int) (ls : List S36) (l : List S26) : S26 := minp (ord3 o ls) (rd_T26 l 0) (l.drop 1)
theorem bestp_mem (o : Int) (ls : List S36) (l : List S26) (h : 0 < l.length) : bestp o ls l ∈ l := by
  have hd : l.drop 0 = _ := List.drop_eq_getElem_cons h
  have e : rd_T26 l 0 = l[0] := by
    unfold rd_T26
    simp [h]
  have := minp_mem (ord3 o ls) (l.drop 1) (rd_T26 l 0)
  unfold bestp
  rw [e] at this ⊢
  rw [List.drop_zero] at hd
  have h2 : l[0] :: l.drop 1 = l := hd.symm
  rw [h2] at this
  exact this
def stop_ (a0 : Int) (l1 : List S36) (l2 : List S26) : Bool := if (l2.length : Int) = 0 then true else if queue_May.go (l1.length : Int) [] l2 = false then true else if a0 < 0 then true else decide (2 < a0)
theorem stop_no {a0 : Int} {l1 : List S36} {l2 : List S26} (h : stop_ a0 l1 l2 = false) : 0 < l2.length ∧ (∀ a ∈ l2, (0 ≤ a.f0 ∧ a.f0 < l1.length) ∧ (0 ≤ a.f1 ∧ a.f1 < l1.length)) := by
  unfold stop_ at h
  by_cases c0 : (l2.length : Int) = 0
  · rw [if_pos c0] at h; exact absurd h (by decide)
  · rw [if_neg c0] at h
    refine ⟨by omega, fun a ha => ?_⟩
    by_cases c1 : queue_May.go (l1.length : Int) [] l2 = false
    · rw [if_pos c1] at h; exact absurd h (by decide)
    · obtain ⟨_, _, h2⟩ := may_all (l1.length : Int) l2 [] (by simpa using c1)
      have := h2 a ha
      omega
def queue_Next.f (a0 : Int) (l1 : List S36) (l2 : List S26) : Option (Int × Int × List S26 × Bool) :=
  if l2.length < 4398046511104 then some (if stop_ a0 l1 l2 = true then (0, 0, [], false) else ((bestp a0 l1 l2).f0, (bestp a0 l1 l2).f1, l2.eraseIdx (ixp l2 (bestp a0 l1 l2)), true)) else none
set_option maxHeartbeats 16000000 in
set_option maxRecDepth 100000 in
theorem queue_Next.calls (a0 : Int) (A1 : Option Addr) (c1 : Nat) (l1 : List S36) (A2 : Option Addr) (c2 : Nat) (l2 : List S26) (r1 : Int) (r2 : Int) (r3 : List S26) (r4 : Bool) (w : World) (hr1 : Kd.C k36 w A1 l1.length l1) (hc1 : l1.length ≤ c1) (hr2 : Kd.C k26 w A2 l2.length l2) (hc2 : l2.length ≤ c2) (h : queue_Next.f a0 l1 l2 = some (r1, r2, r3, r4)) :
    Calls Try.prog 15 #[.int .i64 a0, .slice A1 l1.length c1, .slice A2 l2.length c2] w fun e w' => ∃ v2_ : Value, e = .returned (.tuple #[.agg #[.int .i64 r1, .int .i64 r2], v2_, .bool r4]) ∧ Kd.R k26 26 w' w.heap.size (fun _ => True) v2_ r3 ∧ Below w.heap.size w w' := by
  have hu26 := Try.underlying26
  have hmf : ∀ (fn : Fn) (first cap : Array Value) (w : World), (Instr.makeFunc fn first cap).run Try.prog w = .ok (.func fn first cap) w := fun _ _ _ _ => rfl
  have hnot : ∀ (x : Bool) (w : World), (Op.unary .not (.bool x)).run Try.prog w = .ok (.bool (!x)) w := fun _ _ => rfl
  have hl : l2.length < 4398046511104 := by
    by_cases hl : l2.length < 4398046511104
    · exact hl
    · unfold queue_Next.f at h
      rw [if_neg hl] at h
      exact absurd h (by simp)
  unfold queue_Next.f at h
  rw [if_pos hl] at h
  have HF := Aside0.mk (Option.some.inj h)
  have HR1 := Aside0.mk hr1
  have HC1 := Aside0.mk hc1
  have HR2 := Aside0.mk hr2
  have HC2 := Aside0.mk hc2
  have HLL := Aside0.mk hl
  clear hr1 hc1 hr2 hc2 h hl
  have hA := blk_alloc (blk_alloc (blk_new w (.cells #[.int .i64 a0] 3)) (.cells #[.slice A1 l1.length c1] 22)) (.cells #[.int .i64 0, .int .i64 0] 26)
  have hB := blk_alloc (blk_new (w.alloc (.cells #[.int .i64 a0] 3)) (.cells #[.slice A1 l1.length c1] 22)) (.cells #[.int .i64 0, .int .i64 0] 26)
  have hX := blk_new ((w.alloc (.cells #[.int .i64 a0] 3)).alloc (.cells #[.slice A1 l1.length c1] 22)) (.cells #[.int .i64 0, .int .i64 0] 26)
  simp only [World.size_alloc] at hA hB hX
  have HO := Aside0.mk hA
  have HL := Aside0.mk hB
  have HX := Aside0.mk hX
  have HD := Aside0.mk (below_alloc (below_alloc (below_alloc (Below.refl _ w) (.cells #[.int .i64 a0] 3)) (.cells #[.slice A1 l1.length c1] 22)) (.cells #[.int .i64 0, .int .i64 0] 26))
  clear hA hB hX
  go_enter Try.func15, Try.ntmps15
  go_upto_region 1 with (fail)
  generalize ((w.alloc (.cells #[.int .i64 a0] 3)).alloc (.cells #[.slice A1 l1.length c1] 22)).alloc (.cells #[.int .i64 0, .int .i64 0] 26) = v0 at HO HL HX HD ⊢
  go_cut [29] (fun v29 wc => v29 = .bool (stop_ a0 l1 l2) ∧ Aside0 (wc.heap[w.heap.size]? = some (.cells #[.int .i64 a0] 3 (0, 0))) ∧ Aside0 (wc.heap[w.heap.size + 1]? = some (.cells #[.slice A1 l1.length c1] 22 (0, 0))) ∧ Aside0 (wc.heap[w.heap.size + 1 + 1]? = some (.cells #[.int .i64 0, .int .i64 0] 26 (0, 0))) ∧ Aside0 (Below w.heap.size w wc))
  case first =>
    clear HF
    have hc4 : v0.cell? ⟨w.heap.size + 1, 0, none⟩ = some (.slice A1 l1.length c1) := (blk_cell HL.out 0).trans rfl
    by_cases c0 : (l2.length : Int) = 0
    · have HS := Aside0.mk (show stop_ a0 l1 l2 = true by unfold stop_; rw [if_pos c0])
      have c8b0 : ((l2.length : Int) == 0) = true := beq_iff_eq.mpr c0
      clear c0
      go_wp2
      go_meet
      case rel => exact ⟨by rw [HS.out], ⟨HO.out⟩, ⟨HL.out⟩, ⟨HX.out⟩, ⟨HD.out⟩⟩
    · have c8b0 : ((l2.length : Int) == 0) = false := beq_eq_false_iff_ne.mpr c0
      have HS0 := Aside0.mk c0
      clear c0
      obtain ⟨m, hm⟩ : ∃ m, queue_May.go (l1.length : Int) [] l2 = m := ⟨_, rfl⟩
      have HM := Aside0.mk (show queue_May.f (l1.length : Int) l2 = some m by unfold queue_May.f; rw [if_pos (by have := HLL.out; omega), hm])
      have HS1 := Aside0.mk (show stop_ a0 l1 l2 = if m = false then true else if a0 < 0 then true else decide (2 < a0) by unfold stop_; rw [if_neg HS0.out, hm])
      clear hm
      go_wp2_with fail
      refine (queue_May.calls (l1.length : Int) A2 c2 l2 m _ (Kd.C_below HR2.out HD.out) HC2.out HM.out).mono ?_
      rintro e w1 ⟨rfl, hb⟩
      have HO1 := Aside0.mk (blk_below HO.out hb)
      have HL1 := Aside0.mk (blk_below HL.out hb)
      have HX1 := Aside0.mk (blk_below HX.out hb)
      have HD1 := Aside0.mk (below_step HD.out hb)
      have ho1 : w1.cell? ⟨w.heap.size, 0, none⟩ = some (.int .i64 a0) := (blk_cell HO1.out 0).trans rfl
      clear hb HO HL HX HD hc4
      cases m with
      | false =>
        go_wp2
        go_meet
        case rel => exact ⟨by rw [HS1.out]; rfl, ⟨HO1.out⟩, ⟨HL1.out⟩, ⟨HX1.out⟩, ⟨HD1.out⟩⟩
      | true =>
        by_cases o1 : a0 < 0
        · have t1 : decide (a0 < 0) = true := decide_eq_true o1
          have HQ := Aside0.mk o1
          clear o1
          go_wp2
          go_meet
          case rel => exact ⟨by rw [HS1.out, if_neg (by decide), if_pos HQ.out], ⟨HO1.out⟩, ⟨HL1.out⟩, ⟨HX1.out⟩, ⟨HD1.out⟩⟩
        · have t1 : decide (a0 < 0) = false := decide_eq_false o1
          have HQ := Aside0.mk o1
          clear o1
          go_wp2
          go_meet
          case rel => exact ⟨by rw [HS1.out, if_neg (by decide), if_neg (Int.not_lt.2 HQ.out)], ⟨HO1.out⟩, ⟨HL1.out⟩, ⟨HX1.out⟩, ⟨HD1.out⟩⟩
  case rest =>
    clear HO HL HX HD
    obtain ⟨rfl, HO, HL, HX, HD⟩ := hcut
    have hF := HF.out
    cases hs : stop_ a0 l1 l2 with
    | true =>
      rw [hs, if_pos rfl] at hF
      simp only [Prod.mk.injEq] at hF
      obtain ⟨rfl, rfl, rfl, rfl⟩ := hF
      clear HF hs
      have c0 : wc.cell? ⟨w.heap.size + 1 + 1, 0, none⟩ = some (.int .i64 0) := (blk_cell HX.out 0).trans rfl
      have c1 : wc.cell? ⟨w.heap.size + 1 + 1, 1, none⟩ = some (.int .i64 0) := (blk_cell HX.out 1).trans rfl
      have f0 := blk_frozen HX.out 0
      have f1 := blk_frozen HX.out 1
      go_wp2
      have e1 := blk_put (cs' := #[.int .i64 0, .int .i64 0]) (blk_put (cs' := #[.int .i64 0, .int .i64 0]) HX.out 0 (.int .i64 0) rfl) 1 (.int .i64 0) rfl
      have eb := (HD.out.setCell (p := ⟨w.heap.size + 1 + 1, 0, none⟩) (by simp; omega) (.int .i64 0)).setCell (p := ⟨w.heap.size + 1 + 1, 1, none⟩) (by simp; omega) (.int .i64 0)
      refine bodyPost_ret (results_ctt rfl _ _ (w.heap.size + 1 + 1) 26 #[.int .i64 0, .int .i64 0] (0, 0) _ rfl e1 hu26 rfl (by kernel_rfl)) rfl ?_
      exact ⟨_, rfl, Kd.R_nil _ _ _ _ _, eb⟩
    | false =>
      rw [hs, if_neg (by decide)] at hF
      simp only [Prod.mk.injEq] at hF
      have HF2 := Aside0.mk hF
      have HS := Aside0.mk hs
      clear hF HF hs
      go_upto_region 5 with (fail)
      have HF3 := Aside0.mk (blk_new wc (.cells #[.func (.func 43) #[] #[.pointer (some ⟨w.heap.size + 1, 0, none⟩)]] 65))
      have HO1 := Aside0.mk (blk_alloc HO.out (.cells #[.func (.func 43) #[] #[.pointer (some ⟨w.heap.size + 1, 0, none⟩)]] 65))
      have HL1 := Aside0.mk (blk_alloc HL.out (.cells #[.func (.func 43) #[] #[.pointer (some ⟨w.heap.size + 1, 0, none⟩)]] 65))
      have HX1 := Aside0.mk (blk_alloc HX.out (.cells #[.func (.func 43) #[] #[.pointer (some ⟨w.heap.size + 1, 0, none⟩)]] 65))
      have HD1 := Aside0.mk (below_alloc HD.out (.cells #[.func (.func 43) #[] #[.pointer (some ⟨w.heap.size + 1, 0, none⟩)]] 65))
      generalize wc.alloc (.cells #[.func (.func 43) #[] #[.pointer (some ⟨w.heap.size + 1, 0, none⟩)]] 65) = u0 at HF3 HO1 HL1 HX1 HD1 ⊢
      generalize wc.heap.size = gf at HF3 ⊢
      clear HO HL HX HD
      have HN := Aside0.mk (stop_no HS.out)
      refine (api_Pair_45.calls (.pointer (some ⟨w.heap.size, 0, none⟩)) (.pointer (some ⟨gf, 0, none⟩)) (ord3 a0 l1) A2 c2 l2 (bestp a0 l1 l2) u0 (Kd.C_below HR2.out HD1.out) HC2.out ⟨HN.out.1, HLL.out⟩ (fun a b w1 ha hb hbel => ord3_calls w.heap.size gf (w.heap.size + 1) a0 A1 c1 l1 a b w1 (blk_below HO1.out hbel) (blk_below HF3.out hbel) (blk_below HL1.out hbel) (Kd.C_below HR1.out (below_step HD1.out hbel)) (HN.out.2 a ha).1 (HN.out.2 a ha).2 (HN.out.2 b hb).1 (HN.out.2 b hb).2) rfl).mono ?_
      rintro e u1 ⟨rfl, hb⟩
      have HX2 := Aside0.mk (blk_below HX1.out hb)
      have HD2 := Aside0.mk (below_step HD1.out hb)
      have HBM := Aside0.mk (bestp_mem a0 l1 l2 HN.out.1)
      clear hb HF3 HO1 HL1 HX1 HD1 hmf
      generalize bestp a0 l1 l2 = b at HF2 HBM ⊢
      obtain ⟨b0, b1⟩ := b
      dsimp only at HF2
      unfold pr26
      dsimp only
      have HEV := Aside0.mk (show api_Pair_50.f (l2.length + 1) l2 b0 b1 = some ((ixp l2 ⟨b0, b1⟩ : Nat) : Int) by
        have := ixp_ev ⟨b0, b1⟩ l2 HLL.out (l2.length + 1) 0 (by omega) (by rw [List.drop_zero]; exact HBM.out)
        rw [List.drop_zero, Nat.zero_add] at this
        exact this)
      have HIX := Aside0.mk (ixp_lt l2 ⟨b0, b1⟩ HBM.out)
      obtain ⟨ix, hix⟩ : ∃ ix, ixp l2 ⟨b0, b1⟩ = ix := ⟨_, rfl⟩
      rw [hix] at HEV HIX
      have HIQ := Aside0.mk hix
      have HW := Aside0.mk (show wrap64 ((ix : Int) + 1) = ((ix + 1 : Nat) : Int) by have := HIX.out; have := HLL.out; unfold wrap64; omega)
      have HCL := Aside0.mk (show api_Pair_52.f l2 = some l2 by unfold api_Pair_52.f; rw [if_pos HLL.out])
      clear hix
      go_upto_region 5 with (fail)
      have HB3 := Aside0.mk (blk_new u1 (.cells #[.int .i64 b0, .int .i64 b1] 26))
      have HX3 := Aside0.mk (blk_alloc HX2.out (.cells #[.int .i64 b0, .int .i64 b1] 26))
      have HD3 := Aside0.mk (below_alloc HD2.out (.cells #[.int .i64 b0, .int .i64 b1] 26))
      generalize u1.alloc (.cells #[.int .i64 b0, .int .i64 b1] 26) = u3 at HB3 HX3 HD3 ⊢
      generalize u1.heap.size = gb at HB3 ⊢
      clear HX2 HD2
      have c0 : u3.cell? ⟨gb, 0, none⟩ = some (.int .i64 b0) := (blk_cell HB3.out 0).trans rfl
      have c1 : u3.cell? ⟨gb, 1, none⟩ = some (.int .i64 b1) := (blk_cell HB3.out 1).trans rfl
      go_wp2_with fail
      refine (api_Pair_50.calls (l2.length + 1) A2 c2 l2 b0 b1 (ix : Int) _ (Kd.C_below HR2.out HD3.out) HC2.out HEV.out).mono ?_
      rintro e u5 ⟨rfl, hb⟩
      have HX5 := Aside0.mk (blk_below HX3.out hb)
      have HB5 := Aside0.mk (blk_below HB3.out hb)
      have HD5 := Aside0.mk (below_step HD3.out hb)
      clear hb c0 c1 HX3 HB3 HD3
      go_upto_region 6 with (fail)
      refine start_ (n := 10) (S := fun w' => w'.cell? ⟨gb, 0, none⟩ = some (.int .i64 b0) ∧ w'.cell? ⟨gb, 1, none⟩ = some (.int .i64 b1)) (ds := [7]) #[false, false, false, false, false, false, false, false, false, false] (by kernel_rfl) rfl rfl ⟨(blk_cell (blk_drew HB5.out) 0).trans rfl, (blk_cell (blk_drew HB5.out) 1).trans rfl⟩ (fun hHeld => ?_)
      have HX6 := Aside0.mk (blk_drew HX5.out)
      have HB6 := Aside0.mk (blk_drew HB5.out)
      have HD6 := Aside0.mk (below_drew HD5.out)
      generalize u5.drew = u6 at HX6 HB6 HD6 hHeld ⊢
      clear HX5 HB5 HD5
      refine take_ (i := 0) (N := some 38) (v := ?_) (a' := ?_) #[true, false, false, false, false, false, false, false, false, false] rfl rfl (by kernel_rfl) (fun _ _ _ h => h) (Or.inl ⟨by rfl, ?_⟩) hHeld ?_ ?_
      rotate_left
      · rintro w' ⟨s0_, s1_⟩
        go_simp
        with_reducible rfl
      rotate_left
      · simp only [Act.put, List.setIfInBounds_toArray, List.set_cons_zero, List.set_cons_succ, i64_w, i32_w]
        rfl
      refine pure_ (i := 1) (N := some 39) (v := ?_) (a' := ?_) #[true, true, false, false, false, false, false, false, false, false] rfl rfl (by kernel_rfl) (fun _ _ _ h => h) (Or.inl ⟨by rfl, ?_⟩) ?_ ?_
      rotate_left
      · intro w'
        go_simp
        with_reducible rfl
      rotate_left
      · simp only [Act.put, List.setIfInBounds_toArray, List.set_cons_zero, List.set_cons_succ, i64_w, i32_w]
        rfl
      refine pure_ (i := 3) (N := some 41) (v := ?_) (a' := ?_) #[true, true, false, true, false, false, false, false, false, false] rfl rfl (by kernel_rfl) (fun _ _ _ h => h) (Or.inl ⟨by rfl, ?_⟩) ?_ ?_
      rotate_left
      · intro w'
        go_simp
        with_reducible rfl
      rotate_left
      · simp only [Act.put, List.setIfInBounds_toArray, List.set_cons_zero, List.set_cons_succ, i64_w, i32_w]
        rfl
      refine pure_ (i := 4) (N := some 42) (v := ?_) (a' := ?_) #[true, true, false, true, true, false, false, false, false, false] rfl rfl (by kernel_rfl) (fun _ _ _ h => h) (Or.inl ⟨by rfl, ?_⟩) ?_ ?_
      rotate_left
      · intro w'
        go_simp
        with_reducible rfl
      rotate_left
      · simp only [Act.put, List.setIfInBounds_toArray, List.set_cons_zero, List.set_cons_succ, i64_w, i32_w]
        rfl
      refine pure_ (i := 5) (N := some 43) (v := ?_) (a' := ?_) #[true, true, false, true, true, true, false, false, false, false] rfl rfl (by kernel_rfl) (fun _ _ _ h => h) (Or.inl ⟨by rfl, ?_⟩) ?_ ?_
      rotate_left
      · intro w'
        go_simp
        with_reducible rfl
      rotate_left
      · simp only [Act.put, List.setIfInBounds_toArray, List.set_cons_zero, List.set_cons_succ, i64_w, i32_w]
        rfl
      refine one_ (i := 2) (N := some 40) #[true, true, true, true, true, true, false, false, false, false] rfl rfl (by kernel_rfl) (by decide) (fun K hK => ?_)
      refine goes_ Try.func52 (by kernel_rfl) rfl #[.slice A2 l2.length c2] (by rfl) rfl rfl (by (try simp only [List.map_toArray, List.map_cons, List.map_nil]); first | done | rfl) ?_
      refine (api_Pair_52.calls A2 c2 l2 l2 _ (Kd.C_below HR2.out HD6.out) HC2.out HCL.out).mono ?_
      rintro e u7 ⟨v7, rfl, hR, hb⟩
      have HX7 := Aside0.mk (blk_below HX6.out hb)
      have HB7 := Aside0.mk (blk_below HB6.out hb)
      have HD7 := Aside0.mk (below_step HD6.out hb)
      have HR7 := Aside0.mk hR
      have HG7 := Aside0.mk (show w.heap.size + 3 ≤ u6.heap.size from blk_lt HX6.out)
      have HGB := Aside0.mk (show gb < u6.heap.size from blk_lt HB6.out)
      clear hR
      refine ⟨_, rfl, ?_⟩
      refine hK.out _ _ ⟨(hb.cell (World.block_lt_of_cell? _ _ hHeld.1)).trans hHeld.1, (hb.cell (World.block_lt_of_cell? _ _ hHeld.2)).trans hHeld.2⟩ (fun hHeld => ?_)
      clear hK K
      clear hb HX6 HB6
      refine norm_ (a' := ?_) ?_ ?_
      rotate_left
      · simp only [Act.put, List.setIfInBounds_toArray, List.set_cons_zero, List.set_cons_succ, i64_w, i32_w]
        rfl
      refine one_ (i := 6) (N := some 44) #[true, true, true, true, true, true, true, false, false, false] rfl rfl (by kernel_rfl) (by decide) (fun K hK => ?_)
      refine goes_ Try.func51 (by kernel_rfl) rfl #[v7, .int .i64 (ix : Int), .int .i64 ((ix + 1 : Nat) : Int)] (by rfl) rfl rfl (by simp only [List.map_toArray, List.map_cons, List.map_nil]; rw [← HW.out]; rfl) ?_
      refine (api_Pair_51.calls u6.heap.size v7 l2 ix _ HR7.out HIX.out).mono ?_
      rintro e u8 ⟨v8, rfl, hR, hb⟩
      have HX8 := Aside0.mk ((hb.block (w.heap.size + 1 + 1) (by have := HG7.out; omega)).trans HX7.out)
      have HD8 := Aside0.mk (HD7.out.trans (hb.mono (by have := HG7.out; omega)))
      have HR8 := Aside0.mk hR
      have hlt := HGB.out
      clear hR
      refine ⟨_, rfl, ?_⟩
      refine hK.out _ _ ⟨(hb.cell hlt).trans hHeld.1, (hb.cell hlt).trans hHeld.2⟩ (fun hHeld => ?_)
      clear hK K
      clear hb HX7 HB7 HD7 HR7
      refine norm_ (a' := ?_) ?_ ?_
      rotate_left
      · simp only [Act.put, List.setIfInBounds_toArray, List.set_cons_zero, List.set_cons_succ, i64_w, i32_w]
        rfl
      have f0 := blk_frozen HX8.out 0
      have f1 := blk_frozen HX8.out 1
      have c0 : u8.cell? ⟨w.heap.size + 1 + 1, 0, none⟩ = some (.int .i64 0) := (blk_cell HX8.out 0).trans rfl
      have c1 : u8.cell? ⟨w.heap.size + 1 + 1, 1, none⟩ = some (.int .i64 0) := (blk_cell HX8.out 1).trans rfl
      refine last_ (i := 7) (N := none) #[true, true, true, true, true, true, true, true, false, false] rfl rfl (by kernel_rfl) (by decide) (fun K hK => ?_)
      refine skip_ (w1 := ?_) (by rfl) rfl ?_ ?_
      rotate_left
      · go_simp
        rfl
      refine hK.out _ _ ?_
      clear hK K
      refine pure_ (i := 8) (N := some 7) (v := ?_) (a' := ?_) #[true, true, true, true, true, true, true, true, true, false] rfl rfl (by kernel_rfl) (fun _ _ _ h => h) (Or.inl ⟨by rfl, ?_⟩) ?_ ?_
      rotate_left
      · intro w'
        go_simp
        with_reducible rfl
      rotate_left
      · simp only [Act.put, List.setIfInBounds_toArray, List.set_cons_zero, List.set_cons_succ, i64_w, i32_w]
        rfl
      refine pure_ (i := 9) (N := some 8) (v := ?_) (a' := ?_) #[true, true, true, true, true, true, true, true, true, true] rfl rfl (by kernel_rfl) (fun _ _ _ h => h) (Or.inl ⟨by rfl, ?_⟩) ?_ ?_
      rotate_left
      · intro w'
        go_simp
        with_reducible rfl
      rotate_left
      · simp only [Act.put, List.setIfInBounds_toArray, List.set_cons_zero, List.set_cons_succ, i64_w, i32_w]
        rfl
      refine done_ (by kernel_rfl) ?_
      have e1 := blk_put (cs' := #[.int .i64 b0, .int .i64 b1]) (blk_put (cs' := #[.int .i64 b0, .int .i64 0]) HX8.out 0 (.int .i64 b0) rfl) 1 (.int .i64 b1) rfl
      have eb := (HD8.out.setCell (p := ⟨w.heap.size + 1 + 1, 0, none⟩) (by simp; omega) (.int .i64 b0)).setCell (p := ⟨w.heap.size + 1 + 1, 1, none⟩) (by simp; omega) (.int .i64 b1)
      have hne := HG7.out
      have er := Kd.R_far (Kd.R_far (Kd.R_mono (Kd.R_bound HR8.out) (ok' := fun k => k ≠ w.heap.size + 1 + 1) (fun k hk => by have := hk.2.1; omega)) (p := ⟨w.heap.size + 1 + 1, 0, none⟩) (fun k hk => hk) (.int .i64 b0)) (p := ⟨w.heap.size + 1 + 1, 1, none⟩) (fun k hk => hk) (.int .i64 b1)
      obtain ⟨rfl, rfl, q3, rfl⟩ := HF2.out
      rw [HIQ.out] at q3
      subst q3
      go_wp2
      refine bodyPost_ret (results_ctt rfl _ _ (w.heap.size + 1 + 1) 26 #[.int .i64 b0, .int .i64 b1] (0, 0) _ rfl e1 hu26 rfl (by kernel_rfl)) rfl ?_
      exact ⟨v8, rfl, Kd.R_lower (Kd.R_mono er (fun _ _ => trivial)) (by omega), eb⟩


end Go.Proofs.Ytfoickaangjmnaa.POQueueAll
