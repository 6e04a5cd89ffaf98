-- Written by a program of this session (pr.py, over the kit's print.py).
import Derived.Test.YtfoickaangjmnaaPOQueueAllx0
import Derived.Test.YtfoickaangjmnaaPOQueueAllx2
import Derived.Test.YtfoickaangjmnaaPOQueueAllx3
namespace Go.Proofs.Ytfoickaangjmnaa.POQueueAll
open Go.RowKit Go.Proofs.YtfoickaangjmnaaN Go.Proofs.YtfoickaangjmnaaW.PrintWords Go.Proofs.YtfoickaangjmnaaW.PrintLast Go.Proofs.YtfoickaangjmnaaW.PrintMore
attribute [local go_sem] max2_int min2_int max_two min_two max_three min_three max_four min_four   -- for this text's walks alone
set_option linter.unusedVariables false
set_option linter.unusedSimpArgs false

/-! ### mono_Cmp: function 48 -/
theorem row4 {g : Nat} {x0 x1 x2 x3 : Int} {t : TypeId} {w : World} (hb : w.heap[g]? = some (.cells #[.int .i64 x0, .int .i64 x1, .int .i64 x2, .int .i64 x3] t (0, 0))) : Kd.C (Kd.int .i64) w (some ⟨g, 0, none⟩) 4 [x0, x1, x2, x3] := by
  have key : ∀ (q : Nat) (v : Value), (#[.int .i64 x0, .int .i64 x1, .int .i64 x2, .int .i64 x3] : Array Value)[q]? = some v → w.cell? ⟨g, q, none⟩ = some v := fun q v hv => (blk_cell hb q).trans hv
  have one : ∀ (q : Nat) (x : Int), (#[.int .i64 x0, .int .i64 x1, .int .i64 x2, .int .i64 x3] : Array Value)[q]? = some (.int .i64 x) → ∃ c : List Value, c.length = (Kd.int .i64).sz ∧ (Kd.int .i64).K w x c ∧ ∀ i u, c[i]? = some u → w.cell? (Addr.add ⟨g, 0, none⟩ (q * (Kd.int .i64).sz + i)) = some u := by
    intro q x hq
    refine ⟨[.int .i64 x], rfl, rfl, fun i u hu => ?_⟩
    cases i with
    | zero =>
      obtain rfl := Option.some.inj hu
      have := key q _ hq
      have e : Addr.add ⟨g, 0, none⟩ (q * (Kd.int .i64).sz + 0) = ⟨g, q, none⟩ := by
        by_cases h0 : q = 0 <;> simp [Addr.add, Kd.int, Kd.scalar, h0]
      rw [e]; exact this
    | succ i => cases hu
  refine ⟨rfl, by decide, fun _ => ⟨⟨g, 0, none⟩, rfl, fun j p hj => ?_⟩⟩
  match j, hj with
  | 0, hj => obtain rfl := Option.some.inj hj; exact one 0 _ rfl
  | 1, hj => obtain rfl := Option.some.inj hj; exact one 1 _ rfl
  | 2, hj => obtain rfl := Option.some.inj hj; exact one 2 _ rfl
  | 3, hj => obtain rfl := Option.some.inj hj; exact one 3 _ rfl
theorem row2 {g : Nat} {x0 x1 : Int} {t : TypeId} {w : World} (hb : w.heap[g]? = some (.cells #[.int .i64 x0, .int .i64 x1] t (0, 0))) : Kd.C (Kd.int .i64) w (some ⟨g, 0, none⟩) 2 [x0, x1] := by
  have key : ∀ (q : Nat) (v : Value), (#[.int .i64 x0, .int .i64 x1] : Array Value)[q]? = some v → w.cell? ⟨g, q, none⟩ = some v := fun q v hv => (blk_cell hb q).trans hv
  have one : ∀ (q : Nat) (x : Int), (#[.int .i64 x0, .int .i64 x1] : Array Value)[q]? = some (.int .i64 x) → ∃ c : List Value, c.length = (Kd.int .i64).sz ∧ (Kd.int .i64).K w x c ∧ ∀ i u, c[i]? = some u → w.cell? (Addr.add ⟨g, 0, none⟩ (q * (Kd.int .i64).sz + i)) = some u := by
    intro q x hq
    refine ⟨[.int .i64 x], rfl, rfl, fun i u hu => ?_⟩
    cases i with
    | zero =>
      obtain rfl := Option.some.inj hu
      have := key q _ hq
      have e : Addr.add ⟨g, 0, none⟩ (q * (Kd.int .i64).sz + 0) = ⟨g, q, none⟩ := by
        by_cases h0 : q = 0 <;> simp [Addr.add, Kd.int, Kd.scalar, h0]
      rw [e]; exact this
    | succ i => cases hu
  refine ⟨rfl, by decide, fun _ => ⟨⟨g, 0, none⟩, rfl, fun j p hj => ?_⟩⟩
  match j, hj with
  | 0, hj => obtain rfl := Option.some.inj hj; exact one 0 _ rfl
  | 1, hj => obtain rfl := Option.some.inj hj; exact one 1 _ rfl
theorem goesV_ {P : Program} {ops : Array Oper} {Q : Exit → Act → World → Prop} {oi : Oper} {N : Option Tmp} {a : Act} {w : World} {K : Act → World → Prop} {f : FuncId} {fn : Func} {t : Tmp} {as_ : Array Operand} {ts : Array TypeId} (cap : Array Value) (hf : P.funcs[f]? = some fn) (hname : (fn.name == "runtime.NumGoroutine") = false) (hb : fn.body.isSome = true) (args : Array Value)
    (hw : Region.wanted oi (yielded ops a.tmps) = true) (hN : oi.dst = N) (hop : oi.op = .call { callee := .value (.tmp t), args := as_, argTypes := ts }) (hv : a.eval (.tmp t) = .func (.func f) #[] cap) (hargs : as_.map a.eval ++ cap = args)
    (h : Calls P f args w fun e w' => ∃ v, e = .returned v ∧ K (a.put N v) w') : if Region.wanted oi (yielded ops a.tmps) = true then Oper.wp P oi a w K Q else K (a.put N undef) w := by
  refine call_ f args hw hN ?_ h
  have he := enters_ hf hname hb args w
  unfold execOp
  simp [hop, resolve, Deferred.ofValue, invoke, hv, hargs, he]
def cmpi (x y : Int) : Int := if x < y then -1 else if y < x then 1 else 0
def lexv (x0 x1 x2 x3 y0 y1 y2 y3 : Int) : Int := if cmpi x0 y0 = 0 then (if cmpi x1 y1 = 0 then (if cmpi x2 y2 = 0 then cmpi x3 y3 else cmpi x2 y2) else cmpi x1 y1) else cmpi x0 y0
theorem cmp_Compare_eq (x y : Int) : cmp_Compare_int.f x y = some (cmpi x y) := by
  unfold cmp_Compare_int.f cmp_isNaN_int.f cmpi
  simp only [Option.bind_some]
  rw [if_neg (by simp), if_neg (by simp)]
  split
  · rfl
  · split <;> rfl
theorem Compare4 (x0 x1 x2 x3 y0 y1 y2 y3 : Int) : slices_Compare_int_int.f 5 [x0, x1, x2, x3] [y0, y1, y2, y3] = some (lexv x0 x1 x2 x3 y0 y1 y2 y3) := by
  unfold slices_Compare_int_int.f lexv
  have r0 : ∀ z0 z1 z2 z3 : Int, rd [z0, z1, z2, z3] 0 = z0 := fun _ _ _ _ => rfl
  have r1 : ∀ z0 z1 z2 z3 : Int, rd [z0, z1, z2, z3] 1 = z1 := fun _ _ _ _ => rfl
  have r2 : ∀ z0 z1 z2 z3 : Int, rd [z0, z1, z2, z3] 2 = z2 := fun _ _ _ _ => rfl
  have r3 : ∀ z0 z1 z2 z3 : Int, rd [z0, z1, z2, z3] 3 = z3 := fun _ _ _ _ => rfl
  have w0 : wrap64 (0 + 1) = 1 := by unfold wrap64; omega
  have w1 : wrap64 (1 + 1) = 2 := by unfold wrap64; omega
  have w2 : wrap64 (2 + 1) = 3 := by unfold wrap64; omega
  have w3 : wrap64 (3 + 1) = 4 := by unfold wrap64; omega
  simp only [slices_Compare_int_int.l0, cmp_Compare_eq, Option.bind_some, List.length_cons, List.length_nil, r0, r1, r2, r3, w0, w1, w2, w3]
  by_cases h0 : cmpi x0 y0 = 0 <;> by_cases h1 : cmpi x1 y1 = 0 <;> by_cases h2 : cmpi x2 y2 = 0 <;> by_cases h3 : cmpi x3 y3 = 0 <;> simp [h0, h1, h2, h3]
def or2 (x y : Int) : Int := if x = 0 then y else x
theorem Or2 (x y : Int) : cmp_Or_int.f 3 [x, y] = some (or2 x y) := by
  unfold cmp_Or_int.f or2
  have r0 : rd [x, y] 0 = x := rfl
  have r1 : rd [x, y] 1 = y := rfl
  have w0 : wrap64 (0 + 1) = 1 := by unfold wrap64; omega
  have w1 : wrap64 (1 + 1) = 2 := by unfold wrap64; omega
  simp only [cmp_Or_int.l0, List.length_cons, List.length_nil, r0, r1, w0, w1]
  by_cases h0 : x = 0 <;> by_cases h1 : y = 0 <;> simp [h0, h1]

set_option maxHeartbeats 4000000 in
set_option maxRecDepth 100000 in
theorem lexC (x0 x1 x2 x3 y0 y1 y2 y3 : Int) (w : World) :
    Calls Try.prog 83 #[.agg #[.int .i64 x0, .int .i64 x1, .int .i64 x2, .int .i64 x3], .agg #[.int .i64 y0, .int .i64 y1, .int .i64 y2, .int .i64 y3]] w fun e w' => e = .returned (.int .i64 (lexv x0 x1 x2 x3 y0 y1 y2 y3)) ∧ Below w.heap.size w w' := by
  have hA := blk_alloc (blk_new w (.cells #[.int .i64 x0, .int .i64 x1, .int .i64 x2, .int .i64 x3] 36)) (.cells #[.int .i64 y0, .int .i64 y1, .int .i64 y2, .int .i64 y3] 36)
  have hB := blk_new (w.alloc (.cells #[.int .i64 x0, .int .i64 x1, .int .i64 x2, .int .i64 x3] 36)) (.cells #[.int .i64 y0, .int .i64 y1, .int .i64 y2, .int .i64 y3] 36)
  rw [World.size_alloc] at hB
  have HA := Aside0.mk hA
  have HB := Aside0.mk hB
  have HD := Aside0.mk (below_alloc (below_alloc (Below.refl _ w) (.cells #[.int .i64 x0, .int .i64 x1, .int .i64 x2, .int .i64 x3] 36)) (.cells #[.int .i64 y0, .int .i64 y1, .int .i64 y2, .int .i64 y3] 36))
  clear hA hB
  go_enter Try.func83, Try.ntmps83
  go_wp2
  generalize (w.alloc (.cells #[.int .i64 x0, .int .i64 x1, .int .i64 x2, .int .i64 x3] 36)).alloc (.cells #[.int .i64 y0, .int .i64 y1, .int .i64 y2, .int .i64 y3] 36) = w1 at HA HB HD ⊢
  refine start_ (n := 4) (S := fun w' => True) (ds := []) #[false, false, false, false] (by kernel_rfl) rfl rfl trivial (fun hHeld => ?_)
  have HA1 := Aside0.mk (blk_drew HA.out)
  have HB1 := Aside0.mk (blk_drew HB.out)
  have HD1 := Aside0.mk (below_drew HD.out)
  generalize w1.drew = w2 at HA1 HB1 HD1 hHeld ⊢
  clear HA HB HD w1
  refine pure_ (i := 0) (N := some 5) (v := ?_) (a' := ?_) #[true, false, false, false] rfl rfl (by kernel_rfl) (fun _ _ _ h => h) (Or.inl ⟨by rfl, ?_⟩) ?_ ?_
  rotate_left
  · intro w'
    go_simp
    with_reducible rfl
  rotate_left
  · simp only [Act.put, List.setIfInBounds_toArray, List.set_cons_zero, List.set_cons_succ, i64_w, i32_w]
    rfl
  refine pure_ (i := 1) (N := some 6) (v := ?_) (a' := ?_) #[true, true, false, false] rfl rfl (by kernel_rfl) (fun _ _ _ h => h) (Or.inl ⟨by rfl, ?_⟩) ?_ ?_
  rotate_left
  · intro w'
    go_simp
    with_reducible rfl
  rotate_left
  · simp only [Act.put, List.setIfInBounds_toArray, List.set_cons_zero, List.set_cons_succ, i64_w, i32_w]
    rfl
  refine one_ (i := 2) (N := some 7) #[true, true, true, false] rfl rfl (by kernel_rfl) (by decide) (fun K hK => ?_)
  refine goes_ Try.func84 (by kernel_rfl) rfl #[.slice (some ⟨w.heap.size, 0, none⟩) 4 4, .slice (some ⟨w.heap.size + 1, 0, none⟩) 4 4] (by rfl) rfl rfl (by (try simp only [List.map_toArray, List.map_cons, List.map_nil]); first | done | rfl) ?_
  refine (slices_Compare_int_int.calls 5 _ _ _ _ _ _ _ _ (row4 HA1.out) (Nat.le_refl 4) (row4 HB1.out) (Nat.le_refl 4) (Compare4 _ _ _ _ _ _ _ _)).mono ?_
  rintro e w' ⟨rfl, ⟨nd, rfl⟩⟩
  refine ⟨_, rfl, ?_⟩
  refine hK.out _ _ trivial (fun hHeld => ?_)
  clear hK K
  refine norm_ (a' := ?_) ?_ ?_
  rotate_left
  · simp only [Act.put, List.setIfInBounds_toArray, List.set_cons_zero, List.set_cons_succ, i64_w, i32_w]
    rfl
  refine pure_ (i := 3) (N := some 4) (v := ?_) (a' := ?_) #[true, true, true, true] rfl rfl (by kernel_rfl) (fun _ _ _ h => h) (Or.inl ⟨by rfl, ?_⟩) ?_ ?_
  rotate_left
  · intro w'
    go_simp
    with_reducible rfl
  rotate_left
  · simp only [Act.put, List.setIfInBounds_toArray, List.set_cons_zero, List.set_cons_succ, i64_w, i32_w]
    rfl
  refine done_ (by kernel_rfl) ?_
  go_wp2
  go_ret
  exact ⟨rfl, by repeat (first | exact HD1.out | apply pw_below_drewN)⟩

set_option maxHeartbeats 4000000 in
set_option maxRecDepth 100000 in
theorem Rev4 (g : Nat) (t : TypeId) (x0 x1 x2 x3 : Int) (w : World) (hb : w.heap[g]? = some (.cells #[.int .i64 x0, .int .i64 x1, .int .i64 x2, .int .i64 x3] t (0, 0))) :
    Calls Try.prog 90 #[.slice (some ⟨g, 0, none⟩) 4 4] w fun e w' => e = .returned (.tuple #[]) ∧ w'.heap[g]? = some (.cells #[.int .i64 x3, .int .i64 x2, .int .i64 x1, .int .i64 x0] t (0, 0)) ∧ (∀ B v, B ≤ g → Below B v w → Below B v w') ∧ ∀ k o, k ≠ g → w.heap[k]? = some o → w'.heap[k]? = some o := by
  have HB0 := Aside0.mk hb
  have HL0 := Aside0.mk (show ∀ B v, B ≤ g → Below B v w → Below B v w from fun _ _ _ h => h)
  have HK0 := Aside0.mk (show ∀ k o, k ≠ g → w.heap[k]? = some o → w.heap[k]? = some o from fun _ _ _ h => h)
  clear hb
  go_enter Try.func90, Try.ntmps90
  go_wp2
  refine wp_loop_rounds 3 ?_
  rw [rounds_succ]
  go_wp2
  refine start_ (n := 16) (S := fun w' => w'.cell? ⟨g, 0, none⟩ = some (.int .i64 x0) ∧ w'.cell? ⟨g, 3, none⟩ = some (.int .i64 x3)) (ds := [13, 15]) #[false, false, false, false, false, false, false, false, false, false, false, false, false, false, false, false] (by kernel_rfl) rfl rfl ⟨(blk_cell (blk_drew HB0.out) 0).trans rfl, (blk_cell (blk_drew HB0.out) 3).trans rfl⟩ (fun hHeld => ?_)
  have HB := Aside0.mk (blk_drew HB0.out)
  have HL := Aside0.mk (show ∀ B v, B ≤ g → Below B v w → Below B v w.drew from fun B v h1 h2 => below_drew (HL0.out B v h1 h2))
  have HK := Aside0.mk (show ∀ k o, k ≠ g → w.heap[k]? = some o → w.drew.heap[k]? = some o from HK0.out)
  generalize w.drew = u0 at HB HL HK hHeld ⊢
  clear HB0 HL0 HK0
  refine pure_ (i := 0) (N := some 14) (v := ?_) (a' := ?_) #[true, false, false, false, false, false, false, false, false, false, false, false, false, false, false, false] rfl rfl (by kernel_rfl) (fun _ _ _ h => h) (Or.inl ⟨by rfl, ?_⟩) ?_ ?_
  rotate_left
  · intro w'
    go_simp
    with_reducible rfl
  rotate_left
  · simp only [Act.put, List.setIfInBounds_toArray, List.set_cons_zero, List.set_cons_succ, i64_w, i32_w]
    rfl
  refine pure_ (i := 1) (N := some 15) (v := ?_) (a' := ?_) #[true, true, false, false, false, false, false, false, false, false, false, false, false, false, false, false] rfl rfl (by kernel_rfl) (fun _ _ _ h => h) (Or.inl ⟨by rfl, ?_⟩) ?_ ?_
  rotate_left
  · intro w'
    go_simp
    with_reducible rfl
  rotate_left
  · simp only [Act.put, List.setIfInBounds_toArray, List.set_cons_zero, List.set_cons_succ, i64_w, i32_w]
    rfl
  refine pure_ (i := 2) (N := some 16) (v := ?_) (a' := ?_) #[true, true, true, false, false, false, false, false, false, false, false, false, false, false, false, false] rfl rfl (by kernel_rfl) (fun _ _ _ h => h) (Or.inl ⟨by rfl, ?_⟩) ?_ ?_
  rotate_left
  · intro w'
    go_simp
    with_reducible rfl
  rotate_left
  · simp only [Act.put, List.setIfInBounds_toArray, List.set_cons_zero, List.set_cons_succ, i64_w, i32_w]
    rfl
  refine pure_ (i := 3) (N := some 17) (v := ?_) (a' := ?_) #[true, true, true, true, false, false, false, false, false, false, false, false, false, false, false, false] rfl rfl (by kernel_rfl) (fun _ _ _ h => h) (Or.inl ⟨by rfl, ?_⟩) ?_ ?_
  rotate_left
  · intro w'
    go_simp
    with_reducible rfl
  rotate_left
  · simp only [Act.put, List.setIfInBounds_toArray, List.set_cons_zero, List.set_cons_succ, i64_w, i32_w]
    rfl
  refine pure_ (i := 4) (N := some 18) (v := ?_) (a' := ?_) #[true, true, true, true, true, false, false, false, false, false, false, false, false, false, false, false] rfl rfl (by kernel_rfl) (fun _ _ _ h => h) (Or.inl ⟨by rfl, ?_⟩) ?_ ?_
  rotate_left
  · intro w'
    go_simp
    with_reducible rfl
  rotate_left
  · simp only [Act.put, List.setIfInBounds_toArray, List.set_cons_zero, List.set_cons_succ, i64_w, i32_w]
    rfl
  refine pure_ (i := 5) (N := some 19) (v := ?_) (a' := ?_) #[true, true, true, true, true, true, false, false, false, false, false, false, false, false, false, false] rfl rfl (by kernel_rfl) (fun _ _ _ h => h) (Or.inl ⟨by rfl, ?_⟩) ?_ ?_
  rotate_left
  · intro w'
    go_simp
    with_reducible rfl
  rotate_left
  · simp only [Act.put, List.setIfInBounds_toArray, List.set_cons_zero, List.set_cons_succ, i64_w, i32_w]
    rfl
  refine pure_ (i := 8) (N := some 22) (v := ?_) (a' := ?_) #[true, true, true, true, true, true, false, false, true, false, false, false, false, false, false, false] rfl rfl (by kernel_rfl) (fun _ _ _ h => h) (Or.inl ⟨by rfl, ?_⟩) ?_ ?_
  rotate_left
  · intro w'
    go_simp
    with_reducible rfl
  rotate_left
  · simp only [Act.put, List.setIfInBounds_toArray, List.set_cons_zero, List.set_cons_succ, i64_w, i32_w]
    rfl
  refine pure_ (i := 9) (N := some 23) (v := ?_) (a' := ?_) #[true, true, true, true, true, true, false, false, true, true, false, false, false, false, false, false] rfl rfl (by kernel_rfl) (fun _ _ _ h => h) (Or.inl ⟨by rfl, ?_⟩) ?_ ?_
  rotate_left
  · intro w'
    go_simp
    with_reducible rfl
  rotate_left
  · simp only [Act.put, List.setIfInBounds_toArray, List.set_cons_zero, List.set_cons_succ, i64_w, i32_w]
    rfl
  refine pure_ (i := 6) (N := some 20) (v := ?_) (a' := ?_) #[true, true, true, true, true, true, true, false, true, true, false, false, false, false, false, false] rfl rfl (by kernel_rfl) (fun _ _ _ h => h) (Or.inl ⟨by rfl, ?_⟩) ?_ ?_
  rotate_left
  · intro w'
    go_simp
    with_reducible rfl
  rotate_left
  · simp only [Act.put, List.setIfInBounds_toArray, List.set_cons_zero, List.set_cons_succ, i64_w, i32_w]
    rfl
  refine pure_ (i := 10) (N := some 24) (v := ?_) (a' := ?_) #[true, true, true, true, true, true, true, false, true, true, true, false, false, false, false, false] rfl rfl (by kernel_rfl) (fun _ _ _ h => h) (Or.inl ⟨by rfl, ?_⟩) ?_ ?_
  rotate_left
  · intro w'
    go_simp
    with_reducible rfl
  rotate_left
  · simp only [Act.put, List.setIfInBounds_toArray, List.set_cons_zero, List.set_cons_succ, i64_w, i32_w]
    rfl
  refine take_ (i := 7) (N := some 21) (v := ?_) (a' := ?_) #[true, true, true, true, true, true, true, true, true, true, true, false, false, false, false, false] rfl rfl (by kernel_rfl) (fun _ _ _ h => h) (Or.inl ⟨by rfl, ?_⟩) hHeld ?_ ?_
  rotate_left
  · rintro w' ⟨s0_, s1_⟩
    go_simp
    with_reducible rfl
  rotate_left
  · simp only [Act.put, List.setIfInBounds_toArray, List.set_cons_zero, List.set_cons_succ, i64_w, i32_w]
    rfl
  refine take_ (i := 11) (N := some 25) (v := ?_) (a' := ?_) #[true, true, true, true, true, true, true, true, true, true, true, true, false, false, false, false] rfl rfl (by kernel_rfl) (fun _ _ _ h => h) (Or.inl ⟨by rfl, ?_⟩) hHeld ?_ ?_
  rotate_left
  · rintro w' ⟨s0_, s1_⟩
    go_simp
    with_reducible rfl
  rotate_left
  · simp only [Act.put, List.setIfInBounds_toArray, List.set_cons_zero, List.set_cons_succ, i64_w, i32_w]
    rfl
  refine pure_ (i := 12) (N := some 26) (v := ?_) (a' := ?_) #[true, true, true, true, true, true, true, true, true, true, true, true, true, false, false, false] rfl rfl (by kernel_rfl) (fun _ _ _ h => h) (Or.inl ⟨by rfl, ?_⟩) ?_ ?_
  rotate_left
  · intro w'
    go_simp
    with_reducible rfl
  rotate_left
  · simp only [Act.put, List.setIfInBounds_toArray, List.set_cons_zero, List.set_cons_succ, i64_w, i32_w]
    rfl
  refine last_ (i := 13) (N := none) #[true, true, true, true, true, true, true, true, true, true, true, true, true, true, false, false] rfl rfl (by kernel_rfl) (by decide) (fun K hK => ?_)
  have hf := blk_frozen HB.out 0
  refine skip_ (w1 := ?_) (by rfl) rfl ?_ ?_
  rotate_left
  · go_simp
    rfl
  refine hK.out _ _ ?_
  clear hK K
  refine pure_ (i := 14) (N := some 27) (v := ?_) (a' := ?_) #[true, true, true, true, true, true, true, true, true, true, true, true, true, true, true, false] rfl rfl (by kernel_rfl) (fun _ _ _ h => h) (Or.inl ⟨by rfl, ?_⟩) ?_ ?_
  rotate_left
  · intro w'
    go_simp
    with_reducible rfl
  rotate_left
  · simp only [Act.put, List.setIfInBounds_toArray, List.set_cons_zero, List.set_cons_succ, i64_w, i32_w]
    rfl
  refine last_ (i := 15) (N := none) #[true, true, true, true, true, true, true, true, true, true, true, true, true, true, true, true] rfl rfl (by kernel_rfl) (by decide) (fun K hK => ?_)
  have hf := blk_frozen (blk_put (cs' := #[.int .i64 x3, .int .i64 x1, .int .i64 x2, .int .i64 x3]) HB.out 0 (.int .i64 x3) rfl) 3
  refine skip_ (w1 := ?_) (by rfl) rfl ?_ ?_
  rotate_left
  · go_simp
    rfl
  refine hK.out _ _ ?_
  clear hK K
  refine done_ (by kernel_rfl) ?_
  go_wp2
  have HB1 := Aside0.mk (blk_put (cs' := #[.int .i64 x3, .int .i64 x1, .int .i64 x2, .int .i64 x0]) (blk_put (cs' := #[.int .i64 x3, .int .i64 x1, .int .i64 x2, .int .i64 x3]) HB.out 0 (.int .i64 x3) rfl) 3 (.int .i64 x0) rfl)
  have HL1 := Aside0.mk (show ∀ B v, B ≤ g → Below B v w → Below B v ((u0.setCell ⟨g, 0, none⟩ (.int .i64 x3)).setCell ⟨g, 3, none⟩ (.int .i64 x0)) from fun B v h1 h2 => ((HL.out B v h1 h2).setCell h1 _).setCell h1 _)
  have HK1 := Aside0.mk (show ∀ k o, k ≠ g → w.heap[k]? = some o → ((u0.setCell ⟨g, 0, none⟩ (.int .i64 x3)).setCell ⟨g, 3, none⟩ (.int .i64 x0)).heap[k]? = some o from fun k o h1 h2 => ((Below.heap_setCell _ _ _ k h1).trans (Below.heap_setCell _ _ _ k h1)).trans (HK.out k o h1 h2))
  generalize (u0.setCell ⟨g, 0, none⟩ (.int .i64 x3)).setCell ⟨g, 3, none⟩ (.int .i64 x0) = v1 at HB1 HL1 HK1 ⊢
  clear HB HL HK
  rw [rounds_succ]
  go_wp2
  refine start_ (n := 16) (S := fun w' => w'.cell? ⟨g, 1, none⟩ = some (.int .i64 x1) ∧ w'.cell? ⟨g, 2, none⟩ = some (.int .i64 x2)) (ds := [13, 15]) #[false, false, false, false, false, false, false, false, false, false, false, false, false, false, false, false] (by kernel_rfl) rfl rfl ⟨(blk_cell (blk_drew HB1.out) 1).trans rfl, (blk_cell (blk_drew HB1.out) 2).trans rfl⟩ (fun hHeld => ?_)
  have HB := Aside0.mk (blk_drew HB1.out)
  have HL := Aside0.mk (show ∀ B v, B ≤ g → Below B v w → Below B v v1.drew from fun B v h1 h2 => below_drew (HL1.out B v h1 h2))
  have HK := Aside0.mk (show ∀ k o, k ≠ g → w.heap[k]? = some o → v1.drew.heap[k]? = some o from HK1.out)
  generalize v1.drew = u1 at HB HL HK hHeld ⊢
  clear HB1 HL1 HK1
  refine pure_ (i := 0) (N := some 14) (v := ?_) (a' := ?_) #[true, false, false, false, false, false, false, false, false, false, false, false, false, false, false, false] rfl rfl (by kernel_rfl) (fun _ _ _ h => h) (Or.inl ⟨by rfl, ?_⟩) ?_ ?_
  rotate_left
  · intro w'
    go_simp
    with_reducible rfl
  rotate_left
  · simp only [Act.put, List.setIfInBounds_toArray, List.set_cons_zero, List.set_cons_succ, i64_w, i32_w]
    rfl
  refine pure_ (i := 1) (N := some 15) (v := ?_) (a' := ?_) #[true, true, false, false, false, false, false, false, false, false, false, false, false, false, false, false] rfl rfl (by kernel_rfl) (fun _ _ _ h => h) (Or.inl ⟨by rfl, ?_⟩) ?_ ?_
  rotate_left
  · intro w'
    go_simp
    with_reducible rfl
  rotate_left
  · simp only [Act.put, List.setIfInBounds_toArray, List.set_cons_zero, List.set_cons_succ, i64_w, i32_w]
    rfl
  refine pure_ (i := 2) (N := some 16) (v := ?_) (a' := ?_) #[true, true, true, false, false, false, false, false, false, false, false, false, false, false, false, false] rfl rfl (by kernel_rfl) (fun _ _ _ h => h) (Or.inl ⟨by rfl, ?_⟩) ?_ ?_
  rotate_left
  · intro w'
    go_simp
    with_reducible rfl
  rotate_left
  · simp only [Act.put, List.setIfInBounds_toArray, List.set_cons_zero, List.set_cons_succ, i64_w, i32_w]
    rfl
  refine pure_ (i := 3) (N := some 17) (v := ?_) (a' := ?_) #[true, true, true, true, false, false, false, false, false, false, false, false, false, false, false, false] rfl rfl (by kernel_rfl) (fun _ _ _ h => h) (Or.inl ⟨by rfl, ?_⟩) ?_ ?_
  rotate_left
  · intro w'
    go_simp
    with_reducible rfl
  rotate_left
  · simp only [Act.put, List.setIfInBounds_toArray, List.set_cons_zero, List.set_cons_succ, i64_w, i32_w]
    rfl
  refine pure_ (i := 4) (N := some 18) (v := ?_) (a' := ?_) #[true, true, true, true, true, false, false, false, false, false, false, false, false, false, false, false] rfl rfl (by kernel_rfl) (fun _ _ _ h => h) (Or.inl ⟨by rfl, ?_⟩) ?_ ?_
  rotate_left
  · intro w'
    go_simp
    with_reducible rfl
  rotate_left
  · simp only [Act.put, List.setIfInBounds_toArray, List.set_cons_zero, List.set_cons_succ, i64_w, i32_w]
    rfl
  refine pure_ (i := 5) (N := some 19) (v := ?_) (a' := ?_) #[true, true, true, true, true, true, false, false, false, false, false, false, false, false, false, false] rfl rfl (by kernel_rfl) (fun _ _ _ h => h) (Or.inl ⟨by rfl, ?_⟩) ?_ ?_
  rotate_left
  · intro w'
    go_simp
    with_reducible rfl
  rotate_left
  · simp only [Act.put, List.setIfInBounds_toArray, List.set_cons_zero, List.set_cons_succ, i64_w, i32_w]
    rfl
  refine pure_ (i := 8) (N := some 22) (v := ?_) (a' := ?_) #[true, true, true, true, true, true, false, false, true, false, false, false, false, false, false, false] rfl rfl (by kernel_rfl) (fun _ _ _ h => h) (Or.inl ⟨by rfl, ?_⟩) ?_ ?_
  rotate_left
  · intro w'
    go_simp
    with_reducible rfl
  rotate_left
  · simp only [Act.put, List.setIfInBounds_toArray, List.set_cons_zero, List.set_cons_succ, i64_w, i32_w]
    rfl
  refine pure_ (i := 9) (N := some 23) (v := ?_) (a' := ?_) #[true, true, true, true, true, true, false, false, true, true, false, false, false, false, false, false] rfl rfl (by kernel_rfl) (fun _ _ _ h => h) (Or.inl ⟨by rfl, ?_⟩) ?_ ?_
  rotate_left
  · intro w'
    go_simp
    with_reducible rfl
  rotate_left
  · simp only [Act.put, List.setIfInBounds_toArray, List.set_cons_zero, List.set_cons_succ, i64_w, i32_w]
    rfl
  refine pure_ (i := 6) (N := some 20) (v := ?_) (a' := ?_) #[true, true, true, true, true, true, true, false, true, true, false, false, false, false, false, false] rfl rfl (by kernel_rfl) (fun _ _ _ h => h) (Or.inl ⟨by rfl, ?_⟩) ?_ ?_
  rotate_left
  · intro w'
    go_simp
    with_reducible rfl
  rotate_left
  · simp only [Act.put, List.setIfInBounds_toArray, List.set_cons_zero, List.set_cons_succ, i64_w, i32_w]
    rfl
  refine pure_ (i := 10) (N := some 24) (v := ?_) (a' := ?_) #[true, true, true, true, true, true, true, false, true, true, true, false, false, false, false, false] rfl rfl (by kernel_rfl) (fun _ _ _ h => h) (Or.inl ⟨by rfl, ?_⟩) ?_ ?_
  rotate_left
  · intro w'
    go_simp
    with_reducible rfl
  rotate_left
  · simp only [Act.put, List.setIfInBounds_toArray, List.set_cons_zero, List.set_cons_succ, i64_w, i32_w]
    rfl
  refine take_ (i := 7) (N := some 21) (v := ?_) (a' := ?_) #[true, true, true, true, true, true, true, true, true, true, true, false, false, false, false, false] rfl rfl (by kernel_rfl) (fun _ _ _ h => h) (Or.inl ⟨by rfl, ?_⟩) hHeld ?_ ?_
  rotate_left
  · rintro w' ⟨s0_, s1_⟩
    go_simp
    with_reducible rfl
  rotate_left
  · simp only [Act.put, List.setIfInBounds_toArray, List.set_cons_zero, List.set_cons_succ, i64_w, i32_w]
    rfl
  refine take_ (i := 11) (N := some 25) (v := ?_) (a' := ?_) #[true, true, true, true, true, true, true, true, true, true, true, true, false, false, false, false] rfl rfl (by kernel_rfl) (fun _ _ _ h => h) (Or.inl ⟨by rfl, ?_⟩) hHeld ?_ ?_
  rotate_left
  · rintro w' ⟨s0_, s1_⟩
    go_simp
    with_reducible rfl
  rotate_left
  · simp only [Act.put, List.setIfInBounds_toArray, List.set_cons_zero, List.set_cons_succ, i64_w, i32_w]
    rfl
  refine pure_ (i := 12) (N := some 26) (v := ?_) (a' := ?_) #[true, true, true, true, true, true, true, true, true, true, true, true, true, false, false, false] rfl rfl (by kernel_rfl) (fun _ _ _ h => h) (Or.inl ⟨by rfl, ?_⟩) ?_ ?_
  rotate_left
  · intro w'
    go_simp
    with_reducible rfl
  rotate_left
  · simp only [Act.put, List.setIfInBounds_toArray, List.set_cons_zero, List.set_cons_succ, i64_w, i32_w]
    rfl
  refine last_ (i := 13) (N := none) #[true, true, true, true, true, true, true, true, true, true, true, true, true, true, false, false] rfl rfl (by kernel_rfl) (by decide) (fun K hK => ?_)
  have hf := blk_frozen HB.out 1
  refine skip_ (w1 := ?_) (by rfl) rfl ?_ ?_
  rotate_left
  · go_simp
    rfl
  refine hK.out _ _ ?_
  clear hK K
  refine pure_ (i := 14) (N := some 27) (v := ?_) (a' := ?_) #[true, true, true, true, true, true, true, true, true, true, true, true, true, true, true, false] rfl rfl (by kernel_rfl) (fun _ _ _ h => h) (Or.inl ⟨by rfl, ?_⟩) ?_ ?_
  rotate_left
  · intro w'
    go_simp
    with_reducible rfl
  rotate_left
  · simp only [Act.put, List.setIfInBounds_toArray, List.set_cons_zero, List.set_cons_succ, i64_w, i32_w]
    rfl
  refine last_ (i := 15) (N := none) #[true, true, true, true, true, true, true, true, true, true, true, true, true, true, true, true] rfl rfl (by kernel_rfl) (by decide) (fun K hK => ?_)
  have hf := blk_frozen (blk_put (cs' := #[.int .i64 x3, .int .i64 x2, .int .i64 x2, .int .i64 x0]) HB.out 1 (.int .i64 x2) rfl) 2
  refine skip_ (w1 := ?_) (by rfl) rfl ?_ ?_
  rotate_left
  · go_simp
    rfl
  refine hK.out _ _ ?_
  clear hK K
  refine done_ (by kernel_rfl) ?_
  go_wp2
  have HB2 := Aside0.mk (blk_put (cs' := #[.int .i64 x3, .int .i64 x2, .int .i64 x1, .int .i64 x0]) (blk_put (cs' := #[.int .i64 x3, .int .i64 x2, .int .i64 x2, .int .i64 x0]) HB.out 1 (.int .i64 x2) rfl) 2 (.int .i64 x1) rfl)
  have HL2 := Aside0.mk (show ∀ B v, B ≤ g → Below B v w → Below B v ((u1.setCell ⟨g, 1, none⟩ (.int .i64 x2)).setCell ⟨g, 2, none⟩ (.int .i64 x1)) from fun B v h1 h2 => ((HL.out B v h1 h2).setCell h1 _).setCell h1 _)
  have HK2 := Aside0.mk (show ∀ k o, k ≠ g → w.heap[k]? = some o → ((u1.setCell ⟨g, 1, none⟩ (.int .i64 x2)).setCell ⟨g, 2, none⟩ (.int .i64 x1)).heap[k]? = some o from fun k o h1 h2 => ((Below.heap_setCell _ _ _ k h1).trans (Below.heap_setCell _ _ _ k h1)).trans (HK.out k o h1 h2))
  generalize (u1.setCell ⟨g, 1, none⟩ (.int .i64 x2)).setCell ⟨g, 2, none⟩ (.int .i64 x1) = v2 at HB2 HL2 HK2 ⊢
  clear HB HL HK
  rw [rounds_succ]
  go_wp2
  go_end0
  exact ⟨rfl, HB2.out, HL2.out, HK2.out⟩

set_option maxHeartbeats 4000000 in
set_option maxRecDepth 100000 in
theorem revC (gl : Nat) (x0 x1 x2 x3 y0 y1 y2 y3 : Int) (w : World) (hl : w.heap[gl]? = some (.cells #[.func (.func 83) #[] #[]] 77 (0, 0))) :
    Calls Try.prog 89 #[.agg #[.int .i64 x0, .int .i64 x1, .int .i64 x2, .int .i64 x3], .agg #[.int .i64 y0, .int .i64 y1, .int .i64 y2, .int .i64 y3], .pointer (some ⟨gl, 0, none⟩)] w fun e w' => e = .returned (.int .i64 (lexv y3 y2 y1 y0 x3 x2 x1 x0)) ∧ Below w.heap.size w w' := by
  have HL := Aside0.mk (blk_alloc (blk_alloc hl (.cells #[.int .i64 x0, .int .i64 x1, .int .i64 x2, .int .i64 x3] 36)) (.cells #[.int .i64 y0, .int .i64 y1, .int .i64 y2, .int .i64 y3] 36))
  have HN := Aside0.mk (blk_lt hl)
  clear hl
  have hA := blk_alloc (blk_new w (.cells #[.int .i64 x0, .int .i64 x1, .int .i64 x2, .int .i64 x3] 36)) (.cells #[.int .i64 y0, .int .i64 y1, .int .i64 y2, .int .i64 y3] 36)
  have hB := blk_new (w.alloc (.cells #[.int .i64 x0, .int .i64 x1, .int .i64 x2, .int .i64 x3] 36)) (.cells #[.int .i64 y0, .int .i64 y1, .int .i64 y2, .int .i64 y3] 36)
  rw [World.size_alloc] at hB
  have HA := Aside0.mk hA
  have HB := Aside0.mk hB
  have HD := Aside0.mk (below_alloc (below_alloc (Below.refl _ w) (.cells #[.int .i64 x0, .int .i64 x1, .int .i64 x2, .int .i64 x3] 36)) (.cells #[.int .i64 y0, .int .i64 y1, .int .i64 y2, .int .i64 y3] 36))
  clear hA hB
  go_enter Try.func89, Try.ntmps89
  go_wp2_with fail
  generalize (w.alloc (.cells #[.int .i64 x0, .int .i64 x1, .int .i64 x2, .int .i64 x3] 36)).alloc (.cells #[.int .i64 y0, .int .i64 y1, .int .i64 y2, .int .i64 y3] 36) = w1 at HA HB HD HL ⊢
  refine (Rev4 w.heap.size 36 x0 x1 x2 x3 _ HA.out).mono ?_
  rintro e w2 ⟨rfl, ha, hd, hk⟩
  have HA2 := Aside0.mk ha
  have HB2 := Aside0.mk (hk _ _ (by omega) HB.out)
  have HL2 := Aside0.mk (hk _ _ (by have := HN.out; omega) HL.out)
  have HD2 := Aside0.mk (hd _ _ (Nat.le_refl _) HD.out)
  clear ha hd hk HA HB HL HD w1
  go_wp2_with fail
  refine (Rev4 (w.heap.size + 1) 36 y0 y1 y2 y3 _ HB2.out).mono ?_
  rintro e w3 ⟨rfl, hb, hd, hk⟩
  have HA3 := Aside0.mk (hk _ _ (by omega) HA2.out)
  have HB3 := Aside0.mk hb
  have HL3 := Aside0.mk (hk _ _ (by have := HN.out; omega) HL2.out)
  have HD3 := Aside0.mk (hd _ _ (Nat.le_succ _) HD2.out)
  clear hb hd hk HA2 HB2 HL2 HD2 w2
  have cl : w3.cell? ⟨gl, 0, none⟩ = some (.func (.func 83) #[] #[]) := (blk_cell HL3.out 0).trans rfl
  have ca0 : w3.cell? ⟨w.heap.size, 0, none⟩ = some (.int .i64 x3) := (blk_cell HA3.out 0).trans rfl
  have ca1 : w3.cell? ⟨w.heap.size, 1, none⟩ = some (.int .i64 x2) := (blk_cell HA3.out 1).trans rfl
  have ca2 : w3.cell? ⟨w.heap.size, 2, none⟩ = some (.int .i64 x1) := (blk_cell HA3.out 2).trans rfl
  have ca3 : w3.cell? ⟨w.heap.size, 3, none⟩ = some (.int .i64 x0) := (blk_cell HA3.out 3).trans rfl
  have cb0 : w3.cell? ⟨w.heap.size + 1, 0, none⟩ = some (.int .i64 y3) := (blk_cell HB3.out 0).trans rfl
  have cb1 : w3.cell? ⟨w.heap.size + 1, 1, none⟩ = some (.int .i64 y2) := (blk_cell HB3.out 1).trans rfl
  have cb2 : w3.cell? ⟨w.heap.size + 1, 2, none⟩ = some (.int .i64 y1) := (blk_cell HB3.out 2).trans rfl
  have cb3 : w3.cell? ⟨w.heap.size + 1, 3, none⟩ = some (.int .i64 y0) := (blk_cell HB3.out 3).trans rfl
  go_wp2_with fail
  refine (lexC y3 y2 y1 y0 x3 x2 x1 x0 _).mono ?_
  rintro e w4 ⟨rfl, hb⟩
  have HD4 := Aside0.mk (below_step HD3.out hb)
  clear hb
  go_wp2
  go_ret
  exact ⟨rfl, HD4.out⟩

set_option maxHeartbeats 8000000 in
set_option maxRecDepth 100000 in
theorem grdLex (gt : Nat) (x0 x1 x2 x3 y0 y1 y2 y3 : Int) (w : World) (ht : w.heap[gt]? = some (.cells #[.func (.func 83) #[] #[]] 77 (0, 0))) :
    Calls Try.prog 86 #[.agg #[.int .i64 x0, .int .i64 x1, .int .i64 x2, .int .i64 x3], .agg #[.int .i64 y0, .int .i64 y1, .int .i64 y2, .int .i64 y3], .pointer (some ⟨gt, 0, none⟩)] w fun e w' => e = .returned (.int .i64 (or2 (cmpi (degv x0 x1 x2 x3) (degv y0 y1 y2 y3)) (lexv x0 x1 x2 x3 y0 y1 y2 y3))) ∧ Below w.heap.size w w' := by
  have HT := Aside0.mk (blk_alloc (blk_alloc ht (.cells #[.int .i64 x0, .int .i64 x1, .int .i64 x2, .int .i64 x3] 36)) (.cells #[.int .i64 y0, .int .i64 y1, .int .i64 y2, .int .i64 y3] 36))
  have HN := Aside0.mk (blk_lt ht)
  clear ht
  have hA := blk_alloc (blk_new w (.cells #[.int .i64 x0, .int .i64 x1, .int .i64 x2, .int .i64 x3] 36)) (.cells #[.int .i64 y0, .int .i64 y1, .int .i64 y2, .int .i64 y3] 36)
  have hB := blk_new (w.alloc (.cells #[.int .i64 x0, .int .i64 x1, .int .i64 x2, .int .i64 x3] 36)) (.cells #[.int .i64 y0, .int .i64 y1, .int .i64 y2, .int .i64 y3] 36)
  rw [World.size_alloc] at hB
  have HA := Aside0.mk hA
  have HB := Aside0.mk hB
  have HD := Aside0.mk (below_alloc (below_alloc (Below.refl _ w) (.cells #[.int .i64 x0, .int .i64 x1, .int .i64 x2, .int .i64 x3] 36)) (.cells #[.int .i64 y0, .int .i64 y1, .int .i64 y2, .int .i64 y3] 36))
  clear hA hB
  go_enter Try.func86, Try.ntmps86
  go_wp2
  generalize (w.alloc (.cells #[.int .i64 x0, .int .i64 x1, .int .i64 x2, .int .i64 x3] 36)).alloc (.cells #[.int .i64 y0, .int .i64 y1, .int .i64 y2, .int .i64 y3] 36) = w1 at HA HB HD HT ⊢
  refine start_ (n := 12) (S := fun w' => w'.cell? ⟨w.heap.size, 0, none⟩ = some (.int .i64 x0) ∧ w'.cell? ⟨w.heap.size, 1, none⟩ = some (.int .i64 x1) ∧ w'.cell? ⟨w.heap.size, 2, none⟩ = some (.int .i64 x2) ∧ w'.cell? ⟨w.heap.size, 3, none⟩ = some (.int .i64 x3) ∧ w'.cell? ⟨w.heap.size + 1, 0, none⟩ = some (.int .i64 y0) ∧ w'.cell? ⟨w.heap.size + 1, 1, none⟩ = some (.int .i64 y1) ∧ w'.cell? ⟨w.heap.size + 1, 2, none⟩ = some (.int .i64 y2) ∧ w'.cell? ⟨w.heap.size + 1, 3, none⟩ = some (.int .i64 y3) ∧ w'.cell? ⟨gt, 0, none⟩ = some (.func (.func 83) #[] #[])) (ds := []) #[false, false, false, false, false, false, false, false, false, false, false, false] (by kernel_rfl) rfl rfl ⟨(blk_cell (blk_drew HA.out) 0).trans rfl, (blk_cell (blk_drew HA.out) 1).trans rfl, (blk_cell (blk_drew HA.out) 2).trans rfl, (blk_cell (blk_drew HA.out) 3).trans rfl, (blk_cell (blk_drew HB.out) 0).trans rfl, (blk_cell (blk_drew HB.out) 1).trans rfl, (blk_cell (blk_drew HB.out) 2).trans rfl, (blk_cell (blk_drew HB.out) 3).trans rfl, (blk_cell (blk_drew HT.out) 0).trans rfl⟩ (fun hHeld => ?_)
  have HA0 := Aside0.mk (blk_drew HA.out)
  have HB0 := Aside0.mk (blk_drew HB.out)
  have HT0 := Aside0.mk (blk_drew HT.out)
  have HD0 := Aside0.mk (below_drew HD.out)
  generalize w1.drew = v0 at HA0 HB0 HT0 HD0 hHeld ⊢
  clear HA HB HT HD w1
  refine take_ (i := 0) (N := some 6) (v := ?_) (a' := ?_) #[true, false, false, false, false, false, false, false, false, false, false, false] rfl rfl (by kernel_rfl) (fun _ _ _ h => h) (Or.inl ⟨by rfl, ?_⟩) hHeld ?_ ?_
  rotate_left
  · rintro w' ⟨s0_, s1_, s2_, s3_, s4_, s5_, s6_, s7_, s8_⟩
    go_simp
    with_reducible rfl
  rotate_left
  · simp only [Act.put, List.setIfInBounds_toArray, List.set_cons_zero, List.set_cons_succ, i64_w, i32_w]
    rfl
  refine take_ (i := 2) (N := some 8) (v := ?_) (a' := ?_) #[true, false, true, false, false, false, false, false, false, false, false, false] rfl rfl (by kernel_rfl) (fun _ _ _ h => h) (Or.inl ⟨by rfl, ?_⟩) hHeld ?_ ?_
  rotate_left
  · rintro w' ⟨s0_, s1_, s2_, s3_, s4_, s5_, s6_, s7_, s8_⟩
    go_simp
    with_reducible rfl
  rotate_left
  · simp only [Act.put, List.setIfInBounds_toArray, List.set_cons_zero, List.set_cons_succ, i64_w, i32_w]
    rfl
  refine take_ (i := 5) (N := some 11) (v := ?_) (a' := ?_) #[true, false, true, false, false, true, false, false, false, false, false, false] rfl rfl (by kernel_rfl) (fun _ _ _ h => h) (Or.inl ⟨by rfl, ?_⟩) hHeld ?_ ?_
  rotate_left
  · rintro w' ⟨s0_, s1_, s2_, s3_, s4_, s5_, s6_, s7_, s8_⟩
    go_simp
    with_reducible rfl
  rotate_left
  · simp only [Act.put, List.setIfInBounds_toArray, List.set_cons_zero, List.set_cons_succ, i64_w, i32_w]
    rfl
  refine take_ (i := 6) (N := some 12) (v := ?_) (a' := ?_) #[true, false, true, false, false, true, true, false, false, false, false, false] rfl rfl (by kernel_rfl) (fun _ _ _ h => h) (Or.inl ⟨by rfl, ?_⟩) hHeld ?_ ?_
  rotate_left
  · rintro w' ⟨s0_, s1_, s2_, s3_, s4_, s5_, s6_, s7_, s8_⟩
    go_simp
    with_reducible rfl
  rotate_left
  · simp only [Act.put, List.setIfInBounds_toArray, List.set_cons_zero, List.set_cons_succ, i64_w, i32_w]
    rfl
  refine take_ (i := 7) (N := some 13) (v := ?_) (a' := ?_) #[true, false, true, false, false, true, true, true, false, false, false, false] rfl rfl (by kernel_rfl) (fun _ _ _ h => h) (Or.inl ⟨by rfl, ?_⟩) hHeld ?_ ?_
  rotate_left
  · rintro w' ⟨s0_, s1_, s2_, s3_, s4_, s5_, s6_, s7_, s8_⟩
    go_simp
    with_reducible rfl
  rotate_left
  · simp only [Act.put, List.setIfInBounds_toArray, List.set_cons_zero, List.set_cons_succ, i64_w, i32_w]
    rfl
  refine one_ (i := 1) (N := some 7) #[true, true, true, false, false, true, true, true, false, false, false, false] rfl rfl (by kernel_rfl) (by decide) (fun K hK => ?_)
  refine goes_ Try.func88 (by kernel_rfl) rfl #[.agg #[.int .i64 x0, .int .i64 x1, .int .i64 x2, .int .i64 x3]] (by rfl) rfl rfl (by (try simp only [List.map_toArray, List.map_cons, List.map_nil]); first | done | rfl) ?_
  refine (mono_Degree.calls x0 x1 x2 x3 _ _ rfl).mono ?_
  rintro e v1 ⟨rfl, hb⟩
  have HA1 := Aside0.mk (blk_below HA0.out hb)
  have HB1 := Aside0.mk (blk_below HB0.out hb)
  have HT1 := Aside0.mk (blk_below HT0.out hb)
  have HD1 := Aside0.mk (below_step HD0.out hb)
  clear hb
  refine ⟨_, rfl, ?_⟩
  refine hK.out _ _ ⟨(blk_cell HA1.out 0).trans rfl, (blk_cell HA1.out 1).trans rfl, (blk_cell HA1.out 2).trans rfl, (blk_cell HA1.out 3).trans rfl, (blk_cell HB1.out 0).trans rfl, (blk_cell HB1.out 1).trans rfl, (blk_cell HB1.out 2).trans rfl, (blk_cell HB1.out 3).trans rfl, (blk_cell HT1.out 0).trans rfl⟩ (fun hHeld => ?_)
  clear hK K
  refine norm_ (a' := ?_) ?_ ?_
  rotate_left
  · simp only [Act.put, List.setIfInBounds_toArray, List.set_cons_zero, List.set_cons_succ, i64_w, i32_w]
    rfl
  refine one_ (i := 3) (N := some 9) #[true, true, true, true, false, true, true, true, false, false, false, false] rfl rfl (by kernel_rfl) (by decide) (fun K hK => ?_)
  refine goes_ Try.func88 (by kernel_rfl) rfl #[.agg #[.int .i64 y0, .int .i64 y1, .int .i64 y2, .int .i64 y3]] (by rfl) rfl rfl (by (try simp only [List.map_toArray, List.map_cons, List.map_nil]); first | done | rfl) ?_
  refine (mono_Degree.calls y0 y1 y2 y3 _ _ rfl).mono ?_
  rintro e v2 ⟨rfl, hb⟩
  have HA2 := Aside0.mk (blk_below HA1.out hb)
  have HB2 := Aside0.mk (blk_below HB1.out hb)
  have HT2 := Aside0.mk (blk_below HT1.out hb)
  have HD2 := Aside0.mk (below_step HD1.out hb)
  clear hb
  refine ⟨_, rfl, ?_⟩
  refine hK.out _ _ ⟨(blk_cell HA2.out 0).trans rfl, (blk_cell HA2.out 1).trans rfl, (blk_cell HA2.out 2).trans rfl, (blk_cell HA2.out 3).trans rfl, (blk_cell HB2.out 0).trans rfl, (blk_cell HB2.out 1).trans rfl, (blk_cell HB2.out 2).trans rfl, (blk_cell HB2.out 3).trans rfl, (blk_cell HT2.out 0).trans rfl⟩ (fun hHeld => ?_)
  clear hK K
  refine norm_ (a' := ?_) ?_ ?_
  rotate_left
  · simp only [Act.put, List.setIfInBounds_toArray, List.set_cons_zero, List.set_cons_succ, i64_w, i32_w]
    rfl
  refine one_ (i := 4) (N := some 10) #[true, true, true, true, true, true, true, true, false, false, false, false] rfl rfl (by kernel_rfl) (by decide) (fun K hK => ?_)
  refine goes_ Try.func49 (by kernel_rfl) rfl #[.int .i64 (degv x0 x1 x2 x3), .int .i64 (degv y0 y1 y2 y3)] (by rfl) rfl rfl (by (try simp only [List.map_toArray, List.map_cons, List.map_nil]); first | done | rfl) ?_
  refine (cmp_Compare_int.calls _ _ _ _ (cmp_Compare_eq _ _)).mono ?_
  rintro e v3 ⟨rfl, hb0⟩
  have hb := hb0.below
  have HA3 := Aside0.mk (blk_below HA2.out hb)
  have HB3 := Aside0.mk (blk_below HB2.out hb)
  have HT3 := Aside0.mk (blk_below HT2.out hb)
  have HD3 := Aside0.mk (below_step HD2.out hb)
  clear hb hb0
  refine ⟨_, rfl, ?_⟩
  refine hK.out _ _ ⟨(blk_cell HA3.out 0).trans rfl, (blk_cell HA3.out 1).trans rfl, (blk_cell HA3.out 2).trans rfl, (blk_cell HA3.out 3).trans rfl, (blk_cell HB3.out 0).trans rfl, (blk_cell HB3.out 1).trans rfl, (blk_cell HB3.out 2).trans rfl, (blk_cell HB3.out 3).trans rfl, (blk_cell HT3.out 0).trans rfl⟩ (fun hHeld => ?_)
  clear hK K
  refine norm_ (a' := ?_) ?_ ?_
  rotate_left
  · simp only [Act.put, List.setIfInBounds_toArray, List.set_cons_zero, List.set_cons_succ, i64_w, i32_w]
    rfl
  refine one_ (i := 8) (N := some 14) #[true, true, true, true, true, true, true, true, true, false, false, false] rfl rfl (by kernel_rfl) (by decide) (fun K hK => ?_)
  refine goesV_ #[] Try.func83 (by kernel_rfl) rfl #[.agg #[.int .i64 x0, .int .i64 x1, .int .i64 x2, .int .i64 x3], .agg #[.int .i64 y0, .int .i64 y1, .int .i64 y2, .int .i64 y3]] (by rfl) rfl rfl rfl (by (try simp only [List.map_toArray, List.map_cons, List.map_nil]); first | done | rfl) ?_
  refine (lexC x0 x1 x2 x3 y0 y1 y2 y3 _).mono ?_
  rintro e v4 ⟨rfl, hb⟩
  have HA4 := Aside0.mk (blk_below HA3.out hb)
  have HB4 := Aside0.mk (blk_below HB3.out hb)
  have HT4 := Aside0.mk (blk_below HT3.out hb)
  have HD4 := Aside0.mk (below_step HD3.out hb)
  clear hb
  refine ⟨_, rfl, ?_⟩
  refine hK.out _ _ ⟨(blk_cell HA4.out 0).trans rfl, (blk_cell HA4.out 1).trans rfl, (blk_cell HA4.out 2).trans rfl, (blk_cell HA4.out 3).trans rfl, (blk_cell HB4.out 0).trans rfl, (blk_cell HB4.out 1).trans rfl, (blk_cell HB4.out 2).trans rfl, (blk_cell HB4.out 3).trans rfl, (blk_cell HT4.out 0).trans rfl⟩ (fun hHeld => ?_)
  clear hK K
  refine norm_ (a' := ?_) ?_ ?_
  rotate_left
  · simp only [Act.put, List.setIfInBounds_toArray, List.set_cons_zero, List.set_cons_succ, i64_w, i32_w]
    rfl
  refine one_ (i := 9) (N := some 15) #[true, true, true, true, true, true, true, true, true, true, false, false] rfl rfl (by kernel_rfl) (by decide) (fun K hK => ?_)
  refine value_ (v := .slice (some ⟨v4.heap.size, 0, none⟩) 2 2) (w1 := v4.alloc (.cells #[.int .i64 (cmpi (degv x0 x1 x2 x3) (degv y0 y1 y2 y3)), .int .i64 (lexv x0 x1 x2 x3 y0 y1 y2 y3)] 3)) (by rfl) rfl (by first | (go_simp; done) | (go_simp; rfl)) ?_
  have HR := Aside0.mk (blk_new v4 (.cells #[.int .i64 (cmpi (degv x0 x1 x2 x3) (degv y0 y1 y2 y3)), .int .i64 (lexv x0 x1 x2 x3 y0 y1 y2 y3)] 3))
  have HA5 := Aside0.mk (blk_alloc HA4.out (.cells #[.int .i64 (cmpi (degv x0 x1 x2 x3) (degv y0 y1 y2 y3)), .int .i64 (lexv x0 x1 x2 x3 y0 y1 y2 y3)] 3))
  have HB5 := Aside0.mk (blk_alloc HB4.out (.cells #[.int .i64 (cmpi (degv x0 x1 x2 x3) (degv y0 y1 y2 y3)), .int .i64 (lexv x0 x1 x2 x3 y0 y1 y2 y3)] 3))
  have HT5 := Aside0.mk (blk_alloc HT4.out (.cells #[.int .i64 (cmpi (degv x0 x1 x2 x3) (degv y0 y1 y2 y3)), .int .i64 (lexv x0 x1 x2 x3 y0 y1 y2 y3)] 3))
  have HD5 := Aside0.mk (below_alloc HD4.out (.cells #[.int .i64 (cmpi (degv x0 x1 x2 x3) (degv y0 y1 y2 y3)), .int .i64 (lexv x0 x1 x2 x3 y0 y1 y2 y3)] 3))
  generalize v4.alloc (.cells #[.int .i64 (cmpi (degv x0 x1 x2 x3) (degv y0 y1 y2 y3)), .int .i64 (lexv x0 x1 x2 x3 y0 y1 y2 y3)] 3) = v5 at HR HA5 HB5 HT5 HD5 ⊢
  refine hK.out _ _ ⟨(blk_cell HA5.out 0).trans rfl, (blk_cell HA5.out 1).trans rfl, (blk_cell HA5.out 2).trans rfl, (blk_cell HA5.out 3).trans rfl, (blk_cell HB5.out 0).trans rfl, (blk_cell HB5.out 1).trans rfl, (blk_cell HB5.out 2).trans rfl, (blk_cell HB5.out 3).trans rfl, (blk_cell HT5.out 0).trans rfl⟩ (fun hHeld => ?_)
  clear hK K
  refine norm_ (a' := ?_) ?_ ?_
  rotate_left
  · simp only [Act.put, List.setIfInBounds_toArray, List.set_cons_zero, List.set_cons_succ, i64_w, i32_w]
    rfl
  refine one_ (i := 10) (N := some 16) #[true, true, true, true, true, true, true, true, true, true, true, false] rfl rfl (by kernel_rfl) (by decide) (fun K hK => ?_)
  refine goes_ Try.func87 (by kernel_rfl) rfl #[.slice (some ⟨v4.heap.size, 0, none⟩) 2 2] (by rfl) rfl rfl (by (try simp only [List.map_toArray, List.map_cons, List.map_nil]); first | done | rfl) ?_
  refine (cmp_Or_int.calls 3 _ _ _ _ _ (row2 HR.out) (Nat.le_refl 2) (Or2 _ _)).mono ?_
  rintro e v6 ⟨rfl, hb0⟩
  have hb := hb0.below
  have HA6 := Aside0.mk (blk_below HA5.out hb)
  have HB6 := Aside0.mk (blk_below HB5.out hb)
  have HT6 := Aside0.mk (blk_below HT5.out hb)
  have HD6 := Aside0.mk (below_step HD5.out hb)
  clear hb hb0
  refine ⟨_, rfl, ?_⟩
  refine hK.out _ _ ⟨(blk_cell HA6.out 0).trans rfl, (blk_cell HA6.out 1).trans rfl, (blk_cell HA6.out 2).trans rfl, (blk_cell HA6.out 3).trans rfl, (blk_cell HB6.out 0).trans rfl, (blk_cell HB6.out 1).trans rfl, (blk_cell HB6.out 2).trans rfl, (blk_cell HB6.out 3).trans rfl, (blk_cell HT6.out 0).trans rfl⟩ (fun hHeld => ?_)
  clear hK K
  refine norm_ (a' := ?_) ?_ ?_
  rotate_left
  · simp only [Act.put, List.setIfInBounds_toArray, List.set_cons_zero, List.set_cons_succ, i64_w, i32_w]
    rfl
  refine pure_ (i := 11) (N := some 5) (v := ?_) (a' := ?_) #[true, true, true, true, true, true, true, true, true, true, true, true] rfl rfl (by kernel_rfl) (fun _ _ _ h => h) (Or.inl ⟨by rfl, ?_⟩) ?_ ?_
  rotate_left
  · intro w'
    go_simp
    with_reducible rfl
  rotate_left
  · simp only [Act.put, List.setIfInBounds_toArray, List.set_cons_zero, List.set_cons_succ, i64_w, i32_w]
    rfl
  refine done_ (by kernel_rfl) ?_
  go_wp2
  go_ret
  exact ⟨rfl, HD6.out⟩

set_option maxHeartbeats 8000000 in
set_option maxRecDepth 100000 in
theorem grdRev (gt gl : Nat) (x0 x1 x2 x3 y0 y1 y2 y3 : Int) (w : World) (ht : w.heap[gt]? = some (.cells #[.func (.func 89) #[] #[.pointer (some ⟨gl, 0, none⟩)]] 77 (0, 0))) (hl : w.heap[gl]? = some (.cells #[.func (.func 83) #[] #[]] 77 (0, 0))) :
    Calls Try.prog 86 #[.agg #[.int .i64 x0, .int .i64 x1, .int .i64 x2, .int .i64 x3], .agg #[.int .i64 y0, .int .i64 y1, .int .i64 y2, .int .i64 y3], .pointer (some ⟨gt, 0, none⟩)] w fun e w' => e = .returned (.int .i64 (or2 (cmpi (degv x0 x1 x2 x3) (degv y0 y1 y2 y3)) (lexv y3 y2 y1 y0 x3 x2 x1 x0))) ∧ Below w.heap.size w w' := by
  have HT := Aside0.mk (blk_alloc (blk_alloc ht (.cells #[.int .i64 x0, .int .i64 x1, .int .i64 x2, .int .i64 x3] 36)) (.cells #[.int .i64 y0, .int .i64 y1, .int .i64 y2, .int .i64 y3] 36))
  have HL := Aside0.mk (blk_alloc (blk_alloc hl (.cells #[.int .i64 x0, .int .i64 x1, .int .i64 x2, .int .i64 x3] 36)) (.cells #[.int .i64 y0, .int .i64 y1, .int .i64 y2, .int .i64 y3] 36))
  clear hl
  have HN := Aside0.mk (blk_lt ht)
  clear ht
  have hA := blk_alloc (blk_new w (.cells #[.int .i64 x0, .int .i64 x1, .int .i64 x2, .int .i64 x3] 36)) (.cells #[.int .i64 y0, .int .i64 y1, .int .i64 y2, .int .i64 y3] 36)
  have hB := blk_new (w.alloc (.cells #[.int .i64 x0, .int .i64 x1, .int .i64 x2, .int .i64 x3] 36)) (.cells #[.int .i64 y0, .int .i64 y1, .int .i64 y2, .int .i64 y3] 36)
  rw [World.size_alloc] at hB
  have HA := Aside0.mk hA
  have HB := Aside0.mk hB
  have HD := Aside0.mk (below_alloc (below_alloc (Below.refl _ w) (.cells #[.int .i64 x0, .int .i64 x1, .int .i64 x2, .int .i64 x3] 36)) (.cells #[.int .i64 y0, .int .i64 y1, .int .i64 y2, .int .i64 y3] 36))
  clear hA hB
  go_enter Try.func86, Try.ntmps86
  go_wp2
  generalize (w.alloc (.cells #[.int .i64 x0, .int .i64 x1, .int .i64 x2, .int .i64 x3] 36)).alloc (.cells #[.int .i64 y0, .int .i64 y1, .int .i64 y2, .int .i64 y3] 36) = w1 at HA HB HD HT HL ⊢
  refine start_ (n := 12) (S := fun w' => w'.cell? ⟨w.heap.size, 0, none⟩ = some (.int .i64 x0) ∧ w'.cell? ⟨w.heap.size, 1, none⟩ = some (.int .i64 x1) ∧ w'.cell? ⟨w.heap.size, 2, none⟩ = some (.int .i64 x2) ∧ w'.cell? ⟨w.heap.size, 3, none⟩ = some (.int .i64 x3) ∧ w'.cell? ⟨w.heap.size + 1, 0, none⟩ = some (.int .i64 y0) ∧ w'.cell? ⟨w.heap.size + 1, 1, none⟩ = some (.int .i64 y1) ∧ w'.cell? ⟨w.heap.size + 1, 2, none⟩ = some (.int .i64 y2) ∧ w'.cell? ⟨w.heap.size + 1, 3, none⟩ = some (.int .i64 y3) ∧ w'.cell? ⟨gt, 0, none⟩ = some (.func (.func 89) #[] #[.pointer (some ⟨gl, 0, none⟩)])) (ds := []) #[false, false, false, false, false, false, false, false, false, false, false, false] (by kernel_rfl) rfl rfl ⟨(blk_cell (blk_drew HA.out) 0).trans rfl, (blk_cell (blk_drew HA.out) 1).trans rfl, (blk_cell (blk_drew HA.out) 2).trans rfl, (blk_cell (blk_drew HA.out) 3).trans rfl, (blk_cell (blk_drew HB.out) 0).trans rfl, (blk_cell (blk_drew HB.out) 1).trans rfl, (blk_cell (blk_drew HB.out) 2).trans rfl, (blk_cell (blk_drew HB.out) 3).trans rfl, (blk_cell (blk_drew HT.out) 0).trans rfl⟩ (fun hHeld => ?_)
  have HA0 := Aside0.mk (blk_drew HA.out)
  have HB0 := Aside0.mk (blk_drew HB.out)
  have HT0 := Aside0.mk (blk_drew HT.out)
  have HL0 := Aside0.mk (blk_drew HL.out)
  have HD0 := Aside0.mk (below_drew HD.out)
  generalize w1.drew = v0 at HA0 HB0 HT0 HL0 HD0 hHeld ⊢
  clear HA HB HT HL HD w1
  refine take_ (i := 0) (N := some 6) (v := ?_) (a' := ?_) #[true, false, false, false, false, false, false, false, false, false, false, false] rfl rfl (by kernel_rfl) (fun _ _ _ h => h) (Or.inl ⟨by rfl, ?_⟩) hHeld ?_ ?_
  rotate_left
  · rintro w' ⟨s0_, s1_, s2_, s3_, s4_, s5_, s6_, s7_, s8_⟩
    go_simp
    with_reducible rfl
  rotate_left
  · simp only [Act.put, List.setIfInBounds_toArray, List.set_cons_zero, List.set_cons_succ, i64_w, i32_w]
    rfl
  refine take_ (i := 2) (N := some 8) (v := ?_) (a' := ?_) #[true, false, true, false, false, false, false, false, false, false, false, false] rfl rfl (by kernel_rfl) (fun _ _ _ h => h) (Or.inl ⟨by rfl, ?_⟩) hHeld ?_ ?_
  rotate_left
  · rintro w' ⟨s0_, s1_, s2_, s3_, s4_, s5_, s6_, s7_, s8_⟩
    go_simp
    with_reducible rfl
  rotate_left
  · simp only [Act.put, List.setIfInBounds_toArray, List.set_cons_zero, List.set_cons_succ, i64_w, i32_w]
    rfl
  refine take_ (i := 5) (N := some 11) (v := ?_) (a' := ?_) #[true, false, true, false, false, true, false, false, false, false, false, false] rfl rfl (by kernel_rfl) (fun _ _ _ h => h) (Or.inl ⟨by rfl, ?_⟩) hHeld ?_ ?_
  rotate_left
  · rintro w' ⟨s0_, s1_, s2_, s3_, s4_, s5_, s6_, s7_, s8_⟩
    go_simp
    with_reducible rfl
  rotate_left
  · simp only [Act.put, List.setIfInBounds_toArray, List.set_cons_zero, List.set_cons_succ, i64_w, i32_w]
    rfl
  refine take_ (i := 6) (N := some 12) (v := ?_) (a' := ?_) #[true, false, true, false, false, true, true, false, false, false, false, false] rfl rfl (by kernel_rfl) (fun _ _ _ h => h) (Or.inl ⟨by rfl, ?_⟩) hHeld ?_ ?_
  rotate_left
  · rintro w' ⟨s0_, s1_, s2_, s3_, s4_, s5_, s6_, s7_, s8_⟩
    go_simp
    with_reducible rfl
  rotate_left
  · simp only [Act.put, List.setIfInBounds_toArray, List.set_cons_zero, List.set_cons_succ, i64_w, i32_w]
    rfl
  refine take_ (i := 7) (N := some 13) (v := ?_) (a' := ?_) #[true, false, true, false, false, true, true, true, false, false, false, false] rfl rfl (by kernel_rfl) (fun _ _ _ h => h) (Or.inl ⟨by rfl, ?_⟩) hHeld ?_ ?_
  rotate_left
  · rintro w' ⟨s0_, s1_, s2_, s3_, s4_, s5_, s6_, s7_, s8_⟩
    go_simp
    with_reducible rfl
  rotate_left
  · simp only [Act.put, List.setIfInBounds_toArray, List.set_cons_zero, List.set_cons_succ, i64_w, i32_w]
    rfl
  refine one_ (i := 1) (N := some 7) #[true, true, true, false, false, true, true, true, false, false, false, false] rfl rfl (by kernel_rfl) (by decide) (fun K hK => ?_)
  refine goes_ Try.func88 (by kernel_rfl) rfl #[.agg #[.int .i64 x0, .int .i64 x1, .int .i64 x2, .int .i64 x3]] (by rfl) rfl rfl (by (try simp only [List.map_toArray, List.map_cons, List.map_nil]); first | done | rfl) ?_
  refine (mono_Degree.calls x0 x1 x2 x3 _ _ rfl).mono ?_
  rintro e v1 ⟨rfl, hb⟩
  have HA1 := Aside0.mk (blk_below HA0.out hb)
  have HB1 := Aside0.mk (blk_below HB0.out hb)
  have HT1 := Aside0.mk (blk_below HT0.out hb)
  have HL1 := Aside0.mk (blk_below HL0.out hb)
  have HD1 := Aside0.mk (below_step HD0.out hb)
  clear hb
  refine ⟨_, rfl, ?_⟩
  refine hK.out _ _ ⟨(blk_cell HA1.out 0).trans rfl, (blk_cell HA1.out 1).trans rfl, (blk_cell HA1.out 2).trans rfl, (blk_cell HA1.out 3).trans rfl, (blk_cell HB1.out 0).trans rfl, (blk_cell HB1.out 1).trans rfl, (blk_cell HB1.out 2).trans rfl, (blk_cell HB1.out 3).trans rfl, (blk_cell HT1.out 0).trans rfl⟩ (fun hHeld => ?_)
  clear hK K
  refine norm_ (a' := ?_) ?_ ?_
  rotate_left
  · simp only [Act.put, List.setIfInBounds_toArray, List.set_cons_zero, List.set_cons_succ, i64_w, i32_w]
    rfl
  refine one_ (i := 3) (N := some 9) #[true, true, true, true, false, true, true, true, false, false, false, false] rfl rfl (by kernel_rfl) (by decide) (fun K hK => ?_)
  refine goes_ Try.func88 (by kernel_rfl) rfl #[.agg #[.int .i64 y0, .int .i64 y1, .int .i64 y2, .int .i64 y3]] (by rfl) rfl rfl (by (try simp only [List.map_toArray, List.map_cons, List.map_nil]); first | done | rfl) ?_
  refine (mono_Degree.calls y0 y1 y2 y3 _ _ rfl).mono ?_
  rintro e v2 ⟨rfl, hb⟩
  have HA2 := Aside0.mk (blk_below HA1.out hb)
  have HB2 := Aside0.mk (blk_below HB1.out hb)
  have HT2 := Aside0.mk (blk_below HT1.out hb)
  have HL2 := Aside0.mk (blk_below HL1.out hb)
  have HD2 := Aside0.mk (below_step HD1.out hb)
  clear hb
  refine ⟨_, rfl, ?_⟩
  refine hK.out _ _ ⟨(blk_cell HA2.out 0).trans rfl, (blk_cell HA2.out 1).trans rfl, (blk_cell HA2.out 2).trans rfl, (blk_cell HA2.out 3).trans rfl, (blk_cell HB2.out 0).trans rfl, (blk_cell HB2.out 1).trans rfl, (blk_cell HB2.out 2).trans rfl, (blk_cell HB2.out 3).trans rfl, (blk_cell HT2.out 0).trans rfl⟩ (fun hHeld => ?_)
  clear hK K
  refine norm_ (a' := ?_) ?_ ?_
  rotate_left
  · simp only [Act.put, List.setIfInBounds_toArray, List.set_cons_zero, List.set_cons_succ, i64_w, i32_w]
    rfl
  refine one_ (i := 4) (N := some 10) #[true, true, true, true, true, true, true, true, false, false, false, false] rfl rfl (by kernel_rfl) (by decide) (fun K hK => ?_)
  refine goes_ Try.func49 (by kernel_rfl) rfl #[.int .i64 (degv x0 x1 x2 x3), .int .i64 (degv y0 y1 y2 y3)] (by rfl) rfl rfl (by (try simp only [List.map_toArray, List.map_cons, List.map_nil]); first | done | rfl) ?_
  refine (cmp_Compare_int.calls _ _ _ _ (cmp_Compare_eq _ _)).mono ?_
  rintro e v3 ⟨rfl, hb0⟩
  have hb := hb0.below
  have HA3 := Aside0.mk (blk_below HA2.out hb)
  have HB3 := Aside0.mk (blk_below HB2.out hb)
  have HT3 := Aside0.mk (blk_below HT2.out hb)
  have HL3 := Aside0.mk (blk_below HL2.out hb)
  have HD3 := Aside0.mk (below_step HD2.out hb)
  clear hb hb0
  refine ⟨_, rfl, ?_⟩
  refine hK.out _ _ ⟨(blk_cell HA3.out 0).trans rfl, (blk_cell HA3.out 1).trans rfl, (blk_cell HA3.out 2).trans rfl, (blk_cell HA3.out 3).trans rfl, (blk_cell HB3.out 0).trans rfl, (blk_cell HB3.out 1).trans rfl, (blk_cell HB3.out 2).trans rfl, (blk_cell HB3.out 3).trans rfl, (blk_cell HT3.out 0).trans rfl⟩ (fun hHeld => ?_)
  clear hK K
  refine norm_ (a' := ?_) ?_ ?_
  rotate_left
  · simp only [Act.put, List.setIfInBounds_toArray, List.set_cons_zero, List.set_cons_succ, i64_w, i32_w]
    rfl
  refine one_ (i := 8) (N := some 14) #[true, true, true, true, true, true, true, true, true, false, false, false] rfl rfl (by kernel_rfl) (by decide) (fun K hK => ?_)
  refine goesV_ #[.pointer (some ⟨gl, 0, none⟩)] Try.func89 (by kernel_rfl) rfl #[.agg #[.int .i64 x0, .int .i64 x1, .int .i64 x2, .int .i64 x3], .agg #[.int .i64 y0, .int .i64 y1, .int .i64 y2, .int .i64 y3], .pointer (some ⟨gl, 0, none⟩)] (by rfl) rfl rfl rfl (by (try simp only [List.map_toArray, List.map_cons, List.map_nil]); first | done | rfl) ?_
  refine (revC gl x0 x1 x2 x3 y0 y1 y2 y3 _ HL3.out).mono ?_
  rintro e v4 ⟨rfl, hb⟩
  have HA4 := Aside0.mk (blk_below HA3.out hb)
  have HB4 := Aside0.mk (blk_below HB3.out hb)
  have HT4 := Aside0.mk (blk_below HT3.out hb)
  have HL4 := Aside0.mk (blk_below HL3.out hb)
  have HD4 := Aside0.mk (below_step HD3.out hb)
  clear hb
  refine ⟨_, rfl, ?_⟩
  refine hK.out _ _ ⟨(blk_cell HA4.out 0).trans rfl, (blk_cell HA4.out 1).trans rfl, (blk_cell HA4.out 2).trans rfl, (blk_cell HA4.out 3).trans rfl, (blk_cell HB4.out 0).trans rfl, (blk_cell HB4.out 1).trans rfl, (blk_cell HB4.out 2).trans rfl, (blk_cell HB4.out 3).trans rfl, (blk_cell HT4.out 0).trans rfl⟩ (fun hHeld => ?_)
  clear hK K
  refine norm_ (a' := ?_) ?_ ?_
  rotate_left
  · simp only [Act.put, List.setIfInBounds_toArray, List.set_cons_zero, List.set_cons_succ, i64_w, i32_w]
    rfl
  refine one_ (i := 9) (N := some 15) #[true, true, true, true, true, true, true, true, true, true, false, false] rfl rfl (by kernel_rfl) (by decide) (fun K hK => ?_)
  refine value_ (v := .slice (some ⟨v4.heap.size, 0, none⟩) 2 2) (w1 := v4.alloc (.cells #[.int .i64 (cmpi (degv x0 x1 x2 x3) (degv y0 y1 y2 y3)), .int .i64 (lexv y3 y2 y1 y0 x3 x2 x1 x0)] 3)) (by rfl) rfl (by first | (go_simp; done) | (go_simp; rfl)) ?_
  have HR := Aside0.mk (blk_new v4 (.cells #[.int .i64 (cmpi (degv x0 x1 x2 x3) (degv y0 y1 y2 y3)), .int .i64 (lexv y3 y2 y1 y0 x3 x2 x1 x0)] 3))
  have HA5 := Aside0.mk (blk_alloc HA4.out (.cells #[.int .i64 (cmpi (degv x0 x1 x2 x3) (degv y0 y1 y2 y3)), .int .i64 (lexv y3 y2 y1 y0 x3 x2 x1 x0)] 3))
  have HB5 := Aside0.mk (blk_alloc HB4.out (.cells #[.int .i64 (cmpi (degv x0 x1 x2 x3) (degv y0 y1 y2 y3)), .int .i64 (lexv y3 y2 y1 y0 x3 x2 x1 x0)] 3))
  have HT5 := Aside0.mk (blk_alloc HT4.out (.cells #[.int .i64 (cmpi (degv x0 x1 x2 x3) (degv y0 y1 y2 y3)), .int .i64 (lexv y3 y2 y1 y0 x3 x2 x1 x0)] 3))
  have HL5 := Aside0.mk (blk_alloc HL4.out (.cells #[.int .i64 (cmpi (degv x0 x1 x2 x3) (degv y0 y1 y2 y3)), .int .i64 (lexv y3 y2 y1 y0 x3 x2 x1 x0)] 3))
  have HD5 := Aside0.mk (below_alloc HD4.out (.cells #[.int .i64 (cmpi (degv x0 x1 x2 x3) (degv y0 y1 y2 y3)), .int .i64 (lexv y3 y2 y1 y0 x3 x2 x1 x0)] 3))
  generalize v4.alloc (.cells #[.int .i64 (cmpi (degv x0 x1 x2 x3) (degv y0 y1 y2 y3)), .int .i64 (lexv y3 y2 y1 y0 x3 x2 x1 x0)] 3) = v5 at HR HA5 HB5 HT5 HL5 HD5 ⊢
  refine hK.out _ _ ⟨(blk_cell HA5.out 0).trans rfl, (blk_cell HA5.out 1).trans rfl, (blk_cell HA5.out 2).trans rfl, (blk_cell HA5.out 3).trans rfl, (blk_cell HB5.out 0).trans rfl, (blk_cell HB5.out 1).trans rfl, (blk_cell HB5.out 2).trans rfl, (blk_cell HB5.out 3).trans rfl, (blk_cell HT5.out 0).trans rfl⟩ (fun hHeld => ?_)
  clear hK K
  refine norm_ (a' := ?_) ?_ ?_
  rotate_left
  · simp only [Act.put, List.setIfInBounds_toArray, List.set_cons_zero, List.set_cons_succ, i64_w, i32_w]
    rfl
  refine one_ (i := 10) (N := some 16) #[true, true, true, true, true, true, true, true, true, true, true, false] rfl rfl (by kernel_rfl) (by decide) (fun K hK => ?_)
  refine goes_ Try.func87 (by kernel_rfl) rfl #[.slice (some ⟨v4.heap.size, 0, none⟩) 2 2] (by rfl) rfl rfl (by (try simp only [List.map_toArray, List.map_cons, List.map_nil]); first | done | rfl) ?_
  refine (cmp_Or_int.calls 3 _ _ _ _ _ (row2 HR.out) (Nat.le_refl 2) (Or2 _ _)).mono ?_
  rintro e v6 ⟨rfl, hb0⟩
  have hb := hb0.below
  have HA6 := Aside0.mk (blk_below HA5.out hb)
  have HB6 := Aside0.mk (blk_below HB5.out hb)
  have HT6 := Aside0.mk (blk_below HT5.out hb)
  have HL6 := Aside0.mk (blk_below HL5.out hb)
  have HD6 := Aside0.mk (below_step HD5.out hb)
  clear hb hb0
  refine ⟨_, rfl, ?_⟩
  refine hK.out _ _ ⟨(blk_cell HA6.out 0).trans rfl, (blk_cell HA6.out 1).trans rfl, (blk_cell HA6.out 2).trans rfl, (blk_cell HA6.out 3).trans rfl, (blk_cell HB6.out 0).trans rfl, (blk_cell HB6.out 1).trans rfl, (blk_cell HB6.out 2).trans rfl, (blk_cell HB6.out 3).trans rfl, (blk_cell HT6.out 0).trans rfl⟩ (fun hHeld => ?_)
  clear hK K
  refine norm_ (a' := ?_) ?_ ?_
  rotate_left
  · simp only [Act.put, List.setIfInBounds_toArray, List.set_cons_zero, List.set_cons_succ, i64_w, i32_w]
    rfl
  refine pure_ (i := 11) (N := some 5) (v := ?_) (a' := ?_) #[true, true, true, true, true, true, true, true, true, true, true, true] rfl rfl (by kernel_rfl) (fun _ _ _ h => h) (Or.inl ⟨by rfl, ?_⟩) ?_ ?_
  rotate_left
  · intro w'
    go_simp
    with_reducible rfl
  rotate_left
  · simp only [Act.put, List.setIfInBounds_toArray, List.set_cons_zero, List.set_cons_succ, i64_w, i32_w]
    rfl
  refine done_ (by kernel_rfl) ?_
  go_wp2
  go_ret
  exact ⟨rfl, HD6.out⟩

set_option maxHeartbeats 1000000 in
set_option maxRecDepth 100000 in
theorem grdC (fn : Fn) (fs cap : Array Value) (w : World) :
    Calls Try.prog 85 #[.func fn fs cap] w fun e w' => e = .returned (.func (.func 86) #[] #[.pointer (some ⟨w.heap.size, 0, none⟩)]) ∧ w.alloc (.cells #[.func fn fs cap] 77) = w' := by
  have hmf : ∀ (fn : Fn) (first cap : Array Value) (w : World), (Instr.makeFunc fn first cap).run Try.prog w = .ok (.func fn first cap) w := fun _ _ _ _ => rfl
  go_enter Try.func85, Try.ntmps85
  go_wp2
  go_ret
  exact ⟨rfl, rfl⟩

def mcmp (o x0 x1 x2 x3 y0 y1 y2 y3 : Int) : Int := if mays x0 x1 x2 x3 = true ∧ mays y0 y1 y2 y3 = true then (if o = 0 then lexv x0 x1 x2 x3 y0 y1 y2 y3 else if o = 1 then or2 (cmpi (degv x0 x1 x2 x3) (degv y0 y1 y2 y3)) (lexv x0 x1 x2 x3 y0 y1 y2 y3) else if o = 2 then or2 (cmpi (degv x0 x1 x2 x3) (degv y0 y1 y2 y3)) (lexv y3 y2 y1 y0 x3 x2 x1 x0) else 0) else 0
def mono_Cmp.f (o x0 x1 x2 x3 y0 y1 y2 y3 : Int) : Option Int := some (mcmp o x0 x1 x2 x3 y0 y1 y2 y3)
set_option maxHeartbeats 16000000 in
set_option maxRecDepth 100000 in
theorem mono_Cmp.calls (o x0 x1 x2 x3 y0 y1 y2 y3 : Int) (r : Int) (w : World) (h : mono_Cmp.f o x0 x1 x2 x3 y0 y1 y2 y3 = some r) :
    Calls Try.prog 48 #[.int .i64 o, .agg #[.int .i64 x0, .int .i64 x1, .int .i64 x2, .int .i64 x3], .agg #[.int .i64 y0, .int .i64 y1, .int .i64 y2, .int .i64 y3]] w fun e w' => e = .returned (.int .i64 r) ∧ Below w.heap.size w w' := by
  have HRES := Aside0.mk (Option.some.inj h)
  clear h
  have hmf : ∀ (fn : Fn) (first cap : Array Value) (w : World), (Instr.makeFunc fn first cap).run Try.prog w = .ok (.func fn first cap) w := fun _ _ _ _ => rfl
  have hnot : ∀ (x : Bool) (w : World), (Op.unary .not (.bool x)).run Try.prog w = .ok (.bool (!x)) w := fun _ _ => rfl
  have hA := blk_alloc (blk_alloc (blk_new w (.cells #[.int .i64 x0, .int .i64 x1, .int .i64 x2, .int .i64 x3] 36)) (.cells #[.int .i64 y0, .int .i64 y1, .int .i64 y2, .int .i64 y3] 36)) (.cells #[.func (.func 83) #[] #[]] 77)
  have hB := blk_alloc (blk_new (w.alloc (.cells #[.int .i64 x0, .int .i64 x1, .int .i64 x2, .int .i64 x3] 36)) (.cells #[.int .i64 y0, .int .i64 y1, .int .i64 y2, .int .i64 y3] 36)) (.cells #[.func (.func 83) #[] #[]] 77)
  have hL := blk_new ((w.alloc (.cells #[.int .i64 x0, .int .i64 x1, .int .i64 x2, .int .i64 x3] 36)).alloc (.cells #[.int .i64 y0, .int .i64 y1, .int .i64 y2, .int .i64 y3] 36)) (.cells #[.func (.func 83) #[] #[]] 77)
  simp only [World.size_alloc] at hA hB hL
  have HA := Aside0.mk hA
  have HB := Aside0.mk hB
  have HL := Aside0.mk hL
  have HD := Aside0.mk (below_alloc (below_alloc (below_alloc (Below.refl _ w) (.cells #[.int .i64 x0, .int .i64 x1, .int .i64 x2, .int .i64 x3] 36)) (.cells #[.int .i64 y0, .int .i64 y1, .int .i64 y2, .int .i64 y3] 36)) (.cells #[.func (.func 83) #[] #[]] 77))
  have HZ := Aside0.mk (show w.heap.size + 3 ≤ (((w.alloc (.cells #[.int .i64 x0, .int .i64 x1, .int .i64 x2, .int .i64 x3] 36)).alloc (.cells #[.int .i64 y0, .int .i64 y1, .int .i64 y2, .int .i64 y3] 36)).alloc (.cells #[.func (.func 83) #[] #[]] 77)).heap.size by simp)
  clear hA hB hL
  go_enter Try.func48, Try.ntmps48
  go_wp2
  generalize ((w.alloc (.cells #[.int .i64 x0, .int .i64 x1, .int .i64 x2, .int .i64 x3] 36)).alloc (.cells #[.int .i64 y0, .int .i64 y1, .int .i64 y2, .int .i64 y3] 36)).alloc (.cells #[.func (.func 83) #[] #[]] 77) = w1 at HA HB HL HD HZ ⊢
  refine start_ (n := 10) (S := fun w' => w'.cell? ⟨w.heap.size + 1 + 1, 0, none⟩ = some (.func (.func 83) #[] #[])) (ds := [9]) #[false, false, false, false, false, false, false, false, false, false] (by kernel_rfl) rfl rfl ((blk_cell (blk_drew HL.out) 0).trans rfl) (fun hHeld => ?_)
  have HA0 := Aside0.mk (blk_drew HA.out)
  have HB0 := Aside0.mk (blk_drew HB.out)
  have HL0 := Aside0.mk (blk_drew HL.out)
  have HD0 := Aside0.mk (below_drew HD.out)
  have HZ0 := Aside0.mk (show w.heap.size + 3 ≤ w1.drew.heap.size from HZ.out)
  generalize w1.drew = v0 at HA0 HB0 HL0 HD0 HZ0 hHeld ⊢
  clear HA HB HL HD HZ w1
  refine take_ (i := 0) (N := some 12) (v := ?_) (a' := ?_) #[true, false, false, false, false, false, false, false, false, false] rfl rfl (by kernel_rfl) (fun _ _ _ h => h) (Or.inl ⟨by rfl, ?_⟩) hHeld ?_ ?_
  rotate_left
  · rintro w' s0_
    go_simp
    with_reducible rfl
  rotate_left
  · simp only [Act.put, List.setIfInBounds_toArray, List.set_cons_zero, List.set_cons_succ, i64_w, i32_w]
    rfl
  refine take_ (i := 2) (N := some 14) (v := ?_) (a' := ?_) #[true, false, true, false, false, false, false, false, false, false] rfl rfl (by kernel_rfl) (fun _ _ _ h => h) (Or.inl ⟨by rfl, ?_⟩) hHeld ?_ ?_
  rotate_left
  · rintro w' s0_
    go_simp
    with_reducible rfl
  rotate_left
  · simp only [Act.put, List.setIfInBounds_toArray, List.set_cons_zero, List.set_cons_succ, i64_w, i32_w]
    rfl
  refine pure_ (i := 1) (N := some 13) (v := ?_) (a' := ?_) #[true, true, true, false, false, false, false, false, false, false] rfl rfl (by kernel_rfl) (fun _ _ _ h => h) (Or.inl ⟨by rfl, ?_⟩) ?_ ?_
  rotate_left
  · intro w'
    go_simp
    with_reducible rfl
  rotate_left
  · simp only [Act.put, List.setIfInBounds_toArray, List.set_cons_zero, List.set_cons_succ, i64_w, i32_w]
    rfl
  refine pure_ (i := 4) (N := some 16) (v := ?_) (a' := ?_) #[true, true, true, false, true, false, false, false, false, false] rfl rfl (by kernel_rfl) (fun _ _ _ h => h) (Or.inl ⟨by rfl, ?_⟩) ?_ ?_
  rotate_left
  · intro w'
    go_simp
    with_reducible rfl
  rotate_left
  · simp only [Act.put, List.setIfInBounds_toArray, List.set_cons_zero, List.set_cons_succ, i64_w, i32_w]
    rfl
  refine pure_ (i := 5) (N := some 17) (v := ?_) (a' := ?_) #[true, true, true, false, true, true, false, false, false, false] rfl rfl (by kernel_rfl) (fun _ _ _ h => h) (Or.inl ⟨by rfl, ?_⟩) ?_ ?_
  rotate_left
  · intro w'
    go_simp
    with_reducible rfl
  rotate_left
  · simp only [Act.put, List.setIfInBounds_toArray, List.set_cons_zero, List.set_cons_succ, i64_w, i32_w]
    rfl
  refine join_ (σ := Nat × Nat × Nat) 1 #[true, true, true, true, true, true, true, true, true, false] (fun s => [(15, .func (.func 86) #[] #[.pointer (some ⟨s.1, 0, none⟩)]), (18, .func (.func 86) #[] #[.pointer (some ⟨s.2.1, 0, none⟩)]), (19, .agg #[.func (.func 83) #[] #[], .func (.func 86) #[] #[.pointer (some ⟨s.1, 0, none⟩)], .func (.func 86) #[] #[.pointer (some ⟨s.2.1, 0, none⟩)]]), (10, .pointer (some ⟨s.2.2, 0, none⟩))]) (fun s w' => (w'.heap[w.heap.size]? = some (.cells #[.int .i64 x0, .int .i64 x1, .int .i64 x2, .int .i64 x3] 36) ∧ w'.heap[w.heap.size + 1]? = some (.cells #[.int .i64 y0, .int .i64 y1, .int .i64 y2, .int .i64 y3] 36) ∧ w'.heap[w.heap.size + 1 + 1]? = some (.cells #[.func (.func 83) #[] #[]] 77)) ∧ (w'.heap[s.1]? = some (.cells #[.func (.func 83) #[] #[]] 77) ∧ w'.heap[s.2.1]? = some (.cells #[.func (.func 89) #[] #[.pointer (some ⟨(w.heap.size + 1 + 1), 0, none⟩)]] 77) ∧ w'.heap[s.2.2]? = some (.cells #[.nilFunc, .nilFunc, .nilFunc] 99)) ∧ (s.1 ≠ s.2.2 ∧ s.2.1 ≠ s.2.2 ∧ w.heap.size + 3 ≤ s.2.2) ∧ Below w.heap.size w w') ?_ (fun hJ => ?_)
  rotate_left
  · refine two_ (i := 3) (j := 8) (Ni := some 15) (Nj := some 10) #[true, true, true, true, true, true, false, false, false, false] #[true, true, true, false, true, true, false, false, true, false] rfl rfl rfl rfl (by kernel_rfl) (by decide) (by decide) (fun K hK => ?_) (fun K hK => ?_)
    · refine goesV_ #[] Try.func85 (by kernel_rfl) rfl #[.func (.func 83) #[] #[]] (by rfl) rfl rfl rfl (by (try simp only [List.map_toArray, List.map_cons, List.map_nil]); first | done | rfl) ?_
      refine (grdC (.func 83) #[] #[] v0).mono ?_
      rintro e v1 ⟨rfl, hv⟩
      have H1_1 := Aside0.mk (show v1.heap[v0.heap.size]? = some (.cells #[.func (.func 83) #[] #[]] 77) from hv ▸ blk_new v0 (.cells #[.func (.func 83) #[] #[]] 77))
      have HA1 := Aside0.mk (show v1.heap[_]? = some _ from hv ▸ blk_alloc HA0.out (.cells #[.func (.func 83) #[] #[]] 77))
      have HB1 := Aside0.mk (show v1.heap[_]? = some _ from hv ▸ blk_alloc HB0.out (.cells #[.func (.func 83) #[] #[]] 77))
      have HL1 := Aside0.mk (show v1.heap[_]? = some _ from hv ▸ blk_alloc HL0.out (.cells #[.func (.func 83) #[] #[]] 77))
      have HD1 := Aside0.mk (show Below w.heap.size w v1 from hv ▸ below_alloc HD0.out (.cells #[.func (.func 83) #[] #[]] 77))
      have HS1 := Aside0.mk (show v1.heap.size = v0.heap.size + 1 from hv ▸ World.size_alloc _ _)
      clear hv
      refine ⟨_, rfl, ?_⟩
      refine hK.out _ _ ((blk_cell HL1.out 0).trans rfl) (fun hHeld => ?_)
      clear hK K
      refine norm_ (a' := ?_) ?_ ?_
      rotate_left
      · simp only [Act.put, List.setIfInBounds_toArray, List.set_cons_zero, List.set_cons_succ, i64_w, i32_w]
        rfl
      refine two_ (i := 6) (j := 8) (Ni := some 18) (Nj := some 10) #[true, true, true, true, true, true, true, false, false, false] #[true, true, true, true, true, true, false, false, true, false] rfl rfl rfl rfl (by kernel_rfl) (by decide) (by decide) (fun K hK => ?_) (fun K hK => ?_)
      · refine goesV_ #[] Try.func85 (by kernel_rfl) rfl #[.func (.func 89) #[] #[.pointer (some ⟨(w.heap.size + 1 + 1), 0, none⟩)]] (by rfl) rfl rfl rfl (by (try simp only [List.map_toArray, List.map_cons, List.map_nil]); first | done | rfl) ?_
        refine (grdC (.func 89) #[] #[.pointer (some ⟨w.heap.size + 1 + 1, 0, none⟩)] v1).mono ?_
        rintro e v2 ⟨rfl, hv⟩
        have H2_2 := Aside0.mk (show v2.heap[v1.heap.size]? = some (.cells #[.func (.func 89) #[] #[.pointer (some ⟨(w.heap.size + 1 + 1), 0, none⟩)]] 77) from hv ▸ blk_new v1 (.cells #[.func (.func 89) #[] #[.pointer (some ⟨(w.heap.size + 1 + 1), 0, none⟩)]] 77))
        have HA2 := Aside0.mk (show v2.heap[_]? = some _ from hv ▸ blk_alloc HA1.out (.cells #[.func (.func 89) #[] #[.pointer (some ⟨(w.heap.size + 1 + 1), 0, none⟩)]] 77))
        have HB2 := Aside0.mk (show v2.heap[_]? = some _ from hv ▸ blk_alloc HB1.out (.cells #[.func (.func 89) #[] #[.pointer (some ⟨(w.heap.size + 1 + 1), 0, none⟩)]] 77))
        have HL2 := Aside0.mk (show v2.heap[_]? = some _ from hv ▸ blk_alloc HL1.out (.cells #[.func (.func 89) #[] #[.pointer (some ⟨(w.heap.size + 1 + 1), 0, none⟩)]] 77))
        have H1_2 := Aside0.mk (show v2.heap[_]? = some _ from hv ▸ blk_alloc H1_1.out (.cells #[.func (.func 89) #[] #[.pointer (some ⟨(w.heap.size + 1 + 1), 0, none⟩)]] 77))
        have HD2 := Aside0.mk (show Below w.heap.size w v2 from hv ▸ below_alloc HD1.out (.cells #[.func (.func 89) #[] #[.pointer (some ⟨(w.heap.size + 1 + 1), 0, none⟩)]] 77))
        have HS2 := Aside0.mk (show v2.heap.size = v1.heap.size + 1 from hv ▸ World.size_alloc _ _)
        clear hv
        refine ⟨_, rfl, ?_⟩
        refine hK.out _ _ ((blk_cell HL2.out 0).trans rfl) (fun hHeld => ?_)
        clear hK K
        refine norm_ (a' := ?_) ?_ ?_
        rotate_left
        · simp only [Act.put, List.setIfInBounds_toArray, List.set_cons_zero, List.set_cons_succ, i64_w, i32_w]
          rfl
        refine pure_ (i := 7) (N := some 19) (v := ?_) (a' := ?_) #[true, true, true, true, true, true, true, true, false, false] rfl rfl (by kernel_rfl) (fun _ _ _ h => h) (Or.inl ⟨by rfl, ?_⟩) ?_ ?_
        rotate_left
        · intro w'
          go_simp
          with_reducible rfl
        rotate_left
        · simp only [Act.put, List.setIfInBounds_toArray, List.set_cons_zero, List.set_cons_succ, i64_w, i32_w]
          rfl
        refine one_ (i := 8) (N := some 10) #[true, true, true, true, true, true, true, true, true, false] rfl rfl (by kernel_rfl) (by decide) (fun K hK => ?_)
        refine value_ (v := .pointer (some ⟨v2.heap.size, 0, none⟩)) (w1 := v2.alloc (.cells #[.nilFunc, .nilFunc, .nilFunc] 99)) (by rfl) rfl (by first | (go_simp; done) | (go_simp; rfl)) ?_
        obtain ⟨v3, hv⟩ : ∃ v, v2.alloc (.cells #[.nilFunc, .nilFunc, .nilFunc] 99) = v := ⟨_, rfl⟩
        rw [hv]
        have HO_3 := Aside0.mk (show v3.heap[v2.heap.size]? = some (.cells #[.nilFunc, .nilFunc, .nilFunc] 99) from hv ▸ blk_new v2 (.cells #[.nilFunc, .nilFunc, .nilFunc] 99))
        have HA3 := Aside0.mk (show v3.heap[_]? = some _ from hv ▸ blk_alloc HA2.out (.cells #[.nilFunc, .nilFunc, .nilFunc] 99))
        have HB3 := Aside0.mk (show v3.heap[_]? = some _ from hv ▸ blk_alloc HB2.out (.cells #[.nilFunc, .nilFunc, .nilFunc] 99))
        have HL3 := Aside0.mk (show v3.heap[_]? = some _ from hv ▸ blk_alloc HL2.out (.cells #[.nilFunc, .nilFunc, .nilFunc] 99))
        have H1_3 := Aside0.mk (show v3.heap[_]? = some _ from hv ▸ blk_alloc H1_2.out (.cells #[.nilFunc, .nilFunc, .nilFunc] 99))
        have H2_3 := Aside0.mk (show v3.heap[_]? = some _ from hv ▸ blk_alloc H2_2.out (.cells #[.nilFunc, .nilFunc, .nilFunc] 99))
        have HD3 := Aside0.mk (show Below w.heap.size w v3 from hv ▸ below_alloc HD2.out (.cells #[.nilFunc, .nilFunc, .nilFunc] 99))
        have HS3 := Aside0.mk (show v3.heap.size = v2.heap.size + 1 from hv ▸ World.size_alloc _ _)
        clear hv
        refine hK.out _ _ ((blk_cell HL3.out 0).trans rfl) (fun hHeld => ?_)
        clear hK K
        refine norm_ (a' := ?_) ?_ ?_
        rotate_left
        · simp only [Act.put, List.setIfInBounds_toArray, List.set_cons_zero, List.set_cons_succ, i64_w, i32_w]
          rfl
        exact hJ (v0.heap.size, v1.heap.size, v2.heap.size) _ ⟨⟨HA3.out, HB3.out, HL3.out⟩, ⟨H1_3.out, H2_3.out, HO_3.out⟩, ⟨by have := HS1.out; have := HS2.out; have := HS3.out; show v0.heap.size ≠ v2.heap.size; omega, by have := HS1.out; have := HS2.out; have := HS3.out; show v1.heap.size ≠ v2.heap.size; omega, by have := HZ0.out; have := HS1.out; have := HS2.out; show w.heap.size + 3 ≤ v2.heap.size; omega⟩, HD3.out⟩
      · refine value_ (v := .pointer (some ⟨v1.heap.size, 0, none⟩)) (w1 := v1.alloc (.cells #[.nilFunc, .nilFunc, .nilFunc] 99)) (by rfl) rfl (by first | (go_simp; done) | (go_simp; rfl)) ?_
        obtain ⟨v2, hv⟩ : ∃ v, v1.alloc (.cells #[.nilFunc, .nilFunc, .nilFunc] 99) = v := ⟨_, rfl⟩
        rw [hv]
        have HO_2 := Aside0.mk (show v2.heap[v1.heap.size]? = some (.cells #[.nilFunc, .nilFunc, .nilFunc] 99) from hv ▸ blk_new v1 (.cells #[.nilFunc, .nilFunc, .nilFunc] 99))
        have HA2 := Aside0.mk (show v2.heap[_]? = some _ from hv ▸ blk_alloc HA1.out (.cells #[.nilFunc, .nilFunc, .nilFunc] 99))
        have HB2 := Aside0.mk (show v2.heap[_]? = some _ from hv ▸ blk_alloc HB1.out (.cells #[.nilFunc, .nilFunc, .nilFunc] 99))
        have HL2 := Aside0.mk (show v2.heap[_]? = some _ from hv ▸ blk_alloc HL1.out (.cells #[.nilFunc, .nilFunc, .nilFunc] 99))
        have H1_2 := Aside0.mk (show v2.heap[_]? = some _ from hv ▸ blk_alloc H1_1.out (.cells #[.nilFunc, .nilFunc, .nilFunc] 99))
        have HD2 := Aside0.mk (show Below w.heap.size w v2 from hv ▸ below_alloc HD1.out (.cells #[.nilFunc, .nilFunc, .nilFunc] 99))
        have HS2 := Aside0.mk (show v2.heap.size = v1.heap.size + 1 from hv ▸ World.size_alloc _ _)
        clear hv
        refine hK.out _ _ ((blk_cell HL2.out 0).trans rfl) (fun hHeld => ?_)
        clear hK K
        refine norm_ (a' := ?_) ?_ ?_
        rotate_left
        · simp only [Act.put, List.setIfInBounds_toArray, List.set_cons_zero, List.set_cons_succ, i64_w, i32_w]
          rfl
        refine one_ (i := 6) (N := some 18) #[true, true, true, true, true, true, true, false, true, false] rfl rfl (by kernel_rfl) (by decide) (fun K hK => ?_)
        refine goesV_ #[] Try.func85 (by kernel_rfl) rfl #[.func (.func 89) #[] #[.pointer (some ⟨(w.heap.size + 1 + 1), 0, none⟩)]] (by rfl) rfl rfl rfl (by (try simp only [List.map_toArray, List.map_cons, List.map_nil]); first | done | rfl) ?_
        refine (grdC (.func 89) #[] #[.pointer (some ⟨w.heap.size + 1 + 1, 0, none⟩)] v2).mono ?_
        rintro e v3 ⟨rfl, hv⟩
        have H2_3 := Aside0.mk (show v3.heap[v2.heap.size]? = some (.cells #[.func (.func 89) #[] #[.pointer (some ⟨(w.heap.size + 1 + 1), 0, none⟩)]] 77) from hv ▸ blk_new v2 (.cells #[.func (.func 89) #[] #[.pointer (some ⟨(w.heap.size + 1 + 1), 0, none⟩)]] 77))
        have HA3 := Aside0.mk (show v3.heap[_]? = some _ from hv ▸ blk_alloc HA2.out (.cells #[.func (.func 89) #[] #[.pointer (some ⟨(w.heap.size + 1 + 1), 0, none⟩)]] 77))
        have HB3 := Aside0.mk (show v3.heap[_]? = some _ from hv ▸ blk_alloc HB2.out (.cells #[.func (.func 89) #[] #[.pointer (some ⟨(w.heap.size + 1 + 1), 0, none⟩)]] 77))
        have HL3 := Aside0.mk (show v3.heap[_]? = some _ from hv ▸ blk_alloc HL2.out (.cells #[.func (.func 89) #[] #[.pointer (some ⟨(w.heap.size + 1 + 1), 0, none⟩)]] 77))
        have H1_3 := Aside0.mk (show v3.heap[_]? = some _ from hv ▸ blk_alloc H1_2.out (.cells #[.func (.func 89) #[] #[.pointer (some ⟨(w.heap.size + 1 + 1), 0, none⟩)]] 77))
        have HO_3 := Aside0.mk (show v3.heap[_]? = some _ from hv ▸ blk_alloc HO_2.out (.cells #[.func (.func 89) #[] #[.pointer (some ⟨(w.heap.size + 1 + 1), 0, none⟩)]] 77))
        have HD3 := Aside0.mk (show Below w.heap.size w v3 from hv ▸ below_alloc HD2.out (.cells #[.func (.func 89) #[] #[.pointer (some ⟨(w.heap.size + 1 + 1), 0, none⟩)]] 77))
        have HS3 := Aside0.mk (show v3.heap.size = v2.heap.size + 1 from hv ▸ World.size_alloc _ _)
        clear hv
        refine ⟨_, rfl, ?_⟩
        refine hK.out _ _ ((blk_cell HL3.out 0).trans rfl) (fun hHeld => ?_)
        clear hK K
        refine norm_ (a' := ?_) ?_ ?_
        rotate_left
        · simp only [Act.put, List.setIfInBounds_toArray, List.set_cons_zero, List.set_cons_succ, i64_w, i32_w]
          rfl
        refine pure_ (i := 7) (N := some 19) (v := ?_) (a' := ?_) #[true, true, true, true, true, true, true, true, true, false] rfl rfl (by kernel_rfl) (fun _ _ _ h => h) (Or.inl ⟨by rfl, ?_⟩) ?_ ?_
        rotate_left
        · intro w'
          go_simp
          with_reducible rfl
        rotate_left
        · simp only [Act.put, List.setIfInBounds_toArray, List.set_cons_zero, List.set_cons_succ, i64_w, i32_w]
          rfl
        exact hJ (v0.heap.size, v2.heap.size, v1.heap.size) _ ⟨⟨HA3.out, HB3.out, HL3.out⟩, ⟨H1_3.out, H2_3.out, HO_3.out⟩, ⟨by have := HS1.out; have := HS2.out; have := HS3.out; show v0.heap.size ≠ v1.heap.size; omega, by have := HS1.out; have := HS2.out; have := HS3.out; show v2.heap.size ≠ v1.heap.size; omega, by have := HZ0.out; have := HS1.out; have := HS2.out; show w.heap.size + 3 ≤ v1.heap.size; omega⟩, HD3.out⟩
    · refine value_ (v := .pointer (some ⟨v0.heap.size, 0, none⟩)) (w1 := v0.alloc (.cells #[.nilFunc, .nilFunc, .nilFunc] 99)) (by rfl) rfl (by first | (go_simp; done) | (go_simp; rfl)) ?_
      obtain ⟨v1, hv⟩ : ∃ v, v0.alloc (.cells #[.nilFunc, .nilFunc, .nilFunc] 99) = v := ⟨_, rfl⟩
      rw [hv]
      have HO_1 := Aside0.mk (show v1.heap[v0.heap.size]? = some (.cells #[.nilFunc, .nilFunc, .nilFunc] 99) from hv ▸ blk_new v0 (.cells #[.nilFunc, .nilFunc, .nilFunc] 99))
      have HA1 := Aside0.mk (show v1.heap[_]? = some _ from hv ▸ blk_alloc HA0.out (.cells #[.nilFunc, .nilFunc, .nilFunc] 99))
      have HB1 := Aside0.mk (show v1.heap[_]? = some _ from hv ▸ blk_alloc HB0.out (.cells #[.nilFunc, .nilFunc, .nilFunc] 99))
      have HL1 := Aside0.mk (show v1.heap[_]? = some _ from hv ▸ blk_alloc HL0.out (.cells #[.nilFunc, .nilFunc, .nilFunc] 99))
      have HD1 := Aside0.mk (show Below w.heap.size w v1 from hv ▸ below_alloc HD0.out (.cells #[.nilFunc, .nilFunc, .nilFunc] 99))
      have HS1 := Aside0.mk (show v1.heap.size = v0.heap.size + 1 from hv ▸ World.size_alloc _ _)
      clear hv
      refine hK.out _ _ ((blk_cell HL1.out 0).trans rfl) (fun hHeld => ?_)
      clear hK K
      refine norm_ (a' := ?_) ?_ ?_
      rotate_left
      · simp only [Act.put, List.setIfInBounds_toArray, List.set_cons_zero, List.set_cons_succ, i64_w, i32_w]
        rfl
      refine one_ (i := 3) (N := some 15) #[true, true, true, true, true, true, false, false, true, false] rfl rfl (by kernel_rfl) (by decide) (fun K hK => ?_)
      refine goesV_ #[] Try.func85 (by kernel_rfl) rfl #[.func (.func 83) #[] #[]] (by rfl) rfl rfl rfl (by (try simp only [List.map_toArray, List.map_cons, List.map_nil]); first | done | rfl) ?_
      refine (grdC (.func 83) #[] #[] v1).mono ?_
      rintro e v2 ⟨rfl, hv⟩
      have H1_2 := Aside0.mk (show v2.heap[v1.heap.size]? = some (.cells #[.func (.func 83) #[] #[]] 77) from hv ▸ blk_new v1 (.cells #[.func (.func 83) #[] #[]] 77))
      have HA2 := Aside0.mk (show v2.heap[_]? = some _ from hv ▸ blk_alloc HA1.out (.cells #[.func (.func 83) #[] #[]] 77))
      have HB2 := Aside0.mk (show v2.heap[_]? = some _ from hv ▸ blk_alloc HB1.out (.cells #[.func (.func 83) #[] #[]] 77))
      have HL2 := Aside0.mk (show v2.heap[_]? = some _ from hv ▸ blk_alloc HL1.out (.cells #[.func (.func 83) #[] #[]] 77))
      have HO_2 := Aside0.mk (show v2.heap[_]? = some _ from hv ▸ blk_alloc HO_1.out (.cells #[.func (.func 83) #[] #[]] 77))
      have HD2 := Aside0.mk (show Below w.heap.size w v2 from hv ▸ below_alloc HD1.out (.cells #[.func (.func 83) #[] #[]] 77))
      have HS2 := Aside0.mk (show v2.heap.size = v1.heap.size + 1 from hv ▸ World.size_alloc _ _)
      clear hv
      refine ⟨_, rfl, ?_⟩
      refine hK.out _ _ ((blk_cell HL2.out 0).trans rfl) (fun hHeld => ?_)
      clear hK K
      refine norm_ (a' := ?_) ?_ ?_
      rotate_left
      · simp only [Act.put, List.setIfInBounds_toArray, List.set_cons_zero, List.set_cons_succ, i64_w, i32_w]
        rfl
      refine one_ (i := 6) (N := some 18) #[true, true, true, true, true, true, true, false, true, false] rfl rfl (by kernel_rfl) (by decide) (fun K hK => ?_)
      refine goesV_ #[] Try.func85 (by kernel_rfl) rfl #[.func (.func 89) #[] #[.pointer (some ⟨(w.heap.size + 1 + 1), 0, none⟩)]] (by rfl) rfl rfl rfl (by (try simp only [List.map_toArray, List.map_cons, List.map_nil]); first | done | rfl) ?_
      refine (grdC (.func 89) #[] #[.pointer (some ⟨w.heap.size + 1 + 1, 0, none⟩)] v2).mono ?_
      rintro e v3 ⟨rfl, hv⟩
      have H2_3 := Aside0.mk (show v3.heap[v2.heap.size]? = some (.cells #[.func (.func 89) #[] #[.pointer (some ⟨(w.heap.size + 1 + 1), 0, none⟩)]] 77) from hv ▸ blk_new v2 (.cells #[.func (.func 89) #[] #[.pointer (some ⟨(w.heap.size + 1 + 1), 0, none⟩)]] 77))
      have HA3 := Aside0.mk (show v3.heap[_]? = some _ from hv ▸ blk_alloc HA2.out (.cells #[.func (.func 89) #[] #[.pointer (some ⟨(w.heap.size + 1 + 1), 0, none⟩)]] 77))
      have HB3 := Aside0.mk (show v3.heap[_]? = some _ from hv ▸ blk_alloc HB2.out (.cells #[.func (.func 89) #[] #[.pointer (some ⟨(w.heap.size + 1 + 1), 0, none⟩)]] 77))
      have HL3 := Aside0.mk (show v3.heap[_]? = some _ from hv ▸ blk_alloc HL2.out (.cells #[.func (.func 89) #[] #[.pointer (some ⟨(w.heap.size + 1 + 1), 0, none⟩)]] 77))
      have HO_3 := Aside0.mk (show v3.heap[_]? = some _ from hv ▸ blk_alloc HO_2.out (.cells #[.func (.func 89) #[] #[.pointer (some ⟨(w.heap.size + 1 + 1), 0, none⟩)]] 77))
      have H1_3 := Aside0.mk (show v3.heap[_]? = some _ from hv ▸ blk_alloc H1_2.out (.cells #[.func (.func 89) #[] #[.pointer (some ⟨(w.heap.size + 1 + 1), 0, none⟩)]] 77))
      have HD3 := Aside0.mk (show Below w.heap.size w v3 from hv ▸ below_alloc HD2.out (.cells #[.func (.func 89) #[] #[.pointer (some ⟨(w.heap.size + 1 + 1), 0, none⟩)]] 77))
      have HS3 := Aside0.mk (show v3.heap.size = v2.heap.size + 1 from hv ▸ World.size_alloc _ _)
      clear hv
      refine ⟨_, rfl, ?_⟩
      refine hK.out _ _ ((blk_cell HL3.out 0).trans rfl) (fun hHeld => ?_)
      clear hK K
      refine norm_ (a' := ?_) ?_ ?_
      rotate_left
      · simp only [Act.put, List.setIfInBounds_toArray, List.set_cons_zero, List.set_cons_succ, i64_w, i32_w]
        rfl
      refine pure_ (i := 7) (N := some 19) (v := ?_) (a' := ?_) #[true, true, true, true, true, true, true, true, true, false] rfl rfl (by kernel_rfl) (fun _ _ _ h => h) (Or.inl ⟨by rfl, ?_⟩) ?_ ?_
      rotate_left
      · intro w'
        go_simp
        with_reducible rfl
      rotate_left
      · simp only [Act.put, List.setIfInBounds_toArray, List.set_cons_zero, List.set_cons_succ, i64_w, i32_w]
        rfl
      exact hJ (v1.heap.size, v2.heap.size, v0.heap.size) _ ⟨⟨HA3.out, HB3.out, HL3.out⟩, ⟨H1_3.out, H2_3.out, HO_3.out⟩, ⟨by have := HS1.out; have := HS2.out; have := HS3.out; show v1.heap.size ≠ v0.heap.size; omega, by have := HS1.out; have := HS2.out; have := HS3.out; show v2.heap.size ≠ v0.heap.size; omega, by have := HZ0.out; have := HS1.out; have := HS2.out; show w.heap.size + 3 ≤ v0.heap.size; omega⟩, HD3.out⟩
  rintro ⟨g1, g2, go⟩ v1 ⟨⟨ha, hb, hl⟩, ⟨h1, h2, ho⟩, ⟨n1, n2, n3⟩, hd⟩
  have HA1 := Aside0.mk ha
  have HB1 := Aside0.mk hb
  have HL1 := Aside0.mk hl
  have H11 := Aside0.mk h1
  have H21 := Aside0.mk h2
  have HO1 := Aside0.mk ho
  have HD1 := Aside0.mk hd
  have HN := Aside0.mk (show g1 ≠ go ∧ g2 ≠ go ∧ w.heap.size + 3 ≤ go from ⟨n1, n2, n3⟩)
  clear ha hb hl h1 h2 ho hd n1 n2 n3 hHeld HA0 HB0 HL0 HD0 HZ0
  refine norm_ (a' := ?_) ?_ ?_
  rotate_left
  · simp only [putAll, Act.put, List.setIfInBounds_toArray, List.set_cons_zero, List.set_cons_succ, i64_w, i32_w]
    rfl
  refine last_ (i := 9) (N := none) #[true, true, true, true, true, true, true, true, true, true] rfl rfl (by kernel_rfl) (by decide) (fun K hK => ?_)
  have hf0 := blk_frozen HO1.out 0
  have hc0 : v1.cell? ⟨go, 0, none⟩ = some .nilFunc := (blk_cell HO1.out 0).trans rfl
  have hf1 := blk_frozen HO1.out 1
  have hc1 : v1.cell? ⟨go, 1, none⟩ = some .nilFunc := (blk_cell HO1.out 1).trans rfl
  have hf2 := blk_frozen HO1.out 2
  have hc2 : v1.cell? ⟨go, 2, none⟩ = some .nilFunc := (blk_cell HO1.out 2).trans rfl
  refine skip_ (w1 := ?_) (by rfl) rfl ?_ ?_
  rotate_left
  · go_simp
    rfl
  refine hK.out _ _ ?_
  clear hK K
  refine done_ (by kernel_rfl) ?_
  have HA2 := Aside0.mk (blk_far (blk_far (blk_far HA1.out (p := ⟨go, 0, none⟩) (by have := HN.out.2.2; show w.heap.size ≠ go; omega) (.func (.func 83) #[] #[])) (p := ⟨go, 1, none⟩) (by have := HN.out.2.2; show w.heap.size ≠ go; omega) (.func (.func 86) #[] #[.pointer (some ⟨g1, 0, none⟩)])) (p := ⟨go, 2, none⟩) (by have := HN.out.2.2; show w.heap.size ≠ go; omega) (.func (.func 86) #[] #[.pointer (some ⟨g2, 0, none⟩)]))
  have HB2 := Aside0.mk (blk_far (blk_far (blk_far HB1.out (p := ⟨go, 0, none⟩) (by have := HN.out.2.2; show w.heap.size + 1 ≠ go; omega) (.func (.func 83) #[] #[])) (p := ⟨go, 1, none⟩) (by have := HN.out.2.2; show w.heap.size + 1 ≠ go; omega) (.func (.func 86) #[] #[.pointer (some ⟨g1, 0, none⟩)])) (p := ⟨go, 2, none⟩) (by have := HN.out.2.2; show w.heap.size + 1 ≠ go; omega) (.func (.func 86) #[] #[.pointer (some ⟨g2, 0, none⟩)]))
  have HL2 := Aside0.mk (blk_far (blk_far (blk_far HL1.out (p := ⟨go, 0, none⟩) (by have := HN.out.2.2; show w.heap.size + 1 + 1 ≠ go; omega) (.func (.func 83) #[] #[])) (p := ⟨go, 1, none⟩) (by have := HN.out.2.2; show w.heap.size + 1 + 1 ≠ go; omega) (.func (.func 86) #[] #[.pointer (some ⟨g1, 0, none⟩)])) (p := ⟨go, 2, none⟩) (by have := HN.out.2.2; show w.heap.size + 1 + 1 ≠ go; omega) (.func (.func 86) #[] #[.pointer (some ⟨g2, 0, none⟩)]))
  have H12 := Aside0.mk (blk_far (blk_far (blk_far H11.out (p := ⟨go, 0, none⟩) HN.out.1 (.func (.func 83) #[] #[])) (p := ⟨go, 1, none⟩) HN.out.1 (.func (.func 86) #[] #[.pointer (some ⟨g1, 0, none⟩)])) (p := ⟨go, 2, none⟩) HN.out.1 (.func (.func 86) #[] #[.pointer (some ⟨g2, 0, none⟩)]))
  have H22 := Aside0.mk (blk_far (blk_far (blk_far H21.out (p := ⟨go, 0, none⟩) HN.out.2.1 (.func (.func 83) #[] #[])) (p := ⟨go, 1, none⟩) HN.out.2.1 (.func (.func 86) #[] #[.pointer (some ⟨g1, 0, none⟩)])) (p := ⟨go, 2, none⟩) HN.out.2.1 (.func (.func 86) #[] #[.pointer (some ⟨g2, 0, none⟩)]))
  have HO2 := Aside0.mk (blk_put (cs' := #[.func (.func 83) #[] #[], .func (.func 86) #[] #[.pointer (some ⟨g1, 0, none⟩)], .func (.func 86) #[] #[.pointer (some ⟨g2, 0, none⟩)]]) (blk_put (cs' := #[.func (.func 83) #[] #[], .func (.func 86) #[] #[.pointer (some ⟨g1, 0, none⟩)], .nilFunc]) (blk_put (cs' := #[.func (.func 83) #[] #[], .nilFunc, .nilFunc]) HO1.out 0 (.func (.func 83) #[] #[]) rfl) 1 (.func (.func 86) #[] #[.pointer (some ⟨g1, 0, none⟩)]) rfl) 2 (.func (.func 86) #[] #[.pointer (some ⟨g2, 0, none⟩)]) rfl)
  have HD2 := Aside0.mk (below_set (g := go) (j := 2) (v := .func (.func 86) #[] #[.pointer (some ⟨g2, 0, none⟩)]) (below_set (g := go) (j := 1) (v := .func (.func 86) #[] #[.pointer (some ⟨g1, 0, none⟩)]) (below_set (g := go) (j := 0) (v := .func (.func 83) #[] #[]) HD1.out (by have := HN.out.2.2; omega)) (by have := HN.out.2.2; omega)) (by have := HN.out.2.2; omega))
  generalize ((v1.setCell ⟨go, 0, none⟩ (.func (.func 83) #[] #[])).setCell ⟨go, 1, none⟩ (.func (.func 86) #[] #[.pointer (some ⟨g1, 0, none⟩)])).setCell ⟨go, 2, none⟩ (.func (.func 86) #[] #[.pointer (some ⟨g2, 0, none⟩)]) = v2 at HA2 HB2 HL2 H12 H22 HO2 HD2 ⊢
  clear hf0 hf1 hf2 hc0 hc1 hc2 HA1 HB1 HL1 H11 H21 HO1 HD1 v1
  have ca0 : v2.cell? ⟨w.heap.size, 0, none⟩ = some (.int .i64 x0) := (blk_cell HA2.out 0).trans rfl
  have ca1 : v2.cell? ⟨w.heap.size, 1, none⟩ = some (.int .i64 x1) := (blk_cell HA2.out 1).trans rfl
  have ca2 : v2.cell? ⟨w.heap.size, 2, none⟩ = some (.int .i64 x2) := (blk_cell HA2.out 2).trans rfl
  have ca3 : v2.cell? ⟨w.heap.size, 3, none⟩ = some (.int .i64 x3) := (blk_cell HA2.out 3).trans rfl
  have cb0 : v2.cell? ⟨w.heap.size + 1, 0, none⟩ = some (.int .i64 y0) := (blk_cell HB2.out 0).trans rfl
  have cb1 : v2.cell? ⟨w.heap.size + 1, 1, none⟩ = some (.int .i64 y1) := (blk_cell HB2.out 1).trans rfl
  have cb2 : v2.cell? ⟨w.heap.size + 1, 2, none⟩ = some (.int .i64 y2) := (blk_cell HB2.out 2).trans rfl
  have cb3 : v2.cell? ⟨w.heap.size + 1, 3, none⟩ = some (.int .i64 y3) := (blk_cell HB2.out 3).trans rfl
  go_wp2_with fail
  cases ha : mays x0 x1 x2 x3 with
  | false =>
    refine (mono_May.calls x0 x1 x2 x3 _ _ rfl).mono ?_
    rw [ha]
    rintro e v3 ⟨rfl, hb⟩
    have HA3 := Aside0.mk (blk_below HA2.out hb)
    have HB3 := Aside0.mk (blk_below HB2.out hb)
    have HL3 := Aside0.mk (blk_below HL2.out hb)
    have H13 := Aside0.mk (blk_below H12.out hb)
    have H23 := Aside0.mk (blk_below H22.out hb)
    have HO3 := Aside0.mk (blk_below HO2.out hb)
    have HD3 := Aside0.mk (below_step HD2.out hb)
    clear hb ca0 ca1 ca2 ca3 cb0 cb1 cb2 cb3
    clear HA2 HB2 HL2 H12 H22 HO2 HD2 v2
    go_wp2
    go_ret
    exact ⟨by rw [← HRES.out]; simp [mcmp, ha], HD3.out⟩
    
  | true =>
    refine (mono_May.calls x0 x1 x2 x3 _ _ rfl).mono ?_
    rw [ha]
    rintro e v3 ⟨rfl, hb⟩
    have HA3 := Aside0.mk (blk_below HA2.out hb)
    have HB3 := Aside0.mk (blk_below HB2.out hb)
    have HL3 := Aside0.mk (blk_below HL2.out hb)
    have H13 := Aside0.mk (blk_below H12.out hb)
    have H23 := Aside0.mk (blk_below H22.out hb)
    have HO3 := Aside0.mk (blk_below HO2.out hb)
    have HD3 := Aside0.mk (below_step HD2.out hb)
    clear hb ca0 ca1 ca2 ca3 cb0 cb1 cb2 cb3
    clear HA2 HB2 HL2 H12 H22 HO2 HD2 v2
    have ca0 : v3.cell? ⟨w.heap.size, 0, none⟩ = some (.int .i64 x0) := (blk_cell HA3.out 0).trans rfl
    have ca1 : v3.cell? ⟨w.heap.size, 1, none⟩ = some (.int .i64 x1) := (blk_cell HA3.out 1).trans rfl
    have ca2 : v3.cell? ⟨w.heap.size, 2, none⟩ = some (.int .i64 x2) := (blk_cell HA3.out 2).trans rfl
    have ca3 : v3.cell? ⟨w.heap.size, 3, none⟩ = some (.int .i64 x3) := (blk_cell HA3.out 3).trans rfl
    have cb0 : v3.cell? ⟨w.heap.size + 1, 0, none⟩ = some (.int .i64 y0) := (blk_cell HB3.out 0).trans rfl
    have cb1 : v3.cell? ⟨w.heap.size + 1, 1, none⟩ = some (.int .i64 y1) := (blk_cell HB3.out 1).trans rfl
    have cb2 : v3.cell? ⟨w.heap.size + 1, 2, none⟩ = some (.int .i64 y2) := (blk_cell HB3.out 2).trans rfl
    have cb3 : v3.cell? ⟨w.heap.size + 1, 3, none⟩ = some (.int .i64 y3) := (blk_cell HB3.out 3).trans rfl
    go_wp2_with fail
    cases hb : mays y0 y1 y2 y3 with
    | false =>
      refine (mono_May.calls y0 y1 y2 y3 _ _ rfl).mono ?_
      rw [hb]
      rintro e v4 ⟨rfl, hb⟩
      have HA4 := Aside0.mk (blk_below HA3.out hb)
      have HB4 := Aside0.mk (blk_below HB3.out hb)
      have HL4 := Aside0.mk (blk_below HL3.out hb)
      have H14 := Aside0.mk (blk_below H13.out hb)
      have H24 := Aside0.mk (blk_below H23.out hb)
      have HO4 := Aside0.mk (blk_below HO3.out hb)
      have HD4 := Aside0.mk (below_step HD3.out hb)
      clear hb ca0 ca1 ca2 ca3 cb0 cb1 cb2 cb3
      clear HA3 HB3 HL3 H13 H23 HO3 HD3 v3
      go_wp2
      go_ret
      exact ⟨by rw [← HRES.out]; simp [mcmp, ha, hb], HD4.out⟩
      
    | true =>
      refine (mono_May.calls y0 y1 y2 y3 _ _ rfl).mono ?_
      rw [hb]
      rintro e v4 ⟨rfl, hb⟩
      have HA4 := Aside0.mk (blk_below HA3.out hb)
      have HB4 := Aside0.mk (blk_below HB3.out hb)
      have HL4 := Aside0.mk (blk_below HL3.out hb)
      have H14 := Aside0.mk (blk_below H13.out hb)
      have H24 := Aside0.mk (blk_below H23.out hb)
      have HO4 := Aside0.mk (blk_below HO3.out hb)
      have HD4 := Aside0.mk (below_step HD3.out hb)
      clear hb ca0 ca1 ca2 ca3 cb0 cb1 cb2 cb3
      clear HA3 HB3 HL3 H13 H23 HO3 HD3 v3
      have ca0 : v4.cell? ⟨w.heap.size, 0, none⟩ = some (.int .i64 x0) := (blk_cell HA4.out 0).trans rfl
      have ca1 : v4.cell? ⟨w.heap.size, 1, none⟩ = some (.int .i64 x1) := (blk_cell HA4.out 1).trans rfl
      have ca2 : v4.cell? ⟨w.heap.size, 2, none⟩ = some (.int .i64 x2) := (blk_cell HA4.out 2).trans rfl
      have ca3 : v4.cell? ⟨w.heap.size, 3, none⟩ = some (.int .i64 x3) := (blk_cell HA4.out 3).trans rfl
      have cb0 : v4.cell? ⟨w.heap.size + 1, 0, none⟩ = some (.int .i64 y0) := (blk_cell HB4.out 0).trans rfl
      have cb1 : v4.cell? ⟨w.heap.size + 1, 1, none⟩ = some (.int .i64 y1) := (blk_cell HB4.out 1).trans rfl
      have cb2 : v4.cell? ⟨w.heap.size + 1, 2, none⟩ = some (.int .i64 y2) := (blk_cell HB4.out 2).trans rfl
      have cb3 : v4.cell? ⟨w.heap.size + 1, 3, none⟩ = some (.int .i64 y3) := (blk_cell HB4.out 3).trans rfl
      by_cases o1 : o < 0
      · have t1 : decide (o < 0) = true := decide_eq_true o1
        have HQ := Aside0.mk o1
        clear o1
        go_wp2
        go_ret
        exact ⟨by have := HQ.out; rw [← HRES.out]; simp [mcmp, ha, hb, show ¬ o = 0 by omega, show ¬ o = 1 by omega, show ¬ o = 2 by omega], HD4.out⟩
      · have t1 : decide (o < 0) = false := decide_eq_false o1
        by_cases o2 : 3 ≤ o
        · have t2 : decide (3 ≤ o) = true := decide_eq_true o2
          have HQ := Aside0.mk o2
          clear o1 o2
          go_wp2
          go_ret
          exact ⟨by have := HQ.out; rw [← HRES.out]; simp [mcmp, ha, hb, show ¬ o = 0 by omega, show ¬ o = 1 by omega, show ¬ o = 2 by omega], HD4.out⟩
        · have o3 : o = 0 ∨ o = 1 ∨ o = 2 := by omega
          clear t1 o1 o2
          rcases o3 with rfl | rfl | rfl
          · go_wp2
            refine start_ (n := 7) (S := fun w' => w'.cell? ⟨go, 0, none⟩ = some (.func (.func 83) #[] #[]) ∧ w'.cell? ⟨w.heap.size, 0, none⟩ = some (.int .i64 x0) ∧ w'.cell? ⟨w.heap.size, 1, none⟩ = some (.int .i64 x1) ∧ w'.cell? ⟨w.heap.size, 2, none⟩ = some (.int .i64 x2) ∧ w'.cell? ⟨w.heap.size, 3, none⟩ = some (.int .i64 x3) ∧ w'.cell? ⟨w.heap.size + 1, 0, none⟩ = some (.int .i64 y0) ∧ w'.cell? ⟨w.heap.size + 1, 1, none⟩ = some (.int .i64 y1) ∧ w'.cell? ⟨w.heap.size + 1, 2, none⟩ = some (.int .i64 y2) ∧ w'.cell? ⟨w.heap.size + 1, 3, none⟩ = some (.int .i64 y3)) (ds := [5]) #[false, false, false, false, false, false, false] (by kernel_rfl) rfl rfl ⟨(blk_cell (blk_drew HO4.out) 0).trans rfl, (blk_cell (blk_drew HA4.out) 0).trans rfl, (blk_cell (blk_drew HA4.out) 1).trans rfl, (blk_cell (blk_drew HA4.out) 2).trans rfl, (blk_cell (blk_drew HA4.out) 3).trans rfl, (blk_cell (blk_drew HB4.out) 0).trans rfl, (blk_cell (blk_drew HB4.out) 1).trans rfl, (blk_cell (blk_drew HB4.out) 2).trans rfl, (blk_cell (blk_drew HB4.out) 3).trans rfl⟩ (fun hHeld => ?_)
            have HL := Aside0.mk (blk_drew HL4.out)
            have H1 := Aside0.mk (blk_drew H14.out)
            have H2 := Aside0.mk (blk_drew H24.out)
            have HD := Aside0.mk (below_drew HD4.out)
            generalize v4.drew = u0 at HL H1 H2 HD hHeld ⊢
            clear HA4 HB4 HL4 H14 H24 HO4 HD4 ca0 ca1 ca2 ca3 cb0 cb1 cb2 cb3 v4
            refine pure_ (i := 0) (N := some 36) (v := ?_) (a' := ?_) #[true, false, false, false, false, false, false] rfl rfl (by kernel_rfl) (fun _ _ _ h => h) (Or.inl ⟨by rfl, ?_⟩) ?_ ?_
            rotate_left
            · intro w'
              go_simp
              with_reducible rfl
            rotate_left
            · simp only [Act.put, List.setIfInBounds_toArray, List.set_cons_zero, List.set_cons_succ, i64_w, i32_w]
              rfl
            refine pure_ (i := 1) (N := some 37) (v := ?_) (a' := ?_) #[true, true, false, false, false, false, false] rfl rfl (by kernel_rfl) (fun _ _ _ h => h) (Or.inl ⟨by rfl, ?_⟩) ?_ ?_
            rotate_left
            · intro w'
              go_simp
              with_reducible rfl
            rotate_left
            · simp only [Act.put, List.setIfInBounds_toArray, List.set_cons_zero, List.set_cons_succ, i64_w, i32_w]
              rfl
            refine take_ (i := 2) (N := some 38) (v := ?_) (a' := ?_) #[true, true, true, false, false, false, false] rfl rfl (by kernel_rfl) (fun _ _ _ h => h) (Or.inl ⟨by rfl, ?_⟩) hHeld ?_ ?_
            rotate_left
            · rintro w' ⟨s0_, s1_, s2_, s3_, s4_, s5_, s6_, s7_, s8_⟩
              go_simp
              with_reducible rfl
            rotate_left
            · simp only [Act.put, List.setIfInBounds_toArray, List.set_cons_zero, List.set_cons_succ, i64_w, i32_w]
              rfl
            refine take_ (i := 3) (N := some 39) (v := ?_) (a' := ?_) #[true, true, true, true, false, false, false] rfl rfl (by kernel_rfl) (fun _ _ _ h => h) (Or.inl ⟨by rfl, ?_⟩) hHeld ?_ ?_
            rotate_left
            · rintro w' ⟨s0_, s1_, s2_, s3_, s4_, s5_, s6_, s7_, s8_⟩
              go_simp
              with_reducible rfl
            rotate_left
            · simp only [Act.put, List.setIfInBounds_toArray, List.set_cons_zero, List.set_cons_succ, i64_w, i32_w]
              rfl
            refine take_ (i := 4) (N := some 40) (v := ?_) (a' := ?_) #[true, true, true, true, true, false, false] rfl rfl (by kernel_rfl) (fun _ _ _ h => h) (Or.inl ⟨by rfl, ?_⟩) hHeld ?_ ?_
            rotate_left
            · rintro w' ⟨s0_, s1_, s2_, s3_, s4_, s5_, s6_, s7_, s8_⟩
              go_simp
              with_reducible rfl
            rotate_left
            · simp only [Act.put, List.setIfInBounds_toArray, List.set_cons_zero, List.set_cons_succ, i64_w, i32_w]
              rfl
            refine last_ (i := 5) (N := some 41) #[true, true, true, true, true, true, false] rfl rfl (by kernel_rfl) (by decide) (fun K hK => ?_)
            refine goesV_ #[] Try.func83 (by kernel_rfl) rfl #[.agg #[.int .i64 x0, .int .i64 x1, .int .i64 x2, .int .i64 x3], .agg #[.int .i64 y0, .int .i64 y1, .int .i64 y2, .int .i64 y3]] (by rfl) rfl rfl rfl (by (try simp only [List.map_toArray, List.map_cons, List.map_nil]); first | done | rfl) ?_
            refine (lexC x0 x1 x2 x3 y0 y1 y2 y3 u0).mono ?_
            rintro e u1 ⟨rfl, hb⟩
            have HE := Aside0.mk (below_step HD.out hb)
            clear hb
            refine ⟨_, rfl, ?_⟩
            refine hK.out _ _ ?_
            clear hK K
            refine norm_ (a' := ?_) ?_ ?_
            rotate_left
            · simp only [Act.put, List.setIfInBounds_toArray, List.set_cons_zero, List.set_cons_succ, i64_w, i32_w]
              rfl
            refine pure_ (i := 6) (N := some 6) (v := ?_) (a' := ?_) #[true, true, true, true, true, true, true] rfl rfl (by kernel_rfl) (fun _ _ _ h => h) (Or.inl ⟨by rfl, ?_⟩) ?_ ?_
            rotate_left
            · intro w'
              go_simp
              with_reducible rfl
            rotate_left
            · simp only [Act.put, List.setIfInBounds_toArray, List.set_cons_zero, List.set_cons_succ, i64_w, i32_w]
              rfl
            refine done_ (by kernel_rfl) ?_
            go_wp2
            go_ret
            exact ⟨by rw [← HRES.out]; simp [mcmp, ha, hb], HE.out⟩
          · go_wp2
            refine start_ (n := 7) (S := fun w' => w'.cell? ⟨go, 1, none⟩ = some (.func (.func 86) #[] #[.pointer (some ⟨g1, 0, none⟩)]) ∧ w'.cell? ⟨w.heap.size, 0, none⟩ = some (.int .i64 x0) ∧ w'.cell? ⟨w.heap.size, 1, none⟩ = some (.int .i64 x1) ∧ w'.cell? ⟨w.heap.size, 2, none⟩ = some (.int .i64 x2) ∧ w'.cell? ⟨w.heap.size, 3, none⟩ = some (.int .i64 x3) ∧ w'.cell? ⟨w.heap.size + 1, 0, none⟩ = some (.int .i64 y0) ∧ w'.cell? ⟨w.heap.size + 1, 1, none⟩ = some (.int .i64 y1) ∧ w'.cell? ⟨w.heap.size + 1, 2, none⟩ = some (.int .i64 y2) ∧ w'.cell? ⟨w.heap.size + 1, 3, none⟩ = some (.int .i64 y3)) (ds := [5]) #[false, false, false, false, false, false, false] (by kernel_rfl) rfl rfl ⟨(blk_cell (blk_drew HO4.out) 1).trans rfl, (blk_cell (blk_drew HA4.out) 0).trans rfl, (blk_cell (blk_drew HA4.out) 1).trans rfl, (blk_cell (blk_drew HA4.out) 2).trans rfl, (blk_cell (blk_drew HA4.out) 3).trans rfl, (blk_cell (blk_drew HB4.out) 0).trans rfl, (blk_cell (blk_drew HB4.out) 1).trans rfl, (blk_cell (blk_drew HB4.out) 2).trans rfl, (blk_cell (blk_drew HB4.out) 3).trans rfl⟩ (fun hHeld => ?_)
            have HL := Aside0.mk (blk_drew HL4.out)
            have H1 := Aside0.mk (blk_drew H14.out)
            have H2 := Aside0.mk (blk_drew H24.out)
            have HD := Aside0.mk (below_drew HD4.out)
            generalize v4.drew = u0 at HL H1 H2 HD hHeld ⊢
            clear HA4 HB4 HL4 H14 H24 HO4 HD4 ca0 ca1 ca2 ca3 cb0 cb1 cb2 cb3 v4
            refine pure_ (i := 0) (N := some 36) (v := ?_) (a' := ?_) #[true, false, false, false, false, false, false] rfl rfl (by kernel_rfl) (fun _ _ _ h => h) (Or.inl ⟨by rfl, ?_⟩) ?_ ?_
            rotate_left
            · intro w'
              go_simp
              with_reducible rfl
            rotate_left
            · simp only [Act.put, List.setIfInBounds_toArray, List.set_cons_zero, List.set_cons_succ, i64_w, i32_w]
              rfl
            refine pure_ (i := 1) (N := some 37) (v := ?_) (a' := ?_) #[true, true, false, false, false, false, false] rfl rfl (by kernel_rfl) (fun _ _ _ h => h) (Or.inl ⟨by rfl, ?_⟩) ?_ ?_
            rotate_left
            · intro w'
              go_simp
              with_reducible rfl
            rotate_left
            · simp only [Act.put, List.setIfInBounds_toArray, List.set_cons_zero, List.set_cons_succ, i64_w, i32_w]
              rfl
            refine take_ (i := 2) (N := some 38) (v := ?_) (a' := ?_) #[true, true, true, false, false, false, false] rfl rfl (by kernel_rfl) (fun _ _ _ h => h) (Or.inl ⟨by rfl, ?_⟩) hHeld ?_ ?_
            rotate_left
            · rintro w' ⟨s0_, s1_, s2_, s3_, s4_, s5_, s6_, s7_, s8_⟩
              go_simp
              with_reducible rfl
            rotate_left
            · simp only [Act.put, List.setIfInBounds_toArray, List.set_cons_zero, List.set_cons_succ, i64_w, i32_w]
              rfl
            refine take_ (i := 3) (N := some 39) (v := ?_) (a' := ?_) #[true, true, true, true, false, false, false] rfl rfl (by kernel_rfl) (fun _ _ _ h => h) (Or.inl ⟨by rfl, ?_⟩) hHeld ?_ ?_
            rotate_left
            · rintro w' ⟨s0_, s1_, s2_, s3_, s4_, s5_, s6_, s7_, s8_⟩
              go_simp
              with_reducible rfl
            rotate_left
            · simp only [Act.put, List.setIfInBounds_toArray, List.set_cons_zero, List.set_cons_succ, i64_w, i32_w]
              rfl
            refine take_ (i := 4) (N := some 40) (v := ?_) (a' := ?_) #[true, true, true, true, true, false, false] rfl rfl (by kernel_rfl) (fun _ _ _ h => h) (Or.inl ⟨by rfl, ?_⟩) hHeld ?_ ?_
            rotate_left
            · rintro w' ⟨s0_, s1_, s2_, s3_, s4_, s5_, s6_, s7_, s8_⟩
              go_simp
              with_reducible rfl
            rotate_left
            · simp only [Act.put, List.setIfInBounds_toArray, List.set_cons_zero, List.set_cons_succ, i64_w, i32_w]
              rfl
            refine last_ (i := 5) (N := some 41) #[true, true, true, true, true, true, false] rfl rfl (by kernel_rfl) (by decide) (fun K hK => ?_)
            refine goesV_ #[.pointer (some ⟨g1, 0, none⟩)] Try.func86 (by kernel_rfl) rfl #[.agg #[.int .i64 x0, .int .i64 x1, .int .i64 x2, .int .i64 x3], .agg #[.int .i64 y0, .int .i64 y1, .int .i64 y2, .int .i64 y3], .pointer (some ⟨g1, 0, none⟩)] (by rfl) rfl rfl rfl (by (try simp only [List.map_toArray, List.map_cons, List.map_nil]); first | done | rfl) ?_
            refine (grdLex g1 x0 x1 x2 x3 y0 y1 y2 y3 u0 H1.out).mono ?_
            rintro e u1 ⟨rfl, hb⟩
            have HE := Aside0.mk (below_step HD.out hb)
            clear hb
            refine ⟨_, rfl, ?_⟩
            refine hK.out _ _ ?_
            clear hK K
            refine norm_ (a' := ?_) ?_ ?_
            rotate_left
            · simp only [Act.put, List.setIfInBounds_toArray, List.set_cons_zero, List.set_cons_succ, i64_w, i32_w]
              rfl
            refine pure_ (i := 6) (N := some 6) (v := ?_) (a' := ?_) #[true, true, true, true, true, true, true] rfl rfl (by kernel_rfl) (fun _ _ _ h => h) (Or.inl ⟨by rfl, ?_⟩) ?_ ?_
            rotate_left
            · intro w'
              go_simp
              with_reducible rfl
            rotate_left
            · simp only [Act.put, List.setIfInBounds_toArray, List.set_cons_zero, List.set_cons_succ, i64_w, i32_w]
              rfl
            refine done_ (by kernel_rfl) ?_
            go_wp2
            go_ret
            exact ⟨by rw [← HRES.out]; simp [mcmp, ha, hb], HE.out⟩
          · go_wp2
            refine start_ (n := 7) (S := fun w' => w'.cell? ⟨go, 2, none⟩ = some (.func (.func 86) #[] #[.pointer (some ⟨g2, 0, none⟩)]) ∧ w'.cell? ⟨w.heap.size, 0, none⟩ = some (.int .i64 x0) ∧ w'.cell? ⟨w.heap.size, 1, none⟩ = some (.int .i64 x1) ∧ w'.cell? ⟨w.heap.size, 2, none⟩ = some (.int .i64 x2) ∧ w'.cell? ⟨w.heap.size, 3, none⟩ = some (.int .i64 x3) ∧ w'.cell? ⟨w.heap.size + 1, 0, none⟩ = some (.int .i64 y0) ∧ w'.cell? ⟨w.heap.size + 1, 1, none⟩ = some (.int .i64 y1) ∧ w'.cell? ⟨w.heap.size + 1, 2, none⟩ = some (.int .i64 y2) ∧ w'.cell? ⟨w.heap.size + 1, 3, none⟩ = some (.int .i64 y3)) (ds := [5]) #[false, false, false, false, false, false, false] (by kernel_rfl) rfl rfl ⟨(blk_cell (blk_drew HO4.out) 2).trans rfl, (blk_cell (blk_drew HA4.out) 0).trans rfl, (blk_cell (blk_drew HA4.out) 1).trans rfl, (blk_cell (blk_drew HA4.out) 2).trans rfl, (blk_cell (blk_drew HA4.out) 3).trans rfl, (blk_cell (blk_drew HB4.out) 0).trans rfl, (blk_cell (blk_drew HB4.out) 1).trans rfl, (blk_cell (blk_drew HB4.out) 2).trans rfl, (blk_cell (blk_drew HB4.out) 3).trans rfl⟩ (fun hHeld => ?_)
            have HL := Aside0.mk (blk_drew HL4.out)
            have H1 := Aside0.mk (blk_drew H14.out)
            have H2 := Aside0.mk (blk_drew H24.out)
            have HD := Aside0.mk (below_drew HD4.out)
            generalize v4.drew = u0 at HL H1 H2 HD hHeld ⊢
            clear HA4 HB4 HL4 H14 H24 HO4 HD4 ca0 ca1 ca2 ca3 cb0 cb1 cb2 cb3 v4
            refine pure_ (i := 0) (N := some 36) (v := ?_) (a' := ?_) #[true, false, false, false, false, false, false] rfl rfl (by kernel_rfl) (fun _ _ _ h => h) (Or.inl ⟨by rfl, ?_⟩) ?_ ?_
            rotate_left
            · intro w'
              go_simp
              with_reducible rfl
            rotate_left
            · simp only [Act.put, List.setIfInBounds_toArray, List.set_cons_zero, List.set_cons_succ, i64_w, i32_w]
              rfl
            refine pure_ (i := 1) (N := some 37) (v := ?_) (a' := ?_) #[true, true, false, false, false, false, false] rfl rfl (by kernel_rfl) (fun _ _ _ h => h) (Or.inl ⟨by rfl, ?_⟩) ?_ ?_
            rotate_left
            · intro w'
              go_simp
              with_reducible rfl
            rotate_left
            · simp only [Act.put, List.setIfInBounds_toArray, List.set_cons_zero, List.set_cons_succ, i64_w, i32_w]
              rfl
            refine take_ (i := 2) (N := some 38) (v := ?_) (a' := ?_) #[true, true, true, false, false, false, false] rfl rfl (by kernel_rfl) (fun _ _ _ h => h) (Or.inl ⟨by rfl, ?_⟩) hHeld ?_ ?_
            rotate_left
            · rintro w' ⟨s0_, s1_, s2_, s3_, s4_, s5_, s6_, s7_, s8_⟩
              go_simp
              with_reducible rfl
            rotate_left
            · simp only [Act.put, List.setIfInBounds_toArray, List.set_cons_zero, List.set_cons_succ, i64_w, i32_w]
              rfl
            refine take_ (i := 3) (N := some 39) (v := ?_) (a' := ?_) #[true, true, true, true, false, false, false] rfl rfl (by kernel_rfl) (fun _ _ _ h => h) (Or.inl ⟨by rfl, ?_⟩) hHeld ?_ ?_
            rotate_left
            · rintro w' ⟨s0_, s1_, s2_, s3_, s4_, s5_, s6_, s7_, s8_⟩
              go_simp
              with_reducible rfl
            rotate_left
            · simp only [Act.put, List.setIfInBounds_toArray, List.set_cons_zero, List.set_cons_succ, i64_w, i32_w]
              rfl
            refine take_ (i := 4) (N := some 40) (v := ?_) (a' := ?_) #[true, true, true, true, true, false, false] rfl rfl (by kernel_rfl) (fun _ _ _ h => h) (Or.inl ⟨by rfl, ?_⟩) hHeld ?_ ?_
            rotate_left
            · rintro w' ⟨s0_, s1_, s2_, s3_, s4_, s5_, s6_, s7_, s8_⟩
              go_simp
              with_reducible rfl
            rotate_left
            · simp only [Act.put, List.setIfInBounds_toArray, List.set_cons_zero, List.set_cons_succ, i64_w, i32_w]
              rfl
            refine last_ (i := 5) (N := some 41) #[true, true, true, true, true, true, false] rfl rfl (by kernel_rfl) (by decide) (fun K hK => ?_)
            refine goesV_ #[.pointer (some ⟨g2, 0, none⟩)] Try.func86 (by kernel_rfl) rfl #[.agg #[.int .i64 x0, .int .i64 x1, .int .i64 x2, .int .i64 x3], .agg #[.int .i64 y0, .int .i64 y1, .int .i64 y2, .int .i64 y3], .pointer (some ⟨g2, 0, none⟩)] (by rfl) rfl rfl rfl (by (try simp only [List.map_toArray, List.map_cons, List.map_nil]); first | done | rfl) ?_
            refine (grdRev g2 (w.heap.size + 1 + 1) x0 x1 x2 x3 y0 y1 y2 y3 u0 H2.out HL.out).mono ?_
            rintro e u1 ⟨rfl, hb⟩
            have HE := Aside0.mk (below_step HD.out hb)
            clear hb
            refine ⟨_, rfl, ?_⟩
            refine hK.out _ _ ?_
            clear hK K
            refine norm_ (a' := ?_) ?_ ?_
            rotate_left
            · simp only [Act.put, List.setIfInBounds_toArray, List.set_cons_zero, List.set_cons_succ, i64_w, i32_w]
              rfl
            refine pure_ (i := 6) (N := some 6) (v := ?_) (a' := ?_) #[true, true, true, true, true, true, true] rfl rfl (by kernel_rfl) (fun _ _ _ h => h) (Or.inl ⟨by rfl, ?_⟩) ?_ ?_
            rotate_left
            · intro w'
              go_simp
              with_reducible rfl
            rotate_left
            · simp only [Act.put, List.setIfInBounds_toArray, List.set_cons_zero, List.set_cons_succ, i64_w, i32_w]
              rfl
            refine done_ (by kernel_rfl) ?_
            go_wp2
            go_ret
            exact ⟨by rw [← HRES.out]; simp [mcmp, ha, hb], HE.out⟩

end Go.Proofs.Ytfoickaangjmnaa.POQueueAll
