-- printed (pr.py)
import Derived.Test.YtoganbmeedimiaaGreatPOPressOnex9
namespace Go.Proofs.YtoganbmeedimiaaGreat.POPressOne
open Go.RowKit Go.Proofs.YtoganbmeedimiaaGreatN Go.Proofs.YtoganbmeedimiaaGreatW.PrintWords Go.Proofs.YtoganbmeedimiaaGreatW.PrintLast Go.Proofs.YtoganbmeedimiaaGreatW.PrintMore
attribute [local go_sem] zV zR qA zy vZ vY zU zQ
set_option maxHeartbeats 8000000
set_option maxRecDepth 100000
set_option linter.unusedVariables false
set_option linter.unusedSimpArgs false
theorem row4 {g : Nat} {x0 x1 x2 x3 : Int} {t : TypeId} {w : World} (hb : w.heap[g]? = some (.cells #[.int .i64 x0, .int .i64 x1, .int .i64 x2, .int .i64 x3] t (0, 0))) : Kd.C (Kd.int .i64) w (some ⟨g, 0, none⟩) 4 [x0, x1, x2, x3] := by
 have key : ∀ (q : Nat) (v : Value), (#[.int .i64 x0, .int .i64 x1, .int .i64 x2, .int .i64 x3] : Array Value)[q]? = some v → w.cell? ⟨g, q, none⟩ = some v := fun q v hv => (jB hb q).trans hv
 have one : ∀ (q : Nat) (x : Int), (#[.int .i64 x0, .int .i64 x1, .int .i64 x2, .int .i64 x3] : Array Value)[q]? = some (.int .i64 x) → ∃ c : List Value, c.length = (Kd.int .i64).sz ∧ (Kd.int .i64).K w x c ∧ ∀ i u, c[i]? = some u → w.cell? (Addr.add ⟨g, 0, none⟩ (q * (Kd.int .i64).sz + i)) = some u := by
  intro q x hq
  refine ⟨[.int .i64 x], rfl, rfl, fun i u hu => ?_⟩
  cases i with
  | zero =>
   obtain rfl := Option.some.inj hu
   have := key q _ hq
   have e : Addr.add ⟨g, 0, none⟩ (q * (Kd.int .i64).sz + 0) = ⟨g, q, none⟩ := by
    by_cases h0 : q = 0 <;> simp [Addr.add, Kd.int, Kd.scalar, h0]
   rw [e]; exact this
  | succ i => cases hu
 refine ⟨rfl, by decide, fun _ => ⟨⟨g, 0, none⟩, rfl, fun j p hj => ?_⟩⟩
 match j, hj with
 | 0, hj => obtain rfl := Option.some.inj hj; exact one 0 _ rfl
 | 1, hj => obtain rfl := Option.some.inj hj; exact one 1 _ rfl
 | 2, hj => obtain rfl := Option.some.inj hj; exact one 2 _ rfl
 | 3, hj => obtain rfl := Option.some.inj hj; exact one 3 _ rfl
theorem row2 {g : Nat} {x0 x1 : Int} {t : TypeId} {w : World} (hb : w.heap[g]? = some (.cells #[.int .i64 x0, .int .i64 x1] t (0, 0))) : Kd.C (Kd.int .i64) w (some ⟨g, 0, none⟩) 2 [x0, x1] := by
 have key : ∀ (q : Nat) (v : Value), (#[.int .i64 x0, .int .i64 x1] : Array Value)[q]? = some v → w.cell? ⟨g, q, none⟩ = some v := fun q v hv => (jB hb q).trans hv
 have one : ∀ (q : Nat) (x : Int), (#[.int .i64 x0, .int .i64 x1] : Array Value)[q]? = some (.int .i64 x) → ∃ c : List Value, c.length = (Kd.int .i64).sz ∧ (Kd.int .i64).K w x c ∧ ∀ i u, c[i]? = some u → w.cell? (Addr.add ⟨g, 0, none⟩ (q * (Kd.int .i64).sz + i)) = some u := by
  intro q x hq
  refine ⟨[.int .i64 x], rfl, rfl, fun i u hu => ?_⟩
  cases i with
  | zero =>
   obtain rfl := Option.some.inj hu
   have := key q _ hq
   have e : Addr.add ⟨g, 0, none⟩ (q * (Kd.int .i64).sz + 0) = ⟨g, q, none⟩ := by
    by_cases h0 : q = 0 <;> simp [Addr.add, Kd.int, Kd.scalar, h0]
   rw [e]; exact this
  | succ i => cases hu
 refine ⟨rfl, by decide, fun _ => ⟨⟨g, 0, none⟩, rfl, fun j p hj => ?_⟩⟩
 match j, hj with
 | 0, hj => obtain rfl := Option.some.inj hj; exact one 0 _ rfl
 | 1, hj => obtain rfl := Option.some.inj hj; exact one 1 _ rfl
theorem jBt {P : Program} {ops : Array Oper} {Q : Exit → Act → World → Prop} {oi : Oper} {N : Option Tmp} {a : Act} {w : World} {K : Act → World → Prop} {f : FuncId} {fn : Func} {t : Tmp} {as_ : Array Operand} {ts : Array TypeId} (cap : Array Value) (hf : P.funcs[f]? = some fn) (hname : (fn.name == "runtime.NumGoroutine") = false) (hb : fn.body.isSome = true) (args : Array Value)
  (hw : Region.wanted oi (yielded ops a.tmps) = true) (hN : oi.dst = N) (hop : oi.op = .call { callee := .value (.tmp t), args := as_, argTypes := ts }) (hv : a.eval (.tmp t) = .func (.func f) #[] cap) (hargs : as_.map a.eval ++ cap = args)
  (h : Calls P f args w fun e w' => ∃ v, e = .returned v ∧ K (a.put N v) w') : if Region.wanted oi (yielded ops a.tmps) = true then Oper.wp P oi a w K Q else K (a.put N undef) w := by
 refine call_ f args hw hN ?_ h
 have he := jFX hf hname hb args w
 unfold execOp
 simp [hop, resolve, Deferred.ofValue, invoke, hv, hargs, he]
def cmpi (x y : Int) : Int := if x < y then -1 else if y < x then 1 else 0
def lexv (x0 x1 x2 x3 y0 y1 y2 y3 : Int) : Int := if cmpi x0 y0 = 0 then (if cmpi x1 y1 = 0 then (if cmpi x2 y2 = 0 then cmpi x3 y3 else cmpi x2 y2) else cmpi x1 y1) else cmpi x0 y0
theorem jAo (x y : Int) : cmp_Compare_int.f x y = some (cmpi x y) := by
 unfold cmp_Compare_int.f cmp_isNaN_int.f cmpi
 simp only [Option.bind_some]
 rw [if_neg (by simp), if_neg (by simp)]
 split
 ·
  rfl
 split <;> rfl
theorem jNK (x0 x1 x2 x3 y0 y1 y2 y3 : Int) : jY.f 5 [x0, x1, x2, x3] [y0, y1, y2, y3] = some (lexv x0 x1 x2 x3 y0 y1 y2 y3) := by
 unfold jY.f lexv
 have r0 : ∀ z0 z1 z2 z3 : Int, rd [z0, z1, z2, z3] 0 = z0 := fun _ _ _ _ => rfl
 have r1 : ∀ z0 z1 z2 z3 : Int, rd [z0, z1, z2, z3] 1 = z1 := fun _ _ _ _ => rfl
 have r2 : ∀ z0 z1 z2 z3 : Int, rd [z0, z1, z2, z3] 2 = z2 := fun _ _ _ _ => rfl
 have r3 : ∀ z0 z1 z2 z3 : Int, rd [z0, z1, z2, z3] 3 = z3 := fun _ _ _ _ => rfl
 have w0 : wrap64 (0 + 1) = 1 := by unfold wrap64; omega
 have w1 : wrap64 (1 + 1) = 2 := by unfold wrap64; omega
 have w2 : wrap64 (2 + 1) = 3 := by unfold wrap64; omega
 have w3 : wrap64 (3 + 1) = 4 := by unfold wrap64; omega
 simp only [jY.l0, jAo, Option.bind_some, List.length_cons, List.length_nil, r0, r1, r2, r3, w0, w1, w2, w3]
 by_cases h0 : cmpi x0 y0 = 0 <;> by_cases h1 : cmpi x1 y1 = 0 <;> by_cases h2 : cmpi x2 y2 = 0 <;> by_cases h3 : cmpi x3 y3 = 0 <;> simp [h0, h1, h2, h3]
def or2 (x y : Int) : Int := if x = 0 then y else x
theorem Or2 (x y : Int) : zA.f 3 [x, y] = some (or2 x y) := by
 unfold zA.f or2
 have r0 : rd [x, y] 0 = x := rfl
 have r1 : rd [x, y] 1 = y := rfl
 have w0 : wrap64 (0 + 1) = 1 := by unfold wrap64; omega
 have w1 : wrap64 (1 + 1) = 2 := by unfold wrap64; omega
 simp only [zA.l0, List.length_cons, List.length_nil, r0, r1, w0, w1]
 by_cases h0 : x = 0 <;> by_cases h1 : y = 0 <;> simp [h0, h1]
set_option maxHeartbeats 4000000 in
theorem lexC (x0 x1 x2 x3 y0 y1 y2 y3 : Int) (w : World) :
  Calls Tryz.prog 76 #[.agg #[.int .i64 x0, .int .i64 x1, .int .i64 x2, .int .i64 x3], .agg #[.int .i64 y0, .int .i64 y1, .int .i64 y2, .int .i64 y3]] w fun e w' => e = .returned (.int .i64 (lexv x0 x1 x2 x3 y0 y1 y2 y3)) ∧ Below w.heap.size w w' := by
 have hA := jO (vD w (.cells #[.int .i64 x0, .int .i64 x1, .int .i64 x2, .int .i64 x3] 35)) (.cells #[.int .i64 y0, .int .i64 y1, .int .i64 y2, .int .i64 y3] 35)
 have hB := vD (w.alloc (.cells #[.int .i64 x0, .int .i64 x1, .int .i64 x2, .int .i64 x3] 35)) (.cells #[.int .i64 y0, .int .i64 y1, .int .i64 y2, .int .i64 y3] 35)
 rw [World.size_alloc] at hB
 have HA := jA.mk hA
 have HB := jA.mk hB
 have HD := jA.mk (jQ (jQ (Below.refl _ w) (.cells #[.int .i64 x0, .int .i64 x1, .int .i64 x2, .int .i64 x3] 35)) (.cells #[.int .i64 y0, .int .i64 y1, .int .i64 y2, .int .i64 y3] 35))
 clear hA hB
 go_enter Tryz.func76, Tryz.ntmps76
 go_wp2
 generalize (w.alloc (.cells #[.int .i64 x0, .int .i64 x1, .int .i64 x2, .int .i64 x3] 35)).alloc (.cells #[.int .i64 y0, .int .i64 y1, .int .i64 y2, .int .i64 y3] 35) = w1 at HA HB HD ⊢
 refine zw (n := 4) (S := fun w' => True) (ds := []) #[false, false, false, false] kr_ rfl rfl trivial (fun hHeld => ?_)
 have HA1 := jA.mk (jI HA.out)
 have HB1 := jA.mk (jI HB.out)
 have HD1 := jA.mk (jv HD.out)
 generalize w1.drew = w2 at HA1 HB1 HD1 hHeld ⊢
 clear HA HB HD w1
 refine pu_ 0 (some 5) (ba_ 4 1) kr_ ?_
 refine pu_ 1 (some 6) (ba_ 4 3) kr_ ?_
 refine one_ (i := 2) (N := some 7) (ba_ 4 7) rfl rfl kr_ (by decide) (fun K hK => ?_)
 refine jAX Tryz.func77 kr_ rfl #[.slice (some ⟨w.heap.size, 0, none⟩) 4 4, .slice (some ⟨w.heap.size + 1, 0, none⟩) 4 4] (by rfl) rfl rfl (by (try simp only [List.map_toArray, List.map_cons, List.map_nil]); first | done | rfl) ?_
 refine (jY.calls 5 _ _ _ _ _ _ _ _ (row4 HA1.out) (Nat.le_refl 4) (row4 HB1.out) (Nat.le_refl 4) (jNK _ _ _ _ _ _ _ _)).mono ?_
 rintro e w' ⟨rfl, ⟨nd, rfl⟩⟩
 refine ⟨_, rfl, ?_⟩
 refine hK.out _ _ trivial (fun hHeld => ?_)
 clear hK K
 refine nm_ ?_
 refine pu_ 3 (some 4) (ba_ 4 15) kr_ ?_
 refine jAR kr_ ?_
 go_wp2
 go_ret
 exact ⟨rfl, by repeat (first | exact HD1.out | apply vH)⟩
set_option maxHeartbeats 4000000 in
theorem Rev4 (g : Nat) (t : TypeId) (x0 x1 x2 x3 : Int) (w : World) (hb : w.heap[g]? = some (.cells #[.int .i64 x0, .int .i64 x1, .int .i64 x2, .int .i64 x3] t (0, 0))) :
  Calls Tryz.prog 84 #[.slice (some ⟨g, 0, none⟩) 4 4] w fun e w' => e = .returned (.tuple #[]) ∧ w'.heap[g]? = some (.cells #[.int .i64 x3, .int .i64 x2, .int .i64 x1, .int .i64 x0] t (0, 0)) ∧ (∀ B v, B ≤ g → Below B v w → Below B v w') ∧ ∀ k o, k ≠ g → w.heap[k]? = some o → w'.heap[k]? = some o := by
 have HB0 := jA.mk hb
 have HL0 := jA.mk (show ∀ B v, B ≤ g → Below B v w → Below B v w from fun _ _ _ h => h)
 have HK0 := jA.mk (show ∀ k o, k ≠ g → w.heap[k]? = some o → w.heap[k]? = some o from fun _ _ _ h => h)
 clear hb
 go_enter Tryz.func84, Tryz.ntmps84
 go_wp2
 refine wp_loop_rounds 3 ?_
 rw [rounds_succ]
 go_wp2
 refine zw (n := 16) (S := fun w' => w'.cell? ⟨g, 0, none⟩ = some (.int .i64 x0) ∧ w'.cell? ⟨g, 3, none⟩ = some (.int .i64 x3)) (ds := [13, 15]) #[false, false, false, false, false, false, false, false, false, false, false, false, false, false, false, false] kr_ rfl rfl ⟨(jB (jI HB0.out) 0).trans rfl, (jB (jI HB0.out) 3).trans rfl⟩ (fun hHeld => ?_)
 have HB := jA.mk (jI HB0.out)
 have HL := jA.mk (show ∀ B v, B ≤ g → Below B v w → Below B v w.drew from fun B v h1 h2 => jv (HL0.out B v h1 h2))
 have HK := jA.mk (show ∀ k o, k ≠ g → w.heap[k]? = some o → w.drew.heap[k]? = some o from HK0.out)
 generalize w.drew = u0 at HB HL HK hHeld ⊢
 clear HB0 HL0 HK0
 refine pu_ 0 (some 14) (ba_ 16 1) kr_ ?_
 refine pu_ 1 (some 15) (ba_ 16 3) kr_ ?_
 refine pu_ 2 (some 16) (ba_ 16 7) kr_ ?_
 refine pu_ 3 (some 17) (ba_ 16 15) kr_ ?_
 refine pu_ 4 (some 18) (ba_ 16 31) kr_ ?_
 refine pu_ 5 (some 19) (ba_ 16 63) kr_ ?_
 refine pu_ 8 (some 22) (ba_ 16 319) kr_ ?_
 refine pu_ 9 (some 23) (ba_ 16 831) kr_ ?_
 refine pu_ 6 (some 20) (ba_ 16 895) kr_ ?_
 refine pu_ 10 (some 24) (ba_ 16 1919) kr_ ?_
 refine tk2_ 7 (some 21) (ba_ 16 2047) kr_ hHeld ?_
 refine tk2_ 11 (some 25) (ba_ 16 4095) kr_ hHeld ?_
 refine pu_ 12 (some 26) (ba_ 16 8191) kr_ ?_
 refine jAh (i := 13) (N := none) (ba_ 16 16383) rfl rfl kr_ (by decide) (fun K hK => ?_)
 have hf := jP HB.out 0
 refine jAq (w1 := ?_) (by rfl) rfl ?_ ?_
 rotate_left
 ·
  go_simp
  rfl
 refine hK.out _ _ ?_
 clear hK K
 refine pu_ 14 (some 27) (ba_ 16 32767) kr_ ?_
 refine jAh (i := 15) (N := none) (ba_ 16 65535) rfl rfl kr_ (by decide) (fun K hK => ?_)
 have hf := jP (jM (cs' := #[.int .i64 x3, .int .i64 x1, .int .i64 x2, .int .i64 x3]) HB.out 0 (.int .i64 x3) rfl) 3
 refine jAq (w1 := ?_) (by rfl) rfl ?_ ?_
 rotate_left
 ·
  go_simp
  rfl
 refine hK.out _ _ ?_
 clear hK K
 refine jAR kr_ ?_
 go_wp2
 have HB1 := jA.mk (jM (cs' := #[.int .i64 x3, .int .i64 x1, .int .i64 x2, .int .i64 x0]) (jM (cs' := #[.int .i64 x3, .int .i64 x1, .int .i64 x2, .int .i64 x3]) HB.out 0 (.int .i64 x3) rfl) 3 (.int .i64 x0) rfl)
 have HL1 := jA.mk (show ∀ B v, B ≤ g → Below B v w → Below B v ((u0.setCell ⟨g, 0, none⟩ (.int .i64 x3)).setCell ⟨g, 3, none⟩ (.int .i64 x0)) from fun B v h1 h2 => ((HL.out B v h1 h2).setCell h1 _).setCell h1 _)
 have HK1 := jA.mk (show ∀ k o, k ≠ g → w.heap[k]? = some o → ((u0.setCell ⟨g, 0, none⟩ (.int .i64 x3)).setCell ⟨g, 3, none⟩ (.int .i64 x0)).heap[k]? = some o from fun k o h1 h2 => ((Below.heap_setCell _ _ _ k h1).trans (Below.heap_setCell _ _ _ k h1)).trans (HK.out k o h1 h2))
 generalize (u0.setCell ⟨g, 0, none⟩ (.int .i64 x3)).setCell ⟨g, 3, none⟩ (.int .i64 x0) = v1 at HB1 HL1 HK1 ⊢
 clear HB HL HK
 rw [rounds_succ]
 go_wp2
 refine zw (n := 16) (S := fun w' => w'.cell? ⟨g, 1, none⟩ = some (.int .i64 x1) ∧ w'.cell? ⟨g, 2, none⟩ = some (.int .i64 x2)) (ds := [13, 15]) #[false, false, false, false, false, false, false, false, false, false, false, false, false, false, false, false] kr_ rfl rfl ⟨(jB (jI HB1.out) 1).trans rfl, (jB (jI HB1.out) 2).trans rfl⟩ (fun hHeld => ?_)
 have HB := jA.mk (jI HB1.out)
 have HL := jA.mk (show ∀ B v, B ≤ g → Below B v w → Below B v v1.drew from fun B v h1 h2 => jv (HL1.out B v h1 h2))
 have HK := jA.mk (show ∀ k o, k ≠ g → w.heap[k]? = some o → v1.drew.heap[k]? = some o from HK1.out)
 generalize v1.drew = u1 at HB HL HK hHeld ⊢
 clear HB1 HL1 HK1
 refine pu_ 0 (some 14) (ba_ 16 1) kr_ ?_
 refine pu_ 1 (some 15) (ba_ 16 3) kr_ ?_
 refine pu_ 2 (some 16) (ba_ 16 7) kr_ ?_
 refine pu_ 3 (some 17) (ba_ 16 15) kr_ ?_
 refine pu_ 4 (some 18) (ba_ 16 31) kr_ ?_
 refine pu_ 5 (some 19) (ba_ 16 63) kr_ ?_
 refine pu_ 8 (some 22) (ba_ 16 319) kr_ ?_
 refine pu_ 9 (some 23) (ba_ 16 831) kr_ ?_
 refine pu_ 6 (some 20) (ba_ 16 895) kr_ ?_
 refine pu_ 10 (some 24) (ba_ 16 1919) kr_ ?_
 refine tk2_ 7 (some 21) (ba_ 16 2047) kr_ hHeld ?_
 refine tk2_ 11 (some 25) (ba_ 16 4095) kr_ hHeld ?_
 refine pu_ 12 (some 26) (ba_ 16 8191) kr_ ?_
 refine jAh (i := 13) (N := none) (ba_ 16 16383) rfl rfl kr_ (by decide) (fun K hK => ?_)
 have hf := jP HB.out 1
 refine jAq (w1 := ?_) (by rfl) rfl ?_ ?_
 rotate_left
 ·
  go_simp
  rfl
 refine hK.out _ _ ?_
 clear hK K
 refine pu_ 14 (some 27) (ba_ 16 32767) kr_ ?_
 refine jAh (i := 15) (N := none) (ba_ 16 65535) rfl rfl kr_ (by decide) (fun K hK => ?_)
 have hf := jP (jM (cs' := #[.int .i64 x3, .int .i64 x2, .int .i64 x2, .int .i64 x0]) HB.out 1 (.int .i64 x2) rfl) 2
 refine jAq (w1 := ?_) (by rfl) rfl ?_ ?_
 rotate_left
 ·
  go_simp
  rfl
 refine hK.out _ _ ?_
 clear hK K
 refine jAR kr_ ?_
 go_wp2
 have HB2 := jA.mk (jM (cs' := #[.int .i64 x3, .int .i64 x2, .int .i64 x1, .int .i64 x0]) (jM (cs' := #[.int .i64 x3, .int .i64 x2, .int .i64 x2, .int .i64 x0]) HB.out 1 (.int .i64 x2) rfl) 2 (.int .i64 x1) rfl)
 have HL2 := jA.mk (show ∀ B v, B ≤ g → Below B v w → Below B v ((u1.setCell ⟨g, 1, none⟩ (.int .i64 x2)).setCell ⟨g, 2, none⟩ (.int .i64 x1)) from fun B v h1 h2 => ((HL.out B v h1 h2).setCell h1 _).setCell h1 _)
 have HK2 := jA.mk (show ∀ k o, k ≠ g → w.heap[k]? = some o → ((u1.setCell ⟨g, 1, none⟩ (.int .i64 x2)).setCell ⟨g, 2, none⟩ (.int .i64 x1)).heap[k]? = some o from fun k o h1 h2 => ((Below.heap_setCell _ _ _ k h1).trans (Below.heap_setCell _ _ _ k h1)).trans (HK.out k o h1 h2))
 generalize (u1.setCell ⟨g, 1, none⟩ (.int .i64 x2)).setCell ⟨g, 2, none⟩ (.int .i64 x1) = v2 at HB2 HL2 HK2 ⊢
 clear HB HL HK
 rw [rounds_succ]
 go_wp2
 go_end0
 exact ⟨rfl, HB2.out, HL2.out, HK2.out⟩
set_option maxHeartbeats 4000000 in
theorem revC (gl : Nat) (x0 x1 x2 x3 y0 y1 y2 y3 : Int) (w : World) (hl : w.heap[gl]? = some (.cells #[.func (.func 76) #[] #[]] 105 (0, 0))) :
  Calls Tryz.prog 83 #[.agg #[.int .i64 x0, .int .i64 x1, .int .i64 x2, .int .i64 x3], .agg #[.int .i64 y0, .int .i64 y1, .int .i64 y2, .int .i64 y3], .pointer (some ⟨gl, 0, none⟩)] w fun e w' => e = .returned (.int .i64 (lexv y3 y2 y1 y0 x3 x2 x1 x0)) ∧ Below w.heap.size w w' := by
 have HL := jA.mk (jO (jO hl (.cells #[.int .i64 x0, .int .i64 x1, .int .i64 x2, .int .i64 x3] 35)) (.cells #[.int .i64 y0, .int .i64 y1, .int .i64 y2, .int .i64 y3] 35))
 have HN := jA.mk (qG hl)
 clear hl
 have hA := jO (vD w (.cells #[.int .i64 x0, .int .i64 x1, .int .i64 x2, .int .i64 x3] 35)) (.cells #[.int .i64 y0, .int .i64 y1, .int .i64 y2, .int .i64 y3] 35)
 have hB := vD (w.alloc (.cells #[.int .i64 x0, .int .i64 x1, .int .i64 x2, .int .i64 x3] 35)) (.cells #[.int .i64 y0, .int .i64 y1, .int .i64 y2, .int .i64 y3] 35)
 rw [World.size_alloc] at hB
 have HA := jA.mk hA
 have HB := jA.mk hB
 have HD := jA.mk (jQ (jQ (Below.refl _ w) (.cells #[.int .i64 x0, .int .i64 x1, .int .i64 x2, .int .i64 x3] 35)) (.cells #[.int .i64 y0, .int .i64 y1, .int .i64 y2, .int .i64 y3] 35))
 clear hA hB
 go_enter Tryz.func83, Tryz.ntmps83
 go_wp2_with fail
 generalize (w.alloc (.cells #[.int .i64 x0, .int .i64 x1, .int .i64 x2, .int .i64 x3] 35)).alloc (.cells #[.int .i64 y0, .int .i64 y1, .int .i64 y2, .int .i64 y3] 35) = w1 at HA HB HD HL ⊢
 refine (Rev4 w.heap.size 35 x0 x1 x2 x3 _ HA.out).mono ?_
 rintro e w2 ⟨rfl, ha, hd, hk⟩
 have HA2 := jA.mk ha
 have HB2 := jA.mk (hk _ _ (by omega) HB.out)
 have HL2 := jA.mk (hk _ _ (by have := HN.out; omega) HL.out)
 have HD2 := jA.mk (hd _ _ (Nat.le_refl _) HD.out)
 clear ha hd hk HA HB HL HD w1
 go_wp2_with fail
 refine (Rev4 (w.heap.size + 1) 35 y0 y1 y2 y3 _ HB2.out).mono ?_
 rintro e w3 ⟨rfl, hb, hd, hk⟩
 have HA3 := jA.mk (hk _ _ (by omega) HA2.out)
 have HB3 := jA.mk hb
 have HL3 := jA.mk (hk _ _ (by have := HN.out; omega) HL2.out)
 have HD3 := jA.mk (hd _ _ (Nat.le_succ _) HD2.out)
 clear hb hd hk HA2 HB2 HL2 HD2 w2
 have cl : w3.cell? ⟨gl, 0, none⟩ = some (.func (.func 76) #[] #[]) := (jB HL3.out 0).trans rfl
 have ca0 : w3.cell? ⟨w.heap.size, 0, none⟩ = some (.int .i64 x3) := (jB HA3.out 0).trans rfl
 have ca1 : w3.cell? ⟨w.heap.size, 1, none⟩ = some (.int .i64 x2) := (jB HA3.out 1).trans rfl
 have ca2 : w3.cell? ⟨w.heap.size, 2, none⟩ = some (.int .i64 x1) := (jB HA3.out 2).trans rfl
 have ca3 : w3.cell? ⟨w.heap.size, 3, none⟩ = some (.int .i64 x0) := (jB HA3.out 3).trans rfl
 have cb0 : w3.cell? ⟨w.heap.size + 1, 0, none⟩ = some (.int .i64 y3) := (jB HB3.out 0).trans rfl
 have cb1 : w3.cell? ⟨w.heap.size + 1, 1, none⟩ = some (.int .i64 y2) := (jB HB3.out 1).trans rfl
 have cb2 : w3.cell? ⟨w.heap.size + 1, 2, none⟩ = some (.int .i64 y1) := (jB HB3.out 2).trans rfl
 have cb3 : w3.cell? ⟨w.heap.size + 1, 3, none⟩ = some (.int .i64 y0) := (jB HB3.out 3).trans rfl
 go_wp2_with fail
 refine (lexC y3 y2 y1 y0 x3 x2 x1 x0 _).mono ?_
 rintro e w4 ⟨rfl, hb⟩
 have HD4 := jA.mk (jG HD3.out hb)
 clear hb
 go_wp2
 go_ret
 exact ⟨rfl, HD4.out⟩
theorem jQN (gt : Nat) (x0 x1 x2 x3 y0 y1 y2 y3 : Int) (w : World) (ht : w.heap[gt]? = some (.cells #[.func (.func 76) #[] #[]] 105 (0, 0))) :
  Calls Tryz.prog 79 #[.agg #[.int .i64 x0, .int .i64 x1, .int .i64 x2, .int .i64 x3], .agg #[.int .i64 y0, .int .i64 y1, .int .i64 y2, .int .i64 y3], .pointer (some ⟨gt, 0, none⟩)] w fun e w' => e = .returned (.int .i64 (or2 (cmpi (degv x0 x1 x2 x3) (degv y0 y1 y2 y3)) (lexv x0 x1 x2 x3 y0 y1 y2 y3))) ∧ Below w.heap.size w w' := by
 have HT := jA.mk (jO (jO ht (.cells #[.int .i64 x0, .int .i64 x1, .int .i64 x2, .int .i64 x3] 35)) (.cells #[.int .i64 y0, .int .i64 y1, .int .i64 y2, .int .i64 y3] 35))
 have HN := jA.mk (qG ht)
 clear ht
 have hA := jO (vD w (.cells #[.int .i64 x0, .int .i64 x1, .int .i64 x2, .int .i64 x3] 35)) (.cells #[.int .i64 y0, .int .i64 y1, .int .i64 y2, .int .i64 y3] 35)
 have hB := vD (w.alloc (.cells #[.int .i64 x0, .int .i64 x1, .int .i64 x2, .int .i64 x3] 35)) (.cells #[.int .i64 y0, .int .i64 y1, .int .i64 y2, .int .i64 y3] 35)
 rw [World.size_alloc] at hB
 have HA := jA.mk hA
 have HB := jA.mk hB
 have HD := jA.mk (jQ (jQ (Below.refl _ w) (.cells #[.int .i64 x0, .int .i64 x1, .int .i64 x2, .int .i64 x3] 35)) (.cells #[.int .i64 y0, .int .i64 y1, .int .i64 y2, .int .i64 y3] 35))
 clear hA hB
 go_enter Tryz.func79, Tryz.ntmps79
 go_wp2
 generalize (w.alloc (.cells #[.int .i64 x0, .int .i64 x1, .int .i64 x2, .int .i64 x3] 35)).alloc (.cells #[.int .i64 y0, .int .i64 y1, .int .i64 y2, .int .i64 y3] 35) = w1 at HA HB HD HT ⊢
 refine zw (n := 12) (S := fun w' => w'.cell? ⟨w.heap.size, 0, none⟩ = some (.int .i64 x0) ∧ w'.cell? ⟨w.heap.size, 1, none⟩ = some (.int .i64 x1) ∧ w'.cell? ⟨w.heap.size, 2, none⟩ = some (.int .i64 x2) ∧ w'.cell? ⟨w.heap.size, 3, none⟩ = some (.int .i64 x3) ∧ w'.cell? ⟨w.heap.size + 1, 0, none⟩ = some (.int .i64 y0) ∧ w'.cell? ⟨w.heap.size + 1, 1, none⟩ = some (.int .i64 y1) ∧ w'.cell? ⟨w.heap.size + 1, 2, none⟩ = some (.int .i64 y2) ∧ w'.cell? ⟨w.heap.size + 1, 3, none⟩ = some (.int .i64 y3) ∧ w'.cell? ⟨gt, 0, none⟩ = some (.func (.func 76) #[] #[])) (ds := []) #[false, false, false, false, false, false, false, false, false, false, false, false] kr_ rfl rfl ⟨(jB (jI HA.out) 0).trans rfl, (jB (jI HA.out) 1).trans rfl, (jB (jI HA.out) 2).trans rfl, (jB (jI HA.out) 3).trans rfl, (jB (jI HB.out) 0).trans rfl, (jB (jI HB.out) 1).trans rfl, (jB (jI HB.out) 2).trans rfl, (jB (jI HB.out) 3).trans rfl, (jB (jI HT.out) 0).trans rfl⟩ (fun hHeld => ?_)
 have HA0 := jA.mk (jI HA.out)
 have HB0 := jA.mk (jI HB.out)
 have HT0 := jA.mk (jI HT.out)
 have HD0 := jA.mk (jv HD.out)
 generalize w1.drew = v0 at HA0 HB0 HT0 HD0 hHeld ⊢
 clear HA HB HT HD w1
 refine tk9_ 0 (some 6) (ba_ 12 1) kr_ hHeld ?_
 refine tk9_ 2 (some 8) (ba_ 12 5) kr_ hHeld ?_
 refine tk9_ 5 (some 11) (ba_ 12 37) kr_ hHeld ?_
 refine tk9_ 6 (some 12) (ba_ 12 101) kr_ hHeld ?_
 refine tk9_ 7 (some 13) (ba_ 12 229) kr_ hHeld ?_
 refine one_ (i := 1) (N := some 7) (ba_ 12 231) rfl rfl kr_ (by decide) (fun K hK => ?_)
 refine jAX Tryz.func82 kr_ rfl #[.agg #[.int .i64 x0, .int .i64 x1, .int .i64 x2, .int .i64 x3]] (by rfl) rfl rfl (by (try simp only [List.map_toArray, List.map_cons, List.map_nil]); first | done | rfl) ?_
 refine (jAD.calls x0 x1 x2 x3 _ _ rfl).mono ?_
 rintro e v1 ⟨rfl, hb⟩
 have HA1 := jA.mk (jN HA0.out hb)
 have HB1 := jA.mk (jN HB0.out hb)
 have HT1 := jA.mk (jN HT0.out hb)
 have HD1 := jA.mk (jG HD0.out hb)
 clear hb
 refine ⟨_, rfl, ?_⟩
 refine hK.out _ _ ⟨(jB HA1.out 0).trans rfl, (jB HA1.out 1).trans rfl, (jB HA1.out 2).trans rfl, (jB HA1.out 3).trans rfl, (jB HB1.out 0).trans rfl, (jB HB1.out 1).trans rfl, (jB HB1.out 2).trans rfl, (jB HB1.out 3).trans rfl, (jB HT1.out 0).trans rfl⟩ (fun hHeld => ?_)
 clear hK K
 refine nm_ ?_
 refine one_ (i := 3) (N := some 9) (ba_ 12 239) rfl rfl kr_ (by decide) (fun K hK => ?_)
 refine jAX Tryz.func82 kr_ rfl #[.agg #[.int .i64 y0, .int .i64 y1, .int .i64 y2, .int .i64 y3]] (by rfl) rfl rfl (by (try simp only [List.map_toArray, List.map_cons, List.map_nil]); first | done | rfl) ?_
 refine (jAD.calls y0 y1 y2 y3 _ _ rfl).mono ?_
 rintro e v2 ⟨rfl, hb⟩
 have HA2 := jA.mk (jN HA1.out hb)
 have HB2 := jA.mk (jN HB1.out hb)
 have HT2 := jA.mk (jN HT1.out hb)
 have HD2 := jA.mk (jG HD1.out hb)
 clear hb
 refine ⟨_, rfl, ?_⟩
 refine hK.out _ _ ⟨(jB HA2.out 0).trans rfl, (jB HA2.out 1).trans rfl, (jB HA2.out 2).trans rfl, (jB HA2.out 3).trans rfl, (jB HB2.out 0).trans rfl, (jB HB2.out 1).trans rfl, (jB HB2.out 2).trans rfl, (jB HB2.out 3).trans rfl, (jB HT2.out 0).trans rfl⟩ (fun hHeld => ?_)
 clear hK K
 refine nm_ ?_
 refine one_ (i := 4) (N := some 10) (ba_ 12 255) rfl rfl kr_ (by decide) (fun K hK => ?_)
 refine jAX Tryz.func81 kr_ rfl #[.int .i64 (degv x0 x1 x2 x3), .int .i64 (degv y0 y1 y2 y3)] (by rfl) rfl rfl (by (try simp only [List.map_toArray, List.map_cons, List.map_nil]); first | done | rfl) ?_
 refine (cmp_Compare_int.calls _ _ _ _ (jAo _ _)).mono ?_
 rintro e v3 ⟨rfl, hb0⟩
 have hb := hb0.below
 have HA3 := jA.mk (jN HA2.out hb)
 have HB3 := jA.mk (jN HB2.out hb)
 have HT3 := jA.mk (jN HT2.out hb)
 have HD3 := jA.mk (jG HD2.out hb)
 clear hb hb0
 refine ⟨_, rfl, ?_⟩
 refine hK.out _ _ ⟨(jB HA3.out 0).trans rfl, (jB HA3.out 1).trans rfl, (jB HA3.out 2).trans rfl, (jB HA3.out 3).trans rfl, (jB HB3.out 0).trans rfl, (jB HB3.out 1).trans rfl, (jB HB3.out 2).trans rfl, (jB HB3.out 3).trans rfl, (jB HT3.out 0).trans rfl⟩ (fun hHeld => ?_)
 clear hK K
 refine nm_ ?_
 refine one_ (i := 8) (N := some 14) (ba_ 12 511) rfl rfl kr_ (by decide) (fun K hK => ?_)
 refine jBt #[] Tryz.func76 kr_ rfl #[.agg #[.int .i64 x0, .int .i64 x1, .int .i64 x2, .int .i64 x3], .agg #[.int .i64 y0, .int .i64 y1, .int .i64 y2, .int .i64 y3]] (by rfl) rfl rfl rfl (by (try simp only [List.map_toArray, List.map_cons, List.map_nil]); first | done | rfl) ?_
 refine (lexC x0 x1 x2 x3 y0 y1 y2 y3 _).mono ?_
 rintro e v4 ⟨rfl, hb⟩
 have HA4 := jA.mk (jN HA3.out hb)
 have HB4 := jA.mk (jN HB3.out hb)
 have HT4 := jA.mk (jN HT3.out hb)
 have HD4 := jA.mk (jG HD3.out hb)
 clear hb
 refine ⟨_, rfl, ?_⟩
 refine hK.out _ _ ⟨(jB HA4.out 0).trans rfl, (jB HA4.out 1).trans rfl, (jB HA4.out 2).trans rfl, (jB HA4.out 3).trans rfl, (jB HB4.out 0).trans rfl, (jB HB4.out 1).trans rfl, (jB HB4.out 2).trans rfl, (jB HB4.out 3).trans rfl, (jB HT4.out 0).trans rfl⟩ (fun hHeld => ?_)
 clear hK K
 refine nm_ ?_
 refine one_ (i := 9) (N := some 15) (ba_ 12 1023) rfl rfl kr_ (by decide) (fun K hK => ?_)
 refine jCM (v := .slice (some ⟨v4.heap.size, 0, none⟩) 2 2) (w1 := v4.alloc (.cells #[.int .i64 (cmpi (degv x0 x1 x2 x3) (degv y0 y1 y2 y3)), .int .i64 (lexv x0 x1 x2 x3 y0 y1 y2 y3)] 3)) (by rfl) rfl (by first | (go_simp; done) | (go_simp; rfl)) ?_
 have HR := jA.mk (vD v4 (.cells #[.int .i64 (cmpi (degv x0 x1 x2 x3) (degv y0 y1 y2 y3)), .int .i64 (lexv x0 x1 x2 x3 y0 y1 y2 y3)] 3))
 have HA5 := jA.mk (jO HA4.out (.cells #[.int .i64 (cmpi (degv x0 x1 x2 x3) (degv y0 y1 y2 y3)), .int .i64 (lexv x0 x1 x2 x3 y0 y1 y2 y3)] 3))
 have HB5 := jA.mk (jO HB4.out (.cells #[.int .i64 (cmpi (degv x0 x1 x2 x3) (degv y0 y1 y2 y3)), .int .i64 (lexv x0 x1 x2 x3 y0 y1 y2 y3)] 3))
 have HT5 := jA.mk (jO HT4.out (.cells #[.int .i64 (cmpi (degv x0 x1 x2 x3) (degv y0 y1 y2 y3)), .int .i64 (lexv x0 x1 x2 x3 y0 y1 y2 y3)] 3))
 have HD5 := jA.mk (jQ HD4.out (.cells #[.int .i64 (cmpi (degv x0 x1 x2 x3) (degv y0 y1 y2 y3)), .int .i64 (lexv x0 x1 x2 x3 y0 y1 y2 y3)] 3))
 generalize v4.alloc (.cells #[.int .i64 (cmpi (degv x0 x1 x2 x3) (degv y0 y1 y2 y3)), .int .i64 (lexv x0 x1 x2 x3 y0 y1 y2 y3)] 3) = v5 at HR HA5 HB5 HT5 HD5 ⊢
 refine hK.out _ _ ⟨(jB HA5.out 0).trans rfl, (jB HA5.out 1).trans rfl, (jB HA5.out 2).trans rfl, (jB HA5.out 3).trans rfl, (jB HB5.out 0).trans rfl, (jB HB5.out 1).trans rfl, (jB HB5.out 2).trans rfl, (jB HB5.out 3).trans rfl, (jB HT5.out 0).trans rfl⟩ (fun hHeld => ?_)
 clear hK K
 refine nm_ ?_
 refine one_ (i := 10) (N := some 16) (ba_ 12 2047) rfl rfl kr_ (by decide) (fun K hK => ?_)
 refine jAX Tryz.func80 kr_ rfl #[.slice (some ⟨v4.heap.size, 0, none⟩) 2 2] (by rfl) rfl rfl (by (try simp only [List.map_toArray, List.map_cons, List.map_nil]); first | done | rfl) ?_
 refine (zA.calls 3 _ _ _ _ _ (row2 HR.out) (Nat.le_refl 2) (Or2 _ _)).mono ?_
 rintro e v6 ⟨rfl, hb0⟩
 have hb := hb0.below
 have HA6 := jA.mk (jN HA5.out hb)
 have HB6 := jA.mk (jN HB5.out hb)
 have HT6 := jA.mk (jN HT5.out hb)
 have HD6 := jA.mk (jG HD5.out hb)
 clear hb hb0
 refine ⟨_, rfl, ?_⟩
 refine hK.out _ _ ⟨(jB HA6.out 0).trans rfl, (jB HA6.out 1).trans rfl, (jB HA6.out 2).trans rfl, (jB HA6.out 3).trans rfl, (jB HB6.out 0).trans rfl, (jB HB6.out 1).trans rfl, (jB HB6.out 2).trans rfl, (jB HB6.out 3).trans rfl, (jB HT6.out 0).trans rfl⟩ (fun hHeld => ?_)
 clear hK K
 refine nm_ ?_
 refine pu_ 11 (some 5) (ba_ 12 4095) kr_ ?_
 refine jAR kr_ ?_
 go_wp2
 go_ret
 exact ⟨rfl, HD6.out⟩
theorem jQM (gt gl : Nat) (x0 x1 x2 x3 y0 y1 y2 y3 : Int) (w : World) (ht : w.heap[gt]? = some (.cells #[.func (.func 83) #[] #[.pointer (some ⟨gl, 0, none⟩)]] 105 (0, 0))) (hl : w.heap[gl]? = some (.cells #[.func (.func 76) #[] #[]] 105 (0, 0))) :
  Calls Tryz.prog 79 #[.agg #[.int .i64 x0, .int .i64 x1, .int .i64 x2, .int .i64 x3], .agg #[.int .i64 y0, .int .i64 y1, .int .i64 y2, .int .i64 y3], .pointer (some ⟨gt, 0, none⟩)] w fun e w' => e = .returned (.int .i64 (or2 (cmpi (degv x0 x1 x2 x3) (degv y0 y1 y2 y3)) (lexv y3 y2 y1 y0 x3 x2 x1 x0))) ∧ Below w.heap.size w w' := by
 have HT := jA.mk (jO (jO ht (.cells #[.int .i64 x0, .int .i64 x1, .int .i64 x2, .int .i64 x3] 35)) (.cells #[.int .i64 y0, .int .i64 y1, .int .i64 y2, .int .i64 y3] 35))
 have HL := jA.mk (jO (jO hl (.cells #[.int .i64 x0, .int .i64 x1, .int .i64 x2, .int .i64 x3] 35)) (.cells #[.int .i64 y0, .int .i64 y1, .int .i64 y2, .int .i64 y3] 35))
 clear hl
 have HN := jA.mk (qG ht)
 clear ht
 have hA := jO (vD w (.cells #[.int .i64 x0, .int .i64 x1, .int .i64 x2, .int .i64 x3] 35)) (.cells #[.int .i64 y0, .int .i64 y1, .int .i64 y2, .int .i64 y3] 35)
 have hB := vD (w.alloc (.cells #[.int .i64 x0, .int .i64 x1, .int .i64 x2, .int .i64 x3] 35)) (.cells #[.int .i64 y0, .int .i64 y1, .int .i64 y2, .int .i64 y3] 35)
 rw [World.size_alloc] at hB
 have HA := jA.mk hA
 have HB := jA.mk hB
 have HD := jA.mk (jQ (jQ (Below.refl _ w) (.cells #[.int .i64 x0, .int .i64 x1, .int .i64 x2, .int .i64 x3] 35)) (.cells #[.int .i64 y0, .int .i64 y1, .int .i64 y2, .int .i64 y3] 35))
 clear hA hB
 go_enter Tryz.func79, Tryz.ntmps79
 go_wp2
 generalize (w.alloc (.cells #[.int .i64 x0, .int .i64 x1, .int .i64 x2, .int .i64 x3] 35)).alloc (.cells #[.int .i64 y0, .int .i64 y1, .int .i64 y2, .int .i64 y3] 35) = w1 at HA HB HD HT HL ⊢
 refine zw (n := 12) (S := fun w' => w'.cell? ⟨w.heap.size, 0, none⟩ = some (.int .i64 x0) ∧ w'.cell? ⟨w.heap.size, 1, none⟩ = some (.int .i64 x1) ∧ w'.cell? ⟨w.heap.size, 2, none⟩ = some (.int .i64 x2) ∧ w'.cell? ⟨w.heap.size, 3, none⟩ = some (.int .i64 x3) ∧ w'.cell? ⟨w.heap.size + 1, 0, none⟩ = some (.int .i64 y0) ∧ w'.cell? ⟨w.heap.size + 1, 1, none⟩ = some (.int .i64 y1) ∧ w'.cell? ⟨w.heap.size + 1, 2, none⟩ = some (.int .i64 y2) ∧ w'.cell? ⟨w.heap.size + 1, 3, none⟩ = some (.int .i64 y3) ∧ w'.cell? ⟨gt, 0, none⟩ = some (.func (.func 83) #[] #[.pointer (some ⟨gl, 0, none⟩)])) (ds := []) #[false, false, false, false, false, false, false, false, false, false, false, false] kr_ rfl rfl ⟨(jB (jI HA.out) 0).trans rfl, (jB (jI HA.out) 1).trans rfl, (jB (jI HA.out) 2).trans rfl, (jB (jI HA.out) 3).trans rfl, (jB (jI HB.out) 0).trans rfl, (jB (jI HB.out) 1).trans rfl, (jB (jI HB.out) 2).trans rfl, (jB (jI HB.out) 3).trans rfl, (jB (jI HT.out) 0).trans rfl⟩ (fun hHeld => ?_)
 have HA0 := jA.mk (jI HA.out)
 have HB0 := jA.mk (jI HB.out)
 have HT0 := jA.mk (jI HT.out)
 have HL0 := jA.mk (jI HL.out)
 have HD0 := jA.mk (jv HD.out)
 generalize w1.drew = v0 at HA0 HB0 HT0 HL0 HD0 hHeld ⊢
 clear HA HB HT HL HD w1
 refine tk9_ 0 (some 6) (ba_ 12 1) kr_ hHeld ?_
 refine tk9_ 2 (some 8) (ba_ 12 5) kr_ hHeld ?_
 refine tk9_ 5 (some 11) (ba_ 12 37) kr_ hHeld ?_
 refine tk9_ 6 (some 12) (ba_ 12 101) kr_ hHeld ?_
 refine tk9_ 7 (some 13) (ba_ 12 229) kr_ hHeld ?_
 refine one_ (i := 1) (N := some 7) (ba_ 12 231) rfl rfl kr_ (by decide) (fun K hK => ?_)
 refine jAX Tryz.func82 kr_ rfl #[.agg #[.int .i64 x0, .int .i64 x1, .int .i64 x2, .int .i64 x3]] (by rfl) rfl rfl (by (try simp only [List.map_toArray, List.map_cons, List.map_nil]); first | done | rfl) ?_
 refine (jAD.calls x0 x1 x2 x3 _ _ rfl).mono ?_
 rintro e v1 ⟨rfl, hb⟩
 have HA1 := jA.mk (jN HA0.out hb)
 have HB1 := jA.mk (jN HB0.out hb)
 have HT1 := jA.mk (jN HT0.out hb)
 have HL1 := jA.mk (jN HL0.out hb)
 have HD1 := jA.mk (jG HD0.out hb)
 clear hb
 refine ⟨_, rfl, ?_⟩
 refine hK.out _ _ ⟨(jB HA1.out 0).trans rfl, (jB HA1.out 1).trans rfl, (jB HA1.out 2).trans rfl, (jB HA1.out 3).trans rfl, (jB HB1.out 0).trans rfl, (jB HB1.out 1).trans rfl, (jB HB1.out 2).trans rfl, (jB HB1.out 3).trans rfl, (jB HT1.out 0).trans rfl⟩ (fun hHeld => ?_)
 clear hK K
 refine nm_ ?_
 refine one_ (i := 3) (N := some 9) (ba_ 12 239) rfl rfl kr_ (by decide) (fun K hK => ?_)
 refine jAX Tryz.func82 kr_ rfl #[.agg #[.int .i64 y0, .int .i64 y1, .int .i64 y2, .int .i64 y3]] (by rfl) rfl rfl (by (try simp only [List.map_toArray, List.map_cons, List.map_nil]); first | done | rfl) ?_
 refine (jAD.calls y0 y1 y2 y3 _ _ rfl).mono ?_
 rintro e v2 ⟨rfl, hb⟩
 have HA2 := jA.mk (jN HA1.out hb)
 have HB2 := jA.mk (jN HB1.out hb)
 have HT2 := jA.mk (jN HT1.out hb)
 have HL2 := jA.mk (jN HL1.out hb)
 have HD2 := jA.mk (jG HD1.out hb)
 clear hb
 refine ⟨_, rfl, ?_⟩
 refine hK.out _ _ ⟨(jB HA2.out 0).trans rfl, (jB HA2.out 1).trans rfl, (jB HA2.out 2).trans rfl, (jB HA2.out 3).trans rfl, (jB HB2.out 0).trans rfl, (jB HB2.out 1).trans rfl, (jB HB2.out 2).trans rfl, (jB HB2.out 3).trans rfl, (jB HT2.out 0).trans rfl⟩ (fun hHeld => ?_)
 clear hK K
 refine nm_ ?_
 refine one_ (i := 4) (N := some 10) (ba_ 12 255) rfl rfl kr_ (by decide) (fun K hK => ?_)
 refine jAX Tryz.func81 kr_ rfl #[.int .i64 (degv x0 x1 x2 x3), .int .i64 (degv y0 y1 y2 y3)] (by rfl) rfl rfl (by (try simp only [List.map_toArray, List.map_cons, List.map_nil]); first | done | rfl) ?_
 refine (cmp_Compare_int.calls _ _ _ _ (jAo _ _)).mono ?_
 rintro e v3 ⟨rfl, hb0⟩
 have hb := hb0.below
 have HA3 := jA.mk (jN HA2.out hb)
 have HB3 := jA.mk (jN HB2.out hb)
 have HT3 := jA.mk (jN HT2.out hb)
 have HL3 := jA.mk (jN HL2.out hb)
 have HD3 := jA.mk (jG HD2.out hb)
 clear hb hb0
 refine ⟨_, rfl, ?_⟩
 refine hK.out _ _ ⟨(jB HA3.out 0).trans rfl, (jB HA3.out 1).trans rfl, (jB HA3.out 2).trans rfl, (jB HA3.out 3).trans rfl, (jB HB3.out 0).trans rfl, (jB HB3.out 1).trans rfl, (jB HB3.out 2).trans rfl, (jB HB3.out 3).trans rfl, (jB HT3.out 0).trans rfl⟩ (fun hHeld => ?_)
 clear hK K
 refine nm_ ?_
 refine one_ (i := 8) (N := some 14) (ba_ 12 511) rfl rfl kr_ (by decide) (fun K hK => ?_)
 refine jBt #[.pointer (some ⟨gl, 0, none⟩)] Tryz.func83 kr_ rfl #[.agg #[.int .i64 x0, .int .i64 x1, .int .i64 x2, .int .i64 x3], .agg #[.int .i64 y0, .int .i64 y1, .int .i64 y2, .int .i64 y3], .pointer (some ⟨gl, 0, none⟩)] (by rfl) rfl rfl rfl (by (try simp only [List.map_toArray, List.map_cons, List.map_nil]); first | done | rfl) ?_
 refine (revC gl x0 x1 x2 x3 y0 y1 y2 y3 _ HL3.out).mono ?_
 rintro e v4 ⟨rfl, hb⟩
 have HA4 := jA.mk (jN HA3.out hb)
 have HB4 := jA.mk (jN HB3.out hb)
 have HT4 := jA.mk (jN HT3.out hb)
 have HL4 := jA.mk (jN HL3.out hb)
 have HD4 := jA.mk (jG HD3.out hb)
 clear hb
 refine ⟨_, rfl, ?_⟩
 refine hK.out _ _ ⟨(jB HA4.out 0).trans rfl, (jB HA4.out 1).trans rfl, (jB HA4.out 2).trans rfl, (jB HA4.out 3).trans rfl, (jB HB4.out 0).trans rfl, (jB HB4.out 1).trans rfl, (jB HB4.out 2).trans rfl, (jB HB4.out 3).trans rfl, (jB HT4.out 0).trans rfl⟩ (fun hHeld => ?_)
 clear hK K
 refine nm_ ?_
 refine one_ (i := 9) (N := some 15) (ba_ 12 1023) rfl rfl kr_ (by decide) (fun K hK => ?_)
 refine jCM (v := .slice (some ⟨v4.heap.size, 0, none⟩) 2 2) (w1 := v4.alloc (.cells #[.int .i64 (cmpi (degv x0 x1 x2 x3) (degv y0 y1 y2 y3)), .int .i64 (lexv y3 y2 y1 y0 x3 x2 x1 x0)] 3)) (by rfl) rfl (by first | (go_simp; done) | (go_simp; rfl)) ?_
 have HR := jA.mk (vD v4 (.cells #[.int .i64 (cmpi (degv x0 x1 x2 x3) (degv y0 y1 y2 y3)), .int .i64 (lexv y3 y2 y1 y0 x3 x2 x1 x0)] 3))
 have HA5 := jA.mk (jO HA4.out (.cells #[.int .i64 (cmpi (degv x0 x1 x2 x3) (degv y0 y1 y2 y3)), .int .i64 (lexv y3 y2 y1 y0 x3 x2 x1 x0)] 3))
 have HB5 := jA.mk (jO HB4.out (.cells #[.int .i64 (cmpi (degv x0 x1 x2 x3) (degv y0 y1 y2 y3)), .int .i64 (lexv y3 y2 y1 y0 x3 x2 x1 x0)] 3))
 have HT5 := jA.mk (jO HT4.out (.cells #[.int .i64 (cmpi (degv x0 x1 x2 x3) (degv y0 y1 y2 y3)), .int .i64 (lexv y3 y2 y1 y0 x3 x2 x1 x0)] 3))
 have HL5 := jA.mk (jO HL4.out (.cells #[.int .i64 (cmpi (degv x0 x1 x2 x3) (degv y0 y1 y2 y3)), .int .i64 (lexv y3 y2 y1 y0 x3 x2 x1 x0)] 3))
 have HD5 := jA.mk (jQ HD4.out (.cells #[.int .i64 (cmpi (degv x0 x1 x2 x3) (degv y0 y1 y2 y3)), .int .i64 (lexv y3 y2 y1 y0 x3 x2 x1 x0)] 3))
 generalize v4.alloc (.cells #[.int .i64 (cmpi (degv x0 x1 x2 x3) (degv y0 y1 y2 y3)), .int .i64 (lexv y3 y2 y1 y0 x3 x2 x1 x0)] 3) = v5 at HR HA5 HB5 HT5 HL5 HD5 ⊢
 refine hK.out _ _ ⟨(jB HA5.out 0).trans rfl, (jB HA5.out 1).trans rfl, (jB HA5.out 2).trans rfl, (jB HA5.out 3).trans rfl, (jB HB5.out 0).trans rfl, (jB HB5.out 1).trans rfl, (jB HB5.out 2).trans rfl, (jB HB5.out 3).trans rfl, (jB HT5.out 0).trans rfl⟩ (fun hHeld => ?_)
 clear hK K
 refine nm_ ?_
 refine one_ (i := 10) (N := some 16) (ba_ 12 2047) rfl rfl kr_ (by decide) (fun K hK => ?_)
 refine jAX Tryz.func80 kr_ rfl #[.slice (some ⟨v4.heap.size, 0, none⟩) 2 2] (by rfl) rfl rfl (by (try simp only [List.map_toArray, List.map_cons, List.map_nil]); first | done | rfl) ?_
 refine (zA.calls 3 _ _ _ _ _ (row2 HR.out) (Nat.le_refl 2) (Or2 _ _)).mono ?_
 rintro e v6 ⟨rfl, hb0⟩
 have hb := hb0.below
 have HA6 := jA.mk (jN HA5.out hb)
 have HB6 := jA.mk (jN HB5.out hb)
 have HT6 := jA.mk (jN HT5.out hb)
 have HL6 := jA.mk (jN HL5.out hb)
 have HD6 := jA.mk (jG HD5.out hb)
 clear hb hb0
 refine ⟨_, rfl, ?_⟩
 refine hK.out _ _ ⟨(jB HA6.out 0).trans rfl, (jB HA6.out 1).trans rfl, (jB HA6.out 2).trans rfl, (jB HA6.out 3).trans rfl, (jB HB6.out 0).trans rfl, (jB HB6.out 1).trans rfl, (jB HB6.out 2).trans rfl, (jB HB6.out 3).trans rfl, (jB HT6.out 0).trans rfl⟩ (fun hHeld => ?_)
 clear hK K
 refine nm_ ?_
 refine pu_ 11 (some 5) (ba_ 12 4095) kr_ ?_
 refine jAR kr_ ?_
 go_wp2
 go_ret
 exact ⟨rfl, HD6.out⟩
set_option maxHeartbeats 1000000 in
theorem grdC (fn : Fn) (fs cap : Array Value) (w : World) :
  Calls Tryz.prog 78 #[.func fn fs cap] w fun e w' => e = .returned (.func (.func 79) #[] #[.pointer (some ⟨w.heap.size, 0, none⟩)]) ∧ w.alloc (.cells #[.func fn fs cap] 105) = w' := by
 have hmf : ∀ (fn : Fn) (first cap : Array Value) (w : World), (Instr.makeFunc fn first cap).run Tryz.prog w = .ok (.func fn first cap) w := fun _ _ _ _ => rfl
 go_enter Tryz.func78, Tryz.ntmps78
 go_wp2
 go_ret
 exact ⟨rfl, rfl⟩
def mcmp (o x0 x1 x2 x3 y0 y1 y2 y3 : Int) : Int := if mays x0 x1 x2 x3 = true ∧ mays y0 y1 y2 y3 = true then (if o = 0 then lexv x0 x1 x2 x3 y0 y1 y2 y3 else if o = 1 then or2 (cmpi (degv x0 x1 x2 x3) (degv y0 y1 y2 y3)) (lexv x0 x1 x2 x3 y0 y1 y2 y3) else if o = 2 then or2 (cmpi (degv x0 x1 x2 x3) (degv y0 y1 y2 y3)) (lexv y3 y2 y1 y0 x3 x2 x1 x0) else 0) else 0
def jBC.f (o x0 x1 x2 x3 y0 y1 y2 y3 : Int) : Option Int := some (mcmp o x0 x1 x2 x3 y0 y1 y2 y3)
set_option maxHeartbeats 16000000 in
theorem jBC.calls (o x0 x1 x2 x3 y0 y1 y2 y3 : Int) (r : Int) (w : World) (h : jBC.f o x0 x1 x2 x3 y0 y1 y2 y3 = some r) :
  Calls Tryz.prog 46 #[.int .i64 o, .agg #[.int .i64 x0, .int .i64 x1, .int .i64 x2, .int .i64 x3], .agg #[.int .i64 y0, .int .i64 y1, .int .i64 y2, .int .i64 y3]] w fun e w' => e = .returned (.int .i64 r) ∧ Below w.heap.size w w' := by
 have HRES := jA.mk (Option.some.inj h)
 clear h
 have hmf : ∀ (fn : Fn) (first cap : Array Value) (w : World), (Instr.makeFunc fn first cap).run Tryz.prog w = .ok (.func fn first cap) w := fun _ _ _ _ => rfl
 have hnot : ∀ (x : Bool) (w : World), (Op.unary .not (.bool x)).run Tryz.prog w = .ok (.bool (!x)) w := fun _ _ => rfl
 have hA := jO (jO (vD w (.cells #[.int .i64 x0, .int .i64 x1, .int .i64 x2, .int .i64 x3] 35)) (.cells #[.int .i64 y0, .int .i64 y1, .int .i64 y2, .int .i64 y3] 35)) (.cells #[.func (.func 76) #[] #[]] 105)
 have hB := jO (vD (w.alloc (.cells #[.int .i64 x0, .int .i64 x1, .int .i64 x2, .int .i64 x3] 35)) (.cells #[.int .i64 y0, .int .i64 y1, .int .i64 y2, .int .i64 y3] 35)) (.cells #[.func (.func 76) #[] #[]] 105)
 have hL := vD ((w.alloc (.cells #[.int .i64 x0, .int .i64 x1, .int .i64 x2, .int .i64 x3] 35)).alloc (.cells #[.int .i64 y0, .int .i64 y1, .int .i64 y2, .int .i64 y3] 35)) (.cells #[.func (.func 76) #[] #[]] 105)
 simp only [World.size_alloc] at hA hB hL
 have HA := jA.mk hA
 have HB := jA.mk hB
 have HL := jA.mk hL
 have HD := jA.mk (jQ (jQ (jQ (Below.refl _ w) (.cells #[.int .i64 x0, .int .i64 x1, .int .i64 x2, .int .i64 x3] 35)) (.cells #[.int .i64 y0, .int .i64 y1, .int .i64 y2, .int .i64 y3] 35)) (.cells #[.func (.func 76) #[] #[]] 105))
 have HZ := jA.mk (show w.heap.size + 3 ≤ (((w.alloc (.cells #[.int .i64 x0, .int .i64 x1, .int .i64 x2, .int .i64 x3] 35)).alloc (.cells #[.int .i64 y0, .int .i64 y1, .int .i64 y2, .int .i64 y3] 35)).alloc (.cells #[.func (.func 76) #[] #[]] 105)).heap.size by simp)
 clear hA hB hL
 go_enter Tryz.func46, Tryz.ntmps46
 go_wp2
 generalize ((w.alloc (.cells #[.int .i64 x0, .int .i64 x1, .int .i64 x2, .int .i64 x3] 35)).alloc (.cells #[.int .i64 y0, .int .i64 y1, .int .i64 y2, .int .i64 y3] 35)).alloc (.cells #[.func (.func 76) #[] #[]] 105) = w1 at HA HB HL HD HZ ⊢
 refine zw (n := 10) (S := fun w' => w'.cell? ⟨w.heap.size + 1 + 1, 0, none⟩ = some (.func (.func 76) #[] #[])) (ds := [9]) #[false, false, false, false, false, false, false, false, false, false] kr_ rfl rfl ((jB (jI HL.out) 0).trans rfl) (fun hHeld => ?_)
 have HA0 := jA.mk (jI HA.out)
 have HB0 := jA.mk (jI HB.out)
 have HL0 := jA.mk (jI HL.out)
 have HD0 := jA.mk (jv HD.out)
 have HZ0 := jA.mk (show w.heap.size + 3 ≤ w1.drew.heap.size from HZ.out)
 generalize w1.drew = v0 at HA0 HB0 HL0 HD0 HZ0 hHeld ⊢
 clear HA HB HL HD HZ w1
 refine tk1_ 0 (some 12) (ba_ 10 1) kr_ hHeld ?_
 refine tk1_ 2 (some 14) (ba_ 10 5) kr_ hHeld ?_
 refine pu_ 1 (some 13) (ba_ 10 7) kr_ ?_
 refine pu_ 4 (some 16) (ba_ 10 23) kr_ ?_
 refine pu_ 5 (some 17) (ba_ 10 55) kr_ ?_
 refine jQH (σ := Nat × Nat × Nat) 1 #[true, true, true, true, true, true, true, true, true, false] (fun s => [(15, .func (.func 79) #[] #[.pointer (some ⟨s.1, 0, none⟩)]), (18, .func (.func 79) #[] #[.pointer (some ⟨s.2.1, 0, none⟩)]), (19, .agg #[.func (.func 76) #[] #[], .func (.func 79) #[] #[.pointer (some ⟨s.1, 0, none⟩)], .func (.func 79) #[] #[.pointer (some ⟨s.2.1, 0, none⟩)]]), (10, .pointer (some ⟨s.2.2, 0, none⟩))]) (fun s w' => (w'.heap[w.heap.size]? = some (.cells #[.int .i64 x0, .int .i64 x1, .int .i64 x2, .int .i64 x3] 35) ∧ w'.heap[w.heap.size + 1]? = some (.cells #[.int .i64 y0, .int .i64 y1, .int .i64 y2, .int .i64 y3] 35) ∧ w'.heap[w.heap.size + 1 + 1]? = some (.cells #[.func (.func 76) #[] #[]] 105)) ∧ (w'.heap[s.1]? = some (.cells #[.func (.func 76) #[] #[]] 105) ∧ w'.heap[s.2.1]? = some (.cells #[.func (.func 83) #[] #[.pointer (some ⟨(w.heap.size + 1 + 1), 0, none⟩)]] 105) ∧ w'.heap[s.2.2]? = some (.cells #[.nilFunc, .nilFunc, .nilFunc] 128)) ∧ (s.1 ≠ s.2.2 ∧ s.2.1 ≠ s.2.2 ∧ w.heap.size + 3 ≤ s.2.2) ∧ Below w.heap.size w w') ?_ (fun hJ => ?_)
 rotate_left
 ·
  refine two_ (i := 3) (j := 8) (Ni := some 15) (Nj := some 10) (ba_ 10 63) (ba_ 10 311) rfl rfl rfl rfl kr_ (by decide) (by decide) (fun K hK => ?_) (fun K hK => ?_)
  rotate_left
  ·
   refine jCM (v := .pointer (some ⟨v0.heap.size, 0, none⟩)) (w1 := v0.alloc (.cells #[.nilFunc, .nilFunc, .nilFunc] 128)) (by rfl) rfl (by first | (go_simp; done) | (go_simp; rfl)) ?_
   obtain ⟨v1, hv⟩ : ∃ v, v0.alloc (.cells #[.nilFunc, .nilFunc, .nilFunc] 128) = v := ⟨_, rfl⟩
   rw [hv]
   have HO_1 := jA.mk (show v1.heap[v0.heap.size]? = some (.cells #[.nilFunc, .nilFunc, .nilFunc] 128) from hv ▸ vD v0 (.cells #[.nilFunc, .nilFunc, .nilFunc] 128))
   have HA1 := jA.mk (show v1.heap[_]? = some _ from hv ▸ jO HA0.out (.cells #[.nilFunc, .nilFunc, .nilFunc] 128))
   have HB1 := jA.mk (show v1.heap[_]? = some _ from hv ▸ jO HB0.out (.cells #[.nilFunc, .nilFunc, .nilFunc] 128))
   have HL1 := jA.mk (show v1.heap[_]? = some _ from hv ▸ jO HL0.out (.cells #[.nilFunc, .nilFunc, .nilFunc] 128))
   have HD1 := jA.mk (show Below w.heap.size w v1 from hv ▸ jQ HD0.out (.cells #[.nilFunc, .nilFunc, .nilFunc] 128))
   have HS1 := jA.mk (show v1.heap.size = v0.heap.size + 1 from hv ▸ World.size_alloc _ _)
   clear hv
   refine hK.out _ _ ((jB HL1.out 0).trans rfl) (fun hHeld => ?_)
   clear hK K
   refine nm_ ?_
   refine one_ (i := 3) (N := some 15) (ba_ 10 319) rfl rfl kr_ (by decide) (fun K hK => ?_)
   refine jBt #[] Tryz.func78 kr_ rfl #[.func (.func 76) #[] #[]] (by rfl) rfl rfl rfl (by (try simp only [List.map_toArray, List.map_cons, List.map_nil]); first | done | rfl) ?_
   refine (grdC (.func 76) #[] #[] v1).mono ?_
   rintro e v2 ⟨rfl, hv⟩
   have H1_2 := jA.mk (show v2.heap[v1.heap.size]? = some (.cells #[.func (.func 76) #[] #[]] 105) from hv ▸ vD v1 (.cells #[.func (.func 76) #[] #[]] 105))
   have HA2 := jA.mk (show v2.heap[_]? = some _ from hv ▸ jO HA1.out (.cells #[.func (.func 76) #[] #[]] 105))
   have HB2 := jA.mk (show v2.heap[_]? = some _ from hv ▸ jO HB1.out (.cells #[.func (.func 76) #[] #[]] 105))
   have HL2 := jA.mk (show v2.heap[_]? = some _ from hv ▸ jO HL1.out (.cells #[.func (.func 76) #[] #[]] 105))
   have HO_2 := jA.mk (show v2.heap[_]? = some _ from hv ▸ jO HO_1.out (.cells #[.func (.func 76) #[] #[]] 105))
   have HD2 := jA.mk (show Below w.heap.size w v2 from hv ▸ jQ HD1.out (.cells #[.func (.func 76) #[] #[]] 105))
   have HS2 := jA.mk (show v2.heap.size = v1.heap.size + 1 from hv ▸ World.size_alloc _ _)
   clear hv
   refine ⟨_, rfl, ?_⟩
   refine hK.out _ _ ((jB HL2.out 0).trans rfl) (fun hHeld => ?_)
   clear hK K
   refine nm_ ?_
   refine one_ (i := 6) (N := some 18) (ba_ 10 383) rfl rfl kr_ (by decide) (fun K hK => ?_)
   refine jBt #[] Tryz.func78 kr_ rfl #[.func (.func 83) #[] #[.pointer (some ⟨(w.heap.size + 1 + 1), 0, none⟩)]] (by rfl) rfl rfl rfl (by (try simp only [List.map_toArray, List.map_cons, List.map_nil]); first | done | rfl) ?_
   refine (grdC (.func 83) #[] #[.pointer (some ⟨w.heap.size + 1 + 1, 0, none⟩)] v2).mono ?_
   rintro e v3 ⟨rfl, hv⟩
   have H2_3 := jA.mk (show v3.heap[v2.heap.size]? = some (.cells #[.func (.func 83) #[] #[.pointer (some ⟨(w.heap.size + 1 + 1), 0, none⟩)]] 105) from hv ▸ vD v2 (.cells #[.func (.func 83) #[] #[.pointer (some ⟨(w.heap.size + 1 + 1), 0, none⟩)]] 105))
   have HA3 := jA.mk (show v3.heap[_]? = some _ from hv ▸ jO HA2.out (.cells #[.func (.func 83) #[] #[.pointer (some ⟨(w.heap.size + 1 + 1), 0, none⟩)]] 105))
   have HB3 := jA.mk (show v3.heap[_]? = some _ from hv ▸ jO HB2.out (.cells #[.func (.func 83) #[] #[.pointer (some ⟨(w.heap.size + 1 + 1), 0, none⟩)]] 105))
   have HL3 := jA.mk (show v3.heap[_]? = some _ from hv ▸ jO HL2.out (.cells #[.func (.func 83) #[] #[.pointer (some ⟨(w.heap.size + 1 + 1), 0, none⟩)]] 105))
   have HO_3 := jA.mk (show v3.heap[_]? = some _ from hv ▸ jO HO_2.out (.cells #[.func (.func 83) #[] #[.pointer (some ⟨(w.heap.size + 1 + 1), 0, none⟩)]] 105))
   have H1_3 := jA.mk (show v3.heap[_]? = some _ from hv ▸ jO H1_2.out (.cells #[.func (.func 83) #[] #[.pointer (some ⟨(w.heap.size + 1 + 1), 0, none⟩)]] 105))
   have HD3 := jA.mk (show Below w.heap.size w v3 from hv ▸ jQ HD2.out (.cells #[.func (.func 83) #[] #[.pointer (some ⟨(w.heap.size + 1 + 1), 0, none⟩)]] 105))
   have HS3 := jA.mk (show v3.heap.size = v2.heap.size + 1 from hv ▸ World.size_alloc _ _)
   clear hv
   refine ⟨_, rfl, ?_⟩
   refine hK.out _ _ ((jB HL3.out 0).trans rfl) (fun hHeld => ?_)
   clear hK K
   refine nm_ ?_
   refine pu_ 7 (some 19) (ba_ 10 511) kr_ ?_
   exact hJ (v1.heap.size, v2.heap.size, v0.heap.size) _ ⟨⟨HA3.out, HB3.out, HL3.out⟩, ⟨H1_3.out, H2_3.out, HO_3.out⟩, ⟨by have := HS1.out; have := HS2.out; have := HS3.out; show v1.heap.size ≠ v0.heap.size; omega, by have := HS1.out; have := HS2.out; have := HS3.out; show v2.heap.size ≠ v0.heap.size; omega, by have := HZ0.out; have := HS1.out; have := HS2.out; show w.heap.size + 3 ≤ v0.heap.size; omega⟩, HD3.out⟩
  refine jBt #[] Tryz.func78 kr_ rfl #[.func (.func 76) #[] #[]] (by rfl) rfl rfl rfl (by (try simp only [List.map_toArray, List.map_cons, List.map_nil]); first | done | rfl) ?_
  refine (grdC (.func 76) #[] #[] v0).mono ?_
  rintro e v1 ⟨rfl, hv⟩
  have H1_1 := jA.mk (show v1.heap[v0.heap.size]? = some (.cells #[.func (.func 76) #[] #[]] 105) from hv ▸ vD v0 (.cells #[.func (.func 76) #[] #[]] 105))
  have HA1 := jA.mk (show v1.heap[_]? = some _ from hv ▸ jO HA0.out (.cells #[.func (.func 76) #[] #[]] 105))
  have HB1 := jA.mk (show v1.heap[_]? = some _ from hv ▸ jO HB0.out (.cells #[.func (.func 76) #[] #[]] 105))
  have HL1 := jA.mk (show v1.heap[_]? = some _ from hv ▸ jO HL0.out (.cells #[.func (.func 76) #[] #[]] 105))
  have HD1 := jA.mk (show Below w.heap.size w v1 from hv ▸ jQ HD0.out (.cells #[.func (.func 76) #[] #[]] 105))
  have HS1 := jA.mk (show v1.heap.size = v0.heap.size + 1 from hv ▸ World.size_alloc _ _)
  clear hv
  refine ⟨_, rfl, ?_⟩
  refine hK.out _ _ ((jB HL1.out 0).trans rfl) (fun hHeld => ?_)
  clear hK K
  refine nm_ ?_
  refine two_ (i := 6) (j := 8) (Ni := some 18) (Nj := some 10) (ba_ 10 127) (ba_ 10 319) rfl rfl rfl rfl kr_ (by decide) (by decide) (fun K hK => ?_) (fun K hK => ?_)
  ·
   refine jBt #[] Tryz.func78 kr_ rfl #[.func (.func 83) #[] #[.pointer (some ⟨(w.heap.size + 1 + 1), 0, none⟩)]] (by rfl) rfl rfl rfl (by (try simp only [List.map_toArray, List.map_cons, List.map_nil]); first | done | rfl) ?_
   refine (grdC (.func 83) #[] #[.pointer (some ⟨w.heap.size + 1 + 1, 0, none⟩)] v1).mono ?_
   rintro e v2 ⟨rfl, hv⟩
   have H2_2 := jA.mk (show v2.heap[v1.heap.size]? = some (.cells #[.func (.func 83) #[] #[.pointer (some ⟨(w.heap.size + 1 + 1), 0, none⟩)]] 105) from hv ▸ vD v1 (.cells #[.func (.func 83) #[] #[.pointer (some ⟨(w.heap.size + 1 + 1), 0, none⟩)]] 105))
   have HA2 := jA.mk (show v2.heap[_]? = some _ from hv ▸ jO HA1.out (.cells #[.func (.func 83) #[] #[.pointer (some ⟨(w.heap.size + 1 + 1), 0, none⟩)]] 105))
   have HB2 := jA.mk (show v2.heap[_]? = some _ from hv ▸ jO HB1.out (.cells #[.func (.func 83) #[] #[.pointer (some ⟨(w.heap.size + 1 + 1), 0, none⟩)]] 105))
   have HL2 := jA.mk (show v2.heap[_]? = some _ from hv ▸ jO HL1.out (.cells #[.func (.func 83) #[] #[.pointer (some ⟨(w.heap.size + 1 + 1), 0, none⟩)]] 105))
   have H1_2 := jA.mk (show v2.heap[_]? = some _ from hv ▸ jO H1_1.out (.cells #[.func (.func 83) #[] #[.pointer (some ⟨(w.heap.size + 1 + 1), 0, none⟩)]] 105))
   have HD2 := jA.mk (show Below w.heap.size w v2 from hv ▸ jQ HD1.out (.cells #[.func (.func 83) #[] #[.pointer (some ⟨(w.heap.size + 1 + 1), 0, none⟩)]] 105))
   have HS2 := jA.mk (show v2.heap.size = v1.heap.size + 1 from hv ▸ World.size_alloc _ _)
   clear hv
   refine ⟨_, rfl, ?_⟩
   refine hK.out _ _ ((jB HL2.out 0).trans rfl) (fun hHeld => ?_)
   clear hK K
   refine nm_ ?_
   refine pu_ 7 (some 19) (ba_ 10 255) kr_ ?_
   refine one_ (i := 8) (N := some 10) (ba_ 10 511) rfl rfl kr_ (by decide) (fun K hK => ?_)
   refine jCM (v := .pointer (some ⟨v2.heap.size, 0, none⟩)) (w1 := v2.alloc (.cells #[.nilFunc, .nilFunc, .nilFunc] 128)) (by rfl) rfl (by first | (go_simp; done) | (go_simp; rfl)) ?_
   obtain ⟨v3, hv⟩ : ∃ v, v2.alloc (.cells #[.nilFunc, .nilFunc, .nilFunc] 128) = v := ⟨_, rfl⟩
   rw [hv]
   have HO_3 := jA.mk (show v3.heap[v2.heap.size]? = some (.cells #[.nilFunc, .nilFunc, .nilFunc] 128) from hv ▸ vD v2 (.cells #[.nilFunc, .nilFunc, .nilFunc] 128))
   have HA3 := jA.mk (show v3.heap[_]? = some _ from hv ▸ jO HA2.out (.cells #[.nilFunc, .nilFunc, .nilFunc] 128))
   have HB3 := jA.mk (show v3.heap[_]? = some _ from hv ▸ jO HB2.out (.cells #[.nilFunc, .nilFunc, .nilFunc] 128))
   have HL3 := jA.mk (show v3.heap[_]? = some _ from hv ▸ jO HL2.out (.cells #[.nilFunc, .nilFunc, .nilFunc] 128))
   have H1_3 := jA.mk (show v3.heap[_]? = some _ from hv ▸ jO H1_2.out (.cells #[.nilFunc, .nilFunc, .nilFunc] 128))
   have H2_3 := jA.mk (show v3.heap[_]? = some _ from hv ▸ jO H2_2.out (.cells #[.nilFunc, .nilFunc, .nilFunc] 128))
   have HD3 := jA.mk (show Below w.heap.size w v3 from hv ▸ jQ HD2.out (.cells #[.nilFunc, .nilFunc, .nilFunc] 128))
   have HS3 := jA.mk (show v3.heap.size = v2.heap.size + 1 from hv ▸ World.size_alloc _ _)
   clear hv
   refine hK.out _ _ ((jB HL3.out 0).trans rfl) (fun hHeld => ?_)
   clear hK K
   refine nm_ ?_
   exact hJ (v0.heap.size, v1.heap.size, v2.heap.size) _ ⟨⟨HA3.out, HB3.out, HL3.out⟩, ⟨H1_3.out, H2_3.out, HO_3.out⟩, ⟨by have := HS1.out; have := HS2.out; have := HS3.out; show v0.heap.size ≠ v2.heap.size; omega, by have := HS1.out; have := HS2.out; have := HS3.out; show v1.heap.size ≠ v2.heap.size; omega, by have := HZ0.out; have := HS1.out; have := HS2.out; show w.heap.size + 3 ≤ v2.heap.size; omega⟩, HD3.out⟩
  refine jCM (v := .pointer (some ⟨v1.heap.size, 0, none⟩)) (w1 := v1.alloc (.cells #[.nilFunc, .nilFunc, .nilFunc] 128)) (by rfl) rfl (by first | (go_simp; done) | (go_simp; rfl)) ?_
  obtain ⟨v2, hv⟩ : ∃ v, v1.alloc (.cells #[.nilFunc, .nilFunc, .nilFunc] 128) = v := ⟨_, rfl⟩
  rw [hv]
  have HO_2 := jA.mk (show v2.heap[v1.heap.size]? = some (.cells #[.nilFunc, .nilFunc, .nilFunc] 128) from hv ▸ vD v1 (.cells #[.nilFunc, .nilFunc, .nilFunc] 128))
  have HA2 := jA.mk (show v2.heap[_]? = some _ from hv ▸ jO HA1.out (.cells #[.nilFunc, .nilFunc, .nilFunc] 128))
  have HB2 := jA.mk (show v2.heap[_]? = some _ from hv ▸ jO HB1.out (.cells #[.nilFunc, .nilFunc, .nilFunc] 128))
  have HL2 := jA.mk (show v2.heap[_]? = some _ from hv ▸ jO HL1.out (.cells #[.nilFunc, .nilFunc, .nilFunc] 128))
  have H1_2 := jA.mk (show v2.heap[_]? = some _ from hv ▸ jO H1_1.out (.cells #[.nilFunc, .nilFunc, .nilFunc] 128))
  have HD2 := jA.mk (show Below w.heap.size w v2 from hv ▸ jQ HD1.out (.cells #[.nilFunc, .nilFunc, .nilFunc] 128))
  have HS2 := jA.mk (show v2.heap.size = v1.heap.size + 1 from hv ▸ World.size_alloc _ _)
  clear hv
  refine hK.out _ _ ((jB HL2.out 0).trans rfl) (fun hHeld => ?_)
  clear hK K
  refine nm_ ?_
  refine one_ (i := 6) (N := some 18) (ba_ 10 383) rfl rfl kr_ (by decide) (fun K hK => ?_)
  refine jBt #[] Tryz.func78 kr_ rfl #[.func (.func 83) #[] #[.pointer (some ⟨(w.heap.size + 1 + 1), 0, none⟩)]] (by rfl) rfl rfl rfl (by (try simp only [List.map_toArray, List.map_cons, List.map_nil]); first | done | rfl) ?_
  refine (grdC (.func 83) #[] #[.pointer (some ⟨w.heap.size + 1 + 1, 0, none⟩)] v2).mono ?_
  rintro e v3 ⟨rfl, hv⟩
  have H2_3 := jA.mk (show v3.heap[v2.heap.size]? = some (.cells #[.func (.func 83) #[] #[.pointer (some ⟨(w.heap.size + 1 + 1), 0, none⟩)]] 105) from hv ▸ vD v2 (.cells #[.func (.func 83) #[] #[.pointer (some ⟨(w.heap.size + 1 + 1), 0, none⟩)]] 105))
  have HA3 := jA.mk (show v3.heap[_]? = some _ from hv ▸ jO HA2.out (.cells #[.func (.func 83) #[] #[.pointer (some ⟨(w.heap.size + 1 + 1), 0, none⟩)]] 105))
  have HB3 := jA.mk (show v3.heap[_]? = some _ from hv ▸ jO HB2.out (.cells #[.func (.func 83) #[] #[.pointer (some ⟨(w.heap.size + 1 + 1), 0, none⟩)]] 105))
  have HL3 := jA.mk (show v3.heap[_]? = some _ from hv ▸ jO HL2.out (.cells #[.func (.func 83) #[] #[.pointer (some ⟨(w.heap.size + 1 + 1), 0, none⟩)]] 105))
  have H1_3 := jA.mk (show v3.heap[_]? = some _ from hv ▸ jO H1_2.out (.cells #[.func (.func 83) #[] #[.pointer (some ⟨(w.heap.size + 1 + 1), 0, none⟩)]] 105))
  have HO_3 := jA.mk (show v3.heap[_]? = some _ from hv ▸ jO HO_2.out (.cells #[.func (.func 83) #[] #[.pointer (some ⟨(w.heap.size + 1 + 1), 0, none⟩)]] 105))
  have HD3 := jA.mk (show Below w.heap.size w v3 from hv ▸ jQ HD2.out (.cells #[.func (.func 83) #[] #[.pointer (some ⟨(w.heap.size + 1 + 1), 0, none⟩)]] 105))
  have HS3 := jA.mk (show v3.heap.size = v2.heap.size + 1 from hv ▸ World.size_alloc _ _)
  clear hv
  refine ⟨_, rfl, ?_⟩
  refine hK.out _ _ ((jB HL3.out 0).trans rfl) (fun hHeld => ?_)
  clear hK K
  refine nm_ ?_
  refine pu_ 7 (some 19) (ba_ 10 511) kr_ ?_
  exact hJ (v0.heap.size, v2.heap.size, v1.heap.size) _ ⟨⟨HA3.out, HB3.out, HL3.out⟩, ⟨H1_3.out, H2_3.out, HO_3.out⟩, ⟨by have := HS1.out; have := HS2.out; have := HS3.out; show v0.heap.size ≠ v1.heap.size; omega, by have := HS1.out; have := HS2.out; have := HS3.out; show v2.heap.size ≠ v1.heap.size; omega, by have := HZ0.out; have := HS1.out; have := HS2.out; show w.heap.size + 3 ≤ v1.heap.size; omega⟩, HD3.out⟩
 rintro ⟨g1, g2, go⟩ v1 ⟨⟨ha, hb, hl⟩, ⟨h1, h2, ho⟩, ⟨n1, n2, n3⟩, hd⟩
 have HA1 := jA.mk ha
 have HB1 := jA.mk hb
 have HL1 := jA.mk hl
 have H11 := jA.mk h1
 have H21 := jA.mk h2
 have HO1 := jA.mk ho
 have HD1 := jA.mk hd
 have HN := jA.mk (show g1 ≠ go ∧ g2 ≠ go ∧ w.heap.size + 3 ≤ go from ⟨n1, n2, n3⟩)
 clear ha hb hl h1 h2 ho hd n1 n2 n3 hHeld HA0 HB0 HL0 HD0 HZ0
 refine jHP (a' := ?_) ?_ ?_
 rotate_left
 ·
  simp only [jCy, Act.put, ss_, vF, vN]
  rfl
 refine jAh (i := 9) (N := none) (ba_ 10 1023) rfl rfl kr_ (by decide) (fun K hK => ?_)
 have hf0 := jP HO1.out 0
 have hc0 : v1.cell? ⟨go, 0, none⟩ = some .nilFunc := (jB HO1.out 0).trans rfl
 have hf1 := jP HO1.out 1
 have hc1 : v1.cell? ⟨go, 1, none⟩ = some .nilFunc := (jB HO1.out 1).trans rfl
 have hf2 := jP HO1.out 2
 have hc2 : v1.cell? ⟨go, 2, none⟩ = some .nilFunc := (jB HO1.out 2).trans rfl
 refine jAq (w1 := ?_) (by rfl) rfl ?_ ?_
 rotate_left
 ·
  go_simp
  rfl
 refine hK.out _ _ ?_
 clear hK K
 refine jAR kr_ ?_
 have HA2 := jA.mk (jV (jV (jV HA1.out (p := ⟨go, 0, none⟩) (by have := HN.out.2.2; show w.heap.size ≠ go; omega) (.func (.func 76) #[] #[])) (p := ⟨go, 1, none⟩) (by have := HN.out.2.2; show w.heap.size ≠ go; omega) (.func (.func 79) #[] #[.pointer (some ⟨g1, 0, none⟩)])) (p := ⟨go, 2, none⟩) (by have := HN.out.2.2; show w.heap.size ≠ go; omega) (.func (.func 79) #[] #[.pointer (some ⟨g2, 0, none⟩)]))
 have HB2 := jA.mk (jV (jV (jV HB1.out (p := ⟨go, 0, none⟩) (by have := HN.out.2.2; show w.heap.size + 1 ≠ go; omega) (.func (.func 76) #[] #[])) (p := ⟨go, 1, none⟩) (by have := HN.out.2.2; show w.heap.size + 1 ≠ go; omega) (.func (.func 79) #[] #[.pointer (some ⟨g1, 0, none⟩)])) (p := ⟨go, 2, none⟩) (by have := HN.out.2.2; show w.heap.size + 1 ≠ go; omega) (.func (.func 79) #[] #[.pointer (some ⟨g2, 0, none⟩)]))
 have HL2 := jA.mk (jV (jV (jV HL1.out (p := ⟨go, 0, none⟩) (by have := HN.out.2.2; show w.heap.size + 1 + 1 ≠ go; omega) (.func (.func 76) #[] #[])) (p := ⟨go, 1, none⟩) (by have := HN.out.2.2; show w.heap.size + 1 + 1 ≠ go; omega) (.func (.func 79) #[] #[.pointer (some ⟨g1, 0, none⟩)])) (p := ⟨go, 2, none⟩) (by have := HN.out.2.2; show w.heap.size + 1 + 1 ≠ go; omega) (.func (.func 79) #[] #[.pointer (some ⟨g2, 0, none⟩)]))
 have H12 := jA.mk (jV (jV (jV H11.out (p := ⟨go, 0, none⟩) HN.out.1 (.func (.func 76) #[] #[])) (p := ⟨go, 1, none⟩) HN.out.1 (.func (.func 79) #[] #[.pointer (some ⟨g1, 0, none⟩)])) (p := ⟨go, 2, none⟩) HN.out.1 (.func (.func 79) #[] #[.pointer (some ⟨g2, 0, none⟩)]))
 have H22 := jA.mk (jV (jV (jV H21.out (p := ⟨go, 0, none⟩) HN.out.2.1 (.func (.func 76) #[] #[])) (p := ⟨go, 1, none⟩) HN.out.2.1 (.func (.func 79) #[] #[.pointer (some ⟨g1, 0, none⟩)])) (p := ⟨go, 2, none⟩) HN.out.2.1 (.func (.func 79) #[] #[.pointer (some ⟨g2, 0, none⟩)]))
 have HO2 := jA.mk (jM (cs' := #[.func (.func 76) #[] #[], .func (.func 79) #[] #[.pointer (some ⟨g1, 0, none⟩)], .func (.func 79) #[] #[.pointer (some ⟨g2, 0, none⟩)]]) (jM (cs' := #[.func (.func 76) #[] #[], .func (.func 79) #[] #[.pointer (some ⟨g1, 0, none⟩)], .nilFunc]) (jM (cs' := #[.func (.func 76) #[] #[], .nilFunc, .nilFunc]) HO1.out 0 (.func (.func 76) #[] #[]) rfl) 1 (.func (.func 79) #[] #[.pointer (some ⟨g1, 0, none⟩)]) rfl) 2 (.func (.func 79) #[] #[.pointer (some ⟨g2, 0, none⟩)]) rfl)
 have HD2 := jA.mk (vP (g := go) (j := 2) (v := .func (.func 79) #[] #[.pointer (some ⟨g2, 0, none⟩)]) (vP (g := go) (j := 1) (v := .func (.func 79) #[] #[.pointer (some ⟨g1, 0, none⟩)]) (vP (g := go) (j := 0) (v := .func (.func 76) #[] #[]) HD1.out (by have := HN.out.2.2; omega)) (by have := HN.out.2.2; omega)) (by have := HN.out.2.2; omega))
 generalize ((v1.setCell ⟨go, 0, none⟩ (.func (.func 76) #[] #[])).setCell ⟨go, 1, none⟩ (.func (.func 79) #[] #[.pointer (some ⟨g1, 0, none⟩)])).setCell ⟨go, 2, none⟩ (.func (.func 79) #[] #[.pointer (some ⟨g2, 0, none⟩)]) = v2 at HA2 HB2 HL2 H12 H22 HO2 HD2 ⊢
 clear hf0 hf1 hf2 hc0 hc1 hc2 HA1 HB1 HL1 H11 H21 HO1 HD1 v1
 have ca0 : v2.cell? ⟨w.heap.size, 0, none⟩ = some (.int .i64 x0) := (jB HA2.out 0).trans rfl
 have ca1 : v2.cell? ⟨w.heap.size, 1, none⟩ = some (.int .i64 x1) := (jB HA2.out 1).trans rfl
 have ca2 : v2.cell? ⟨w.heap.size, 2, none⟩ = some (.int .i64 x2) := (jB HA2.out 2).trans rfl
 have ca3 : v2.cell? ⟨w.heap.size, 3, none⟩ = some (.int .i64 x3) := (jB HA2.out 3).trans rfl
 have cb0 : v2.cell? ⟨w.heap.size + 1, 0, none⟩ = some (.int .i64 y0) := (jB HB2.out 0).trans rfl
 have cb1 : v2.cell? ⟨w.heap.size + 1, 1, none⟩ = some (.int .i64 y1) := (jB HB2.out 1).trans rfl
 have cb2 : v2.cell? ⟨w.heap.size + 1, 2, none⟩ = some (.int .i64 y2) := (jB HB2.out 2).trans rfl
 have cb3 : v2.cell? ⟨w.heap.size + 1, 3, none⟩ = some (.int .i64 y3) := (jB HB2.out 3).trans rfl
 go_wp2_with fail
 cases ha : mays x0 x1 x2 x3 with
 | false =>
  refine (qm.calls x0 x1 x2 x3 _ _ rfl).mono ?_
  rw [ha]
  rintro e v3 ⟨rfl, hb⟩
  have HA3 := jA.mk (jN HA2.out hb)
  have HB3 := jA.mk (jN HB2.out hb)
  have HL3 := jA.mk (jN HL2.out hb)
  have H13 := jA.mk (jN H12.out hb)
  have H23 := jA.mk (jN H22.out hb)
  have HO3 := jA.mk (jN HO2.out hb)
  have HD3 := jA.mk (jG HD2.out hb)
  clear hb ca0 ca1 ca2 ca3 cb0 cb1 cb2 cb3
  clear HA2 HB2 HL2 H12 H22 HO2 HD2 v2
  go_wp2
  go_ret
  exact ⟨by rw [← HRES.out]; simp [mcmp, ha], HD3.out⟩
  
 | true =>
  refine (qm.calls x0 x1 x2 x3 _ _ rfl).mono ?_
  rw [ha]
  rintro e v3 ⟨rfl, hb⟩
  have HA3 := jA.mk (jN HA2.out hb)
  have HB3 := jA.mk (jN HB2.out hb)
  have HL3 := jA.mk (jN HL2.out hb)
  have H13 := jA.mk (jN H12.out hb)
  have H23 := jA.mk (jN H22.out hb)
  have HO3 := jA.mk (jN HO2.out hb)
  have HD3 := jA.mk (jG HD2.out hb)
  clear hb ca0 ca1 ca2 ca3 cb0 cb1 cb2 cb3
  clear HA2 HB2 HL2 H12 H22 HO2 HD2 v2
  have ca0 : v3.cell? ⟨w.heap.size, 0, none⟩ = some (.int .i64 x0) := (jB HA3.out 0).trans rfl
  have ca1 : v3.cell? ⟨w.heap.size, 1, none⟩ = some (.int .i64 x1) := (jB HA3.out 1).trans rfl
  have ca2 : v3.cell? ⟨w.heap.size, 2, none⟩ = some (.int .i64 x2) := (jB HA3.out 2).trans rfl
  have ca3 : v3.cell? ⟨w.heap.size, 3, none⟩ = some (.int .i64 x3) := (jB HA3.out 3).trans rfl
  have cb0 : v3.cell? ⟨w.heap.size + 1, 0, none⟩ = some (.int .i64 y0) := (jB HB3.out 0).trans rfl
  have cb1 : v3.cell? ⟨w.heap.size + 1, 1, none⟩ = some (.int .i64 y1) := (jB HB3.out 1).trans rfl
  have cb2 : v3.cell? ⟨w.heap.size + 1, 2, none⟩ = some (.int .i64 y2) := (jB HB3.out 2).trans rfl
  have cb3 : v3.cell? ⟨w.heap.size + 1, 3, none⟩ = some (.int .i64 y3) := (jB HB3.out 3).trans rfl
  go_wp2_with fail
  cases hb : mays y0 y1 y2 y3 with
  | false =>
   refine (qm.calls y0 y1 y2 y3 _ _ rfl).mono ?_
   rw [hb]
   rintro e v4 ⟨rfl, hb⟩
   have HA4 := jA.mk (jN HA3.out hb)
   have HB4 := jA.mk (jN HB3.out hb)
   have HL4 := jA.mk (jN HL3.out hb)
   have H14 := jA.mk (jN H13.out hb)
   have H24 := jA.mk (jN H23.out hb)
   have HO4 := jA.mk (jN HO3.out hb)
   have HD4 := jA.mk (jG HD3.out hb)
   clear hb ca0 ca1 ca2 ca3 cb0 cb1 cb2 cb3
   clear HA3 HB3 HL3 H13 H23 HO3 HD3 v3
   go_wp2
   go_ret
   exact ⟨by rw [← HRES.out]; simp [mcmp, ha, hb], HD4.out⟩
   
  | true =>
   refine (qm.calls y0 y1 y2 y3 _ _ rfl).mono ?_
   rw [hb]
   rintro e v4 ⟨rfl, hb⟩
   have HA4 := jA.mk (jN HA3.out hb)
   have HB4 := jA.mk (jN HB3.out hb)
   have HL4 := jA.mk (jN HL3.out hb)
   have H14 := jA.mk (jN H13.out hb)
   have H24 := jA.mk (jN H23.out hb)
   have HO4 := jA.mk (jN HO3.out hb)
   have HD4 := jA.mk (jG HD3.out hb)
   clear hb ca0 ca1 ca2 ca3 cb0 cb1 cb2 cb3
   clear HA3 HB3 HL3 H13 H23 HO3 HD3 v3
   have ca0 : v4.cell? ⟨w.heap.size, 0, none⟩ = some (.int .i64 x0) := (jB HA4.out 0).trans rfl
   have ca1 : v4.cell? ⟨w.heap.size, 1, none⟩ = some (.int .i64 x1) := (jB HA4.out 1).trans rfl
   have ca2 : v4.cell? ⟨w.heap.size, 2, none⟩ = some (.int .i64 x2) := (jB HA4.out 2).trans rfl
   have ca3 : v4.cell? ⟨w.heap.size, 3, none⟩ = some (.int .i64 x3) := (jB HA4.out 3).trans rfl
   have cb0 : v4.cell? ⟨w.heap.size + 1, 0, none⟩ = some (.int .i64 y0) := (jB HB4.out 0).trans rfl
   have cb1 : v4.cell? ⟨w.heap.size + 1, 1, none⟩ = some (.int .i64 y1) := (jB HB4.out 1).trans rfl
   have cb2 : v4.cell? ⟨w.heap.size + 1, 2, none⟩ = some (.int .i64 y2) := (jB HB4.out 2).trans rfl
   have cb3 : v4.cell? ⟨w.heap.size + 1, 3, none⟩ = some (.int .i64 y3) := (jB HB4.out 3).trans rfl
   by_cases o1 : o < 0
   ·
    have t1 : decide (o < 0) = true := decide_eq_true o1
    have HQ := jA.mk o1
    clear o1
    go_wp2
    go_ret
    exact ⟨by have := HQ.out; rw [← HRES.out]; simp [mcmp, ha, hb, show ¬ o = 0 by omega, show ¬ o = 1 by omega, show ¬ o = 2 by omega], HD4.out⟩
   have t1 : decide (o < 0) = false := decide_eq_false o1
   by_cases o2 : 3 ≤ o
   ·
    have t2 : decide (3 ≤ o) = true := decide_eq_true o2
    have HQ := jA.mk o2
    clear o1 o2
    go_wp2
    go_ret
    exact ⟨by have := HQ.out; rw [← HRES.out]; simp [mcmp, ha, hb, show ¬ o = 0 by omega, show ¬ o = 1 by omega, show ¬ o = 2 by omega], HD4.out⟩
   have o3 : o = 0 ∨ o = 1 ∨ o = 2 := by omega
   clear t1 o1 o2
   rcases o3 with rfl | rfl | rfl
   ·
    go_wp2
    refine zw (n := 7) (S := fun w' => w'.cell? ⟨go, 0, none⟩ = some (.func (.func 76) #[] #[]) ∧ w'.cell? ⟨w.heap.size, 0, none⟩ = some (.int .i64 x0) ∧ w'.cell? ⟨w.heap.size, 1, none⟩ = some (.int .i64 x1) ∧ w'.cell? ⟨w.heap.size, 2, none⟩ = some (.int .i64 x2) ∧ w'.cell? ⟨w.heap.size, 3, none⟩ = some (.int .i64 x3) ∧ w'.cell? ⟨w.heap.size + 1, 0, none⟩ = some (.int .i64 y0) ∧ w'.cell? ⟨w.heap.size + 1, 1, none⟩ = some (.int .i64 y1) ∧ w'.cell? ⟨w.heap.size + 1, 2, none⟩ = some (.int .i64 y2) ∧ w'.cell? ⟨w.heap.size + 1, 3, none⟩ = some (.int .i64 y3)) (ds := [5]) #[false, false, false, false, false, false, false] kr_ rfl rfl ⟨(jB (jI HO4.out) 0).trans rfl, (jB (jI HA4.out) 0).trans rfl, (jB (jI HA4.out) 1).trans rfl, (jB (jI HA4.out) 2).trans rfl, (jB (jI HA4.out) 3).trans rfl, (jB (jI HB4.out) 0).trans rfl, (jB (jI HB4.out) 1).trans rfl, (jB (jI HB4.out) 2).trans rfl, (jB (jI HB4.out) 3).trans rfl⟩ (fun hHeld => ?_)
    have HL := jA.mk (jI HL4.out)
    have H1 := jA.mk (jI H14.out)
    have H2 := jA.mk (jI H24.out)
    have HD := jA.mk (jv HD4.out)
    generalize v4.drew = u0 at HL H1 H2 HD hHeld ⊢
    clear HA4 HB4 HL4 H14 H24 HO4 HD4 ca0 ca1 ca2 ca3 cb0 cb1 cb2 cb3 v4
    refine pu_ 0 (some 36) (ba_ 7 1) kr_ ?_
    refine pu_ 1 (some 37) (ba_ 7 3) kr_ ?_
    refine tk9_ 2 (some 38) (ba_ 7 7) kr_ hHeld ?_
    refine tk9_ 3 (some 39) (ba_ 7 15) kr_ hHeld ?_
    refine tk9_ 4 (some 40) (ba_ 7 31) kr_ hHeld ?_
    refine jAh (i := 5) (N := some 41) (ba_ 7 63) rfl rfl kr_ (by decide) (fun K hK => ?_)
    refine jBt #[] Tryz.func76 kr_ rfl #[.agg #[.int .i64 x0, .int .i64 x1, .int .i64 x2, .int .i64 x3], .agg #[.int .i64 y0, .int .i64 y1, .int .i64 y2, .int .i64 y3]] (by rfl) rfl rfl rfl (by (try simp only [List.map_toArray, List.map_cons, List.map_nil]); first | done | rfl) ?_
    refine (lexC x0 x1 x2 x3 y0 y1 y2 y3 u0).mono ?_
    rintro e u1 ⟨rfl, hb⟩
    have HE := jA.mk (jG HD.out hb)
    clear hb
    refine ⟨_, rfl, ?_⟩
    refine hK.out _ _ ?_
    clear hK K
    refine nm_ ?_
    refine pu_ 6 (some 6) (ba_ 7 127) kr_ ?_
    refine jAR kr_ ?_
    go_wp2
    go_ret
    exact ⟨by rw [← HRES.out]; simp [mcmp, ha, hb], HE.out⟩
   ·
    go_wp2
    refine zw (n := 7) (S := fun w' => w'.cell? ⟨go, 1, none⟩ = some (.func (.func 79) #[] #[.pointer (some ⟨g1, 0, none⟩)]) ∧ w'.cell? ⟨w.heap.size, 0, none⟩ = some (.int .i64 x0) ∧ w'.cell? ⟨w.heap.size, 1, none⟩ = some (.int .i64 x1) ∧ w'.cell? ⟨w.heap.size, 2, none⟩ = some (.int .i64 x2) ∧ w'.cell? ⟨w.heap.size, 3, none⟩ = some (.int .i64 x3) ∧ w'.cell? ⟨w.heap.size + 1, 0, none⟩ = some (.int .i64 y0) ∧ w'.cell? ⟨w.heap.size + 1, 1, none⟩ = some (.int .i64 y1) ∧ w'.cell? ⟨w.heap.size + 1, 2, none⟩ = some (.int .i64 y2) ∧ w'.cell? ⟨w.heap.size + 1, 3, none⟩ = some (.int .i64 y3)) (ds := [5]) #[false, false, false, false, false, false, false] kr_ rfl rfl ⟨(jB (jI HO4.out) 1).trans rfl, (jB (jI HA4.out) 0).trans rfl, (jB (jI HA4.out) 1).trans rfl, (jB (jI HA4.out) 2).trans rfl, (jB (jI HA4.out) 3).trans rfl, (jB (jI HB4.out) 0).trans rfl, (jB (jI HB4.out) 1).trans rfl, (jB (jI HB4.out) 2).trans rfl, (jB (jI HB4.out) 3).trans rfl⟩ (fun hHeld => ?_)
    have HL := jA.mk (jI HL4.out)
    have H1 := jA.mk (jI H14.out)
    have H2 := jA.mk (jI H24.out)
    have HD := jA.mk (jv HD4.out)
    generalize v4.drew = u0 at HL H1 H2 HD hHeld ⊢
    clear HA4 HB4 HL4 H14 H24 HO4 HD4 ca0 ca1 ca2 ca3 cb0 cb1 cb2 cb3 v4
    refine pu_ 0 (some 36) (ba_ 7 1) kr_ ?_
    refine pu_ 1 (some 37) (ba_ 7 3) kr_ ?_
    refine tk9_ 2 (some 38) (ba_ 7 7) kr_ hHeld ?_
    refine tk9_ 3 (some 39) (ba_ 7 15) kr_ hHeld ?_
    refine tk9_ 4 (some 40) (ba_ 7 31) kr_ hHeld ?_
    refine jAh (i := 5) (N := some 41) (ba_ 7 63) rfl rfl kr_ (by decide) (fun K hK => ?_)
    refine jBt #[.pointer (some ⟨g1, 0, none⟩)] Tryz.func79 kr_ rfl #[.agg #[.int .i64 x0, .int .i64 x1, .int .i64 x2, .int .i64 x3], .agg #[.int .i64 y0, .int .i64 y1, .int .i64 y2, .int .i64 y3], .pointer (some ⟨g1, 0, none⟩)] (by rfl) rfl rfl rfl (by (try simp only [List.map_toArray, List.map_cons, List.map_nil]); first | done | rfl) ?_
    refine (jQN g1 x0 x1 x2 x3 y0 y1 y2 y3 u0 H1.out).mono ?_
    rintro e u1 ⟨rfl, hb⟩
    have HE := jA.mk (jG HD.out hb)
    clear hb
    refine ⟨_, rfl, ?_⟩
    refine hK.out _ _ ?_
    clear hK K
    refine nm_ ?_
    refine pu_ 6 (some 6) (ba_ 7 127) kr_ ?_
    refine jAR kr_ ?_
    go_wp2
    go_ret
    exact ⟨by rw [← HRES.out]; simp [mcmp, ha, hb], HE.out⟩
   go_wp2
   refine zw (n := 7) (S := fun w' => w'.cell? ⟨go, 2, none⟩ = some (.func (.func 79) #[] #[.pointer (some ⟨g2, 0, none⟩)]) ∧ w'.cell? ⟨w.heap.size, 0, none⟩ = some (.int .i64 x0) ∧ w'.cell? ⟨w.heap.size, 1, none⟩ = some (.int .i64 x1) ∧ w'.cell? ⟨w.heap.size, 2, none⟩ = some (.int .i64 x2) ∧ w'.cell? ⟨w.heap.size, 3, none⟩ = some (.int .i64 x3) ∧ w'.cell? ⟨w.heap.size + 1, 0, none⟩ = some (.int .i64 y0) ∧ w'.cell? ⟨w.heap.size + 1, 1, none⟩ = some (.int .i64 y1) ∧ w'.cell? ⟨w.heap.size + 1, 2, none⟩ = some (.int .i64 y2) ∧ w'.cell? ⟨w.heap.size + 1, 3, none⟩ = some (.int .i64 y3)) (ds := [5]) #[false, false, false, false, false, false, false] kr_ rfl rfl ⟨(jB (jI HO4.out) 2).trans rfl, (jB (jI HA4.out) 0).trans rfl, (jB (jI HA4.out) 1).trans rfl, (jB (jI HA4.out) 2).trans rfl, (jB (jI HA4.out) 3).trans rfl, (jB (jI HB4.out) 0).trans rfl, (jB (jI HB4.out) 1).trans rfl, (jB (jI HB4.out) 2).trans rfl, (jB (jI HB4.out) 3).trans rfl⟩ (fun hHeld => ?_)
   have HL := jA.mk (jI HL4.out)
   have H1 := jA.mk (jI H14.out)
   have H2 := jA.mk (jI H24.out)
   have HD := jA.mk (jv HD4.out)
   generalize v4.drew = u0 at HL H1 H2 HD hHeld ⊢
   clear HA4 HB4 HL4 H14 H24 HO4 HD4 ca0 ca1 ca2 ca3 cb0 cb1 cb2 cb3 v4
   refine pu_ 0 (some 36) (ba_ 7 1) kr_ ?_
   refine pu_ 1 (some 37) (ba_ 7 3) kr_ ?_
   refine tk9_ 2 (some 38) (ba_ 7 7) kr_ hHeld ?_
   refine tk9_ 3 (some 39) (ba_ 7 15) kr_ hHeld ?_
   refine tk9_ 4 (some 40) (ba_ 7 31) kr_ hHeld ?_
   refine jAh (i := 5) (N := some 41) (ba_ 7 63) rfl rfl kr_ (by decide) (fun K hK => ?_)
   refine jBt #[.pointer (some ⟨g2, 0, none⟩)] Tryz.func79 kr_ rfl #[.agg #[.int .i64 x0, .int .i64 x1, .int .i64 x2, .int .i64 x3], .agg #[.int .i64 y0, .int .i64 y1, .int .i64 y2, .int .i64 y3], .pointer (some ⟨g2, 0, none⟩)] (by rfl) rfl rfl rfl (by (try simp only [List.map_toArray, List.map_cons, List.map_nil]); first | done | rfl) ?_
   refine (jQM g2 (w.heap.size + 1 + 1) x0 x1 x2 x3 y0 y1 y2 y3 u0 H2.out HL.out).mono ?_
   rintro e u1 ⟨rfl, hb⟩
   have HE := jA.mk (jG HD.out hb)
   clear hb
   refine ⟨_, rfl, ?_⟩
   refine hK.out _ _ ?_
   clear hK K
   refine nm_ ?_
   refine pu_ 6 (some 6) (ba_ 7 127) kr_ ?_
   refine jAR kr_ ?_
   go_wp2
   go_ret
   exact ⟨by rw [← HRES.out]; simp [mcmp, ha, hb], HE.out⟩
end Go.Proofs.YtoganbmeedimiaaGreat.POPressOne
