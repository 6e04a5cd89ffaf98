-- Written by a program of this session (pr.py, over the kit's print.py).
import Derived.Test.YtijgeonhbmgikaaPOOctetNumbersx0
import Derived.Test.YtijgeonhbmgikaaPOOctetNumbersx1
namespace Go.Proofs.Ytijgeonhbmgikaa.POOctetNumbers
open Go.RowKit Go.Proofs.YtijgeonhbmgikaaN Go.Proofs.YtijgeonhbmgikaaW.PrintWords Go.Proofs.YtijgeonhbmgikaaW.PrintLast Go.Proofs.YtijgeonhbmgikaaW.PrintMore
attribute [local go_sem] max2_int min2_int max_two min_two max_three min_three max_four min_four   -- for this text's walks alone
set_option linter.unusedVariables false
set_option linter.unusedSimpArgs false

/-! ### octet_Get: function 18 -/

namespace octet_Get
open Oct
theorem undo_c (p q : Addr) (x y : Value) (w : World) (hp : w.cell? p = some x) (hq : w.cell? q = some y) (fp : w.frozen? p = false) (fq : w.frozen? q = false) (hpq : p.block ≠ q.block) :
    Calls Try.prog 60 #[.pointer (some p), .pointer (some q)] w fun e w' => e = .returned (.tuple #[]) ∧ w' = (w.setCell p (.int .u64 0)).setCell q (.string { data := #[] }) := by
  have hq' : (w.setCell p (.int .u64 0)).cell? q = some y := by rw [World.cell?_setCell_other _ _ _ _ (fun e => hpq (by rw [e]))]; exact hq
  go_enter Try.func60, Try.ntmps60
  go_wp2
  go_end0
  exact ⟨rfl, rfl⟩
def W4 (s : ByteArray) (w : World) : World := (((w.alloc (.cells #[.int .u64 0] 22)).alloc (.cells #[.string { data := #[] }] 9)).alloc (.cells #[.int .i64 0] 28)).alloc (.cells #[.string s] 86)
theorem size_alloc0 (w : World) (o : Obj) : (w.alloc o).heap.size = w.heap.size + 1 := Array.size_push _
theorem w4_0 (s : ByteArray) (w : World) : (W4 s w).heap[w.heap.size]? = some (.cells #[.int .u64 0] 22 (0, 0)) := blk_alloc (blk_alloc (blk_alloc (blk_new _ _) _) _) _
theorem w4_1 (s : ByteArray) (w : World) : (W4 s w).heap[w.heap.size + 1]? = some (.cells #[.string { data := #[] }] 9 (0, 0)) := by rw [← size_alloc0 w (.cells #[.int .u64 0] 22)]; exact blk_alloc (blk_alloc (blk_new _ _) _) _
theorem w4_2 (s : ByteArray) (w : World) : (W4 s w).heap[w.heap.size + 1 + 1]? = some (.cells #[.int .i64 0] 28 (0, 0)) := by rw [← size_alloc0 w (.cells #[.int .u64 0] 22), ← size_alloc0 _ (.cells #[.string { data := #[] }] 9)]; exact blk_alloc (blk_new _ _) _
theorem w4_3 (s : ByteArray) (w : World) : (W4 s w).heap[w.heap.size + 1 + 1 + 1]? = some (.cells #[.string s] 86 (0, 0)) := by rw [← size_alloc0 w (.cells #[.int .u64 0] 22), ← size_alloc0 _ (.cells #[.string { data := #[] }] 9), ← size_alloc0 _ (.cells #[.int .i64 0] 28)]; exact blk_new _ _
theorem w4_below (s : ByteArray) (w : World) : Below w.heap.size w (W4 s w) :=
  below_alloc (below_alloc (below_alloc (below_alloc (Below.refl _ w) _) _) _) _
set_option maxHeartbeats 4000000 in
set_option maxRecDepth 100000 in
theorem get_no (s : ByteArray) (w : World) (c : Int) (hn : num s = .inl c) (hz : s.size ≤ 140737488351232) :
    Calls Try.prog 18 #[.string s] w fun e w' => e = .returned (.tuple #[.int .u64 0, .string { data := #[] }, .int .i64 c]) ∧ Below w.heap.size w w' := by
  have hmf : ∀ (fn : Fn) (first cap : Array Value) (w : World), (Instr.makeFunc fn first cap).run Try.prog w = .ok (.func fn first cap) w := fun _ _ _ _ => rfl
  have H0 := Aside0.mk (w4_0 s w)
  have H1 := Aside0.mk (w4_1 s w)
  have H2 := Aside0.mk (w4_2 s w)
  have H3 := Aside0.mk (w4_3 s w)
  have HW := Aside0.mk (w4_below s w)
  have HN := Aside0.mk (numbered_no (g := w.heap.size + 1 + 1 + 1) (w := W4 s w) hn)
  clear hn
  go_enter_defers Try.func18, Try.ntmps18
  go_wp2_with fail
  refine (show Calls Try.prog 61 _ (W4 s w) (Numbered _ s (W4 s w)) from number_c _ s _ H3.out hz).mono ?_
  rw [HN.out]
  generalize W4 s w = W at H0 H1 H2 H3 HW HN ⊢
  rintro e w1 ⟨rfl, hb⟩
  have C0 := Aside0.mk ((hb.block _ (by omega)).trans H0.out)
  have C1 := Aside0.mk ((hb.block _ (by omega)).trans H1.out)
  have C2 := Aside0.mk ((hb.block _ (by omega)).trans H2.out)
  have CB := Aside0.mk (HW.out.trans (hb.mono (by omega)))
  clear hb
  show bodyPostD Try.prog Try.f18 _ (Exit.panic _) _ _
  unfold bodyPostD pan
  refine leaves_cons (f := 59) (args := #[.pointer (some ⟨w.heap.size + 1 + 1, 0, none⟩), .func (.func 60) #[] #[.pointer (some ⟨w.heap.size, 0, none⟩), .pointer (some ⟨w.heap.size + 1, 0, none⟩)]]) (by simp) (by kernel_rfl) ?_
  have D0 := blk_far (p := ⟨w.heap.size + 1 + 1, 0, none⟩) C0.out (by simp; omega) (.int .i64 c)
  have D1 := blk_far (p := ⟨w.heap.size + 1 + 1, 0, none⟩) C1.out (by simp) (.int .i64 c)
  have DB := (CB.out.setCell (p := ⟨w.heap.size + 1 + 1, 0, none⟩) (by simp; omega) (.int .i64 c))
  have HU := undo_c ⟨w.heap.size, 0, none⟩ ⟨w.heap.size + 1, 0, none⟩ _ _ _ ((blk_cell D0 0).trans rfl) ((blk_cell D1 0).trans rfl) (blk_frozen D0 0) (blk_frozen D1 0) (by simp)
  have DU := (DB.setCell (p := ⟨w.heap.size, 0, none⟩) (by simp) (.int .u64 0)).setCell (p := ⟨w.heap.size + 1, 0, none⟩) (by simp) (.string { data := #[] })
  have E2 := blk_far (p := ⟨w.heap.size + 1, 0, none⟩) (blk_far (p := ⟨w.heap.size, 0, none⟩) (blk_put (cs' := #[.int .i64 c]) C2.out 0 (.int .i64 c) rfl) (by simp; omega) (.int .u64 0)) (by simp) (.string { data := #[] })
  have E0 := blk_far (p := ⟨w.heap.size + 1, 0, none⟩) (blk_put (cs' := #[.int .u64 0]) D0 0 (.int .u64 0) rfl) (by simp) (.string { data := #[] })
  have E1 := blk_put (cs' := #[.string { data := #[] }]) (blk_far (p := ⟨w.heap.size, 0, none⟩) D1 (by simp) (.int .u64 0)) 0 (.string { data := #[] }) rfl
  refine (caught_panic ⟨w.heap.size + 1 + 1, 0, none⟩ 0 c 60 Try.f60 _ [] w1 _ ((blk_cell C2.out 0).trans rfl) (blk_frozen C2.out 0) (fun _ _ => by kernel_rfl) HU).mono ?_
  rintro e u' w'' ⟨rfl, rfl, rfl⟩
  have F2 := (blk_cell E2 0).trans (show _ = some (.int .i64 c) from rfl)
  have F0 := (blk_cell E0 0).trans (show _ = some (.int .u64 0) from rfl)
  have F1 := (blk_cell E1 0).trans (show _ = some (.string { data := #[] }) from rfl)
  clear E0 E1 E2 HU D0 D1 DB
  generalize ((w1.setCell ⟨w.heap.size + 1 + 1, 0, none⟩ (.int .i64 c)).setCell ⟨w.heap.size, 0, none⟩ (.int .u64 0)).setCell ⟨w.heap.size + 1, 0, none⟩ (.string { data := #[] }) = w3 at DU F0 F1 F2 ⊢
  simp [Leaves, settle, results, Try.results18, go_sem, F0, F1, F2]
  exact DU
set_option maxHeartbeats 4000000 in
set_option maxRecDepth 100000 in
theorem get_yes (s : ByteArray) (w : World) (n : Int) (t : ByteArray) (hn : num s = .inr (n, t)) (hz : s.size ≤ 140737488351232) :
    Calls Try.prog 18 #[.string s] w fun e w' => e = .returned (.tuple #[.int .u64 n, .string t, .int .i64 0]) ∧ Below w.heap.size w w' := by
  have hmf : ∀ (fn : Fn) (first cap : Array Value) (w : World), (Instr.makeFunc fn first cap).run Try.prog w = .ok (.func fn first cap) w := fun _ _ _ _ => rfl
  have H0 := Aside0.mk (w4_0 s w)
  have H1 := Aside0.mk (w4_1 s w)
  have H2 := Aside0.mk (w4_2 s w)
  have H3 := Aside0.mk (w4_3 s w)
  have HW := Aside0.mk (w4_below s w)
  have HN := Aside0.mk (numbered_yes (g := w.heap.size + 1 + 1 + 1) (w := W4 s w) hn)
  clear hn
  go_enter_defers Try.func18, Try.ntmps18
  go_wp2_with fail
  refine (show Calls Try.prog 61 _ (W4 s w) (Numbered _ s (W4 s w)) from number_c _ s _ H3.out hz).mono ?_
  rw [HN.out]
  generalize W4 s w = W at H0 H1 H2 H3 HW HN ⊢
  rintro e w1 ⟨rfl, hb, h3⟩
  have C0 := (hb.block _ (by omega)).trans H0.out
  have C1 := (hb.block _ (by omega)).trans H1.out
  have C2 := (hb.block _ (by omega)).trans H2.out
  have CB := HW.out.trans (hb.mono (by omega))
  have X3 := (blk_cell h3 0).trans (show _ = some (.string t) from rfl)
  have X0 := (blk_cell C0 0).trans (show _ = some (.int .u64 0) from rfl)
  have Z0 := blk_frozen C0 0
  clear hb HN HW H0 H1 H2 H3
  have CBB := Aside0.mk CB
  have D0 := Aside0.mk (blk_put (cs' := #[.int .u64 n]) C0 0 (.int .u64 n) rfl)
  have D1 := Aside0.mk (blk_far (p := ⟨w.heap.size, 0, none⟩) C1 (by simp) (.int .u64 n))
  have D2 := Aside0.mk (blk_far (p := ⟨w.heap.size, 0, none⟩) C2 (by simp; omega) (.int .u64 n))
  have D3 := Aside0.mk (blk_far (p := ⟨w.heap.size, 0, none⟩) h3 (by simp; omega) (.int .u64 n))
  have DB := Aside0.mk (CB.setCell (p := ⟨w.heap.size, 0, none⟩) (by simp) (.int .u64 n))
  clear C0 C1 C2 CB h3
  go_wp2
  generalize w1.setCell ⟨w.heap.size, 0, none⟩ (.int .u64 n) = v0 at D0 D1 D2 D3 DB ⊢
  refine wp_sure ?_
  refine start_ (n := 8) (S := fun w' => w'.heap[w.heap.size]? = some (.cells #[.int .u64 n] 22 (0, 0)) ∧ w'.heap[w.heap.size + 1]? = some (.cells #[.string { data := #[] }] 9 (0, 0)) ∧ w'.heap[w.heap.size + 1 + 1]? = some (.cells #[.int .i64 0] 28 (0, 0)) ∧ w'.heap[w.heap.size + 1 + 1 + 1]? = some (.cells #[.string t] 86 (0, 0)) ∧ Below w.heap.size w w') (ds := [6, 7]) #[false, false, false, false, false, false, false, false] (by kernel_rfl) rfl rfl ⟨blk_drew D0.out, blk_drew D1.out, blk_drew D2.out, blk_drew D3.out, below_drew DB.out⟩ (fun hHeld => ?_)
  generalize v0.drew = u0 at hHeld ⊢
  clear D0 D1 D2 D3 DB
  refine take_ (i := 0) (N := some 12) (v := ?_) (a' := ?_) #[true, false, false, false, false, false, false, false] rfl rfl (by kernel_rfl) (fun _ _ _ h => h) (Or.inl ⟨by rfl, ?_⟩) hHeld ?_ ?_
  rotate_left
  · rintro w' ⟨s0_, s1_, s2_, s3_, s4_⟩
    have hc := (blk_cell s0_ 0).trans (show _ = some (.int .u64 n) from rfl)
    go_simp
    with_reducible rfl
  rotate_left
  · simp only [Act.put, List.setIfInBounds_toArray, List.set_cons_zero, List.set_cons_succ, i64_w, i32_w]
    rfl
  refine pure_ (i := 1) (N := some 13) (v := ?_) (a' := ?_) #[true, true, false, false, false, false, false, false] rfl rfl (by kernel_rfl) (fun _ _ _ h => h) (Or.inl ⟨by rfl, ?_⟩) ?_ ?_
  rotate_left
  · intro w'
    go_simp
    with_reducible rfl
  rotate_left
  · simp only [Act.put, List.setIfInBounds_toArray, List.set_cons_zero, List.set_cons_succ, i64_w, i32_w]
    rfl
  refine pure_ (i := 2) (N := some 14) (v := ?_) (a' := ?_) #[true, true, true, false, false, false, false, false] rfl rfl (by kernel_rfl) (fun _ _ _ h => h) (Or.inl ⟨by rfl, ?_⟩) ?_ ?_
  rotate_left
  · intro w'
    go_simp
    with_reducible rfl
  rotate_left
  · simp only [Act.put, List.setIfInBounds_toArray, List.set_cons_zero, List.set_cons_succ, i64_w, i32_w]
    rfl
  refine pure_ (i := 3) (N := some 15) (v := ?_) (a' := ?_) #[true, true, true, true, false, false, false, false] rfl rfl (by kernel_rfl) (fun _ _ _ h => h) (Or.inl ⟨by rfl, ?_⟩) ?_ ?_
  rotate_left
  · intro w'
    go_simp
    with_reducible rfl
  rotate_left
  · simp only [Act.put, List.setIfInBounds_toArray, List.set_cons_zero, List.set_cons_succ, i64_w, i32_w]
    rfl
  refine take_ (i := 4) (N := some 16) (v := ?_) (a' := ?_) #[true, true, true, true, true, false, false, false] rfl rfl (by kernel_rfl) (fun _ _ _ h => h) (Or.inl ⟨by rfl, ?_⟩) hHeld ?_ ?_
  rotate_left
  · rintro w' ⟨s0_, s1_, s2_, s3_, s4_⟩
    have hc := (blk_cell s3_ 0).trans (show _ = some (.string t) from rfl)
    go_simp
    with_reducible rfl
  rotate_left
  · simp only [Act.put, List.setIfInBounds_toArray, List.set_cons_zero, List.set_cons_succ, i64_w, i32_w]
    rfl
  obtain ⟨s0_, s1_, s2_, s3_, s4_⟩ := hHeld
  refine one_ (i := 5) (N := none) #[true, true, true, true, true, true, false, false] rfl rfl (by kernel_rfl) (by decide) (fun K hK => ?_)
  have hc := (blk_cell s0_ 0).trans (show _ = some (.int .u64 n) from rfl)
  have hf := blk_frozen s0_ 0
  refine skip_ (w1 := ?_) (by rfl) rfl ?_ ?_
  rotate_left
  · go_simp
    rfl
  refine hK.out _ _ ⟨blk_put s0_ 0 (.int .u64 n) rfl, blk_far (p := ⟨w.heap.size, 0, none⟩) s1_ (by simp) (.int .u64 n), blk_far (p := ⟨w.heap.size, 0, none⟩) s2_ (by simp; omega) (.int .u64 n), blk_far (p := ⟨w.heap.size, 0, none⟩) s3_ (by simp; omega) (.int .u64 n), s4_.setCell (p := ⟨w.heap.size, 0, none⟩) (by simp) (.int .u64 n)⟩ (fun hHeld => ?_)
  clear hK K
  obtain ⟨s0_, s1_, s2_, s3_, s4_⟩ := hHeld
  refine last_ (i := 6) (N := none) #[true, true, true, true, true, true, true, false] rfl rfl (by kernel_rfl) (by decide) (fun K hK => ?_)
  have hc := (blk_cell s1_ 0).trans (show _ = some (.string { data := #[] }) from rfl)
  have hf := blk_frozen s1_ 0
  refine skip_ (w1 := ?_) (by rfl) rfl ?_ ?_
  rotate_left
  · go_simp
    rfl
  refine hK.out _ _ ?_
  clear hK K
  have e0 := blk_far (p := ⟨w.heap.size + 1, 0, none⟩) s0_ (by simp) (.string t)
  have e1 := blk_put (cs' := #[.string t]) s1_ 0 (.string t) rfl
  have e2 := blk_far (p := ⟨w.heap.size + 1, 0, none⟩) s2_ (by simp) (.string t)
  have e4 := s4_.setCell (p := ⟨w.heap.size + 1, 0, none⟩) (by simp) (.string t)
  have c2 := (blk_cell s2_ 0).trans (show _ = some (.int .i64 0) from rfl)
  have z2 := blk_frozen s2_ 0
  clear s0_ s1_ s2_ s3_ s4_
  refine last_ (i := 7) (N := none) #[true, true, true, true, true, true, true, true] rfl rfl (by kernel_rfl) (by decide) (fun K hK => ?_)
  have hc := (blk_cell e2 0).trans (show _ = some (.int .i64 0) from rfl)
  have hf := blk_frozen e2 0
  refine skip_ (w1 := ?_) (by rfl) rfl ?_ ?_
  rotate_left
  · go_simp
    rfl
  refine hK.out _ _ ?_
  clear hK K
  have f0 := (blk_cell (blk_far (p := ⟨w.heap.size + 1 + 1, 0, none⟩) e0 (by simp; omega) (.int .i64 0)) 0).trans (show _ = some (.int .u64 n) from rfl)
  have f1 := (blk_cell (blk_far (p := ⟨w.heap.size + 1 + 1, 0, none⟩) e1 (by simp) (.int .i64 0)) 0).trans (show _ = some (.string t) from rfl)
  have f2 := (blk_cell (blk_put (cs' := #[.int .i64 0]) e2 0 (.int .i64 0) rfl) 0).trans (show _ = some (.int .i64 0) from rfl)
  have f4 := e4.setCell (p := ⟨w.heap.size + 1 + 1, 0, none⟩) (by simp; omega) (.int .i64 0)
  clear e0 e1 e2 e4
  refine done_ (by kernel_rfl) ?_
  refine noPanic_normal ?_
  refine (‹∀ (a : Act) (w : World), Code.wp Try.prog Code.ret _ a w → _›) _ _ ?_
  clear hc hf c2 z2 X3 X0 Z0 CBB
  go_wp2
  generalize ((u0.setCell ⟨w.heap.size, 0, none⟩ (.int .u64 n)).setCell ⟨w.heap.size + 1, 0, none⟩ (.string t)).setCell ⟨w.heap.size + 1 + 1, 0, none⟩ (.int .i64 0) = w3 at f0 f1 f2 f4 ⊢
  unfold bodyPostD
  refine leaves_cons (f := 59) (args := #[.pointer (some ⟨w.heap.size + 1 + 1, 0, none⟩), .func (.func 60) #[] #[.pointer (some ⟨w.heap.size, 0, none⟩), .pointer (some ⟨w.heap.size + 1, 0, none⟩)]]) (by simp) (by kernel_rfl) ?_
  refine (caught_idle _ _ _).mono ?_
  rintro e u' w'' ⟨rfl, rfl, rfl⟩
  simp [Leaves, settle, results, Try.results18, go_sem, f0, f1, f2]
  exact f4
end octet_Get
def octet_Get.f (a0 : ByteArray) : Option (Int × ByteArray × Int) := if a0.size ≤ 140737488351232 then some (match Oct.num a0 with | .inl c => (0, { data := #[] }, c) | .inr (n, t) => (n, t, 0)) else none
theorem octet_Get.calls (a0 : ByteArray) (r1 : Int) (r2 : ByteArray) (r3 : Int) (w : World) (h : octet_Get.f a0 = some (r1, r2, r3)) :
    Calls Try.prog 18 #[.string a0] w fun e w' => e = .returned (.tuple #[.int .u64 r1, .string r2, .int .i64 r3]) ∧ Below w.heap.size w w' := by
  unfold octet_Get.f at h
  by_cases hz : a0.size ≤ 140737488351232
  · rw [if_pos hz] at h
    cases hn : Oct.num a0 with
    | inl c =>
      rw [hn] at h
      cases h
      exact octet_Get.get_no a0 w _ hn hz
    | inr p =>
      obtain ⟨n, t⟩ := p
      rw [hn] at h
      cases h
      exact octet_Get.get_yes a0 w _ _ hn hz
  · rw [if_neg hz] at h; cases h

/-! ### syzygylaw06_shown: function 16 -/
def syzygylaw06_shown.f (k : Nat)  : Option (Bool) := (octet_Put.f k 258).bind fun t110 => (if t110.size + 1 ≤ 9223372036854775807 then ((octet_Get.f (t110 ++ (⟨#[122]⟩ : ByteArray))).bind fun bt111 => (if bt111.1 = 258 then (if bt111.2.1.toList = ([122] : List UInt8) then (if bt111.2.2 = 0 then ((octet_Put.f k 258).bind fun t114 => (some (t114.toList == ([2, 1, 2] : List UInt8)))) else (some false)) else (some false)) else (some false))) else (none))
theorem syzygylaw06_shown.mono : ∀ k, LeO (syzygylaw06_shown.f k ) (syzygylaw06_shown.f (k + 1) ) := by
  intro  k
  unfold syzygylaw06_shown.f
  repeat' first
      | (with_reducible exact octet_Put.mono _ _)
      | (with_reducible exact LeO.refl _)
      | (with_reducible exact LeO.none _)
      | (with_reducible refine LeO.ite ?_ ?_)
      | (with_reducible refine LeO.bind ?_ (fun _ => ?_))
      | exact octet_Put.mono _ _
      | exact LeO.none _
      | refine LeO.ite ?_ ?_
      | refine LeO.bind ?_ (fun _ => ?_)
set_option maxHeartbeats 8000000 in
set_option maxRecDepth 100000 in
theorem syzygylaw06_shown.calls (k : Nat)  (r : Bool) (w : World) (h : syzygylaw06_shown.f k  = some r) :
    Calls Try.prog 16 #[] w fun e w' => e = .returned (.bool r) ∧ Below w.heap.size w w' := by
  have HB := Aside0.mk (Below.refl w.heap.size w)
  have H : ((octet_Put.f k 258).bind fun t110 => (if t110.size + 1 ≤ 9223372036854775807 then ((octet_Get.f (t110 ++ (⟨#[122]⟩ : ByteArray))).bind fun bt111 => (if bt111.1 = 258 then (if bt111.2.1.toList = ([122] : List UInt8) then (if bt111.2.2 = 0 then ((octet_Put.f k 258).bind fun t114 => (some (t114.toList == ([2, 1, 2] : List UInt8)))) else (some false)) else (some false)) else (some false))) else (none))) = some r := h
  clear h
  replace H := Option.bind_eq_some_iff.mp H
  obtain ⟨t110, A10, H⟩ := H
  replace H : (if t110.size + 1 ≤ 9223372036854775807 then ((octet_Get.f (t110 ++ (⟨#[122]⟩ : ByteArray))).bind fun bt111 => (if bt111.1 = 258 then (if bt111.2.1.toList = ([122] : List UInt8) then (if bt111.2.2 = 0 then ((octet_Put.f k 258).bind fun t114 => (some (t114.toList == ([2, 1, 2] : List UInt8)))) else (some false)) else (some false)) else (some false))) else (none)) = some r := H
  have A1 := Aside0.mk A10
  clear A10
  by_cases c2 : t110.size + 1 ≤ 9223372036854775807
  · rw [if_pos c2] at H
    have c2b0 := eq_true c2
    have c2b1 : decide (t110.size + 1 ≤ 9223372036854775807) = true := decide_eq_true c2
    try have c2b2 : (9223372036854775807 < t110.size + 1) = False := eq_false (Nat.not_lt.2 c2)
    replace H := Option.bind_eq_some_iff.mp H
    obtain ⟨⟨t111, t112, t113⟩, A30, H⟩ := H
    replace H : (if t111 = 258 then (if t112.toList = ([122] : List UInt8) then (if t113 = 0 then ((octet_Put.f k 258).bind fun t114 => (some (t114.toList == ([2, 1, 2] : List UInt8)))) else (some false)) else (some false)) else (some false)) = some r := H
    have A3 := Aside0.mk A30
    clear A30
    by_cases c4 : t111 = 258
    · rw [if_pos c4] at H
      have c4b0 : (t111 == 258) = true := beq_iff_eq.mpr c4
      have c4b1 : (t111 != 258) = false := bne_eq_false_iff_eq.mpr c4
      clear c4
      by_cases c5 : t112.toList = ([122] : List UInt8)
      · rw [if_pos c5] at H
        have c5b0 : (t112.toList == ([122] : List UInt8)) = true := beq_iff_eq.mpr c5
        have c5b1 : (t112.toList != ([122] : List UInt8)) = false := bne_eq_false_iff_eq.mpr c5
        clear c5
        by_cases c6 : t113 = 0
        · rw [if_pos c6] at H
          have c6b0 : (t113 == 0) = true := beq_iff_eq.mpr c6
          have c6b1 : (t113 != 0) = false := bne_eq_false_iff_eq.mpr c6
          clear c6
          replace H := Option.bind_eq_some_iff.mp H
          obtain ⟨t114, A70, H⟩ := H
          replace H : (some (t114.toList == ([2, 1, 2] : List UInt8))) = some r := H
          have A7 := Aside0.mk A70
          clear A70
          obtain rfl := Option.some.inj H
          go_enter Try.func16, Try.ntmps16
          go_wp2_with (first | ((with_reducible refine gate_callee (f := 15) rfl ?_); refine goesL_ (some 5) rfl rfl Try.func15 (by kernel_rfl) rfl #[.int .u64 258] rfl (by (try simp only [List.map_toArray, List.map_cons, List.map_nil]); first | done | rfl | (simp only [List.length_drop, List.length_take]; rfl)) ?_; (with_reducible refine (octet_Put.calls k 258 t110 _ A1.out).mono ?_); rintro e w8 ⟨rfl, hb⟩; refine ⟨_, rfl, ?_⟩; have n0_ := Aside0.mk (below_step (by repeat (first | (with_reducible first | exact HB.out | apply below_alloc | apply pw_below_drewN | apply below_drew1) | exact HB.out)) hb); clear HB; have HB := n0_; clear n0_; (try clear hb); (try clear hb2); (try clear hk); (try clear hi)) | ((with_reducible refine gate_callee (f := 18) rfl ?_); refine goesL_ (some 7) rfl rfl Try.func18 (by kernel_rfl) rfl #[.string (t110 ++ (⟨#[122]⟩ : ByteArray))] rfl (by (try simp only [List.map_toArray, List.map_cons, List.map_nil]); first | done | rfl | (simp only [List.length_drop, List.length_take]; rfl)) ?_; (with_reducible refine (octet_Get.calls (t110 ++ (⟨#[122]⟩ : ByteArray)) t111 t112 t113 _ A3.out).mono ?_); rintro e w9 ⟨rfl, hb⟩; refine ⟨_, rfl, ?_⟩; have n0_ := Aside0.mk (below_step (by repeat (first | (with_reducible first | exact HB.out | apply below_alloc | apply pw_below_drewN | apply below_drew1) | exact HB.out)) hb); clear HB; have HB := n0_; clear n0_; (try clear hb); (try clear hb2); (try clear hk); (try clear hi)) | ((with_reducible refine gate_dst (N := 22) rfl ?_); refine gate_guard (by first | rfl | kernel_rfl) ?_; dsimp only; (with_reducible refine gate_callee (f := 15) rfl ?_); refine goesL_ (some 22) rfl rfl Try.func15 (by kernel_rfl) rfl #[.int .u64 258] rfl (by (try simp only [List.map_toArray, List.map_cons, List.map_nil]); first | done | rfl | (simp only [List.length_drop, List.length_take]; rfl)) ?_; (with_reducible refine (octet_Put.calls k 258 t114 _ A7.out).mono ?_); rintro e w10 ⟨rfl, hb⟩; refine ⟨_, rfl, ?_⟩; have n0_ := Aside0.mk (below_step (by repeat (first | (with_reducible first | exact HB.out | apply below_alloc | apply pw_below_drewN | apply below_drew1) | exact HB.out)) hb); clear HB; have HB := n0_; clear n0_; (try clear hb); (try clear hb2); (try clear hk); (try clear hi)))
          go_ret
          exact ⟨by first | rfl | (simp [errW_none, errW_some] <;> rfl) | (simp [*, errW_none, errW_some] <;> rfl), by repeat (first | (with_reducible first | exact HB.out | apply below_alloc | apply pw_below_drewN | apply below_drew1) | exact HB.out)⟩
        · rw [if_neg c6] at H
          have c6b0 : (t113 == 0) = false := beq_eq_false_iff_ne.mpr c6
          have c6b1 : (t113 != 0) = true := bne_iff_ne.mpr c6
          obtain rfl := Option.some.inj H
          go_enter Try.func16, Try.ntmps16
          go_wp2_with (first | ((with_reducible refine gate_callee (f := 15) rfl ?_); refine goesL_ (some 5) rfl rfl Try.func15 (by kernel_rfl) rfl #[.int .u64 258] rfl (by (try simp only [List.map_toArray, List.map_cons, List.map_nil]); first | done | rfl | (simp only [List.length_drop, List.length_take]; rfl)) ?_; (with_reducible refine (octet_Put.calls k 258 t110 _ A1.out).mono ?_); rintro e w11 ⟨rfl, hb⟩; refine ⟨_, rfl, ?_⟩; have n0_ := Aside0.mk (below_step (by repeat (first | (with_reducible first | exact HB.out | apply below_alloc | apply pw_below_drewN | apply below_drew1) | exact HB.out)) hb); clear HB; have HB := n0_; clear n0_; (try clear hb); (try clear hb2); (try clear hk); (try clear hi)) | ((with_reducible refine gate_callee (f := 18) rfl ?_); refine goesL_ (some 7) rfl rfl Try.func18 (by kernel_rfl) rfl #[.string (t110 ++ (⟨#[122]⟩ : ByteArray))] rfl (by (try simp only [List.map_toArray, List.map_cons, List.map_nil]); first | done | rfl | (simp only [List.length_drop, List.length_take]; rfl)) ?_; (with_reducible refine (octet_Get.calls (t110 ++ (⟨#[122]⟩ : ByteArray)) t111 t112 t113 _ A3.out).mono ?_); rintro e w12 ⟨rfl, hb⟩; refine ⟨_, rfl, ?_⟩; have n0_ := Aside0.mk (below_step (by repeat (first | (with_reducible first | exact HB.out | apply below_alloc | apply pw_below_drewN | apply below_drew1) | exact HB.out)) hb); clear HB; have HB := n0_; clear n0_; (try clear hb); (try clear hb2); (try clear hk); (try clear hi)))
          go_ret
          exact ⟨by first | rfl | (simp [errW_none, errW_some] <;> rfl) | (simp [*, errW_none, errW_some] <;> rfl), by repeat (first | (with_reducible first | exact HB.out | apply below_alloc | apply pw_below_drewN | apply below_drew1) | exact HB.out)⟩
      · rw [if_neg c5] at H
        have c5b0 : (t112.toList == ([122] : List UInt8)) = false := beq_eq_false_iff_ne.mpr c5
        have c5b1 : (t112.toList != ([122] : List UInt8)) = true := bne_iff_ne.mpr c5
        obtain rfl := Option.some.inj H
        go_enter Try.func16, Try.ntmps16
        go_wp2_with (first | ((with_reducible refine gate_callee (f := 15) rfl ?_); refine goesL_ (some 5) rfl rfl Try.func15 (by kernel_rfl) rfl #[.int .u64 258] rfl (by (try simp only [List.map_toArray, List.map_cons, List.map_nil]); first | done | rfl | (simp only [List.length_drop, List.length_take]; rfl)) ?_; (with_reducible refine (octet_Put.calls k 258 t110 _ A1.out).mono ?_); rintro e w13 ⟨rfl, hb⟩; refine ⟨_, rfl, ?_⟩; have n0_ := Aside0.mk (below_step (by repeat (first | (with_reducible first | exact HB.out | apply below_alloc | apply pw_below_drewN | apply below_drew1) | exact HB.out)) hb); clear HB; have HB := n0_; clear n0_; (try clear hb); (try clear hb2); (try clear hk); (try clear hi)) | ((with_reducible refine gate_callee (f := 18) rfl ?_); refine goesL_ (some 7) rfl rfl Try.func18 (by kernel_rfl) rfl #[.string (t110 ++ (⟨#[122]⟩ : ByteArray))] rfl (by (try simp only [List.map_toArray, List.map_cons, List.map_nil]); first | done | rfl | (simp only [List.length_drop, List.length_take]; rfl)) ?_; (with_reducible refine (octet_Get.calls (t110 ++ (⟨#[122]⟩ : ByteArray)) t111 t112 t113 _ A3.out).mono ?_); rintro e w14 ⟨rfl, hb⟩; refine ⟨_, rfl, ?_⟩; have n0_ := Aside0.mk (below_step (by repeat (first | (with_reducible first | exact HB.out | apply below_alloc | apply pw_below_drewN | apply below_drew1) | exact HB.out)) hb); clear HB; have HB := n0_; clear n0_; (try clear hb); (try clear hb2); (try clear hk); (try clear hi)))
        go_ret
        exact ⟨by first | rfl | (simp [errW_none, errW_some] <;> rfl) | (simp [*, errW_none, errW_some] <;> rfl), by repeat (first | (with_reducible first | exact HB.out | apply below_alloc | apply pw_below_drewN | apply below_drew1) | exact HB.out)⟩
    · rw [if_neg c4] at H
      have c4b0 : (t111 == 258) = false := beq_eq_false_iff_ne.mpr c4
      have c4b1 : (t111 != 258) = true := bne_iff_ne.mpr c4
      obtain rfl := Option.some.inj H
      go_enter Try.func16, Try.ntmps16
      go_wp2_with (first | ((with_reducible refine gate_callee (f := 15) rfl ?_); refine goesL_ (some 5) rfl rfl Try.func15 (by kernel_rfl) rfl #[.int .u64 258] rfl (by (try simp only [List.map_toArray, List.map_cons, List.map_nil]); first | done | rfl | (simp only [List.length_drop, List.length_take]; rfl)) ?_; (with_reducible refine (octet_Put.calls k 258 t110 _ A1.out).mono ?_); rintro e w15 ⟨rfl, hb⟩; refine ⟨_, rfl, ?_⟩; have n0_ := Aside0.mk (below_step (by repeat (first | (with_reducible first | exact HB.out | apply below_alloc | apply pw_below_drewN | apply below_drew1) | exact HB.out)) hb); clear HB; have HB := n0_; clear n0_; (try clear hb); (try clear hb2); (try clear hk); (try clear hi)) | ((with_reducible refine gate_callee (f := 18) rfl ?_); refine goesL_ (some 7) rfl rfl Try.func18 (by kernel_rfl) rfl #[.string (t110 ++ (⟨#[122]⟩ : ByteArray))] rfl (by (try simp only [List.map_toArray, List.map_cons, List.map_nil]); first | done | rfl | (simp only [List.length_drop, List.length_take]; rfl)) ?_; (with_reducible refine (octet_Get.calls (t110 ++ (⟨#[122]⟩ : ByteArray)) t111 t112 t113 _ A3.out).mono ?_); rintro e w16 ⟨rfl, hb⟩; refine ⟨_, rfl, ?_⟩; have n0_ := Aside0.mk (below_step (by repeat (first | (with_reducible first | exact HB.out | apply below_alloc | apply pw_below_drewN | apply below_drew1) | exact HB.out)) hb); clear HB; have HB := n0_; clear n0_; (try clear hb); (try clear hb2); (try clear hk); (try clear hi)))
      go_ret
      exact ⟨by first | rfl | (simp [errW_none, errW_some] <;> rfl) | (simp [*, errW_none, errW_some] <;> rfl), by repeat (first | (with_reducible first | exact HB.out | apply below_alloc | apply pw_below_drewN | apply below_drew1) | exact HB.out)⟩
  · rw [if_neg c2] at H
    exact absurd H (by simp)

/-! ### syzygylaw06_OctetNumbers: function 3 -/
def syzygylaw06_OctetNumbers.f (k : Nat) (a0 : Int) (a1 : Int) : Option (Bool) := (octet_Put.f k (mn a0 a1)).bind fun t115 => ((octet_Put.f k (mx a0 a1)).bind fun t116 => (if ((t115.toList == t116.toList) == (a0 == a1)) = true then (if (t115.size : Int) ≤ (t116.size : Int) then (if (t116.size : Int) ≤ 9 then ((syzygylaw06_shown.f k).bind fun t117 => (some t117)) else (some false)) else (some false)) else (some false)))
theorem syzygylaw06_OctetNumbers.mono : ∀ a0 a1 k, LeO (syzygylaw06_OctetNumbers.f k a0 a1) (syzygylaw06_OctetNumbers.f (k + 1) a0 a1) := by
  intro a0 a1 k
  unfold syzygylaw06_OctetNumbers.f
  repeat' first
      | (with_reducible exact octet_Put.mono _ _)
      | (with_reducible exact syzygylaw06_shown.mono _)
      | (with_reducible exact LeO.refl _)
      | (with_reducible exact LeO.none _)
      | (with_reducible refine LeO.ite ?_ ?_)
      | (with_reducible refine LeO.bind ?_ (fun _ => ?_))
      | exact octet_Put.mono _ _
      | exact syzygylaw06_shown.mono _
      | exact LeO.none _
      | refine LeO.ite ?_ ?_
      | refine LeO.bind ?_ (fun _ => ?_)
set_option maxHeartbeats 8000000 in
set_option maxRecDepth 100000 in
theorem syzygylaw06_OctetNumbers.calls (k : Nat) (a0 : Int) (a1 : Int) (w : World) (h : syzygylaw06_OctetNumbers.f k a0 a1 = some true) :
    Calls Try.prog 3 #[.int .u64 a0, .int .u64 a1] w fun e w' => e = .returned (.bool true) ∧ Below w.heap.size w w' := by
  have HB := Aside0.mk (Below.refl w.heap.size w)
  have H : ((octet_Put.f k (mn a0 a1)).bind fun t115 => ((octet_Put.f k (mx a0 a1)).bind fun t116 => (if ((t115.toList == t116.toList) == (a0 == a1)) = true then (if (t115.size : Int) ≤ (t116.size : Int) then (if (t116.size : Int) ≤ 9 then ((syzygylaw06_shown.f k).bind fun t117 => (some t117)) else (some false)) else (some false)) else (some false)))) = some true := h
  clear h
  obtain ⟨ji3, hji3⟩ : ∃ j_ : Int, (mn a0 a1) = j_ := ⟨_, rfl⟩
  replace H : ((octet_Put.f k (ji3)).bind fun t115 => ((octet_Put.f k (mx a0 a1)).bind fun t116 => (if ((t115.toList == t116.toList) == (a0 == a1)) = true then (if (t115.size : Int) ≤ (t116.size : Int) then (if (t116.size : Int) ≤ 9 then ((syzygylaw06_shown.f k).bind fun t117 => (some t117)) else (some false)) else (some false)) else (some false)))) = some true := by first | (rw [hji3] at H; exact H) | (simp only [hji3] at H ⊢; exact H)
  have hji3_ : (if a1 < a0 then a1 else a0) = ji3 := hji3
  replace H := Option.bind_eq_some_iff.mp H
  obtain ⟨t115, A40, H⟩ := H
  replace H : ((octet_Put.f k (mx a0 a1)).bind fun t116 => (if ((t115.toList == t116.toList) == (a0 == a1)) = true then (if (t115.size : Int) ≤ (t116.size : Int) then (if (t116.size : Int) ≤ 9 then ((syzygylaw06_shown.f k).bind fun t117 => (some t117)) else (some false)) else (some false)) else (some false))) = some true := H
  have A4 := Aside0.mk A40
  clear A40
  obtain ⟨ji5, hji5⟩ : ∃ j_ : Int, (mx a0 a1) = j_ := ⟨_, rfl⟩
  replace H : ((octet_Put.f k (ji5)).bind fun t116 => (if ((t115.toList == t116.toList) == (a0 == a1)) = true then (if (t115.size : Int) ≤ (t116.size : Int) then (if (t116.size : Int) ≤ 9 then ((syzygylaw06_shown.f k).bind fun t117 => (some t117)) else (some false)) else (some false)) else (some false))) = some true := by first | (rw [hji5] at H; exact H) | (simp only [hji5] at H ⊢; exact H)
  (try rw [hji5] at A4)
  have hji5_ : (if a0 < a1 then a1 else a0) = ji5 := hji5
  replace H := Option.bind_eq_some_iff.mp H
  obtain ⟨t116, A60, H⟩ := H
  replace H : (if ((t115.toList == t116.toList) == (a0 == a1)) = true then (if (t115.size : Int) ≤ (t116.size : Int) then (if (t116.size : Int) ≤ 9 then ((syzygylaw06_shown.f k).bind fun t117 => (some t117)) else (some false)) else (some false)) else (some false)) = some true := H
  have A6 := Aside0.mk A60
  clear A60
  by_cases c7 : ((t115.toList == t116.toList) == (a0 == a1)) = true
  · rw [if_pos c7] at H
    have c7b0 : ((t115.toList == t116.toList) == (a0 == a1)) = true := c7
    (try (have c7b1 : decide ((t115.toList == t116.toList) = (a0 == a1)) = true := by simpa using c7))
    (try (have c7b2 : ((t115.toList == t116.toList) == (a0 == a1)) = true := by simpa using c7))
    clear c7
    by_cases c8 : (t115.size : Int) ≤ (t116.size : Int)
    · rw [if_pos c8] at H
      have c8b0 : decide ((t115.size : Int) ≤ (t116.size : Int)) = true := decide_eq_true c8
      have c8b1 : decide (t115.size ≤ t116.size) = true := decide_eq_true (Int.ofNat_le.mp c8)
      clear c8
      by_cases c9 : (t116.size : Int) ≤ 9
      · rw [if_pos c9] at H
        have c9b0 : decide ((t116.size : Int) ≤ 9) = true := decide_eq_true c9
        have c9b1 : decide (t116.size ≤ 9) = true := decide_eq_true (by omega)
        clear c9
        replace H := Option.bind_eq_some_iff.mp H
        obtain ⟨t117, A100, H⟩ := H
        replace H : (some t117) = some true := H
        have A10 := Aside0.mk A100
        clear A100
        have HRT_ := Aside0.mk (Option.some.inj H)
        clear H
        go_enter Try.func3, Try.ntmps3
        go_wp2_with (first | ((with_reducible refine gate_callee (f := 15) rfl ?_); refine goesL_ (some 10) rfl rfl Try.func15 (by kernel_rfl) rfl #[.int .u64 ji3] rfl (by (try simp only [List.map_toArray, List.map_cons, List.map_nil]); first | done | (simp only [hji3]; rfl) | rfl | (simp only [List.length_drop, List.length_take]; rfl)) ?_; (with_reducible refine (octet_Put.calls k ji3 t115 _ A4.out).mono ?_); rintro e w11 ⟨rfl, hb⟩; refine ⟨_, rfl, ?_⟩; have n0_ := Aside0.mk (below_step (by repeat (first | (with_reducible first | exact HB.out | apply below_alloc | apply pw_below_drewN | apply below_drew1) | exact HB.out)) hb); clear HB; have HB := n0_; clear n0_; (try clear hb); (try clear hb2); (try clear hk); (try clear hi)) | ((with_reducible refine gate_callee (f := 15) rfl ?_); refine goesL_ (some 14) rfl rfl Try.func15 (by kernel_rfl) rfl #[.int .u64 ji5] rfl (by (try simp only [List.map_toArray, List.map_cons, List.map_nil]); first | done | (simp only [hji5]; rfl) | rfl | (simp only [List.length_drop, List.length_take]; rfl)) ?_; (with_reducible refine (octet_Put.calls k ji5 t116 _ A6.out).mono ?_); rintro e w12 ⟨rfl, hb⟩; refine ⟨_, rfl, ?_⟩; have n0_ := Aside0.mk (below_step (by repeat (first | (with_reducible first | exact HB.out | apply below_alloc | apply pw_below_drewN | apply below_drew1) | exact HB.out)) hb); clear HB; have HB := n0_; clear n0_; (try clear hb); (try clear hb2); (try clear hk); (try clear hi)) | ((with_reducible refine gate_dst (N := 35) rfl ?_); (try (refine gate_guard (by rfl) ?_; dsimp only)); refine gate_guard (by first | rfl | kernel_rfl) ?_; dsimp only; (with_reducible refine gate_callee (f := 16) rfl ?_); refine goesL_ (some 35) rfl rfl Try.func16 (by kernel_rfl) rfl #[] rfl (by (try simp only [List.map_toArray, List.map_cons, List.map_nil]); first | done | rfl | (simp only [List.length_drop, List.length_take]; rfl)) ?_; (with_reducible refine (syzygylaw06_shown.calls k  t117 _ A10.out).mono ?_); rintro e w13 ⟨rfl, hb⟩; refine ⟨_, rfl, ?_⟩; have n0_ := Aside0.mk (below_step (by repeat (first | (with_reducible first | exact HB.out | apply below_alloc | apply pw_below_drewN | apply below_drew1) | exact HB.out)) hb); clear HB; have HB := n0_; clear n0_; (try clear hb); (try clear hb2); (try clear hk); (try clear hi)))
        go_ret
        exact ⟨by first | rfl | (rw [HRT_.out]; rfl) | (simp only [HRT_.out]; done) | exact of_decide_eq_true HRT_.out | (have h_ := HRT_.out; simp at h_ ⊢; exact h_) | (have h_ := HRT_.out; simp at h_ ⊢; omega) | (have h_ := HRT_.out; simp [h_]; done) | (simp [errW_none, errW_some] <;> rfl) | (simp only [← hji3, ← hji5]; first | rfl | (simp [errW_none, errW_some] <;> rfl)) | (simp [*, errW_none, errW_some] <;> rfl), by repeat (first | (with_reducible first | exact HB.out | apply below_alloc | apply pw_below_drewN | apply below_drew1) | exact HB.out)⟩
      · rw [if_neg c9] at H
        have c9b0 : decide ((t116.size : Int) ≤ 9) = false := decide_eq_false c9
        have c9b1 : decide (t116.size ≤ 9) = false := decide_eq_false (by omega)
        clear c9
        exact absurd H (by simp)
    · rw [if_neg c8] at H
      have c8b0 : decide ((t115.size : Int) ≤ (t116.size : Int)) = false := decide_eq_false c8
      have c8b1 : decide (t115.size ≤ t116.size) = false := decide_eq_false (fun h => c8 (Int.ofNat_le.mpr h))
      clear c8
      exact absurd H (by simp)
  · rw [if_neg c7] at H
    have c7b0 : ((t115.toList == t116.toList) == (a0 == a1)) = false := by simpa using c7
    (try (have c7b1 : decide ((t115.toList == t116.toList) = (a0 == a1)) = false := by simpa using c7))
    (try (have c7b2 : ((t115.toList == t116.toList) == (a0 == a1)) = false := by simpa using c7))
    (try (have c7b3 : ¬ ((t115.toList == t116.toList) = (a0 == a1)) := by simpa using c7))
    clear c7
    exact absurd H (by simp)

/-- THE ONE PURE STATEMENT of syzygylaw06_OctetNumbers: yours. -/
def syzygylaw06_OctetNumbers.Pure : Prop := ∀ (a0 : Int) (a1 : Int), (Lit.int .u64 a0).wf = true → (Lit.int .u64 a1).wf = true → ∃ k, syzygylaw06_OctetNumbers.f k a0 a1 = some true
theorem syzygylaw06_OctetNumbers.walk (P : syzygylaw06_OctetNumbers.Pure) (a0 : Int) (a1 : Int) (w : World) (w0 : (Lit.int .u64 a0).wf = true) (w1 : (Lit.int .u64 a1).wf = true) :
    Calls Try.prog 3 #[.int .u64 a0, .int .u64 a1] w fun e w' => e = .returned (.bool true) ∧ Below w.heap.size w w' := by
  obtain ⟨k, h⟩ := P a0 a1 w0 w1
  refine (syzygylaw06_OctetNumbers.calls k a0 a1 w h).mono ?_
  rintro e w' ⟨rfl, hd⟩
  exact ⟨rfl, hd⟩

end Go.Proofs.Ytijgeonhbmgikaa.POOctetNumbers
