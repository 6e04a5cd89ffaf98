-- Written by a program of this session (pr.py, over the kit's print.py).
import Derived.Test.YtijgeonhbmgikaaPOOctetShortx0
import Derived.Test.YtijgeonhbmgikaaPOOctetShortx1
namespace Go.Proofs.Ytijgeonhbmgikaa.POOctetShort
open Go.RowKit Go.Proofs.YtijgeonhbmgikaaN Go.Proofs.YtijgeonhbmgikaaW.PrintWords Go.Proofs.YtijgeonhbmgikaaW.PrintLast Go.Proofs.YtijgeonhbmgikaaW.PrintMore
attribute [local go_sem] max2_int min2_int max_two min_two max_three min_three max_four min_four   -- for this text's walks alone
set_option linter.unusedVariables false
set_option linter.unusedSimpArgs false

/-! ### octet_Get: function 18 -/
namespace octet_Get
open Oct
theorem undo_c_18 (p q : Addr) (x y : Value) (w : World) (hp : w.cell? p = some x) (hq : w.cell? q = some y) (fp : w.frozen? p = false) (fq : w.frozen? q = false) (hpq : p.block ≠ q.block) :
    Calls Try.prog 60 #[.pointer (some p), .pointer (some q)] w fun e w' => e = .returned (.tuple #[]) ∧ w' = (w.setCell p (.int .u64 0)).setCell q (.string { data := #[] }) := by
  have hq' : (w.setCell p (.int .u64 0)).cell? q = some y := by rw [World.cell?_setCell_other _ _ _ _ (fun e => hpq (by rw [e]))]; exact hq
  go_enter Try.func60, Try.ntmps60
  go_wp2
  go_end0
  exact ⟨rfl, rfl⟩
def W4_18 (s : ByteArray) (w : World) : World := (((w.alloc (.cells #[.int .u64 0] 22)).alloc (.cells #[.string { data := #[] }] 9)).alloc (.cells #[.int .i64 0] 28)).alloc (.cells #[.string s] 86)
theorem size_alloc0_18 (w : World) (o : Obj) : (w.alloc o).heap.size = w.heap.size + 1 := Array.size_push _
theorem w4_0_18 (s : ByteArray) (w : World) : (W4_18 s w).heap[w.heap.size]? = some (.cells #[.int .u64 0] 22 (0, 0)) := blk_alloc (blk_alloc (blk_alloc (blk_new _ _) _) _) _
theorem w4_1_18 (s : ByteArray) (w : World) : (W4_18 s w).heap[w.heap.size + 1]? = some (.cells #[.string { data := #[] }] 9 (0, 0)) := by rw [← size_alloc0_18 w (.cells #[.int .u64 0] 22)]; exact blk_alloc (blk_alloc (blk_new _ _) _) _
theorem w4_2_18 (s : ByteArray) (w : World) : (W4_18 s w).heap[w.heap.size + 1 + 1]? = some (.cells #[.int .i64 0] 28 (0, 0)) := by rw [← size_alloc0_18 w (.cells #[.int .u64 0] 22), ← size_alloc0_18 _ (.cells #[.string { data := #[] }] 9)]; exact blk_alloc (blk_new _ _) _
theorem w4_3_18 (s : ByteArray) (w : World) : (W4_18 s w).heap[w.heap.size + 1 + 1 + 1]? = some (.cells #[.string s] 86 (0, 0)) := by rw [← size_alloc0_18 w (.cells #[.int .u64 0] 22), ← size_alloc0_18 _ (.cells #[.string { data := #[] }] 9), ← size_alloc0_18 _ (.cells #[.int .i64 0] 28)]; exact blk_new _ _
theorem w4_size_18 (s : ByteArray) (w : World) : (W4_18 s w).heap.size = w.heap.size + 1 + 1 + 1 + 1 := by unfold W4_18; rw [size_alloc0_18, size_alloc0_18, size_alloc0_18, size_alloc0_18]
theorem w4_below_18 (s : ByteArray) (w : World) : Below w.heap.size w (W4_18 s w) :=
  below_alloc (below_alloc (below_alloc (below_alloc (Below.refl _ w) _) _) _) _
set_option maxHeartbeats 4000000 in
set_option maxRecDepth 100000 in
theorem get_no_18 (s : ByteArray) (w : World) (c : Int) (hn : num s = .inl c) (hz : s.size ≤ 140737488351232) :
    Calls Try.prog 18 #[.string s] w fun e w' => e = .returned (.tuple #[.int .u64 0, .string { data := #[] }, .int .i64 c]) ∧ Below w.heap.size w w' := by
  have hmf : ∀ (fn : Fn) (first cap : Array Value) (w : World), (Instr.makeFunc fn first cap).run Try.prog w = .ok (.func fn first cap) w := fun _ _ _ _ => rfl
  have H0 := Aside0.mk (w4_0_18 s w)
  have H1 := Aside0.mk (w4_1_18 s w)
  have H2 := Aside0.mk (w4_2_18 s w)
  have H3 := Aside0.mk (w4_3_18 s w)
  have HW := Aside0.mk (w4_below_18 s w)
  have HZ := Aside0.mk (w4_size_18 s w)
  have HN := Aside0.mk (numbered_no (g := w.heap.size + 1 + 1 + 1) (w := W4_18 s w) hn)
  clear hn
  go_enter_defers Try.func18, Try.ntmps18
  go_wp2_with fail
  refine (show Calls Try.prog 61 _ (W4_18 s w) (Numbered _ s (W4_18 s w)) from number_c _ s _ H3.out hz).mono ?_
  rw [HN.out]
  generalize W4_18 s w = W at H0 H1 H2 H3 HW HN HZ ⊢
  rintro e w1 ⟨rfl, hb⟩
  have C0 := Aside0.mk ((hb.block _ (by omega)).trans H0.out)
  have C1 := Aside0.mk ((hb.block _ (by omega)).trans H1.out)
  have C2 := Aside0.mk ((hb.block _ (by omega)).trans H2.out)
  have CB := Aside0.mk (HW.out.trans (hb.mono (by omega)))
  clear hb
  show bodyPostD Try.prog Try.f18 _ (Exit.panic _) _ _
  unfold bodyPostD pan
  refine leaves_cons (f := 59) (args := #[.pointer (some ⟨w.heap.size + 1 + 1, 0, none⟩), .func (.func 60) #[] #[.pointer (some ⟨w.heap.size, 0, none⟩), .pointer (some ⟨w.heap.size + 1, 0, none⟩)]]) (by simp) (by kernel_rfl) ?_
  have D0 := blk_far (p := ⟨w.heap.size + 1 + 1, 0, none⟩) C0.out (by simp; omega) (.int .i64 c)
  have D1 := blk_far (p := ⟨w.heap.size + 1 + 1, 0, none⟩) C1.out (by simp) (.int .i64 c)
  have DB := (CB.out.setCell (p := ⟨w.heap.size + 1 + 1, 0, none⟩) (by simp; omega) (.int .i64 c))
  have HU := undo_c_18 ⟨w.heap.size, 0, none⟩ ⟨w.heap.size + 1, 0, none⟩ _ _ _ ((blk_cell D0 0).trans rfl) ((blk_cell D1 0).trans rfl) (blk_frozen D0 0) (blk_frozen D1 0) (by simp)
  have DU := (DB.setCell (p := ⟨w.heap.size, 0, none⟩) (by simp) (.int .u64 0)).setCell (p := ⟨w.heap.size + 1, 0, none⟩) (by simp) (.string { data := #[] })
  have E2 := blk_far (p := ⟨w.heap.size + 1, 0, none⟩) (blk_far (p := ⟨w.heap.size, 0, none⟩) (blk_put (cs' := #[.int .i64 c]) C2.out 0 (.int .i64 c) rfl) (by simp; omega) (.int .u64 0)) (by simp) (.string { data := #[] })
  have E0 := blk_far (p := ⟨w.heap.size + 1, 0, none⟩) (blk_put (cs' := #[.int .u64 0]) D0 0 (.int .u64 0) rfl) (by simp) (.string { data := #[] })
  have E1 := blk_put (cs' := #[.string { data := #[] }]) (blk_far (p := ⟨w.heap.size, 0, none⟩) D1 (by simp) (.int .u64 0)) 0 (.string { data := #[] }) rfl
  refine (caught_panic ⟨w.heap.size + 1 + 1, 0, none⟩ 0 c 60 Try.f60 _ [] w1 _ ((blk_cell C2.out 0).trans rfl) (blk_frozen C2.out 0) (fun _ _ => by kernel_rfl) HU).mono ?_
  rintro e u' w'' ⟨rfl, rfl, rfl⟩
  have F2 := (blk_cell E2 0).trans (show _ = some (.int .i64 c) from rfl)
  have F0 := (blk_cell E0 0).trans (show _ = some (.int .u64 0) from rfl)
  have F1 := (blk_cell E1 0).trans (show _ = some (.string { data := #[] }) from rfl)
  clear E0 E1 E2 HU D0 D1 DB
  generalize ((w1.setCell ⟨w.heap.size + 1 + 1, 0, none⟩ (.int .i64 c)).setCell ⟨w.heap.size, 0, none⟩ (.int .u64 0)).setCell ⟨w.heap.size + 1, 0, none⟩ (.string { data := #[] }) = w3 at DU F0 F1 F2 ⊢
  simp [Leaves, settle, results, Try.results18, go_sem, F0, F1, F2]
  exact DU

set_option maxHeartbeats 4000000 in
set_option maxRecDepth 100000 in
theorem get_yes_18 (s : ByteArray) (w : World) (n : Int) (t : ByteArray) (hn : num s = .inr (n, t)) (hz : s.size ≤ 140737488351232) :
    Calls Try.prog 18 #[.string s] w fun e w' => e = .returned (.tuple #[.int .u64 n, .string t, .int .i64 0]) ∧ Below w.heap.size w w' := by
  have hmf : ∀ (fn : Fn) (first cap : Array Value) (w : World), (Instr.makeFunc fn first cap).run Try.prog w = .ok (.func fn first cap) w := fun _ _ _ _ => rfl
  have H0 := Aside0.mk (w4_0_18 s w)
  have H1 := Aside0.mk (w4_1_18 s w)
  have H2 := Aside0.mk (w4_2_18 s w)
  have H3 := Aside0.mk (w4_3_18 s w)
  have HW := Aside0.mk (w4_below_18 s w)
  have HZ := Aside0.mk (w4_size_18 s w)
  have HN := Aside0.mk (numbered_yes (g := w.heap.size + 1 + 1 + 1) (w := W4_18 s w) hn)
  clear hn
  go_enter_defers Try.func18, Try.ntmps18
  go_wp2_with fail
  refine (show Calls Try.prog 61 _ (W4_18 s w) (Numbered _ s (W4_18 s w)) from number_c _ s _ H3.out hz).mono ?_
  rw [HN.out]
  generalize W4_18 s w = W at H0 H1 H2 H3 HW HN HZ ⊢
  rintro e w1 ⟨rfl, hb, h3⟩
  clear HN
  have C0 := (hb.block _ (by omega)).trans H0.out
  have C1 := (hb.block _ (by omega)).trans H1.out
  have C2 := (hb.block _ (by omega)).trans H2.out
  have CB := HW.out.trans (hb.mono (by omega))
  have X3 := (blk_cell h3 0).trans (show _ = some (.string t) from rfl)
  have X0 := (blk_cell C0 0).trans (show _ = some (.int .u64 0) from rfl)
  have Z0 := blk_frozen C0 0
  have HZ0 := HZ
  clear hb HW H0 H1 H2 H3 HZ
  have CBB := Aside0.mk CB
  have D0 := Aside0.mk (blk_put (cs' := #[.int .u64 n]) C0 0 (.int .u64 n) rfl)
  have D1 := Aside0.mk (blk_far (p := ⟨w.heap.size, 0, none⟩) C1 (by simp) (.int .u64 n))
  have D2 := Aside0.mk (blk_far (p := ⟨w.heap.size, 0, none⟩) C2 (by simp; omega) (.int .u64 n))
  have D3 := Aside0.mk (blk_far (p := ⟨w.heap.size, 0, none⟩) h3 (by simp; omega) (.int .u64 n))
  have DB := Aside0.mk (CB.setCell (p := ⟨w.heap.size, 0, none⟩) (by simp) (.int .u64 n))
  clear C0 C1 C2 CB h3
  go_wp2
  generalize w1.setCell ⟨w.heap.size, 0, none⟩ (.int .u64 n) = v0 at D0 D1 D2 D3 DB ⊢
  refine wp_sure ?_
  refine start_ (n := 8) (S := fun w' => w'.heap[w.heap.size]? = some (.cells #[.int .u64 n] 22 (0, 0)) ∧ w'.heap[w.heap.size + 1]? = some (.cells #[.string { data := #[] }] 9 (0, 0)) ∧ w'.heap[w.heap.size + 1 + 1]? = some (.cells #[.int .i64 0] 28 (0, 0)) ∧ w'.heap[w.heap.size + 1 + 1 + 1]? = some (.cells #[.string t] 86 (0, 0)) ∧ Below w.heap.size w w') (ds := [6, 7]) #[false, false, false, false, false, false, false, false] (by kernel_rfl) rfl rfl ⟨blk_drew D0.out, blk_drew D1.out, blk_drew D2.out, blk_drew D3.out, below_drew DB.out⟩ (fun hHeld => ?_)
  generalize v0.drew = u0 at hHeld ⊢
  clear D0 D1 D2 D3 DB
  refine take_ (i := 0) (N := some 12) (v := ?_) (a' := ?_) #[true, false, false, false, false, false, false, false] rfl rfl (by kernel_rfl) (fun _ _ _ h => h) (Or.inl ⟨by rfl, ?_⟩) hHeld ?_ ?_
  rotate_left
  · rintro w' ⟨s0_, s1_, s2_, s3_, s4_⟩
    have hc := (blk_cell s0_ 0).trans (show _ = some (.int .u64 n) from rfl)
    go_simp
    with_reducible rfl
  rotate_left
  · simp only [Act.put, List.setIfInBounds_toArray, List.set_cons_zero, List.set_cons_succ, i64_w, i32_w]
    rfl
  refine pure_ (i := 1) (N := some 13) (v := ?_) (a' := ?_) #[true, true, false, false, false, false, false, false] rfl rfl (by kernel_rfl) (fun _ _ _ h => h) (Or.inl ⟨by rfl, ?_⟩) ?_ ?_
  rotate_left
  · intro w'
    go_simp
    with_reducible rfl
  rotate_left
  · simp only [Act.put, List.setIfInBounds_toArray, List.set_cons_zero, List.set_cons_succ, i64_w, i32_w]
    rfl
  refine pure_ (i := 2) (N := some 14) (v := ?_) (a' := ?_) #[true, true, true, false, false, false, false, false] rfl rfl (by kernel_rfl) (fun _ _ _ h => h) (Or.inl ⟨by rfl, ?_⟩) ?_ ?_
  rotate_left
  · intro w'
    go_simp
    with_reducible rfl
  rotate_left
  · simp only [Act.put, List.setIfInBounds_toArray, List.set_cons_zero, List.set_cons_succ, i64_w, i32_w]
    rfl
  refine pure_ (i := 3) (N := some 15) (v := ?_) (a' := ?_) #[true, true, true, true, false, false, false, false] rfl rfl (by kernel_rfl) (fun _ _ _ h => h) (Or.inl ⟨by rfl, ?_⟩) ?_ ?_
  rotate_left
  · intro w'
    go_simp
    with_reducible rfl
  rotate_left
  · simp only [Act.put, List.setIfInBounds_toArray, List.set_cons_zero, List.set_cons_succ, i64_w, i32_w]
    rfl
  refine take_ (i := 4) (N := some 16) (v := ?_) (a' := ?_) #[true, true, true, true, true, false, false, false] rfl rfl (by kernel_rfl) (fun _ _ _ h => h) (Or.inl ⟨by rfl, ?_⟩) hHeld ?_ ?_
  rotate_left
  · rintro w' ⟨s0_, s1_, s2_, s3_, s4_⟩
    have hc := (blk_cell s3_ 0).trans (show _ = some (.string t) from rfl)
    go_simp
    with_reducible rfl
  rotate_left
  · simp only [Act.put, List.setIfInBounds_toArray, List.set_cons_zero, List.set_cons_succ, i64_w, i32_w]
    rfl
  obtain ⟨s0_, s1_, s2_, s3_, s4_⟩ := hHeld
  refine one_ (i := 5) (N := none) #[true, true, true, true, true, true, false, false] rfl rfl (by kernel_rfl) (by decide) (fun K hK => ?_)
  have hc := (blk_cell s0_ 0).trans (show _ = some (.int .u64 n) from rfl)
  have hf := blk_frozen s0_ 0
  refine skip_ (w1 := ?_) (by rfl) rfl ?_ ?_
  rotate_left
  · go_simp
    rfl
  refine hK.out _ _ ⟨blk_put s0_ 0 (.int .u64 n) rfl, blk_far (p := ⟨w.heap.size, 0, none⟩) s1_ (by simp) (.int .u64 n), blk_far (p := ⟨w.heap.size, 0, none⟩) s2_ (by simp; omega) (.int .u64 n), blk_far (p := ⟨w.heap.size, 0, none⟩) s3_ (by simp; omega) (.int .u64 n), s4_.setCell (p := ⟨w.heap.size, 0, none⟩) (by simp) (.int .u64 n)⟩ (fun hHeld => ?_)
  clear hK K
  obtain ⟨s0_, s1_, s2_, s3_, s4_⟩ := hHeld
  refine last_ (i := 6) (N := none) #[true, true, true, true, true, true, true, false] rfl rfl (by kernel_rfl) (by decide) (fun K hK => ?_)
  have hc := (blk_cell s1_ 0).trans (show _ = some (.string { data := #[] }) from rfl)
  have hf := blk_frozen s1_ 0
  refine skip_ (w1 := ?_) (by rfl) rfl ?_ ?_
  rotate_left
  · go_simp
    rfl
  refine hK.out _ _ ?_
  clear hK K
  have e0 := blk_far (p := ⟨w.heap.size + 1, 0, none⟩) s0_ (by simp) (.string t)
  have e1 := blk_put (cs' := #[.string t]) s1_ 0 (.string t) rfl
  have e2 := blk_far (p := ⟨w.heap.size + 1, 0, none⟩) s2_ (by simp) (.string t)
  have e4 := s4_.setCell (p := ⟨w.heap.size + 1, 0, none⟩) (by simp) (.string t)
  have c2 := (blk_cell s2_ 0).trans (show _ = some (.int .i64 0) from rfl)
  have z2 := blk_frozen s2_ 0
  clear s0_ s1_ s2_ s3_ s4_
  refine last_ (i := 7) (N := none) #[true, true, true, true, true, true, true, true] rfl rfl (by kernel_rfl) (by decide) (fun K hK => ?_)
  have hc := (blk_cell e2 0).trans (show _ = some (.int .i64 0) from rfl)
  have hf := blk_frozen e2 0
  refine skip_ (w1 := ?_) (by rfl) rfl ?_ ?_
  rotate_left
  · go_simp
    rfl
  refine hK.out _ _ ?_
  clear hK K
  have f0 := (blk_cell (blk_far (p := ⟨w.heap.size + 1 + 1, 0, none⟩) e0 (by simp; omega) (.int .i64 0)) 0).trans (show _ = some (.int .u64 n) from rfl)
  have f1 := (blk_cell (blk_far (p := ⟨w.heap.size + 1 + 1, 0, none⟩) e1 (by simp) (.int .i64 0)) 0).trans (show _ = some (.string t) from rfl)
  have f2 := (blk_cell (blk_put (cs' := #[.int .i64 0]) e2 0 (.int .i64 0) rfl) 0).trans (show _ = some (.int .i64 0) from rfl)
  have f4 := e4.setCell (p := ⟨w.heap.size + 1 + 1, 0, none⟩) (by simp; omega) (.int .i64 0)
  clear e0 e1 e2 e4
  refine done_ (by kernel_rfl) ?_
  refine noPanic_normal ?_
  refine (‹∀ (a : Act) (w : World), Code.wp Try.prog Code.ret _ a w → _›) _ _ ?_
  clear hc hf c2 z2 X3 X0 Z0 CBB
  go_wp2
  generalize ((u0.setCell ⟨w.heap.size, 0, none⟩ (.int .u64 n)).setCell ⟨w.heap.size + 1, 0, none⟩ (.string t)).setCell ⟨w.heap.size + 1 + 1, 0, none⟩ (.int .i64 0) = w3 at f0 f1 f2 f4 ⊢
  unfold bodyPostD
  refine leaves_cons (f := 59) (args := #[.pointer (some ⟨w.heap.size + 1 + 1, 0, none⟩), .func (.func 60) #[] #[.pointer (some ⟨w.heap.size, 0, none⟩), .pointer (some ⟨w.heap.size + 1, 0, none⟩)]]) (by simp) (by kernel_rfl) ?_
  refine (caught_idle _ _ _).mono ?_
  rintro e u' w'' ⟨rfl, rfl, rfl⟩
  simp [Leaves, settle, results, Try.results18, go_sem, f0, f1, f2]
  exact f4
end octet_Get

def octet_Get.f (a0 : ByteArray) : Option (Int × ByteArray × Int) := if a0.size ≤ 140737488351232 then some (match Oct.num a0 with | .inl c => (0, { data := #[] }, c) | .inr (n, t) => (n, t, 0)) else none

theorem octet_Get.calls (a0 : ByteArray) (r1 : Int) (r2 : ByteArray) (r3 : Int) (w : World) (h : octet_Get.f a0 = some (r1, r2, r3)) :
    Calls Try.prog 18 #[.string a0] w fun e w' => e = .returned (.tuple #[.int .u64 r1, .string r2, .int .i64 r3]) ∧ Below w.heap.size w w' := by
  unfold octet_Get.f at h
  by_cases hz : a0.size ≤ 140737488351232
  · rw [if_pos hz] at h
    cases hn : Oct.num a0 with
    | inl c =>
      rw [hn] at h
      cases h
      exact octet_Get.get_no_18 a0 w _ hn hz
    | inr p =>
      obtain ⟨n, t⟩ := p
      rw [hn] at h
      cases h
      exact octet_Get.get_yes_18 a0 w _ _ hn hz
  · rw [if_neg hz] at h; cases h

/-! ### syzygylaw06_shown: function 16 -/
def syzygylaw06_shown.f (k : Nat)  : Option (Bool) := (octet_Put.f k 258).bind fun t110 => (if t110.size + 1 ≤ 9223372036854775807 then ((octet_Get.f (t110 ++ (⟨#[122]⟩ : ByteArray))).bind fun bt111 => (if bt111.1 = 258 then (if bt111.2.1.toList = ([122] : List UInt8) then (if bt111.2.2 = 0 then ((octet_Put.f k 258).bind fun t114 => (some (t114.toList == ([2, 1, 2] : List UInt8)))) else (some false)) else (some false)) else (some false))) else (none))
theorem syzygylaw06_shown.mono : ∀ k, LeO (syzygylaw06_shown.f k ) (syzygylaw06_shown.f (k + 1) ) := by
  intro  k
  unfold syzygylaw06_shown.f
  repeat' first
      | (with_reducible exact octet_Put.mono _ _)
      | (with_reducible exact LeO.refl _)
      | (with_reducible exact LeO.none _)
      | (with_reducible refine LeO.ite ?_ ?_)
      | (with_reducible refine LeO.bind ?_ (fun _ => ?_))
      | exact octet_Put.mono _ _
      | exact LeO.none _
      | refine LeO.ite ?_ ?_
      | refine LeO.bind ?_ (fun _ => ?_)
set_option maxHeartbeats 8000000 in
set_option maxRecDepth 100000 in
theorem syzygylaw06_shown.calls (k : Nat)  (r : Bool) (w : World) (h : syzygylaw06_shown.f k  = some r) :
    Calls Try.prog 16 #[] w fun e w' => e = .returned (.bool r) ∧ Below w.heap.size w w' := by
  have HB := Aside0.mk (Below.refl w.heap.size w)
  have H : ((octet_Put.f k 258).bind fun t110 => (if t110.size + 1 ≤ 9223372036854775807 then ((octet_Get.f (t110 ++ (⟨#[122]⟩ : ByteArray))).bind fun bt111 => (if bt111.1 = 258 then (if bt111.2.1.toList = ([122] : List UInt8) then (if bt111.2.2 = 0 then ((octet_Put.f k 258).bind fun t114 => (some (t114.toList == ([2, 1, 2] : List UInt8)))) else (some false)) else (some false)) else (some false))) else (none))) = some r := h
  clear h
  replace H := Option.bind_eq_some_iff.mp H
  obtain ⟨t110, A10, H⟩ := H
  replace H : (if t110.size + 1 ≤ 9223372036854775807 then ((octet_Get.f (t110 ++ (⟨#[122]⟩ : ByteArray))).bind fun bt111 => (if bt111.1 = 258 then (if bt111.2.1.toList = ([122] : List UInt8) then (if bt111.2.2 = 0 then ((octet_Put.f k 258).bind fun t114 => (some (t114.toList == ([2, 1, 2] : List UInt8)))) else (some false)) else (some false)) else (some false))) else (none)) = some r := H
  have A1 := Aside0.mk A10
  clear A10
  by_cases c2 : t110.size + 1 ≤ 9223372036854775807
  · rw [if_pos c2] at H
    have c2b0 := eq_true c2
    have c2b1 : decide (t110.size + 1 ≤ 9223372036854775807) = true := decide_eq_true c2
    try have c2b2 : (9223372036854775807 < t110.size + 1) = False := eq_false (Nat.not_lt.2 c2)
    replace H := Option.bind_eq_some_iff.mp H
    obtain ⟨⟨t111, t112, t113⟩, A30, H⟩ := H
    replace H : (if t111 = 258 then (if t112.toList = ([122] : List UInt8) then (if t113 = 0 then ((octet_Put.f k 258).bind fun t114 => (some (t114.toList == ([2, 1, 2] : List UInt8)))) else (some false)) else (some false)) else (some false)) = some r := H
    have A3 := Aside0.mk A30
    clear A30
    by_cases c4 : t111 = 258
    · rw [if_pos c4] at H
      have c4b0 : (t111 == 258) = true := beq_iff_eq.mpr c4
      have c4b1 : (t111 != 258) = false := bne_eq_false_iff_eq.mpr c4
      clear c4
      by_cases c5 : t112.toList = ([122] : List UInt8)
      · rw [if_pos c5] at H
        have c5b0 : (t112.toList == ([122] : List UInt8)) = true := beq_iff_eq.mpr c5
        have c5b1 : (t112.toList != ([122] : List UInt8)) = false := bne_eq_false_iff_eq.mpr c5
        clear c5
        by_cases c6 : t113 = 0
        · rw [if_pos c6] at H
          have c6b0 : (t113 == 0) = true := beq_iff_eq.mpr c6
          have c6b1 : (t113 != 0) = false := bne_eq_false_iff_eq.mpr c6
          clear c6
          replace H := Option.bind_eq_some_iff.mp H
          obtain ⟨t114, A70, H⟩ := H
          replace H : (some (t114.toList == ([2, 1, 2] : List UInt8))) = some r := H
          have A7 := Aside0.mk A70
          clear A70
          obtain rfl := Option.some.inj H
          go_enter Try.func16, Try.ntmps16
          go_wp2_with (first | ((with_reducible refine gate_callee (f := 15) rfl ?_); refine goesL_ (some 5) rfl rfl Try.func15 (by kernel_rfl) rfl #[.int .u64 258] rfl (by (try simp only [List.map_toArray, List.map_cons, List.map_nil]); first | done | rfl | (simp only [List.length_drop, List.length_take]; rfl)) ?_; (with_reducible refine (octet_Put.calls k 258 t110 _ A1.out).mono ?_); rintro e w8 ⟨rfl, hb⟩; refine ⟨_, rfl, ?_⟩; have n0_ := Aside0.mk (below_step (by repeat (first | (with_reducible first | exact HB.out | apply below_alloc | apply pw_below_drewN | apply below_drew1) | exact HB.out)) hb); clear HB; have HB := n0_; clear n0_; (try clear hb); (try clear hb2); (try clear hk); (try clear hi)) | ((with_reducible refine gate_callee (f := 18) rfl ?_); refine goesL_ (some 7) rfl rfl Try.func18 (by kernel_rfl) rfl #[.string (t110 ++ (⟨#[122]⟩ : ByteArray))] rfl (by (try simp only [List.map_toArray, List.map_cons, List.map_nil]); first | done | rfl | (simp only [List.length_drop, List.length_take]; rfl)) ?_; (with_reducible refine (octet_Get.calls (t110 ++ (⟨#[122]⟩ : ByteArray)) t111 t112 t113 _ A3.out).mono ?_); rintro e w9 ⟨rfl, hb⟩; refine ⟨_, rfl, ?_⟩; have n0_ := Aside0.mk (below_step (by repeat (first | (with_reducible first | exact HB.out | apply below_alloc | apply pw_below_drewN | apply below_drew1) | exact HB.out)) hb); clear HB; have HB := n0_; clear n0_; (try clear hb); (try clear hb2); (try clear hk); (try clear hi)) | ((with_reducible refine gate_dst (N := 22) rfl ?_); refine gate_guard (by first | rfl | kernel_rfl) ?_; dsimp only; (with_reducible refine gate_callee (f := 15) rfl ?_); refine goesL_ (some 22) rfl rfl Try.func15 (by kernel_rfl) rfl #[.int .u64 258] rfl (by (try simp only [List.map_toArray, List.map_cons, List.map_nil]); first | done | rfl | (simp only [List.length_drop, List.length_take]; rfl)) ?_; (with_reducible refine (octet_Put.calls k 258 t114 _ A7.out).mono ?_); rintro e w10 ⟨rfl, hb⟩; refine ⟨_, rfl, ?_⟩; have n0_ := Aside0.mk (below_step (by repeat (first | (with_reducible first | exact HB.out | apply below_alloc | apply pw_below_drewN | apply below_drew1) | exact HB.out)) hb); clear HB; have HB := n0_; clear n0_; (try clear hb); (try clear hb2); (try clear hk); (try clear hi)))
          go_ret
          exact ⟨by first | rfl | (simp [errW_none, errW_some] <;> rfl) | (simp [*, errW_none, errW_some] <;> rfl), by repeat (first | (with_reducible first | exact HB.out | apply below_alloc | apply pw_below_drewN | apply below_drew1) | exact HB.out)⟩
        · rw [if_neg c6] at H
          have c6b0 : (t113 == 0) = false := beq_eq_false_iff_ne.mpr c6
          have c6b1 : (t113 != 0) = true := bne_iff_ne.mpr c6
          obtain rfl := Option.some.inj H
          go_enter Try.func16, Try.ntmps16
          go_wp2_with (first | ((with_reducible refine gate_callee (f := 15) rfl ?_); refine goesL_ (some 5) rfl rfl Try.func15 (by kernel_rfl) rfl #[.int .u64 258] rfl (by (try simp only [List.map_toArray, List.map_cons, List.map_nil]); first | done | rfl | (simp only [List.length_drop, List.length_take]; rfl)) ?_; (with_reducible refine (octet_Put.calls k 258 t110 _ A1.out).mono ?_); rintro e w11 ⟨rfl, hb⟩; refine ⟨_, rfl, ?_⟩; have n0_ := Aside0.mk (below_step (by repeat (first | (with_reducible first | exact HB.out | apply below_alloc | apply pw_below_drewN | apply below_drew1) | exact HB.out)) hb); clear HB; have HB := n0_; clear n0_; (try clear hb); (try clear hb2); (try clear hk); (try clear hi)) | ((with_reducible refine gate_callee (f := 18) rfl ?_); refine goesL_ (some 7) rfl rfl Try.func18 (by kernel_rfl) rfl #[.string (t110 ++ (⟨#[122]⟩ : ByteArray))] rfl (by (try simp only [List.map_toArray, List.map_cons, List.map_nil]); first | done | rfl | (simp only [List.length_drop, List.length_take]; rfl)) ?_; (with_reducible refine (octet_Get.calls (t110 ++ (⟨#[122]⟩ : ByteArray)) t111 t112 t113 _ A3.out).mono ?_); rintro e w12 ⟨rfl, hb⟩; refine ⟨_, rfl, ?_⟩; have n0_ := Aside0.mk (below_step (by repeat (first | (with_reducible first | exact HB.out | apply below_alloc | apply pw_below_drewN | apply below_drew1) | exact HB.out)) hb); clear HB; have HB := n0_; clear n0_; (try clear hb); (try clear hb2); (try clear hk); (try clear hi)))
          go_ret
          exact ⟨by first | rfl | (simp [errW_none, errW_some] <;> rfl) | (simp [*, errW_none, errW_some] <;> rfl), by repeat (first | (with_reducible first | exact HB.out | apply below_alloc | apply pw_below_drewN | apply below_drew1) | exact HB.out)⟩
      · rw [if_neg c5] at H
        have c5b0 : (t112.toList == ([122] : List UInt8)) = false := beq_eq_false_iff_ne.mpr c5
        have c5b1 : (t112.toList != ([122] : List UInt8)) = true := bne_iff_ne.mpr c5
        obtain rfl := Option.some.inj H
        go_enter Try.func16, Try.ntmps16
        go_wp2_with (first | ((with_reducible refine gate_callee (f := 15) rfl ?_); refine goesL_ (some 5) rfl rfl Try.func15 (by kernel_rfl) rfl #[.int .u64 258] rfl (by (try simp only [List.map_toArray, List.map_cons, List.map_nil]); first | done | rfl | (simp only [List.length_drop, List.length_take]; rfl)) ?_; (with_reducible refine (octet_Put.calls k 258 t110 _ A1.out).mono ?_); rintro e w13 ⟨rfl, hb⟩; refine ⟨_, rfl, ?_⟩; have n0_ := Aside0.mk (below_step (by repeat (first | (with_reducible first | exact HB.out | apply below_alloc | apply pw_below_drewN | apply below_drew1) | exact HB.out)) hb); clear HB; have HB := n0_; clear n0_; (try clear hb); (try clear hb2); (try clear hk); (try clear hi)) | ((with_reducible refine gate_callee (f := 18) rfl ?_); refine goesL_ (some 7) rfl rfl Try.func18 (by kernel_rfl) rfl #[.string (t110 ++ (⟨#[122]⟩ : ByteArray))] rfl (by (try simp only [List.map_toArray, List.map_cons, List.map_nil]); first | done | rfl | (simp only [List.length_drop, List.length_take]; rfl)) ?_; (with_reducible refine (octet_Get.calls (t110 ++ (⟨#[122]⟩ : ByteArray)) t111 t112 t113 _ A3.out).mono ?_); rintro e w14 ⟨rfl, hb⟩; refine ⟨_, rfl, ?_⟩; have n0_ := Aside0.mk (below_step (by repeat (first | (with_reducible first | exact HB.out | apply below_alloc | apply pw_below_drewN | apply below_drew1) | exact HB.out)) hb); clear HB; have HB := n0_; clear n0_; (try clear hb); (try clear hb2); (try clear hk); (try clear hi)))
        go_ret
        exact ⟨by first | rfl | (simp [errW_none, errW_some] <;> rfl) | (simp [*, errW_none, errW_some] <;> rfl), by repeat (first | (with_reducible first | exact HB.out | apply below_alloc | apply pw_below_drewN | apply below_drew1) | exact HB.out)⟩
    · rw [if_neg c4] at H
      have c4b0 : (t111 == 258) = false := beq_eq_false_iff_ne.mpr c4
      have c4b1 : (t111 != 258) = true := bne_iff_ne.mpr c4
      obtain rfl := Option.some.inj H
      go_enter Try.func16, Try.ntmps16
      go_wp2_with (first | ((with_reducible refine gate_callee (f := 15) rfl ?_); refine goesL_ (some 5) rfl rfl Try.func15 (by kernel_rfl) rfl #[.int .u64 258] rfl (by (try simp only [List.map_toArray, List.map_cons, List.map_nil]); first | done | rfl | (simp only [List.length_drop, List.length_take]; rfl)) ?_; (with_reducible refine (octet_Put.calls k 258 t110 _ A1.out).mono ?_); rintro e w15 ⟨rfl, hb⟩; refine ⟨_, rfl, ?_⟩; have n0_ := Aside0.mk (below_step (by repeat (first | (with_reducible first | exact HB.out | apply below_alloc | apply pw_below_drewN | apply below_drew1) | exact HB.out)) hb); clear HB; have HB := n0_; clear n0_; (try clear hb); (try clear hb2); (try clear hk); (try clear hi)) | ((with_reducible refine gate_callee (f := 18) rfl ?_); refine goesL_ (some 7) rfl rfl Try.func18 (by kernel_rfl) rfl #[.string (t110 ++ (⟨#[122]⟩ : ByteArray))] rfl (by (try simp only [List.map_toArray, List.map_cons, List.map_nil]); first | done | rfl | (simp only [List.length_drop, List.length_take]; rfl)) ?_; (with_reducible refine (octet_Get.calls (t110 ++ (⟨#[122]⟩ : ByteArray)) t111 t112 t113 _ A3.out).mono ?_); rintro e w16 ⟨rfl, hb⟩; refine ⟨_, rfl, ?_⟩; have n0_ := Aside0.mk (below_step (by repeat (first | (with_reducible first | exact HB.out | apply below_alloc | apply pw_below_drewN | apply below_drew1) | exact HB.out)) hb); clear HB; have HB := n0_; clear n0_; (try clear hb); (try clear hb2); (try clear hk); (try clear hi)))
      go_ret
      exact ⟨by first | rfl | (simp [errW_none, errW_some] <;> rfl) | (simp [*, errW_none, errW_some] <;> rfl), by repeat (first | (with_reducible first | exact HB.out | apply below_alloc | apply pw_below_drewN | apply below_drew1) | exact HB.out)⟩
  · rw [if_neg c2] at H
    exact absurd H (by simp)

/-! ### octet_PutText: function 17 -/
def octet_PutText.f (k : Nat) (a0 : ByteArray) : Option (ByteArray) := (octet_Put.f k (a0.size : Int)).bind fun t115 => (if t115.size + a0.size ≤ 9223372036854775807 then (some (t115 ++ a0)) else (none))
theorem octet_PutText.mono : ∀ a0 k, LeO (octet_PutText.f k a0) (octet_PutText.f (k + 1) a0) := by
  intro a0 k
  unfold octet_PutText.f
  repeat' first
      | (with_reducible exact octet_Put.mono _ _)
      | (with_reducible exact LeO.refl _)
      | (with_reducible exact LeO.none _)
      | (with_reducible refine LeO.ite ?_ ?_)
      | (with_reducible refine LeO.bind ?_ (fun _ => ?_))
      | exact octet_Put.mono _ _
      | exact LeO.none _
      | refine LeO.ite ?_ ?_
      | refine LeO.bind ?_ (fun _ => ?_)
set_option maxHeartbeats 8000000 in
set_option maxRecDepth 100000 in
theorem octet_PutText.calls (k : Nat) (a0 : ByteArray) (r : ByteArray) (w : World) (h : octet_PutText.f k a0 = some r) :
    Calls Try.prog 17 #[.string a0] w fun e w' => e = .returned (.string r) ∧ Below w.heap.size w w' := by
  have HB := Aside0.mk (Below.refl w.heap.size w)
  have H : ((octet_Put.f k (a0.size : Int)).bind fun t115 => (if t115.size + a0.size ≤ 9223372036854775807 then (some (t115 ++ a0)) else (none))) = some r := h
  clear h
  replace H := Option.bind_eq_some_iff.mp H
  obtain ⟨t115, A20, H⟩ := H
  replace H : (if t115.size + a0.size ≤ 9223372036854775807 then (some (t115 ++ a0)) else (none)) = some r := H
  have A2 := Aside0.mk A20
  clear A20
  by_cases c3 : t115.size + a0.size ≤ 9223372036854775807
  · rw [if_pos c3] at H
    have c3b0 := eq_true c3
    have c3b1 : decide (t115.size + a0.size ≤ 9223372036854775807) = true := decide_eq_true c3
    try have c3b2 : (9223372036854775807 < t115.size + a0.size) = False := eq_false (Nat.not_lt.2 c3)
    obtain rfl := Option.some.inj H
    go_enter Try.func17, Try.ntmps17
    go_wp2_with (first | ((with_reducible refine gate_callee (f := 15) rfl ?_); refine goesL_ (some 6) rfl rfl Try.func15 (by kernel_rfl) rfl #[.int .u64 (a0.size : Int)] rfl (by (try simp only [List.map_toArray, List.map_cons, List.map_nil]); first | done | rfl | (simp only [List.length_drop, List.length_take]; rfl)) ?_; (with_reducible refine (octet_Put.calls k (a0.size : Int) t115 _ A2.out).mono ?_); rintro e w4 ⟨rfl, hb⟩; refine ⟨_, rfl, ?_⟩; have n0_ := Aside0.mk (below_step (by repeat (first | (with_reducible first | exact HB.out | apply below_alloc | apply pw_below_drewN | apply below_drew1) | exact HB.out)) hb); clear HB; have HB := n0_; clear n0_; (try clear hb); (try clear hb2); (try clear hk); (try clear hi)))
    go_ret
    exact ⟨by first | rfl | (simp [errW_none, errW_some] <;> rfl) | (simp [*, errW_none, errW_some] <;> rfl), by repeat (first | (with_reducible first | exact HB.out | apply below_alloc | apply pw_below_drewN | apply below_drew1) | exact HB.out)⟩
  · rw [if_neg c3] at H
    exact absurd H (by simp)

-- NOT PRINTED: function 62 (octet_GetText_1)

/-! ### octet_GetText: function 19 -/

def octet_GetText.txt (s : ByteArray) : Int ⊕ (ByteArray × ByteArray) := match Oct.num s with
  | .inl c => .inl c
  | .inr (n, t) => if t.size < n.toNat then .inl 60 else .inr (t.extract 0 n.toNat, t.extract n.toNat t.size)
namespace octet_GetText
open Oct
theorem undo_c_19 (p q : Addr) (x y : Value) (w : World) (hp : w.cell? p = some x) (hq : w.cell? q = some y) (fp : w.frozen? p = false) (fq : w.frozen? q = false) (hpq : p.block ≠ q.block) :
    Calls Try.prog 62 #[.pointer (some p), .pointer (some q)] w fun e w' => e = .returned (.tuple #[]) ∧ w' = (w.setCell p (.string { data := #[] })).setCell q (.string { data := #[] }) := by
  have hq' : (w.setCell p (.string { data := #[] })).cell? q = some y := by rw [World.cell?_setCell_other _ _ _ _ (fun e => hpq (by rw [e]))]; exact hq
  go_enter Try.func62, Try.ntmps62
  go_wp2
  go_end0
  exact ⟨rfl, rfl⟩
def W4_19 (s : ByteArray) (w : World) : World := (((w.alloc (.cells #[.string { data := #[] }] 9)).alloc (.cells #[.string { data := #[] }] 9)).alloc (.cells #[.int .i64 0] 28)).alloc (.cells #[.string s] 86)
theorem size_alloc0_19 (w : World) (o : Obj) : (w.alloc o).heap.size = w.heap.size + 1 := Array.size_push _
theorem w4_0_19 (s : ByteArray) (w : World) : (W4_19 s w).heap[w.heap.size]? = some (.cells #[.string { data := #[] }] 9 (0, 0)) := blk_alloc (blk_alloc (blk_alloc (blk_new _ _) _) _) _
theorem w4_1_19 (s : ByteArray) (w : World) : (W4_19 s w).heap[w.heap.size + 1]? = some (.cells #[.string { data := #[] }] 9 (0, 0)) := by rw [← size_alloc0_19 w (.cells #[.string { data := #[] }] 9)]; exact blk_alloc (blk_alloc (blk_new _ _) _) _
theorem w4_2_19 (s : ByteArray) (w : World) : (W4_19 s w).heap[w.heap.size + 1 + 1]? = some (.cells #[.int .i64 0] 28 (0, 0)) := by rw [← size_alloc0_19 w (.cells #[.string { data := #[] }] 9), ← size_alloc0_19 _ (.cells #[.string { data := #[] }] 9)]; exact blk_alloc (blk_new _ _) _
theorem w4_3_19 (s : ByteArray) (w : World) : (W4_19 s w).heap[w.heap.size + 1 + 1 + 1]? = some (.cells #[.string s] 86 (0, 0)) := by rw [← size_alloc0_19 w (.cells #[.string { data := #[] }] 9), ← size_alloc0_19 _ (.cells #[.string { data := #[] }] 9), ← size_alloc0_19 _ (.cells #[.int .i64 0] 28)]; exact blk_new _ _
theorem w4_size_19 (s : ByteArray) (w : World) : (W4_19 s w).heap.size = w.heap.size + 1 + 1 + 1 + 1 := by unfold W4_19; rw [size_alloc0_19, size_alloc0_19, size_alloc0_19, size_alloc0_19]
theorem w4_below_19 (s : ByteArray) (w : World) : Below w.heap.size w (W4_19 s w) :=
  below_alloc (below_alloc (below_alloc (below_alloc (Below.refl _ w) _) _) _) _
set_option maxHeartbeats 4000000 in
set_option maxRecDepth 100000 in
theorem get_no_19 (s : ByteArray) (w : World) (c : Int) (hn : num s = .inl c) (hz : s.size ≤ 140737488351232) :
    Calls Try.prog 19 #[.string s] w fun e w' => e = .returned (.tuple #[.string { data := #[] }, .string { data := #[] }, .int .i64 c]) ∧ Below w.heap.size w w' := by
  have hmf : ∀ (fn : Fn) (first cap : Array Value) (w : World), (Instr.makeFunc fn first cap).run Try.prog w = .ok (.func fn first cap) w := fun _ _ _ _ => rfl
  have H0 := Aside0.mk (w4_0_19 s w)
  have H1 := Aside0.mk (w4_1_19 s w)
  have H2 := Aside0.mk (w4_2_19 s w)
  have H3 := Aside0.mk (w4_3_19 s w)
  have HW := Aside0.mk (w4_below_19 s w)
  have HZ := Aside0.mk (w4_size_19 s w)
  have HN := Aside0.mk (numbered_no (g := w.heap.size + 1 + 1 + 1) (w := W4_19 s w) hn)
  clear hn
  go_enter_defers Try.func19, Try.ntmps19
  go_wp2_with fail
  refine (show Calls Try.prog 61 _ (W4_19 s w) (Numbered _ s (W4_19 s w)) from number_c _ s _ H3.out hz).mono ?_
  rw [HN.out]
  generalize W4_19 s w = W at H0 H1 H2 H3 HW HN HZ ⊢
  rintro e w1 ⟨rfl, hb⟩
  have C0 := Aside0.mk ((hb.block _ (by omega)).trans H0.out)
  have C1 := Aside0.mk ((hb.block _ (by omega)).trans H1.out)
  have C2 := Aside0.mk ((hb.block _ (by omega)).trans H2.out)
  have CB := Aside0.mk (HW.out.trans (hb.mono (by omega)))
  clear hb
  show bodyPostD Try.prog Try.f19 _ (Exit.panic _) _ _
  unfold bodyPostD pan
  refine leaves_cons (f := 59) (args := #[.pointer (some ⟨w.heap.size + 1 + 1, 0, none⟩), .func (.func 62) #[] #[.pointer (some ⟨w.heap.size, 0, none⟩), .pointer (some ⟨w.heap.size + 1, 0, none⟩)]]) (by simp) (by kernel_rfl) ?_
  have D0 := blk_far (p := ⟨w.heap.size + 1 + 1, 0, none⟩) C0.out (by simp; omega) (.int .i64 c)
  have D1 := blk_far (p := ⟨w.heap.size + 1 + 1, 0, none⟩) C1.out (by simp) (.int .i64 c)
  have DB := (CB.out.setCell (p := ⟨w.heap.size + 1 + 1, 0, none⟩) (by simp; omega) (.int .i64 c))
  have HU := undo_c_19 ⟨w.heap.size, 0, none⟩ ⟨w.heap.size + 1, 0, none⟩ _ _ _ ((blk_cell D0 0).trans rfl) ((blk_cell D1 0).trans rfl) (blk_frozen D0 0) (blk_frozen D1 0) (by simp)
  have DU := (DB.setCell (p := ⟨w.heap.size, 0, none⟩) (by simp) (.string { data := #[] })).setCell (p := ⟨w.heap.size + 1, 0, none⟩) (by simp) (.string { data := #[] })
  have E2 := blk_far (p := ⟨w.heap.size + 1, 0, none⟩) (blk_far (p := ⟨w.heap.size, 0, none⟩) (blk_put (cs' := #[.int .i64 c]) C2.out 0 (.int .i64 c) rfl) (by simp; omega) (.string { data := #[] })) (by simp) (.string { data := #[] })
  have E0 := blk_far (p := ⟨w.heap.size + 1, 0, none⟩) (blk_put (cs' := #[.string { data := #[] }]) D0 0 (.string { data := #[] }) rfl) (by simp) (.string { data := #[] })
  have E1 := blk_put (cs' := #[.string { data := #[] }]) (blk_far (p := ⟨w.heap.size, 0, none⟩) D1 (by simp) (.string { data := #[] })) 0 (.string { data := #[] }) rfl
  refine (caught_panic ⟨w.heap.size + 1 + 1, 0, none⟩ 0 c 62 Try.f62 _ [] w1 _ ((blk_cell C2.out 0).trans rfl) (blk_frozen C2.out 0) (fun _ _ => by kernel_rfl) HU).mono ?_
  rintro e u' w'' ⟨rfl, rfl, rfl⟩
  have F2 := (blk_cell E2 0).trans (show _ = some (.int .i64 c) from rfl)
  have F0 := (blk_cell E0 0).trans (show _ = some (.string { data := #[] }) from rfl)
  have F1 := (blk_cell E1 0).trans (show _ = some (.string { data := #[] }) from rfl)
  clear E0 E1 E2 HU D0 D1 DB
  generalize ((w1.setCell ⟨w.heap.size + 1 + 1, 0, none⟩ (.int .i64 c)).setCell ⟨w.heap.size, 0, none⟩ (.string { data := #[] })).setCell ⟨w.heap.size + 1, 0, none⟩ (.string { data := #[] }) = w3 at DU F0 F1 F2 ⊢
  simp [Leaves, settle, results, Try.results19, go_sem, F0, F1, F2]
  exact DU

set_option maxHeartbeats 4000000 in
set_option maxRecDepth 100000 in
theorem get_short_19 (m : Nat) (x : ByteArray) (s : ByteArray) (w : World) (c : Int) (hn : num s = .inr ((m : Int), x) ∧ x.size < m ∧ c = 60) (hz : s.size ≤ 140737488351232) :
    Calls Try.prog 19 #[.string s] w fun e w' => e = .returned (.tuple #[.string { data := #[] }, .string { data := #[] }, .int .i64 c]) ∧ Below w.heap.size w w' := by
  have hmf : ∀ (fn : Fn) (first cap : Array Value) (w : World), (Instr.makeFunc fn first cap).run Try.prog w = .ok (.func fn first cap) w := fun _ _ _ _ => rfl
  have H0 := Aside0.mk (w4_0_19 s w)
  have H1 := Aside0.mk (w4_1_19 s w)
  have H2 := Aside0.mk (w4_2_19 s w)
  have H3 := Aside0.mk (w4_3_19 s w)
  have HW := Aside0.mk (w4_below_19 s w)
  have HZ := Aside0.mk (w4_size_19 s w)
  obtain ⟨hn, hm, ht⟩ := hn
  have HX := Aside0.mk (num_size hn)
  have HN := Aside0.mk (numbered_yes (g := w.heap.size + 1 + 1 + 1) (w := W4_19 s w) hn)
  clear hn
  go_enter_defers Try.func19, Try.ntmps19
  go_wp2_with fail
  refine (show Calls Try.prog 61 _ (W4_19 s w) (Numbered _ s (W4_19 s w)) from number_c _ s _ H3.out hz).mono ?_
  rw [HN.out]
  generalize W4_19 s w = W at H0 H1 H2 H3 HW HN HZ ⊢
  rintro e w1 ⟨rfl, hb2, h2⟩
  clear HN
  go_wp2_with fail
  have HG := Aside0.mk hb2
  refine (take_no (w.heap.size + 1 + 1 + 1) m x w1 h2 (by have := HX.out; omega) hm).mono ?_
  rintro e w2 ⟨rfl, rfl⟩
  rw [← ht]
  have hb := HG.out
  have C0 := Aside0.mk ((hb.block _ (by omega)).trans H0.out)
  have C1 := Aside0.mk ((hb.block _ (by omega)).trans H1.out)
  have C2 := Aside0.mk ((hb.block _ (by omega)).trans H2.out)
  have CB := Aside0.mk (HW.out.trans (hb.mono (by omega)))
  clear hb
  show bodyPostD Try.prog Try.f19 _ (Exit.panic _) _ _
  unfold bodyPostD pan
  refine leaves_cons (f := 59) (args := #[.pointer (some ⟨w.heap.size + 1 + 1, 0, none⟩), .func (.func 62) #[] #[.pointer (some ⟨w.heap.size, 0, none⟩), .pointer (some ⟨w.heap.size + 1, 0, none⟩)]]) (by simp) (by kernel_rfl) ?_
  have D0 := blk_far (p := ⟨w.heap.size + 1 + 1, 0, none⟩) C0.out (by simp; omega) (.int .i64 c)
  have D1 := blk_far (p := ⟨w.heap.size + 1 + 1, 0, none⟩) C1.out (by simp) (.int .i64 c)
  have DB := (CB.out.setCell (p := ⟨w.heap.size + 1 + 1, 0, none⟩) (by simp; omega) (.int .i64 c))
  have HU := undo_c_19 ⟨w.heap.size, 0, none⟩ ⟨w.heap.size + 1, 0, none⟩ _ _ _ ((blk_cell D0 0).trans rfl) ((blk_cell D1 0).trans rfl) (blk_frozen D0 0) (blk_frozen D1 0) (by simp)
  have DU := (DB.setCell (p := ⟨w.heap.size, 0, none⟩) (by simp) (.string { data := #[] })).setCell (p := ⟨w.heap.size + 1, 0, none⟩) (by simp) (.string { data := #[] })
  have E2 := blk_far (p := ⟨w.heap.size + 1, 0, none⟩) (blk_far (p := ⟨w.heap.size, 0, none⟩) (blk_put (cs' := #[.int .i64 c]) C2.out 0 (.int .i64 c) rfl) (by simp; omega) (.string { data := #[] })) (by simp) (.string { data := #[] })
  have E0 := blk_far (p := ⟨w.heap.size + 1, 0, none⟩) (blk_put (cs' := #[.string { data := #[] }]) D0 0 (.string { data := #[] }) rfl) (by simp) (.string { data := #[] })
  have E1 := blk_put (cs' := #[.string { data := #[] }]) (blk_far (p := ⟨w.heap.size, 0, none⟩) D1 (by simp) (.string { data := #[] })) 0 (.string { data := #[] }) rfl
  refine (caught_panic ⟨w.heap.size + 1 + 1, 0, none⟩ 0 c 62 Try.f62 _ [] w1 _ ((blk_cell C2.out 0).trans rfl) (blk_frozen C2.out 0) (fun _ _ => by kernel_rfl) HU).mono ?_
  rintro e u' w'' ⟨rfl, rfl, rfl⟩
  have F2 := (blk_cell E2 0).trans (show _ = some (.int .i64 c) from rfl)
  have F0 := (blk_cell E0 0).trans (show _ = some (.string { data := #[] }) from rfl)
  have F1 := (blk_cell E1 0).trans (show _ = some (.string { data := #[] }) from rfl)
  clear E0 E1 E2 HU D0 D1 DB
  generalize ((w1.setCell ⟨w.heap.size + 1 + 1, 0, none⟩ (.int .i64 c)).setCell ⟨w.heap.size, 0, none⟩ (.string { data := #[] })).setCell ⟨w.heap.size + 1, 0, none⟩ (.string { data := #[] }) = w3 at DU F0 F1 F2 ⊢
  simp [Leaves, settle, results, Try.results19, go_sem, F0, F1, F2]
  exact DU

set_option maxHeartbeats 4000000 in
set_option maxRecDepth 100000 in
theorem get_yes_19 (s : ByteArray) (w : World) (m : Nat) (x : ByteArray) (t : ByteArray) (hn : num s = .inr ((m : Int), x) ∧ m ≤ x.size ∧ x.extract m x.size = t) (hz : s.size ≤ 140737488351232) :
    Calls Try.prog 19 #[.string s] w fun e w' => e = .returned (.tuple #[.string (x.extract 0 m), .string t, .int .i64 0]) ∧ Below w.heap.size w w' := by
  have hmf : ∀ (fn : Fn) (first cap : Array Value) (w : World), (Instr.makeFunc fn first cap).run Try.prog w = .ok (.func fn first cap) w := fun _ _ _ _ => rfl
  have H0 := Aside0.mk (w4_0_19 s w)
  have H1 := Aside0.mk (w4_1_19 s w)
  have H2 := Aside0.mk (w4_2_19 s w)
  have H3 := Aside0.mk (w4_3_19 s w)
  have HW := Aside0.mk (w4_below_19 s w)
  have HZ := Aside0.mk (w4_size_19 s w)
  obtain ⟨hn, hm, ht⟩ := hn
  have HX := Aside0.mk (num_size hn)
  have HN := Aside0.mk (numbered_yes (g := w.heap.size + 1 + 1 + 1) (w := W4_19 s w) hn)
  clear hn
  go_enter_defers Try.func19, Try.ntmps19
  go_wp2_with fail
  refine (show Calls Try.prog 61 _ (W4_19 s w) (Numbered _ s (W4_19 s w)) from number_c _ s _ H3.out hz).mono ?_
  rw [HN.out]
  generalize W4_19 s w = W at H0 H1 H2 H3 HW HN HZ ⊢
  rintro e w2 ⟨rfl, hb2, h2⟩
  clear HN
  go_wp2_with fail
  have HG := Aside0.mk hb2
  refine (take_ok (w.heap.size + 1 + 1 + 1) m x w2 h2 (by have := HX.out; omega) hm).mono ?_
  rintro e w1 ⟨rfl, rfl⟩
  rw [ht]
  have hb : Below (w.heap.size + 1 + 1 + 1) W (w2.setCell ⟨w.heap.size + 1 + 1 + 1, 0, none⟩ (.string t)) := HG.out.setCell (Nat.le_refl _) _
  have h3 := blk_put (cs' := #[.string t]) h2 0 (.string t) rfl
  clear HG hb2 h2 HX
  generalize w2.setCell ⟨w.heap.size + 1 + 1 + 1, 0, none⟩ (.string t) = w1 at hb h3 ⊢
  have C0 := (hb.block _ (by omega)).trans H0.out
  have C1 := (hb.block _ (by omega)).trans H1.out
  have C2 := (hb.block _ (by omega)).trans H2.out
  have CB := HW.out.trans (hb.mono (by omega))
  have X3 := (blk_cell h3 0).trans (show _ = some (.string t) from rfl)
  have X0 := (blk_cell C0 0).trans (show _ = some (.string { data := #[] }) from rfl)
  have Z0 := blk_frozen C0 0
  have HZ0 := HZ
  clear hb HW H0 H1 H2 H3 HZ
  have CBB := Aside0.mk CB
  have D0 := Aside0.mk (blk_put (cs' := #[.string (x.extract 0 m)]) C0 0 (.string (x.extract 0 m)) rfl)
  have D1 := Aside0.mk (blk_far (p := ⟨w.heap.size, 0, none⟩) C1 (by simp) (.string (x.extract 0 m)))
  have D2 := Aside0.mk (blk_far (p := ⟨w.heap.size, 0, none⟩) C2 (by simp; omega) (.string (x.extract 0 m)))
  have D3 := Aside0.mk (blk_far (p := ⟨w.heap.size, 0, none⟩) h3 (by simp; omega) (.string (x.extract 0 m)))
  have DB := Aside0.mk (CB.setCell (p := ⟨w.heap.size, 0, none⟩) (by simp) (.string (x.extract 0 m)))
  clear C0 C1 C2 CB h3
  go_wp2
  generalize w1.setCell ⟨w.heap.size, 0, none⟩ (.string (x.extract 0 m)) = v0 at D0 D1 D2 D3 DB ⊢
  refine wp_sure ?_
  refine start_ (n := 8) (S := fun w' => w'.heap[w.heap.size]? = some (.cells #[.string (x.extract 0 m)] 9 (0, 0)) ∧ w'.heap[w.heap.size + 1]? = some (.cells #[.string { data := #[] }] 9 (0, 0)) ∧ w'.heap[w.heap.size + 1 + 1]? = some (.cells #[.int .i64 0] 28 (0, 0)) ∧ w'.heap[w.heap.size + 1 + 1 + 1]? = some (.cells #[.string t] 86 (0, 0)) ∧ Below w.heap.size w w') (ds := [6, 7]) #[false, false, false, false, false, false, false, false] (by kernel_rfl) rfl rfl ⟨blk_drew D0.out, blk_drew D1.out, blk_drew D2.out, blk_drew D3.out, below_drew DB.out⟩ (fun hHeld => ?_)
  generalize v0.drew = u0 at hHeld ⊢
  clear D0 D1 D2 D3 DB
  refine take_ (i := 0) (N := some 14) (v := ?_) (a' := ?_) #[true, false, false, false, false, false, false, false] rfl rfl (by kernel_rfl) (fun _ _ _ h => h) (Or.inl ⟨by rfl, ?_⟩) hHeld ?_ ?_
  rotate_left
  · rintro w' ⟨s0_, s1_, s2_, s3_, s4_⟩
    have hc := (blk_cell s0_ 0).trans (show _ = some (.string (x.extract 0 m)) from rfl)
    go_simp
    with_reducible rfl
  rotate_left
  · simp only [Act.put, List.setIfInBounds_toArray, List.set_cons_zero, List.set_cons_succ, i64_w, i32_w]
    rfl
  refine pure_ (i := 1) (N := some 15) (v := ?_) (a' := ?_) #[true, true, false, false, false, false, false, false] rfl rfl (by kernel_rfl) (fun _ _ _ h => h) (Or.inl ⟨by rfl, ?_⟩) ?_ ?_
  rotate_left
  · intro w'
    go_simp
    with_reducible rfl
  rotate_left
  · simp only [Act.put, List.setIfInBounds_toArray, List.set_cons_zero, List.set_cons_succ, i64_w, i32_w]
    rfl
  refine pure_ (i := 2) (N := some 16) (v := ?_) (a' := ?_) #[true, true, true, false, false, false, false, false] rfl rfl (by kernel_rfl) (fun _ _ _ h => h) (Or.inl ⟨by rfl, ?_⟩) ?_ ?_
  rotate_left
  · intro w'
    go_simp
    with_reducible rfl
  rotate_left
  · simp only [Act.put, List.setIfInBounds_toArray, List.set_cons_zero, List.set_cons_succ, i64_w, i32_w]
    rfl
  refine pure_ (i := 3) (N := some 17) (v := ?_) (a' := ?_) #[true, true, true, true, false, false, false, false] rfl rfl (by kernel_rfl) (fun _ _ _ h => h) (Or.inl ⟨by rfl, ?_⟩) ?_ ?_
  rotate_left
  · intro w'
    go_simp
    with_reducible rfl
  rotate_left
  · simp only [Act.put, List.setIfInBounds_toArray, List.set_cons_zero, List.set_cons_succ, i64_w, i32_w]
    rfl
  refine take_ (i := 4) (N := some 18) (v := ?_) (a' := ?_) #[true, true, true, true, true, false, false, false] rfl rfl (by kernel_rfl) (fun _ _ _ h => h) (Or.inl ⟨by rfl, ?_⟩) hHeld ?_ ?_
  rotate_left
  · rintro w' ⟨s0_, s1_, s2_, s3_, s4_⟩
    have hc := (blk_cell s3_ 0).trans (show _ = some (.string t) from rfl)
    go_simp
    with_reducible rfl
  rotate_left
  · simp only [Act.put, List.setIfInBounds_toArray, List.set_cons_zero, List.set_cons_succ, i64_w, i32_w]
    rfl
  obtain ⟨s0_, s1_, s2_, s3_, s4_⟩ := hHeld
  refine one_ (i := 5) (N := none) #[true, true, true, true, true, true, false, false] rfl rfl (by kernel_rfl) (by decide) (fun K hK => ?_)
  have hc := (blk_cell s0_ 0).trans (show _ = some (.string (x.extract 0 m)) from rfl)
  have hf := blk_frozen s0_ 0
  refine skip_ (w1 := ?_) (by rfl) rfl ?_ ?_
  rotate_left
  · go_simp
    rfl
  refine hK.out _ _ ⟨blk_put s0_ 0 (.string (x.extract 0 m)) rfl, blk_far (p := ⟨w.heap.size, 0, none⟩) s1_ (by simp) (.string (x.extract 0 m)), blk_far (p := ⟨w.heap.size, 0, none⟩) s2_ (by simp; omega) (.string (x.extract 0 m)), blk_far (p := ⟨w.heap.size, 0, none⟩) s3_ (by simp; omega) (.string (x.extract 0 m)), s4_.setCell (p := ⟨w.heap.size, 0, none⟩) (by simp) (.string (x.extract 0 m))⟩ (fun hHeld => ?_)
  clear hK K
  obtain ⟨s0_, s1_, s2_, s3_, s4_⟩ := hHeld
  refine last_ (i := 6) (N := none) #[true, true, true, true, true, true, true, false] rfl rfl (by kernel_rfl) (by decide) (fun K hK => ?_)
  have hc := (blk_cell s1_ 0).trans (show _ = some (.string { data := #[] }) from rfl)
  have hf := blk_frozen s1_ 0
  refine skip_ (w1 := ?_) (by rfl) rfl ?_ ?_
  rotate_left
  · go_simp
    rfl
  refine hK.out _ _ ?_
  clear hK K
  have e0 := blk_far (p := ⟨w.heap.size + 1, 0, none⟩) s0_ (by simp) (.string t)
  have e1 := blk_put (cs' := #[.string t]) s1_ 0 (.string t) rfl
  have e2 := blk_far (p := ⟨w.heap.size + 1, 0, none⟩) s2_ (by simp) (.string t)
  have e4 := s4_.setCell (p := ⟨w.heap.size + 1, 0, none⟩) (by simp) (.string t)
  have c2 := (blk_cell s2_ 0).trans (show _ = some (.int .i64 0) from rfl)
  have z2 := blk_frozen s2_ 0
  clear s0_ s1_ s2_ s3_ s4_
  refine last_ (i := 7) (N := none) #[true, true, true, true, true, true, true, true] rfl rfl (by kernel_rfl) (by decide) (fun K hK => ?_)
  have hc := (blk_cell e2 0).trans (show _ = some (.int .i64 0) from rfl)
  have hf := blk_frozen e2 0
  refine skip_ (w1 := ?_) (by rfl) rfl ?_ ?_
  rotate_left
  · go_simp
    rfl
  refine hK.out _ _ ?_
  clear hK K
  have f0 := (blk_cell (blk_far (p := ⟨w.heap.size + 1 + 1, 0, none⟩) e0 (by simp; omega) (.int .i64 0)) 0).trans (show _ = some (.string (x.extract 0 m)) from rfl)
  have f1 := (blk_cell (blk_far (p := ⟨w.heap.size + 1 + 1, 0, none⟩) e1 (by simp) (.int .i64 0)) 0).trans (show _ = some (.string t) from rfl)
  have f2 := (blk_cell (blk_put (cs' := #[.int .i64 0]) e2 0 (.int .i64 0) rfl) 0).trans (show _ = some (.int .i64 0) from rfl)
  have f4 := e4.setCell (p := ⟨w.heap.size + 1 + 1, 0, none⟩) (by simp; omega) (.int .i64 0)
  clear e0 e1 e2 e4
  refine done_ (by kernel_rfl) ?_
  refine noPanic_normal ?_
  refine (‹∀ (a : Act) (w : World), Code.wp Try.prog Code.ret _ a w → _›) _ _ ?_
  clear hc hf c2 z2 X3 X0 Z0 CBB
  go_wp2
  generalize ((u0.setCell ⟨w.heap.size, 0, none⟩ (.string (x.extract 0 m))).setCell ⟨w.heap.size + 1, 0, none⟩ (.string t)).setCell ⟨w.heap.size + 1 + 1, 0, none⟩ (.int .i64 0) = w3 at f0 f1 f2 f4 ⊢
  unfold bodyPostD
  refine leaves_cons (f := 59) (args := #[.pointer (some ⟨w.heap.size + 1 + 1, 0, none⟩), .func (.func 62) #[] #[.pointer (some ⟨w.heap.size, 0, none⟩), .pointer (some ⟨w.heap.size + 1, 0, none⟩)]]) (by simp) (by kernel_rfl) ?_
  refine (caught_idle _ _ _).mono ?_
  rintro e u' w'' ⟨rfl, rfl, rfl⟩
  simp [Leaves, settle, results, Try.results19, go_sem, f0, f1, f2]
  exact f4
end octet_GetText

def octet_GetText.f (a0 : ByteArray) : Option (ByteArray × ByteArray × Int) := if a0.size ≤ 140737488351232 then some (match octet_GetText.txt a0 with | .inl c => ({ data := #[] }, { data := #[] }, c) | .inr (n, t) => (n, t, 0)) else none

theorem octet_GetText.calls (a0 : ByteArray) (r1 : ByteArray) (r2 : ByteArray) (r3 : Int) (w : World) (h : octet_GetText.f a0 = some (r1, r2, r3)) :
    Calls Try.prog 19 #[.string a0] w fun e w' => e = .returned (.tuple #[.string r1, .string r2, .int .i64 r3]) ∧ Below w.heap.size w w' := by
  unfold octet_GetText.f at h
  by_cases hz : a0.size ≤ 140737488351232
  · rw [if_pos hz] at h
    unfold octet_GetText.txt at h
    cases hn : Oct.num a0 with
    | inl c =>
      rw [hn] at h
      cases h
      exact octet_GetText.get_no_19 a0 w _ hn hz
    | inr p =>
      obtain ⟨n, t⟩ := p
      obtain ⟨m, rfl⟩ := Int.eq_ofNat_of_zero_le (Oct.num_pos hn)
      rw [hn] at h
      simp only [Int.toNat_natCast] at h
      by_cases hm : t.size < m
      · rw [if_pos hm] at h
        cases h
        exact octet_GetText.get_short_19 m t a0 w _ ⟨hn, hm, rfl⟩ hz
      · rw [if_neg hm] at h
        cases h
        exact octet_GetText.get_yes_19 a0 w _ _ _ ⟨hn, by omega, rfl⟩ hz
  · rw [if_neg hz] at h; cases h

/-! ### nat_May: function 64 -/
def nat_May.f (l0 : List Int) : Option (Bool) := if (l0.length : Int) ≤ 8 then (if (l0.length : Int) = 0 then (some true) else (if 0 ≤ (wrap64 ((l0.length : Int) - 1)) then (if (wrap64 ((l0.length : Int) - 1)) < (l0.length : Int) then (some ((rd l0 (wrap64 ((l0.length : Int) - 1))) != 0)) else (none)) else (none))) else (some false)
set_option maxHeartbeats 8000000 in
set_option maxRecDepth 100000 in
theorem nat_May.calls (A0 : Option Addr) (c0 : Nat) (l0 : List Int) (r : Bool) (w : World) (hr0 : Kd.C (Kd.int .u64) w A0 l0.length l0) (hc0 : l0.length ≤ c0) (h : nat_May.f l0 = some r) :
    Calls Try.prog 64 #[.slice A0 l0.length c0] w fun e w' => e = .returned (.bool r) ∧ Drawn0 w w' := by
  have HR0 := Aside0.mk hr0
  have HC0 := Aside0.mk hc0
  clear hr0 hc0
  have H : (if (l0.length : Int) ≤ 8 then (if (l0.length : Int) = 0 then (some true) else (if 0 ≤ (wrap64 ((l0.length : Int) - 1)) then (if (wrap64 ((l0.length : Int) - 1)) < (l0.length : Int) then (some ((rd l0 (wrap64 ((l0.length : Int) - 1))) != 0)) else (none)) else (none))) else (some false)) = some r := h
  clear h
  by_cases c2 : (l0.length : Int) ≤ 8
  · rw [if_pos c2] at H
    have c2b0 : decide ((l0.length : Int) ≤ 8) = true := decide_eq_true c2
    have c2b1 : decide (l0.length ≤ 8) = true := decide_eq_true (by omega)
    clear c2
    by_cases c3 : (l0.length : Int) = 0
    · rw [if_pos c3] at H
      have c3b0 : ((l0.length : Int) == 0) = true := beq_iff_eq.mpr c3
      have c3b1 : ((l0.length : Int) != 0) = false := bne_eq_false_iff_eq.mpr c3
      clear c3
      obtain rfl := Option.some.inj H
      go_enter Try.func64, Try.ntmps64
      go_wp2
      go_ret
      exact ⟨by first | rfl | (simp; done) | (simp [*]; done), by repeat (first | exact Drawn0.refl _ | apply Drawn0.step)⟩
    · rw [if_neg c3] at H
      have c3b0 : ((l0.length : Int) == 0) = false := beq_eq_false_iff_ne.mpr c3
      have c3b1 : ((l0.length : Int) != 0) = true := bne_iff_ne.mpr c3
      have c3b2 : ¬ (l0 = []) := fun h_ => c3 (by rw [h_]; rfl)
      obtain ⟨ji4, hji4⟩ : ∃ j_ : Int, (wrap64 ((l0.length : Int) - 1)) = j_ := ⟨_, rfl⟩
      replace H : (if 0 ≤ (ji4) then (if (ji4) < (l0.length : Int) then (some ((rd l0 (ji4)) != 0)) else (none)) else (none)) = some r := by first | (rw [hji4] at H; exact H) | (simp only [hji4] at H ⊢; exact H)
      have hji4w : (IntKind.i64.wrap ((l0.length : Int) - 1)) = ji4 := (i64_w _).trans hji4
      by_cases c5 : 0 ≤ (ji4)
      · rw [if_pos c5] at H
        have c5b0 : decide (0 ≤ (ji4)) = true := decide_eq_true c5
        clear c5
        by_cases c6 : (ji4) < (l0.length : Int)
        · rw [if_pos c6] at H
          have c6b0 : decide ((ji4) < (l0.length : Int)) = true := decide_eq_true c6
          clear c6
          obtain rfl := Option.some.inj H
          have p116 : 0 ≤ ((ji4) : Int) := of_decide_eq_true (by first | (with_reducible assumption) | assumption)
          have q116 : (ji4) < (l0.length : Int) := of_decide_eq_true (by first | (with_reducible assumption) | assumption)
          obtain ⟨ad116, e116, hx116_0⟩ := Kd.at_int HR0.out (ji4) p116 q116
          cases e116
          replace p116 := eq_true p116
          replace q116 := eq_true q116
          go_enter Try.func64, Try.ntmps64
          go_wp2
          go_ret
          exact ⟨by first | rfl | (simp; done) | (simp only [← hji4] <;> (first | rfl | simp)) | (simp [*]; done), by repeat (first | exact Drawn0.refl _ | apply Drawn0.step)⟩
        · rw [if_neg c6] at H
          exact absurd H (by simp)
      · rw [if_neg c5] at H
        exact absurd H (by simp)
  · rw [if_neg c2] at H
    have c2b0 : decide ((l0.length : Int) ≤ 8) = false := decide_eq_false c2
    have c2b1 : decide (l0.length ≤ 8) = false := decide_eq_false (by omega)
    clear c2
    obtain rfl := Option.some.inj H
    go_enter Try.func64, Try.ntmps64
    go_wp2
    go_ret
    exact ⟨by first | rfl | (simp; done) | (simp [*]; done), by repeat (first | exact Drawn0.refl _ | apply Drawn0.step)⟩

-- NOT PRINTED: function 94 (api_Nat_uint64_1)

/-! ### api_Nat_uint64_65: function 65 -/


end Go.Proofs.Ytijgeonhbmgikaa.POOctetShort
