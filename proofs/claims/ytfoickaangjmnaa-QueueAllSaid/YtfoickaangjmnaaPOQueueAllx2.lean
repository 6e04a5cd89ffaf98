-- Written by a program of this session (pr.py, over the kit's print.py).
import Derived.Test.YtfoickaangjmnaaPOQueueAllx0
namespace Go.Proofs.Ytfoickaangjmnaa.POQueueAll
open Go.RowKit Go.Proofs.YtfoickaangjmnaaN Go.Proofs.YtfoickaangjmnaaW.PrintWords Go.Proofs.YtfoickaangjmnaaW.PrintLast Go.Proofs.YtfoickaangjmnaaW.PrintMore
attribute [local go_sem] max2_int min2_int max_two min_two max_three min_three max_four min_four   -- for this text's walks alone
set_option linter.unusedVariables false
set_option linter.unusedSimpArgs false

/-! ### queue_May: function 17 -/

def seen0 : Array Value := Array.replicate 576 (.bool false)
theorem new75 : ∀ w, (Instr.alloc 75 true (.tuple #[])).run Try.prog w = .ok (.pointer (some ⟨w.heap.size, 0, none⟩)) (w.alloc (.cells seen0 75)) := fun w => by kernel_rfl
theorem add_addr (g n m : Nat) : Addr.add ⟨g, n, none⟩ m = ⟨g, n + m, none⟩ := by
  unfold Addr.add
  split
  · next h => subst h; rfl
  · rfl
theorem at75 (g : Nat) (a : Int) (h0 : 0 ≤ a) (h1 : a < 24) (w : World) : (Instr.indexAt 75 (.pointer (some ⟨g, 0, none⟩)) (.int .i64 a)).run Try.prog w = .ok (.pointer (some ⟨g, a.toNat * 24, none⟩)) w := by
  have e0 := eq_true h0
  have e1 := eq_true h1
  have hz : ∀ w, (sizeOf 74 : Sem Nat).run Try.prog w = .ok 24 w := fun _ => by kernel_rfl
  have hu := Try.underlying75
  go_simp
  first | done | rw [add_addr, Nat.zero_add]
theorem at74 (g n : Nat) (a : Int) (h0 : 0 ≤ a) (h1 : a < 24) (w : World) : (Instr.indexAt 74 (.pointer (some ⟨g, n, none⟩)) (.int .i64 a)).run Try.prog w = .ok (.pointer (some ⟨g, n + a.toNat, none⟩)) w := by
  have e0 := eq_true h0
  have e1 := eq_true h1
  have hz : ∀ w, (sizeOf 4 : Sem Nat).run Try.prog w = .ok 1 w := fun _ => by kernel_rfl
  have hu := Try.underlying74
  go_simp
  done

def Seen (g : Nat) (d : List (Int × Int)) (w : World) : Prop := ∃ cs : Array Value, w.heap[g]? = some (.cells cs 75 (0, 0)) ∧ cs.size = 576 ∧ ∀ i j : Nat, i < 24 → j < 24 → cs[i * 24 + j]? = some (.bool (d.contains ((i : Int), (j : Int))))
theorem seen_new (w : World) : Seen w.heap.size [] (w.alloc (.cells seen0 75)) := by
  refine ⟨seen0, blk_new w _, by unfold seen0; exact Array.size_replicate, fun i j hi hj => ?_⟩
  unfold seen0
  rw [Array.getElem?_replicate, if_pos (by omega)]
  rfl
theorem seen_alloc {g : Nat} {d : List (Int × Int)} {w : World} (h : Seen g d w) (o : Obj) : Seen g d (w.alloc o) := by
  obtain ⟨cs, h1, h2⟩ := h
  exact ⟨cs, blk_alloc h1 o, h2⟩
theorem seen_drew {g : Nat} {d : List (Int × Int)} {w : World} (h : Seen g d w) : Seen g d w.drew := by
  obtain ⟨cs, h1, h2⟩ := h
  exact ⟨cs, blk_drew h1, h2⟩
theorem seen_cell {g : Nat} {d : List (Int × Int)} {w : World} (h : Seen g d w) {a b : Int} (a0 : 0 ≤ a) (a1 : a < 24) (b0 : 0 ≤ b) (b1 : b < 24) : w.cell? ⟨g, a.toNat * 24 + b.toNat, none⟩ = some (.bool (d.contains (a, b))) := by
  obtain ⟨cs, h1, h2, h3⟩ := h
  have := h3 a.toNat b.toNat (by omega) (by omega)
  rw [Int.toNat_of_nonneg a0, Int.toNat_of_nonneg b0] at this
  exact (blk_cell h1 _).trans this
theorem seen_put {g : Nat} {d : List (Int × Int)} {w : World} (h : Seen g d w) {a b : Int} (a0 : 0 ≤ a) (a1 : a < 24) (b0 : 0 ≤ b) (b1 : b < 24) : Seen g ((a, b) :: d) (w.setCell ⟨g, a.toNat * 24 + b.toNat, none⟩ (.bool true)) := by
  obtain ⟨cs, h1, h2, h3⟩ := h
  refine ⟨_, blk_put h1 _ _ rfl, by rw [Array.size_setIfInBounds]; exact h2, fun i j hi hj => ?_⟩
  rw [Array.getElem?_setIfInBounds]
  by_cases e : a.toNat * 24 + b.toNat = i * 24 + j
  · have e1 : (i : Int) = a := by omega
    have e2 : (j : Int) = b := by omega
    rw [if_pos e, if_pos (by omega), e1, e2, List.contains_cons]
    simp
  · rw [if_neg e, h3 i j hi hj, List.contains_cons]
    have : (((i : Int), (j : Int)) == (a, b)) = false := by
      rw [beq_eq_false_iff_ne]
      intro hh
      injection hh with q1 q2
      omega
    rw [this, Bool.false_or]
theorem seen_far {g : Nat} {d : List (Int × Int)} {w : World} (h : Seen g d w) {p : Addr} (hp : g ≠ p.block) (u : Value) : Seen g d (w.setCell p u) := by
  obtain ⟨cs, h1, h2⟩ := h
  exact ⟨cs, blk_far h1 hp u, h2⟩
theorem seen_drewN {g : Nat} {d : List (Int × Int)} {w : World} (h : Seen g d w) (n : Nat) : Seen g d (w.drewN n) := by
  obtain ⟨cs, h1, h2⟩ := h
  exact ⟨cs, (by rw [World.heap_drewN]; exact h1), h2⟩
theorem blk_drewN {g : Nat} {o : Obj} {w : World} (h : w.heap[g]? = some o) (n : Nat) : (w.drewN n).heap[g]? = some o := by rw [World.heap_drewN]; exact h
theorem seen_frozen {g : Nat} {d : List (Int × Int)} {w : World} (h : Seen g d w) (i : Nat) : w.frozen? ⟨g, i, none⟩ = false := by
  obtain ⟨cs, h1, h2⟩ := h
  exact blk_frozen h1 i
def queue_May.go (n : Int) : List (Int × Int) → List S26 → Bool
  | _, [] => decide (0 ≤ n) && decide (n ≤ 24)
  | d, p :: t => if p.f0 < 0 then false else if p.f1 ≤ p.f0 then false else if (if 24 < n then 24 else n) ≤ p.f1 then false else if d.contains (p.f0, p.f1) = true then false else queue_May.go n ((p.f0, p.f1) :: d) t
def queue_May.f (n : Int) (l : List S26) : Option Bool := if l.length < 17592186044416 then some (queue_May.go n [] l) else none
theorem may_nil (n : Int) (d : List (Int × Int)) (l : List S26) (k : Nat) (h : ¬ k < l.length) : queue_May.go n d (l.drop k) = (decide (0 ≤ n) && decide (n ≤ 24)) := by
  rw [List.drop_eq_nil_of_le (by omega)]
  rfl
theorem may_cons (n : Int) (d : List (Int × Int)) (l : List S26) (k : Nat) (h : k < l.length) : queue_May.go n d (l.drop k) = if (rd_T26 l k).f0 < 0 then false else if (rd_T26 l k).f1 ≤ (rd_T26 l k).f0 then false else if (if 24 < n then 24 else n) ≤ (rd_T26 l k).f1 then false else if d.contains ((rd_T26 l k).f0, (rd_T26 l k).f1) = true then false else queue_May.go n (((rd_T26 l k).f0, (rd_T26 l k).f1) :: d) (l.drop (k + 1)) := by
  have e : rd_T26 l (k : Int) = l[k] := by
    unfold rd_T26
    simp [h]
  rw [List.drop_eq_getElem_cons h, e]
  rfl
set_option maxHeartbeats 4000000 in
set_option maxRecDepth 100000 in
theorem queue_May.calls (a0 : Int) (A1 : Option Addr) (c1 : Nat) (l1 : List S26) (r : Bool) (w : World) (hr1 : Kd.C k26 w A1 l1.length l1) (hc1 : l1.length ≤ c1) (h : queue_May.f a0 l1 = some r) :
    Calls Try.prog 17 #[.int .i64 a0, .slice A1 l1.length c1] w fun e w' => e = .returned (.bool r) ∧ Below w.heap.size w w' := by
  have hu26 := Try.underlying26
  have hl : l1.length < 17592186044416 := by
    by_cases hl : l1.length < 17592186044416
    · exact hl
    · unfold queue_May.f at h
      rw [if_neg hl] at h
      exact absurd h (by simp)
  unfold queue_May.f at h
  rw [if_pos hl] at h
  have HL := Aside0.mk hl
  clear hl
  have HF := Aside0.mk (Option.some.inj h)
  have HR1 := Aside0.mk hr1
  have HC1 := Aside0.mk hc1
  clear hr1 hc1 h
  have HS := Aside0.mk (seen_new w)
  have HB := Aside0.mk (below_alloc (Below.refl _ w) (.cells seen0 75))
  have hnew := new75
  go_enter Try.func17, Try.ntmps17
  go_wp2
  go_loopg [10] (l1.length + 1) (fun kq v w' => ∃ (k : Nat) (d : List (Int × Int)), v = .int .i64 (k : Int) ∧ Aside0 (kq + k = l1.length + 1 ∧ queue_May.go a0 d (l1.drop k) = r) ∧ Aside0 (Seen w.heap.size d w') ∧ Aside0 (Below w.heap.size w w'))
  case atStart => exact ⟨0, [], rfl, ⟨by omega, by rw [List.drop_zero]; exact HF.out⟩, HS, HB⟩
  case round =>
    clear HS HB
    obtain ⟨k, d, rfl, HK, HS, HB⟩ := hrel
    by_cases hk : k < l1.length
    · have p1 : (0 : Int) ≤ (k : Int) := by omega
      have q1 : (k : Int) < (l1.length : Int) := by omega
      obtain ⟨ad, e1, x0, x1⟩ := at_T26 HR1.out (k : Int) p1 q1
      cases e1
      replace x0 := (HB.out.cell (World.block_lt_of_cell? w _ x0)).trans x0
      replace x1 := (HB.out.cell (World.block_lt_of_cell? w _ x1)).trans x1
      have HH := HK.out.2
      rw [may_cons a0 d l1 k hk] at HH
      rw [Int.toNat_natCast] at x0 x1
      generalize hp : rd_T26 l1 (k : Int) = p at HH x0 x1
      obtain ⟨a, b⟩ := p
      dsimp only at HH x0 x1
      clear hp
      have HQ := Aside0.mk HH
      have HLT := Aside0.mk hk
      clear HH hk
      replace p1 := eq_true p1
      have q1' := decide_eq_true q1
      have q1n := decide_eq_true HLT.out
      replace q1 := eq_true q1
      go_upto_region 5 with (fail)
      have HG := Aside0.mk (blk_new wr (.cells #[.int .i64 a, .int .i64 b] 26))
      have HS2 := Aside0.mk (seen_alloc HS.out (.cells #[.int .i64 a, .int .i64 b] 26))
      have HB2 := Aside0.mk (below_alloc HB.out (.cells #[.int .i64 a, .int .i64 b] 26))
      have HN := Aside0.mk HB.out.size
      generalize wr.alloc (.cells #[.int .i64 a, .int .i64 b] 26) = w2 at HG HS2 HB2 ⊢
      generalize wr.heap.size = g at HG HN ⊢
      clear HS HB x0 x1 p1 q1 q1' q1n
      have y0 : w2.cell? ⟨g, 0, none⟩ = some (.int .i64 a) := (blk_cell HG.out 0).trans rfl
      have y1 : w2.cell? ⟨g, 1, none⟩ = some (.int .i64 b) := (blk_cell HG.out 1).trans rfl
      obtain ⟨M, hM, hM24⟩ : ∃ M : Int, (if 24 < a0 then 24 else a0) = M ∧ M ≤ 24 := ⟨_, rfl, by split <;> omega⟩
      replace HQ := Aside0.mk HQ.out
      have hq0 := HQ.out
      rw [hM] at hq0
      replace HQ := Aside0.mk hq0
      clear hq0
      have hd : ∀ n, Below w.heap.size w (w2.drewN n) := fun n => by repeat (first | exact HB2.out | apply pw_below_drewN)
      cases n0 : decide (a < 0) with
      | true =>
        go_quiet (fail)
        go_wp2
        go_ret
        have hq := HQ.out
        rw [if_pos (of_decide_eq_true n0)] at hq
        subst hq
        exact ⟨rfl, hd _⟩
      | false =>
        cases n1 : decide (b ≤ a) with
        | true =>
          go_quiet (fail)
          go_wp2
          go_ret
          have hq := HQ.out
          rw [if_neg (of_decide_eq_false n0), if_pos (of_decide_eq_true n1)] at hq
          subst hq
          exact ⟨rfl, hd _⟩
        | false =>
          cases n2 : decide (M ≤ b) with
          | true =>
            go_quiet (fail)
            go_wp2
            go_ret
            have hq := HQ.out
            rw [if_neg (of_decide_eq_false n0), if_neg (of_decide_eq_false n1), if_pos (of_decide_eq_true n2)] at hq
            subst hq
            exact ⟨rfl, hd _⟩
          | false =>
            have b0 : 0 ≤ a := Int.not_lt.1 (of_decide_eq_false n0)
            have b1 : a < b := Int.not_le.1 (of_decide_eq_false n1)
            have b2 : b < M := Int.not_le.1 (of_decide_eq_false n2)
            have b3 : b < 24 := by omega
            have i1 : ∀ w_, (Instr.indexAt 75 (.pointer (some ⟨w.heap.size, 0, none⟩)) (.int .i64 a)).run Try.prog w_ = .ok (.pointer (some ⟨w.heap.size, a.toNat * 24, none⟩)) w_ := at75 _ a b0 (by omega)
            have i2 : ∀ w_, (Instr.indexAt 74 (.pointer (some ⟨w.heap.size, a.toNat * 24, none⟩)) (.int .i64 b)).run Try.prog w_ = .ok (.pointer (some ⟨w.heap.size, a.toNat * 24 + b.toNat, none⟩)) w_ := at74 _ _ b (by omega) b3
            have sc := seen_cell HS2.out b0 (by omega) (by omega : 0 ≤ b) b3
            cases n3 : d.contains (a, b) with
            | true =>
              rw [n3] at sc
              go_quiet (fail)
              go_wp2
              go_ret
              have hq := HQ.out
              rw [if_neg (of_decide_eq_false n0), if_neg (of_decide_eq_false n1), if_neg (of_decide_eq_false n2), if_pos n3] at hq
              subst hq
              exact ⟨rfl, hd _⟩
            | false =>
              rw [n3] at sc
              have hq := HQ.out
              rw [if_neg (of_decide_eq_false n0), if_neg (of_decide_eq_false n1), if_neg (of_decide_eq_false n2), if_neg (by rw [n3]; decide)] at hq
              have HQ2 := Aside0.mk hq
              clear hq HQ
              go_quiet (fail)
              go_upto_region 7 with (fail)
              have HS3 := Aside0.mk (seen_drewN HS2.out nq)
              have HB3 := Aside0.mk (hd nq)
              have HG3 := Aside0.mk (blk_drewN HG.out nq)
              generalize w2.drewN nq = w3 at HS3 HB3 HG3 ⊢
              clear HS2 HB2 HG y0 y1 hd sc
              refine start_ (n := 7) (S := fun w' => w'.cell? ⟨g, 0, none⟩ = some (.int .i64 a) ∧ w'.cell? ⟨g, 1, none⟩ = some (.int .i64 b)) (ds := [6]) #[false, false, false, false, false, false, false] (by kernel_rfl) rfl rfl ⟨(blk_cell (blk_drew HG3.out) 0).trans rfl, (blk_cell (blk_drew HG3.out) 1).trans rfl⟩ (fun hHeld => ?_)
              have HS4 := Aside0.mk (seen_drew HS3.out)
              have HB4 := Aside0.mk (below_drew HB3.out)
              generalize w3.drew = w4 at HS4 HB4 hHeld ⊢
              clear HS3 HB3 HG3 w3
              refine pure_ (i := 0) (N := some 40) (v := ?_) (a' := ?_) #[true, false, false, false, false, false, false] rfl rfl (by kernel_rfl) (fun _ _ _ h => h) (Or.inl ⟨by rfl, ?_⟩) ?_ ?_
              rotate_left
              · intro w'
                go_simp
                with_reducible rfl
              rotate_left
              · simp only [Act.put, List.setIfInBounds_toArray, List.set_cons_zero, List.set_cons_succ, i64_w, i32_w]
                rfl
              refine take_ (i := 1) (N := some 41) (v := ?_) (a' := ?_) #[true, true, false, false, false, false, false] rfl rfl (by kernel_rfl) (fun _ _ _ h => h) (Or.inl ⟨by rfl, ?_⟩) hHeld ?_ ?_
              rotate_left
              · rintro w' ⟨s0_, s1_⟩
                go_simp
                with_reducible rfl
              rotate_left
              · simp only [Act.put, List.setIfInBounds_toArray, List.set_cons_zero, List.set_cons_succ, i64_w, i32_w]
                rfl
              refine pure_ (i := 2) (N := some 42) (v := ?_) (a' := ?_) #[true, true, true, false, false, false, false] rfl rfl (by kernel_rfl) (fun _ _ _ h => h) (Or.inl ⟨by rfl, ?_⟩) ?_ ?_
              rotate_left
              · intro w'
                go_simp
                with_reducible rfl
              rotate_left
              · simp only [Act.put, List.setIfInBounds_toArray, List.set_cons_zero, List.set_cons_succ, i64_w, i32_w]
                rfl
              refine take_ (i := 3) (N := some 43) (v := ?_) (a' := ?_) #[true, true, true, true, false, false, false] rfl rfl (by kernel_rfl) (fun _ _ _ h => h) (Or.inl ⟨by rfl, ?_⟩) hHeld ?_ ?_
              rotate_left
              · rintro w' ⟨s0_, s1_⟩
                go_simp
                with_reducible rfl
              rotate_left
              · simp only [Act.put, List.setIfInBounds_toArray, List.set_cons_zero, List.set_cons_succ, i64_w, i32_w]
                rfl
              refine pure_ (i := 4) (N := some 44) (v := ?_) (a' := ?_) #[true, true, true, true, true, false, false] rfl rfl (by kernel_rfl) (fun _ _ _ h => h) (Or.inl ⟨by rfl, ?_⟩) ?_ ?_
              rotate_left
              · intro w'
                go_simp
                with_reducible rfl
              rotate_left
              · simp only [Act.put, List.setIfInBounds_toArray, List.set_cons_zero, List.set_cons_succ, i64_w, i32_w]
                rfl
              refine pure_ (i := 5) (N := some 45) (v := ?_) (a' := ?_) #[true, true, true, true, true, true, false] rfl rfl (by kernel_rfl) (fun _ _ _ h => h) (Or.inl ⟨by rfl, ?_⟩) ?_ ?_
              rotate_left
              · intro w'
                go_simp
                with_reducible rfl
              rotate_left
              · simp only [Act.put, List.setIfInBounds_toArray, List.set_cons_zero, List.set_cons_succ, i64_w, i32_w]
                rfl
              refine last_ (i := 6) (N := none) #[true, true, true, true, true, true, true] rfl rfl (by kernel_rfl) (by decide) (fun K hK => ?_)
              have hf := seen_frozen HS4.out (a.toNat * 24 + b.toNat)
              have hc := seen_cell HS4.out b0 (by omega) (by omega : 0 ≤ b) b3
              rw [n3] at hc
              refine skip_ (w1 := ?_) (by rfl) rfl ?_ ?_
              rotate_left
              · go_simp
                rfl
              refine hK.out _ _ ?_
              clear hK K
              refine done_ (by kernel_rfl) ?_
              have HS5 := Aside0.mk (seen_put HS4.out b0 (by omega) (by omega : 0 ≤ b) b3)
              have HB5 := Aside0.mk (HB4.out.setCell (p := ⟨w.heap.size, a.toNat * 24 + b.toNat, none⟩) (Nat.le_refl _) (.bool true))
              generalize w4.setCell ⟨w.heap.size, a.toNat * 24 + b.toNat, none⟩ (.bool true) = w5 at HS5 HB5 ⊢
              clear HS4 HB4 hHeld hf hc w4
              obtain ⟨k1, rfl⟩ : ∃ k1, gk = k1 + 1 := ⟨gk - 1, by have := HK.out.1; have := HLT.out; omega⟩
              go_wp2
              go_roundg k1
              case measure => have := HK.out.1; omega
              case rel => exact ⟨k + 1, _, by have := HL.out; have := HLT.out; exact congrArg (Value.int .i64) (show wrap64 ((k : Int) + 1) = ((k + 1 : Nat) : Int) by unfold wrap64; omega), ⟨by have := HK.out.1; omega, HQ2.out⟩, HS5, HB5⟩
    · have q1' : decide ((k : Int) < (l1.length : Int)) = false := decide_eq_false (by omega)
      have q1n : decide (k < l1.length) = false := decide_eq_false hk
      have HH := HK.out.2
      rw [may_nil a0 d l1 k hk] at HH
      subst HH
      clear hk
      cases z0 : decide (0 ≤ a0) with
      | false =>
        go_wp2
        go_ret
        exact ⟨by rw [z0]; simp, HB.out⟩
      | true =>
        go_wp2
        go_ret
        exact ⟨by rw [z0]; simp, HB.out⟩

/-! ### slices_IndexFunc_int_int: function 116 -/

def bad (n : Int) : Bool := decide (n < 0) || decide (40 < n)
theorem bad_no {n : Int} (h : bad n = false) : decide (n < 0) = false ∧ decide (40 < n) = false := by
  unfold bad at h
  exact Bool.or_eq_false_iff.1 h
set_option maxHeartbeats 1000000 in
set_option maxRecDepth 100000 in
theorem May1 (n : Int) (w : World) : Calls Try.prog 107 #[.int .i64 n] w fun e w' => e = .returned (.bool (bad n)) ∧ w = w' := by
  cases h : bad n with
  | false =>
    obtain ⟨h1, h2⟩ := bad_no h
    clear h
    go_enter Try.func107, Try.ntmps107
    go_wp2
    go_ret
    exact ⟨rfl, rfl⟩
  | true =>
    cases h1 : decide (n < 0) with
    | true =>
      clear h
      go_enter Try.func107, Try.ntmps107
      go_wp2
      go_ret
      exact ⟨rfl, rfl⟩
    | false =>
      have h2 : decide (40 < n) = true := by unfold bad at h; rw [h1] at h; exact h
      clear h
      go_enter Try.func107, Try.ntmps107
      go_wp2
      go_ret
      exact ⟨rfl, rfl⟩
def idx (b0 b1 b2 b3 : Bool) : Int := if b0 then 0 else if b1 then 1 else if b2 then 2 else if b3 then 3 else -1
set_option maxHeartbeats 1000000 in
set_option maxRecDepth 100000 in
theorem IndexFunc4 (g : Nat) (x0 x1 x2 x3 : Int) (w : World) (hb : w.heap[g]? = some (.cells #[.int .i64 x0, .int .i64 x1, .int .i64 x2, .int .i64 x3] 36 (0, 0))) :
    Calls Try.prog 116 #[.slice (some ⟨g, 0, none⟩) 4 4, .func (.func 107) #[] #[]] w fun e w' => e = .returned (.int .i64 (idx (bad x0) (bad x1) (bad x2) (bad x3))) ∧ w = w' := by
  have c0 : w.cell? ⟨g, 0, none⟩ = some (.int .i64 x0) := (blk_cell hb 0).trans rfl
  have c1 : w.cell? ⟨g, 1, none⟩ = some (.int .i64 x1) := (blk_cell hb 1).trans rfl
  have c2 : w.cell? ⟨g, 2, none⟩ = some (.int .i64 x2) := (blk_cell hb 2).trans rfl
  have c3 : w.cell? ⟨g, 3, none⟩ = some (.int .i64 x3) := (blk_cell hb 3).trans rfl
  clear hb
  cases h0 : bad x0 with
  | true =>
    go_enter Try.func116, Try.ntmps116
    go_wp2
    refine wp_loop_rounds 1 ?_
    rw [rounds_succ]
    go_wp2_with (go_at_call 107; refine (May1 _ _).mono ?_; rw [h0]; rintro e w' ⟨rfl, rfl⟩)
    go_ret
    exact ⟨rfl, rfl⟩
  | false =>
    cases h1 : bad x1 with
    | true =>
      go_enter Try.func116, Try.ntmps116
      go_wp2
      refine wp_loop_rounds 2 ?_
      rw [rounds_succ]
      go_wp2_with (go_at_call 107; refine (May1 _ _).mono ?_; rw [h0]; rintro e w' ⟨rfl, rfl⟩)
      rw [rounds_succ]
      go_wp2_with (go_at_call 107; refine (May1 _ _).mono ?_; rw [h1]; rintro e w' ⟨rfl, rfl⟩)
      go_ret
      exact ⟨rfl, rfl⟩
    | false =>
      cases h2 : bad x2 with
      | true =>
        go_enter Try.func116, Try.ntmps116
        go_wp2
        refine wp_loop_rounds 3 ?_
        rw [rounds_succ]
        go_wp2_with (go_at_call 107; refine (May1 _ _).mono ?_; rw [h0]; rintro e w' ⟨rfl, rfl⟩)
        rw [rounds_succ]
        go_wp2_with (go_at_call 107; refine (May1 _ _).mono ?_; rw [h1]; rintro e w' ⟨rfl, rfl⟩)
        rw [rounds_succ]
        go_wp2_with (go_at_call 107; refine (May1 _ _).mono ?_; rw [h2]; rintro e w' ⟨rfl, rfl⟩)
        go_ret
        exact ⟨rfl, rfl⟩
      | false =>
        cases h3 : bad x3 with
        | true =>
          go_enter Try.func116, Try.ntmps116
          go_wp2
          refine wp_loop_rounds 4 ?_
          rw [rounds_succ]
          go_wp2_with (go_at_call 107; refine (May1 _ _).mono ?_; rw [h0]; rintro e w' ⟨rfl, rfl⟩)
          rw [rounds_succ]
          go_wp2_with (go_at_call 107; refine (May1 _ _).mono ?_; rw [h1]; rintro e w' ⟨rfl, rfl⟩)
          rw [rounds_succ]
          go_wp2_with (go_at_call 107; refine (May1 _ _).mono ?_; rw [h2]; rintro e w' ⟨rfl, rfl⟩)
          rw [rounds_succ]
          go_wp2_with (go_at_call 107; refine (May1 _ _).mono ?_; rw [h3]; rintro e w' ⟨rfl, rfl⟩)
          go_ret
          exact ⟨rfl, rfl⟩
        | false =>
          go_enter Try.func116, Try.ntmps116
          go_wp2
          refine wp_loop_rounds 5 ?_
          rw [rounds_succ]
          go_wp2_with (go_at_call 107; refine (May1 _ _).mono ?_; rw [h0]; rintro e w' ⟨rfl, rfl⟩)
          rw [rounds_succ]
          go_wp2_with (go_at_call 107; refine (May1 _ _).mono ?_; rw [h1]; rintro e w' ⟨rfl, rfl⟩)
          rw [rounds_succ]
          go_wp2_with (go_at_call 107; refine (May1 _ _).mono ?_; rw [h2]; rintro e w' ⟨rfl, rfl⟩)
          rw [rounds_succ]
          go_wp2_with (go_at_call 107; refine (May1 _ _).mono ?_; rw [h3]; rintro e w' ⟨rfl, rfl⟩)
          rw [rounds_succ]
          go_wp2
          go_ret
          exact ⟨rfl, rfl⟩

/-! ### slices_ContainsFunc_int_int: function 106 -/

def mays (x0 x1 x2 x3 : Int) : Bool := !(bad x0 || (bad x1 || (bad x2 || bad x3)))
theorem idx_may (x0 x1 x2 x3 : Int) : decide (0 ≤ idx (bad x0) (bad x1) (bad x2) (bad x3)) = !mays x0 x1 x2 x3 := by
  unfold mays idx
  cases bad x0 <;> cases bad x1 <;> cases bad x2 <;> cases bad x3 <;> rfl
set_option maxHeartbeats 1000000 in
set_option maxRecDepth 100000 in
theorem ContainsFunc4 (g : Nat) (x0 x1 x2 x3 : Int) (w : World) (hb : w.heap[g]? = some (.cells #[.int .i64 x0, .int .i64 x1, .int .i64 x2, .int .i64 x3] 36 (0, 0))) :
    Calls Try.prog 106 #[.slice (some ⟨g, 0, none⟩) 4 4, .func (.func 107) #[] #[]] w fun e w' => e = .returned (.bool (!mays x0 x1 x2 x3)) ∧ w = w' := by
  have HB := Aside0.mk hb
  clear hb
  have hi := idx_may x0 x1 x2 x3
  go_enter Try.func106, Try.ntmps106
  go_wp2_with (go_at_call 116; refine (IndexFunc4 g x0 x1 x2 x3 _ HB.out).mono ?_; rintro e w' ⟨rfl, rfl⟩)
  go_ret
  exact ⟨rfl, rfl⟩

-- NOT PRINTED: function 107 (mono_May_1)

/-! ### mono_May: function 80 -/

def mono_May.f (x0 x1 x2 x3 : Int) : Option Bool := some (mays x0 x1 x2 x3)
set_option maxHeartbeats 1000000 in
set_option maxRecDepth 100000 in
theorem mono_May.calls (x0 x1 x2 x3 : Int) (r : Bool) (w : World) (h : mono_May.f x0 x1 x2 x3 = some r) :
    Calls Try.prog 80 #[.agg #[.int .i64 x0, .int .i64 x1, .int .i64 x2, .int .i64 x3]] w fun e w' => e = .returned (.bool r) ∧ Below w.heap.size w w' := by
  obtain rfl := Option.some.inj h
  clear h
  have HB := Aside0.mk (blk_new w (.cells #[.int .i64 x0, .int .i64 x1, .int .i64 x2, .int .i64 x3] 36))
  have hnot : ∀ (x : Bool) (w : World), (Op.unary .not (.bool x)).run Try.prog w = .ok (.bool (!x)) w := fun _ _ => rfl
  go_enter Try.func80, Try.ntmps80
  go_wp2_with (go_at_call 106; refine (ContainsFunc4 _ x0 x1 x2 x3 _ HB.out).mono ?_; rintro e w' ⟨rfl, rfl⟩)
  go_ret
  exact ⟨by simp, below_alloc (Below.refl _ _) _⟩

/-! ### mono_zipped: function 81 -/
set_option maxHeartbeats 1000000 in
set_option maxRecDepth 100000 in
theorem mono_zipped_82.cl (x y : Int) (w : World) : Calls Try.prog 82 #[.int .i64 x, .int .i64 y] w fun e w' => e = .returned (.int .i64 (mx (x) (y))) ∧ w' = w := by
  have hm : mx (x) (y) = if x < y then y else x := rfl
  rw [hm]
  by_cases h : x < y
  · rw [if_pos h]
    go_enter Try.func82, Try.ntmps82
    go_wp2
    go_ret
    exact ⟨rfl, rfl⟩
  · rw [if_neg h]
    go_enter Try.func82, Try.ntmps82
    go_wp2
    go_ret
    exact ⟨rfl, rfl⟩
set_option maxHeartbeats 4000000 in
set_option maxRecDepth 100000 in
theorem mono_zipped_82.calls_ (x0 x1 x2 x3 y0 y1 y2 y3 : Int) (w : World) :
    Calls Try.prog 81 #[.agg #[.int .i64 x0, .int .i64 x1, .int .i64 x2, .int .i64 x3], .agg #[.int .i64 y0, .int .i64 y1, .int .i64 y2, .int .i64 y3], .func (.func 82) #[] #[]] w fun e w' => e = .returned (.agg #[.int .i64 (mx (x0) (y0)), .int .i64 (mx (x1) (y1)), .int .i64 (mx (x2) (y2)), .int .i64 (mx (x3) (y3))]) ∧ Below w.heap.size w w' := by
  have hA := blk_alloc (blk_alloc (blk_new w (.cells #[.int .i64 x0, .int .i64 x1, .int .i64 x2, .int .i64 x3] 36)) (.cells #[.int .i64 y0, .int .i64 y1, .int .i64 y2, .int .i64 y3] 36)) (.cells #[.int .i64 0, .int .i64 0, .int .i64 0, .int .i64 0] 36)
  have hB := blk_alloc (blk_new (w.alloc (.cells #[.int .i64 x0, .int .i64 x1, .int .i64 x2, .int .i64 x3] 36)) (.cells #[.int .i64 y0, .int .i64 y1, .int .i64 y2, .int .i64 y3] 36)) (.cells #[.int .i64 0, .int .i64 0, .int .i64 0, .int .i64 0] 36)
  have hC := blk_new ((w.alloc (.cells #[.int .i64 x0, .int .i64 x1, .int .i64 x2, .int .i64 x3] 36)).alloc (.cells #[.int .i64 y0, .int .i64 y1, .int .i64 y2, .int .i64 y3] 36)) (.cells #[.int .i64 0, .int .i64 0, .int .i64 0, .int .i64 0] 36)
  have hD := below_alloc (below_alloc (below_alloc (Below.refl _ w) (.cells #[.int .i64 x0, .int .i64 x1, .int .i64 x2, .int .i64 x3] 36)) (.cells #[.int .i64 y0, .int .i64 y1, .int .i64 y2, .int .i64 y3] 36)) (.cells #[.int .i64 0, .int .i64 0, .int .i64 0, .int .i64 0] 36)
  simp only [World.size_alloc] at hA hB hC
  have HA0 := Aside0.mk hA
  have HB0 := Aside0.mk hB
  have HC0 := Aside0.mk hC
  have HD0 := Aside0.mk hD
  clear hA hB hC hD
  go_enter Try.func81, Try.ntmps81
  go_wp2
  generalize ((w.alloc (.cells #[.int .i64 x0, .int .i64 x1, .int .i64 x2, .int .i64 x3] 36)).alloc (.cells #[.int .i64 y0, .int .i64 y1, .int .i64 y2, .int .i64 y3] 36)).alloc (.cells #[.int .i64 0, .int .i64 0, .int .i64 0, .int .i64 0] 36) = v0 at HA0 HB0 HC0 HD0 ⊢
  refine wp_loop_rounds 5 ?_
  rw [rounds_succ]
  go_wp2
  have ca : (v0.drew).cell? ⟨w.heap.size, 0, none⟩ = some (.int .i64 x0) := (blk_cell (blk_drew HA0.out) 0).trans rfl
  have cb : (v0.drew).cell? ⟨w.heap.size + 1, 0, none⟩ = some (.int .i64 y0) := (blk_cell (blk_drew HB0.out) 0).trans rfl
  have cc : (v0.drew).cell? ⟨w.heap.size + 1 + 1, 0, none⟩ = some (.int .i64 0) := (blk_cell (blk_drew HC0.out) 0).trans rfl
  have cf : (v0.drew).frozen? ⟨w.heap.size + 1 + 1, 0, none⟩ = false := blk_frozen (blk_drew HC0.out) 0
  have HA := Aside0.mk (blk_drew HA0.out)
  have HB := Aside0.mk (blk_drew HB0.out)
  have HC := Aside0.mk (blk_drew HC0.out)
  have HD := Aside0.mk (below_drew HD0.out)
  refine wp_region_still_tail 10 (by kernel_rfl) (by kernel_rfl) ?_
  change wpStill Try.prog _ v0.drew (fun a' => wpList Try.prog _ _ _ a' v0.drew) _ _
  generalize v0.drew = u0 at HA HB HC HD ca cb cc cf ⊢
  clear HA0 HB0 HC0 HD0 v0
  simp only [List.take_succ_cons, List.take_zero, List.drop_succ_cons, List.drop_zero]
  repeat still_step
  still_call (mono_zipped_82.cl _ _ _)
  still_step
  refine wpStill_nil ?_
  go_wp2
  have HA1 := Aside0.mk (blk_far HA.out (p := ⟨w.heap.size + 1 + 1, 0, none⟩) (by show _ ≠ w.heap.size + 1 + 1; omega) (.int .i64 (mx (x0) (y0))))
  have HB1 := Aside0.mk (blk_far HB.out (p := ⟨w.heap.size + 1 + 1, 0, none⟩) (by show _ ≠ w.heap.size + 1 + 1; omega) (.int .i64 (mx (x0) (y0))))
  have HC1 := Aside0.mk (blk_put (cs' := #[.int .i64 (mx (x0) (y0)), .int .i64 0, .int .i64 0, .int .i64 0]) HC.out 0 (.int .i64 (mx (x0) (y0))) rfl)
  have HD1 := Aside0.mk (below_set (g := w.heap.size + 1 + 1) (j := 0) (v := .int .i64 (mx (x0) (y0))) HD.out (by omega))
  generalize u0.setCell ⟨w.heap.size + 1 + 1, 0, none⟩ (.int .i64 (mx (x0) (y0))) = v1 at HA1 HB1 HC1 HD1 ⊢
  clear HA HB HC HD ca cb cc cf u0
  rw [rounds_succ]
  go_wp2
  have ca : (v1.drew).cell? ⟨w.heap.size, 1, none⟩ = some (.int .i64 x1) := (blk_cell (blk_drew HA1.out) 1).trans rfl
  have cb : (v1.drew).cell? ⟨w.heap.size + 1, 1, none⟩ = some (.int .i64 y1) := (blk_cell (blk_drew HB1.out) 1).trans rfl
  have cc : (v1.drew).cell? ⟨w.heap.size + 1 + 1, 1, none⟩ = some (.int .i64 0) := (blk_cell (blk_drew HC1.out) 1).trans rfl
  have cf : (v1.drew).frozen? ⟨w.heap.size + 1 + 1, 1, none⟩ = false := blk_frozen (blk_drew HC1.out) 1
  have HA := Aside0.mk (blk_drew HA1.out)
  have HB := Aside0.mk (blk_drew HB1.out)
  have HC := Aside0.mk (blk_drew HC1.out)
  have HD := Aside0.mk (below_drew HD1.out)
  refine wp_region_still_tail 10 (by kernel_rfl) (by kernel_rfl) ?_
  change wpStill Try.prog _ v1.drew (fun a' => wpList Try.prog _ _ _ a' v1.drew) _ _
  generalize v1.drew = u1 at HA HB HC HD ca cb cc cf ⊢
  clear HA1 HB1 HC1 HD1 v1
  simp only [List.take_succ_cons, List.take_zero, List.drop_succ_cons, List.drop_zero]
  repeat still_step
  still_call (mono_zipped_82.cl _ _ _)
  still_step
  refine wpStill_nil ?_
  go_wp2
  have HA2 := Aside0.mk (blk_far HA.out (p := ⟨w.heap.size + 1 + 1, 1, none⟩) (by show _ ≠ w.heap.size + 1 + 1; omega) (.int .i64 (mx (x1) (y1))))
  have HB2 := Aside0.mk (blk_far HB.out (p := ⟨w.heap.size + 1 + 1, 1, none⟩) (by show _ ≠ w.heap.size + 1 + 1; omega) (.int .i64 (mx (x1) (y1))))
  have HC2 := Aside0.mk (blk_put (cs' := #[.int .i64 (mx (x0) (y0)), .int .i64 (mx (x1) (y1)), .int .i64 0, .int .i64 0]) HC.out 1 (.int .i64 (mx (x1) (y1))) rfl)
  have HD2 := Aside0.mk (below_set (g := w.heap.size + 1 + 1) (j := 1) (v := .int .i64 (mx (x1) (y1))) HD.out (by omega))
  generalize u1.setCell ⟨w.heap.size + 1 + 1, 1, none⟩ (.int .i64 (mx (x1) (y1))) = v2 at HA2 HB2 HC2 HD2 ⊢
  clear HA HB HC HD ca cb cc cf u1
  rw [rounds_succ]
  go_wp2
  have ca : (v2.drew).cell? ⟨w.heap.size, 2, none⟩ = some (.int .i64 x2) := (blk_cell (blk_drew HA2.out) 2).trans rfl
  have cb : (v2.drew).cell? ⟨w.heap.size + 1, 2, none⟩ = some (.int .i64 y2) := (blk_cell (blk_drew HB2.out) 2).trans rfl
  have cc : (v2.drew).cell? ⟨w.heap.size + 1 + 1, 2, none⟩ = some (.int .i64 0) := (blk_cell (blk_drew HC2.out) 2).trans rfl
  have cf : (v2.drew).frozen? ⟨w.heap.size + 1 + 1, 2, none⟩ = false := blk_frozen (blk_drew HC2.out) 2
  have HA := Aside0.mk (blk_drew HA2.out)
  have HB := Aside0.mk (blk_drew HB2.out)
  have HC := Aside0.mk (blk_drew HC2.out)
  have HD := Aside0.mk (below_drew HD2.out)
  refine wp_region_still_tail 10 (by kernel_rfl) (by kernel_rfl) ?_
  change wpStill Try.prog _ v2.drew (fun a' => wpList Try.prog _ _ _ a' v2.drew) _ _
  generalize v2.drew = u2 at HA HB HC HD ca cb cc cf ⊢
  clear HA2 HB2 HC2 HD2 v2
  simp only [List.take_succ_cons, List.take_zero, List.drop_succ_cons, List.drop_zero]
  repeat still_step
  still_call (mono_zipped_82.cl _ _ _)
  still_step
  refine wpStill_nil ?_
  go_wp2
  have HA3 := Aside0.mk (blk_far HA.out (p := ⟨w.heap.size + 1 + 1, 2, none⟩) (by show _ ≠ w.heap.size + 1 + 1; omega) (.int .i64 (mx (x2) (y2))))
  have HB3 := Aside0.mk (blk_far HB.out (p := ⟨w.heap.size + 1 + 1, 2, none⟩) (by show _ ≠ w.heap.size + 1 + 1; omega) (.int .i64 (mx (x2) (y2))))
  have HC3 := Aside0.mk (blk_put (cs' := #[.int .i64 (mx (x0) (y0)), .int .i64 (mx (x1) (y1)), .int .i64 (mx (x2) (y2)), .int .i64 0]) HC.out 2 (.int .i64 (mx (x2) (y2))) rfl)
  have HD3 := Aside0.mk (below_set (g := w.heap.size + 1 + 1) (j := 2) (v := .int .i64 (mx (x2) (y2))) HD.out (by omega))
  generalize u2.setCell ⟨w.heap.size + 1 + 1, 2, none⟩ (.int .i64 (mx (x2) (y2))) = v3 at HA3 HB3 HC3 HD3 ⊢
  clear HA HB HC HD ca cb cc cf u2
  rw [rounds_succ]
  go_wp2
  have ca : (v3.drew).cell? ⟨w.heap.size, 3, none⟩ = some (.int .i64 x3) := (blk_cell (blk_drew HA3.out) 3).trans rfl
  have cb : (v3.drew).cell? ⟨w.heap.size + 1, 3, none⟩ = some (.int .i64 y3) := (blk_cell (blk_drew HB3.out) 3).trans rfl
  have cc : (v3.drew).cell? ⟨w.heap.size + 1 + 1, 3, none⟩ = some (.int .i64 0) := (blk_cell (blk_drew HC3.out) 3).trans rfl
  have cf : (v3.drew).frozen? ⟨w.heap.size + 1 + 1, 3, none⟩ = false := blk_frozen (blk_drew HC3.out) 3
  have HA := Aside0.mk (blk_drew HA3.out)
  have HB := Aside0.mk (blk_drew HB3.out)
  have HC := Aside0.mk (blk_drew HC3.out)
  have HD := Aside0.mk (below_drew HD3.out)
  refine wp_region_still_tail 10 (by kernel_rfl) (by kernel_rfl) ?_
  change wpStill Try.prog _ v3.drew (fun a' => wpList Try.prog _ _ _ a' v3.drew) _ _
  generalize v3.drew = u3 at HA HB HC HD ca cb cc cf ⊢
  clear HA3 HB3 HC3 HD3 v3
  simp only [List.take_succ_cons, List.take_zero, List.drop_succ_cons, List.drop_zero]
  repeat still_step
  still_call (mono_zipped_82.cl _ _ _)
  still_step
  refine wpStill_nil ?_
  go_wp2
  have HA4 := Aside0.mk (blk_far HA.out (p := ⟨w.heap.size + 1 + 1, 3, none⟩) (by show _ ≠ w.heap.size + 1 + 1; omega) (.int .i64 (mx (x3) (y3))))
  have HB4 := Aside0.mk (blk_far HB.out (p := ⟨w.heap.size + 1 + 1, 3, none⟩) (by show _ ≠ w.heap.size + 1 + 1; omega) (.int .i64 (mx (x3) (y3))))
  have HC4 := Aside0.mk (blk_put (cs' := #[.int .i64 (mx (x0) (y0)), .int .i64 (mx (x1) (y1)), .int .i64 (mx (x2) (y2)), .int .i64 (mx (x3) (y3))]) HC.out 3 (.int .i64 (mx (x3) (y3))) rfl)
  have HD4 := Aside0.mk (below_set (g := w.heap.size + 1 + 1) (j := 3) (v := .int .i64 (mx (x3) (y3))) HD.out (by omega))
  generalize u3.setCell ⟨w.heap.size + 1 + 1, 3, none⟩ (.int .i64 (mx (x3) (y3))) = v4 at HA4 HB4 HC4 HD4 ⊢
  clear HA HB HC HD ca cb cc cf u3
  have c0 : v4.cell? ⟨w.heap.size + 1 + 1, 0, none⟩ = some (.int .i64 (mx (x0) (y0))) := (blk_cell HC4.out 0).trans rfl
  have c1 : v4.cell? ⟨w.heap.size + 1 + 1, 1, none⟩ = some (.int .i64 (mx (x1) (y1))) := (blk_cell HC4.out 1).trans rfl
  have c2 : v4.cell? ⟨w.heap.size + 1 + 1, 2, none⟩ = some (.int .i64 (mx (x2) (y2))) := (blk_cell HC4.out 2).trans rfl
  have c3 : v4.cell? ⟨w.heap.size + 1 + 1, 3, none⟩ = some (.int .i64 (mx (x3) (y3))) := (blk_cell HC4.out 3).trans rfl
  have cf0 : v4.frozen? ⟨w.heap.size + 1 + 1, 0, none⟩ = false := blk_frozen HC4.out 0
  have cf1 : v4.frozen? ⟨w.heap.size + 1 + 1, 1, none⟩ = false := blk_frozen HC4.out 1
  have cf2 : v4.frozen? ⟨w.heap.size + 1 + 1, 2, none⟩ = false := blk_frozen HC4.out 2
  have cf3 : v4.frozen? ⟨w.heap.size + 1 + 1, 3, none⟩ = false := blk_frozen HC4.out 3
  rw [rounds_succ]
  go_wp2
  have HC5 := Aside0.mk (blk_put (cs' := #[.int .i64 (mx (x0) (y0)), .int .i64 (mx (x1) (y1)), .int .i64 (mx (x2) (y2)), .int .i64 (mx (x3) (y3))]) (blk_put (cs' := #[.int .i64 (mx (x0) (y0)), .int .i64 (mx (x1) (y1)), .int .i64 (mx (x2) (y2)), .int .i64 (mx (x3) (y3))]) (blk_put (cs' := #[.int .i64 (mx (x0) (y0)), .int .i64 (mx (x1) (y1)), .int .i64 (mx (x2) (y2)), .int .i64 (mx (x3) (y3))]) (blk_put (cs' := #[.int .i64 (mx (x0) (y0)), .int .i64 (mx (x1) (y1)), .int .i64 (mx (x2) (y2)), .int .i64 (mx (x3) (y3))]) HC4.out 0 (.int .i64 (mx (x0) (y0))) rfl) 1 (.int .i64 (mx (x1) (y1))) rfl) 2 (.int .i64 (mx (x2) (y2))) rfl) 3 (.int .i64 (mx (x3) (y3))) rfl)
  have HD5 := Aside0.mk (below_set (g := w.heap.size + 1 + 1) (j := 3) (v := .int .i64 (mx (x3) (y3))) (below_set (g := w.heap.size + 1 + 1) (j := 2) (v := .int .i64 (mx (x2) (y2))) (below_set (g := w.heap.size + 1 + 1) (j := 1) (v := .int .i64 (mx (x1) (y1))) (below_set (g := w.heap.size + 1 + 1) (j := 0) (v := .int .i64 (mx (x0) (y0))) HD4.out (by omega)) (by omega)) (by omega)) (by omega))
  generalize (((v4.setCell ⟨w.heap.size + 1 + 1, 0, none⟩ (.int .i64 (mx (x0) (y0)))).setCell ⟨w.heap.size + 1 + 1, 1, none⟩ (.int .i64 (mx (x1) (y1)))).setCell ⟨w.heap.size + 1 + 1, 2, none⟩ (.int .i64 (mx (x2) (y2)))).setCell ⟨w.heap.size + 1 + 1, 3, none⟩ (.int .i64 (mx (x3) (y3))) = v5 at HC5 HD5 ⊢
  have d0 : v5.cell? ⟨w.heap.size + 1 + 1, 0, none⟩ = some (.int .i64 (mx (x0) (y0))) := (blk_cell HC5.out 0).trans rfl
  have d1 : v5.cell? ⟨w.heap.size + 1 + 1, 1, none⟩ = some (.int .i64 (mx (x1) (y1))) := (blk_cell HC5.out 1).trans rfl
  have d2 : v5.cell? ⟨w.heap.size + 1 + 1, 2, none⟩ = some (.int .i64 (mx (x2) (y2))) := (blk_cell HC5.out 2).trans rfl
  have d3 : v5.cell? ⟨w.heap.size + 1 + 1, 3, none⟩ = some (.int .i64 (mx (x3) (y3))) := (blk_cell HC5.out 3).trans rfl
  exact bodyPost_ret (v := .agg #[.int .i64 (mx (x0) (y0)), .int .i64 (mx (x1) (y1)), .int .i64 (mx (x2) (y2)), .int .i64 (mx (x3) (y3))]) (by simp [results, Try.results81, go_sem, d0, d1, d2, d3]) rfl ⟨rfl, HD5.out⟩
def mono_zipped_82.f (x0 x1 x2 x3 y0 y1 y2 y3 : Int) : Option (Int × Int × Int × Int) := some ((mx (x0) (y0)), (mx (x1) (y1)), (mx (x2) (y2)), (mx (x3) (y3)))
theorem mono_zipped_82.calls (x0 x1 x2 x3 y0 y1 y2 y3 : Int) (r1 r2 r3 r4 : Int) (w : World) (h : mono_zipped_82.f x0 x1 x2 x3 y0 y1 y2 y3 = some (r1, r2, r3, r4)) :
    Calls Try.prog 81 #[.agg #[.int .i64 x0, .int .i64 x1, .int .i64 x2, .int .i64 x3], .agg #[.int .i64 y0, .int .i64 y1, .int .i64 y2, .int .i64 y3], .func (.func 82) #[] #[]] w fun e w' => e = .returned (.agg #[.int .i64 r1, .int .i64 r2, .int .i64 r3, .int .i64 r4]) ∧ Below w.heap.size w w' := by
  have h := Option.some.inj h
  simp only [Prod.mk.injEq] at h
  obtain ⟨rfl, rfl, rfl, rfl⟩ := h
  exact mono_zipped_82.calls_ x0 x1 x2 x3 y0 y1 y2 y3 w

-- NOT PRINTED: function 82 (mono_Lcm_1)

/-! ### mono_Lcm: function 44 -/
def mono_Lcm.f (a0_0 : Int) (a0_1 : Int) (a0_2 : Int) (a0_3 : Int) (a1_0 : Int) (a1_1 : Int) (a1_2 : Int) (a1_3 : Int) : Option (Int × Int × Int × Int) := (mono_May.f a0_0 a0_1 a0_2 a0_3).bind fun t104 => (if t104 = true then ((mono_May.f a1_0 a1_1 a1_2 a1_3).bind fun t105 => (if t105 = true then ((mono_zipped_82.f a0_0 a0_1 a0_2 a0_3 a1_0 a1_1 a1_2 a1_3).bind fun bt106 => (some (bt106.1, bt106.2.1, bt106.2.2.1, bt106.2.2.2))) else (some (0, 0, 0, 0)))) else (some (0, 0, 0, 0)))
set_option maxHeartbeats 8000000 in
set_option maxRecDepth 100000 in
theorem mono_Lcm.calls (a0_0 : Int) (a0_1 : Int) (a0_2 : Int) (a0_3 : Int) (a1_0 : Int) (a1_1 : Int) (a1_2 : Int) (a1_3 : Int) (r1 : Int) (r2 : Int) (r3 : Int) (r4 : Int) (w : World) (h : mono_Lcm.f a0_0 a0_1 a0_2 a0_3 a1_0 a1_1 a1_2 a1_3 = some (r1, r2, r3, r4)) :
    Calls Try.prog 44 #[.agg #[.int .i64 a0_0, .int .i64 a0_1, .int .i64 a0_2, .int .i64 a0_3], .agg #[.int .i64 a1_0, .int .i64 a1_1, .int .i64 a1_2, .int .i64 a1_3]] w fun e w' => e = .returned (.agg #[.int .i64 r1, .int .i64 r2, .int .i64 r3, .int .i64 r4]) ∧ Below w.heap.size w w' := by
  have hu36 := Try.underlying36
  have HB := Aside0.mk (Below.refl w.heap.size w)
  have H : ((mono_May.f a0_0 a0_1 a0_2 a0_3).bind fun t104 => (if t104 = true then ((mono_May.f a1_0 a1_1 a1_2 a1_3).bind fun t105 => (if t105 = true then ((mono_zipped_82.f a0_0 a0_1 a0_2 a0_3 a1_0 a1_1 a1_2 a1_3).bind fun bt106 => (some (bt106.1, bt106.2.1, bt106.2.2.1, bt106.2.2.2))) else (some (0, 0, 0, 0)))) else (some (0, 0, 0, 0)))) = some (r1, r2, r3, r4) := h
  clear h
  replace H := Option.bind_eq_some_iff.mp H
  obtain ⟨t104, A30, H⟩ := H
  replace H : (if t104 = true then ((mono_May.f a1_0 a1_1 a1_2 a1_3).bind fun t105 => (if t105 = true then ((mono_zipped_82.f a0_0 a0_1 a0_2 a0_3 a1_0 a1_1 a1_2 a1_3).bind fun bt106 => (some (bt106.1, bt106.2.1, bt106.2.2.1, bt106.2.2.2))) else (some (0, 0, 0, 0)))) else (some (0, 0, 0, 0))) = some (r1, r2, r3, r4) := H
  have A3 := Aside0.mk A30
  clear A30
  by_cases c4 : t104 = true
  · subst c4
    have H1 : ((mono_May.f a1_0 a1_1 a1_2 a1_3).bind fun t105 => (if t105 = true then ((mono_zipped_82.f a0_0 a0_1 a0_2 a0_3 a1_0 a1_1 a1_2 a1_3).bind fun bt106 => (some (bt106.1, bt106.2.1, bt106.2.2.1, bt106.2.2.2))) else (some (0, 0, 0, 0)))) = some (r1, r2, r3, r4) := by rw [if_pos rfl] at H; exact H
    clear H
    have H := H1
    clear H1
    replace H := Option.bind_eq_some_iff.mp H
    obtain ⟨t105, A50, H⟩ := H
    replace H : (if t105 = true then ((mono_zipped_82.f a0_0 a0_1 a0_2 a0_3 a1_0 a1_1 a1_2 a1_3).bind fun bt106 => (some (bt106.1, bt106.2.1, bt106.2.2.1, bt106.2.2.2))) else (some (0, 0, 0, 0))) = some (r1, r2, r3, r4) := H
    have A5 := Aside0.mk A50
    clear A50
    by_cases c6 : t105 = true
    · subst c6
      have H1 : ((mono_zipped_82.f a0_0 a0_1 a0_2 a0_3 a1_0 a1_1 a1_2 a1_3).bind fun bt106 => (some (bt106.1, bt106.2.1, bt106.2.2.1, bt106.2.2.2))) = some (r1, r2, r3, r4) := by rw [if_pos rfl] at H; exact H
      clear H
      have H := H1
      clear H1
      replace H := Option.bind_eq_some_iff.mp H
      obtain ⟨⟨t106, t107, t108, t109⟩, A70, H⟩ := H
      replace H : (some (t106, t107, t108, t109)) = some (r1, r2, r3, r4) := H
      have A7 := Aside0.mk A70
      clear A70
      simp only [Option.some.injEq, Prod.mk.injEq] at H
      obtain ⟨rfl, rfl, rfl, rfl⟩ := H
      go_enter Try.func44, Try.ntmps44
      go_wp2_with (first | ((with_reducible refine gate_dst (N := 2) rfl ?_); refine box_event ?hg (N := 2) ?hd (cs := #[.int .i64 a0_0, .int .i64 a0_1, .int .i64 a0_2, .int .i64 a0_3]) (t := 36) ?hr ?_; (case hd => rfl); (case hg => rfl); (case hr => first | (go_simp; done) | (go_simp; rfl)); intro gb101 hg w8 hbox hb; have n0_ := Aside0.mk (below_step (by repeat (first | (with_reducible first | exact HB.out | apply below_alloc | apply pw_below_drewN | apply below_drew1) | exact HB.out)) hb); have n1_ := Aside0.mk (hbox); have n2_ := Aside0.mk ((by rw [hg]; exact (below_size (by repeat (first | (with_reducible first | exact HB.out | apply below_alloc | apply pw_below_drewN | apply below_drew1) | exact HB.out))) : w.heap.size ≤ gb101)); have n3_ := Aside0.mk ((by rw [hg]; exact (below_size (by repeat (first | (with_reducible first | exact HB.out | apply below_alloc | apply pw_below_drewN | apply below_drew1) | exact HB.out))) : w.heap.size ≤ gb101)); clear HB; have HB := n0_; have BK101 := n1_; have GW101 := n2_; have GE101 := n3_; clear n0_ n1_ n2_ n3_; clear hb hbox hg) | ((with_reducible refine gate_dst (N := 3) rfl ?_); refine box_event ?hg (N := 3) ?hd (cs := #[.int .i64 a1_0, .int .i64 a1_1, .int .i64 a1_2, .int .i64 a1_3]) (t := 36) ?hr ?_; (case hd => rfl); (case hg => rfl); (case hr => first | (go_simp; done) | (go_simp; rfl)); intro gb102 hg w9 hbox hb; have n0_ := Aside0.mk (blk_below (g := gb101) (o := .cells #[.int .i64 a0_0, .int .i64 a0_1, .int .i64 a0_2, .int .i64 a0_3] 36 (0, 0)) (by (with_reducible repeat (first | refine blk_drewN ?_ _ | refine blk_drew ?_ | refine blk_alloc ?_ _)); exact BK101.out) hb); have n1_ := Aside0.mk (below_step (by repeat (first | (with_reducible first | exact HB.out | apply below_alloc | apply pw_below_drewN | apply below_drew1 | refine below_set ?_ GE101.out) | exact HB.out)) hb); have n2_ := Aside0.mk (hbox); have n3_ := Aside0.mk ((by rw [hg]; exact (below_size (by repeat (first | (with_reducible first | exact HB.out | apply below_alloc | apply pw_below_drewN | apply below_drew1 | refine below_set ?_ GE101.out) | exact HB.out))) : w.heap.size ≤ gb102)); have n4_ := Aside0.mk ((by rw [hg]; exact (below_size (by repeat (first | (with_reducible first | exact HB.out | apply below_alloc | apply pw_below_drewN | apply below_drew1 | refine below_set ?_ GE101.out) | exact HB.out))) : w.heap.size ≤ gb102)); have n5_ := Aside0.mk ((by rw [hg]; exact Nat.ne_of_lt (blk_lt (g := gb101) (o := .cells #[.int .i64 a0_0, .int .i64 a0_1, .int .i64 a0_2, .int .i64 a0_3] 36 (0, 0)) (by (with_reducible repeat (first | refine blk_drewN ?_ _ | refine blk_drew ?_ | refine blk_alloc ?_ _)); exact BK101.out)) : gb101 ≠ gb102)); have n6_ := Aside0.mk ((by rw [hg]; exact Nat.ne_of_gt (blk_lt (g := gb101) (o := .cells #[.int .i64 a0_0, .int .i64 a0_1, .int .i64 a0_2, .int .i64 a0_3] 36 (0, 0)) (by (with_reducible repeat (first | refine blk_drewN ?_ _ | refine blk_drew ?_ | refine blk_alloc ?_ _)); exact BK101.out)) : gb102 ≠ gb101)); clear BK101; clear HB; have BK101 := n0_; have HB := n1_; have BK102 := n2_; have GW102 := n3_; have GE102 := n4_; have NB101_102 := n5_; have NB102_101 := n6_; clear n0_ n1_ n2_ n3_ n4_ n5_ n6_; clear hb hbox hg) | ((with_reducible refine gate_dst (N := 4) rfl ?_); refine box_event ?hg (N := 4) ?hd (cs := #[.int .i64 0, .int .i64 0, .int .i64 0, .int .i64 0]) (t := 36) ?hr ?_; (case hd => rfl); (case hg => rfl); (case hr => first | (go_simp; done) | (go_simp; rfl)); intro gb103 hg w10 hbox hb; have n0_ := Aside0.mk (blk_below (g := gb101) (o := .cells #[.int .i64 a0_0, .int .i64 a0_1, .int .i64 a0_2, .int .i64 a0_3] 36 (0, 0)) (by (with_reducible repeat (first | refine blk_drewN ?_ _ | refine blk_drew ?_ | refine blk_alloc ?_ _)); exact BK101.out) hb); have n1_ := Aside0.mk (blk_below (g := gb102) (o := .cells #[.int .i64 a1_0, .int .i64 a1_1, .int .i64 a1_2, .int .i64 a1_3] 36 (0, 0)) (by (with_reducible repeat (first | refine blk_drewN ?_ _ | refine blk_drew ?_ | refine blk_alloc ?_ _)); exact BK102.out) hb); have n2_ := Aside0.mk (below_step (by repeat (first | (with_reducible first | exact HB.out | apply below_alloc | apply pw_below_drewN | apply below_drew1 | refine below_set ?_ GE101.out | refine below_set ?_ GE102.out) | exact HB.out)) hb); have n3_ := Aside0.mk (hbox); have n4_ := Aside0.mk ((by rw [hg]; exact (below_size (by repeat (first | (with_reducible first | exact HB.out | apply below_alloc | apply pw_below_drewN | apply below_drew1 | refine below_set ?_ GE101.out | refine below_set ?_ GE102.out) | exact HB.out))) : w.heap.size ≤ gb103)); have n5_ := Aside0.mk ((by rw [hg]; exact (below_size (by repeat (first | (with_reducible first | exact HB.out | apply below_alloc | apply pw_below_drewN | apply below_drew1 | refine below_set ?_ GE101.out | refine below_set ?_ GE102.out) | exact HB.out))) : w.heap.size ≤ gb103)); have n6_ := Aside0.mk ((by rw [hg]; exact Nat.ne_of_lt (blk_lt (g := gb101) (o := .cells #[.int .i64 a0_0, .int .i64 a0_1, .int .i64 a0_2, .int .i64 a0_3] 36 (0, 0)) (by (with_reducible repeat (first | refine blk_drewN ?_ _ | refine blk_drew ?_ | refine blk_alloc ?_ _)); exact BK101.out)) : gb101 ≠ gb103)); have n7_ := Aside0.mk ((by rw [hg]; exact Nat.ne_of_gt (blk_lt (g := gb101) (o := .cells #[.int .i64 a0_0, .int .i64 a0_1, .int .i64 a0_2, .int .i64 a0_3] 36 (0, 0)) (by (with_reducible repeat (first | refine blk_drewN ?_ _ | refine blk_drew ?_ | refine blk_alloc ?_ _)); exact BK101.out)) : gb103 ≠ gb101)); have n8_ := Aside0.mk ((by rw [hg]; exact Nat.ne_of_lt (blk_lt (g := gb102) (o := .cells #[.int .i64 a1_0, .int .i64 a1_1, .int .i64 a1_2, .int .i64 a1_3] 36 (0, 0)) (by (with_reducible repeat (first | refine blk_drewN ?_ _ | refine blk_drew ?_ | refine blk_alloc ?_ _)); exact BK102.out)) : gb102 ≠ gb103)); have n9_ := Aside0.mk ((by rw [hg]; exact Nat.ne_of_gt (blk_lt (g := gb102) (o := .cells #[.int .i64 a1_0, .int .i64 a1_1, .int .i64 a1_2, .int .i64 a1_3] 36 (0, 0)) (by (with_reducible repeat (first | refine blk_drewN ?_ _ | refine blk_drew ?_ | refine blk_alloc ?_ _)); exact BK102.out)) : gb103 ≠ gb102)); clear BK101; clear BK102; clear HB; have BK101 := n0_; have BK102 := n1_; have HB := n2_; have BK103 := n3_; have GW103 := n4_; have GE103 := n5_; have NB101_103 := n6_; have NB103_101 := n7_; have NB102_103 := n8_; have NB103_102 := n9_; clear n0_ n1_ n2_ n3_ n4_ n5_ n6_ n7_ n8_ n9_; clear hb hbox hg; have hnb11 := NB101_102.out; have hnc11 := NB102_101.out; have hnb12 := NB101_103.out; have hnc12 := NB103_101.out; have hcz13_0 : w10.cell? ⟨gb101, 0, none⟩ = some (.int .i64 a0_0) := (blk_cell BK101.out 0).trans rfl; have hcz13_1 : w10.cell? ⟨gb101, 1, none⟩ = some (.int .i64 a0_1) := (blk_cell BK101.out 1).trans rfl; have hcz13_2 : w10.cell? ⟨gb101, 2, none⟩ = some (.int .i64 a0_2) := (blk_cell BK101.out 2).trans rfl; have hcz13_3 : w10.cell? ⟨gb101, 3, none⟩ = some (.int .i64 a0_3) := (blk_cell BK101.out 3).trans rfl; have hfz13_0 := blk_frozen BK101.out 0; have hfz13_1 := blk_frozen BK101.out 1; have hfz13_2 := blk_frozen BK101.out 2; have hfz13_3 := blk_frozen BK101.out 3) | ((with_reducible refine gate_callee (f := 80) rfl ?_); refine goesL_ (some 6) rfl rfl Try.func80 (by kernel_rfl) rfl #[.agg #[.int .i64 a0_0, .int .i64 a0_1, .int .i64 a0_2, .int .i64 a0_3]] rfl (by (try simp only [List.map_toArray, List.map_cons, List.map_nil]); first | done | rfl | (simp only [List.length_drop, List.length_take]; rfl)) ?_; (with_reducible refine (mono_May.calls a0_0 a0_1 a0_2 a0_3 true _ A3.out).mono ?_); rintro e w14 ⟨rfl, hb⟩; refine ⟨_, rfl, ?_⟩; have n0_ := Aside0.mk (blk_below (g := gb101) (o := .cells #[.int .i64 a0_0, .int .i64 a0_1, .int .i64 a0_2, .int .i64 a0_3] 36 (0, 0)) (by (with_reducible repeat (first | refine blk_drewN ?_ _ | refine blk_drew ?_ | refine blk_alloc ?_ _)); exact BK101.out) hb); have n1_ := Aside0.mk (blk_below (g := gb102) (o := .cells #[.int .i64 a1_0, .int .i64 a1_1, .int .i64 a1_2, .int .i64 a1_3] 36 (0, 0)) (by (with_reducible repeat (first | refine blk_drewN ?_ _ | refine blk_drew ?_ | refine blk_alloc ?_ _)); exact BK102.out) hb); have n2_ := Aside0.mk (blk_below (g := gb103) (o := .cells #[.int .i64 0, .int .i64 0, .int .i64 0, .int .i64 0] 36 (0, 0)) (by (with_reducible repeat (first | refine blk_drewN ?_ _ | refine blk_drew ?_ | refine blk_alloc ?_ _)); exact BK103.out) hb); have n3_ := Aside0.mk (below_step (by repeat (first | (with_reducible first | exact HB.out | apply below_alloc | apply pw_below_drewN | apply below_drew1 | refine below_set ?_ GE101.out | refine below_set ?_ GE102.out | refine below_set ?_ GE103.out) | exact HB.out)) hb); clear BK101; clear BK102; clear BK103; clear HB; have BK101 := n0_; have BK102 := n1_; have BK103 := n2_; have HB := n3_; clear n0_ n1_ n2_ n3_; (try clear hb); (try clear hb2); (try clear hk); (try clear hi); have hnb15 := NB102_103.out; have hnc15 := NB103_102.out; have hcz16_0 : w14.cell? ⟨gb102, 0, none⟩ = some (.int .i64 a1_0) := (blk_cell BK102.out 0).trans rfl; have hcz16_1 : w14.cell? ⟨gb102, 1, none⟩ = some (.int .i64 a1_1) := (blk_cell BK102.out 1).trans rfl; have hcz16_2 : w14.cell? ⟨gb102, 2, none⟩ = some (.int .i64 a1_2) := (blk_cell BK102.out 2).trans rfl; have hcz16_3 : w14.cell? ⟨gb102, 3, none⟩ = some (.int .i64 a1_3) := (blk_cell BK102.out 3).trans rfl; have hfz16_0 := blk_frozen BK102.out 0; have hfz16_1 := blk_frozen BK102.out 1; have hfz16_2 := blk_frozen BK102.out 2; have hfz16_3 := blk_frozen BK102.out 3) | (go_at_call 80; (with_reducible refine (mono_May.calls a1_0 a1_1 a1_2 a1_3 true _ A5.out).mono ?_); rintro e w17 ⟨rfl, hb⟩; have n0_ := Aside0.mk (blk_below (g := gb101) (o := .cells #[.int .i64 a0_0, .int .i64 a0_1, .int .i64 a0_2, .int .i64 a0_3] 36 (0, 0)) (by (with_reducible repeat (first | refine blk_drewN ?_ _ | refine blk_drew ?_ | refine blk_alloc ?_ _)); exact BK101.out) hb); have n1_ := Aside0.mk (blk_below (g := gb102) (o := .cells #[.int .i64 a1_0, .int .i64 a1_1, .int .i64 a1_2, .int .i64 a1_3] 36 (0, 0)) (by (with_reducible repeat (first | refine blk_drewN ?_ _ | refine blk_drew ?_ | refine blk_alloc ?_ _)); exact BK102.out) hb); have n2_ := Aside0.mk (blk_below (g := gb103) (o := .cells #[.int .i64 0, .int .i64 0, .int .i64 0, .int .i64 0] 36 (0, 0)) (by (with_reducible repeat (first | refine blk_drewN ?_ _ | refine blk_drew ?_ | refine blk_alloc ?_ _)); exact BK103.out) hb); have n3_ := Aside0.mk (below_step (by repeat (first | (with_reducible first | exact HB.out | apply below_alloc | apply pw_below_drewN | apply below_drew1 | refine below_set ?_ GE101.out | refine below_set ?_ GE102.out | refine below_set ?_ GE103.out) | exact HB.out)) hb); clear BK101; clear BK102; clear BK103; clear HB; have BK101 := n0_; have BK102 := n1_; have BK103 := n2_; have HB := n3_; clear n0_ n1_ n2_ n3_; (try clear hb); (try clear hb2); (try clear hk); (try clear hi); have hcz18_0 : w17.cell? ⟨gb101, 0, none⟩ = some (.int .i64 a0_0) := (blk_cell BK101.out 0).trans rfl; have hcz18_1 : w17.cell? ⟨gb101, 1, none⟩ = some (.int .i64 a0_1) := (blk_cell BK101.out 1).trans rfl; have hcz18_2 : w17.cell? ⟨gb101, 2, none⟩ = some (.int .i64 a0_2) := (blk_cell BK101.out 2).trans rfl; have hcz18_3 : w17.cell? ⟨gb101, 3, none⟩ = some (.int .i64 a0_3) := (blk_cell BK101.out 3).trans rfl; have hfz18_0 := blk_frozen BK101.out 0; have hfz18_1 := blk_frozen BK101.out 1; have hfz18_2 := blk_frozen BK101.out 2; have hfz18_3 := blk_frozen BK101.out 3; have hcz19_0 : w17.cell? ⟨gb102, 0, none⟩ = some (.int .i64 a1_0) := (blk_cell BK102.out 0).trans rfl; have hcz19_1 : w17.cell? ⟨gb102, 1, none⟩ = some (.int .i64 a1_1) := (blk_cell BK102.out 1).trans rfl; have hcz19_2 : w17.cell? ⟨gb102, 2, none⟩ = some (.int .i64 a1_2) := (blk_cell BK102.out 2).trans rfl; have hcz19_3 : w17.cell? ⟨gb102, 3, none⟩ = some (.int .i64 a1_3) := (blk_cell BK102.out 3).trans rfl; have hfz19_0 := blk_frozen BK102.out 0; have hfz19_1 := blk_frozen BK102.out 1; have hfz19_2 := blk_frozen BK102.out 2; have hfz19_3 := blk_frozen BK102.out 3) | ((with_reducible refine gate_callee (f := 81) rfl ?_); refine goesL_ (some 16) rfl rfl Try.func81 (by kernel_rfl) rfl #[.agg #[.int .i64 a0_0, .int .i64 a0_1, .int .i64 a0_2, .int .i64 a0_3], .agg #[.int .i64 a1_0, .int .i64 a1_1, .int .i64 a1_2, .int .i64 a1_3], .func (.func 82) #[] #[]] rfl (by (try simp only [List.map_toArray, List.map_cons, List.map_nil]); first | done | rfl | (simp only [List.length_drop, List.length_take]; rfl)) ?_; (with_reducible refine (mono_zipped_82.calls a0_0 a0_1 a0_2 a0_3 a1_0 a1_1 a1_2 a1_3  t106 t107 t108 t109 _ A7.out).mono ?_); rintro e w20 ⟨rfl, hb⟩; refine ⟨_, rfl, ?_⟩; have n0_ := Aside0.mk (blk_below (g := gb101) (o := .cells #[.int .i64 a0_0, .int .i64 a0_1, .int .i64 a0_2, .int .i64 a0_3] 36 (0, 0)) (by (with_reducible repeat (first | refine blk_drewN ?_ _ | refine blk_drew ?_ | refine blk_alloc ?_ _)); exact BK101.out) hb); have n1_ := Aside0.mk (blk_below (g := gb102) (o := .cells #[.int .i64 a1_0, .int .i64 a1_1, .int .i64 a1_2, .int .i64 a1_3] 36 (0, 0)) (by (with_reducible repeat (first | refine blk_drewN ?_ _ | refine blk_drew ?_ | refine blk_alloc ?_ _)); exact BK102.out) hb); have n2_ := Aside0.mk (blk_below (g := gb103) (o := .cells #[.int .i64 0, .int .i64 0, .int .i64 0, .int .i64 0] 36 (0, 0)) (by (with_reducible repeat (first | refine blk_drewN ?_ _ | refine blk_drew ?_ | refine blk_alloc ?_ _)); exact BK103.out) hb); have n3_ := Aside0.mk (below_step (by repeat (first | (with_reducible first | exact HB.out | apply below_alloc | apply pw_below_drewN | apply below_drew1 | refine below_set ?_ GE101.out | refine below_set ?_ GE102.out | refine below_set ?_ GE103.out) | exact HB.out)) hb); clear BK101; clear BK102; clear BK103; clear HB; have BK101 := n0_; have BK102 := n1_; have BK103 := n2_; have HB := n3_; clear n0_ n1_ n2_ n3_; (try clear hb); (try clear hb2); (try clear hk); (try clear hi); have hcz21_0 : w20.cell? ⟨gb103, 0, none⟩ = some (.int .i64 0) := (blk_cell BK103.out 0).trans rfl; have hcz21_1 : w20.cell? ⟨gb103, 1, none⟩ = some (.int .i64 0) := (blk_cell BK103.out 1).trans rfl; have hcz21_2 : w20.cell? ⟨gb103, 2, none⟩ = some (.int .i64 0) := (blk_cell BK103.out 2).trans rfl; have hcz21_3 : w20.cell? ⟨gb103, 3, none⟩ = some (.int .i64 0) := (blk_cell BK103.out 3).trans rfl; have hfz21_0 := blk_frozen BK103.out 0; have hfz21_1 := blk_frozen BK103.out 1; have hfz21_2 := blk_frozen BK103.out 2; have hfz21_3 := blk_frozen BK103.out 3))
      refine bodyPost_ret (results_cell_row rfl _ _ gb103 36 #[.int .i64 t106, .int .i64 t107, .int .i64 t108, .int .i64 t109] (0, 0) _ rfl (by (with_reducible repeat (first | refine blk_drewN ?_ _ | refine blk_drew ?_ | refine blk_alloc ?_ _)); refine blk_put (cs := #[.int .i64 t106, .int .i64 t107, .int .i64 t108, .int .i64 0]) ?_ 3 _ (by first | rfl | (simp; done)); (with_reducible repeat (first | refine blk_drewN ?_ _ | refine blk_drew ?_ | refine blk_alloc ?_ _)); refine blk_put (cs := #[.int .i64 t106, .int .i64 t107, .int .i64 0, .int .i64 0]) ?_ 2 _ (by first | rfl | (simp; done)); (with_reducible repeat (first | refine blk_drewN ?_ _ | refine blk_drew ?_ | refine blk_alloc ?_ _)); refine blk_put (cs := #[.int .i64 t106, .int .i64 0, .int .i64 0, .int .i64 0]) ?_ 1 _ (by first | rfl | (simp; done)); (with_reducible repeat (first | refine blk_drewN ?_ _ | refine blk_drew ?_ | refine blk_alloc ?_ _)); refine blk_put (cs := #[.int .i64 0, .int .i64 0, .int .i64 0, .int .i64 0]) ?_ 0 _ (by first | rfl | (simp; done)); (with_reducible repeat (first | refine blk_drewN ?_ _ | refine blk_drew ?_ | refine blk_alloc ?_ _)); exact BK103.out) Try.underlying36 rfl (by kernel_rfl)) rfl ?_
      exact ⟨by first | rfl | (simp [errW_none, errW_some] <;> rfl) | (simp [*, errW_none, errW_some] <;> rfl), by repeat (first | (with_reducible first | exact HB.out | apply below_alloc | apply pw_below_drewN | apply below_drew1 | refine below_set ?_ GE101.out | refine below_set ?_ GE102.out | refine below_set ?_ GE103.out) | exact HB.out)⟩
    · replace c6 := Bool.eq_false_iff.mpr c6
      subst c6
      have H1 : (some (0, 0, 0, 0)) = some (r1, r2, r3, r4) := by rw [if_neg (show ¬ (false = true) by decide)] at H; exact H
      clear H
      have H := H1
      clear H1
      simp only [Option.some.injEq, Prod.mk.injEq] at H
      obtain ⟨rfl, rfl, rfl, rfl⟩ := H
      go_enter Try.func44, Try.ntmps44
      go_wp2_with (first | ((with_reducible refine gate_dst (N := 2) rfl ?_); refine box_event ?hg (N := 2) ?hd (cs := #[.int .i64 a0_0, .int .i64 a0_1, .int .i64 a0_2, .int .i64 a0_3]) (t := 36) ?hr ?_; (case hd => rfl); (case hg => rfl); (case hr => first | (go_simp; done) | (go_simp; rfl)); intro gb101 hg w22 hbox hb; have n0_ := Aside0.mk (below_step (by repeat (first | (with_reducible first | exact HB.out | apply below_alloc | apply pw_below_drewN | apply below_drew1) | exact HB.out)) hb); have n1_ := Aside0.mk (hbox); have n2_ := Aside0.mk ((by rw [hg]; exact (below_size (by repeat (first | (with_reducible first | exact HB.out | apply below_alloc | apply pw_below_drewN | apply below_drew1) | exact HB.out))) : w.heap.size ≤ gb101)); have n3_ := Aside0.mk ((by rw [hg]; exact (below_size (by repeat (first | (with_reducible first | exact HB.out | apply below_alloc | apply pw_below_drewN | apply below_drew1) | exact HB.out))) : w.heap.size ≤ gb101)); clear HB; have HB := n0_; have BK101 := n1_; have GW101 := n2_; have GE101 := n3_; clear n0_ n1_ n2_ n3_; clear hb hbox hg) | ((with_reducible refine gate_dst (N := 3) rfl ?_); refine box_event ?hg (N := 3) ?hd (cs := #[.int .i64 a1_0, .int .i64 a1_1, .int .i64 a1_2, .int .i64 a1_3]) (t := 36) ?hr ?_; (case hd => rfl); (case hg => rfl); (case hr => first | (go_simp; done) | (go_simp; rfl)); intro gb102 hg w23 hbox hb; have n0_ := Aside0.mk (blk_below (g := gb101) (o := .cells #[.int .i64 a0_0, .int .i64 a0_1, .int .i64 a0_2, .int .i64 a0_3] 36 (0, 0)) (by (with_reducible repeat (first | refine blk_drewN ?_ _ | refine blk_drew ?_ | refine blk_alloc ?_ _)); exact BK101.out) hb); have n1_ := Aside0.mk (below_step (by repeat (first | (with_reducible first | exact HB.out | apply below_alloc | apply pw_below_drewN | apply below_drew1 | refine below_set ?_ GE101.out) | exact HB.out)) hb); have n2_ := Aside0.mk (hbox); have n3_ := Aside0.mk ((by rw [hg]; exact (below_size (by repeat (first | (with_reducible first | exact HB.out | apply below_alloc | apply pw_below_drewN | apply below_drew1 | refine below_set ?_ GE101.out) | exact HB.out))) : w.heap.size ≤ gb102)); have n4_ := Aside0.mk ((by rw [hg]; exact (below_size (by repeat (first | (with_reducible first | exact HB.out | apply below_alloc | apply pw_below_drewN | apply below_drew1 | refine below_set ?_ GE101.out) | exact HB.out))) : w.heap.size ≤ gb102)); have n5_ := Aside0.mk ((by rw [hg]; exact Nat.ne_of_lt (blk_lt (g := gb101) (o := .cells #[.int .i64 a0_0, .int .i64 a0_1, .int .i64 a0_2, .int .i64 a0_3] 36 (0, 0)) (by (with_reducible repeat (first | refine blk_drewN ?_ _ | refine blk_drew ?_ | refine blk_alloc ?_ _)); exact BK101.out)) : gb101 ≠ gb102)); have n6_ := Aside0.mk ((by rw [hg]; exact Nat.ne_of_gt (blk_lt (g := gb101) (o := .cells #[.int .i64 a0_0, .int .i64 a0_1, .int .i64 a0_2, .int .i64 a0_3] 36 (0, 0)) (by (with_reducible repeat (first | refine blk_drewN ?_ _ | refine blk_drew ?_ | refine blk_alloc ?_ _)); exact BK101.out)) : gb102 ≠ gb101)); clear BK101; clear HB; have BK101 := n0_; have HB := n1_; have BK102 := n2_; have GW102 := n3_; have GE102 := n4_; have NB101_102 := n5_; have NB102_101 := n6_; clear n0_ n1_ n2_ n3_ n4_ n5_ n6_; clear hb hbox hg) | ((with_reducible refine gate_dst (N := 4) rfl ?_); refine box_event ?hg (N := 4) ?hd (cs := #[.int .i64 0, .int .i64 0, .int .i64 0, .int .i64 0]) (t := 36) ?hr ?_; (case hd => rfl); (case hg => rfl); (case hr => first | (go_simp; done) | (go_simp; rfl)); intro gb103 hg w24 hbox hb; have n0_ := Aside0.mk (blk_below (g := gb101) (o := .cells #[.int .i64 a0_0, .int .i64 a0_1, .int .i64 a0_2, .int .i64 a0_3] 36 (0, 0)) (by (with_reducible repeat (first | refine blk_drewN ?_ _ | refine blk_drew ?_ | refine blk_alloc ?_ _)); exact BK101.out) hb); have n1_ := Aside0.mk (blk_below (g := gb102) (o := .cells #[.int .i64 a1_0, .int .i64 a1_1, .int .i64 a1_2, .int .i64 a1_3] 36 (0, 0)) (by (with_reducible repeat (first | refine blk_drewN ?_ _ | refine blk_drew ?_ | refine blk_alloc ?_ _)); exact BK102.out) hb); have n2_ := Aside0.mk (below_step (by repeat (first | (with_reducible first | exact HB.out | apply below_alloc | apply pw_below_drewN | apply below_drew1 | refine below_set ?_ GE101.out | refine below_set ?_ GE102.out) | exact HB.out)) hb); have n3_ := Aside0.mk (hbox); have n4_ := Aside0.mk ((by rw [hg]; exact (below_size (by repeat (first | (with_reducible first | exact HB.out | apply below_alloc | apply pw_below_drewN | apply below_drew1 | refine below_set ?_ GE101.out | refine below_set ?_ GE102.out) | exact HB.out))) : w.heap.size ≤ gb103)); have n5_ := Aside0.mk ((by rw [hg]; exact (below_size (by repeat (first | (with_reducible first | exact HB.out | apply below_alloc | apply pw_below_drewN | apply below_drew1 | refine below_set ?_ GE101.out | refine below_set ?_ GE102.out) | exact HB.out))) : w.heap.size ≤ gb103)); have n6_ := Aside0.mk ((by rw [hg]; exact Nat.ne_of_lt (blk_lt (g := gb101) (o := .cells #[.int .i64 a0_0, .int .i64 a0_1, .int .i64 a0_2, .int .i64 a0_3] 36 (0, 0)) (by (with_reducible repeat (first | refine blk_drewN ?_ _ | refine blk_drew ?_ | refine blk_alloc ?_ _)); exact BK101.out)) : gb101 ≠ gb103)); have n7_ := Aside0.mk ((by rw [hg]; exact Nat.ne_of_gt (blk_lt (g := gb101) (o := .cells #[.int .i64 a0_0, .int .i64 a0_1, .int .i64 a0_2, .int .i64 a0_3] 36 (0, 0)) (by (with_reducible repeat (first | refine blk_drewN ?_ _ | refine blk_drew ?_ | refine blk_alloc ?_ _)); exact BK101.out)) : gb103 ≠ gb101)); have n8_ := Aside0.mk ((by rw [hg]; exact Nat.ne_of_lt (blk_lt (g := gb102) (o := .cells #[.int .i64 a1_0, .int .i64 a1_1, .int .i64 a1_2, .int .i64 a1_3] 36 (0, 0)) (by (with_reducible repeat (first | refine blk_drewN ?_ _ | refine blk_drew ?_ | refine blk_alloc ?_ _)); exact BK102.out)) : gb102 ≠ gb103)); have n9_ := Aside0.mk ((by rw [hg]; exact Nat.ne_of_gt (blk_lt (g := gb102) (o := .cells #[.int .i64 a1_0, .int .i64 a1_1, .int .i64 a1_2, .int .i64 a1_3] 36 (0, 0)) (by (with_reducible repeat (first | refine blk_drewN ?_ _ | refine blk_drew ?_ | refine blk_alloc ?_ _)); exact BK102.out)) : gb103 ≠ gb102)); clear BK101; clear BK102; clear HB; have BK101 := n0_; have BK102 := n1_; have HB := n2_; have BK103 := n3_; have GW103 := n4_; have GE103 := n5_; have NB101_103 := n6_; have NB103_101 := n7_; have NB102_103 := n8_; have NB103_102 := n9_; clear n0_ n1_ n2_ n3_ n4_ n5_ n6_ n7_ n8_ n9_; clear hb hbox hg; have hnb25 := NB101_102.out; have hnc25 := NB102_101.out; have hnb26 := NB101_103.out; have hnc26 := NB103_101.out; have hcz27_0 : w24.cell? ⟨gb101, 0, none⟩ = some (.int .i64 a0_0) := (blk_cell BK101.out 0).trans rfl; have hcz27_1 : w24.cell? ⟨gb101, 1, none⟩ = some (.int .i64 a0_1) := (blk_cell BK101.out 1).trans rfl; have hcz27_2 : w24.cell? ⟨gb101, 2, none⟩ = some (.int .i64 a0_2) := (blk_cell BK101.out 2).trans rfl; have hcz27_3 : w24.cell? ⟨gb101, 3, none⟩ = some (.int .i64 a0_3) := (blk_cell BK101.out 3).trans rfl; have hfz27_0 := blk_frozen BK101.out 0; have hfz27_1 := blk_frozen BK101.out 1; have hfz27_2 := blk_frozen BK101.out 2; have hfz27_3 := blk_frozen BK101.out 3) | ((with_reducible refine gate_callee (f := 80) rfl ?_); refine goesL_ (some 6) rfl rfl Try.func80 (by kernel_rfl) rfl #[.agg #[.int .i64 a0_0, .int .i64 a0_1, .int .i64 a0_2, .int .i64 a0_3]] rfl (by (try simp only [List.map_toArray, List.map_cons, List.map_nil]); first | done | rfl | (simp only [List.length_drop, List.length_take]; rfl)) ?_; (with_reducible refine (mono_May.calls a0_0 a0_1 a0_2 a0_3 true _ A3.out).mono ?_); rintro e w28 ⟨rfl, hb⟩; refine ⟨_, rfl, ?_⟩; have n0_ := Aside0.mk (blk_below (g := gb101) (o := .cells #[.int .i64 a0_0, .int .i64 a0_1, .int .i64 a0_2, .int .i64 a0_3] 36 (0, 0)) (by (with_reducible repeat (first | refine blk_drewN ?_ _ | refine blk_drew ?_ | refine blk_alloc ?_ _)); exact BK101.out) hb); have n1_ := Aside0.mk (blk_below (g := gb102) (o := .cells #[.int .i64 a1_0, .int .i64 a1_1, .int .i64 a1_2, .int .i64 a1_3] 36 (0, 0)) (by (with_reducible repeat (first | refine blk_drewN ?_ _ | refine blk_drew ?_ | refine blk_alloc ?_ _)); exact BK102.out) hb); have n2_ := Aside0.mk (blk_below (g := gb103) (o := .cells #[.int .i64 0, .int .i64 0, .int .i64 0, .int .i64 0] 36 (0, 0)) (by (with_reducible repeat (first | refine blk_drewN ?_ _ | refine blk_drew ?_ | refine blk_alloc ?_ _)); exact BK103.out) hb); have n3_ := Aside0.mk (below_step (by repeat (first | (with_reducible first | exact HB.out | apply below_alloc | apply pw_below_drewN | apply below_drew1 | refine below_set ?_ GE101.out | refine below_set ?_ GE102.out | refine below_set ?_ GE103.out) | exact HB.out)) hb); clear BK101; clear BK102; clear BK103; clear HB; have BK101 := n0_; have BK102 := n1_; have BK103 := n2_; have HB := n3_; clear n0_ n1_ n2_ n3_; (try clear hb); (try clear hb2); (try clear hk); (try clear hi); have hnb29 := NB102_103.out; have hnc29 := NB103_102.out; have hcz30_0 : w28.cell? ⟨gb102, 0, none⟩ = some (.int .i64 a1_0) := (blk_cell BK102.out 0).trans rfl; have hcz30_1 : w28.cell? ⟨gb102, 1, none⟩ = some (.int .i64 a1_1) := (blk_cell BK102.out 1).trans rfl; have hcz30_2 : w28.cell? ⟨gb102, 2, none⟩ = some (.int .i64 a1_2) := (blk_cell BK102.out 2).trans rfl; have hcz30_3 : w28.cell? ⟨gb102, 3, none⟩ = some (.int .i64 a1_3) := (blk_cell BK102.out 3).trans rfl; have hfz30_0 := blk_frozen BK102.out 0; have hfz30_1 := blk_frozen BK102.out 1; have hfz30_2 := blk_frozen BK102.out 2; have hfz30_3 := blk_frozen BK102.out 3) | (go_at_call 80; (with_reducible refine (mono_May.calls a1_0 a1_1 a1_2 a1_3 false _ A5.out).mono ?_); rintro e w31 ⟨rfl, hb⟩; have n0_ := Aside0.mk (blk_below (g := gb101) (o := .cells #[.int .i64 a0_0, .int .i64 a0_1, .int .i64 a0_2, .int .i64 a0_3] 36 (0, 0)) (by (with_reducible repeat (first | refine blk_drewN ?_ _ | refine blk_drew ?_ | refine blk_alloc ?_ _)); exact BK101.out) hb); have n1_ := Aside0.mk (blk_below (g := gb102) (o := .cells #[.int .i64 a1_0, .int .i64 a1_1, .int .i64 a1_2, .int .i64 a1_3] 36 (0, 0)) (by (with_reducible repeat (first | refine blk_drewN ?_ _ | refine blk_drew ?_ | refine blk_alloc ?_ _)); exact BK102.out) hb); have n2_ := Aside0.mk (blk_below (g := gb103) (o := .cells #[.int .i64 0, .int .i64 0, .int .i64 0, .int .i64 0] 36 (0, 0)) (by (with_reducible repeat (first | refine blk_drewN ?_ _ | refine blk_drew ?_ | refine blk_alloc ?_ _)); exact BK103.out) hb); have n3_ := Aside0.mk (below_step (by repeat (first | (with_reducible first | exact HB.out | apply below_alloc | apply pw_below_drewN | apply below_drew1 | refine below_set ?_ GE101.out | refine below_set ?_ GE102.out | refine below_set ?_ GE103.out) | exact HB.out)) hb); clear BK101; clear BK102; clear BK103; clear HB; have BK101 := n0_; have BK102 := n1_; have BK103 := n2_; have HB := n3_; clear n0_ n1_ n2_ n3_; (try clear hb); (try clear hb2); (try clear hk); (try clear hi); have hcz32_0 : w31.cell? ⟨gb103, 0, none⟩ = some (.int .i64 0) := (blk_cell BK103.out 0).trans rfl; have hcz32_1 : w31.cell? ⟨gb103, 1, none⟩ = some (.int .i64 0) := (blk_cell BK103.out 1).trans rfl; have hcz32_2 : w31.cell? ⟨gb103, 2, none⟩ = some (.int .i64 0) := (blk_cell BK103.out 2).trans rfl; have hcz32_3 : w31.cell? ⟨gb103, 3, none⟩ = some (.int .i64 0) := (blk_cell BK103.out 3).trans rfl; have hfz32_0 := blk_frozen BK103.out 0; have hfz32_1 := blk_frozen BK103.out 1; have hfz32_2 := blk_frozen BK103.out 2; have hfz32_3 := blk_frozen BK103.out 3))
      refine bodyPost_ret (results_cell_row rfl _ _ gb103 36 #[.int .i64 0, .int .i64 0, .int .i64 0, .int .i64 0] (0, 0) _ rfl (by (with_reducible repeat (first | refine blk_drewN ?_ _ | refine blk_drew ?_ | refine blk_alloc ?_ _)); refine blk_put (cs := #[.int .i64 0, .int .i64 0, .int .i64 0, .int .i64 0]) ?_ 3 _ (by first | rfl | (simp; done)); (with_reducible repeat (first | refine blk_drewN ?_ _ | refine blk_drew ?_ | refine blk_alloc ?_ _)); refine blk_put (cs := #[.int .i64 0, .int .i64 0, .int .i64 0, .int .i64 0]) ?_ 2 _ (by first | rfl | (simp; done)); (with_reducible repeat (first | refine blk_drewN ?_ _ | refine blk_drew ?_ | refine blk_alloc ?_ _)); refine blk_put (cs := #[.int .i64 0, .int .i64 0, .int .i64 0, .int .i64 0]) ?_ 1 _ (by first | rfl | (simp; done)); (with_reducible repeat (first | refine blk_drewN ?_ _ | refine blk_drew ?_ | refine blk_alloc ?_ _)); refine blk_put (cs := #[.int .i64 0, .int .i64 0, .int .i64 0, .int .i64 0]) ?_ 0 _ (by first | rfl | (simp; done)); (with_reducible repeat (first | refine blk_drewN ?_ _ | refine blk_drew ?_ | refine blk_alloc ?_ _)); exact BK103.out) Try.underlying36 rfl (by kernel_rfl)) rfl ?_
      exact ⟨by first | rfl | (simp [errW_none, errW_some] <;> rfl) | (simp [*, errW_none, errW_some] <;> rfl), by repeat (first | (with_reducible first | exact HB.out | apply below_alloc | apply pw_below_drewN | apply below_drew1 | refine below_set ?_ GE101.out | refine below_set ?_ GE102.out | refine below_set ?_ GE103.out) | exact HB.out)⟩
  · replace c4 := Bool.eq_false_iff.mpr c4
    subst c4
    have H1 : (some (0, 0, 0, 0)) = some (r1, r2, r3, r4) := by rw [if_neg (show ¬ (false = true) by decide)] at H; exact H
    clear H
    have H := H1
    clear H1
    simp only [Option.some.injEq, Prod.mk.injEq] at H
    obtain ⟨rfl, rfl, rfl, rfl⟩ := H
    go_enter Try.func44, Try.ntmps44
    go_wp2_with (first | ((with_reducible refine gate_dst (N := 2) rfl ?_); refine box_event ?hg (N := 2) ?hd (cs := #[.int .i64 a0_0, .int .i64 a0_1, .int .i64 a0_2, .int .i64 a0_3]) (t := 36) ?hr ?_; (case hd => rfl); (case hg => rfl); (case hr => first | (go_simp; done) | (go_simp; rfl)); intro gb101 hg w33 hbox hb; have n0_ := Aside0.mk (below_step (by repeat (first | (with_reducible first | exact HB.out | apply below_alloc | apply pw_below_drewN | apply below_drew1) | exact HB.out)) hb); have n1_ := Aside0.mk (hbox); have n2_ := Aside0.mk ((by rw [hg]; exact (below_size (by repeat (first | (with_reducible first | exact HB.out | apply below_alloc | apply pw_below_drewN | apply below_drew1) | exact HB.out))) : w.heap.size ≤ gb101)); have n3_ := Aside0.mk ((by rw [hg]; exact (below_size (by repeat (first | (with_reducible first | exact HB.out | apply below_alloc | apply pw_below_drewN | apply below_drew1) | exact HB.out))) : w.heap.size ≤ gb101)); clear HB; have HB := n0_; have BK101 := n1_; have GW101 := n2_; have GE101 := n3_; clear n0_ n1_ n2_ n3_; clear hb hbox hg) | ((with_reducible refine gate_dst (N := 3) rfl ?_); refine box_event ?hg (N := 3) ?hd (cs := #[.int .i64 a1_0, .int .i64 a1_1, .int .i64 a1_2, .int .i64 a1_3]) (t := 36) ?hr ?_; (case hd => rfl); (case hg => rfl); (case hr => first | (go_simp; done) | (go_simp; rfl)); intro gb102 hg w34 hbox hb; have n0_ := Aside0.mk (blk_below (g := gb101) (o := .cells #[.int .i64 a0_0, .int .i64 a0_1, .int .i64 a0_2, .int .i64 a0_3] 36 (0, 0)) (by (with_reducible repeat (first | refine blk_drewN ?_ _ | refine blk_drew ?_ | refine blk_alloc ?_ _)); exact BK101.out) hb); have n1_ := Aside0.mk (below_step (by repeat (first | (with_reducible first | exact HB.out | apply below_alloc | apply pw_below_drewN | apply below_drew1 | refine below_set ?_ GE101.out) | exact HB.out)) hb); have n2_ := Aside0.mk (hbox); have n3_ := Aside0.mk ((by rw [hg]; exact (below_size (by repeat (first | (with_reducible first | exact HB.out | apply below_alloc | apply pw_below_drewN | apply below_drew1 | refine below_set ?_ GE101.out) | exact HB.out))) : w.heap.size ≤ gb102)); have n4_ := Aside0.mk ((by rw [hg]; exact (below_size (by repeat (first | (with_reducible first | exact HB.out | apply below_alloc | apply pw_below_drewN | apply below_drew1 | refine below_set ?_ GE101.out) | exact HB.out))) : w.heap.size ≤ gb102)); have n5_ := Aside0.mk ((by rw [hg]; exact Nat.ne_of_lt (blk_lt (g := gb101) (o := .cells #[.int .i64 a0_0, .int .i64 a0_1, .int .i64 a0_2, .int .i64 a0_3] 36 (0, 0)) (by (with_reducible repeat (first | refine blk_drewN ?_ _ | refine blk_drew ?_ | refine blk_alloc ?_ _)); exact BK101.out)) : gb101 ≠ gb102)); have n6_ := Aside0.mk ((by rw [hg]; exact Nat.ne_of_gt (blk_lt (g := gb101) (o := .cells #[.int .i64 a0_0, .int .i64 a0_1, .int .i64 a0_2, .int .i64 a0_3] 36 (0, 0)) (by (with_reducible repeat (first | refine blk_drewN ?_ _ | refine blk_drew ?_ | refine blk_alloc ?_ _)); exact BK101.out)) : gb102 ≠ gb101)); clear BK101; clear HB; have BK101 := n0_; have HB := n1_; have BK102 := n2_; have GW102 := n3_; have GE102 := n4_; have NB101_102 := n5_; have NB102_101 := n6_; clear n0_ n1_ n2_ n3_ n4_ n5_ n6_; clear hb hbox hg) | ((with_reducible refine gate_dst (N := 4) rfl ?_); refine box_event ?hg (N := 4) ?hd (cs := #[.int .i64 0, .int .i64 0, .int .i64 0, .int .i64 0]) (t := 36) ?hr ?_; (case hd => rfl); (case hg => rfl); (case hr => first | (go_simp; done) | (go_simp; rfl)); intro gb103 hg w35 hbox hb; have n0_ := Aside0.mk (blk_below (g := gb101) (o := .cells #[.int .i64 a0_0, .int .i64 a0_1, .int .i64 a0_2, .int .i64 a0_3] 36 (0, 0)) (by (with_reducible repeat (first | refine blk_drewN ?_ _ | refine blk_drew ?_ | refine blk_alloc ?_ _)); exact BK101.out) hb); have n1_ := Aside0.mk (blk_below (g := gb102) (o := .cells #[.int .i64 a1_0, .int .i64 a1_1, .int .i64 a1_2, .int .i64 a1_3] 36 (0, 0)) (by (with_reducible repeat (first | refine blk_drewN ?_ _ | refine blk_drew ?_ | refine blk_alloc ?_ _)); exact BK102.out) hb); have n2_ := Aside0.mk (below_step (by repeat (first | (with_reducible first | exact HB.out | apply below_alloc | apply pw_below_drewN | apply below_drew1 | refine below_set ?_ GE101.out | refine below_set ?_ GE102.out) | exact HB.out)) hb); have n3_ := Aside0.mk (hbox); have n4_ := Aside0.mk ((by rw [hg]; exact (below_size (by repeat (first | (with_reducible first | exact HB.out | apply below_alloc | apply pw_below_drewN | apply below_drew1 | refine below_set ?_ GE101.out | refine below_set ?_ GE102.out) | exact HB.out))) : w.heap.size ≤ gb103)); have n5_ := Aside0.mk ((by rw [hg]; exact (below_size (by repeat (first | (with_reducible first | exact HB.out | apply below_alloc | apply pw_below_drewN | apply below_drew1 | refine below_set ?_ GE101.out | refine below_set ?_ GE102.out) | exact HB.out))) : w.heap.size ≤ gb103)); have n6_ := Aside0.mk ((by rw [hg]; exact Nat.ne_of_lt (blk_lt (g := gb101) (o := .cells #[.int .i64 a0_0, .int .i64 a0_1, .int .i64 a0_2, .int .i64 a0_3] 36 (0, 0)) (by (with_reducible repeat (first | refine blk_drewN ?_ _ | refine blk_drew ?_ | refine blk_alloc ?_ _)); exact BK101.out)) : gb101 ≠ gb103)); have n7_ := Aside0.mk ((by rw [hg]; exact Nat.ne_of_gt (blk_lt (g := gb101) (o := .cells #[.int .i64 a0_0, .int .i64 a0_1, .int .i64 a0_2, .int .i64 a0_3] 36 (0, 0)) (by (with_reducible repeat (first | refine blk_drewN ?_ _ | refine blk_drew ?_ | refine blk_alloc ?_ _)); exact BK101.out)) : gb103 ≠ gb101)); have n8_ := Aside0.mk ((by rw [hg]; exact Nat.ne_of_lt (blk_lt (g := gb102) (o := .cells #[.int .i64 a1_0, .int .i64 a1_1, .int .i64 a1_2, .int .i64 a1_3] 36 (0, 0)) (by (with_reducible repeat (first | refine blk_drewN ?_ _ | refine blk_drew ?_ | refine blk_alloc ?_ _)); exact BK102.out)) : gb102 ≠ gb103)); have n9_ := Aside0.mk ((by rw [hg]; exact Nat.ne_of_gt (blk_lt (g := gb102) (o := .cells #[.int .i64 a1_0, .int .i64 a1_1, .int .i64 a1_2, .int .i64 a1_3] 36 (0, 0)) (by (with_reducible repeat (first | refine blk_drewN ?_ _ | refine blk_drew ?_ | refine blk_alloc ?_ _)); exact BK102.out)) : gb103 ≠ gb102)); clear BK101; clear BK102; clear HB; have BK101 := n0_; have BK102 := n1_; have HB := n2_; have BK103 := n3_; have GW103 := n4_; have GE103 := n5_; have NB101_103 := n6_; have NB103_101 := n7_; have NB102_103 := n8_; have NB103_102 := n9_; clear n0_ n1_ n2_ n3_ n4_ n5_ n6_ n7_ n8_ n9_; clear hb hbox hg; have hnb36 := NB101_102.out; have hnc36 := NB102_101.out; have hnb37 := NB101_103.out; have hnc37 := NB103_101.out; have hcz38_0 : w35.cell? ⟨gb101, 0, none⟩ = some (.int .i64 a0_0) := (blk_cell BK101.out 0).trans rfl; have hcz38_1 : w35.cell? ⟨gb101, 1, none⟩ = some (.int .i64 a0_1) := (blk_cell BK101.out 1).trans rfl; have hcz38_2 : w35.cell? ⟨gb101, 2, none⟩ = some (.int .i64 a0_2) := (blk_cell BK101.out 2).trans rfl; have hcz38_3 : w35.cell? ⟨gb101, 3, none⟩ = some (.int .i64 a0_3) := (blk_cell BK101.out 3).trans rfl; have hfz38_0 := blk_frozen BK101.out 0; have hfz38_1 := blk_frozen BK101.out 1; have hfz38_2 := blk_frozen BK101.out 2; have hfz38_3 := blk_frozen BK101.out 3) | ((with_reducible refine gate_callee (f := 80) rfl ?_); refine goesL_ (some 6) rfl rfl Try.func80 (by kernel_rfl) rfl #[.agg #[.int .i64 a0_0, .int .i64 a0_1, .int .i64 a0_2, .int .i64 a0_3]] rfl (by (try simp only [List.map_toArray, List.map_cons, List.map_nil]); first | done | rfl | (simp only [List.length_drop, List.length_take]; rfl)) ?_; (with_reducible refine (mono_May.calls a0_0 a0_1 a0_2 a0_3 false _ A3.out).mono ?_); rintro e w39 ⟨rfl, hb⟩; refine ⟨_, rfl, ?_⟩; have n0_ := Aside0.mk (blk_below (g := gb101) (o := .cells #[.int .i64 a0_0, .int .i64 a0_1, .int .i64 a0_2, .int .i64 a0_3] 36 (0, 0)) (by (with_reducible repeat (first | refine blk_drewN ?_ _ | refine blk_drew ?_ | refine blk_alloc ?_ _)); exact BK101.out) hb); have n1_ := Aside0.mk (blk_below (g := gb102) (o := .cells #[.int .i64 a1_0, .int .i64 a1_1, .int .i64 a1_2, .int .i64 a1_3] 36 (0, 0)) (by (with_reducible repeat (first | refine blk_drewN ?_ _ | refine blk_drew ?_ | refine blk_alloc ?_ _)); exact BK102.out) hb); have n2_ := Aside0.mk (blk_below (g := gb103) (o := .cells #[.int .i64 0, .int .i64 0, .int .i64 0, .int .i64 0] 36 (0, 0)) (by (with_reducible repeat (first | refine blk_drewN ?_ _ | refine blk_drew ?_ | refine blk_alloc ?_ _)); exact BK103.out) hb); have n3_ := Aside0.mk (below_step (by repeat (first | (with_reducible first | exact HB.out | apply below_alloc | apply pw_below_drewN | apply below_drew1 | refine below_set ?_ GE101.out | refine below_set ?_ GE102.out | refine below_set ?_ GE103.out) | exact HB.out)) hb); clear BK101; clear BK102; clear BK103; clear HB; have BK101 := n0_; have BK102 := n1_; have BK103 := n2_; have HB := n3_; clear n0_ n1_ n2_ n3_; (try clear hb); (try clear hb2); (try clear hk); (try clear hi); have hnb40 := NB103_102.out; have hnc40 := NB102_103.out; have hcz41_0 : w39.cell? ⟨gb103, 0, none⟩ = some (.int .i64 0) := (blk_cell BK103.out 0).trans rfl; have hcz41_1 : w39.cell? ⟨gb103, 1, none⟩ = some (.int .i64 0) := (blk_cell BK103.out 1).trans rfl; have hcz41_2 : w39.cell? ⟨gb103, 2, none⟩ = some (.int .i64 0) := (blk_cell BK103.out 2).trans rfl; have hcz41_3 : w39.cell? ⟨gb103, 3, none⟩ = some (.int .i64 0) := (blk_cell BK103.out 3).trans rfl; have hfz41_0 := blk_frozen BK103.out 0; have hfz41_1 := blk_frozen BK103.out 1; have hfz41_2 := blk_frozen BK103.out 2; have hfz41_3 := blk_frozen BK103.out 3))
    refine bodyPost_ret (results_cell_row rfl _ _ gb103 36 #[.int .i64 0, .int .i64 0, .int .i64 0, .int .i64 0] (0, 0) _ rfl (by (with_reducible repeat (first | refine blk_drewN ?_ _ | refine blk_drew ?_ | refine blk_alloc ?_ _)); refine blk_put (cs := #[.int .i64 0, .int .i64 0, .int .i64 0, .int .i64 0]) ?_ 3 _ (by first | rfl | (simp; done)); (with_reducible repeat (first | refine blk_drewN ?_ _ | refine blk_drew ?_ | refine blk_alloc ?_ _)); refine blk_put (cs := #[.int .i64 0, .int .i64 0, .int .i64 0, .int .i64 0]) ?_ 2 _ (by first | rfl | (simp; done)); (with_reducible repeat (first | refine blk_drewN ?_ _ | refine blk_drew ?_ | refine blk_alloc ?_ _)); refine blk_put (cs := #[.int .i64 0, .int .i64 0, .int .i64 0, .int .i64 0]) ?_ 1 _ (by first | rfl | (simp; done)); (with_reducible repeat (first | refine blk_drewN ?_ _ | refine blk_drew ?_ | refine blk_alloc ?_ _)); refine blk_put (cs := #[.int .i64 0, .int .i64 0, .int .i64 0, .int .i64 0]) ?_ 0 _ (by first | rfl | (simp; done)); (with_reducible repeat (first | refine blk_drewN ?_ _ | refine blk_drew ?_ | refine blk_alloc ?_ _)); exact BK103.out) Try.underlying36 rfl (by kernel_rfl)) rfl ?_
    exact ⟨by first | rfl | (simp [errW_none, errW_some] <;> rfl) | (simp [*, errW_none, errW_some] <;> rfl), by repeat (first | (with_reducible first | exact HB.out | apply below_alloc | apply pw_below_drewN | apply below_drew1 | refine below_set ?_ GE101.out | refine below_set ?_ GE102.out | refine below_set ?_ GE103.out) | exact HB.out)⟩

-- NOT PRINTED: function 43 (queue_Next_1)

/-! ### api_Pair_45: function 45 -/


section
variable {P : Program} {ops : Array Oper} {Q : Exit → Act → World → Prop}
/-- A call of a function that is a value in a slot, with what it captured, in a region that draws. -/
theorem goesQ_ {oi : Oper} {N : Option Tmp} {a : Act} {w : World} {K : Act → World → Prop} {f : FuncId} {fn : Func} {t : Tmp} {as_ : Array Operand} {ts : Array TypeId} (caps : Array Value) (hf : P.funcs[f]? = some fn) (hname : (fn.name == "runtime.NumGoroutine") = false) (hb : fn.body.isSome = true) (args : Array Value)
    (hw : Region.wanted oi (yielded ops a.tmps) = true) (hN : oi.dst = N) (hop : oi.op = .call { callee := .value (.tmp t), args := as_, argTypes := ts }) (hv : a.eval (.tmp t) = .func (.func f) #[] caps) (hargs : as_.map a.eval ++ caps = args)
    (h : Calls P f args w fun e w' => ∃ v, e = .returned v ∧ K (a.put N v) w') : if Region.wanted oi (yielded ops a.tmps) = true then Oper.wp P oi a w K Q else K (a.put N undef) w := by
  refine call_ f args hw hN ?_ h
  have he := enters_ hf hname hb args w
  unfold execOp
  simp [hop, resolve, Deferred.ofValue, invoke, hv, hargs, he]
end

def minp (cmp : S26 → S26 → Int) : S26 → List S26 → S26
  | m, [] => m
  | m, x :: t => minp cmp (if cmp x m < 0 then x else m) t
theorem minp_cons (cmp : S26 → S26 → Int) (m : S26) (l : List S26) (k : Nat) (h : k < l.length) : minp cmp m (l.drop k) = minp cmp (if cmp (rd_T26 l k) m < 0 then rd_T26 l k else m) (l.drop (k + 1)) := by
  have e : rd_T26 l (k : Int) = l[k] := by
    unfold rd_T26
    simp [h]
  rw [List.drop_eq_getElem_cons h, e]
  rfl
theorem rd_mem (l : List S26) (k : Nat) (h : k < l.length) : rd_T26 l (k : Int) ∈ l := by
  have e : rd_T26 l (k : Int) = l[k] := by
    unfold rd_T26
    simp [h]
  rw [e]
  exact List.getElem_mem h
def pr26 (a : S26) : Value := .agg #[.int .i64 a.f0, .int .i64 a.f1]
set_option maxHeartbeats 4000000 in
set_option maxRecDepth 100000 in
theorem api_Pair_45.calls (c2 c3 : Value) (cmp : S26 → S26 → Int) (A0 : Option Addr) (c0 : Nat) (l0 : List S26) (r : S26) (w : World) (hr0 : Kd.C k26 w A0 l0.length l0) (hc0 : l0.length ≤ c0) (hl : 0 < l0.length ∧ l0.length < 4398046511104)
    (hcmp : ∀ (a b : S26) (w1 : World), a ∈ l0 → b ∈ l0 → Below w.heap.size w w1 → Calls Try.prog 46 #[pr26 a, pr26 b, c2, c3] w1 fun e w2 => e = .returned (.int .i64 (cmp a b)) ∧ Below w1.heap.size w1 w2)
    (hm : minp cmp (rd_T26 l0 0) (l0.drop 1) = r) :
    Calls Try.prog 45 #[.slice A0 l0.length c0, .func (.func 46) #[] #[c2, c3]] w fun e w' => e = .returned (pr26 r) ∧ Below w.heap.size w w' := by
  have hu26 := Try.underlying26
  have HR0 := Aside0.mk hr0
  have HC0 := Aside0.mk hc0
  have HL := Aside0.mk hl
  have HCMP := Aside0.mk hcmp
  have HM := Aside0.mk hm
  have p1 : (0 : Int) ≤ ((0 : Nat) : Int) := Int.le_refl _
  have q1 : ((0 : Nat) : Int) < (l0.length : Int) := by omega
  obtain ⟨ad, e1, x0, x1⟩ := at_T26 hr0 ((0 : Nat) : Int) p1 q1
  cases e1
  have hge : decide ((l0.length : Int) < 1) = false := decide_eq_false (by omega)
  have hgn : decide (l0.length < 1) = false := decide_eq_false (by omega)
  have hl0 : (l0.length = 0) = False := eq_false (by omega)
  have hp0 : 0 < l0.length := hl.1
  clear hr0 hc0 hl hcmp hm
  rw [Int.toNat_natCast, Nat.zero_mul, show ad.add 0 = ad from if_pos rfl] at x0 x1
  have h00 : rd_T26 l0 ((0 : Nat) : Int) = rd_T26 l0 0 := rfl
  rw [h00] at x0 x1
  have HMEM := Aside0.mk (show rd_T26 l0 0 ∈ l0 from rd_mem l0 0 HL.out.1)
  generalize rd_T26 l0 0 = m0 at x0 x1 HM HMEM
  replace x0 := (Lib.cell?_alloc_some (.cells #[.int .i64 0, .int .i64 0] 26) x0)
  replace x1 := (Lib.cell?_alloc_some (.cells #[.int .i64 0, .int .i64 0] 26) x1)
  go_enter Try.func45, Try.ntmps45
  go_wp2
  have H4 := Aside0.mk (blk_alloc (blk_new w (.cells #[.int .i64 0, .int .i64 0] 26)) (.cells #[.int .i64 m0.f0, .int .i64 m0.f1] 26))
  have h5 := blk_new (w.alloc (.cells #[.int .i64 0, .int .i64 0] 26)) (.cells #[.int .i64 m0.f0, .int .i64 m0.f1] 26)
  rw [World.size_alloc] at h5
  have H5 := Aside0.mk h5
  have HB := Aside0.mk (below_alloc (below_alloc (Below.refl _ w) (.cells #[.int .i64 0, .int .i64 0] 26)) (.cells #[.int .i64 m0.f0, .int .i64 m0.f1] 26))
  clear h5
  generalize (w.alloc (.cells #[.int .i64 0, .int .i64 0] 26)).alloc (.cells #[.int .i64 m0.f0, .int .i64 m0.f1] 26) = v0 at H4 H5 HB ⊢
  go_loopg [6] l0.length (fun kq v w' => ∃ (k : Nat) (m : S26), v = .int .i64 (k : Int) ∧ Aside0 (kq + k = l0.length + 1 ∧ 1 ≤ k ∧ k ≤ l0.length ∧ m ∈ l0 ∧ minp cmp m (l0.drop k) = r) ∧ Aside0 (w'.heap[w.heap.size]? = some (.cells #[.int .i64 0, .int .i64 0] 26 (0, 0))) ∧ Aside0 (w'.heap[w.heap.size + 1]? = some (.cells #[.int .i64 m.f0, .int .i64 m.f1] 26 (0, 0))) ∧ Aside0 (Below w.heap.size w w'))
  case atStart => exact ⟨1, m0, rfl, ⟨rfl, Nat.le_refl _, HL.out.1, HMEM.out, HM.out⟩, H4, H5, HB⟩
  case round =>
    clear H4 H5 HB HM HMEM v0 hge hgn hl0 hp0 x0 x1 p1 q1
    obtain ⟨k, m, rfl, HK, H4, H5, HB⟩ := hrel
    by_cases hk : k < l0.length
    · have p1 : (0 : Int) ≤ (k : Int) := by omega
      have q1 : (k : Int) < (l0.length : Int) := by omega
      obtain ⟨ad2, e1, x0, x1⟩ := at_T26 HR0.out (k : Int) p1 q1
      cases e1
      rw [Int.toNat_natCast] at x0 x1
      replace x0 := (HB.out.cell (World.block_lt_of_cell? w _ x0)).trans x0
      replace x1 := (HB.out.cell (World.block_lt_of_cell? w _ x1)).trans x1
      have HX := Aside0.mk (rd_mem l0 k hk)
      have hmm := minp_cons cmp m l0 k hk
      generalize rd_T26 l0 (k : Int) = x at x0 x1 HX hmm
      have HMM := Aside0.mk hmm
      have HLT := Aside0.mk hk
      clear hmm
      replace p1 := eq_true p1
      have q1' := decide_eq_true q1
      replace q1 := eq_true q1
      have qn := decide_eq_true hk
      clear hk
      go_upto_region 7 with (fail)
      refine start_ (n := 8) (S := fun w' => w'.cell? (ad.add (k * 2)) = some (.int .i64 x.f0) ∧ w'.cell? ⟨(ad.add (k * 2)).block, (ad.add (k * 2)).off + 1, none⟩ = some (.int .i64 x.f1) ∧ w'.cell? ⟨w.heap.size + 1, 0, none⟩ = some (.int .i64 m.f0) ∧ w'.cell? ⟨w.heap.size + 1, 1, none⟩ = some (.int .i64 m.f1)) (ds := []) #[false, false, false, false, false, false, false, false] (by kernel_rfl) rfl rfl ⟨x0, x1, (blk_cell (blk_drew H5.out) 0).trans rfl, (blk_cell (blk_drew H5.out) 1).trans rfl⟩ (fun hHeld => ?_)
      have H43 := Aside0.mk (blk_drew H4.out)
      have H53 := Aside0.mk (blk_drew H5.out)
      have HB3 := Aside0.mk (below_drew HB.out)
      generalize wr.drew = w3 at H43 H53 HB3 hHeld ⊢
      clear H4 H5 HB
      refine pure_ (i := 0) (N := some 20) (v := ?_) (a' := ?_) #[true, false, false, false, false, false, false, false] rfl rfl (by kernel_rfl) (fun _ _ _ h => h) (Or.inl ⟨by rfl, ?_⟩) ?_ ?_
      rotate_left
      · intro w'
        go_simp
        with_reducible rfl
      rotate_left
      · simp only [Act.put, List.setIfInBounds_toArray, List.set_cons_zero, List.set_cons_succ, i64_w, i32_w]
        rfl
      refine pure_ (i := 1) (N := some 21) (v := ?_) (a' := ?_) #[true, true, false, false, false, false, false, false] rfl rfl (by kernel_rfl) (fun _ _ _ h => h) (Or.inl ⟨by rfl, ?_⟩) ?_ ?_
      rotate_left
      · intro w'
        go_simp
        with_reducible rfl
      rotate_left
      · simp only [Act.put, List.setIfInBounds_toArray, List.set_cons_zero, List.set_cons_succ, i64_w, i32_w]
        rfl
      refine pure_ (i := 2) (N := some 22) (v := ?_) (a' := ?_) #[true, true, true, false, false, false, false, false] rfl rfl (by kernel_rfl) (fun _ _ _ h => h) (Or.inl ⟨by rfl, ?_⟩) ?_ ?_
      rotate_left
      · intro w'
        go_simp
        with_reducible rfl
      rotate_left
      · simp only [Act.put, List.setIfInBounds_toArray, List.set_cons_zero, List.set_cons_succ, i64_w, i32_w]
        rfl
      refine pure_ (i := 3) (N := some 23) (v := ?_) (a' := ?_) #[true, true, true, true, false, false, false, false] rfl rfl (by kernel_rfl) (fun _ _ _ h => h) (Or.inl ⟨by rfl, ?_⟩) ?_ ?_
      rotate_left
      · intro w'
        go_simp
        with_reducible rfl
      rotate_left
      · simp only [Act.put, List.setIfInBounds_toArray, List.set_cons_zero, List.set_cons_succ, i64_w, i32_w]
        rfl
      refine take_ (i := 4) (N := some 24) (v := ?_) (a' := ?_) #[true, true, true, true, true, false, false, false] rfl rfl (by kernel_rfl) (fun _ _ _ h => h) (Or.inl ⟨by rfl, ?_⟩) hHeld ?_ ?_
      rotate_left
      · rintro w' ⟨s0_, s1_, s2_, s3_⟩
        go_simp
        with_reducible rfl
      rotate_left
      · simp only [Act.put, List.setIfInBounds_toArray, List.set_cons_zero, List.set_cons_succ, i64_w, i32_w]
        rfl
      refine take_ (i := 5) (N := some 25) (v := ?_) (a' := ?_) #[true, true, true, true, true, true, false, false] rfl rfl (by kernel_rfl) (fun _ _ _ h => h) (Or.inl ⟨by rfl, ?_⟩) hHeld ?_ ?_
      rotate_left
      · rintro w' ⟨s0_, s1_, s2_, s3_⟩
        go_simp
        with_reducible rfl
      rotate_left
      · simp only [Act.put, List.setIfInBounds_toArray, List.set_cons_zero, List.set_cons_succ, i64_w, i32_w]
        rfl
      refine one_ (i := 6) (N := some 26) #[true, true, true, true, true, true, true, false] rfl rfl (by kernel_rfl) (by decide) (fun K hK => ?_)
      refine goesQ_ (t := 20) #[c2, c3] Try.func46 (by kernel_rfl) rfl #[pr26 x, pr26 m, c2, c3] (by rfl) rfl rfl (by rfl) (by simp [Act.eval, pr26]) ?_
      refine (HCMP.out x m _ HX.out HK.out.2.2.2.1 HB3.out).mono ?_
      rintro e w' ⟨rfl, hb⟩
      have H44 := Aside0.mk (blk_below H43.out hb)
      have H54 := Aside0.mk (blk_below H53.out hb)
      have HB4 := Aside0.mk (below_step HB3.out hb)
      refine ⟨_, rfl, ?_⟩
      refine hK.out _ _ ⟨(hb.cell (World.block_lt_of_cell? _ _ hHeld.1)).trans hHeld.1, (hb.cell (World.block_lt_of_cell? _ _ hHeld.2.1)).trans hHeld.2.1, (hb.cell (World.block_lt_of_cell? _ _ hHeld.2.2.1)).trans hHeld.2.2.1, (hb.cell (World.block_lt_of_cell? _ _ hHeld.2.2.2)).trans hHeld.2.2.2⟩ (fun hHeld => ?_)
      clear hK K
      refine norm_ (a' := ?_) ?_ ?_
      rotate_left
      · simp only [Act.put, List.setIfInBounds_toArray, List.set_cons_zero, List.set_cons_succ, i64_w, i32_w]
        rfl
      refine pure_ (i := 7) (N := some 27) (v := ?_) (a' := ?_) #[true, true, true, true, true, true, true, true] rfl rfl (by kernel_rfl) (fun _ _ _ h => h) (Or.inl ⟨by rfl, ?_⟩) ?_ ?_
      rotate_left
      · intro w'
        go_simp
        with_reducible rfl
      rotate_left
      · simp only [Act.put, List.setIfInBounds_toArray, List.set_cons_zero, List.set_cons_succ, i64_w, i32_w]
        rfl
      refine done_ (by kernel_rfl) ?_
      obtain ⟨k1, rfl⟩ : ∃ k1, gk = k1 + 1 := ⟨gk - 1, by have := HK.out; have := HLT.out; omega⟩
      have hw : wrap64 ((k : Int) + 1) = ((k + 1 : Nat) : Int) := by have := HLT.out; have := HL.out; unfold wrap64; omega
      have hmm := HMM.out
      obtain ⟨hd0, hd1, hd2, hd3⟩ := hHeld
      clear x0 x1 hb H43 H53 HB3
      cases cc : decide (cmp x m < 0) with
      | true =>
        rw [if_pos (of_decide_eq_true cc)] at hmm
        have HM2 := Aside0.mk hmm
        clear hmm HMM
        have f0 := blk_frozen H54.out 0
        have f1 := blk_frozen H54.out 1
        go_wp2
        have e0 := blk_put (cs' := #[.int .i64 x.f0, .int .i64 m.f1]) H54.out 0 (.int .i64 x.f0) rfl
        have e1 := blk_put (cs' := #[.int .i64 x.f0, .int .i64 x.f1]) e0 1 (.int .i64 x.f1) rfl
        have e2 := blk_far (blk_far H44.out (p := ⟨w.heap.size + 1, 0, none⟩) (by simp) (.int .i64 x.f0)) (p := ⟨w.heap.size + 1, 1, none⟩) (by simp) (.int .i64 x.f1)
        have eb := (HB4.out.setCell (p := ⟨w.heap.size + 1, 0, none⟩) (by simp) (.int .i64 x.f0)).setCell (p := ⟨w.heap.size + 1, 1, none⟩) (by simp) (.int .i64 x.f1)
        go_roundg k1
        case measure => have := HK.out; omega
        case rel => exact ⟨k + 1, x, congrArg (Value.int .i64) hw, ⟨by have := HK.out; have := HLT.out; omega, by omega, by have := HLT.out; omega, HX.out, HM2.out.symm.trans HK.out.2.2.2.2⟩, ⟨e2⟩, ⟨e1⟩, ⟨eb⟩⟩
      | false =>
        rw [if_neg (of_decide_eq_false cc)] at hmm
        have HM2 := Aside0.mk hmm
        clear hmm HMM
        go_wp2
        go_roundg k1
        case measure => have := HK.out; omega
        case rel => exact ⟨k + 1, m, congrArg (Value.int .i64) hw, ⟨by have := HK.out; have := HLT.out; omega, by omega, by have := HLT.out; omega, HK.out.2.2.2.1, HM2.out.symm.trans HK.out.2.2.2.2⟩, H44, H54, HB4⟩
    · have hkk : k = l0.length := by have := HK.out; omega
      have q1' : decide ((k : Int) < (l0.length : Int)) = false := decide_eq_false (by omega)
      have q1n : decide (k < l0.length) = false := decide_eq_false hk
      have hmr : m = r := by
        have := HK.out.2.2.2.2
        rw [hkk, List.drop_length] at this
        exact this
      subst hmr
      clear hk
      have c50 : wr.cell? ⟨w.heap.size + 1, 0, none⟩ = some (.int .i64 m.f0) := (blk_cell H5.out 0).trans rfl
      have c51 : wr.cell? ⟨w.heap.size + 1, 1, none⟩ = some (.int .i64 m.f1) := (blk_cell H5.out 1).trans rfl
      have c40 : wr.cell? ⟨w.heap.size, 0, none⟩ = some (.int .i64 0) := (blk_cell H4.out 0).trans rfl
      have c41 : wr.cell? ⟨w.heap.size, 1, none⟩ = some (.int .i64 0) := (blk_cell H4.out 1).trans rfl
      have f40 := blk_frozen H4.out 0
      have f41 := blk_frozen H4.out 1
      clear hkk
      go_wp2
      have e0 := blk_put (cs' := #[.int .i64 m.f0, .int .i64 0]) H4.out 0 (.int .i64 m.f0) rfl
      have e1 := blk_put (cs' := #[.int .i64 m.f0, .int .i64 m.f1]) e0 1 (.int .i64 m.f1) rfl
      have eb := (HB.out.setCell (p := ⟨w.heap.size, 0, none⟩) (Nat.le_refl _) (.int .i64 m.f0)).setCell (p := ⟨w.heap.size, 1, none⟩) (Nat.le_refl _) (.int .i64 m.f1)
      clear e0 c50 c51 c40 c41 f40 f41
      generalize (wr.setCell ⟨w.heap.size, 0, none⟩ (.int .i64 m.f0)).setCell ⟨w.heap.size, 1, none⟩ (.int .i64 m.f1) = u at e1 eb ⊢
      have c40 : u.cell? ⟨w.heap.size, 0, none⟩ = some (.int .i64 m.f0) := (blk_cell e1 0).trans rfl
      have c41 : u.cell? ⟨w.heap.size, 1, none⟩ = some (.int .i64 m.f1) := (blk_cell e1 1).trans rfl
      refine bodyPost_ret (results_cell_row rfl _ _ w.heap.size 26 #[.int .i64 m.f0, .int .i64 m.f1] (0, 0) _ rfl e1 hu26 rfl (by kernel_rfl)) rfl ?_
      exact ⟨rfl, eb⟩

end Go.Proofs.Ytfoickaangjmnaa.POQueueAll
