-- Written by a program of this session (pr.py, over the kit's print.py).
import Derived.Test.YtfoickaangjmnaaPOQueueAllx0
import Derived.Test.YtfoickaangjmnaaPOQueueAllx2
import Derived.Test.YtfoickaangjmnaaPOQueueAllx6
import Derived.Test.YtfoickaangjmnaaPOQueueAllx7
import Derived.Test.YtfoickaangjmnaaPOQueueAllx9
namespace Go.Proofs.Ytfoickaangjmnaa.POQueueAll
open Go.RowKit Go.Proofs.YtfoickaangjmnaaN Go.Proofs.YtfoickaangjmnaaW.PrintWords Go.Proofs.YtfoickaangjmnaaW.PrintLast Go.Proofs.YtfoickaangjmnaaW.PrintMore
attribute [local go_sem] max2_int min2_int max_two min_two max_three min_three max_four min_four   -- for this text's walks alone
set_option linter.unusedVariables false
set_option linter.unusedSimpArgs false

/-! ### syzygylaw15_QueueAll: function 4 -/

theorem laid26 : laidOutB Try.prog = true := by kernel_rfl
theorem key26 : WideMaps.KeyLaw Try.prog 26 := deep_law_laid (m := 100) laid26 (by decide) (of_decide_eq_true (by kernel_rfl)) (by kernel_rfl) (by kernel_rfl)
theorem keyOf26 {a b : Int} (wa : (Lit.int .i64 a).wf = true) (wb : (Lit.int .i64 b).wf = true) : ∃ l, keyOf Try.prog 26 (.agg #[.int .i64 a, .int .i64 b]) = some l := by
  obtain ⟨m, hm⟩ : ∃ m, Try.prog.types.size = m + 1 := ⟨Try.prog.types.size - 1, by kernel_rfl⟩
  have hkt : Try.prog.keyType 26 = true := by kernel_rfl
  have hf : (Value.agg #[.int .i64 a, .int .i64 b]).formed Try.prog 26 = true := by kernel_rfl
  have h1 : Try.prog.keyLits (m + 1) 3 [.int .i64 a] = some [.int .i64 a] := by
    unfold Program.keyLits
    simp only [Try.underlying3]
    rw [if_pos ⟨trivial, wa⟩]
  have h2 : Try.prog.keyLits (m + 1) 3 [.int .i64 b] = some [.int .i64 b] := by
    unfold Program.keyLits
    simp only [Try.underlying3]
    rw [if_pos ⟨trivial, wb⟩]
  have c3 : Try.prog.cellsOf 3 = 1 := by kernel_rfl
  have c26 : Try.prog.cellsOf 26 = 2 := by kernel_rfl
  unfold keyOf
  simp only [Try.underlying26]
  rw [if_pos (by rw [hkt, hf]; rfl), hm]
  unfold Program.keyLits
  simp only [Try.underlying26, c3, c26]
  simp [Value.cells, h1, h2, c3]
/-- The block b is a map that has just these keys. -/
def wfp (x : S26) : Prop := (Lit.int .i64 x.f0).wf = true ∧ (Lit.int .i64 x.f1).wf = true
def HadAt (w : World) (b : Nat) (ks : List S26) : Prop := (∀ x ∈ ks, wfp x) ∧ ∃ es clock, w.heap[b]? = some (.map es clock) ∧ es.toList.map (·.key) = ks.map pr26 ∧ ∀ e ∈ es.toList, e.born < clock
theorem pr_inj {x y : S26} (h : pr26 x = pr26 y) : x = y := by
  cases x; cases y
  simp only [pr26, Value.agg.injEq, Array.mk.injEq, List.cons.injEq, Value.int.injEq, and_true, true_and] at h
  rw [h.1, h.2]
set_option maxRecDepth 100000 in
theorem had_look {w : World} {b : Nat} {es : Array MapEntry} {clock : Nat} {x : S26} (hx : wfp x) (hb : w.heap[b]? = some (.map es clock)) (hk : ∀ e ∈ es.toList, ∃ l, keyOf Try.prog 26 e.key = some l) (h0 : ∀ e ∈ es.toList, e.key = pr26 x → e.val = .int .i64 0) :
    (Instr.lookup 37 (.map (some b)) (pr26 x) false).run Try.prog w = .ok (.int .i64 0) w := by
  obtain ⟨l, hl⟩ := keyOf26 hx.1 hx.2
  have hz : (zeroValue 3).run Try.prog w = .ok (.int .i64 0) w := rfl
  rcases key26.find w hl es.toList hk with ⟨h1, h2⟩ | ⟨j, e0, h1, h2, h3⟩
  · simp [Instr.lookup, run_underlying Try.underlying37, MapKept.run_getObj_map hb, key26.check w _ hl, pr26, h1, hz, Result.andThen]
  · have := h0 e0 (List.mem_of_getElem? h2) h3
    simp [Instr.lookup, run_underlying Try.underlying37, MapKept.run_getObj_map hb, key26.check w _ hl, pr26, h1, this, Result.andThen]
theorem had_keys {ks : List S26} {es : Array MapEntry} (hw : ∀ x ∈ ks, wfp x) (hk : es.toList.map (·.key) = ks.map pr26) : ∀ e ∈ es.toList, ∃ l, keyOf Try.prog 26 e.key = some l := by
  intro e he
  have : e.key ∈ ks.map pr26 := hk ▸ List.mem_map.2 ⟨e, he, rfl⟩
  obtain ⟨p, hp, h⟩ := List.mem_map.1 this
  rw [← h]
  exact keyOf26 (hw p hp).1 (hw p hp).2
theorem map_block {w : World} {b : Nat} {es : Array MapEntry} {clock : Nat} (hb : w.heap[b]? = some (.map es clock)) (es' : Array MapEntry) (clock' : Nat) : (ChangeMaps.setBlock w b (.map es' clock')).heap[b]? = some (.map es' clock') := by
  have := (Array.getElem?_eq_some_iff.1 hb).1
  simp [ChangeMaps.setBlock, this]
theorem map_other {w : World} {b k : Nat} (o : Obj) (h : k ≠ b) : (ChangeMaps.setBlock w b o).heap[k]? = w.heap[k]? := by
  simp only [ChangeMaps.setBlock]
  rw [Array.getElem?_setIfInBounds, if_neg (fun e => h e.symm)]
theorem map_below {w0 w : World} {B b : Nat} (h : Below B w0 w) (hb : B ≤ b) (o : Obj) : Below B w0 (ChangeMaps.setBlock w b o) :=
  h.trans ⟨rfl, rfl, rfl, by simp [ChangeMaps.setBlock], fun i hi => map_other o (by omega)⟩
set_option maxRecDepth 100000 in
theorem had_new {w : World} {b : Nat} {ks : List S26} {x : S26} (h : HadAt w b ks) (hwx : wfp x) (hx : x ∉ ks) :
    (Instr.lookup 37 (.map (some b)) (pr26 x) false).run Try.prog w = .ok (.int .i64 0) w ∧
    ∃ (es : Array MapEntry) (st : Nat), (Instr.mapEntry 37 (.map (some b)) (pr26 x)).run Try.prog w = .ok (.tuple #[.int .i64 0, .int .i64 (st : Int)]) (ChangeMaps.setBlock w b (.map (es.push ⟨pr26 x, .int .i64 0, st⟩) (st + 1))) ∧
    (∀ w2 : World, w2.heap[b]? = some (.map (es.push ⟨pr26 x, .int .i64 0, st⟩) (st + 1)) → (Instr.lookup 37 (.map (some b)) (pr26 x) false).run Try.prog w2 = .ok (.int .i64 0) w2 ∧
      ∀ v : Value, (Instr.entryStore 37 (.map (some b)) (.int .i64 (st : Int)) v).run Try.prog w2 = .ok () (ChangeMaps.setBlock w2 b (.map (es.push ⟨pr26 x, v, st⟩) (st + 1))) ∧ HadAt (ChangeMaps.setBlock w2 b (.map (es.push ⟨pr26 x, v, st⟩) (st + 1))) b (ks ++ [x])) := by
  obtain ⟨hw, es, clock, hb, hk, hs⟩ := h
  obtain ⟨l, hl⟩ := keyOf26 hwx.1 hwx.2
  have hz : ∀ u : World, (zeroValue 3).run Try.prog u = .ok (.int .i64 0) u := fun _ => rfl
  have hno : ∀ e ∈ es.toList, e.key ≠ pr26 x := by
    intro e he hh
    have : e.key ∈ ks.map pr26 := hk ▸ List.mem_map.2 ⟨e, he, rfl⟩
    obtain ⟨p, hp, h⟩ := List.mem_map.1 this
    rw [hh] at h
    exact hx (pr_inj h ▸ hp)
  refine ⟨had_look hwx hb (had_keys hw hk) (fun e he hh => absurd hh (hno e he)), es, clock, ?_, fun w2 hw2 => ⟨had_look hwx hw2 ?_ ?_, fun v => ⟨?_, ?_⟩⟩⟩
  · rcases key26.find w hl es.toList (had_keys hw hk) with ⟨h1, h2⟩ | ⟨j, e0, h1, h2, h3⟩
    · simp [Instr.mapEntry, run_underlying Try.underlying37, MapKept.run_getObj_map hb, key26.check w false hl, pr26, h1, hz, MapKept.run_setObj_map _ hb, Result.andThen, ChangeMaps.setBlock, goInt]
    · exact absurd h3 (hno e0 (List.mem_of_getElem? h2))
  · intro e he
    rw [Array.toList_push, List.mem_append, List.mem_singleton] at he
    rcases he with he | rfl
    · exact had_keys hw hk e he
    · exact keyOf26 hwx.1 hwx.2
  · intro e he hh
    rw [Array.toList_push, List.mem_append, List.mem_singleton] at he
    rcases he with he | rfl
    · exact absurd hh (hno e he)
    · rfl
  · have hidx : (es.push ⟨pr26 x, .int .i64 0, clock⟩).findIdx? (fun e => ((e.born : Nat) : Int) == ((clock : Nat) : Int)) = some es.size := by
      rw [WideElems.findIdx_arr, Array.toList_push, List.findIdx?_append, List.findIdx?_eq_none_iff.2 (fun e he => by have := hs e he; simp; omega)]
      simp
    have hmod : (es.push ⟨pr26 x, .int .i64 0, clock⟩).modify es.size (fun e => { e with val := v }) = es.push ⟨pr26 x, v, clock⟩ := by
      apply Array.ext'
      rw [Array.toList_modify, Array.toList_push, Array.toList_push, ← Array.length_toList, WideElems.modify_last]
    simp [Instr.entryStore, MapKept.run_getObj_map hw2, asInt, asIntOf, hidx, hmod, MapKept.run_setObj_map _ hw2, Result.andThen, ChangeMaps.setBlock]
  · refine ⟨fun y hy => (List.mem_append.1 hy).elim (hw y) (fun h => by rw [List.mem_singleton.1 h]; exact hwx), _, _, map_block hw2 _ _, ?_, fun e he => ?_⟩
    · rw [Array.toList_push, List.map_append, hk, List.map_append]; rfl
    · rw [Array.toList_push, List.mem_append, List.mem_singleton] at he
      rcases he with he | rfl
      · have := hs e he; omega
      · exact Nat.lt_succ_self _
theorem had_made (w : World) : HadAt (w.alloc (.map #[] 0)) w.heap.size [] := ⟨fun x hx => (by cases hx), #[], 0, blk_new w _, rfl, fun e he => by cases he⟩
theorem had_step {w w' : World} {b : Nat} {ks : List S26} (h : HadAt w b ks) (e : w'.heap[b]? = w.heap[b]?) : HadAt w' b ks := by
  obtain ⟨hw, es, clock, hb, r⟩ := h
  exact ⟨hw, es, clock, e.trans hb, r⟩
theorem rest_grown {α : Type} {d : Kd α} {e B : Nat} {W w1 : World} {u v : Value} {xs : List α} (h : d.R e W B (fun _ => True) v xs) (hg : W.grownBy w1 u.ownBlock) (hu : ∀ k, u.ownBlock = some k → k < B) : d.R e w1 B (fun _ => True) v xs :=
  Kd.R_mono (Kd.R_grown (Kd.R_mono (Kd.R_bound h) (ok' := fun k => B ≤ k) (fun k hk => hk.2.1)) hg (fun k hk e => by have := hu k e.symm; omega)) (fun _ _ => trivial)
def m34 (x : S34) : S36 := ⟨Int.tmod (wrap64 x.f0) 9, Int.tmod (wrap64 x.f1) 9, Int.tmod (wrap64 x.f2) 9, 0⟩
def syzygylaw15_QueueAll.wf34 (x : S34) : Prop := (Lit.int .u8 x.f0).wf = true ∧ ((Lit.int .u8 x.f1).wf = true ∧ (Lit.int .u8 x.f2).wf = true)
/-- What Next's rounds come to: k rounds, the pairs left behind each, the pairs, their least common multiples. -/
def Rounds (o : Int) (ms : List S36) (N : Nat) (Q : Nat → List S26) (X : Nat → S26) (C : Nat → Int × Int × Int × Int) : Prop :=
  C 0 = (0, 0, 0, 0) ∧ (∀ j, j ≤ N → (Q j).length + j = N) ∧ ∀ j, j < N → queue_Next.f o ms (Q j) = some ((X j).f0, (X j).f1, Q (j + 1), true) ∧ (0 ≤ (X j).f0 ∧ (X j).f0 < (X j).f1 ∧ (X j).f1 < ms.length) ∧
    syzygyref08_Lcm.f (rd_T36 ms (X j).f0).f0 (rd_T36 ms (X j).f0).f1 (rd_T36 ms (X j).f0).f2 (rd_T36 ms (X j).f0).f3 (rd_T36 ms (X j).f1).f0 (rd_T36 ms (X j).f1).f1 (rd_T36 ms (X j).f1).f2 (rd_T36 ms (X j).f1).f3 = some (C (j + 1)) ∧
    (∃ c, syzygyref08_Cmp.f o (C j).1 (C j).2.1 (C j).2.2.1 (C j).2.2.2 (C (j + 1)).1 (C (j + 1)).2.1 (C (j + 1)).2.2.1 (C (j + 1)).2.2.2 = some c ∧ c ≤ 0) ∧ ∀ i, i < j → X i ≠ X j
def syzygylaw15_QueueAll.Pure : Prop := ∀ (a0 : Int) (l1 : List S34), (Lit.int .u8 a0).wf = true → l1.length ≤ maxLen → (∀ x ∈ l1, syzygylaw15_QueueAll.wf34 x) → syzygylaw15_shown.f = some true ∧
  (l1.length ≤ 24 → ∃ (k N : Nat) (L Q : Nat → List S26) (X : Nat → S26) (C : Nat → Int × Int × Int × Int), L 0 = [] ∧ (∀ i, i < l1.length → queue_With.f k (i : Int) (L i) = some (L (i + 1))) ∧
    queue_May.f (l1.length : Int) (L l1.length) = some true ∧ Q 0 = L l1.length ∧ N ≤ 1000 ∧ Int.tdiv (wrap64 ((l1.length : Int) * wrap64 ((l1.length : Int) - 1))) 2 = (N : Int) ∧ Rounds (Int.tmod (wrap64 a0) 3) (l1.map m34) N Q X C)
set_option maxHeartbeats 16000000 in
set_option maxRecDepth 100000 in
theorem syzygylaw15_QueueAll.walk (P : syzygylaw15_QueueAll.Pure) (a0 : Int) (A1 : Option Addr) (c1 : Nat) (l1 : List S34) (w : World) (hr1 : Kd.C k34 w A1 l1.length l1) (hc1 : l1.length ≤ c1) (f0 : (Lit.int .u8 a0).wf = true) (f1 : l1.length ≤ maxLen) (f2 : ∀ x ∈ l1, syzygylaw15_QueueAll.wf34 x) :
    Calls Try.prog 4 #[.int .u8 a0, .slice A1 l1.length c1] w fun e w' => e = .returned (.bool true) ∧ Below w.heap.size w w' := by
  have hu26 := Try.underlying26
  have hu36 := Try.underlying36
  have hnot : ∀ (x : Bool) (w : World), (Op.unary .not (.bool x)).run Try.prog w = .ok (.bool (!x)) w := fun _ _ => rfl
  obtain ⟨hsh, hP⟩ := P a0 l1 f0 f1 f2
  have HSH := Aside0.mk hsh
  have HR1 := Aside0.mk hr1
  have HC1 := Aside0.mk hc1
  by_cases h24 : (l1.length : Int) > 24
  · clear hP hr1 hc1 f0 f1 f2 P hsh
    have c0 : decide (24 < (l1.length : Int)) = true := decide_eq_true h24
    have c1 : decide (24 < l1.length) = true := decide_eq_true (by omega)
    clear h24
    go_enter Try.func4, Try.ntmps4
    go_wp2_with fail
    refine (syzygylaw15_shown.calls true _ HSH.out).mono ?_
    rintro e w1 ⟨rfl, hb⟩
    go_wp2
    go_ret
    exact ⟨rfl, hb⟩
  · obtain ⟨k, N, L, Q, X, C, hL0, hLs, hMay, hQ0, hN1, hN, hRounds⟩ := hP (by omega)
    have c0 : decide (24 < (l1.length : Int)) = false := decide_eq_false h24
    have c1 : decide (24 < l1.length) = false := decide_eq_false (by omega)
    have HL0 := Aside0.mk hL0
    have HLS := Aside0.mk hLs
    have HMAY := Aside0.mk hMay
    have HQ0 := Aside0.mk hQ0
    have HN1 := Aside0.mk hN1
    have HNN := Aside0.mk hN
    have HRN := Aside0.mk hRounds
    have HF2 := Aside0.mk f2
    have H24 := Aside0.mk (show l1.length ≤ 24 by omega)
    clear hP hr1 hc1 f0 f1 f2 P hsh hL0 hLs hMay hQ0 hN hN1 hRounds h24
    go_enter Try.func4, Try.ntmps4
    go_wp2_with fail
    refine (syzygylaw15_shown.calls true _ HSH.out).mono ?_
    rintro e w1 ⟨rfl, hb⟩
    have HD := Aside0.mk hb
    clear hb c0 c1
    go_upto_region 7 with (fail)
    have HM := Aside0.mk (show Kd.R k36 36 ((w1.alloc (.cells #[] 36)).alloc (.cells #[] 26)) w.heap.size (fun _ => True) (.slice (some ⟨w1.heap.size, 0, none⟩) 0 0) ((l1.map m34).take 0) from Kd.R_alloc ⟨fun _ _ => trivial, [], World.ownsRow_made w1 #[] 0 HD.out.size (Nat.zero_le _) rfl, Reps.none _ _⟩ _)
    have HL := Aside0.mk (show Kd.R k26 26 ((w1.alloc (.cells #[] 36)).alloc (.cells #[] 26)) w.heap.size (fun _ => True) (.slice (some ⟨w1.heap.size + 1, 0, none⟩) 0 0) (L 0) from by
      rw [HL0.out]
      have h1 : w.heap.size ≤ (w1.alloc (.cells #[] 36)).heap.size := by rw [World.size_alloc]; have := HD.out.size; omega
      have h2 := World.ownsRow_made (w1.alloc (.cells #[] 36)) #[] 0 (base := w.heap.size) (e := 26) (size := 2) h1 (Nat.zero_le _) rfl
      rw [World.size_alloc] at h2
      exact ⟨fun _ _ => trivial, [], h2, Reps.none _ _⟩)
    have HD0 := Aside0.mk (below_alloc (below_alloc HD.out (.cells #[] 36)) (.cells #[] 26))
    generalize (w1.alloc (.cells #[] 36)).alloc (.cells #[] 26) = v0 at HM HL HD0 ⊢
    generalize Value.slice (some ⟨w1.heap.size, 0, none⟩) 0 0 = s6 at HM ⊢
    generalize Value.slice (some ⟨w1.heap.size + 1, 0, none⟩) 0 0 = s7 at HL ⊢
    clear HD
    go_loopg [6, 7, 8] (l1.length + 1) (fun kq v6 v7 v8 wr => ∃ i : Nat, v8 = .int .i64 (i : Int) ∧ Aside0 (kq + i = l1.length + 1 ∧ i ≤ l1.length) ∧ Aside0 (Kd.R k36 36 wr w.heap.size (fun _ => True) v6 ((l1.map m34).take i)) ∧ Aside0 (Kd.R k26 26 wr w.heap.size (fun _ => True) v7 (L i)) ∧ Aside0 (Below w.heap.size w wr))
    case atStart => exact ⟨0, rfl, ⟨by omega, by omega⟩, HM, HL, HD0⟩
    case round =>
      clear HM HL HD0
      obtain ⟨i, rfl, HK, HM, HL, HD⟩ := hrel
      by_cases hk : i < l1.length
      · have p1 : (0 : Int) ≤ (i : Int) := by omega
        have q1 : (i : Int) < (l1.length : Int) := by omega
        obtain ⟨ad, e1, x0, x1, x2⟩ := at_T34 HR1.out (i : Int) p1 q1
        have HX := Aside0.mk (show (l1.map m34).take (i + 1) = (l1.map m34).take i ++ [m34 (rd_T34 l1 (i : Int))] by
          have hk2 : i < (l1.map m34).length := by rw [List.length_map]; exact hk
          have e : rd_T34 l1 (i : Int) = l1[i] := by
            unfold rd_T34
            simp [hk]
          rw [List.take_succ_eq_append_getElem hk2, e, List.getElem_map])
        generalize rd_T34 l1 (i : Int) = x at x0 x1 x2 HX
        rw [Int.toNat_natCast] at x0 x1 x2
        cases e1
        have K1 := x0
        have K2 := x1
        have K3 := x2
        clear x0 x1 x2
        have HLT := Aside0.mk hk
        have q1' := decide_eq_true q1
        have q1n := decide_eq_true hk
        clear hk
        obtain ⟨A7, c7, e7⟩ := Kd.R_slice HL.out
        subst e7
        replace p1 := eq_true p1
        replace q1 := eq_true q1
        go_wp2_with fail
        refine (queue_With.calls k (i : Int) A7 c7 (L i) (L (i + 1)) wr (Kd.R_reads' HL.out).2.2 (Kd.R_reads' HL.out).2.1 (HLS.out i HLT.out)).mono ?_
        rintro e u1 ⟨v7, rfl, hr7, hb⟩
        have HM1 := Aside0.mk (Kd.R_below HM.out hb)
        have HL1 := Aside0.mk hr7
        have HD1 := Aside0.mk (below_step HD.out hb)
        have HVB := Aside0.mk (Kd.R_lt HM.out)
        clear hr7 hb
        go_upto_region 10 with (fail)
        have x0 : u1.drew.cell? (ad.add (i * 3)) = some (.int .u8 x.f0) := ((below_drew HD1.out).cell (World.block_lt_of_cell? w _ K1)).trans K1
        have x1 : u1.drew.cell? ⟨(ad.add (i * 3)).block, (ad.add (i * 3)).off + 1, none⟩ = some (.int .u8 x.f1) := ((below_drew HD1.out).cell (World.block_lt_of_cell? w _ K2)).trans K2
        have x2 : u1.drew.cell? ⟨(ad.add (i * 3)).block, (ad.add (i * 3)).off + 2, none⟩ = some (.int .u8 x.f2) := ((below_drew HD1.out).cell (World.block_lt_of_cell? w _ K3)).trans K3
        refine start_ (n := 26) (S := fun w' => w'.cell? (ad.add (i * 3)) = some (.int .u8 x.f0) ∧ w'.cell? ⟨(ad.add (i * 3)).block, (ad.add (i * 3)).off + 1, none⟩ = some (.int .u8 x.f1) ∧ w'.cell? ⟨(ad.add (i * 3)).block, (ad.add (i * 3)).off + 2, none⟩ = some (.int .u8 x.f2)) (ds := []) #[false, false, false, false, false, false, false, false, false, false, false, false, false, false, false, false, false, false, false, false, false, false, false, false, false, false] (by kernel_rfl) rfl rfl ⟨x0, x1, x2⟩ (fun hHeld => ?_)
        have HM2 := Aside0.mk (Kd.R_drew HM1.out)
        have HL2 := Aside0.mk (Kd.R_drew HL1.out)
        have HD2 := Aside0.mk (below_drew HD1.out)
        generalize u1.drew = u2 at HM2 HL2 HD2 hHeld ⊢
        clear HM1 HL1 HD1 x0 x1 x2
        refine pure_ (i := 0) (N := some 38) (v := ?_) (a' := ?_) #[true, false, false, false, false, false, false, false, false, false, false, false, false, false, false, false, false, false, false, false, false, false, false, false, false, false] rfl rfl (by kernel_rfl) (fun _ _ _ h => h) (Or.inl ⟨by rfl, ?_⟩) ?_ ?_
        rotate_left
        · intro w'
          go_simp
          with_reducible rfl
        rotate_left
        · simp only [Act.put, List.setIfInBounds_toArray, List.set_cons_zero, List.set_cons_succ, i64_w, i32_w]
          rfl
        refine pure_ (i := 1) (N := some 39) (v := ?_) (a' := ?_) #[true, true, false, false, false, false, false, false, false, false, false, false, false, false, false, false, false, false, false, false, false, false, false, false, false, false] rfl rfl (by kernel_rfl) (fun _ _ _ h => h) (Or.inl ⟨by rfl, ?_⟩) ?_ ?_
        rotate_left
        · intro w'
          go_simp
          with_reducible rfl
        rotate_left
        · simp only [Act.put, List.setIfInBounds_toArray, List.set_cons_zero, List.set_cons_succ, i64_w, i32_w]
          rfl
        refine pure_ (i := 2) (N := some 40) (v := ?_) (a' := ?_) #[true, true, true, false, false, false, false, false, false, false, false, false, false, false, false, false, false, false, false, false, false, false, false, false, false, false] rfl rfl (by kernel_rfl) (fun _ _ _ h => h) (Or.inl ⟨by rfl, ?_⟩) ?_ ?_
        rotate_left
        · intro w'
          go_simp
          with_reducible rfl
        rotate_left
        · simp only [Act.put, List.setIfInBounds_toArray, List.set_cons_zero, List.set_cons_succ, i64_w, i32_w]
          rfl
        refine pure_ (i := 3) (N := some 41) (v := ?_) (a' := ?_) #[true, true, true, true, false, false, false, false, false, false, false, false, false, false, false, false, false, false, false, false, false, false, false, false, false, false] rfl rfl (by kernel_rfl) (fun _ _ _ h => h) (Or.inl ⟨by rfl, ?_⟩) ?_ ?_
        rotate_left
        · intro w'
          go_simp
          with_reducible rfl
        rotate_left
        · simp only [Act.put, List.setIfInBounds_toArray, List.set_cons_zero, List.set_cons_succ, i64_w, i32_w]
          rfl
        refine pure_ (i := 4) (N := some 42) (v := ?_) (a' := ?_) #[true, true, true, true, true, false, false, false, false, false, false, false, false, false, false, false, false, false, false, false, false, false, false, false, false, false] rfl rfl (by kernel_rfl) (fun _ _ _ h => h) (Or.inl ⟨by rfl, ?_⟩) ?_ ?_
        rotate_left
        · intro w'
          go_simp
          with_reducible rfl
        rotate_left
        · simp only [Act.put, List.setIfInBounds_toArray, List.set_cons_zero, List.set_cons_succ, i64_w, i32_w]
          rfl
        refine take_ (i := 5) (N := some 43) (v := ?_) (a' := ?_) #[true, true, true, true, true, true, false, false, false, false, false, false, false, false, false, false, false, false, false, false, false, false, false, false, false, false] rfl rfl (by kernel_rfl) (fun _ _ _ h => h) (Or.inl ⟨by rfl, ?_⟩) hHeld ?_ ?_
        rotate_left
        · rintro w' ⟨s0_, s1_, s2_⟩
          go_simp
          with_reducible rfl
        rotate_left
        · simp only [Act.put, List.setIfInBounds_toArray, List.set_cons_zero, List.set_cons_succ, i64_w, i32_w]
          rfl
        refine pure_ (i := 6) (N := some 44) (v := ?_) (a' := ?_) #[true, true, true, true, true, true, true, false, false, false, false, false, false, false, false, false, false, false, false, false, false, false, false, false, false, false] rfl rfl (by kernel_rfl) (fun _ _ _ h => h) (Or.inl ⟨by rfl, ?_⟩) ?_ ?_
        rotate_left
        · intro w'
          go_simp
          with_reducible rfl
        rotate_left
        · simp only [Act.put, List.setIfInBounds_toArray, List.set_cons_zero, List.set_cons_succ, i64_w, i32_w]
          rfl
        refine pure_ (i := 7) (N := some 45) (v := ?_) (a' := ?_) #[true, true, true, true, true, true, true, true, false, false, false, false, false, false, false, false, false, false, false, false, false, false, false, false, false, false] rfl rfl (by kernel_rfl) (fun _ _ _ h => h) (Or.inl ⟨by rfl, ?_⟩) ?_ ?_
        rotate_left
        · intro w'
          go_simp
          with_reducible rfl
        rotate_left
        · simp only [Act.put, List.setIfInBounds_toArray, List.set_cons_zero, List.set_cons_succ, i64_w, i32_w]
          rfl
        refine pure_ (i := 8) (N := some 46) (v := ?_) (a' := ?_) #[true, true, true, true, true, true, true, true, true, false, false, false, false, false, false, false, false, false, false, false, false, false, false, false, false, false] rfl rfl (by kernel_rfl) (fun _ _ _ h => h) (Or.inl ⟨by rfl, ?_⟩) ?_ ?_
        rotate_left
        · intro w'
          go_simp
          with_reducible rfl
        rotate_left
        · simp only [Act.put, List.setIfInBounds_toArray, List.set_cons_zero, List.set_cons_succ, i64_w, i32_w]
          rfl
        refine pure_ (i := 9) (N := some 47) (v := ?_) (a' := ?_) #[true, true, true, true, true, true, true, true, true, true, false, false, false, false, false, false, false, false, false, false, false, false, false, false, false, false] rfl rfl (by kernel_rfl) (fun _ _ _ h => h) (Or.inl ⟨by rfl, ?_⟩) ?_ ?_
        rotate_left
        · intro w'
          go_simp
          with_reducible rfl
        rotate_left
        · simp only [Act.put, List.setIfInBounds_toArray, List.set_cons_zero, List.set_cons_succ, i64_w, i32_w]
          rfl
        refine pure_ (i := 10) (N := some 48) (v := ?_) (a' := ?_) #[true, true, true, true, true, true, true, true, true, true, true, false, false, false, false, false, false, false, false, false, false, false, false, false, false, false] rfl rfl (by kernel_rfl) (fun _ _ _ h => h) (Or.inl ⟨by rfl, ?_⟩) ?_ ?_
        rotate_left
        · intro w'
          go_simp
          with_reducible rfl
        rotate_left
        · simp only [Act.put, List.setIfInBounds_toArray, List.set_cons_zero, List.set_cons_succ, i64_w, i32_w]
          rfl
        refine pure_ (i := 11) (N := some 49) (v := ?_) (a' := ?_) #[true, true, true, true, true, true, true, true, true, true, true, true, false, false, false, false, false, false, false, false, false, false, false, false, false, false] rfl rfl (by kernel_rfl) (fun _ _ _ h => h) (Or.inl ⟨by rfl, ?_⟩) ?_ ?_
        rotate_left
        · intro w'
          go_simp
          with_reducible rfl
        rotate_left
        · simp only [Act.put, List.setIfInBounds_toArray, List.set_cons_zero, List.set_cons_succ, i64_w, i32_w]
          rfl
        refine take_ (i := 12) (N := some 50) (v := ?_) (a' := ?_) #[true, true, true, true, true, true, true, true, true, true, true, true, true, false, false, false, false, false, false, false, false, false, false, false, false, false] rfl rfl (by kernel_rfl) (fun _ _ _ h => h) (Or.inl ⟨by rfl, ?_⟩) hHeld ?_ ?_
        rotate_left
        · rintro w' ⟨s0_, s1_, s2_⟩
          go_simp
          with_reducible rfl
        rotate_left
        · simp only [Act.put, List.setIfInBounds_toArray, List.set_cons_zero, List.set_cons_succ, i64_w, i32_w]
          rfl
        refine pure_ (i := 13) (N := some 51) (v := ?_) (a' := ?_) #[true, true, true, true, true, true, true, true, true, true, true, true, true, true, false, false, false, false, false, false, false, false, false, false, false, false] rfl rfl (by kernel_rfl) (fun _ _ _ h => h) (Or.inl ⟨by rfl, ?_⟩) ?_ ?_
        rotate_left
        · intro w'
          go_simp
          with_reducible rfl
        rotate_left
        · simp only [Act.put, List.setIfInBounds_toArray, List.set_cons_zero, List.set_cons_succ, i64_w, i32_w]
          rfl
        refine pure_ (i := 14) (N := some 52) (v := ?_) (a' := ?_) #[true, true, true, true, true, true, true, true, true, true, true, true, true, true, true, false, false, false, false, false, false, false, false, false, false, false] rfl rfl (by kernel_rfl) (fun _ _ _ h => h) (Or.inl ⟨by rfl, ?_⟩) ?_ ?_
        rotate_left
        · intro w'
          go_simp
          with_reducible rfl
        rotate_left
        · simp only [Act.put, List.setIfInBounds_toArray, List.set_cons_zero, List.set_cons_succ, i64_w, i32_w]
          rfl
        refine pure_ (i := 15) (N := some 53) (v := ?_) (a' := ?_) #[true, true, true, true, true, true, true, true, true, true, true, true, true, true, true, true, false, false, false, false, false, false, false, false, false, false] rfl rfl (by kernel_rfl) (fun _ _ _ h => h) (Or.inl ⟨by rfl, ?_⟩) ?_ ?_
        rotate_left
        · intro w'
          go_simp
          with_reducible rfl
        rotate_left
        · simp only [Act.put, List.setIfInBounds_toArray, List.set_cons_zero, List.set_cons_succ, i64_w, i32_w]
          rfl
        refine pure_ (i := 16) (N := some 54) (v := ?_) (a' := ?_) #[true, true, true, true, true, true, true, true, true, true, true, true, true, true, true, true, true, false, false, false, false, false, false, false, false, false] rfl rfl (by kernel_rfl) (fun _ _ _ h => h) (Or.inl ⟨by rfl, ?_⟩) ?_ ?_
        rotate_left
        · intro w'
          go_simp
          with_reducible rfl
        rotate_left
        · simp only [Act.put, List.setIfInBounds_toArray, List.set_cons_zero, List.set_cons_succ, i64_w, i32_w]
          rfl
        refine pure_ (i := 17) (N := some 55) (v := ?_) (a' := ?_) #[true, true, true, true, true, true, true, true, true, true, true, true, true, true, true, true, true, true, false, false, false, false, false, false, false, false] rfl rfl (by kernel_rfl) (fun _ _ _ h => h) (Or.inl ⟨by rfl, ?_⟩) ?_ ?_
        rotate_left
        · intro w'
          go_simp
          with_reducible rfl
        rotate_left
        · simp only [Act.put, List.setIfInBounds_toArray, List.set_cons_zero, List.set_cons_succ, i64_w, i32_w]
          rfl
        refine pure_ (i := 18) (N := some 56) (v := ?_) (a' := ?_) #[true, true, true, true, true, true, true, true, true, true, true, true, true, true, true, true, true, true, true, false, false, false, false, false, false, false] rfl rfl (by kernel_rfl) (fun _ _ _ h => h) (Or.inl ⟨by rfl, ?_⟩) ?_ ?_
        rotate_left
        · intro w'
          go_simp
          with_reducible rfl
        rotate_left
        · simp only [Act.put, List.setIfInBounds_toArray, List.set_cons_zero, List.set_cons_succ, i64_w, i32_w]
          rfl
        refine take_ (i := 19) (N := some 57) (v := ?_) (a' := ?_) #[true, true, true, true, true, true, true, true, true, true, true, true, true, true, true, true, true, true, true, true, false, false, false, false, false, false] rfl rfl (by kernel_rfl) (fun _ _ _ h => h) (Or.inl ⟨by rfl, ?_⟩) hHeld ?_ ?_
        rotate_left
        · rintro w' ⟨s0_, s1_, s2_⟩
          go_simp
          with_reducible rfl
        rotate_left
        · simp only [Act.put, List.setIfInBounds_toArray, List.set_cons_zero, List.set_cons_succ, i64_w, i32_w]
          rfl
        refine pure_ (i := 20) (N := some 58) (v := ?_) (a' := ?_) #[true, true, true, true, true, true, true, true, true, true, true, true, true, true, true, true, true, true, true, true, true, false, false, false, false, false] rfl rfl (by kernel_rfl) (fun _ _ _ h => h) (Or.inl ⟨by rfl, ?_⟩) ?_ ?_
        rotate_left
        · intro w'
          go_simp
          with_reducible rfl
        rotate_left
        · simp only [Act.put, List.setIfInBounds_toArray, List.set_cons_zero, List.set_cons_succ, i64_w, i32_w]
          rfl
        refine pure_ (i := 21) (N := some 59) (v := ?_) (a' := ?_) #[true, true, true, true, true, true, true, true, true, true, true, true, true, true, true, true, true, true, true, true, true, true, false, false, false, false] rfl rfl (by kernel_rfl) (fun _ _ _ h => h) (Or.inl ⟨by rfl, ?_⟩) ?_ ?_
        rotate_left
        · intro w'
          go_simp
          with_reducible rfl
        rotate_left
        · simp only [Act.put, List.setIfInBounds_toArray, List.set_cons_zero, List.set_cons_succ, i64_w, i32_w]
          rfl
        refine pure_ (i := 22) (N := some 60) (v := ?_) (a' := ?_) #[true, true, true, true, true, true, true, true, true, true, true, true, true, true, true, true, true, true, true, true, true, true, true, false, false, false] rfl rfl (by kernel_rfl) (fun _ _ _ h => h) (Or.inl ⟨by rfl, ?_⟩) ?_ ?_
        rotate_left
        · intro w'
          go_simp
          with_reducible rfl
        rotate_left
        · simp only [Act.put, List.setIfInBounds_toArray, List.set_cons_zero, List.set_cons_succ, i64_w, i32_w]
          rfl
        refine one_ (i := 23) (N := some 61) #[true, true, true, true, true, true, true, true, true, true, true, true, true, true, true, true, true, true, true, true, true, true, true, true, false, false] rfl rfl (by kernel_rfl) (by decide) (fun K hK => ?_)
        refine value_ (w1 := u2.alloc (.cells #[.int .i64 (m34 x).f0, .int .i64 (m34 x).f1, .int .i64 (m34 x).f2, .int .i64 (m34 x).f3] 36)) (v := .slice (some ⟨u2.heap.size, 0, none⟩) 1 1) (by rfl) rfl ?_ ?_
        · go_simp
          rfl
        refine hK.out _ _ ⟨Lib.cell?_alloc_some _ hHeld.1, Lib.cell?_alloc_some _ hHeld.2.1, Lib.cell?_alloc_some _ hHeld.2.2⟩ (fun hHeld => ?_)
        clear hK K
        refine norm_ (a' := ?_) ?_ ?_
        rotate_left
        · simp only [Act.put, List.setIfInBounds_toArray, List.set_cons_zero, List.set_cons_succ, i64_w, i32_w]
          rfl
        refine one_ (i := 24) (N := some 62) #[true, true, true, true, true, true, true, true, true, true, true, true, true, true, true, true, true, true, true, true, true, true, true, true, true, false] rfl rfl (by kernel_rfl) (by decide) (fun K hK => ?_)
        refine Kd.R_append_step k36 (w0 := w) (W := u2) w.heap.size (by rfl) (.tmp 38) (.tmp 61) 22 36 (.agg #[.int .i64 0, .int .i64 0, .int .i64 0, .int .i64 0]) 32 rfl Try.underlying22 info36 rfl (by decide) (by omega) _ ((l1.map m34).take i) (m34 x) [.int .i64 (m34 x).f0, .int .i64 (m34 x).f1, .int .i64 (m34 x).f2, .int .i64 (m34 x).f3] (fun _ => True) (fun _ => False) rfl rfl (k36_mkM _ _ _ _) (fun _ h => h.elim) (fun _ _ => trivial) HM2.out HD2.out HD2.out.size (by rw [List.length_take]; have := H24.out; have := HLT.out; omega) ?_
        intro v1 u3 hm hb hg hat
        have HM3 := Aside0.mk hm
        have HL3 := Aside0.mk (rest_grown HL2.out hg HVB.out)
        have HD3 := Aside0.mk hb
        clear hm hg hat
        refine hK.out _ _ ⟨(hb.cell (World.block_lt_of_cell? w _ K1)).trans K1, (hb.cell (World.block_lt_of_cell? w _ K2)).trans K2, (hb.cell (World.block_lt_of_cell? w _ K3)).trans K3⟩ (fun hHeld => ?_)
        clear hK K
        clear hb HM2 HL2 HD2
        refine norm_ (a' := ?_) ?_ ?_
        rotate_left
        · simp only [Act.put, List.setIfInBounds_toArray, List.set_cons_zero, List.set_cons_succ, i64_w, i32_w]
          rfl
        refine pure_ (i := 25) (N := some 6) (v := ?_) (a' := ?_) #[true, true, true, true, true, true, true, true, true, true, true, true, true, true, true, true, true, true, true, true, true, true, true, true, true, true] rfl rfl (by kernel_rfl) (fun _ _ _ h => h) (Or.inl ⟨by rfl, ?_⟩) ?_ ?_
        rotate_left
        · intro w'
          go_simp
          with_reducible rfl
        rotate_left
        · simp only [Act.put, List.setIfInBounds_toArray, List.set_cons_zero, List.set_cons_succ, i64_w, i32_w]
          rfl
        refine done_ (by kernel_rfl) ?_
        obtain ⟨k1, rfl⟩ : ∃ k1, gk = k1 + 1 := ⟨gk - 1, by have := HK.out; have := HLT.out; omega⟩
        have hw : wrap64 ((i : Int) + 1) = ((i + 1 : Nat) : Int) := by have := HLT.out; have := H24.out; unfold wrap64; omega
        go_wp2
        go_roundg k1
        case measure => have := HK.out; omega
        case rel => exact ⟨i + 1, congrArg (Value.int .i64) hw, ⟨by have := HK.out; omega, HLT.out⟩, ⟨by rw [HX.out]; exact HM3.out⟩, ⟨Kd.R_lower HL3.out HD.out.size⟩, HD3⟩
      · have hkk : i = l1.length := by have := HK.out; omega
        have q1' : decide ((i : Int) < (l1.length : Int)) = false := decide_eq_false (by omega)
        have q1n : decide (i < l1.length) = false := decide_eq_false hk
        subst hkk
        rw [List.take_of_length_le (by rw [List.length_map]; exact Nat.le_refl _)] at HM
        clear hk
        obtain ⟨A7, c7, e7⟩ := Kd.R_slice HL.out
        subst e7
        obtain ⟨A6, c6, e6⟩ := Kd.R_slice HM.out
        subst e6
        have HMS := Aside0.mk (show (l1.map m34).length = l1.length from List.length_map ..)
        generalize l1.map m34 = ms at HM HRN HMS ⊢
        rw [← HQ0.out] at HL HMAY ⊢
        have hq : (Q 0).length = N := HRN.out.2.1 0 (Nat.zero_le _)
        have hb0 : (((Q 0).length : Int) != (N : Int)) = false := by rw [hq]; simp
        have hb1 : ((Q 0).length != N) = false := by rw [hq]; simp
        have hnn := HNN.out
        have hwN : wrap64 (N : Int) = (N : Int) := by have := HN1.out; unfold wrap64; omega
        have hmk : ∀ u : World, (Instr.makeMap 37 none).run Try.prog u = .ok (.map (some u.heap.size)) (u.alloc (.map #[] 0)) := fun _ => rfl
        clear hq
        go_wp2_with fail
        refine (queue_May.calls (l1.length : Int) A7 c7 (Q 0) true wr (Kd.R_reads' HL.out).2.2 (Kd.R_reads' HL.out).2.1 HMAY.out).mono ?_
        rintro e u0 ⟨rfl, hb⟩
        have HMC := Aside0.mk (show Kd.C k36 u0 A6 ms.length ms ∧ ms.length ≤ c6 from ⟨Kd.C_below (Kd.R_reads' HM.out).2.2 hb, (Kd.R_reads' HM.out).2.1⟩)
        have HLC := Aside0.mk (show Kd.C k26 u0 A7 (Q 0).length (Q 0) ∧ (Q 0).length ≤ c7 from ⟨Kd.C_below (Kd.R_reads' HL.out).2.2 hb, (Kd.R_reads' HL.out).2.1⟩)
        have HD0 := Aside0.mk (below_step HD.out hb)
        clear hb HM HL HD hb0 hb1
        go_upto_region 16 with (fail)
        have HMAP := Aside0.mk (had_step (had_made u0) (w' := (u0.alloc (.map #[] 0)).alloc (.cells #[.int .i64 0, .int .i64 0, .int .i64 0, .int .i64 0] 36)) (by rw [blk_alloc (blk_new u0 (.map #[] 0)), blk_new]))
        have hlast := blk_new (u0.alloc (.map #[] 0)) (.cells #[.int .i64 0, .int .i64 0, .int .i64 0, .int .i64 0] 36)
        rw [World.size_alloc] at hlast
        have HLAST := Aside0.mk hlast
        have HU := Aside0.mk (below_alloc (below_alloc (Below.refl u0.heap.size u0) (.map #[] 0)) (.cells #[.int .i64 0, .int .i64 0, .int .i64 0, .int .i64 0] 36))
        clear hlast hnn hwN hmk
        generalize (u0.alloc (.map #[] 0)).alloc (.cells #[.int .i64 0, .int .i64 0, .int .i64 0, .int .i64 0] 36) = v0 at HMAP HLAST HU ⊢
        go_loopg [7, 12, 13, 14, 15] (N + 1) (fun kq v7 v12 v13 v14 v15 wr => ∃ (j : Nat) (A : Option Addr) (c : Nat), v7 = .slice A (Q j).length c ∧ Aside0 (kq + j = N + 1 ∧ j ≤ N) ∧ Aside0 (Kd.C k26 wr A (Q j).length (Q j) ∧ (Q j).length ≤ c) ∧ Aside0 (HadAt wr u0.heap.size ((List.range j).map X)) ∧ Aside0 (wr.heap[u0.heap.size + 1]? = some (.cells #[.int .i64 (C j).1, .int .i64 (C j).2.1, .int .i64 (C j).2.2.1, .int .i64 (C j).2.2.2] 36 (0, 0))) ∧ Aside0 (Below u0.heap.size u0 wr))
        case atStart => exact ⟨0, A7, c7, rfl, ⟨by omega, by omega⟩, ⟨Kd.C_below HLC.out.1 HU.out, HLC.out.2⟩, HMAP, ⟨by rw [HRN.out.1]; exact HLAST.out⟩, HU⟩
        case round =>
          clear HLC HMAP HLAST HU
          obtain ⟨j, A, c, rfl, HK, HLC, HMAP, HLAST, HU⟩ := hrel
          by_cases hk : j < N
          · obtain ⟨hnx, ⟨x0, x1, x2⟩, hlcm, ⟨cc, hcmp, hcc⟩, hnew⟩ := HRN.out.2.2 j hk
            have hj := HRN.out.2.1 j (by omega)
            have hj1 := HRN.out.2.1 (j + 1) (by omega)
            have hms := HMS.out
            have h1000 := HN1.out
            have c0 : decide (0 < ((Q j).length : Int)) = true := decide_eq_true (by omega)
            have c0' : decide (0 < (Q j).length) = true := decide_eq_true (by omega)
            have cw : wrap64 (((Q j).length : Int) - 1) = ((Q (j + 1)).length : Int) := by unfold wrap64; omega
            have t0 : decide ((X j).f0 < 0) = false := decide_eq_false (by omega)
            have t1 : decide ((l1.length : Int) ≤ (X j).f1) = false := decide_eq_false (by omega)
            have t2 : decide ((X j).f1 ≤ (X j).f0) = false := decide_eq_false (by omega)
            have HNX := Aside0.mk hnx
            have HXB := Aside0.mk (show (0 ≤ (X j).f0 ∧ (X j).f0 < (X j).f1 ∧ (X j).f1 < (ms.length : Int)) from ⟨x0, x1, x2⟩)
            have HLCM := Aside0.mk hlcm
            have HCMP := Aside0.mk hcmp
            have HCC := Aside0.mk hcc
            have HNEW := Aside0.mk hnew
            have HJ := Aside0.mk (And.intro hj hj1)
            have HLT := Aside0.mk hk
            clear hk hnx x0 x1 x2 hlcm hcmp hcc hnew hj hj1 hms h1000
            go_wp2_with fail
            refine (queue_Next.calls (Int.tmod (wrap64 a0) 3) A6 c6 ms A c (Q j) (X j).f0 (X j).f1 (Q (j + 1)) true wr (Kd.C_below HMC.out.1 HU.out) HMC.out.2 HLC.out.1 HLC.out.2 HNX.out).mono ?_
            rintro e u1 ⟨v13, rfl, hr, hb⟩
            have HR := Aside0.mk hr
            have HGW := Aside0.mk (show u0.heap.size + 2 ≤ wr.heap.size from blk_lt HLAST.out)
            have HSW := Aside0.mk hb.size
            have HMAP1 := Aside0.mk (had_step HMAP.out (hb.block u0.heap.size (by have := HGW.out; omega)))
            have HLAST1 := Aside0.mk (blk_below HLAST.out hb)
            have HU1 := Aside0.mk (HU.out.trans (hb.mono (by have := HGW.out; omega)))
            clear hr hb HLC HMAP HLAST HU
            obtain ⟨A', c', e'⟩ := Kd.R_slice HR.out
            subst e'
            go_upto_region 18 with (fail)
            have HB2 := Aside0.mk (blk_new u1 (.cells #[.int .i64 (X j).f0, .int .i64 (X j).f1] 26))
            have HR2 := Aside0.mk (Kd.R_alloc HR.out (.cells #[.int .i64 (X j).f0, .int .i64 (X j).f1] 26))
            have HMAP2 := Aside0.mk (had_step HMAP1.out ((below_alloc (Below.refl u1.heap.size u1) (.cells #[.int .i64 (X j).f0, .int .i64 (X j).f1] 26)).block u0.heap.size (Nat.lt_of_succ_lt (blk_lt HLAST1.out))))
            have HGBL := Aside0.mk (blk_lt HLAST1.out)
            have HLAST2 := Aside0.mk (blk_alloc HLAST1.out (.cells #[.int .i64 (X j).f0, .int .i64 (X j).f1] 26))
            have HU2 := Aside0.mk (below_alloc HU1.out (.cells #[.int .i64 (X j).f0, .int .i64 (X j).f1] 26))
            have HS2 := Aside0.mk (show wr.heap.size ≤ (u1.alloc (.cells #[.int .i64 (X j).f0, .int .i64 (X j).f1] 26)).heap.size by rw [World.size_alloc]; have := HSW.out; omega)
            generalize u1.alloc (.cells #[.int .i64 (X j).f0, .int .i64 (X j).f1] 26) = u2 at HB2 HR2 HMAP2 HLAST2 HU2 HS2 ⊢
            obtain ⟨gb, hgb⟩ : ∃ gb, u1.heap.size = gb := ⟨_, rfl⟩
            have HGB := Aside0.mk (show gb ≠ u0.heap.size from by have := HGBL.out; omega)
            have HGB1 := Aside0.mk (show gb ≠ u0.heap.size + 1 from by have := HGBL.out; omega)
            rw [hgb] at HB2 ⊢
            clear hgb HR HMAP1 HLAST1 HU1 HGBL
            have y0 : u2.cell? ⟨gb, 0, none⟩ = some (.int .i64 (X j).f0) := (blk_cell HB2.out 0).trans rfl
            have y1 : u2.cell? ⟨gb, 1, none⟩ = some (.int .i64 (X j).f1) := (blk_cell HB2.out 1).trans rfl
            go_upto_region 20 with (fail)
            clear c0 c0' cw t0 t1 t2 y0 y1
            have hMC := Kd.C_below HMC.out.1 (below_drew HU2.out)
            have pa : 0 ≤ (X j).f0 := HXB.out.1
            have qa : (X j).f0 < (ms.length : Int) := by have := HXB.out; omega
            have pb : 0 ≤ (X j).f1 := by have := HXB.out; omega
            have qb : (X j).f1 < (ms.length : Int) := HXB.out.2.2
            obtain ⟨am, ea, mx0, mx1, mx2, mx3⟩ := at_T36 hMC (X j).f0 pa qa
            obtain ⟨am', eb, my0, my1, my2, my3⟩ := at_T36 hMC (X j).f1 pb qb
            subst ea
            obtain rfl : am = am' := by injection eb
            clear eb hMC
            replace pa := eq_true pa
            replace qa := eq_true qa
            replace pb := eq_true pb
            replace qb := eq_true qb
            refine start_ (n := 13) (S := fun w' => w'.cell? ⟨gb, 0, none⟩ = some (.int .i64 (X j).f0) ∧ w'.cell? ⟨gb, 1, none⟩ = some (.int .i64 (X j).f1) ∧ w'.cell? (am.add ((X j).f0.toNat * 4)) = some (.int .i64 (rd_T36 ms (X j).f0).f0) ∧ w'.cell? ⟨(am.add ((X j).f0.toNat * 4)).block, (am.add ((X j).f0.toNat * 4)).off + 1, none⟩ = some (.int .i64 (rd_T36 ms (X j).f0).f1) ∧ w'.cell? ⟨(am.add ((X j).f0.toNat * 4)).block, (am.add ((X j).f0.toNat * 4)).off + 2, none⟩ = some (.int .i64 (rd_T36 ms (X j).f0).f2) ∧ w'.cell? ⟨(am.add ((X j).f0.toNat * 4)).block, (am.add ((X j).f0.toNat * 4)).off + 3, none⟩ = some (.int .i64 (rd_T36 ms (X j).f0).f3) ∧ w'.cell? (am.add ((X j).f1.toNat * 4)) = some (.int .i64 (rd_T36 ms (X j).f1).f0) ∧ w'.cell? ⟨(am.add ((X j).f1.toNat * 4)).block, (am.add ((X j).f1.toNat * 4)).off + 1, none⟩ = some (.int .i64 (rd_T36 ms (X j).f1).f1) ∧ w'.cell? ⟨(am.add ((X j).f1.toNat * 4)).block, (am.add ((X j).f1.toNat * 4)).off + 2, none⟩ = some (.int .i64 (rd_T36 ms (X j).f1).f2) ∧ w'.cell? ⟨(am.add ((X j).f1.toNat * 4)).block, (am.add ((X j).f1.toNat * 4)).off + 3, none⟩ = some (.int .i64 (rd_T36 ms (X j).f1).f3)) (ds := [12]) #[false, false, false, false, false, false, false, false, false, false, false, false, false] (by kernel_rfl) rfl rfl ⟨(blk_cell (blk_drew HB2.out) 0).trans rfl, (blk_cell (blk_drew HB2.out) 1).trans rfl, mx0, mx1, mx2, mx3, my0, my1, my2, my3⟩ (fun hHeld => ?_)
            have HB3 := Aside0.mk (blk_drew HB2.out)
            have HR3 := Aside0.mk (Kd.R_drew HR2.out)
            have HMAP3 := Aside0.mk (had_step HMAP2.out (w' := u2.drew) rfl)
            have HLAST3 := Aside0.mk (blk_drew HLAST2.out)
            have HU3 := Aside0.mk (below_drew HU2.out)
            have HS3 := Aside0.mk (show wr.heap.size ≤ u2.drew.heap.size from HS2.out)
            generalize u2.drew = u3 at HB3 HR3 HMAP3 HLAST3 HU3 HS3 hHeld ⊢
            clear HB2 HR2 HMAP2 HLAST2 HU2 HS2 mx0 mx1 mx2 mx3 my0 my1 my2 my3
            refine pure_ (i := 0) (N := some 120) (v := ?_) (a' := ?_) #[true, false, false, false, false, false, false, false, false, false, false, false, false] rfl rfl (by kernel_rfl) (fun _ _ _ h => h) (Or.inl ⟨by rfl, ?_⟩) ?_ ?_
            rotate_left
            · intro w'
              go_simp
              with_reducible rfl
            rotate_left
            · simp only [Act.put, List.setIfInBounds_toArray, List.set_cons_zero, List.set_cons_succ, i64_w, i32_w]
              rfl
            refine pure_ (i := 1) (N := some 121) (v := ?_) (a' := ?_) #[true, true, false, false, false, false, false, false, false, false, false, false, false] rfl rfl (by kernel_rfl) (fun _ _ _ h => h) (Or.inl ⟨by rfl, ?_⟩) ?_ ?_
            rotate_left
            · intro w'
              go_simp
              with_reducible rfl
            rotate_left
            · simp only [Act.put, List.setIfInBounds_toArray, List.set_cons_zero, List.set_cons_succ, i64_w, i32_w]
              rfl
            refine take_ (i := 2) (N := some 122) (v := ?_) (a' := ?_) #[true, true, true, false, false, false, false, false, false, false, false, false, false] rfl rfl (by kernel_rfl) (fun _ _ _ h => h) (Or.inl ⟨by rfl, ?_⟩) hHeld ?_ ?_
            rotate_left
            · rintro w' ⟨s0_, s1_, s2_, s3_, s4_, s5_, s6_, s7_, s8_, s9_⟩
              go_simp
              with_reducible rfl
            rotate_left
            · simp only [Act.put, List.setIfInBounds_toArray, List.set_cons_zero, List.set_cons_succ, i64_w, i32_w]
              rfl
            refine pure_ (i := 3) (N := some 123) (v := ?_) (a' := ?_) #[true, true, true, true, false, false, false, false, false, false, false, false, false] rfl rfl (by kernel_rfl) (fun _ _ _ h => h) (Or.inl ⟨by rfl, ?_⟩) ?_ ?_
            rotate_left
            · intro w'
              go_simp
              with_reducible rfl
            rotate_left
            · simp only [Act.put, List.setIfInBounds_toArray, List.set_cons_zero, List.set_cons_succ, i64_w, i32_w]
              rfl
            refine take_ (i := 4) (N := some 124) (v := ?_) (a' := ?_) #[true, true, true, true, true, false, false, false, false, false, false, false, false] rfl rfl (by kernel_rfl) (fun _ _ _ h => h) (Or.inl ⟨by rfl, ?_⟩) hHeld ?_ ?_
            rotate_left
            · rintro w' ⟨s0_, s1_, s2_, s3_, s4_, s5_, s6_, s7_, s8_, s9_⟩
              go_simp
              with_reducible rfl
            rotate_left
            · simp only [Act.put, List.setIfInBounds_toArray, List.set_cons_zero, List.set_cons_succ, i64_w, i32_w]
              rfl
            refine pure_ (i := 5) (N := some 125) (v := ?_) (a' := ?_) #[true, true, true, true, true, true, false, false, false, false, false, false, false] rfl rfl (by kernel_rfl) (fun _ _ _ h => h) (Or.inl ⟨by rfl, ?_⟩) ?_ ?_
            rotate_left
            · intro w'
              go_simp
              with_reducible rfl
            rotate_left
            · simp only [Act.put, List.setIfInBounds_toArray, List.set_cons_zero, List.set_cons_succ, i64_w, i32_w]
              rfl
            refine pure_ (i := 6) (N := some 126) (v := ?_) (a' := ?_) #[true, true, true, true, true, true, true, false, false, false, false, false, false] rfl rfl (by kernel_rfl) (fun _ _ _ h => h) (Or.inl ⟨by rfl, ?_⟩) ?_ ?_
            rotate_left
            · intro w'
              go_simp
              with_reducible rfl
            rotate_left
            · simp only [Act.put, List.setIfInBounds_toArray, List.set_cons_zero, List.set_cons_succ, i64_w, i32_w]
              rfl
            refine take_ (i := 7) (N := some 127) (v := ?_) (a' := ?_) #[true, true, true, true, true, true, true, true, false, false, false, false, false] rfl rfl (by kernel_rfl) (fun _ _ _ h => h) (Or.inl ⟨by rfl, ?_⟩) hHeld ?_ ?_
            rotate_left
            · rintro w' ⟨s0_, s1_, s2_, s3_, s4_, s5_, s6_, s7_, s8_, s9_⟩
              go_simp
              with_reducible rfl
            rotate_left
            · simp only [Act.put, List.setIfInBounds_toArray, List.set_cons_zero, List.set_cons_succ, i64_w, i32_w]
              rfl
            refine pure_ (i := 8) (N := some 128) (v := ?_) (a' := ?_) #[true, true, true, true, true, true, true, true, true, false, false, false, false] rfl rfl (by kernel_rfl) (fun _ _ _ h => h) (Or.inl ⟨by rfl, ?_⟩) ?_ ?_
            rotate_left
            · intro w'
              go_simp
              with_reducible rfl
            rotate_left
            · simp only [Act.put, List.setIfInBounds_toArray, List.set_cons_zero, List.set_cons_succ, i64_w, i32_w]
              rfl
            refine take_ (i := 9) (N := some 129) (v := ?_) (a' := ?_) #[true, true, true, true, true, true, true, true, true, true, false, false, false] rfl rfl (by kernel_rfl) (fun _ _ _ h => h) (Or.inl ⟨by rfl, ?_⟩) hHeld ?_ ?_
            rotate_left
            · rintro w' ⟨s0_, s1_, s2_, s3_, s4_, s5_, s6_, s7_, s8_, s9_⟩
              go_simp
              with_reducible rfl
            rotate_left
            · simp only [Act.put, List.setIfInBounds_toArray, List.set_cons_zero, List.set_cons_succ, i64_w, i32_w]
              rfl
            refine join_ (σ := Nat) 1 #[true, true, true, true, true, true, true, true, true, true, true, true, false] (fun s => [(130, .agg #[.int .i64 (C (j + 1)).1, .int .i64 (C (j + 1)).2.1, .int .i64 (C (j + 1)).2.2.1, .int .i64 (C (j + 1)).2.2.2]), (15, .pointer (some ⟨s, 0, none⟩))]) (fun s w' => w'.heap[s]? = some (.cells #[.int .i64 0, .int .i64 0, .int .i64 0, .int .i64 0] 36 (0, 0)) ∧ w'.heap[gb]? = some (.cells #[.int .i64 (X j).f0, .int .i64 (X j).f1] 26 (0, 0)) ∧ Kd.R k26 26 w' wr.heap.size (fun k => k < s) (.slice A' (Q (j + 1)).length c') (Q (j + 1)) ∧ HadAt w' u0.heap.size ((List.range j).map X) ∧ w'.heap[u0.heap.size + 1]? = some (.cells #[.int .i64 (C j).1, .int .i64 (C j).2.1, .int .i64 (C j).2.2.1, .int .i64 (C j).2.2.2] 36 (0, 0)) ∧ Below u0.heap.size u0 w' ∧ wr.heap.size ≤ s ∧ gb ≠ s) ?_ (fun hJ => ?_)
            rotate_left
            · refine two_ (i := 10) (j := 11) (Ni := some 130) (Nj := some 15) #[true, true, true, true, true, true, true, true, true, true, true, false, false] #[true, true, true, true, true, true, true, true, true, true, false, true, false] rfl rfl rfl rfl (by kernel_rfl) (by decide) (by decide) (fun K hK => ?_) (fun K hK => ?_)
              · refine goes_ Try.func22 (by kernel_rfl) rfl #[.agg #[.int .i64 (rd_T36 ms (X j).f0).f0, .int .i64 (rd_T36 ms (X j).f0).f1, .int .i64 (rd_T36 ms (X j).f0).f2, .int .i64 (rd_T36 ms (X j).f0).f3], .agg #[.int .i64 (rd_T36 ms (X j).f1).f0, .int .i64 (rd_T36 ms (X j).f1).f1, .int .i64 (rd_T36 ms (X j).f1).f2, .int .i64 (rd_T36 ms (X j).f1).f3]] (by rfl) rfl rfl (by (try simp only [List.map_toArray, List.map_cons, List.map_nil]); first | done | rfl) ?_
                refine (syzygyref08_Lcm.calls _ _ _ _ _ _ _ _ (C (j + 1)).1 (C (j + 1)).2.1 (C (j + 1)).2.2.1 (C (j + 1)).2.2.2 _ HLCM.out).mono ?_
                rintro e u4 ⟨rfl, hb⟩
                refine ⟨_, rfl, ?_⟩
                refine hK.out _ _ ⟨(hb.cell (World.block_lt_of_cell? _ _ hHeld.1)).trans hHeld.1, (hb.cell (World.block_lt_of_cell? _ _ hHeld.2.1)).trans hHeld.2.1, (hb.cell (World.block_lt_of_cell? _ _ hHeld.2.2.1)).trans hHeld.2.2.1, (hb.cell (World.block_lt_of_cell? _ _ hHeld.2.2.2.1)).trans hHeld.2.2.2.1, (hb.cell (World.block_lt_of_cell? _ _ hHeld.2.2.2.2.1)).trans hHeld.2.2.2.2.1, (hb.cell (World.block_lt_of_cell? _ _ hHeld.2.2.2.2.2.1)).trans hHeld.2.2.2.2.2.1, (hb.cell (World.block_lt_of_cell? _ _ hHeld.2.2.2.2.2.2.1)).trans hHeld.2.2.2.2.2.2.1, (hb.cell (World.block_lt_of_cell? _ _ hHeld.2.2.2.2.2.2.2.1)).trans hHeld.2.2.2.2.2.2.2.1, (hb.cell (World.block_lt_of_cell? _ _ hHeld.2.2.2.2.2.2.2.2.1)).trans hHeld.2.2.2.2.2.2.2.2.1, (hb.cell (World.block_lt_of_cell? _ _ hHeld.2.2.2.2.2.2.2.2.2)).trans hHeld.2.2.2.2.2.2.2.2.2⟩ (fun hHeld => ?_)
                clear hK K
                refine norm_ (a' := ?_) ?_ ?_
                rotate_left
                · simp only [Act.put, List.setIfInBounds_toArray, List.set_cons_zero, List.set_cons_succ, i64_w, i32_w]
                  rfl
                refine one_ (i := 11) (N := some 15) #[true, true, true, true, true, true, true, true, true, true, true, true, false] rfl rfl (by kernel_rfl) (by decide) (fun K hK => ?_)
                refine value_ (w1 := u4.alloc (.cells #[.int .i64 0, .int .i64 0, .int .i64 0, .int .i64 0] 36)) (v := .pointer (some ⟨u4.heap.size, 0, none⟩)) (by rfl) rfl (by first | (go_simp; done) | (go_simp; rfl)) ?_
                refine hK.out _ _ ⟨Lib.cell?_alloc_some _ hHeld.1, Lib.cell?_alloc_some _ hHeld.2.1, Lib.cell?_alloc_some _ hHeld.2.2.1, Lib.cell?_alloc_some _ hHeld.2.2.2.1, Lib.cell?_alloc_some _ hHeld.2.2.2.2.1, Lib.cell?_alloc_some _ hHeld.2.2.2.2.2.1, Lib.cell?_alloc_some _ hHeld.2.2.2.2.2.2.1, Lib.cell?_alloc_some _ hHeld.2.2.2.2.2.2.2.1, Lib.cell?_alloc_some _ hHeld.2.2.2.2.2.2.2.2.1, Lib.cell?_alloc_some _ hHeld.2.2.2.2.2.2.2.2.2⟩ (fun hHeld => ?_)
                clear hK K
                refine norm_ (a' := ?_) ?_ ?_
                rotate_left
                · simp only [Act.put, List.setIfInBounds_toArray, List.set_cons_zero, List.set_cons_succ, i64_w, i32_w]
                  rfl
                exact hJ u4.heap.size _ ⟨blk_new u4 _, blk_alloc (blk_below HB3.out hb) _, Kd.R_alloc (Kd.R_below (Kd.R_mono (Kd.R_bound HR3.out) (ok' := fun k => k < u4.heap.size) (fun k hk => Nat.lt_of_lt_of_le hk.2.2.1 hb.size)) hb) _, had_step HMAP3.out (((below_alloc (Below.refl u4.heap.size u4) _).block _ (by have := hb.size; have := HS3.out; have := HGW.out; omega)).trans (hb.block _ (by have := HS3.out; have := HGW.out; omega))), blk_alloc (blk_below HLAST3.out hb) _, below_alloc (HU3.out.trans (hb.mono (by have := HS3.out; have := HGW.out; omega))) _, Nat.le_trans HS3.out hb.size, fun e => by have h1 := blk_lt HB3.out; have h2 := hb.size; omega⟩
              · refine value_ (w1 := u3.alloc (.cells #[.int .i64 0, .int .i64 0, .int .i64 0, .int .i64 0] 36)) (v := .pointer (some ⟨u3.heap.size, 0, none⟩)) (by rfl) rfl (by first | (go_simp; done) | (go_simp; rfl)) ?_
                refine hK.out _ _ ⟨Lib.cell?_alloc_some _ hHeld.1, Lib.cell?_alloc_some _ hHeld.2.1, Lib.cell?_alloc_some _ hHeld.2.2.1, Lib.cell?_alloc_some _ hHeld.2.2.2.1, Lib.cell?_alloc_some _ hHeld.2.2.2.2.1, Lib.cell?_alloc_some _ hHeld.2.2.2.2.2.1, Lib.cell?_alloc_some _ hHeld.2.2.2.2.2.2.1, Lib.cell?_alloc_some _ hHeld.2.2.2.2.2.2.2.1, Lib.cell?_alloc_some _ hHeld.2.2.2.2.2.2.2.2.1, Lib.cell?_alloc_some _ hHeld.2.2.2.2.2.2.2.2.2⟩ (fun hHeld => ?_)
                clear hK K
                refine norm_ (a' := ?_) ?_ ?_
                rotate_left
                · simp only [Act.put, List.setIfInBounds_toArray, List.set_cons_zero, List.set_cons_succ, i64_w, i32_w]
                  rfl
                refine one_ (i := 10) (N := some 130) #[true, true, true, true, true, true, true, true, true, true, true, true, false] rfl rfl (by kernel_rfl) (by decide) (fun K hK => ?_)
                refine goes_ Try.func22 (by kernel_rfl) rfl #[.agg #[.int .i64 (rd_T36 ms (X j).f0).f0, .int .i64 (rd_T36 ms (X j).f0).f1, .int .i64 (rd_T36 ms (X j).f0).f2, .int .i64 (rd_T36 ms (X j).f0).f3], .agg #[.int .i64 (rd_T36 ms (X j).f1).f0, .int .i64 (rd_T36 ms (X j).f1).f1, .int .i64 (rd_T36 ms (X j).f1).f2, .int .i64 (rd_T36 ms (X j).f1).f3]] (by rfl) rfl rfl (by (try simp only [List.map_toArray, List.map_cons, List.map_nil]); first | done | rfl) ?_
                refine (syzygyref08_Lcm.calls _ _ _ _ _ _ _ _ (C (j + 1)).1 (C (j + 1)).2.1 (C (j + 1)).2.2.1 (C (j + 1)).2.2.2 _ HLCM.out).mono ?_
                rintro e u4 ⟨rfl, hb⟩
                refine ⟨_, rfl, ?_⟩
                refine hK.out _ _ ⟨(hb.cell (World.block_lt_of_cell? _ _ hHeld.1)).trans hHeld.1, (hb.cell (World.block_lt_of_cell? _ _ hHeld.2.1)).trans hHeld.2.1, (hb.cell (World.block_lt_of_cell? _ _ hHeld.2.2.1)).trans hHeld.2.2.1, (hb.cell (World.block_lt_of_cell? _ _ hHeld.2.2.2.1)).trans hHeld.2.2.2.1, (hb.cell (World.block_lt_of_cell? _ _ hHeld.2.2.2.2.1)).trans hHeld.2.2.2.2.1, (hb.cell (World.block_lt_of_cell? _ _ hHeld.2.2.2.2.2.1)).trans hHeld.2.2.2.2.2.1, (hb.cell (World.block_lt_of_cell? _ _ hHeld.2.2.2.2.2.2.1)).trans hHeld.2.2.2.2.2.2.1, (hb.cell (World.block_lt_of_cell? _ _ hHeld.2.2.2.2.2.2.2.1)).trans hHeld.2.2.2.2.2.2.2.1, (hb.cell (World.block_lt_of_cell? _ _ hHeld.2.2.2.2.2.2.2.2.1)).trans hHeld.2.2.2.2.2.2.2.2.1, (hb.cell (World.block_lt_of_cell? _ _ hHeld.2.2.2.2.2.2.2.2.2)).trans hHeld.2.2.2.2.2.2.2.2.2⟩ (fun hHeld => ?_)
                clear hK K
                refine norm_ (a' := ?_) ?_ ?_
                rotate_left
                · simp only [Act.put, List.setIfInBounds_toArray, List.set_cons_zero, List.set_cons_succ, i64_w, i32_w]
                  rfl
                exact hJ u3.heap.size _ ⟨blk_below (blk_new u3 _) hb, blk_below (blk_alloc HB3.out _) hb, Kd.R_below (Kd.R_alloc (Kd.R_mono (Kd.R_bound HR3.out) (ok' := fun k => k < u3.heap.size) (fun k hk => hk.2.2.1)) _) hb, had_step HMAP3.out ((hb.block _ (by rw [World.size_alloc]; have := HS3.out; have := HGW.out; omega)).trans ((below_alloc (Below.refl u3.heap.size u3) _).block _ (by have := HS3.out; have := HGW.out; omega))), blk_below (blk_alloc HLAST3.out _) hb, (below_alloc HU3.out _).trans (hb.mono (by rw [World.size_alloc]; have := HS3.out; have := HGW.out; omega)), HS3.out, fun e => by have h1 := blk_lt HB3.out; omega⟩
            rintro g15 u4 ⟨hb15, hb12, hr, hmap, hlast, hu, hs15, hne⟩
            have HB15 := Aside0.mk hb15
            have HB4 := Aside0.mk hb12
            have HR4 := Aside0.mk hr
            have HMAP4 := Aside0.mk hmap
            have HLAST4 := Aside0.mk hlast
            have HU4 := Aside0.mk hu
            have HG15 := Aside0.mk (And.intro hs15 hne)
            clear hb15 hb12 hr hmap hlast hu hs15 hne hHeld HB3 HR3 HMAP3 HLAST3 HU3 HS3
            refine norm_ (a' := ?_) ?_ ?_
            rotate_left
            · simp only [putAll, Act.put, List.setIfInBounds_toArray, List.set_cons_zero, List.set_cons_succ, i64_w, i32_w]
              rfl
            have hf0 := blk_frozen HB15.out 0
            have hc0 : u4.cell? ⟨g15, 0, none⟩ = some (.int .i64 0) := (blk_cell HB15.out 0).trans rfl
            have hf1 := blk_frozen HB15.out 1
            have hc1 : u4.cell? ⟨g15, 1, none⟩ = some (.int .i64 0) := (blk_cell HB15.out 1).trans rfl
            have hf2 := blk_frozen HB15.out 2
            have hc2 : u4.cell? ⟨g15, 2, none⟩ = some (.int .i64 0) := (blk_cell HB15.out 2).trans rfl
            have hf3 := blk_frozen HB15.out 3
            have hc3 : u4.cell? ⟨g15, 3, none⟩ = some (.int .i64 0) := (blk_cell HB15.out 3).trans rfl
            refine last_ (i := 12) (N := none) #[true, true, true, true, true, true, true, true, true, true, true, true, true] rfl rfl (by kernel_rfl) (by decide) (fun K hK => ?_)
            refine skip_ (w1 := ?_) (by rfl) rfl ?_ ?_
            rotate_left
            · go_simp
              rfl
            refine hK.out _ _ ?_
            clear hK K
            refine done_ (by kernel_rfl) ?_
            clear hf0 hf1 hf2 hf3 hc0 hc1 hc2 hc3
            have h15 := HG15.out
            have hgw := HGW.out
            have HB5 := Aside0.mk (blk_far (blk_far (blk_far (blk_far HB4.out (p := ⟨g15, 0, none⟩) h15.2 (.int .i64 (C (j + 1)).1)) (p := ⟨g15, 1, none⟩) h15.2 (.int .i64 (C (j + 1)).2.1)) (p := ⟨g15, 2, none⟩) h15.2 (.int .i64 (C (j + 1)).2.2.1)) (p := ⟨g15, 3, none⟩) h15.2 (.int .i64 (C (j + 1)).2.2.2))
            have HC5 := Aside0.mk (blk_put (cs' := #[.int .i64 (C (j + 1)).1, .int .i64 (C (j + 1)).2.1, .int .i64 (C (j + 1)).2.2.1, .int .i64 (C (j + 1)).2.2.2]) (blk_put (cs' := #[.int .i64 (C (j + 1)).1, .int .i64 (C (j + 1)).2.1, .int .i64 (C (j + 1)).2.2.1, .int .i64 0]) (blk_put (cs' := #[.int .i64 (C (j + 1)).1, .int .i64 (C (j + 1)).2.1, .int .i64 0, .int .i64 0]) (blk_put (cs' := #[.int .i64 (C (j + 1)).1, .int .i64 0, .int .i64 0, .int .i64 0]) HB15.out 0 (.int .i64 (C (j + 1)).1) rfl) 1 (.int .i64 (C (j + 1)).2.1) rfl) 2 (.int .i64 (C (j + 1)).2.2.1) rfl) 3 (.int .i64 (C (j + 1)).2.2.2) rfl)
            have HR5 := Aside0.mk (Kd.R_far (Kd.R_far (Kd.R_far (Kd.R_far (Kd.R_mono HR4.out (ok' := fun k => k ≠ g15) (fun k hk => Nat.ne_of_lt hk)) (p := ⟨g15, 0, none⟩) (fun k hk => hk) (.int .i64 (C (j + 1)).1)) (p := ⟨g15, 1, none⟩) (fun k hk => hk) (.int .i64 (C (j + 1)).2.1)) (p := ⟨g15, 2, none⟩) (fun k hk => hk) (.int .i64 (C (j + 1)).2.2.1)) (p := ⟨g15, 3, none⟩) (fun k hk => hk) (.int .i64 (C (j + 1)).2.2.2))
            have HMAP5 := Aside0.mk (had_step HMAP4.out ((((Below.heap_setCell (((u4.setCell ⟨g15, 0, none⟩ (.int .i64 (C (j + 1)).1)).setCell ⟨g15, 1, none⟩ (.int .i64 (C (j + 1)).2.1)).setCell ⟨g15, 2, none⟩ (.int .i64 (C (j + 1)).2.2.1)) ⟨g15, 3, none⟩ (.int .i64 (C (j + 1)).2.2.2) _ (by show u0.heap.size ≠ g15; omega)).trans (Below.heap_setCell ((u4.setCell ⟨g15, 0, none⟩ (.int .i64 (C (j + 1)).1)).setCell ⟨g15, 1, none⟩ (.int .i64 (C (j + 1)).2.1)) ⟨g15, 2, none⟩ (.int .i64 (C (j + 1)).2.2.1) _ (by show u0.heap.size ≠ g15; omega))).trans (Below.heap_setCell (u4.setCell ⟨g15, 0, none⟩ (.int .i64 (C (j + 1)).1)) ⟨g15, 1, none⟩ (.int .i64 (C (j + 1)).2.1) _ (by show u0.heap.size ≠ g15; omega))).trans (Below.heap_setCell u4 ⟨g15, 0, none⟩ (.int .i64 (C (j + 1)).1) _ (by show u0.heap.size ≠ g15; omega))))
            have HLAST5 := Aside0.mk (blk_far (blk_far (blk_far (blk_far HLAST4.out (p := ⟨g15, 0, none⟩) (by show u0.heap.size + 1 ≠ g15; omega) (.int .i64 (C (j + 1)).1)) (p := ⟨g15, 1, none⟩) (by show u0.heap.size + 1 ≠ g15; omega) (.int .i64 (C (j + 1)).2.1)) (p := ⟨g15, 2, none⟩) (by show u0.heap.size + 1 ≠ g15; omega) (.int .i64 (C (j + 1)).2.2.1)) (p := ⟨g15, 3, none⟩) (by show u0.heap.size + 1 ≠ g15; omega) (.int .i64 (C (j + 1)).2.2.2))
            have HU5 := Aside0.mk (below_set (g := g15) (j := 3) (v := .int .i64 (C (j + 1)).2.2.2) (below_set (g := g15) (j := 2) (v := .int .i64 (C (j + 1)).2.2.1) (below_set (g := g15) (j := 1) (v := .int .i64 (C (j + 1)).2.1) (below_set (g := g15) (j := 0) (v := .int .i64 (C (j + 1)).1) HU4.out (by omega)) (by omega)) (by omega)) (by omega))
            generalize ((((u4.setCell ⟨g15, 0, none⟩ (.int .i64 (C (j + 1)).1)).setCell ⟨g15, 1, none⟩ (.int .i64 (C (j + 1)).2.1)).setCell ⟨g15, 2, none⟩ (.int .i64 (C (j + 1)).2.2.1)).setCell ⟨g15, 3, none⟩ (.int .i64 (C (j + 1)).2.2.2)) = u5 at HB5 HC5 HR5 HMAP5 HLAST5 HU5 ⊢
            clear HB4 HB15 HR4 HMAP4 HLAST4 HU4 h15 hgw
            have ca0 : u5.cell? ⟨u0.heap.size + 1, 0, none⟩ = some (.int .i64 (C j).1) := (blk_cell HLAST5.out 0).trans rfl
            have ca1 : u5.cell? ⟨u0.heap.size + 1, 1, none⟩ = some (.int .i64 (C j).2.1) := (blk_cell HLAST5.out 1).trans rfl
            have ca2 : u5.cell? ⟨u0.heap.size + 1, 2, none⟩ = some (.int .i64 (C j).2.2.1) := (blk_cell HLAST5.out 2).trans rfl
            have ca3 : u5.cell? ⟨u0.heap.size + 1, 3, none⟩ = some (.int .i64 (C j).2.2.2) := (blk_cell HLAST5.out 3).trans rfl
            have cb0 : u5.cell? ⟨g15, 0, none⟩ = some (.int .i64 (C (j + 1)).1) := (blk_cell HC5.out 0).trans rfl
            have cb1 : u5.cell? ⟨g15, 1, none⟩ = some (.int .i64 (C (j + 1)).2.1) := (blk_cell HC5.out 1).trans rfl
            have cb2 : u5.cell? ⟨g15, 2, none⟩ = some (.int .i64 (C (j + 1)).2.2.1) := (blk_cell HC5.out 2).trans rfl
            have cb3 : u5.cell? ⟨g15, 3, none⟩ = some (.int .i64 (C (j + 1)).2.2.2) := (blk_cell HC5.out 3).trans rfl
            go_wp2_with fail
            refine (syzygyref08_Cmp.calls (Int.tmod (wrap64 a0) 3) _ _ _ _ _ _ _ _ cc _ HCMP.out).mono ?_
            rintro e u6 ⟨rfl, hb⟩
            have hgw := HGW.out
            have hs5 : wr.heap.size ≤ u5.heap.size := by have h1 := HG15.out.1; have h2 := blk_lt HC5.out; omega
            have HB6 := Aside0.mk (blk_below HB5.out hb)
            have HC6 := Aside0.mk (blk_below HC5.out hb)
            have HR6 := Aside0.mk (Kd.R_below HR5.out hb)
            have HMAP6 := Aside0.mk (had_step HMAP5.out (hb.block _ (by omega)))
            have HLAST6 := Aside0.mk (blk_below HLAST5.out hb)
            have HU6 := Aside0.mk (HU5.out.trans (hb.mono (by omega)))
            have ccf : decide (0 < cc) = false := decide_eq_false (by have := HCC.out; omega)
            clear ca0 ca1 ca2 ca3 cb0 cb1 cb2 cb3 hb hs5 hgw HB5 HC5 HR5 HMAP5 HLAST5 HU5
            have ca0 : u6.cell? ⟨u0.heap.size + 1, 0, none⟩ = some (.int .i64 (C j).1) := (blk_cell HLAST6.out 0).trans rfl
            have ca1 : u6.cell? ⟨u0.heap.size + 1, 1, none⟩ = some (.int .i64 (C j).2.1) := (blk_cell HLAST6.out 1).trans rfl
            have ca2 : u6.cell? ⟨u0.heap.size + 1, 2, none⟩ = some (.int .i64 (C j).2.2.1) := (blk_cell HLAST6.out 2).trans rfl
            have ca3 : u6.cell? ⟨u0.heap.size + 1, 3, none⟩ = some (.int .i64 (C j).2.2.2) := (blk_cell HLAST6.out 3).trans rfl
            have cb0 : u6.cell? ⟨g15, 0, none⟩ = some (.int .i64 (C (j + 1)).1) := (blk_cell HC6.out 0).trans rfl
            have cb1 : u6.cell? ⟨g15, 1, none⟩ = some (.int .i64 (C (j + 1)).2.1) := (blk_cell HC6.out 1).trans rfl
            have cb2 : u6.cell? ⟨g15, 2, none⟩ = some (.int .i64 (C (j + 1)).2.2.1) := (blk_cell HC6.out 2).trans rfl
            have cb3 : u6.cell? ⟨g15, 3, none⟩ = some (.int .i64 (C (j + 1)).2.2.2) := (blk_cell HC6.out 3).trans rfl
            have hf0 := blk_frozen HLAST6.out 0
            have hf1 := blk_frozen HLAST6.out 1
            have hf2 := blk_frozen HLAST6.out 2
            have hf3 := blk_frozen HLAST6.out 3
            go_upto_region 24 with (fail)
            clear hf0 hf1 hf2 hf3 ca0 ca1 ca2 ca3 cb0 cb1 cb2 cb3 ccf
            have hgw := HGW.out
            have HB7 := Aside0.mk (blk_far (blk_far (blk_far (blk_far HB6.out (p := ⟨u0.heap.size + 1, 0, none⟩) HGB1.out (.int .i64 (C (j + 1)).1)) (p := ⟨u0.heap.size + 1, 1, none⟩) HGB1.out (.int .i64 (C (j + 1)).2.1)) (p := ⟨u0.heap.size + 1, 2, none⟩) HGB1.out (.int .i64 (C (j + 1)).2.2.1)) (p := ⟨u0.heap.size + 1, 3, none⟩) HGB1.out (.int .i64 (C (j + 1)).2.2.2))
            have HLAST7 := Aside0.mk (blk_put (cs' := #[.int .i64 (C (j + 1)).1, .int .i64 (C (j + 1)).2.1, .int .i64 (C (j + 1)).2.2.1, .int .i64 (C (j + 1)).2.2.2]) (blk_put (cs' := #[.int .i64 (C (j + 1)).1, .int .i64 (C (j + 1)).2.1, .int .i64 (C (j + 1)).2.2.1, .int .i64 (C j).2.2.2]) (blk_put (cs' := #[.int .i64 (C (j + 1)).1, .int .i64 (C (j + 1)).2.1, .int .i64 (C j).2.2.1, .int .i64 (C j).2.2.2]) (blk_put (cs' := #[.int .i64 (C (j + 1)).1, .int .i64 (C j).2.1, .int .i64 (C j).2.2.1, .int .i64 (C j).2.2.2]) HLAST6.out 0 (.int .i64 (C (j + 1)).1) rfl) 1 (.int .i64 (C (j + 1)).2.1) rfl) 2 (.int .i64 (C (j + 1)).2.2.1) rfl) 3 (.int .i64 (C (j + 1)).2.2.2) rfl)
            have HR7 := Aside0.mk (Kd.R_far (Kd.R_far (Kd.R_far (Kd.R_far (Kd.R_mono (Kd.R_bound HR6.out) (ok' := fun k => k ≠ u0.heap.size + 1) (fun k hk => by have := hk.2.1; omega)) (p := ⟨u0.heap.size + 1, 0, none⟩) (fun k hk => hk) (.int .i64 (C (j + 1)).1)) (p := ⟨u0.heap.size + 1, 1, none⟩) (fun k hk => hk) (.int .i64 (C (j + 1)).2.1)) (p := ⟨u0.heap.size + 1, 2, none⟩) (fun k hk => hk) (.int .i64 (C (j + 1)).2.2.1)) (p := ⟨u0.heap.size + 1, 3, none⟩) (fun k hk => hk) (.int .i64 (C (j + 1)).2.2.2))
            have HMAP7 := Aside0.mk (had_step HMAP6.out ((((Below.heap_setCell (((u6.setCell ⟨u0.heap.size + 1, 0, none⟩ (.int .i64 (C (j + 1)).1)).setCell ⟨u0.heap.size + 1, 1, none⟩ (.int .i64 (C (j + 1)).2.1)).setCell ⟨u0.heap.size + 1, 2, none⟩ (.int .i64 (C (j + 1)).2.2.1)) ⟨u0.heap.size + 1, 3, none⟩ (.int .i64 (C (j + 1)).2.2.2) _ (by show u0.heap.size ≠ u0.heap.size + 1; omega)).trans (Below.heap_setCell ((u6.setCell ⟨u0.heap.size + 1, 0, none⟩ (.int .i64 (C (j + 1)).1)).setCell ⟨u0.heap.size + 1, 1, none⟩ (.int .i64 (C (j + 1)).2.1)) ⟨u0.heap.size + 1, 2, none⟩ (.int .i64 (C (j + 1)).2.2.1) _ (by show u0.heap.size ≠ u0.heap.size + 1; omega))).trans (Below.heap_setCell (u6.setCell ⟨u0.heap.size + 1, 0, none⟩ (.int .i64 (C (j + 1)).1)) ⟨u0.heap.size + 1, 1, none⟩ (.int .i64 (C (j + 1)).2.1) _ (by show u0.heap.size ≠ u0.heap.size + 1; omega))).trans (Below.heap_setCell u6 ⟨u0.heap.size + 1, 0, none⟩ (.int .i64 (C (j + 1)).1) _ (by show u0.heap.size ≠ u0.heap.size + 1; omega))))
            have HU7 := Aside0.mk (below_set (g := u0.heap.size + 1) (j := 3) (v := .int .i64 (C (j + 1)).2.2.2) (below_set (g := u0.heap.size + 1) (j := 2) (v := .int .i64 (C (j + 1)).2.2.1) (below_set (g := u0.heap.size + 1) (j := 1) (v := .int .i64 (C (j + 1)).2.1) (below_set (g := u0.heap.size + 1) (j := 0) (v := .int .i64 (C (j + 1)).1) HU6.out (by omega)) (by omega)) (by omega)) (by omega))
            have HS7 := Aside0.mk (show wr.heap.size ≤ ((((u6.setCell ⟨u0.heap.size + 1, 0, none⟩ (.int .i64 (C (j + 1)).1)).setCell ⟨u0.heap.size + 1, 1, none⟩ (.int .i64 (C (j + 1)).2.1)).setCell ⟨u0.heap.size + 1, 2, none⟩ (.int .i64 (C (j + 1)).2.2.1)).setCell ⟨u0.heap.size + 1, 3, none⟩ (.int .i64 (C (j + 1)).2.2.2)).heap.size by
              have h1 := HG15.out.1
              have h2 := blk_lt HC6.out
              simp only [World.setCell, Array.size_modify]
              omega)
            generalize ((((u6.setCell ⟨u0.heap.size + 1, 0, none⟩ (.int .i64 (C (j + 1)).1)).setCell ⟨u0.heap.size + 1, 1, none⟩ (.int .i64 (C (j + 1)).2.1)).setCell ⟨u0.heap.size + 1, 2, none⟩ (.int .i64 (C (j + 1)).2.2.1)).setCell ⟨u0.heap.size + 1, 3, none⟩ (.int .i64 (C (j + 1)).2.2.2)) = u7 at HB7 HLAST7 HR7 HMAP7 HU7 HS7 ⊢
            clear HB6 HC6 HR6 HMAP6 HLAST6 HU6 hgw
            have HWF := Aside0.mk (show wfp (X j) by
              have h1 := HXB.out
              have h2 := HMS.out
              have h3 := H24.out
              constructor <;> simp [Lit.wf, IntKind.min, IntKind.max, IntKind.signed, IntKind.bits] <;> omega)
            have HNI := Aside0.mk (show X j ∉ (List.range j).map X by
              intro hm
              obtain ⟨z, hz, he⟩ := List.mem_map.1 hm
              exact HNEW.out z (List.mem_range.1 hz) he)
            refine start_ (n := 7) (S := fun w' => w'.cell? ⟨gb, 0, none⟩ = some (.int .i64 (X j).f0) ∧ w'.cell? ⟨gb, 1, none⟩ = some (.int .i64 (X j).f1) ∧ (Instr.lookup 37 (.map (some u0.heap.size)) (.agg #[.int .i64 (X j).f0, .int .i64 (X j).f1]) false).run Try.prog w' = .ok (.int .i64 0) w') (ds := [6]) #[false, false, false, false, false, false, false] (by kernel_rfl) rfl rfl ⟨(blk_cell (blk_drew HB7.out) 0).trans rfl, (blk_cell (blk_drew HB7.out) 1).trans rfl, (had_new (had_step HMAP7.out (w' := u7.drew) rfl) HWF.out HNI.out).1⟩ (fun hHeld => ?_)
            have HB8 := Aside0.mk (blk_drew HB7.out)
            have HR8 := Aside0.mk (Kd.R_drew HR7.out)
            have HMAP8 := Aside0.mk (had_step HMAP7.out (w' := u7.drew) rfl)
            have HLAST8 := Aside0.mk (blk_drew HLAST7.out)
            have HU8 := Aside0.mk (below_drew HU7.out)
            generalize u7.drew = u8 at HB8 HR8 HMAP8 HLAST8 HU8 hHeld ⊢
            clear HB7 HR7 HMAP7 HLAST7 HU7
            obtain ⟨-, es, st, hentry, hrest⟩ := had_new HMAP8.out HWF.out HNI.out
            have HENT := Aside0.mk hentry
            have HREST := Aside0.mk hrest
            clear hentry hrest
            refine pure_ (i := 0) (N := some 137) (v := ?_) (a' := ?_) #[true, false, false, false, false, false, false] rfl rfl (by kernel_rfl) (fun _ _ _ h => h) (Or.inl ⟨by rfl, ?_⟩) ?_ ?_
            rotate_left
            · intro w'
              go_simp
              with_reducible rfl
            rotate_left
            · simp only [Act.put, List.setIfInBounds_toArray, List.set_cons_zero, List.set_cons_succ, i64_w, i32_w]
              rfl
            refine take_ (i := 1) (N := some 138) (v := ?_) (a' := ?_) #[true, true, false, false, false, false, false] rfl rfl (by kernel_rfl) (fun _ _ _ h => h) (Or.inl ⟨by rfl, ?_⟩) hHeld ?_ ?_
            rotate_left
            · rintro w' ⟨s0_, s1_, s2_⟩
              go_simp
              with_reducible rfl
            rotate_left
            · simp only [Act.put, List.setIfInBounds_toArray, List.set_cons_zero, List.set_cons_succ, i64_w, i32_w]
              rfl
            refine take_ (i := 2) (N := some 139) (v := ?_) (a' := ?_) #[true, true, true, false, false, false, false] rfl rfl (by kernel_rfl) (fun _ _ _ h => h) (Or.inl ⟨by rfl, ?_⟩) hHeld ?_ ?_
            rotate_left
            · rintro w' ⟨s0_, s1_, s2_⟩
              go_simp
              with_reducible rfl
            rotate_left
            · simp only [Act.put, List.setIfInBounds_toArray, List.set_cons_zero, List.set_cons_succ, i64_w, i32_w]
              rfl
            refine pure_ (i := 3) (N := some 140) (v := ?_) (a' := ?_) #[true, true, true, true, false, false, false] rfl rfl (by kernel_rfl) (fun _ _ _ h => h) (Or.inl ⟨by rfl, ?_⟩) ?_ ?_
            rotate_left
            · intro w'
              go_simp
              with_reducible rfl
            rotate_left
            · simp only [Act.put, List.setIfInBounds_toArray, List.set_cons_zero, List.set_cons_succ, i64_w, i32_w]
              rfl
            refine one_ (i := 4) (N := some 141) #[true, true, true, true, true, false, false] rfl rfl (by kernel_rfl) (by decide) (fun K hK => ?_)
            refine value_ (w1 := ChangeMaps.setBlock u8 u0.heap.size (.map (es.push ⟨pr26 (X j), .int .i64 0, st⟩) (st + 1))) (v := .tuple #[.int .i64 0, .int .i64 (st : Int)]) (by rfl) rfl ?_ ?_
            · have he := HENT.out
              unfold pr26 at he ⊢
              go_simp
            obtain ⟨es0, cl0, hmb⟩ := HMAP8.out.2
            have HMB := Aside0.mk (map_block hmb.1 (es.push ⟨pr26 (X j), .int .i64 0, st⟩) (st + 1))
            have hcell : (ChangeMaps.setBlock u8 u0.heap.size (.map (es.push ⟨pr26 (X j), .int .i64 0, st⟩) (st + 1))).heap[gb]? = some (.cells #[.int .i64 (X j).f0, .int .i64 (X j).f1] 26 (0, 0)) := (map_other _ HGB.out).trans HB8.out
            refine hK.out _ _ ⟨(blk_cell hcell 0).trans rfl, (blk_cell hcell 1).trans rfl, (HREST.out _ HMB.out).1⟩ (fun hHeld => ?_)
            clear hK K
            clear hcell hmb es0 cl0
            refine norm_ (a' := ?_) ?_ ?_
            rotate_left
            · simp only [Act.put, List.setIfInBounds_toArray, List.set_cons_zero, List.set_cons_succ, i64_w, i32_w]
              rfl
            refine pure_ (i := 5) (N := some 142) (v := ?_) (a' := ?_) #[true, true, true, true, true, true, false] rfl rfl (by kernel_rfl) (fun _ _ _ h => h) (Or.inl ⟨by rfl, ?_⟩) ?_ ?_
            rotate_left
            · intro w'
              go_simp
              with_reducible rfl
            rotate_left
            · simp only [Act.put, List.setIfInBounds_toArray, List.set_cons_zero, List.set_cons_succ, i64_w, i32_w]
              rfl
            obtain ⟨hst, hmap⟩ := (HREST.out _ HMB.out).2 (.int .i64 1)
            have HMAP9 := Aside0.mk hmap
            clear hmap
            have hw1 : wrap64 1 = (1 : Int) := by unfold wrap64; omega
            refine last_ (i := 6) (N := none) #[true, true, true, true, true, true, true] rfl rfl (by kernel_rfl) (by decide) (fun K hK => ?_)
            refine skip_ (w1 := ChangeMaps.setBlock (ChangeMaps.setBlock u8 u0.heap.size (.map (es.push ⟨pr26 (X j), .int .i64 0, st⟩) (st + 1))) u0.heap.size (.map (es.push ⟨pr26 (X j), .int .i64 1, st⟩) (st + 1))) (by rfl) rfl ?_ ?_
            · go_simp
            refine hK.out _ _ ?_
            clear hK K
            refine done_ (by kernel_rfl) ?_
            have hgw := HGW.out
            have HR9 := Aside0.mk (Kd.R_step (Kd.R_step (Kd.R_mono (Kd.R_bound HR8.out) (ok' := fun k => k ≠ u0.heap.size) (fun k hk => by have := hk.2.1; omega)) (fun k hk _ => map_other (.map (es.push ⟨pr26 (X j), .int .i64 0, st⟩) (st + 1)) hk)) (fun k hk _ => map_other (.map (es.push ⟨pr26 (X j), .int .i64 1, st⟩) (st + 1)) hk))
            have HLAST9 := Aside0.mk (((map_other (b := u0.heap.size) (k := u0.heap.size + 1) (.map (es.push ⟨pr26 (X j), .int .i64 1, st⟩) (st + 1)) (by omega)).trans (map_other (b := u0.heap.size) (k := u0.heap.size + 1) (.map (es.push ⟨pr26 (X j), .int .i64 0, st⟩) (st + 1)) (by omega))).trans HLAST8.out)
            have HU9 := Aside0.mk (map_below (map_below HU8.out (Nat.le_refl _) (.map (es.push ⟨pr26 (X j), .int .i64 0, st⟩) (st + 1))) (Nat.le_refl _) (.map (es.push ⟨pr26 (X j), .int .i64 1, st⟩) (st + 1)))
            generalize ChangeMaps.setBlock (ChangeMaps.setBlock u8 u0.heap.size (.map (es.push ⟨pr26 (X j), .int .i64 0, st⟩) (st + 1))) u0.heap.size (.map (es.push ⟨pr26 (X j), .int .i64 1, st⟩) (st + 1)) = u9 at HMAP9 HR9 HLAST9 HU9 ⊢
            clear HB8 HR8 HMAP8 HLAST8 HU8 hst hw1 HMB HENT HREST hHeld hgw
            obtain ⟨k1, rfl⟩ : ∃ k1, gk = k1 + 1 := ⟨gk - 1, by have := HK.out; have := HLT.out; omega⟩
            go_wp2
            go_roundg k1
            case measure => have := HK.out; omega
            case rel => exact ⟨j + 1, A', c', rfl, ⟨by have := HK.out; omega, HLT.out⟩, ⟨(Kd.R_reads' HR9.out).2.2, (Kd.R_reads' HR9.out).2.1⟩, ⟨by rw [List.range_succ, List.map_append]; exact HMAP9.out⟩, HLAST9, HU9⟩
          · have hkk : j = N := by have := HK.out; omega
            subst hkk
            have hj := HRN.out.2.1 j (Nat.le_refl _)
            have hn1 := HN1.out
            have c0 : decide (0 < ((Q j).length : Int)) = false := decide_eq_false (by omega)
            have c0' : decide (0 < (Q j).length) = false := decide_eq_false (by omega)
            have hlen : ∀ ty, (Builtin.len_ #[37] ty #[.map (some u0.heap.size)]).run Try.prog wr = .ok (.int .i64 (j : Int)) wr := by
              obtain ⟨_, es, clock, hb, hks, _⟩ := HMAP.out
              have hsz : es.size = j := by
                have h1 := congrArg List.length hks
                rw [List.length_map, List.length_map, List.length_map, List.length_range, Array.length_toList] at h1
                exact h1
              intro ty
              rw [run_len_map wr 37 ty u0.heap.size es clock (by kernel_rfl) hb, hsz]
              rfl
            have hnn := HNN.out
            have hwN : wrap64 (j : Int) = (j : Int) := by unfold wrap64; omega
            have HDE := Aside0.mk (HD0.out.trans (HU.out.mono HD0.out.size))
            clear hk hj hn1
            go_wp2
            go_ret
            exact ⟨by simp, HDE.out⟩

end Go.Proofs.Ytfoickaangjmnaa.POQueueAll
