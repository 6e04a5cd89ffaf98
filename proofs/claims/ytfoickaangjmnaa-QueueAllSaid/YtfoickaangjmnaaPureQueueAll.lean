/- QueueAll: all pairs come next, one by one, each once, by rising least common multiples. -/
import Derived.Test.YtfoickaangjmnaaOQueueAllL
set_option linter.unusedVariables false
set_option linter.unusedSimpArgs false
namespace Go.Proofs.Ytfoickaangjmnaa.Pure
open Go.RowKit Go.Proofs.Ytfoickaangjmnaa.POQueueAll Go.Proofs.Ytfoickaangjmnaa.EOQueueAll Go.Proofs.YtfoickaangjmnaaN Go.Proofs.YtfoickaangjmnaaW.PrintWords Go.Proofs.YtfoickaangjmnaaW.PrintLast
theorem qu8 {x : Int} (h : (Lit.int .u8 x).wf = true) : 0 ≤ x ∧ x < 256 := by
  simp [Lit.wf, IntKind.min, IntKind.max, IntKind.signed, IntKind.bits] at h; omega
theorem tmod_u8 {x n : Int} (h : 0 ≤ x ∧ x < 256) (hn : 0 < n) : Int.tmod (wrap64 x) n = x % n := by
  rw [w64 (by omega), Int.tmod_eq_emod_of_nonneg h.1]
theorem small_m {ls : List S34} (h : ∀ x ∈ ls, syzygylaw15_QueueAll.wf34 x) : Small (ls.map m34) := by
  intro i
  unfold rd_T36
  by_cases c : i.toNat < (ls.map m34).length
  · rw [List.getD_eq_getElem?_getD, List.getElem?_eq_getElem c, Option.getD_some, List.getElem_map]
    have hx := h _ (List.getElem_mem (by rw [List.length_map] at c; exact c : i.toNat < ls.length))
    generalize ls[i.toNat]'_ = x at hx
    obtain ⟨h0, h1, h2⟩ := hx
    unfold m34 In4
    dsimp only
    rw [tmod_u8 (qu8 h0) (by decide), tmod_u8 (qu8 h1) (by decide), tmod_u8 (qu8 h2) (by decide)]
    omega
  · rw [List.getD_eq_getElem?_getD, List.getElem?_eq_none (by omega), Option.getD_none]
    unfold In4
    decide
theorem cmpi_le {p q : Int} (h : p ≤ q) : cmpi p q ≤ 0 := by
  rcases cmpi_cases p q with ⟨e, _⟩ | ⟨e, _⟩ | ⟨e, _⟩ <;> omega
def cj (o : Int) (ms : List S36) (l : List S26) : Nat → Int × Int × Int × Int
  | 0 => (0, 0, 0, 0)
  | j + 1 => lcmv (rd_T36 ms (bestp o ms (qs o ms l j)).f0) (rd_T36 ms (bestp o ms (qs o ms l j)).f1)
theorem cj_succ (o : Int) (ms : List S36) (l : List S26) (j : Nat) : cj o ms l (j + 1) = lcmv (rd_T36 ms (bestp o ms (qs o ms l j)).f0) (rd_T36 ms (bestp o ms (qs o ms l j)).f1) := rfl
theorem cj_in {o : Int} {ms : List S36} (hs : Small ms) (l : List S26) : ∀ j : Nat, In4 40 (cj o ms l j).1 (cj o ms l j).2.1 (cj o ms l j).2.2.1 (cj o ms l j).2.2.2
  | 0 => by
    show In4 40 0 0 0 0
    unfold In4
    decide
  | j + 1 => by
    rw [cj_succ, lcmv_s hs]
    exact in40 (lcm_in (hs _) (hs _))
theorem cj_wt {o : Int} {ms : List S36} (hs : Small ms) (l : List S26) (j : Nat) : wt o (cj o ms l (j + 1)).1 (cj o ms l (j + 1)).2.1 (cj o ms l (j + 1)).2.2.1 (cj o ms l (j + 1)).2.2.2 = lw o ms (bestp o ms (qs o ms l j)) := by
  rw [cj_succ, lcmv_s hs]
  rfl
theorem all_rounds {o : Int} (ho : o = 0 ∨ o = 1 ∨ o = 2) {ms : List S36} (hs : Small ms) (hn : ms.length ≤ 24) : Rounds o ms (allp ms.length).length (qs o ms (allp ms.length)) (fun j => bestp o ms (qs o ms (allp ms.length) j)) (cj o ms (allp ms.length)) := by
  have hlen := allp_len ms.length
  have hsq : ms.length * ms.length ≤ 24 * 24 := Nat.mul_le_mul hn hn
  have hsub : ∀ j, (qs o ms (allp ms.length) j).Sublist (allp ms.length) := fun j => by
    have := qs_sub o ms (allp ms.length) 0 j
    rw [Nat.zero_add] at this
    exact this
  have hin : ∀ j, ∀ x ∈ qs o ms (allp ms.length) j, 0 ≤ x.f0 ∧ x.f0 < x.f1 ∧ x.f1 < ms.length := fun j x hx => allp_in ms.length x ((hsub j).subset hx)
  have hinp : ∀ j, ∀ x ∈ qs o ms (allp ms.length) j, InP x := fun j x hx => by have := hin j x hx; unfold InP; omega
  have hnd : ∀ j, ((qs o ms (allp ms.length) j).map tp).Nodup := fun j => (allp_nodup ms.length).sublist ((hsub j).map tp)
  have hpos : ∀ j, j < (allp ms.length).length → 0 < (qs o ms (allp ms.length) j).length := fun j hj => by have := qs_len o ms (allp ms.length) j (by omega); omega
  have hbest : ∀ j, j < (allp ms.length).length → bestp o ms (qs o ms (allp ms.length) j) ∈ qs o ms (allp ms.length) j := fun j hj => bestp_mem o ms _ (hpos j hj)
  refine ⟨rfl, fun j hj => qs_len o ms _ j hj, fun j hj => ⟨?_, hin j _ (hbest j hj), ?_, ?_, fun i hi he => ?_⟩⟩
  · have hl := qs_len o ms (allp ms.length) j (by omega)
    have hp := hpos j hj
    have hstop : stop_ o ms (qs o ms (allp ms.length) j) = false := by
      unfold stop_
      rw [if_neg (by omega), may_of (ms.length : Int) (by omega) _ [] (hin j) (hnd j) (fun p _ h => by cases h), if_neg (by decide), if_neg (by omega), decide_eq_false (by omega)]
    have := next_q o ms (qs o ms (allp ms.length) j) (by omega)
    unfold nextv at this
    rw [hstop, if_neg (by decide)] at this
    exact this
  · show some _ = some (cj o ms (allp ms.length) (j + 1))
    rw [cj_succ, lcmv_r]
  · refine ⟨_, rfl, ?_⟩
    rw [← mcmp_r, mcmp_eq ho (cj_in hs _ j) (cj_in hs _ (j + 1)), cj_wt hs]
    refine cmpi_le ?_
    cases j with
    | zero =>
      show wt o 0 0 0 0 ≤ _
      rw [wt_zero]
      exact wt_pos (lcm_in (hs _) (hs _))
    | succ i =>
      rw [cj_wt hs]
      have h1 := hbest (i + 1) hj
      have h2 : bestp o ms (qs o ms (allp ms.length) (i + 1)) ∈ qs o ms (allp ms.length) i := (qs_sub o ms (allp ms.length) i 1).subset h1
      have h3 := best_least ho hs (hpos i (by omega)) (hinp i) _ h2
      have h4 := hinp i _ h2
      have h5 := hinp i _ (hbest i (by omega))
      unfold key InP at *
      omega
  · have h1 := hbest i (by omega)
    have h2 := hbest j hj
    obtain ⟨d, rfl⟩ : ∃ d, j = (i + 1) + d := ⟨j - (i + 1), by omega⟩
    have h3 := (qs_sub o ms (allp ms.length) (i + 1) d).subset h2
    have he' : bestp o ms (qs o ms (allp ms.length) i) = bestp o ms (qs o ms (allp ms.length) (i + 1 + d)) := he
    rw [← he'] at h3
    exact erase_gone (hnd i) h1 h3
theorem QueueAll : syzygylaw15_QueueAll.Pure := by
  intro a0 ls w0 _ hw
  refine ⟨qshown, fun h24 => ?_⟩
  have ho : Int.tmod (wrap64 a0) 3 = 0 ∨ Int.tmod (wrap64 a0) 3 = 1 ∨ Int.tmod (wrap64 a0) 3 = 2 := by
    rw [tmod_u8 (qu8 w0) (by decide)]
    omega
  have hs := small_m hw
  have hml : (ls.map m34).length = ls.length := List.length_map ..
  have hbig : ∀ i : Nat, i ≤ 24 → (allp i).length ≤ 288 := fun i hi => by
    have h1 := allp_len i
    have h2 : i * i ≤ 24 * 24 := Nat.mul_le_mul hi hi
    omega
  obtain ⟨K, hK⟩ := ev_all (g := fun k i => queue_With.f k (i : Int) (allp i)) (r := fun i => allp (i + 1)) ls.length (fun i hi => by
    have := with_ev (i : Int) (allp i) (by have := hbig i (by omega); omega)
    rw [with_allp i (by omega)] at this
    exact this)
  have hR := all_rounds ho hs (by omega)
  rw [hml] at hR
  have hN := hbig ls.length h24
  have hlen := allp_len ls.length
  refine ⟨K, (allp ls.length).length, allp, _, _, _, rfl, hK K (Nat.le_refl _), ?_, rfl, by omega, ?_, hR⟩
  · unfold queue_May.f
    rw [if_pos (by omega), may_of (ls.length : Int) (by omega) _ [] (allp_in ls.length) (allp_nodup ls.length) (fun p _ h => by cases h)]
  · have e1 : wrap64 ((ls.length : Int) - 1) = (ls.length : Int) - 1 := w64 (by omega)
    have e2 : (ls.length : Int) * ((ls.length : Int) - 1) = 2 * ((allp ls.length).length : Int) := by
      have : ((2 * (allp ls.length).length + ls.length : Nat) : Int) = ((ls.length * ls.length : Nat) : Int) := by rw [hlen]
      rw [Int.natCast_mul ls.length ls.length] at this
      rw [Int.mul_sub, Int.mul_one]
      omega
    rw [e1, e2, w64 (by omega), Int.tdiv_eq_ediv_of_nonneg (by omega)]
    omega
end Go.Proofs.Ytfoickaangjmnaa.Pure
