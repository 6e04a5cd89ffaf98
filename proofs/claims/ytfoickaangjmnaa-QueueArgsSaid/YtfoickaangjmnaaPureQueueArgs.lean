/- QueueArgs: pairs that may not be have no bytes, and none of them is next. -/
import Derived.Test.YtfoickaangjmnaaOQueueArgsL
set_option linter.unusedVariables false
set_option linter.unusedSimpArgs false
namespace Go.Proofs.Ytfoickaangjmnaa.Pure
open Go.RowKit Go.Proofs.Ytfoickaangjmnaa.POQueueArgs Go.Proofs.Ytfoickaangjmnaa.EOQueueArgs Go.Proofs.YtfoickaangjmnaaN Go.Proofs.YtfoickaangjmnaaW.PrintWords Go.Proofs.YtfoickaangjmnaaW.PrintLast
theorem qshown : syzygylaw15_shown.f = some true := by decide +kernel
def nextv (o : Int) (ls : List S36) (l : List S26) : Int × Int × List S26 × Bool := if stop_ o ls l = true then (0, 0, [], false) else ((bestp o ls l).f0, (bestp o ls l).f1, l.eraseIdx (ixp l (bestp o ls l)), true)
theorem next_q (o : Int) (ls : List S36) (l : List S26) (hl : l.length < 2199023255552) : queue_Next.f o ls l = some (nextv o ls l) := by
  unfold queue_Next.f nextv
  rw [if_pos (by omega)]
theorem qput_ev (l : List S26) (hl : l.length ≤ 1000) : ∃ x : ByteArray, Ev (fun k => queue_Put.f k l) (if queue_May.go 24 [] l = true then (x, 0) else ({ data := #[] }, 1)) := by
  unfold queue_Put.f
  refine ⟨strOfNums (bytesOf (strOfNums (putB (l.length : Int))) ++ putl l), Ev.pos (by omega) ?_⟩
  cases queue_May.go 24 [] l with
  | false => exact Ev.neg (by decide) (Ev.now _)
  | true =>
    have hB : (l.length : Int) < B := by rw [B_eq]; omega
    refine Ev.pos rfl (Ev.bind (a := strOfNums (putB (l.length : Int))) ⟨9, fun k hk => put_eq (by omega) hB (by omega)⟩ ?_)
    have hw := wd_le hB
    refine Ev.pos (by rw [strOfNums_size, putB_len]; omega) ?_
    exact Ev.now _
theorem go_one (n a b : Int) (hn : 0 ≤ n ∧ n ≤ 24) : queue_May.go n [] [⟨a, b⟩] = decide (0 ≤ a ∧ a < b ∧ b < n) := by
  unfold queue_May.go
  dsimp only
  by_cases c0 : a < 0
  · rw [if_pos c0, decide_eq_false (by omega)]
  rw [if_neg c0]
  by_cases c1 : b ≤ a
  · rw [if_pos c1, decide_eq_false (by omega)]
  rw [if_neg c1, if_neg (by omega : ¬ 24 < n)]
  by_cases c2 : n ≤ b
  · rw [if_pos c2, decide_eq_false (by omega)]
  rw [if_neg c2, decide_eq_true (by omega : 0 ≤ a ∧ a < b ∧ b < n), if_neg (by simp)]
  unfold queue_May.go
  rw [decide_eq_true hn.1, decide_eq_true hn.2]
  rfl
theorem go_two (n a b : Int) (hn : 0 ≤ n ∧ n ≤ 24) : queue_May.go n [] [⟨a, b⟩, ⟨a, b⟩] = false := by
  have h24 : ¬ 24 < n := by omega
  unfold queue_May.go
  dsimp only
  by_cases c0 : a < 0
  · rw [if_pos c0]
  rw [if_neg c0]
  by_cases c1 : b ≤ a
  · rw [if_pos c1]
  rw [if_neg c1, if_neg h24]
  by_cases c2 : n ≤ b
  · rw [if_pos c2]
  rw [if_neg c2, if_neg (by simp)]
  unfold queue_May.go
  dsimp only
  rw [if_neg c0, if_neg c1, if_neg h24, if_neg c2, if_pos (by simp)]
theorem stop_one (ls : List S36) (l : List S26) (h0 : (l.length : Int) ≠ 0) : stop_ 1 ls l = !queue_May.go (ls.length : Int) [] l := by
  unfold stop_
  rw [if_neg h0]
  cases queue_May.go (ls.length : Int) [] l with
  | false => rfl
  | true => rfl
theorem args_j (ls : List S36) (a b : Int) (hl : ls.length ≤ 24) : ∀ tw : Bool, Ev (fun k => syzygylaw15_QueueArgs.j0 k ls a b tw false) true
  | true => by
    obtain ⟨x, K, hK⟩ := qput_ev [⟨a, b⟩, ⟨a, b⟩] (by simp)
    refine ⟨K + 1, fun k hk => ?_⟩
    obtain ⟨j, rfl⟩ : ∃ j, k = j + 1 := ⟨k - 1, by omega⟩
    have hP := hK j (by omega)
    dsimp only at hP
    rw [go_two 24 a b (by omega), if_neg (by decide)] at hP
    have hM : queue_May.f (ls.length : Int) [⟨a, b⟩, ⟨a, b⟩] = some false := by
      unfold queue_May.f
      rw [if_pos (by simp), go_two _ a b (by omega)]
    have hN := next_q 1 ls [⟨a, b⟩, ⟨a, b⟩] (by simp)
    unfold nextv at hN
    rw [stop_one _ _ (by simp), go_two _ a b (by omega), if_pos (by decide)] at hN
    have hr : rd_T26 [⟨a, b⟩] 0 = ⟨a, b⟩ := rfl
    simp only [syzygylaw15_QueueArgs.j0, some_bind, hr, List.cons_append, List.nil_append, hN, hP, hM]
    by_cases c0 : a ≥ 0 <;> by_cases c1 : a < b <;> by_cases c2 : b < (ls.length : Int) <;> by_cases c3 : b < 24 <;> simp [c0, c1, c2, c3]
  | false => by
    obtain ⟨x, K, hK⟩ := qput_ev [⟨a, b⟩] (by simp)
    refine ⟨K + 1, fun k hk => ?_⟩
    obtain ⟨j, rfl⟩ : ∃ j, k = j + 1 := ⟨k - 1, by omega⟩
    have hP := hK j (by omega)
    dsimp only at hP
    rw [go_one 24 a b (by omega)] at hP
    have hM : queue_May.f (ls.length : Int) [⟨a, b⟩] = some (decide (0 ≤ a ∧ a < b ∧ b < (ls.length : Int))) := by
      unfold queue_May.f
      rw [if_pos (by simp), go_one _ a b (by omega)]
    have hN := next_q 1 ls [⟨a, b⟩] (by simp)
    unfold nextv at hN
    rw [stop_one _ _ (by simp), go_one _ a b (by omega)] at hN
    have hr : rd_T26 [⟨a, b⟩] 0 = ⟨a, b⟩ := rfl
    have hb : bestp 1 ls [⟨a, b⟩] = ⟨a, b⟩ := rfl
    have hx : ixp [⟨a, b⟩] ⟨a, b⟩ = 0 := by unfold ixp; rw [List.findIdx_cons]; simp
    rw [hb, hx] at hN
    simp only [syzygylaw15_QueueArgs.j0, some_bind, hr, hN, hP, hM]
    by_cases c0 : a ≥ 0
    · by_cases c1 : a < b
      · by_cases c2 : b < (ls.length : Int)
        · have c3 : b < 24 := by omega
          have e1 : (0 ≤ a ∧ a < b ∧ b < (ls.length : Int)) := ⟨c0, c1, c2⟩
          have e2 : (0 ≤ a ∧ a < b ∧ b < 24) := ⟨c0, c1, c3⟩
          simp [c0, c1, c2, c3]
        · by_cases c3 : b < 24 <;> simp [c0, c1, c2, c3]
      · simp [c0, c1]
    · simp [c0]
theorem QueueArgs : syzygylaw15_QueueArgs.Pure := by
  intro ls a b tw _ _ _ _
  refine Ev.rounds (g := fun k => syzygylaw15_QueueArgs.f k ls a b tw) ?_
  have h1 : Ev (fun k => syzygylaw15_QueueArgs.j0 k ls a b tw true) true := Ev.step (f := fun k => syzygylaw15_shown.f.bind fun t => some t) (fun k => rfl) (Ev.bind_const qshown (Ev.now true))
  unfold syzygylaw15_QueueArgs.f
  by_cases c0 : (ls.length : Int) > 24
  · exact Ev.pos c0 h1
  · exact Ev.neg c0 (Ev.bind_const qshown (args_j ls a b (by omega) tw))
end Go.Proofs.Ytfoickaangjmnaa.Pure
