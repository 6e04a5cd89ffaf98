-- Written by a program of this session (pr.py, over the kit's print.py).
import Derived.Test.YtfoickaangjmnaaPOQueueArgsx0
import Derived.Test.YtfoickaangjmnaaPOQueueArgsx1
import Derived.Test.YtfoickaangjmnaaPOQueueArgsx2
import Derived.Test.YtfoickaangjmnaaPOQueueArgsx6
import Derived.Test.YtfoickaangjmnaaPOQueueArgsx7
import Derived.Test.YtfoickaangjmnaaPOQueueArgsx9
import Derived.Test.YtfoickaangjmnaaPOQueueArgsx10
import Derived.Test.YtfoickaangjmnaaPOQueueArgsx11
import Derived.Test.YtfoickaangjmnaaPOQueueArgsx12
namespace Go.Proofs.Ytfoickaangjmnaa.POQueueArgs
open Go.RowKit Go.Proofs.YtfoickaangjmnaaN Go.Proofs.YtfoickaangjmnaaW.PrintWords Go.Proofs.YtfoickaangjmnaaW.PrintLast Go.Proofs.YtfoickaangjmnaaW.PrintMore
attribute [local go_sem] max2_int min2_int max_two min_two max_three min_three max_four min_four   -- for this text's walks alone
set_option linter.unusedVariables false
set_option linter.unusedSimpArgs false

attribute [local go_sem high] eqA26
theorem syzygylaw15_QueueArgs.calls (k : Nat) (A0 : Option Addr) (c0 : Nat) (l0 : List (S36)) (a1 : Int) (a2 : Int) (a3 : Bool) (w : World) (hr0 : Kd.C k36 w A0 l0.length l0) (hc0 : l0.length ≤ c0) (h : syzygylaw15_QueueArgs.f k l0 a1 a2 a3 = some true) :
    Calls Try.prog 5 #[.slice A0 l0.length c0, .int .i64 a1, .int .i64 a2, .bool a3] w fun e w' => e = .returned (.bool true) ∧ Below w.heap.size w w' := by
  cases a3 with
  | true =>
    by_cases hX : a1 ≥ 0 ∧ a1 < a2 ∧ a2 < (l0.length : Int)
    · exact syzygylaw15_QueueArgs.calls_tp k A0 c0 l0 a1 a2 true w hr0 hc0 h rfl hX
    · exact syzygylaw15_QueueArgs.calls_tn k A0 c0 l0 a1 a2 true w hr0 hc0 h rfl hX
  | false =>
    by_cases hX : a1 ≥ 0 ∧ a1 < a2 ∧ a2 < (l0.length : Int)
    · exact syzygylaw15_QueueArgs.calls_fp k A0 c0 l0 a1 a2 false w hr0 hc0 h rfl hX
    · exact syzygylaw15_QueueArgs.calls_fn k A0 c0 l0 a1 a2 false w hr0 hc0 h rfl hX
/-- What is told of a parameter. -/
def syzygylaw15_QueueArgs.wf36 (x : S36) : Prop := (Lit.int .i64 x.f0).wf = true ∧ ((Lit.int .i64 x.f1).wf = true ∧ ((Lit.int .i64 x.f2).wf = true ∧ (Lit.int .i64 x.f3).wf = true))
/-- THE ONE PURE STATEMENT of syzygylaw15_QueueArgs: yours. -/
def syzygylaw15_QueueArgs.Pure : Prop := ∀ (l0 : List (S36)) (a1 : Int) (a2 : Int) (a3 : Bool), l0.length ≤ maxLen → (∀ x ∈ l0, syzygylaw15_QueueArgs.wf36 x) → (Lit.int .i64 a1).wf = true → (Lit.int .i64 a2).wf = true → ∃ k, syzygylaw15_QueueArgs.f k l0 a1 a2 a3 = some true
theorem syzygylaw15_QueueArgs.walk (P : syzygylaw15_QueueArgs.Pure) (A0 : Option Addr) (c0 : Nat) (l0 : List (S36)) (a1 : Int) (a2 : Int) (a3 : Bool) (w : World) (hr0 : Kd.C k36 w A0 l0.length l0) (hc0 : l0.length ≤ c0) (f0 : l0.length ≤ maxLen) (f1 : (∀ x ∈ l0, syzygylaw15_QueueArgs.wf36 x)) (f2 : (Lit.int .i64 a1).wf = true) (f3 : (Lit.int .i64 a2).wf = true) :
    Calls Try.prog 5 #[.slice A0 l0.length c0, .int .i64 a1, .int .i64 a2, .bool a3] w fun e w' => e = .returned (.bool true) ∧ Below w.heap.size w w' := by
  obtain ⟨k, h⟩ := P l0 a1 a2 a3 f0 f1 f2 f3
  refine (syzygylaw15_QueueArgs.calls k A0 c0 l0 a1 a2 a3 w hr0 hc0 h).mono ?_
  rintro e w' ⟨rfl, hd⟩
  exact ⟨rfl, hd⟩
end Go.Proofs.Ytfoickaangjmnaa.POQueueArgs
