-- Written by a program of this session (pr.py, over the kit's print.py).
import Derived.Test.YtfoickaangjmnaaPOQueueArgsx0
import Derived.Test.YtfoickaangjmnaaPOQueueArgsx1
import Derived.Test.YtfoickaangjmnaaPOQueueArgsx2
import Derived.Test.YtfoickaangjmnaaPOQueueArgsx6
import Derived.Test.YtfoickaangjmnaaPOQueueArgsx7
namespace Go.Proofs.Ytfoickaangjmnaa.POQueueArgs
open Go.RowKit Go.Proofs.YtfoickaangjmnaaN Go.Proofs.YtfoickaangjmnaaW.PrintWords Go.Proofs.YtfoickaangjmnaaW.PrintLast Go.Proofs.YtfoickaangjmnaaW.PrintMore
attribute [local go_sem] max2_int min2_int max_two min_two max_three min_three max_four min_four   -- for this text's walks alone
set_option linter.unusedVariables false
set_option linter.unusedSimpArgs false

attribute [local go_sem high] eqA26
/-! ### syzygylaw15_QueueArgs: function 5 -/
def syzygylaw15_QueueArgs.j0 : Nat → List (S36) → Int → Int → Bool → Bool → Option (Bool)
  | 0, _, _, _, _, _ => none
  | k + 1, x0, x1, x2, x3, x22 => if x22 = true then ((syzygylaw15_shown.f).bind fun t142 => (some t142)) else ((some (([(⟨x1, x2⟩ : S26)] : List (S26)) : List (S26))).bind fun y143 => (if x3 = true then (if 0 < (y143.length : Int) then (if y143.length < 8796093022208 then ((some (y143 ++ [(⟨(rd_T26 y143 0).f0, (rd_T26 y143 0).f1⟩ : S26)] : List (S26))).bind fun y147 => (if x1 ≥ 0 then (if x1 < x2 then (if x2 < (x0.length : Int) then ((queue_Next.f 1 x0 y147).bind fun bt150 => ((queue_Put.f k y147).bind fun bt157 => ((queue_May.f (x0.length : Int) y147).bind fun t159 => (if (t159 == (!x3)) = true then (if (bt150.2.2.2 == (!x3)) = true then (if x2 < 24 then (some ((bt157.2 == 0) == (!x3))) else (some ((bt157.2 == 0) == false))) else (some false)) else (some false))))) else ((queue_Next.f 1 x0 y147).bind fun bt160 => ((queue_Put.f k y147).bind fun bt167 => ((queue_May.f (x0.length : Int) y147).bind fun t169 => (if (t169 == false) = true then (if (bt160.2.2.2 == false) = true then (if x2 < 24 then (some ((bt167.2 == 0) == (!x3))) else (some ((bt167.2 == 0) == false))) else (some false)) else (some false)))))) else ((queue_Next.f 1 x0 y147).bind fun bt170 => ((queue_Put.f k y147).bind fun bt177 => ((queue_May.f (x0.length : Int) y147).bind fun t179 => (if (t179 == false) = true then (if (bt170.2.2.2 == false) = true then (some ((bt177.2 == 0) == false)) else (some false)) else (some false)))))) else ((queue_Next.f 1 x0 y147).bind fun bt180 => ((queue_Put.f k y147).bind fun bt187 => ((queue_May.f (x0.length : Int) y147).bind fun t189 => (if (t189 == false) = true then (if (bt180.2.2.2 == false) = true then (some ((bt187.2 == 0) == false)) else (some false)) else (some false))))))) else (none)) else (none)) else (if x1 ≥ 0 then (if x1 < x2 then (if x2 < (x0.length : Int) then ((queue_Next.f 1 x0 y143).bind fun bt190 => ((queue_Put.f k y143).bind fun bt197 => ((queue_May.f (x0.length : Int) y143).bind fun t199 => (if (t199 == (!x3)) = true then (if (bt190.2.2.2 == (!x3)) = true then (if 0 < (y143.length : Int) then (if (bt190.1 == ((rd_T26 y143 0).f0) && (bt190.2.1 == ((rd_T26 y143 0).f1))) = true then (if (bt190.2.2.1.length : Int) = 0 then (if x2 < 24 then (some ((bt197.2 == 0) == (!x3))) else (some ((bt197.2 == 0) == false))) else (some false)) else (some false)) else (none)) else (some false)) else (some false))))) else ((queue_Next.f 1 x0 y143).bind fun bt201 => ((queue_Put.f k y143).bind fun bt208 => ((queue_May.f (x0.length : Int) y143).bind fun t210 => (if (t210 == false) = true then (if (bt201.2.2.2 == false) = true then (if x2 < 24 then (some ((bt208.2 == 0) == (!x3))) else (some ((bt208.2 == 0) == false))) else (some false)) else (some false)))))) else ((queue_Next.f 1 x0 y143).bind fun bt211 => ((queue_Put.f k y143).bind fun bt218 => ((queue_May.f (x0.length : Int) y143).bind fun t220 => (if (t220 == false) = true then (if (bt211.2.2.2 == false) = true then (some ((bt218.2 == 0) == false)) else (some false)) else (some false)))))) else ((queue_Next.f 1 x0 y143).bind fun bt221 => ((queue_Put.f k y143).bind fun bt228 => ((queue_May.f (x0.length : Int) y143).bind fun t230 => (if (t230 == false) = true then (if (bt221.2.2.2 == false) = true then (some ((bt228.2 == 0) == false)) else (some false)) else (some false))))))))
def syzygylaw15_QueueArgs.f (k : Nat) (l0 : List (S36)) (a1 : Int) (a2 : Int) (a3 : Bool) : Option (Bool) := if (l0.length : Int) > 24 then (syzygylaw15_QueueArgs.j0 k l0 a1 a2 a3 true) else ((syzygylaw15_shown.f).bind fun t141 => (syzygylaw15_QueueArgs.j0 k l0 a1 a2 a3 (!t141)))
theorem syzygylaw15_QueueArgs.mono_l : ∀ k, (∀ y0 y1 y2 y3 y4, LeO (syzygylaw15_QueueArgs.j0 k y0 y1 y2 y3 y4) (syzygylaw15_QueueArgs.j0 (k + 1) y0 y1 y2 y3 y4))
  | 0 => fun _ _ _ _ _ r h => by simp [syzygylaw15_QueueArgs.j0] at h
  | k + 1 => by
    have ih0 := syzygylaw15_QueueArgs.mono_l k
    · intro y0 y1 y2 y3 y4
      unfold syzygylaw15_QueueArgs.j0
      repeat' first
      | (with_reducible exact ih0 _ _ _ _ _)
      | (with_reducible exact queue_Put.mono _ _)
      | (with_reducible exact LeO.refl _)
      | (with_reducible exact LeO.none _)
      | (with_reducible refine LeO.ite ?_ ?_)
      | (with_reducible refine LeO.bind ?_ (fun _ => ?_))
      | exact ih0 _ _ _ _ _
      | exact queue_Put.mono _ _
      | exact LeO.none _
      | refine LeO.ite ?_ ?_
      | refine LeO.bind ?_ (fun _ => ?_)
theorem syzygylaw15_QueueArgs.mono : ∀ a0 a1 a2 a3 k, LeO (syzygylaw15_QueueArgs.f k a0 a1 a2 a3) (syzygylaw15_QueueArgs.f (k + 1) a0 a1 a2 a3) := by
  intro a0 a1 a2 a3 k
  have ih0 := syzygylaw15_QueueArgs.mono_l k
  unfold syzygylaw15_QueueArgs.f
  repeat' first
      | (with_reducible exact ih0 _ _ _ _ _)
      | (with_reducible exact queue_Put.mono _ _)
      | (with_reducible exact LeO.refl _)
      | (with_reducible exact LeO.none _)
      | (with_reducible refine LeO.ite ?_ ?_)
      | (with_reducible refine LeO.bind ?_ (fun _ => ?_))
      | exact ih0 _ _ _ _ _
      | exact queue_Put.mono _ _
      | exact LeO.none _
      | refine LeO.ite ?_ ?_
      | refine LeO.bind ?_ (fun _ => ?_)
def syzygylaw15_QueueArgs.T9 : Bool × List (List Nat × List Nat) := (true, [([], []), ([0], [0]), ([], []), ([1, 2], [1, 2]), ([], []), ([3, 4], [3, 4]), ([5, 3], [5]), ([6], [6]), ([6], [6]), ([7, 8, 6], [6, 7, 8]), ([6, 9], [6, 9]), ([10, 6], [10]), ([11], [11]), ([12, 11], [11, 12]), ([13, 11, 11], [11, 13]), ([14], [14]), ([14], [14]), ([16, 14], [14, 16]), ([17, 14], [14, 17]), ([15, 18, 14], [14, 15, 18]), ([19, 14, 14], [14, 19]), ([20], [20]), ([21, 20], [20, 21]), ([22, 20], [20, 22]), ([20, 23, 14], [14, 20, 23]), ([14, 24, 11], [11, 14, 24]), ([11, 25], [11, 25]), ([26, 20], [26]), ([27], [27]), ([28, 27], [27, 28]), ([27], [27]), ([30, 27], [27, 30]), ([31, 27, 27], [27, 31]), ([32], [32]), ([32], [32]), ([33, 34, 32], [32, 33, 34]), ([32, 35, 27], [27, 32, 35]), ([36, 32, 27], [27, 36]), ([37], [37]), ([38, 37], [37, 38]), ([37, 39, 27], [27, 37, 39]), ([40, 37, 27], [27, 40]), ([41], [41]), ([42, 41], [41, 42]), ([41, 43, 27], [27, 41, 43]), ([29, 44, 27], [27, 29, 44]), ([27, 45], [27, 45]), ([46, 41, 0, 1, 2, 3, 4, 5, 6, 7, 8, 9, 10, 11, 12, 13, 14, 15, 16, 17, 18, 19, 20, 21, 22, 23, 24, 25, 26, 27, 28, 29, 30, 31, 32, 33, 34, 35, 36, 37, 38, 39, 40, 41, 42, 43, 44, 45, 46], [46])])
def syzygylaw15_QueueArgs.B9 : List Nat := [0, 1, 0, 7, 0, 31, 63, 127, 127, 511, 1023, 2047, 4095, 8191, 16383, 32767, 32767, 98303, 229375, 524287, 1048575, 2097151, 4194303, 8388607, 16777215, 33554431, 67108863, 134217727, 268435455, 536870911, 268435455, 1342177279, 3489660927, 7784628223, 7784628223, 33554431999, 67914170367, 136633647103, 274072600575, 548950507519, 1098706321407, 2198217949183, 4397241204735, 8795287715839, 17591380738047, 35184372088831, 70368744177663, 140737488355327]
theorem syzygylaw15_QueueArgs.tab9 : rtab .any (opsOf Try.f5 9) = syzygylaw15_QueueArgs.T9 := by kernel_rfl
theorem syzygylaw15_QueueArgs.bits9 : waitsOk syzygylaw15_QueueArgs.T9.2 syzygylaw15_QueueArgs.B9 = true := by kernel_rfl
end Go.Proofs.Ytfoickaangjmnaa.POQueueArgs
