-- printed (pr.py)
import Derived.Test.YtoganbmeedimiaaGreatPOPressSizesx0
namespace Go.Proofs.YtoganbmeedimiaaGreat.POPressSizes
open Go.RowKit Go.Proofs.YtoganbmeedimiaaGreatN Go.Proofs.YtoganbmeedimiaaGreatW.PrintWords Go.Proofs.YtoganbmeedimiaaGreatW.PrintLast Go.Proofs.YtoganbmeedimiaaGreatW.PrintMore
attribute [local go_sem] zU zQ zn zm vV vU zT zP
set_option maxHeartbeats 8000000
set_option maxRecDepth 100000
set_option linter.unusedVariables false
set_option linter.unusedSimpArgs false
mutual
def jO.l0 : Nat → List (List (S37)) → Int → Option (Bool)
 | 0, _, _ => none
 | k + 1, x0, x3 => if x3 < (x0.length : Int) then (if 0 ≤ x3 then (if ((jAG x0 x3).length : Int) > 80 then (some true) else (jO.l1 k x0 x3 0)) else (none)) else (some false)
def jO.l1 : Nat → List (List (S37)) → Int → Int → Option (Bool)
 | 0, _, _, _ => none
 | k + 1, x0, x3, x4 => if 0 ≤ x3 then (if x3 < (x0.length : Int) then (if x4 < ((jAG x0 x3).length : Int) then (if 0 ≤ x4 then (if (((jC (jAG x0 x3) x4).f0.f1).length : Int) > 12 then (some true) else (if (((jC (jAG x0 x3) x4).f0.f2).length : Int) > 12 then (some true) else (jO.l1 k x0 x3 (wrap64 (x4 + 1))))) else (none)) else (jO.l0 k x0 (wrap64 (x3 + 1)))) else (none)) else (none)
end
def jO.f (k : Nat) (l0 : List (List (S37))) : Option (Bool) := if (l0.length : Int) > 30 then (some true) else (jO.l0 k l0 0)
theorem jO.calls (k : Nat) (A0 : Option Addr) (c0 : Nat) (l0 : List (List (S37))) (r : Bool) (w : World) (hr0 : Kd.C (Kd.slice 37 k37) w A0 l0.length l0) (hc0 : l0.length ≤ c0) (h : jO.f k l0 = some r) :
  Calls Tryz.prog 8 #[.slice A0 l0.length c0] w fun e w' => e = .returned (.bool r) ∧ jY w w' := by
 have HR0 := jA.mk hr0
 have HC0 := jA.mk hc0
 clear hr0 hc0
 have H : (if (l0.length : Int) > 30 then (some true) else (jO.l0 k l0 0)) = some r := h
 clear h
 by_cases c2 : (l0.length : Int) > 30
 ·
  rw [if_pos c2] at H
  have c2b0 := decide_eq_true c2
  have c2b1 : decide (30 < l0.length) = true := decide_eq_true (by omega)
  clear c2
  obtain rfl := Option.some.inj H
  go_enter Tryz.func8, Tryz.ntmps8
  go_wp2
  go_ret
  exact ⟨by first | rfl | (simp; done) | (simp [*]; done), by repeat (first | exact jY.refl _ | apply jY.step)⟩
 rw [if_neg c2] at H
 have c2b0 := decide_eq_false c2
 have c2b1 : decide (30 < l0.length) = false := decide_eq_false (by omega)
 clear c2
 have H' := jA.mk H
 clear H
 go_enter Tryz.func8, Tryz.ntmps8
 go_wp2
 go_loopg [3] k (fun kq v3 w' => ∃ (x3_1 : Int), v3 = .int .i64 x3_1 ∧ jA (jO.l0 kq l0 x3_1 = some r) ∧ jA (kq ≤ k) ∧ jY w w')
 case atStart => exact ⟨(0), sd_, H', ⟨Nat.le_refl _⟩, by repeat (first | exact jY.refl _ | apply jY.step)⟩
 case round =>
  clear H'
  try clear c2
  try clear c2b0
  try clear c2b1
  try clear p2
  obtain ⟨x3_1, rfl, HA, HK1, ⟨m1, rfl⟩⟩ := hrel
  cases gk with
  | zero => exact absurd HA.out (by simp [jO.l0])
  | succ k1 =>
   have H := HA.out
   clear HA
   simp only [jO.l0] at H
   by_cases c3 : x3_1 < (l0.length : Int)
   rotate_left
   ·
    rw [if_neg c3] at H
    have c3b0 := decide_eq_false c3
    clear c3
    obtain rfl := Option.some.inj H
    go_wp2
    go_ret
    exact ⟨by first | rfl | (simp; done) | (simp [*]; done), by repeat (first | exact jY.refl _ | apply jY.step)⟩
   rw [if_pos c3] at H
   have c3b0 := decide_eq_true c3
   clear c3
   by_cases c4 : 0 ≤ x3_1
   rotate_left
   ·
    rw [if_neg c4] at H
    exact absurd H (by simp)
   rw [if_pos c4] at H
   have c4b0 := decide_eq_true c4
   clear c4
   by_cases c5 : ((jAG l0 x3_1).length : Int) > 80
   ·
    rw [if_pos c5] at H
    have c5b0 := decide_eq_true c5
    have c5b1 : decide (80 < (jAG l0 x3_1).length) = true := decide_eq_true (by omega)
    clear c5
    obtain rfl := Option.some.inj H
    have p101 : 0 ≤ (x3_1 : Int) := of_decide_eq_true am_
    have q101 : x3_1 < (l0.length : Int) := of_decide_eq_true am_
    obtain ⟨ad101, A101_0, c101_0, e101, hx101_0, hl101_0, hi101_0⟩ := jDG HR0.out x3_1 p101 q101
    cases e101
    have HR101_0 := jA.mk hi101_0
    have HC101_0 := jA.mk hl101_0
    clear hi101_0 hl101_0
    replace p101 := eq_true p101
    replace q101 := eq_true q101
    go_wp2
    go_ret
    exact ⟨by first | rfl | (simp; done) | (simp [*]; done), by repeat (first | exact jY.refl _ | apply jY.step)⟩
   rw [if_neg c5] at H
   have c5b0 := decide_eq_false c5
   have c5b1 : decide (80 < (jAG l0 x3_1).length) = false := decide_eq_false (by omega)
   clear c5
   have H' := jA.mk H
   clear H
   have p101 : 0 ≤ (x3_1 : Int) := of_decide_eq_true am_
   have q101 : x3_1 < (l0.length : Int) := of_decide_eq_true am_
   obtain ⟨ad101, A101_0, c101_0, e101, hx101_0, hl101_0, hi101_0⟩ := jDG HR0.out x3_1 p101 q101
   cases e101
   have HR101_0 := jA.mk hi101_0
   have HC101_0 := jA.mk hl101_0
   clear hi101_0 hl101_0
   replace p101 := eq_true p101
   replace q101 := eq_true q101
   go_wp2
   go_loopg [4] k1 (fun kq v4 w' => ∃ (x4_2 : Int), v4 = .int .i64 x4_2 ∧ jA (jO.l1 kq l0 x3_1 x4_2 = some r) ∧ jA (kq ≤ k1) ∧ jY w w')
   case atStart => exact ⟨(0), sd_, H', ⟨Nat.le_refl _⟩, by repeat (first | exact jY.refl _ | apply jY.step)⟩
   case round =>
    clear H'
    try clear c1
    try clear p1
    try clear q1
    try clear hx1
    try clear c2
    try clear c2b0
    try clear c2b1
    try clear p2
    try clear c3
    try clear c3b0
    try clear c4
    try clear c4b0
    try clear c5
    try clear c5b0
    try clear c5b1
    try clear hx101_0
    try clear p101
    try clear p2
    try clear q101
    obtain ⟨x4_2, rfl, HA, HK2, ⟨m2, rfl⟩⟩ := hrel
    cases gk with
    | zero => exact absurd HA.out (by simp [jO.l1])
    | succ k2 =>
     have H := HA.out
     clear HA
     simp only [jO.l1] at H
     by_cases c6 : 0 ≤ x3_1
     rotate_left
     ·
      rw [if_neg c6] at H
      exact absurd H (by simp)
     rw [if_pos c6] at H
     have c6b0 := decide_eq_true c6
     clear c6
     by_cases c7 : x3_1 < (l0.length : Int)
     rotate_left
     ·
      rw [if_neg c7] at H
      exact absurd H (by simp)
     rw [if_pos c7] at H
     have c7b0 := decide_eq_true c7
     clear c7
     by_cases c8 : x4_2 < ((jAG l0 x3_1).length : Int)
     rotate_left
     ·
      rw [if_neg c8] at H
      have c8b0 := decide_eq_false c8
      clear c8
      have H' := jA.mk H
      clear H
      have p102 : 0 ≤ (x3_1 : Int) := of_decide_eq_true am_
      have q102 : x3_1 < (l0.length : Int) := of_decide_eq_true am_
      obtain ⟨ad102, A102_0, c102_0, e102, hx102_0, hl102_0, hi102_0⟩ := jDG HR0.out x3_1 p102 q102
      obtain rfl : ad101 = ad102 := (by injection e102)
      have HR102_0 := jA.mk hi102_0
      have HC102_0 := jA.mk hl102_0
      clear hi102_0 hl102_0
      replace p102 := eq_true p102
      replace q102 := eq_true q102
      go_wp2
      go_roundg k2
      case measure => have := HK1.out; have := HK2.out; omega
      case rel => exact ⟨(wrap64 (x3_1 + 1)), sd_, H', ⟨by have := HK1.out; have := HK2.out; omega⟩, by repeat (first | exact jY.refl _ | apply jY.step)⟩
     rw [if_pos c8] at H
     have c8b0 := decide_eq_true c8
     clear c8
     by_cases c9 : 0 ≤ x4_2
     rotate_left
     ·
      rw [if_neg c9] at H
      exact absurd H (by simp)
     rw [if_pos c9] at H
     have c9b0 := decide_eq_true c9
     clear c9
     by_cases c10 : (((jC (jAG l0 x3_1) x4_2).f0.f1).length : Int) > 12
     ·
      rw [if_pos c10] at H
      have c10b0 := decide_eq_true c10
      have c10b1 : decide (12 < ((jC (jAG l0 x3_1) x4_2).f0.f1).length) = true := decide_eq_true (by omega)
      clear c10
      obtain rfl := Option.some.inj H
      have p102 : 0 ≤ (x3_1 : Int) := of_decide_eq_true am_
      have q102 : x3_1 < (l0.length : Int) := of_decide_eq_true am_
      obtain ⟨ad102, A102_0, c102_0, e102, hx102_0, hl102_0, hi102_0⟩ := jDG HR0.out x3_1 p102 q102
      obtain rfl : ad101 = ad102 := (by injection e102)
      have HR102_0 := jA.mk hi102_0
      have HC102_0 := jA.mk hl102_0
      clear hi102_0 hl102_0
      replace p102 := eq_true p102
      replace q102 := eq_true q102
      have p103 : 0 ≤ (x3_1 : Int) := of_decide_eq_true am_
      have q103 : x3_1 < (l0.length : Int) := of_decide_eq_true am_
      obtain ⟨ad103, A103_0, c103_0, e103, hx103_0, hl103_0, hi103_0⟩ := jDG HR0.out x3_1 p103 q103
      obtain rfl : ad101 = ad103 := (by injection e103)
      have HR103_0 := jA.mk hi103_0
      have HC103_0 := jA.mk hl103_0
      clear hi103_0 hl103_0
      replace p103 := eq_true p103
      replace q103 := eq_true q103
      have ea_ := Option.some.inj (hx102_0.symm.trans hx103_0)
      injection ea_ with ea_ en_ ec_
      subst ea_
      subst ec_
      clear en_
      have p104 : 0 ≤ (x4_2 : Int) := of_decide_eq_true am_
      have q104 : x4_2 < ((jAG l0 x3_1).length : Int) := of_decide_eq_true am_
      obtain ⟨ad104, A104_1, c104_1, A104_2, c104_2, e104, hx104_0, hx104_1, hx104_2, hx104_3, hx104_4, hx104_5, hx104_6, hl104_1, hi104_1, hl104_2, hi104_2⟩ := jAQ HR103_0.out x4_2 p104 q104
      cases e104
      have HR104_1 := jA.mk hi104_1
      have HC104_1 := jA.mk hl104_1
      clear hi104_1 hl104_1
      have HR104_2 := jA.mk hi104_2
      have HC104_2 := jA.mk hl104_2
      clear hi104_2 hl104_2
      replace p104 := eq_true p104
      replace q104 := eq_true q104
      go_wp2
      go_ret
      exact ⟨by first | rfl | (simp; done) | (simp [*]; done), by repeat (first | exact jY.refl _ | apply jY.step)⟩
     rw [if_neg c10] at H
     have c10b0 := decide_eq_false c10
     have c10b1 : decide (12 < ((jC (jAG l0 x3_1) x4_2).f0.f1).length) = false := decide_eq_false (by omega)
     clear c10
     by_cases c11 : (((jC (jAG l0 x3_1) x4_2).f0.f2).length : Int) > 12
     ·
      rw [if_pos c11] at H
      have c11b0 := decide_eq_true c11
      have c11b1 : decide (12 < ((jC (jAG l0 x3_1) x4_2).f0.f2).length) = true := decide_eq_true (by omega)
      clear c11
      obtain rfl := Option.some.inj H
      have p102 : 0 ≤ (x3_1 : Int) := of_decide_eq_true am_
      have q102 : x3_1 < (l0.length : Int) := of_decide_eq_true am_
      obtain ⟨ad102, A102_0, c102_0, e102, hx102_0, hl102_0, hi102_0⟩ := jDG HR0.out x3_1 p102 q102
      obtain rfl : ad101 = ad102 := (by injection e102)
      have HR102_0 := jA.mk hi102_0
      have HC102_0 := jA.mk hl102_0
      clear hi102_0 hl102_0
      replace p102 := eq_true p102
      replace q102 := eq_true q102
      have p103 : 0 ≤ (x3_1 : Int) := of_decide_eq_true am_
      have q103 : x3_1 < (l0.length : Int) := of_decide_eq_true am_
      obtain ⟨ad103, A103_0, c103_0, e103, hx103_0, hl103_0, hi103_0⟩ := jDG HR0.out x3_1 p103 q103
      obtain rfl : ad101 = ad103 := (by injection e103)
      have HR103_0 := jA.mk hi103_0
      have HC103_0 := jA.mk hl103_0
      clear hi103_0 hl103_0
      replace p103 := eq_true p103
      replace q103 := eq_true q103
      have ea_ := Option.some.inj (hx102_0.symm.trans hx103_0)
      injection ea_ with ea_ en_ ec_
      subst ea_
      subst ec_
      clear en_
      have p104 : 0 ≤ (x4_2 : Int) := of_decide_eq_true am_
      have q104 : x4_2 < ((jAG l0 x3_1).length : Int) := of_decide_eq_true am_
      obtain ⟨ad104, A104_1, c104_1, A104_2, c104_2, e104, hx104_0, hx104_1, hx104_2, hx104_3, hx104_4, hx104_5, hx104_6, hl104_1, hi104_1, hl104_2, hi104_2⟩ := jAQ HR103_0.out x4_2 p104 q104
      cases e104
      have HR104_1 := jA.mk hi104_1
      have HC104_1 := jA.mk hl104_1
      clear hi104_1 hl104_1
      have HR104_2 := jA.mk hi104_2
      have HC104_2 := jA.mk hl104_2
      clear hi104_2 hl104_2
      replace p104 := eq_true p104
      replace q104 := eq_true q104
      have p105 : 0 ≤ (x3_1 : Int) := of_decide_eq_true am_
      have q105 : x3_1 < (l0.length : Int) := of_decide_eq_true am_
      obtain ⟨ad105, A105_0, c105_0, e105, hx105_0, hl105_0, hi105_0⟩ := jDG HR0.out x3_1 p105 q105
      obtain rfl : ad101 = ad105 := (by injection e105)
      have HR105_0 := jA.mk hi105_0
      have HC105_0 := jA.mk hl105_0
      clear hi105_0 hl105_0
      replace p105 := eq_true p105
      replace q105 := eq_true q105
      have ea_ := Option.some.inj (hx102_0.symm.trans hx105_0)
      injection ea_ with ea_ en_ ec_
      subst ea_
      subst ec_
      clear en_
      have p106 : 0 ≤ (x4_2 : Int) := of_decide_eq_true am_
      have q106 : x4_2 < ((jAG l0 x3_1).length : Int) := of_decide_eq_true am_
      obtain ⟨ad106, A106_1, c106_1, A106_2, c106_2, e106, hx106_0, hx106_1, hx106_2, hx106_3, hx106_4, hx106_5, hx106_6, hl106_1, hi106_1, hl106_2, hi106_2⟩ := jAQ HR105_0.out x4_2 p106 q106
      cases e106
      have HR106_1 := jA.mk hi106_1
      have HC106_1 := jA.mk hl106_1
      clear hi106_1 hl106_1
      have HR106_2 := jA.mk hi106_2
      have HC106_2 := jA.mk hl106_2
      clear hi106_2 hl106_2
      replace p106 := eq_true p106
      replace q106 := eq_true q106
      go_wp2
      go_ret
      exact ⟨by first | rfl | (simp; done) | (simp [*]; done), by repeat (first | exact jY.refl _ | apply jY.step)⟩
     rw [if_neg c11] at H
     have c11b0 := decide_eq_false c11
     have c11b1 : decide (12 < ((jC (jAG l0 x3_1) x4_2).f0.f2).length) = false := decide_eq_false (by omega)
     clear c11
     have H' := jA.mk H
     clear H
     have p102 : 0 ≤ (x3_1 : Int) := of_decide_eq_true am_
     have q102 : x3_1 < (l0.length : Int) := of_decide_eq_true am_
     obtain ⟨ad102, A102_0, c102_0, e102, hx102_0, hl102_0, hi102_0⟩ := jDG HR0.out x3_1 p102 q102
     obtain rfl : ad101 = ad102 := (by injection e102)
     have HR102_0 := jA.mk hi102_0
     have HC102_0 := jA.mk hl102_0
     clear hi102_0 hl102_0
     replace p102 := eq_true p102
     replace q102 := eq_true q102
     have p103 : 0 ≤ (x3_1 : Int) := of_decide_eq_true am_
     have q103 : x3_1 < (l0.length : Int) := of_decide_eq_true am_
     obtain ⟨ad103, A103_0, c103_0, e103, hx103_0, hl103_0, hi103_0⟩ := jDG HR0.out x3_1 p103 q103
     obtain rfl : ad101 = ad103 := (by injection e103)
     have HR103_0 := jA.mk hi103_0
     have HC103_0 := jA.mk hl103_0
     clear hi103_0 hl103_0
     replace p103 := eq_true p103
     replace q103 := eq_true q103
     have ea_ := Option.some.inj (hx102_0.symm.trans hx103_0)
     injection ea_ with ea_ en_ ec_
     subst ea_
     subst ec_
     clear en_
     have p104 : 0 ≤ (x4_2 : Int) := of_decide_eq_true am_
     have q104 : x4_2 < ((jAG l0 x3_1).length : Int) := of_decide_eq_true am_
     obtain ⟨ad104, A104_1, c104_1, A104_2, c104_2, e104, hx104_0, hx104_1, hx104_2, hx104_3, hx104_4, hx104_5, hx104_6, hl104_1, hi104_1, hl104_2, hi104_2⟩ := jAQ HR103_0.out x4_2 p104 q104
     cases e104
     have HR104_1 := jA.mk hi104_1
     have HC104_1 := jA.mk hl104_1
     clear hi104_1 hl104_1
     have HR104_2 := jA.mk hi104_2
     have HC104_2 := jA.mk hl104_2
     clear hi104_2 hl104_2
     replace p104 := eq_true p104
     replace q104 := eq_true q104
     have p105 : 0 ≤ (x3_1 : Int) := of_decide_eq_true am_
     have q105 : x3_1 < (l0.length : Int) := of_decide_eq_true am_
     obtain ⟨ad105, A105_0, c105_0, e105, hx105_0, hl105_0, hi105_0⟩ := jDG HR0.out x3_1 p105 q105
     obtain rfl : ad101 = ad105 := (by injection e105)
     have HR105_0 := jA.mk hi105_0
     have HC105_0 := jA.mk hl105_0
     clear hi105_0 hl105_0
     replace p105 := eq_true p105
     replace q105 := eq_true q105
     have ea_ := Option.some.inj (hx102_0.symm.trans hx105_0)
     injection ea_ with ea_ en_ ec_
     subst ea_
     subst ec_
     clear en_
     have p106 : 0 ≤ (x4_2 : Int) := of_decide_eq_true am_
     have q106 : x4_2 < ((jAG l0 x3_1).length : Int) := of_decide_eq_true am_
     obtain ⟨ad106, A106_1, c106_1, A106_2, c106_2, e106, hx106_0, hx106_1, hx106_2, hx106_3, hx106_4, hx106_5, hx106_6, hl106_1, hi106_1, hl106_2, hi106_2⟩ := jAQ HR105_0.out x4_2 p106 q106
     cases e106
     have HR106_1 := jA.mk hi106_1
     have HC106_1 := jA.mk hl106_1
     clear hi106_1 hl106_1
     have HR106_2 := jA.mk hi106_2
     have HC106_2 := jA.mk hl106_2
     clear hi106_2 hl106_2
     replace p106 := eq_true p106
     replace q106 := eq_true q106
     go_wp2
     go_roundg k2
     case measure => have := HK1.out; have := HK2.out; omega
     case rel => exact ⟨(wrap64 (x4_2 + 1)), sd_, H', ⟨by have := HK1.out; have := HK2.out; omega⟩, by repeat (first | exact jY.refl _ | apply jY.step)⟩
def bits_Len64.f (a0 : Int) : Option Int := if 0 ≤ a0 ∧ a0 < B then some (Lib.bitLen a0.toNat) else none
theorem bits_Len64.calls (a0 : Int) (r : Int) (w : World) (h : bits_Len64.f a0 = some r) :
  Calls Tryz.prog 86 #[.int .u64 a0] w fun e w' => e = .returned (.int .i64 r) ∧ Below w.heap.size w w' := by
 unfold bits_Len64.f at h
 by_cases hc : 0 ≤ a0 ∧ a0 < B
 rotate_left
 ·
  rw [if_neg hc] at h; cases h
 rw [if_pos hc] at h
 cases h
 exact (Go.Proofs.YtoganbmeedimiaaGreat.Len64.calls_ a0 w hc.1 (by have := hc.2; rw [B_eq] at this; omega)).mono fun e w' ⟨he, hw⟩ => ⟨he, by rw [hw]; exact Below.refl _ _⟩
def jX.l0 : Nat → Int → Int → List Int → Int → Int → Option (ByteArray)
 | 0, _, _, _, _, _ => none
 | k + 1, x0, x1, x5, x10, x11 => if x11 < x10 then (if 0 ≤ (wrap64 (8 * x11)) then (if 0 ≤ (wrap64 ((wrap64 (x1 - 1)) - x11)) then (if (wrap64 ((wrap64 (x1 - 1)) - x11)) < (x5.length : Int) then (jX.l0 k x0 x1 (x5.set ((wrap64 ((wrap64 (x1 - 1)) - x11)) : Int).toNat ((shr .u64 x0 (wrap64 (8 * x11))) % 256)) x10 (wrap64 (x11 + 1))) else (none)) else (none)) else (none)) else (some (strOfNums x5))
def jX.f (k : Nat) (a0 : Int) (a1 : Int) : Option (ByteArray) := if 0 ≤ a1 then (if (a1 : Int).toNat ≤ 281474976710656 then ((some (List.replicate (a1 : Int).toNat 0 : List Int)).bind fun y107 => (jX.l0 k a0 a1 y107 (y107.length : Int) 0)) else (none)) else (none)
theorem jX.calls (k : Nat) (a0 : Int) (a1 : Int) (r : ByteArray) (w : World) (h : jX.f k a0 a1 = some r) :
  Calls Tryz.prog 87 #[.int .u64 a0, .int .i64 a1] w fun e w' => e = .returned (.string r) ∧ Below w.heap.size w w' := by
 have HB := jA.mk (Below.refl w.heap.size w)
 have H : (if 0 ≤ a1 then (if (a1 : Int).toNat ≤ 281474976710656 then ((some (List.replicate (a1 : Int).toNat 0 : List Int)).bind fun y107 => (jX.l0 k a0 a1 y107 (y107.length : Int) 0)) else (none)) else (none)) = some r := h
 clear h
 by_cases c3 : 0 ≤ a1
 rotate_left
 ·
  rw [if_neg c3] at H
  exact absurd H (by simp)
 rw [if_pos c3] at H
 have c3b0 := eq_true c3
 have c3b1 := decide_eq_true c3
 clear c3
 by_cases c4 : (a1 : Int).toNat ≤ 281474976710656
 rotate_left
 ·
  rw [if_neg c4] at H
  exact absurd H (by simp)
 rw [if_pos c4] at H
 have c4b0 := eq_true c4
 have c4b1 := decide_eq_true c4
 clear c4
 obtain ⟨y107, hy107⟩ : ∃ y_ : List Int, y_ = (List.replicate (a1 : Int).toNat 0) := ⟨_, rfl⟩
 replace H : (jX.l0 k a0 a1 y107 (y107.length : Int) 0) = some r := by first | (rw [hy107]; with_reducible exact H) | (have H2_ := (Option.bind_some _ _).symm.trans H; rw [hy107]; with_reducible exact H2_) | (with_reducible exact hs_ H) | with_reducible exact H | (rw [hy107]; exact H) | exact H
 have Ny107 := jA.mk hy107
 clear hy107
 have H' := jA.mk H
 clear H
 go_enter Tryz.func87, Tryz.ntmps87
 go_wp2_with (first | ((with_reducible refine ji (N := 8) rfl ?_); refine Kd.jHJ (Kd.int .u8) _ 5 rfl (N := 8) rfl 58 _ _ rfl a1 rfl rfl Tryz.underlying58 (.int .u8 0) 1 info5 rfl (by decide) (by omega) 0 (ok := fun _ => True) (okp := fun _ => True) rfl (fun _ hk => hk) trivial (of_decide_eq_true am_) (Nat.le_trans (Nat.mul_le_mul_right _ (of_decide_eq_true am_ : a1.toNat ≤ 281474976710656)) (by omega)) (Below.refl _ _) (Nat.le_refl _) ?_; intro v108 w5 ho6 hb hg_ hnew_; clear hg_ hnew_; (first | rw [← Ny107.out] at ho6 | (simp only [Int.reduceToNat] at ho6; rw [← Ny107.out] at ho6)); have HO109 := jA.mk (Kd.jw ho6 (jD (bb_ HB))); replace HB := bs_ HB hb; clear hb ho6; obtain ⟨Ao7, co7, rfl⟩ := Kd.vI HO109.out))
 go_loopg [11] k (fun kq v11 w' => ∃ (x5_1 : List Int) (x11_1 : Int), v11 = .int .i64 x11_1 ∧ jA (jX.l0 kq a0 a1 x5_1 (y107.length : Int) x11_1 = some r) ∧ jA (kq ≤ k) ∧ jA (Kd.R (Kd.int .u8) 5 w' w.heap.size (fun _ => True) (.slice Ao7 y107.length co7) x5_1) ∧ jA (Below w.heap.size w w'))
 case atStart => exact ⟨(y107), (0), sd_, H', ⟨Nat.le_refl _⟩, ⟨(rR_ HO109)⟩, ⟨(bb_ HB)⟩⟩
 case round =>
  clear H'
  try clear p2
  try clear c3
  try clear c3b0
  try clear c3b1
  try clear c4
  try clear c4b0
  try clear c4b1
  obtain ⟨x5_1, x11_1, rfl, HA, HK1, HO_5, HB⟩ := hrel
  have hl5_1 := (Kd.jT HO_5.out).1
  rw [hl5_1] at HO_5
  (try simp only [hl5_1])
  cases gk with
  | zero => exact absurd HA.out (by simp [jX.l0])
  | succ k1 =>
   have H := HA.out
   clear HA
   simp only [jX.l0] at H
   by_cases c8 : x11_1 < (y107.length : Int)
   rotate_left
   ·
    rw [if_neg c8] at H
    have c8b0 := decide_eq_false c8
    (try simp only [hl5_1] at c8b0)
    clear c8
    obtain rfl := Option.some.inj H
    have hcv18 := jAL (P := Tryz.prog) Tryz.underlying58 Tryz.underlying5 Tryz.underlying9 (Kd.jAI HO_5.out)
    go_wp2
    go_ret
    exact ⟨ew_, (bb_ HB)⟩
   rw [if_pos c8] at H
   have c8b0 := decide_eq_true c8
   (try simp only [hl5_1] at c8b0)
   clear c8
   obtain ⟨ji9, hji9⟩ : ∃ j_ : Int, (wrap64 (8 * x11_1)) = j_ := ⟨_, rfl⟩
   replace H : (if 0 ≤ (ji9) then (if 0 ≤ (wrap64 ((wrap64 (a1 - 1)) - x11_1)) then (if (wrap64 ((wrap64 (a1 - 1)) - x11_1)) < (x5_1.length : Int) then (jX.l0 k1 a0 a1 (x5_1.set ((wrap64 ((wrap64 (a1 - 1)) - x11_1)) : Int).toNat ((shr .u64 a0 (ji9)) % 256)) (y107.length : Int) (wrap64 (x11_1 + 1))) else (none)) else (none)) else (none)) = some r := by first | (rw [hji9] at H; exact H) | (simp only [hji9] at H ⊢; exact H)
   have hji9w : (IntKind.i64.wrap (8 * x11_1)) = ji9 := (jv _).trans hji9
   by_cases c10 : 0 ≤ (ji9)
   rotate_left
   ·
    rw [if_neg c10] at H
    exact absurd H (by simp)
   rw [if_pos c10] at H
   have c10b0 := eq_true c10
   have c10b1 := decide_eq_true c10
   clear c10
   obtain ⟨ji11, hji11⟩ : ∃ j_ : Int, (shr .u64 a0 (ji9)) = j_ := ⟨_, rfl⟩
   replace H : (if 0 ≤ (wrap64 ((wrap64 (a1 - 1)) - x11_1)) then (if (wrap64 ((wrap64 (a1 - 1)) - x11_1)) < (x5_1.length : Int) then (jX.l0 k1 a0 a1 (x5_1.set ((wrap64 ((wrap64 (a1 - 1)) - x11_1)) : Int).toNat ((ji11) % 256)) (y107.length : Int) (wrap64 (x11_1 + 1))) else (none)) else (none)) = some r := by first | (rw [hji11] at H; exact H) | (simp only [hji11] at H ⊢; exact H)
   have hji11_ : (a0 / 2 ^ min (ji9).toNat 64) = ji11 := hji11
   have hji11z : (ji9) ≤ 64 → (a0 / 2 ^ (ji9).toNat) = ji11 := jAX hji11
   obtain ⟨ji12, hji12⟩ : ∃ j_ : Int, (wrap64 ((wrap64 (a1 - 1)) - x11_1)) = j_ := ⟨_, rfl⟩
   replace H : (if 0 ≤ (ji12) then (if (ji12) < (x5_1.length : Int) then (jX.l0 k1 a0 a1 (x5_1.set ((ji12) : Int).toNat ((ji11) % 256)) (y107.length : Int) (wrap64 (x11_1 + 1))) else (none)) else (none)) = some r := by first | (rw [hji12] at H; exact H) | (simp only [hji12] at H ⊢; exact H)
   have hji12w : (IntKind.i64.wrap ((wrap64 (a1 - 1)) - x11_1)) = ji12 := (jv _).trans hji12
   by_cases c13 : 0 ≤ (ji12)
   rotate_left
   ·
    rw [if_neg c13] at H
    exact absurd H (by simp)
   rw [if_pos c13] at H
   have c13b0 := decide_eq_true c13
   clear c13
   by_cases c14 : (ji12) < (x5_1.length : Int)
   rotate_left
   ·
    rw [if_neg c14] at H
    exact absurd H (by simp)
   rw [if_pos c14] at H
   have c14b0 := decide_eq_true c14
   (try simp only [hl5_1] at c14b0)
   clear c14
   obtain ⟨y110, hy110⟩ : ∃ y_ : List Int, y_ = (x5_1.set ((ji12) : Int).toNat ((ji11) % 256)) := ⟨_, rfl⟩
   replace H : (jX.l0 k1 a0 a1 y110 (y107.length : Int) (wrap64 (x11_1 + 1))) = some r := by first | (rw [hy110]; with_reducible exact H) | (have H2_ := (Option.bind_some _ _).symm.trans H; rw [hy110]; with_reducible exact H2_) | (with_reducible exact hs_ H) | with_reducible exact H | (rw [hy110]; exact H) | exact H
   have Ny110 := jA.mk hy110
   clear hy110
   have H' := jA.mk H
   clear H
   have p15 : 0 ≤ ((ji12) : Int) := of_decide_eq_true am_
   have q15 : ((ji12) : Int) < ((x5_1.length : Int) : Int) := of_decide_eq_true am_
   obtain ⟨go15, co15, eo15, gb15, gl15, cl15, HG15⟩ := Kd.jAU HO_5.out (by omega)
   (first | cases eo15 | (injection eo15 with ea_ en_ ec_; (first | subst ea_ | (injection ea_ with ea_; subst ea_)); subst ec_; clear en_))
   have GB15 := jA.mk gb15
   have GG15 := jA.mk HG15
   clear gb15 gl15 HG15
   obtain ⟨hx15_0, hf15_0⟩ := Kd.qF 0 HO_5.out ((ji12) : Int) p15 q15
   replace p15 := eq_true p15
   replace q15 := eq_true q15
   have HP16 := Kd.jBv HO_5.out ((ji12) : Int) ((ji11) % 256)
   go_wp2_with (first | ((with_reducible refine qd (t := 5) (p := 24) rfl ?_); refine qE (t := 5) (p := 24) (v := ?vo_w17) (w1 := (wr.setCell ⟨go15, ((ji12) : Int).toNat, none⟩ (.int .u8 ((ji11) % 256)))) ?hg ?ho ?hn ?hr ?_; (case ho => rfl); (case hg => rfl); (case hn => rfl); (case hr => exact gs_); intro w17 hw; have hg : wr.grownBy w17 (some go15) := (by rw [hw]; exact HP16.2); have hp_ : Kd.R (Kd.int .u8) 5 w17 w.heap.size (fun _ => True) (.slice (some ⟨go15, 0, none⟩) x5_1.length co7) y110 := (by rw [hw, Ny110.out]; exact HP16.1); clear HP16; replace HO_5 := jA.mk (hp_); replace HB := jA.mk ((by rw [hw]; exact vO (HB.out) GB15.out : Below w.heap.size w w17)); clear hg hw hp_))
   (try simp only [← hl5_1])
   go_roundg k1
   case measure => have := HK1.out; omega
   case rel => exact ⟨(y110), (wrap64 (x11_1 + 1)), sd_, H', ⟨by have := HK1.out; omega⟩, ⟨by (try simp only [hl5_1]); refine pR_ ?_; exact HO_5.out⟩, ⟨(bb_ HB)⟩⟩
def vL.f (k : Nat) (a0 : Int) : Option (ByteArray) := (bits_Len64.f a0).bind fun t111 => ((some (([(wrap64 (Int.tdiv (wrap64 (t111 + 7)) 8)) % 256] : List Int) : List Int)).bind fun y112 => ((jX.f k a0 (wrap64 (Int.tdiv (wrap64 (t111 + 7)) 8))).bind fun t115 => (if (strOfNums y112).size + t115.size ≤ 9223372036854775807 then (some ((strOfNums y112) ++ t115)) else (none))))
def vL.T2 : Bool × List (List Nat × List Nat) := (true, [([], []), ([0], [0]), ([1], [1]), ([2], [2]), ([], []), ([], []), ([4, 5], [4, 5]), ([3, 6], [3, 6]), ([7, 6, 0, 1, 2, 3, 4, 5, 6, 7], [7])])
def vL.B2 : List Nat := [0, 1, 3, 7, 0, 0, 48, 127, 255]
theorem vL.tab2 : rtab .any (opsOf Tryz.f49 2) = vL.T2 := by kernel_rfl
theorem vL.jOT : jAs vL.T2.2 vL.B2 = true := by kernel_rfl
theorem vL.calls (k : Nat) (a0 : Int) (r : ByteArray) (w : World) (h : vL.f k a0 = some r) :
  Calls Tryz.prog 49 #[.int .u64 a0] w fun e w' => e = .returned (.string r) ∧ Below w.heap.size w w' := by
 have HB := jA.mk (Below.refl w.heap.size w)
 have H : ((bits_Len64.f a0).bind fun t111 => ((some (([(wrap64 (Int.tdiv (wrap64 (t111 + 7)) 8)) % 256] : List Int) : List Int)).bind fun y112 => ((jX.f k a0 (wrap64 (Int.tdiv (wrap64 (t111 + 7)) 8))).bind fun t115 => (if (strOfNums y112).size + t115.size ≤ 9223372036854775807 then (some ((strOfNums y112) ++ t115)) else (none))))) = some r := h
 clear h
 obtain ⟨t111, A2, H⟩ := oc_ H
 try dsimp only at H
 obtain ⟨y112, hy112⟩ : ∃ y_ : List Int, y_ = (([(wrap64 (Int.tdiv (wrap64 (t111 + 7)) 8)) % 256] : List Int)) := ⟨_, rfl⟩
 replace H : ((jX.f k a0 (wrap64 (Int.tdiv (wrap64 (t111 + 7)) 8))).bind fun t115 => (if (strOfNums y112).size + t115.size ≤ 9223372036854775807 then (some ((strOfNums y112) ++ t115)) else (none))) = some r := by first | (rw [hy112]; with_reducible exact H) | (have H2_ := (Option.bind_some _ _).symm.trans H; rw [hy112]; with_reducible exact H2_) | (with_reducible exact hs_ H) | with_reducible exact H | (rw [hy112]; exact H) | exact H
 have Ny112 := jA.mk hy112
 clear hy112
 obtain ⟨t115, A3, H⟩ := oc_ H
 try dsimp only at H
 by_cases c4 : (strOfNums y112).size + t115.size ≤ 9223372036854775807
 rotate_left
 ·
  rw [if_neg c4] at H
  exact absurd H (by simp)
 rw [if_pos c4] at H
 have c4b0 := eq_true c4
 have c4b1 := decide_eq_true c4
 try have c4b2 : (9223372036854775807 < (strOfNums y112).size + t115.size) = False := eq_false (Nat.not_lt.2 c4)
 obtain rfl := Option.some.inj H
 go_enter Tryz.func49, Tryz.ntmps49
 try go_wp2_with (first | ((with_reducible refine jG (f := 86) rfl ?_); refine gl_ (some 5) Tryz.func86 #[.int .u64 a0] ?_; (with_reducible refine (bits_Len64.calls a0 t111 _ A2.out).mono ?_); rintro e w5 ⟨rfl, hb⟩; refine ⟨_, rfl, ?_⟩; replace HB := bs_ HB hb))
 have n0_ := jA.mk (zH HB.out)
 clear HB
 have HB := n0_
 clear n0_
 refine zl (n := 9) (S := fun w' => True) (ds := []) #[false, false, false, false, false, false, false, false, false] kr_ rfl rfl trivial (fun hHeld => ?_); refine qm vL.tab2 vL.jOT (fun HT_ HW_ => ?_)
 generalize w5.drew = w6 at HB hHeld ⊢
 refine pu_ 0 (some 8) (ba_ 9 1) (jP HT_.out kr_) ?_
 refine pu_ 1 (some 9) (ba_ 9 3) (jP HT_.out kr_) ?_
 refine pu_ 4 (some 12) (ba_ 9 19) (jP HT_.out kr_) ?_
 refine pu_ 5 (some 13) (ba_ 9 51) (jP HT_.out kr_) ?_
 refine jNI (σ := Value) 2 #[true, true, true, true, true, true, true, false, false] (fun s_ => [(10, s_), (11, .string (strOfNums y112)), (14, .string t115)]) (fun s_ w' => (Kd.R (Kd.int .u8) 5 w' w.heap.size (fun _ => True) s_ y112) ∧ (Below w.heap.size w w')) ?_ ?_
 rotate_left
 ·
  intro hCont
  refine two_ (i := 2) (j := 6) (Ni := some 10) (Nj := some 14) (ba_ 9 55) (ba_ 9 115) rfl rfl rfl rfl (jKm HT_.out kr_) (by decide) (by decide) (fun K hK => ?_) (fun K hK => ?_)
  rotate_left
  ·
   skip
   refine jAJ Tryz.func87 kr_ rfl #[.int .u64 a0, .int .i64 (wrap64 (Int.tdiv (wrap64 (t111 + 7)) 8))] (by rfl) rfl rfl (by (try simp only [List.map_toArray, List.map_cons, List.map_nil]); first | done | rfl | (simp only [List.length_drop, List.length_take]; rfl)) ?_
   with_reducible refine (jX.calls k a0 (wrap64 (Int.tdiv (wrap64 (t111 + 7)) 8)) t115 _ A3.out).mono ?_
   rintro e w7 ⟨rfl, hb⟩
   refine ⟨_, rfl, ?_⟩
   have n0_ := bs_ HB hb
   clear HB
   have HB := n0_
   clear n0_
   (try clear hb)
   (try clear hb2)
   (try clear hk)
   (try clear hi)
   refine hK.out _ _ trivial (fun hHeld => ?_)
   clear hK K
   refine ns_ 14 ?_
   refine one_ (i := 2) (N := some 10) (ba_ 9 119) rfl rfl (qZ HT_.out kr_) (by decide) (fun K hK => ?_)
   refine Kd.jDw (Kd.int .u8) _ 5 ?hg (N := 10) ?hd (xs := ([(wrap64 (Int.tdiv (wrap64 (t111 + 7)) 8)) % 256] : List Int)) (inner := [.int .u8 ((wrap64 (Int.tdiv (wrap64 (t111 + 7)) 8)) % 256)]) (ok := fun _ => True) (okp := fun _ => True) ?hr ?hp (fun _ hk => hk) trivial (Below.refl _ _) (Nat.le_refl _) (by simp) ?_; (case hd => rfl); (case hg => rfl); (case hr => exact gs_); (case hp => exact (Reps.one (show Kd.M (Kd.int .u8) _ _ _ ((wrap64 (Int.tdiv (wrap64 (t111 + 7)) 8)) % 256) [.int .u8 ((wrap64 (Int.tdiv (wrap64 (t111 + 7)) 8)) % 256)] from rfl) (Reps.none _ _)))
   intro v113 w8 ho9 hb hg_ hnew_
   clear hg_ hnew_
   (first | rw [← Ny112.out] at ho9 | (simp only [Int.reduceToNat] at ho9; rw [← Ny112.out] at ho9))
   have n0_ := jA.mk (Kd.jw ho9 (jD (bb_ HB)))
   have n1_ := bs_ HB hb
   clear HB
   have HO114 := n0_
   have HB := n1_
   clear n0_ n1_
   clear hb ho9
   refine hK.out _ _ trivial (fun hHeld => ?_)
   clear hK K
   refine ns_ 10 ?_
   refine one_ (i := 3) (N := some 11) (ba_ 9 127) rfl rfl (qZ HT_.out kr_) (by decide) (fun K hK => ?_)
   have hcv10 := jAL (P := Tryz.prog) Tryz.underlying58 Tryz.underlying5 Tryz.underlying9 (Kd.jAI HO114.out)
   refine jBf (w1 := ?_) (v := ?_) (by rfl) rfl ?_ ?_
   rotate_left 2
   ·
    go_simp
    constructor
    ·
     rfl
    rfl
   clear hcv10
   refine hK.out _ _ trivial (fun hHeld => ?_)
   clear hK K
   refine ns_ 11 ?_
   exact jFq (by simp only [jCL, Act.put, ss_]) (hCont (v113) _ ⟨(rR_ HO114), (bb_ HB)⟩)
  skip
  refine Kd.jDw (Kd.int .u8) _ 5 ?hg (N := 10) ?hd (xs := ([(wrap64 (Int.tdiv (wrap64 (t111 + 7)) 8)) % 256] : List Int)) (inner := [.int .u8 ((wrap64 (Int.tdiv (wrap64 (t111 + 7)) 8)) % 256)]) (ok := fun _ => True) (okp := fun _ => True) ?hr ?hp (fun _ hk => hk) trivial (Below.refl _ _) (Nat.le_refl _) (by simp) ?_; (case hd => rfl); (case hg => rfl); (case hr => exact gs_); (case hp => exact (Reps.one (show Kd.M (Kd.int .u8) _ _ _ ((wrap64 (Int.tdiv (wrap64 (t111 + 7)) 8)) % 256) [.int .u8 ((wrap64 (Int.tdiv (wrap64 (t111 + 7)) 8)) % 256)] from rfl) (Reps.none _ _)))
  intro v113 w7 ho8 hb hg_ hnew_
  clear hg_ hnew_
  (first | rw [← Ny112.out] at ho8 | (simp only [Int.reduceToNat] at ho8; rw [← Ny112.out] at ho8))
  have n0_ := jA.mk (Kd.jw ho8 (jD (bb_ HB)))
  have n1_ := bs_ HB hb
  clear HB
  have HO114 := n0_
  have HB := n1_
  clear n0_ n1_
  clear hb ho8
  refine hK.out _ _ trivial (fun hHeld => ?_)
  clear hK K
  refine ns_ 10 ?_
  refine two_ (i := 3) (j := 6) (Ni := some 11) (Nj := some 14) (ba_ 9 63) (ba_ 9 119) rfl rfl rfl rfl (jKm HT_.out kr_) (by decide) (by decide) (fun K hK => ?_) (fun K hK => ?_)
  ·
   skip
   have hcv9 := jAL (P := Tryz.prog) Tryz.underlying58 Tryz.underlying5 Tryz.underlying9 (Kd.jAI HO114.out)
   refine jBf (w1 := ?_) (v := ?_) (by rfl) rfl ?_ ?_
   rotate_left 2
   ·
    go_simp
    constructor
    ·
     rfl
    rfl
   clear hcv9
   refine hK.out _ _ trivial (fun hHeld => ?_)
   clear hK K
   refine ns_ 11 ?_
   refine one_ (i := 6) (N := some 14) (ba_ 9 127) rfl rfl (qZ HT_.out kr_) (by decide) (fun K hK => ?_)
   refine jAJ Tryz.func87 kr_ rfl #[.int .u64 a0, .int .i64 (wrap64 (Int.tdiv (wrap64 (t111 + 7)) 8))] (by rfl) rfl rfl (by (try simp only [List.map_toArray, List.map_cons, List.map_nil]); first | done | rfl | (simp only [List.length_drop, List.length_take]; rfl)) ?_
   with_reducible refine (jX.calls k a0 (wrap64 (Int.tdiv (wrap64 (t111 + 7)) 8)) t115 _ A3.out).mono ?_
   rintro e w10 ⟨rfl, hb⟩
   refine ⟨_, rfl, ?_⟩
   have n0_ := ro_ HO114 hb
   have n1_ := bs_ HB hb
   clear HO114
   clear HB
   have HO114 := n0_
   have HB := n1_
   clear n0_ n1_
   (try clear hb)
   (try clear hb2)
   (try clear hk)
   (try clear hi)
   refine hK.out _ _ trivial (fun hHeld => ?_)
   clear hK K
   refine ns_ 14 ?_
   exact jFq (by simp only [jCL, Act.put, ss_]) (hCont (v113) _ ⟨(rR_ HO114), (bb_ HB)⟩)
  skip
  refine jAJ Tryz.func87 kr_ rfl #[.int .u64 a0, .int .i64 (wrap64 (Int.tdiv (wrap64 (t111 + 7)) 8))] (by rfl) rfl rfl (by (try simp only [List.map_toArray, List.map_cons, List.map_nil]); first | done | rfl | (simp only [List.length_drop, List.length_take]; rfl)) ?_
  with_reducible refine (jX.calls k a0 (wrap64 (Int.tdiv (wrap64 (t111 + 7)) 8)) t115 _ A3.out).mono ?_
  rintro e w9 ⟨rfl, hb⟩
  refine ⟨_, rfl, ?_⟩
  have n0_ := ro_ HO114 hb
  have n1_ := bs_ HB hb
  clear HO114
  clear HB
  have HO114 := n0_
  have HB := n1_
  clear n0_ n1_
  (try clear hb)
  (try clear hb2)
  (try clear hk)
  (try clear hi)
  refine hK.out _ _ trivial (fun hHeld => ?_)
  clear hK K
  refine ns_ 14 ?_
  refine one_ (i := 3) (N := some 11) (ba_ 9 127) rfl rfl (qZ HT_.out kr_) (by decide) (fun K hK => ?_)
  have hcv10 := jAL (P := Tryz.prog) Tryz.underlying58 Tryz.underlying5 Tryz.underlying9 (Kd.jAI HO114.out)
  refine jBf (w1 := ?_) (v := ?_) (by rfl) rfl ?_ ?_
  rotate_left 2
  ·
   go_simp
   constructor
   ·
    rfl
   rfl
  clear hcv10
  refine hK.out _ _ trivial (fun hHeld => ?_)
  clear hK K
  refine ns_ 11 ?_
  exact jFq (by simp only [jCL, Act.put, ss_]) (hCont (v113) _ ⟨(rR_ HO114), (bb_ HB)⟩)
 rintro v113 w11 ⟨h0_, h1_⟩
 have n0_ : jA (Kd.R (Kd.int .u8) 5 w11 w.heap.size (fun _ => True) v113 y112) := ⟨h0_⟩
 have n1_ : jA (Below w.heap.size w w11) := ⟨h1_⟩
 clear HB
 clear h0_ h1_
 have HO114 := n0_
 have HB := n1_
 clear n0_ n1_
 have hHeld := trivial
 refine jFq (a' := ?_) ?_ ?_
 rotate_left
 ·
  simp only [jCL, Act.put, ss_]
  rfl
 refine pu_ 7 (some 15) (ba_ 9 255) (jP HT_.out kr_) ?_
 refine pu_ 8 (some 2) (ba_ 9 511) (jP HT_.out kr_) ?_
 refine jAP (jBE HT_.out kr_) ?_
 try go_wp2
 go_ret
 exact ⟨ew_, (bb_ HB)⟩
end Go.Proofs.YtoganbmeedimiaaGreat.POPressSizes
