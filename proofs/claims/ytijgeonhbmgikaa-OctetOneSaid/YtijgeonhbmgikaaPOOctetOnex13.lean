-- printed (pr.py)
import Derived.Test.YtijgeonhbmgikaaPOOctetOnex0
import Derived.Test.YtijgeonhbmgikaaPOOctetOnex1
import Derived.Test.YtijgeonhbmgikaaPOOctetOnex2
import Derived.Test.YtijgeonhbmgikaaPOOctetOnex3
import Derived.Test.YtijgeonhbmgikaaPOOctetOnex4
import Derived.Test.YtijgeonhbmgikaaPOOctetOnex12
namespace Go.Proofs.Ytijgeonhbmgikaa.POOctetOne
open Go.RowKit Go.Proofs.YtijgeonhbmgikaaN Go.Proofs.YtijgeonhbmgikaaW.PrintWords Go.Proofs.YtijgeonhbmgikaaW.PrintLast Go.Proofs.YtijgeonhbmgikaaW.PrintMore
attribute [local go_sem] zQ zN qA zy zC zA zP zM
set_option maxHeartbeats 8000000
set_option maxRecDepth 100000
set_option linter.unusedVariables false
set_option linter.unusedSimpArgs false

/-! ### syzygylaw06_OctetOne: function 14 -/
mutual
def syzygylaw06_OctetOne.j0 : Nat → ByteArray → Bool → Option (Bool)
 | 0, _, _ => none
 | k + 1, x0, x25 => if x25 = true then ((jT.f k).bind fun t303 => (some t303)) else ((vM.f x0).bind fun bt304 => (if bt304.2.2 = 0 then ((jY.f k bt304.1).bind fun t307 => (if t307.size + bt304.2.1.size ≤ 9223372036854775807 then (syzygylaw06_OctetOne.j1 k x0 ((t307 ++ bt304.2.1).toList != x0.toList)) else (none))) else (syzygylaw06_OctetOne.j1 k x0 false)))
def syzygylaw06_OctetOne.j1 : Nat → ByteArray → Bool → Option (Bool)
 | 0, _, _ => none
 | k + 1, x0, x42 => if x42 = true then (some false) else ((jd.f x0).bind fun bt308 => (if bt308.2.2 = 0 then ((vG.f k bt308.1).bind fun t311 => (if t311.size + bt308.2.1.size ≤ 9223372036854775807 then (syzygylaw06_OctetOne.j2 k x0 ((t311 ++ bt308.2.1).toList != x0.toList)) else (none))) else (syzygylaw06_OctetOne.j2 k x0 false)))
def syzygylaw06_OctetOne.j2 : Nat → ByteArray → Bool → Option (Bool)
 | 0, _, _ => none
 | k + 1, x0, x58 => if x58 = true then (some false) else ((jo.f k x0).bind fun bt312 => ((jQ.f k bt312.1).bind fun bt317 => (if bt312.2.2 = 0 then (if bt317.1.size + bt312.2.1.size ≤ 9223372036854775807 then (syzygylaw06_OctetOne.j3 k x0 ((bt317.1 ++ bt312.2.1).toList != x0.toList)) else (none)) else (syzygylaw06_OctetOne.j3 k x0 false))))
def syzygylaw06_OctetOne.j3 : Nat → ByteArray → Bool → Option (Bool)
 | 0, _, _ => none
 | k + 1, x0, x78 => if x78 = true then (some false) else ((jm.f k x0).bind fun bt319 => ((vH.f k bt319.1 bt319.2.1 bt319.2.2.1).bind fun bt329 => (if bt319.2.2.2.2 = 0 then (if bt329.1.size + bt319.2.2.2.1.size ≤ 9223372036854775807 then (some ((bt329.1 ++ bt319.2.2.2.1).toList == x0.toList)) else (none)) else (some true))))
end
def syzygylaw06_OctetOne.f (k : Nat) (a0 : ByteArray) : Option (Bool) := if (a0.size : Int) > 1000 then (syzygylaw06_OctetOne.j0 k a0 true) else ((jT.f k).bind fun t302 => (syzygylaw06_OctetOne.j0 k a0 (!t302)))
theorem syzygylaw06_OctetOne.vW : ∀ k, (∀ y0 y1, LeO (syzygylaw06_OctetOne.j0 k y0 y1) (syzygylaw06_OctetOne.j0 (k + 1) y0 y1)) ∧ (∀ y0 y1, LeO (syzygylaw06_OctetOne.j1 k y0 y1) (syzygylaw06_OctetOne.j1 (k + 1) y0 y1)) ∧ (∀ y0 y1, LeO (syzygylaw06_OctetOne.j2 k y0 y1) (syzygylaw06_OctetOne.j2 (k + 1) y0 y1)) ∧ (∀ y0 y1, LeO (syzygylaw06_OctetOne.j3 k y0 y1) (syzygylaw06_OctetOne.j3 (k + 1) y0 y1))
 | 0 => ⟨fun _ _ r h => by simp [syzygylaw06_OctetOne.j0] at h, fun _ _ r h => by simp [syzygylaw06_OctetOne.j1] at h, fun _ _ r h => by simp [syzygylaw06_OctetOne.j2] at h, fun _ _ r h => by simp [syzygylaw06_OctetOne.j3] at h⟩
 | k + 1 => by
  obtain ⟨ih0, ih1, ih2, ih3⟩ := syzygylaw06_OctetOne.vW k
  refine ⟨?_, ?_, ?_, ?_⟩ <;> (intros; first | unfold syzygylaw06_OctetOne.j0 | unfold syzygylaw06_OctetOne.j1 | unfold syzygylaw06_OctetOne.j2 | unfold syzygylaw06_OctetOne.j3) <;> repeat' first
   | (with_reducible exact ih0 _ _)
   | (with_reducible exact ih1 _ _)
   | (with_reducible exact ih2 _ _)
   | (with_reducible exact ih3 _ _)
   | (with_reducible exact jo.mono _ _)
   | (with_reducible exact jm.mono _ _)
   | (with_reducible exact jY.mono _ _)
   | (with_reducible exact jQ.mono _ _)
   | (with_reducible exact vH.mono _ _ _ _)
   | (with_reducible exact vG.mono _ _)
   | (with_reducible exact jT.mono _)
   | (with_reducible exact LeO.refl _)
   | (with_reducible exact LeO.none _)
   | (with_reducible refine LeO.ite ?_ ?_)
   | (with_reducible refine LeO.bind ?_ (fun _ => ?_))
theorem syzygylaw06_OctetOne.mono : ∀ a0 k, LeO (syzygylaw06_OctetOne.f k a0) (syzygylaw06_OctetOne.f (k + 1) a0) := by
 intro a0 k
 obtain ⟨ih0, ih1, ih2, ih3⟩ := syzygylaw06_OctetOne.vW k
 unfold syzygylaw06_OctetOne.f
 repeat' first
   | (with_reducible exact ih0 _ _)
   | (with_reducible exact ih1 _ _)
   | (with_reducible exact ih2 _ _)
   | (with_reducible exact ih3 _ _)
   | (with_reducible exact jo.mono _ _)
   | (with_reducible exact jm.mono _ _)
   | (with_reducible exact jY.mono _ _)
   | (with_reducible exact jQ.mono _ _)
   | (with_reducible exact vH.mono _ _ _ _)
   | (with_reducible exact vG.mono _ _)
   | (with_reducible exact jT.mono _)
   | (with_reducible exact LeO.refl _)
   | (with_reducible exact LeO.none _)
   | (with_reducible refine LeO.ite ?_ ?_)
   | (with_reducible refine LeO.bind ?_ (fun _ => ?_))
theorem syzygylaw06_OctetOne.calls (k : Nat) (a0 : ByteArray) (w : World) (h : syzygylaw06_OctetOne.f k a0 = some true) :
  Calls Try.prog 14 #[.string a0] w fun e w' => e = .returned (.bool true) ∧ Below w.heap.size w w' := by
 have hu44 := Try.underlying44
 have HB := jA.mk (Below.refl w.heap.size w)
 have H : (if (a0.size : Int) > 1000 then (syzygylaw06_OctetOne.j0 k a0 true) else ((jT.f k).bind fun t302 => (syzygylaw06_OctetOne.j0 k a0 (!t302)))) = some true := h
 clear h
 have HC2 := jA.mk H
 clear H
 go_enter Try.func14, Try.ntmps14
 go_upto_region 1 with (fail)
 go_cut [25] (fun v25 wc => ∃ (kq : Nat) (x25_1 : Bool), v25 = .bool x25_1 ∧ jA (syzygylaw06_OctetOne.j0 kq a0 x25_1 = some true) ∧ jA (kq ≤ k) ∧ jA (Below w.heap.size w wc))
 case first =>
  have H := HC2.out
  clear HC2
  by_cases c3 : (a0.size : Int) > 1000
  ·
   rw [if_pos c3] at H
   have c3b0 := decide_eq_true c3
   have c3b1 : decide (1000 < a0.size) = true := decide_eq_true (by omega)
   clear c3
   (first | rw [c3b0] | (simp only [vU, zI]; rw [c3b0]) | skip)
   have H' := jA.mk H
   clear H
   go_wp2
   go_meet
   case rel => exact ⟨_, (true), sd_, H', ⟨by first | omega | exact Nat.le_refl _⟩, ⟨(bb_ HB)⟩⟩
  ·
   rw [if_neg c3] at H
   have c3b0 := decide_eq_false c3
   have c3b1 : decide (1000 < a0.size) = false := decide_eq_false (by omega)
   clear c3
   (first | rw [c3b0] | (simp only [vU, zI]; rw [c3b0]) | skip)
   replace H := ob_ H
   obtain ⟨t302, A40, H⟩ := H
   try dsimp only at H
   have A4 := jA.mk A40
   clear A40
   have H' := jA.mk H
   clear H
   go_wp2_with (first | ((with_reducible refine jv (N := 23) rfl ?_); refine vC (by first | rfl | kernel_rfl) ?_; dsimp only; (with_reducible refine jF (f := 16) rfl ?_); refine je (some 23) rfl rfl Try.func16 kr_ rfl #[] rfl mt_ ?_; (with_reducible refine (jT.calls k  t302 _ A4.out).mono ?_); rintro e w5 ⟨rfl, hb⟩; refine ⟨_, rfl, ?_⟩; replace HB := bs_ HB hb))
   go_meet
   case rel => exact ⟨_, (!t302), sd_, H', ⟨by first | omega | exact Nat.le_refl _⟩, ⟨(bb_ HB)⟩⟩
 case rest =>
  clear HC2
  try clear c1
  try clear p2
  try clear c3
  try clear c3b0
  try clear c3b1
  obtain ⟨kq, x25_1, rfl, HA, HJ1, HB⟩ := hcut
  cases kq with
  | zero => exact absurd HA.out (by simp [syzygylaw06_OctetOne.j0])
  | succ kj1 =>
   have H := HA.out
   clear HA
   simp only [syzygylaw06_OctetOne.j0] at H
   by_cases c6 : x25_1 = true
   ·
    subst c6
    have H1 : ((jT.f kj1).bind fun t303 => (some t303)) = some true := by rw [if_pos rfl] at H; exact H
    clear H
    have H := H1
    clear H1
    replace H := ob_ H
    obtain ⟨t303, A70, H⟩ := H
    try dsimp only at H
    have A7 := jA.mk A70
    clear A70
    have HRT_ := jA.mk (Option.some.inj H)
    clear H
    go_wp2_with (first | ((with_reducible refine jF (f := 16) rfl ?_); refine je (some 26) rfl rfl Try.func16 kr_ rfl #[] rfl mt_ ?_; (with_reducible refine (jT.calls kj1  t303 _ A7.out).mono ?_); rintro e w8 ⟨rfl, hb⟩; refine ⟨_, rfl, ?_⟩; replace HB := bs_ HB hb))
    go_ret
    exact ⟨by first | rfl | (rw [HRT_.out]; rfl) | (simp only [HRT_.out]; done) | exact of_decide_eq_true HRT_.out | (have h_ := HRT_.out; simp at h_ ⊢; exact h_) | (have h_ := HRT_.out; simp at h_ ⊢; omega) | (have h_ := HRT_.out; simp [h_]; done) | (simp [vB, jy] <;> rfl) | (simp [*, vB, jy] <;> rfl), (bb_ HB)⟩
   ·
    replace c6 := Bool.eq_false_iff.mpr c6
    subst c6
    have H1 : ((vM.f a0).bind fun bt304 => (if bt304.2.2 = 0 then ((jY.f kj1 bt304.1).bind fun t307 => (if t307.size + bt304.2.1.size ≤ 9223372036854775807 then (syzygylaw06_OctetOne.j1 kj1 a0 ((t307 ++ bt304.2.1).toList != a0.toList)) else (none))) else (syzygylaw06_OctetOne.j1 kj1 a0 false))) = some true := by rw [if_neg (show ¬ (false = true) by decide)] at H; exact H
    clear H
    have H := H1
    clear H1
    replace H := ob_ H
    obtain ⟨⟨t304, t305, t306⟩, A90, H⟩ := H
    try dsimp only at H
    have A9 := jA.mk A90
    clear A90
    have HC10 := jA.mk H
    clear H
    go_upto_region 4 with (first | ((with_reducible refine jF (f := 18) rfl ?_); refine je (some 29) rfl rfl Try.func18 kr_ rfl #[.string a0] rfl mt_ ?_; (with_reducible refine (vM.calls a0 t304 t305 t306 _ A9.out).mono ?_); rintro e w11 ⟨rfl, hb⟩; refine ⟨_, rfl, ?_⟩; replace HB := bs_ HB hb))
    (try simp only [Act.put, ss_])
    go_cut [42] (fun v42 wc => ∃ (kq : Nat) (x42_9 : Bool), v42 = .bool x42_9 ∧ jA (syzygylaw06_OctetOne.j1 kq a0 x42_9 = some true) ∧ jA (kq ≤ kj1) ∧ jA (Below w.heap.size w wc))
    case first =>
     have H := HC10.out
     clear HC10
     by_cases c12 : t306 = 0
     ·
      rw [if_pos c12] at H
      have c12b0 := beq_iff_eq.mpr c12
      have c12b1 := bne_eq_false_iff_eq.mpr c12
      clear c12
      (first | rw [c12b0] | (simp only [vU, zI]; rw [c12b0]) | skip)
      replace H := ob_ H
      obtain ⟨t307, A130, H⟩ := H
      try dsimp only at H
      have A13 := jA.mk A130
      clear A130
      by_cases c14 : t307.size + t305.size ≤ 9223372036854775807
      ·
       rw [if_pos c14] at H
       have c14b0 := eq_true c14
       have c14b1 := decide_eq_true c14
       try have c14b2 : (9223372036854775807 < t307.size + t305.size) = False := eq_false (Nat.not_lt.2 c14)
       have H' := jA.mk H
       clear H
       go_wp2_with (first | ((with_reducible refine jv (N := 37) rfl ?_); refine vC (by first | rfl | kernel_rfl) ?_; dsimp only; (with_reducible refine jF (f := 15) rfl ?_); refine je (some 37) rfl rfl Try.func15 kr_ rfl #[.int .u64 t304] rfl mt_ ?_; (with_reducible refine (jY.calls kj1 t304 t307 _ A13.out).mono ?_); rintro e w15 ⟨rfl, hb⟩; refine ⟨_, rfl, ?_⟩; replace HB := bs_ HB hb))
       go_meet
       case rel => exact ⟨_, (((t307 ++ t305).toList != a0.toList)), sd_, H', ⟨by have := HJ1.out; first | omega | exact Nat.le_refl _⟩, ⟨(bb_ HB)⟩⟩
      ·
       rw [if_neg c14] at H
       exact absurd H (by simp)
     ·
      rw [if_neg c12] at H
      have c12b0 := beq_eq_false_iff_ne.mpr c12
      have c12b1 := bne_iff_ne.mpr c12
      (first | rw [c12b0] | (simp only [vU, zI]; rw [c12b0]) | skip)
      have H' := jA.mk H
      clear H
      go_wp2
      go_meet
      case rel => exact ⟨_, (false), sd_, H', ⟨by have := HJ1.out; first | omega | exact Nat.le_refl _⟩, ⟨(bb_ HB)⟩⟩
    case rest =>
     clear HC10
     try clear c1
     try clear p2
     try clear c3
     try clear c3b0
     try clear c3b1
     try clear c6
     try clear c12
     try clear c12b0
     try clear c12b1
     try clear c14
     try clear c14b0
     try clear c14b1
     try clear c14b2
     try clear c15
     try clear p2
     obtain ⟨kq, x42_9, rfl, HA, HJ9, HB⟩ := hcut
     cases kq with
     | zero => exact absurd HA.out (by simp [syzygylaw06_OctetOne.j1])
     | succ kj9 =>
      have H := HA.out
      clear HA
      simp only [syzygylaw06_OctetOne.j1] at H
      by_cases c16 : x42_9 = true
      ·
       subst c16
       have H1 : (some false) = some true := by rw [if_pos rfl] at H; exact H
       clear H
       have H := H1
       clear H1
       exact absurd H (by simp)
      ·
       replace c16 := Bool.eq_false_iff.mpr c16
       subst c16
       have H1 : ((jd.f a0).bind fun bt308 => (if bt308.2.2 = 0 then ((vG.f kj9 bt308.1).bind fun t311 => (if t311.size + bt308.2.1.size ≤ 9223372036854775807 then (syzygylaw06_OctetOne.j2 kj9 a0 ((t311 ++ bt308.2.1).toList != a0.toList)) else (none))) else (syzygylaw06_OctetOne.j2 kj9 a0 false))) = some true := by rw [if_neg (show ¬ (false = true) by decide)] at H; exact H
       clear H
       have H := H1
       clear H1
       replace H := ob_ H
       obtain ⟨⟨t308, t309, t310⟩, A170, H⟩ := H
       try dsimp only at H
       have A17 := jA.mk A170
       clear A170
       have HC18 := jA.mk H
       clear H
       go_upto_region 7 with (first | ((with_reducible refine jF (f := 19) rfl ?_); refine je (some 45) rfl rfl Try.func19 kr_ rfl #[.string a0] rfl mt_ ?_; (with_reducible refine (jd.calls a0 t308 t309 t310 _ A17.out).mono ?_); rintro e w19 ⟨rfl, hb⟩; refine ⟨_, rfl, ?_⟩; replace HB := bs_ HB hb))
       (try simp only [Act.put, ss_])
       go_cut [58] (fun v58 wc => ∃ (kq : Nat) (x58_17 : Bool), v58 = .bool x58_17 ∧ jA (syzygylaw06_OctetOne.j2 kq a0 x58_17 = some true) ∧ jA (kq ≤ kj9) ∧ jA (Below w.heap.size w wc))
       case first =>
        have H := HC18.out
        clear HC18
        by_cases c20 : t310 = 0
        ·
         rw [if_pos c20] at H
         have c20b0 := beq_iff_eq.mpr c20
         have c20b1 := bne_eq_false_iff_eq.mpr c20
         clear c20
         (first | rw [c20b0] | (simp only [vU, zI]; rw [c20b0]) | skip)
         replace H := ob_ H
         obtain ⟨t311, A210, H⟩ := H
         try dsimp only at H
         have A21 := jA.mk A210
         clear A210
         by_cases c22 : t311.size + t309.size ≤ 9223372036854775807
         ·
          rw [if_pos c22] at H
          have c22b0 := eq_true c22
          have c22b1 := decide_eq_true c22
          try have c22b2 : (9223372036854775807 < t311.size + t309.size) = False := eq_false (Nat.not_lt.2 c22)
          have H' := jA.mk H
          clear H
          go_wp2_with (first | ((with_reducible refine jv (N := 53) rfl ?_); refine vC (by first | rfl | kernel_rfl) ?_; dsimp only; (with_reducible refine jF (f := 17) rfl ?_); refine je (some 53) rfl rfl Try.func17 kr_ rfl #[.string t308] rfl mt_ ?_; (with_reducible refine (vG.calls kj9 t308 t311 _ A21.out).mono ?_); rintro e w23 ⟨rfl, hb⟩; refine ⟨_, rfl, ?_⟩; replace HB := bs_ HB hb))
          go_meet
          case rel => exact ⟨_, (((t311 ++ t309).toList != a0.toList)), sd_, H', ⟨by have := HJ1.out; have := HJ9.out; first | omega | exact Nat.le_refl _⟩, ⟨(bb_ HB)⟩⟩
         ·
          rw [if_neg c22] at H
          exact absurd H (by simp)
        ·
         rw [if_neg c20] at H
         have c20b0 := beq_eq_false_iff_ne.mpr c20
         have c20b1 := bne_iff_ne.mpr c20
         (first | rw [c20b0] | (simp only [vU, zI]; rw [c20b0]) | skip)
         have H' := jA.mk H
         clear H
         go_wp2
         go_meet
         case rel => exact ⟨_, (false), sd_, H', ⟨by have := HJ1.out; have := HJ9.out; first | omega | exact Nat.le_refl _⟩, ⟨(bb_ HB)⟩⟩
       case rest =>
        clear HC18
        try clear c1
        try clear c2
        try clear p2
        try clear c3
        try clear c3b0
        try clear c3b1
        try clear c6
        try clear c12
        try clear c12b0
        try clear c12b1
        try clear c14
        try clear c14b0
        try clear c14b1
        try clear c14b2
        try clear c15
        try clear c16
        try clear c17
        try clear c18
        try clear c19
        try clear c20
        try clear c20b0
        try clear c20b1
        try clear c22
        try clear c22b0
        try clear c22b1
        try clear c22b2
        try clear p2
        obtain ⟨kq, x58_17, rfl, HA, HJ17, HB⟩ := hcut
        cases kq with
        | zero => exact absurd HA.out (by simp [syzygylaw06_OctetOne.j2])
        | succ kj17 =>
         have H := HA.out
         clear HA
         simp only [syzygylaw06_OctetOne.j2] at H
         by_cases c24 : x58_17 = true
         ·
          subst c24
          have H1 : (some false) = some true := by rw [if_pos rfl] at H; exact H
          clear H
          have H := H1
          clear H1
          exact absurd H (by simp)
         ·
          replace c24 := Bool.eq_false_iff.mpr c24
          subst c24
          have H1 : ((jo.f kj17 a0).bind fun bt312 => ((jQ.f kj17 bt312.1).bind fun bt317 => (if bt312.2.2 = 0 then (if bt317.1.size + bt312.2.1.size ≤ 9223372036854775807 then (syzygylaw06_OctetOne.j3 kj17 a0 ((bt317.1 ++ bt312.2.1).toList != a0.toList)) else (none)) else (syzygylaw06_OctetOne.j3 kj17 a0 false)))) = some true := by rw [if_neg (show ¬ (false = true) by decide)] at H; exact H
          clear H
          have H := H1
          clear H1
          replace H := ob_ H
          obtain ⟨⟨t312, t313, t314⟩, A250, H⟩ := H
          try dsimp only at H
          have A25 := jA.mk A250
          clear A250
          replace H := ob_ H
          obtain ⟨⟨t317, t318⟩, A260, H⟩ := H
          try dsimp only at H
          have A26 := jA.mk A260
          clear A260
          have HC27 := jA.mk H
          clear H
          go_upto_region 11 with (first | ((with_reducible refine jF (f := 22) rfl ?_); refine je (some 61) rfl rfl Try.func22 kr_ rfl #[.string a0] rfl mt_ ?_; (with_reducible refine (jo.calls kj17 a0 t312 t313 t314 _ A25.out).mono ?_); rintro e w28 ⟨v315, rfl, ho0, hb⟩; refine ⟨_, rfl, ?_⟩; have HO316 := jA.mk (Kd.ji ho0 (jC (bb_ HB))); replace HB := bs_ HB hb; obtain ⟨Ao29, co29, eo29⟩ := Kd.jq HO316.out; subst eo29) | ((with_reducible refine jF (f := 20) rfl ?_); refine je (some 67) rfl rfl Try.func20 kr_ rfl #[.slice Ao29 t312.length co29] rfl mt_ ?_; (with_reducible refine (jQ.calls kj17 _ _ t312 t317 t318 _ ?side1 ?side2 A26.out).mono ?_); (case side1 => exact cc_ (Kd.jN HO316.out).2.2); (case side2 => exact (Kd.jN HO316.out).2.1); rintro e w30 ⟨rfl, hb⟩; refine ⟨_, rfl, ?_⟩; replace HO316 := ro_ HO316 hb; replace HB := bs_ HB hb))
          (try simp only [Act.put, ss_])
          go_cut [78] (fun v78 wc => ∃ (kq : Nat) (x78_26 : Bool), v78 = .bool x78_26 ∧ jA (syzygylaw06_OctetOne.j3 kq a0 x78_26 = some true) ∧ jA (kq ≤ kj17) ∧ jA (Below w.heap.size w wc))
          case first =>
           have H := HC27.out
           clear HC27
           by_cases c31 : t314 = 0
           ·
            rw [if_pos c31] at H
            have c31b0 := beq_iff_eq.mpr c31
            have c31b1 := bne_eq_false_iff_eq.mpr c31
            clear c31
            (first | rw [c31b0] | (simp only [vU, zI]; rw [c31b0]) | skip)
            by_cases c32 : t317.size + t313.size ≤ 9223372036854775807
            ·
             rw [if_pos c32] at H
             have c32b0 := eq_true c32
             have c32b1 := decide_eq_true c32
             try have c32b2 : (9223372036854775807 < t317.size + t313.size) = False := eq_false (Nat.not_lt.2 c32)
             have H' := jA.mk H
             clear H
             go_wp2
             go_meet
             case rel => exact ⟨_, (((t317 ++ t313).toList != a0.toList)), sd_, H', ⟨by have := HJ1.out; have := HJ9.out; have := HJ17.out; first | omega | exact Nat.le_refl _⟩, ⟨(bb_ HB)⟩⟩
            ·
             rw [if_neg c32] at H
             exact absurd H (by simp)
           ·
            rw [if_neg c31] at H
            have c31b0 := beq_eq_false_iff_ne.mpr c31
            have c31b1 := bne_iff_ne.mpr c31
            (first | rw [c31b0] | (simp only [vU, zI]; rw [c31b0]) | skip)
            have H' := jA.mk H
            clear H
            go_wp2
            go_meet
            case rel => exact ⟨_, (false), sd_, H', ⟨by have := HJ1.out; have := HJ9.out; have := HJ17.out; first | omega | exact Nat.le_refl _⟩, ⟨(bb_ HB)⟩⟩
          case rest =>
           clear HC27
           try clear c1
           try clear c2
           try clear p2
           try clear c3
           try clear c3b0
           try clear c3b1
           try clear c6
           try clear c12
           try clear c12b0
           try clear c12b1
           try clear c14
           try clear c14b0
           try clear c14b1
           try clear c14b2
           try clear c15
           try clear c16
           try clear c17
           try clear c18
           try clear c19
           try clear c20
           try clear c20b0
           try clear c20b1
           try clear c22
           try clear c22b0
           try clear c22b1
           try clear c22b2
           try clear c24
           try clear c31
           try clear c31b0
           try clear c31b1
           try clear c32
           try clear c32b0
           try clear c32b1
           try clear c32b2
           try clear p2
           obtain ⟨kq, x78_26, rfl, HA, HJ26, HB⟩ := hcut
           cases kq with
           | zero => exact absurd HA.out (by simp [syzygylaw06_OctetOne.j3])
           | succ kj26 =>
            have H := HA.out
            clear HA
            simp only [syzygylaw06_OctetOne.j3] at H
            by_cases c33 : x78_26 = true
            ·
             subst c33
             have H1 : (some false) = some true := by rw [if_pos rfl] at H; exact H
             clear H
             have H := H1
             clear H1
             exact absurd H (by simp)
            ·
             replace c33 := Bool.eq_false_iff.mpr c33
             subst c33
             have H1 : ((jm.f kj26 a0).bind fun bt319 => ((vH.f kj26 bt319.1 bt319.2.1 bt319.2.2.1).bind fun bt329 => (if bt319.2.2.2.2 = 0 then (if bt329.1.size + bt319.2.2.2.1.size ≤ 9223372036854775807 then (some ((bt329.1 ++ bt319.2.2.2.1).toList == a0.toList)) else (none)) else (some true)))) = some true := by rw [if_neg (show ¬ (false = true) by decide)] at H; exact H
             clear H
             have H := H1
             clear H1
             replace H := ob_ H
             obtain ⟨⟨t319, t320, t323, t326, t327⟩, A340, H⟩ := H
             try dsimp only at H
             have A34 := jA.mk A340
             clear A340
             replace H := ob_ H
             obtain ⟨⟨t329, t330⟩, A350, H⟩ := H
             try dsimp only at H
             have A35 := jA.mk A350
             clear A350
             by_cases c36 : t327 = 0
             ·
              rw [if_pos c36] at H
              have c36b0 := beq_iff_eq.mpr c36
              have c36b1 := bne_eq_false_iff_eq.mpr c36
              clear c36
              by_cases c37 : t329.size + t326.size ≤ 9223372036854775807
              ·
               rw [if_pos c37] at H
               have c37b0 := eq_true c37
               have c37b1 := decide_eq_true c37
               try have c37b2 : (9223372036854775807 < t329.size + t326.size) = False := eq_false (Nat.not_lt.2 c37)
               have HRT_ := jA.mk (Option.some.inj H)
               clear H
               go_wp2_with (first | ((with_reducible refine jF (f := 44) rfl ?_); refine je (some 81) rfl rfl Try.func44 kr_ rfl #[.string a0] rfl mt_ ?_; (with_reducible refine (jm.calls kj26 a0 t319 t320 t323 t326 t327 _ A34.out).mono ?_); rintro e w38 ⟨v321, v324, rfl, ho0, ho1, hb⟩; refine ⟨_, rfl, ?_⟩; have HO322 := jA.mk (Kd.ji ho0 (jC (bb_ HB))); have HO325 := jA.mk (Kd.ji ho1 (jC (bb_ HB))); replace HB := bs_ HB hb) | ((with_reducible refine jv (N := 14) rfl ?_); refine zY ?hg (N := 14) ?hd (cs := #[.bool false, .slice none 0 0, .slice none 0 0]) (t := 44) ?hr ?_; (case hd => rfl); (case hg => rfl); (case hr => exact gs_); intro gb328 hg w39 hbox hb; replace HO322 := ro_ HO322 hb; replace HO325 := ro_ HO325 hb; have BK328 := jA.mk (hbox); have GW328 := jA.mk ((by rw [hg]; exact (jC (bb_ HB)) : w.heap.size ≤ gb328)); have GE328 := jA.mk ((by rw [hg]; exact (jC (bb_ HB)) : w.heap.size ≤ gb328)); replace HB := bs_ HB hb; clear hb hbox hg; obtain ⟨hcz40_0, hcz40_1, hcz40_2, hfz40_0, hfz40_1, hfz40_2⟩ := bf3_ BK328; obtain ⟨Ao41, co41, eo41⟩ := Kd.jq HO322.out; subst eo41; obtain ⟨Ao42, co42, eo42⟩ := Kd.jq HO325.out; subst eo42) | ((with_reducible refine jF (f := 31) rfl ?_); refine je (some 87) rfl rfl Try.func31 kr_ rfl #[.agg #[.bool t319, .slice Ao41 t320.length co41, .slice Ao42 t323.length co42]] rfl mt_ ?_; (with_reducible refine (vH.calls kj26 t319 _ _ t320 _ _ t323 t329 t330 _ ?side1 ?side2 ?side3 ?side4 A35.out).mono ?_); (case side1 => refine (Kd.jN (e := 22) (base := w.heap.size) (ok := fun k_ => some k_ ≠ (.slice Ao42 t323.length co42 : Value).ownBlock) (n := t320.length) (c := co41) ?_).2.2; exact (rg3_ HO322 BK328)); (case side2 => exact (Kd.jN HO322.out).2.1); (case side3 => refine (Kd.jN (e := 22) (base := w.heap.size) (ok := fun k_ => some k_ ≠ (.slice Ao41 t320.length co41 : Value).ownBlock) (n := t323.length) (c := co42) ?_).2.2; exact (rg3_ HO325 BK328)); (case side4 => exact (Kd.jN HO325.out).2.1); rintro e w43 ⟨rfl, hb⟩; refine ⟨_, rfl, ?_⟩; replace HO322 := jA.mk (Kd.qd (rg3_ HO322 BK328) hb); replace HO325 := jA.mk (Kd.qd (rg3_ HO325 BK328) hb); replace BK328 := jA.mk (vE (g := gb328) (o := .cells #[.bool t319, .slice Ao41 t320.length co41, .slice Ao42 t323.length co42] 44 (0, 0)) (by refine pk_ ?_; refine jc (cs := #[.bool t319, .slice Ao41 t320.length co41, .slice none 0 0]) ?_ 2 _ rs_; refine pk_ ?_; refine jc (cs := #[.bool t319, .slice none 0 0, .slice none 0 0]) ?_ 1 _ rs_; refine pk_ ?_; refine jc (cs := #[.bool false, .slice none 0 0, .slice none 0 0]) ?_ 0 _ rs_; refine pk_ ?_; exact BK328.out) hb); replace HB := jA.mk (jX (bb1_ HB GE328) hb)))
               go_ret
               exact ⟨by first | rfl | (rw [HRT_.out]; rfl) | (simp only [HRT_.out]; done) | exact of_decide_eq_true HRT_.out | (have h_ := HRT_.out; simp at h_ ⊢; exact h_) | (have h_ := HRT_.out; simp at h_ ⊢; omega) | (have h_ := HRT_.out; simp [h_]; done) | (simp [vB, jy] <;> rfl) | (simp [*, vB, jy] <;> rfl), (bb1_ HB GE328)⟩
              ·
               rw [if_neg c37] at H
               exact absurd H (by simp)
             ·
              rw [if_neg c36] at H
              have c36b0 := beq_eq_false_iff_ne.mpr c36
              have c36b1 := bne_iff_ne.mpr c36
              have HRT_ := jA.mk (Option.some.inj H)
              clear H
              go_wp2_with (first | ((with_reducible refine jF (f := 44) rfl ?_); refine je (some 81) rfl rfl Try.func44 kr_ rfl #[.string a0] rfl mt_ ?_; (with_reducible refine (jm.calls kj26 a0 t319 t320 t323 t326 t327 _ A34.out).mono ?_); rintro e w44 ⟨v321, v324, rfl, ho0, ho1, hb⟩; refine ⟨_, rfl, ?_⟩; have HO322 := jA.mk (Kd.ji ho0 (jC (bb_ HB))); have HO325 := jA.mk (Kd.ji ho1 (jC (bb_ HB))); replace HB := bs_ HB hb) | ((with_reducible refine jv (N := 14) rfl ?_); refine zY ?hg (N := 14) ?hd (cs := #[.bool false, .slice none 0 0, .slice none 0 0]) (t := 44) ?hr ?_; (case hd => rfl); (case hg => rfl); (case hr => exact gs_); intro gb328 hg w45 hbox hb; replace HO322 := ro_ HO322 hb; replace HO325 := ro_ HO325 hb; have BK328 := jA.mk (hbox); have GW328 := jA.mk ((by rw [hg]; exact (jC (bb_ HB)) : w.heap.size ≤ gb328)); have GE328 := jA.mk ((by rw [hg]; exact (jC (bb_ HB)) : w.heap.size ≤ gb328)); replace HB := bs_ HB hb; clear hb hbox hg; obtain ⟨hcz46_0, hcz46_1, hcz46_2, hfz46_0, hfz46_1, hfz46_2⟩ := bf3_ BK328; obtain ⟨Ao47, co47, eo47⟩ := Kd.jq HO322.out; subst eo47; obtain ⟨Ao48, co48, eo48⟩ := Kd.jq HO325.out; subst eo48) | ((with_reducible refine jF (f := 31) rfl ?_); refine je (some 87) rfl rfl Try.func31 kr_ rfl #[.agg #[.bool t319, .slice Ao47 t320.length co47, .slice Ao48 t323.length co48]] rfl mt_ ?_; (with_reducible refine (vH.calls kj26 t319 _ _ t320 _ _ t323 t329 t330 _ ?side1 ?side2 ?side3 ?side4 A35.out).mono ?_); (case side1 => refine (Kd.jN (e := 22) (base := w.heap.size) (ok := fun k_ => some k_ ≠ (.slice Ao48 t323.length co48 : Value).ownBlock) (n := t320.length) (c := co47) ?_).2.2; exact (rg3_ HO322 BK328)); (case side2 => exact (Kd.jN HO322.out).2.1); (case side3 => refine (Kd.jN (e := 22) (base := w.heap.size) (ok := fun k_ => some k_ ≠ (.slice Ao47 t320.length co47 : Value).ownBlock) (n := t323.length) (c := co48) ?_).2.2; exact (rg3_ HO325 BK328)); (case side4 => exact (Kd.jN HO325.out).2.1); rintro e w49 ⟨rfl, hb⟩; refine ⟨_, rfl, ?_⟩; replace HO322 := jA.mk (Kd.qd (rg3_ HO322 BK328) hb); replace HO325 := jA.mk (Kd.qd (rg3_ HO325 BK328) hb); replace BK328 := jA.mk (vE (g := gb328) (o := .cells #[.bool t319, .slice Ao47 t320.length co47, .slice Ao48 t323.length co48] 44 (0, 0)) (by refine pk_ ?_; refine jc (cs := #[.bool t319, .slice Ao47 t320.length co47, .slice none 0 0]) ?_ 2 _ rs_; refine pk_ ?_; refine jc (cs := #[.bool t319, .slice none 0 0, .slice none 0 0]) ?_ 1 _ rs_; refine pk_ ?_; refine jc (cs := #[.bool false, .slice none 0 0, .slice none 0 0]) ?_ 0 _ rs_; refine pk_ ?_; exact BK328.out) hb); replace HB := jA.mk (jX (bb1_ HB GE328) hb)))
              go_ret
              exact ⟨by first | rfl | (rw [HRT_.out]; rfl) | (simp only [HRT_.out]; done) | exact of_decide_eq_true HRT_.out | (have h_ := HRT_.out; simp at h_ ⊢; exact h_) | (have h_ := HRT_.out; simp at h_ ⊢; omega) | (have h_ := HRT_.out; simp [h_]; done) | (simp [vB, jy] <;> rfl) | (simp [*, vB, jy] <;> rfl), (bb1_ HB GE328)⟩

/-- THE ONE PURE STATEMENT of syzygylaw06_OctetOne: yours. -/
def syzygylaw06_OctetOne.Pure : Prop := ∀ (a0 : ByteArray), a0.size ≤ 140737488351232 → ∃ k, syzygylaw06_OctetOne.f k a0 = some true
theorem syzygylaw06_OctetOne.walk (P : syzygylaw06_OctetOne.Pure) (a0 : ByteArray) (w : World) (w0 : a0.size ≤ 140737488351232) :
  Calls Try.prog 14 #[.string a0] w fun e w' => e = .returned (.bool true) ∧ Below w.heap.size w w' := by
 obtain ⟨k, h⟩ := P a0 w0
 refine (syzygylaw06_OctetOne.calls k a0 w h).mono ?_
 rintro e w' ⟨rfl, hd⟩
 exact ⟨rfl, hd⟩

end Go.Proofs.Ytijgeonhbmgikaa.POOctetOne
