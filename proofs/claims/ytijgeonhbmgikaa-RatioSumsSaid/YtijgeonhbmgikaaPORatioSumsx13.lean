-- printed (pr.py)
import Derived.Test.YtijgeonhbmgikaaPORatioSumsx0
import Derived.Test.YtijgeonhbmgikaaPORatioSumsx11
import Derived.Test.YtijgeonhbmgikaaPORatioSumsx12
namespace Go.Proofs.Ytijgeonhbmgikaa.PORatioSums
open Go.RowKit Go.Proofs.YtijgeonhbmgikaaN Go.Proofs.YtijgeonhbmgikaaW.PrintWords Go.Proofs.YtijgeonhbmgikaaW.PrintLast Go.Proofs.YtijgeonhbmgikaaW.PrintMore
attribute [local go_sem] qV qR qy qx qA zy qU qP
set_option maxHeartbeats 8000000
set_option maxRecDepth 100000

/-! ### jR: function 103 -/
def jR.l0 : Nat → List Int → List Int → Int → Option (Int)
 | 0, _, _, _ => none
 | k + 1, x0, x1, x5 => if x5 ≥ 0 then ((jf.f x0 x5).bind fun t503 => ((jf.f x1 x5).bind fun t504 => (if t503 < t504 then (some (-1)) else ((jf.f x0 x5).bind fun t505 => ((jf.f x1 x5).bind fun t506 => (if t505 > t506 then (some 1) else (jR.l0 k x0 x1 (wrap64 (x5 - 1))))))))) else (some 0)
def jR.f (k : Nat) (l0 : List Int) (l1 : List Int) : Option (Int) := jR.l0 k l0 l1 (wrap64 ((mx (l0.length : Int) (l1.length : Int)) - 1))
theorem jR.vk : ∀ k, (∀ y0 y1 y2, LeO (jR.l0 k y0 y1 y2) (jR.l0 (k + 1) y0 y1 y2))
 | 0 => fun _ _ _ r h => by simp [jR.l0] at h
 | k + 1 => by
  have ih0 := jR.vk k
  ·
   intro y0 y1 y2
   unfold jR.l0
   repeat' first
   | (with_reducible exact ih0 _ _ _)
   | (with_reducible exact LeO.refl _)
   | (with_reducible exact LeO.none _)
   | (with_reducible refine LeO.ite ?_ ?_)
   | (with_reducible refine LeO.bind ?_ (fun _ => ?_))
theorem jR.mono : ∀ a0 a1 k, LeO (jR.f k a0 a1) (jR.f (k + 1) a0 a1) := by
 intro a0 a1 k
 have ih0 := jR.vk k
 unfold jR.f
 repeat' first
   | (with_reducible exact ih0 _ _ _)
   | (with_reducible exact LeO.refl _)
   | (with_reducible exact LeO.none _)
   | (with_reducible refine LeO.ite ?_ ?_)
   | (with_reducible refine LeO.bind ?_ (fun _ => ?_))
theorem jR.calls (k : Nat) (A0 : Option Addr) (c0 : Nat) (l0 : List Int) (A1 : Option Addr) (c1 : Nat) (l1 : List Int) (r : Int) (w : World) (hr0 : Kd.C (Kd.int .u64) w A0 l0.length l0) (hc0 : l0.length ≤ c0) (hr1 : Kd.C (Kd.int .u64) w A1 l1.length l1) (hc1 : l1.length ≤ c1) (h : jR.f k l0 l1 = some r) :
  Calls Try.prog 103 #[.slice A0 l0.length c0, .slice A1 l1.length c1] w fun e w' => e = .returned (.int .i64 r) ∧ Below w.heap.size w w' := by
 have HR0 := jA.mk hr0
 have HC0 := jA.mk hc0
 clear hr0 hc0
 have HR1 := jA.mk hr1
 have HC1 := jA.mk hc1
 clear hr1 hc1
 have HB := jA.mk (Below.refl w.heap.size w)
 have H : (jR.l0 k l0 l1 (wrap64 ((mx (l0.length : Int) (l1.length : Int)) - 1))) = some r := h
 clear h
 obtain ⟨ji3, hji3⟩ : ∃ j_ : Int, (mx (l0.length : Int) (l1.length : Int)) = j_ := ⟨_, rfl⟩
 replace H : (jR.l0 k l0 l1 (wrap64 ((ji3) - 1))) = some r := by first | (rw [hji3] at H; exact H) | (simp only [hji3] at H ⊢; exact H)
 (try (have hji3l : 0 ≤ ji3 := by (rw [← hji3]; unfold mx; (repeat' split) <;> omega)))
 (try (have hji3m : 0 ≤ ji3 := by omega))
 have hji3n : (if l0.length < l1.length then (l1.length : Int) else (l0.length : Int)) = ji3 := by rw [← hji3]; unfold mx; by_cases h_ : l0.length < l1.length <;> simp [h_]
 have hji3_ : (if (l0.length : Int) < (l1.length : Int) then (l1.length : Int) else (l0.length : Int)) = ji3 := hji3
 have H' := jA.mk H
 clear H
 go_enter Try.func103, Try.ntmps103
 go_wp2
 go_loopg [5] k (fun kq v5 w' => ∃ (x5_1 : Int), v5 = .int .i64 x5_1 ∧ jA (jR.l0 kq l0 l1 x5_1 = some r) ∧ jA (kq ≤ k) ∧ jA (Below w.heap.size w w'))
 case atStart => exact ⟨(wrap64 ((ji3) - 1)), (by first | rfl | (simp; done) | (simp only [← hji3] <;> (first | rfl | simp)) | (simp [*]; done)), H', ⟨Nat.le_refl _⟩, ⟨(bb_ HB)⟩⟩
 case round =>
  clear H'
  try clear c1
  try clear p2
  obtain ⟨x5_1, rfl, HA, HK1, HB⟩ := hrel
  cases gk with
  | zero => exact absurd HA.out (by simp [jR.l0])
  | succ k1 =>
   have H := HA.out
   clear HA
   simp only [jR.l0] at H
   by_cases c4 : x5_1 ≥ 0
   ·
    rw [if_pos c4] at H
    have c4b0 := decide_eq_true c4
    clear c4
    replace H := ob_ H
    obtain ⟨t503, A50, H⟩ := H
    try dsimp only at H
    have A5 := jA.mk A50
    clear A50
    replace H := ob_ H
    obtain ⟨t504, A60, H⟩ := H
    try dsimp only at H
    have A6 := jA.mk A60
    clear A60
    by_cases c7 : t503 < t504
    ·
     rw [if_pos c7] at H
     have c7b0 := decide_eq_true c7
     clear c7
     obtain rfl := Option.some.inj H
     go_wp2_with (first | ((with_reducible refine jJ (f := 69) rfl ?_); refine jr (some 18) rfl rfl Try.func69 kr_ rfl #[.slice A0 l0.length c0, .int .i64 x5_1] rfl mt_ ?_; (with_reducible refine (jf.calls _ _ l0 x5_1 t503 _ ?side1 ?side2 A5.out).mono ?_); (case side1 => exact cc_ (Kd.je HR0.out HB.out)); (case side2 => exact HC0.out); rintro e w' ⟨rfl, ⟨nd, rfl⟩⟩; refine ⟨_, rfl, ?_⟩) | ((with_reducible refine jJ (f := 69) rfl ?_); refine jr (some 21) rfl rfl Try.func69 kr_ rfl #[.slice A1 l1.length c1, .int .i64 x5_1] rfl mt_ ?_; (with_reducible refine (jf.calls _ _ l1 x5_1 t504 _ ?side1 ?side2 A6.out).mono ?_); (case side1 => repeat (first | exact (Kd.je HR1.out (bb_ HB)) | (with_reducible refine Kd.zR ?_ _) | (with_reducible refine Kd.zh ?_ _) | (with_reducible refine Kd.qG ?_))); (case side2 => exact HC1.out); rintro e w' ⟨rfl, ⟨nd, rfl⟩⟩; refine ⟨_, rfl, ?_⟩))
     go_ret
     exact ⟨by first | rfl | (simp [vY, vX] <;> rfl) | (simp only [← hji3]; first | rfl | (simp [vY, vX] <;> rfl)) | (simp [*, vY, vX] <;> rfl), (bb_ HB)⟩
    ·
     rw [if_neg c7] at H
     have c7b0 := decide_eq_false c7
     clear c7
     replace H := ob_ H
     obtain ⟨t505, A80, H⟩ := H
     try dsimp only at H
     have A8 := jA.mk A80
     clear A80
     replace H := ob_ H
     obtain ⟨t506, A90, H⟩ := H
     try dsimp only at H
     have A9 := jA.mk A90
     clear A90
     by_cases c10 : t505 > t506
     ·
      rw [if_pos c10] at H
      have c10b0 := decide_eq_true c10
      clear c10
      obtain rfl := Option.some.inj H
      go_wp2_with (first | ((with_reducible refine jJ (f := 69) rfl ?_); refine jr (some 18) rfl rfl Try.func69 kr_ rfl #[.slice A0 l0.length c0, .int .i64 x5_1] rfl mt_ ?_; (with_reducible refine (jf.calls _ _ l0 x5_1 t503 _ ?side1 ?side2 A5.out).mono ?_); (case side1 => exact cc_ (Kd.je HR0.out HB.out)); (case side2 => exact HC0.out); rintro e w' ⟨rfl, ⟨nd, rfl⟩⟩; refine ⟨_, rfl, ?_⟩) | ((with_reducible refine jJ (f := 69) rfl ?_); refine jr (some 21) rfl rfl Try.func69 kr_ rfl #[.slice A1 l1.length c1, .int .i64 x5_1] rfl mt_ ?_; (with_reducible refine (jf.calls _ _ l1 x5_1 t504 _ ?side1 ?side2 A6.out).mono ?_); (case side1 => repeat (first | exact (Kd.je HR1.out (bb_ HB)) | (with_reducible refine Kd.zR ?_ _) | (with_reducible refine Kd.zh ?_ _) | (with_reducible refine Kd.qG ?_))); (case side2 => exact HC1.out); rintro e w' ⟨rfl, ⟨nd, rfl⟩⟩; refine ⟨_, rfl, ?_⟩) | ((with_reducible refine jJ (f := 69) rfl ?_); refine jr (some 25) rfl rfl Try.func69 kr_ rfl #[.slice A0 l0.length c0, .int .i64 x5_1] rfl mt_ ?_; (with_reducible refine (jf.calls _ _ l0 x5_1 t505 _ ?side1 ?side2 A8.out).mono ?_); (case side1 => repeat (first | exact (Kd.je HR0.out (bb_ HB)) | (with_reducible refine Kd.zR ?_ _) | (with_reducible refine Kd.zh ?_ _) | (with_reducible refine Kd.qG ?_))); (case side2 => exact HC0.out); rintro e w' ⟨rfl, ⟨nd, rfl⟩⟩; refine ⟨_, rfl, ?_⟩) | ((with_reducible refine jJ (f := 69) rfl ?_); refine jr (some 28) rfl rfl Try.func69 kr_ rfl #[.slice A1 l1.length c1, .int .i64 x5_1] rfl mt_ ?_; (with_reducible refine (jf.calls _ _ l1 x5_1 t506 _ ?side1 ?side2 A9.out).mono ?_); (case side1 => repeat (first | exact (Kd.je HR1.out (bb_ HB)) | (with_reducible refine Kd.zR ?_ _) | (with_reducible refine Kd.zh ?_ _) | (with_reducible refine Kd.qG ?_))); (case side2 => exact HC1.out); rintro e w' ⟨rfl, ⟨nd, rfl⟩⟩; refine ⟨_, rfl, ?_⟩))
      go_ret
      exact ⟨by first | rfl | (simp [vY, vX] <;> rfl) | (simp only [← hji3]; first | rfl | (simp [vY, vX] <;> rfl)) | (simp [*, vY, vX] <;> rfl), (bb_ HB)⟩
     ·
      rw [if_neg c10] at H
      have c10b0 := decide_eq_false c10
      clear c10
      have H' := jA.mk H
      clear H
      go_wp2_with (first | ((with_reducible refine jJ (f := 69) rfl ?_); refine jr (some 18) rfl rfl Try.func69 kr_ rfl #[.slice A0 l0.length c0, .int .i64 x5_1] rfl mt_ ?_; (with_reducible refine (jf.calls _ _ l0 x5_1 t503 _ ?side1 ?side2 A5.out).mono ?_); (case side1 => exact cc_ (Kd.je HR0.out HB.out)); (case side2 => exact HC0.out); rintro e w' ⟨rfl, ⟨nd, rfl⟩⟩; refine ⟨_, rfl, ?_⟩) | ((with_reducible refine jJ (f := 69) rfl ?_); refine jr (some 21) rfl rfl Try.func69 kr_ rfl #[.slice A1 l1.length c1, .int .i64 x5_1] rfl mt_ ?_; (with_reducible refine (jf.calls _ _ l1 x5_1 t504 _ ?side1 ?side2 A6.out).mono ?_); (case side1 => repeat (first | exact (Kd.je HR1.out (bb_ HB)) | (with_reducible refine Kd.zR ?_ _) | (with_reducible refine Kd.zh ?_ _) | (with_reducible refine Kd.qG ?_))); (case side2 => exact HC1.out); rintro e w' ⟨rfl, ⟨nd, rfl⟩⟩; refine ⟨_, rfl, ?_⟩) | ((with_reducible refine jJ (f := 69) rfl ?_); refine jr (some 25) rfl rfl Try.func69 kr_ rfl #[.slice A0 l0.length c0, .int .i64 x5_1] rfl mt_ ?_; (with_reducible refine (jf.calls _ _ l0 x5_1 t505 _ ?side1 ?side2 A8.out).mono ?_); (case side1 => repeat (first | exact (Kd.je HR0.out (bb_ HB)) | (with_reducible refine Kd.zR ?_ _) | (with_reducible refine Kd.zh ?_ _) | (with_reducible refine Kd.qG ?_))); (case side2 => exact HC0.out); rintro e w' ⟨rfl, ⟨nd, rfl⟩⟩; refine ⟨_, rfl, ?_⟩) | ((with_reducible refine jJ (f := 69) rfl ?_); refine jr (some 28) rfl rfl Try.func69 kr_ rfl #[.slice A1 l1.length c1, .int .i64 x5_1] rfl mt_ ?_; (with_reducible refine (jf.calls _ _ l1 x5_1 t506 _ ?side1 ?side2 A9.out).mono ?_); (case side1 => repeat (first | exact (Kd.je HR1.out (bb_ HB)) | (with_reducible refine Kd.zR ?_ _) | (with_reducible refine Kd.zh ?_ _) | (with_reducible refine Kd.qG ?_))); (case side2 => exact HC1.out); rintro e w' ⟨rfl, ⟨nd, rfl⟩⟩; refine ⟨_, rfl, ?_⟩))
      go_roundg k1
      case measure => have := HK1.out; omega
      case rel => exact ⟨(wrap64 (x5_1 - 1)), sd_, H', ⟨by have := HK1.out; omega⟩, ⟨(bb_ HB)⟩⟩
   ·
    rw [if_neg c4] at H
    have c4b0 := decide_eq_false c4
    clear c4
    obtain rfl := Option.some.inj H
    go_wp2
    go_ret
    exact ⟨by first | rfl | (simp [vY, vX] <;> rfl) | (simp only [← hji3]; first | rfl | (simp [vY, vX] <;> rfl)) | (simp [*, vY, vX] <;> rfl), (bb_ HB)⟩

/-! ### jX: function 104 -/
def jX.l0 : Nat → List Int → List Int → Int → Int → Option (Int)
 | 0, _, _, _, _ => none
 | k + 1, x0, x1, x5, x6 => if (IntKind.u64.wrap (x6 - x5)) > 1 then ((jG.f k x1 (([IntKind.u64.wrap (Int.tdiv (IntKind.u64.wrap (x5 + x6)) 2)] : List Int))).bind fun t510 => ((jR.f k t510 x0).bind fun t513 => (if t513 ≤ 0 then (jX.l0 k x0 x1 (IntKind.u64.wrap (Int.tdiv (IntKind.u64.wrap (x5 + x6)) 2)) x6) else (jX.l0 k x0 x1 x5 (IntKind.u64.wrap (Int.tdiv (IntKind.u64.wrap (x5 + x6)) 2)))))) else (some x5)
def jX.f (k : Nat) (l0 : List Int) (l1 : List Int) : Option (Int) := jX.l0 k l0 l1 0 4294967296
theorem jX.vk : ∀ k, (∀ y0 y1 y2 y3, LeO (jX.l0 k y0 y1 y2 y3) (jX.l0 (k + 1) y0 y1 y2 y3))
 | 0 => fun _ _ _ _ r h => by simp [jX.l0] at h
 | k + 1 => by
  have ih0 := jX.vk k
  ·
   intro y0 y1 y2 y3
   unfold jX.l0
   repeat' first
   | (with_reducible exact ih0 _ _ _ _)
   | (with_reducible exact jR.mono _ _ _)
   | (with_reducible exact jG.mono _ _ _)
   | (with_reducible exact LeO.refl _)
   | (with_reducible exact LeO.none _)
   | (with_reducible refine LeO.ite ?_ ?_)
   | (with_reducible refine LeO.bind ?_ (fun _ => ?_))
theorem jX.mono : ∀ a0 a1 k, LeO (jX.f k a0 a1) (jX.f (k + 1) a0 a1) := by
 intro a0 a1 k
 have ih0 := jX.vk k
 unfold jX.f
 repeat' first
   | (with_reducible exact ih0 _ _ _ _)
   | (with_reducible exact jR.mono _ _ _)
   | (with_reducible exact jG.mono _ _ _)
   | (with_reducible exact LeO.refl _)
   | (with_reducible exact LeO.none _)
   | (with_reducible refine LeO.ite ?_ ?_)
   | (with_reducible refine LeO.bind ?_ (fun _ => ?_))
theorem jX.calls (k : Nat) (A0 : Option Addr) (c0 : Nat) (l0 : List Int) (A1 : Option Addr) (c1 : Nat) (l1 : List Int) (r : Int) (w : World) (hr0 : Kd.C (Kd.int .u64) w A0 l0.length l0) (hc0 : l0.length ≤ c0) (hr1 : Kd.C (Kd.int .u64) w A1 l1.length l1) (hc1 : l1.length ≤ c1) (h : jX.f k l0 l1 = some r) :
  Calls Try.prog 104 #[.slice A0 l0.length c0, .slice A1 l1.length c1] w fun e w' => e = .returned (.int .u64 r) ∧ Below w.heap.size w w' := by
 have HR0 := jA.mk hr0
 have HC0 := jA.mk hc0
 clear hr0 hc0
 have HR1 := jA.mk hr1
 have HC1 := jA.mk hc1
 clear hr1 hc1
 have HB := jA.mk (Below.refl w.heap.size w)
 have H : (jX.l0 k l0 l1 0 4294967296) = some r := h
 clear h
 have H' := jA.mk H
 clear H
 go_enter Try.func104, Try.ntmps104
 go_wp2
 go_loopg [5, 6] k (fun kq v5 v6 w' => ∃ (x5_1 : Int) (x6_1 : Int), v5 = .int .u64 x5_1 ∧ v6 = .int .u64 x6_1 ∧ jA (jX.l0 kq l0 l1 x5_1 x6_1 = some r) ∧ jA (kq ≤ k) ∧ jA (Below w.heap.size w w'))
 case atStart => exact ⟨(0), (4294967296), sd_, sd_, H', ⟨Nat.le_refl _⟩, ⟨(bb_ HB)⟩⟩
 case round =>
  clear H'
  try clear c1
  try clear p2
  obtain ⟨x5_1, x6_1, rfl, rfl, HA, HK1, HB⟩ := hrel
  cases gk with
  | zero => exact absurd HA.out (by simp [jX.l0])
  | succ k1 =>
   have H := HA.out
   clear HA
   simp only [jX.l0] at H
   by_cases c3 : (IntKind.u64.wrap (x6_1 - x5_1)) > 1
   ·
    rw [if_pos c3] at H
    have c3b0 := decide_eq_true c3
    clear c3
    obtain ⟨y507, hy507⟩ : ∃ y_ : List Int, y_ = (([IntKind.u64.wrap (Int.tdiv (IntKind.u64.wrap (x5_1 + x6_1)) 2)] : List Int)) := ⟨_, rfl⟩
    replace H : ((jG.f k1 l1 y507).bind fun t510 => ((jR.f k1 t510 l0).bind fun t513 => (if t513 ≤ 0 then (jX.l0 k1 l0 l1 (IntKind.u64.wrap (Int.tdiv (IntKind.u64.wrap (x5_1 + x6_1)) 2)) x6_1) else (jX.l0 k1 l0 l1 x5_1 (IntKind.u64.wrap (Int.tdiv (IntKind.u64.wrap (x5_1 + x6_1)) 2)))))) = some r := by first | (rw [hy507]; with_reducible exact H) | (have H2_ := (Option.bind_some _ _).symm.trans H; rw [hy507]; with_reducible exact H2_) | (with_reducible exact hs_ H) | with_reducible exact H | (rw [hy507]; exact H) | exact H
    have Ny507 := jA.mk hy507
    clear hy507
    replace H := ob_ H
    obtain ⟨t510, A40, H⟩ := H
    try dsimp only at H
    have A4 := jA.mk A40
    clear A40
    replace H := ob_ H
    obtain ⟨t513, A50, H⟩ := H
    try dsimp only at H
    have A5 := jA.mk A50
    clear A50
    by_cases c6 : t513 ≤ 0
    ·
     rw [if_pos c6] at H
     have c6b0 := decide_eq_true c6
     clear c6
     have H' := jA.mk H
     clear H
     go_wp2_with (first | ((with_reducible refine jl (N := 18) rfl ?_); refine Kd.jAC (Kd.int .u64) _ 22 ?hg (N := 18) ?hd (xs := ([IntKind.u64.wrap (Int.tdiv (IntKind.u64.wrap (x5_1 + x6_1)) 2)] : List Int)) (inner := [.int .u64 (IntKind.u64.wrap (Int.tdiv (IntKind.u64.wrap (x5_1 + x6_1)) 2))]) (ok := fun _ => True) (okp := fun _ => True) ?hr ?hp (fun _ hk => hk) trivial (Below.refl _ _) (Nat.le_refl _) (by simp) ?_; (case hd => rfl); (case hg => rfl); (case hr => exact gs_); (case hp => exact (Reps.one (show Kd.M (Kd.int .u64) _ _ _ (IntKind.u64.wrap (Int.tdiv (IntKind.u64.wrap (x5_1 + x6_1)) 2)) [.int .u64 (IntKind.u64.wrap (Int.tdiv (IntKind.u64.wrap (x5_1 + x6_1)) 2))] from rfl) (Reps.none _ _))); intro v508 w7 ho8 hb hg_ hnew_; clear hg_ hnew_; (first | rw [← Ny507.out] at ho8 | (simp only [Int.reduceToNat] at ho8; rw [← Ny507.out] at ho8)); have n0_ := jA.mk (Kd.jS ho8 (jB (bb_ HB))); have n1_ := jA.mk (jC (bb_ HB) hb); clear HB; have HO509 := n0_; have HB := n1_; clear n0_ n1_ hb ho8; obtain ⟨Ao9, co9, eo9⟩ := Kd.jc HO509.out; subst eo9) | ((with_reducible refine jJ (f := 23) rfl ?_); refine jr (some 19) rfl rfl Try.func23 kr_ rfl #[.slice A1 l1.length c1, .slice Ao9 y507.length co9] rfl mt_ ?_; (with_reducible refine (jG.calls k1 _ _ l1 _ _ y507 t510 _ ?side1 ?side2 ?side3 ?side4 A4.out).mono ?_); (case side1 => exact cc_ (Kd.je HR1.out HB.out)); (case side2 => exact HC1.out); (case side3 => exact cc_ (Kd.jI HO509.out).2.2); (case side4 => exact (Kd.jI HO509.out).2.1); rintro e w10 ⟨v511, rfl, ho0, hb⟩; refine ⟨_, rfl, ?_⟩; have n0_ := jA.mk (Kd.jK (rR_ HO509) (Kd.jL ho0) hb); have n1_ := jA.mk (Kd.jS (Kd.jN ho0 (Kd.R_lt (rR_ HO509))) (jB (bb_ HB))); have n2_ := jA.mk (jC (bb_ HB) hb); clear HO509 HB; have HO509 := n0_; have HO512 := n1_; have HB := n2_; clear n0_ n1_ n2_; obtain ⟨Ao11, co11, eo11⟩ := Kd.jc HO512.out; subst eo11) | ((with_reducible refine jJ (f := 103) rfl ?_); refine jr (some 21) rfl rfl Try.func103 kr_ rfl #[.slice Ao11 t510.length co11, .slice A0 l0.length c0] rfl mt_ ?_; (with_reducible refine (jR.calls k1 _ _ t510 _ _ l0 t513 _ ?side1 ?side2 ?side3 ?side4 A5.out).mono ?_); (case side1 => exact cc_ (Kd.jI HO512.out).2.2); (case side2 => exact (Kd.jI HO512.out).2.1); (case side3 => exact cc_ (Kd.je HR0.out HB.out)); (case side4 => exact HC0.out); rintro e w12 ⟨rfl, hb⟩; refine ⟨_, rfl, ?_⟩; have n0_ := jA.mk (Kd.jy (rR_ HO509) hb); have n1_ := jA.mk (Kd.jy (rR_ HO512) hb); have n2_ := jA.mk (jC (bb_ HB) hb); clear HO509 HO512 HB; have HO509 := n0_; have HO512 := n1_; have HB := n2_; clear n0_ n1_ n2_))
     go_roundg k1
     case measure => have := HK1.out; omega
     case rel => exact ⟨(IntKind.u64.wrap (Int.tdiv (IntKind.u64.wrap (x5_1 + x6_1)) 2)), (x6_1), sd_, sd_, H', ⟨by have := HK1.out; omega⟩, ⟨(bb_ HB)⟩⟩
    ·
     rw [if_neg c6] at H
     have c6b0 := decide_eq_false c6
     clear c6
     have H' := jA.mk H
     clear H
     go_wp2_with (first | ((with_reducible refine jl (N := 18) rfl ?_); refine Kd.jAC (Kd.int .u64) _ 22 ?hg (N := 18) ?hd (xs := ([IntKind.u64.wrap (Int.tdiv (IntKind.u64.wrap (x5_1 + x6_1)) 2)] : List Int)) (inner := [.int .u64 (IntKind.u64.wrap (Int.tdiv (IntKind.u64.wrap (x5_1 + x6_1)) 2))]) (ok := fun _ => True) (okp := fun _ => True) ?hr ?hp (fun _ hk => hk) trivial (Below.refl _ _) (Nat.le_refl _) (by simp) ?_; (case hd => rfl); (case hg => rfl); (case hr => exact gs_); (case hp => exact (Reps.one (show Kd.M (Kd.int .u64) _ _ _ (IntKind.u64.wrap (Int.tdiv (IntKind.u64.wrap (x5_1 + x6_1)) 2)) [.int .u64 (IntKind.u64.wrap (Int.tdiv (IntKind.u64.wrap (x5_1 + x6_1)) 2))] from rfl) (Reps.none _ _))); intro v508 w13 ho14 hb hg_ hnew_; clear hg_ hnew_; (first | rw [← Ny507.out] at ho14 | (simp only [Int.reduceToNat] at ho14; rw [← Ny507.out] at ho14)); have n0_ := jA.mk (Kd.jS ho14 (jB (bb_ HB))); have n1_ := jA.mk (jC (bb_ HB) hb); clear HB; have HO509 := n0_; have HB := n1_; clear n0_ n1_ hb ho14; obtain ⟨Ao15, co15, eo15⟩ := Kd.jc HO509.out; subst eo15) | ((with_reducible refine jJ (f := 23) rfl ?_); refine jr (some 19) rfl rfl Try.func23 kr_ rfl #[.slice A1 l1.length c1, .slice Ao15 y507.length co15] rfl mt_ ?_; (with_reducible refine (jG.calls k1 _ _ l1 _ _ y507 t510 _ ?side1 ?side2 ?side3 ?side4 A4.out).mono ?_); (case side1 => exact cc_ (Kd.je HR1.out HB.out)); (case side2 => exact HC1.out); (case side3 => exact cc_ (Kd.jI HO509.out).2.2); (case side4 => exact (Kd.jI HO509.out).2.1); rintro e w16 ⟨v511, rfl, ho0, hb⟩; refine ⟨_, rfl, ?_⟩; have n0_ := jA.mk (Kd.jK (rR_ HO509) (Kd.jL ho0) hb); have n1_ := jA.mk (Kd.jS (Kd.jN ho0 (Kd.R_lt (rR_ HO509))) (jB (bb_ HB))); have n2_ := jA.mk (jC (bb_ HB) hb); clear HO509 HB; have HO509 := n0_; have HO512 := n1_; have HB := n2_; clear n0_ n1_ n2_; obtain ⟨Ao17, co17, eo17⟩ := Kd.jc HO512.out; subst eo17) | ((with_reducible refine jJ (f := 103) rfl ?_); refine jr (some 21) rfl rfl Try.func103 kr_ rfl #[.slice Ao17 t510.length co17, .slice A0 l0.length c0] rfl mt_ ?_; (with_reducible refine (jR.calls k1 _ _ t510 _ _ l0 t513 _ ?side1 ?side2 ?side3 ?side4 A5.out).mono ?_); (case side1 => exact cc_ (Kd.jI HO512.out).2.2); (case side2 => exact (Kd.jI HO512.out).2.1); (case side3 => exact cc_ (Kd.je HR0.out HB.out)); (case side4 => exact HC0.out); rintro e w18 ⟨rfl, hb⟩; refine ⟨_, rfl, ?_⟩; have n0_ := jA.mk (Kd.jy (rR_ HO509) hb); have n1_ := jA.mk (Kd.jy (rR_ HO512) hb); have n2_ := jA.mk (jC (bb_ HB) hb); clear HO509 HO512 HB; have HO509 := n0_; have HO512 := n1_; have HB := n2_; clear n0_ n1_ n2_))
     go_roundg k1
     case measure => have := HK1.out; omega
     case rel => exact ⟨(x5_1), (IntKind.u64.wrap (Int.tdiv (IntKind.u64.wrap (x5_1 + x6_1)) 2)), sd_, sd_, H', ⟨by have := HK1.out; omega⟩, ⟨(bb_ HB)⟩⟩
   ·
    rw [if_neg c3] at H
    have c3b0 := decide_eq_false c3
    clear c3
    obtain rfl := Option.some.inj H
    go_wp2
    go_ret
    exact ⟨ew_, (bb_ HB)⟩

/-! ### jZ: function 105 -/
def jZ.l0 : Nat → List Int → List Int → List Int → Int → Int → Option (List Int × Bool)
 | 0, _, _, _, _, _ => none
 | k + 1, x6, x7, x8, x9, x10 => if x10 < (x6.length : Int) then (if 0 ≤ x10 then ((jf.f x7 x10).bind fun t525 => (if x8.length < 17592186044416 then (jZ.l0 k x6 x7 (x8 ++ [Int.tmod (IntKind.u64.wrap ((IntKind.u64.wrap ((IntKind.u64.wrap ((rd x6 x10) + 4294967296)) - t525)) - x9)) 4294967296]) (IntKind.u64.wrap (1 - (IntKind.u64.wrap (Int.tdiv (IntKind.u64.wrap ((IntKind.u64.wrap ((IntKind.u64.wrap ((rd x6 x10) + 4294967296)) - t525)) - x9)) 4294967296)))) (wrap64 (x10 + 1))) else (none))) else (none)) else ((jO.f k x8).bind fun t529 => (some (t529, true)))
def jZ.f (k : Nat) (l0 : List Int) (l1 : List Int) : Option (List Int × Bool) := (jR.f k l0 l1).bind fun t514 => (if t514 < 0 then (some (([] : List Int), false)) else ((jH.f k l0).bind fun t515 => ((jH.f k l1).bind fun t518 => (jZ.l0 k t515 t518 (([] : List Int)) 0 0))))
theorem jZ.vk : ∀ k, (∀ y0 y1 y2 y3 y4, LeO (jZ.l0 k y0 y1 y2 y3 y4) (jZ.l0 (k + 1) y0 y1 y2 y3 y4))
 | 0 => fun _ _ _ _ _ r h => by simp [jZ.l0] at h
 | k + 1 => by
  have ih0 := jZ.vk k
  ·
   intro y0 y1 y2 y3 y4
   unfold jZ.l0
   repeat' first
   | (with_reducible exact ih0 _ _ _ _ _)
   | (with_reducible exact jR.mono _ _ _)
   | (with_reducible exact jH.mono _ _)
   | (with_reducible exact jO.mono _ _)
   | (with_reducible exact LeO.refl _)
   | (with_reducible exact LeO.none _)
   | (with_reducible refine LeO.ite ?_ ?_)
   | (with_reducible refine LeO.bind ?_ (fun _ => ?_))
theorem jZ.mono : ∀ a0 a1 k, LeO (jZ.f k a0 a1) (jZ.f (k + 1) a0 a1) := by
 intro a0 a1 k
 have ih0 := jZ.vk k
 unfold jZ.f
 repeat' first
   | (with_reducible exact ih0 _ _ _ _ _)
   | (with_reducible exact jR.mono _ _ _)
   | (with_reducible exact jH.mono _ _)
   | (with_reducible exact jO.mono _ _)
   | (with_reducible exact LeO.refl _)
   | (with_reducible exact LeO.none _)
   | (with_reducible refine LeO.ite ?_ ?_)
   | (with_reducible refine LeO.bind ?_ (fun _ => ?_))
theorem jZ.calls (k : Nat) (A0 : Option Addr) (c0 : Nat) (l0 : List Int) (A1 : Option Addr) (c1 : Nat) (l1 : List Int) (r1 : List Int) (r2 : Bool) (w : World) (hr0 : Kd.C (Kd.int .u64) w A0 l0.length l0) (hc0 : l0.length ≤ c0) (hr1 : Kd.C (Kd.int .u64) w A1 l1.length l1) (hc1 : l1.length ≤ c1) (h : jZ.f k l0 l1 = some (r1, r2)) :
  Calls Try.prog 105 #[.slice A0 l0.length c0, .slice A1 l1.length c1] w fun e w' => ∃ v0_ : Value, e = .returned (.tuple #[v0_, .bool r2]) ∧ Kd.R (Kd.int .u64) 22 w' w.heap.size (fun _ => True) v0_ r1 ∧ Below w.heap.size w w' := by
 have HR0 := jA.mk hr0
 have HC0 := jA.mk hc0
 clear hr0 hc0
 have HR1 := jA.mk hr1
 have HC1 := jA.mk hc1
 clear hr1 hc1
 have HB := jA.mk (Below.refl w.heap.size w)
 have H : ((jR.f k l0 l1).bind fun t514 => (if t514 < 0 then (some (([] : List Int), false)) else ((jH.f k l0).bind fun t515 => ((jH.f k l1).bind fun t518 => (jZ.l0 k t515 t518 (([] : List Int)) 0 0))))) = some (r1, r2) := h
 clear h
 replace H := ob_ H
 obtain ⟨t514, A30, H⟩ := H
 try dsimp only at H
 have A3 := jA.mk A30
 clear A30
 by_cases c4 : t514 < 0
 ·
  rw [if_pos c4] at H
  have c4b0 := decide_eq_true c4
  clear c4
  simp only [Option.some.injEq, Prod.mk.injEq] at H
  obtain ⟨rfl, rfl⟩ := H
  go_enter Try.func105, Try.ntmps105
  go_wp2_with (first | (go_at_call 103; (with_reducible refine (jR.calls k _ _ l0 _ _ l1 t514 _ ?side1 ?side2 ?side3 ?side4 A3.out).mono ?_); (case side1 => exact cc_ HR0.out); (case side2 => exact HC0.out); (case side3 => exact cc_ HR1.out); (case side4 => exact HC1.out); rintro e w5 ⟨rfl, hb⟩; have n0_ := jA.mk (jC (bb_ HB) hb); clear HB; have HB := n0_; clear n0_))
  repeat (go_quiet (first | (go_at_call 103; (with_reducible refine (jR.calls k _ _ l0 _ _ l1 t514 _ ?side1 ?side2 ?side3 ?side4 A3.out).mono ?_); (case side1 => exact cc_ HR0.out); (case side2 => exact HC0.out); (case side3 => exact cc_ HR1.out); (case side4 => exact HC1.out); rintro e w5 ⟨rfl, hb⟩; have n0_ := jA.mk (jC (bb_ HB) hb); clear HB; have HB := n0_; clear n0_)); try go_wp2_with (first | (go_at_call 103; (with_reducible refine (jR.calls k _ _ l0 _ _ l1 t514 _ ?side1 ?side2 ?side3 ?side4 A3.out).mono ?_); (case side1 => exact cc_ HR0.out); (case side2 => exact HC0.out); (case side3 => exact cc_ HR1.out); (case side4 => exact HC1.out); rintro e w5 ⟨rfl, hb⟩; have n0_ := jA.mk (jC (bb_ HB) hb); clear HB; have HB := n0_; clear n0_)))
  go_ret2
  exact ⟨_, ew_, nl_, (bb_ HB)⟩
 ·
  rw [if_neg c4] at H
  have c4b0 := decide_eq_false c4
  clear c4
  replace H := ob_ H
  obtain ⟨t515, A60, H⟩ := H
  try dsimp only at H
  have A6 := jA.mk A60
  clear A60
  replace H := ob_ H
  obtain ⟨t518, A70, H⟩ := H
  try dsimp only at H
  have A7 := jA.mk A70
  clear A70
  obtain ⟨y521, hy521⟩ : ∃ y_ : List Int, y_ = (([] : List Int)) := ⟨_, rfl⟩
  replace H : (jZ.l0 k t515 t518 y521 0 0) = some (r1, r2) := by first | (rw [hy521]; with_reducible exact H) | (have H2_ := (Option.bind_some _ _).symm.trans H; rw [hy521]; with_reducible exact H2_) | (with_reducible exact hs_ H) | with_reducible exact H | (rw [hy521]; exact H) | exact H
  have Ny521 := jA.mk hy521
  clear hy521
  have H' := jA.mk H
  clear H
  go_enter Try.func105, Try.ntmps105
  go_wp2_with (first | (go_at_call 103; (with_reducible refine (jR.calls k _ _ l0 _ _ l1 t514 _ ?side1 ?side2 ?side3 ?side4 A3.out).mono ?_); (case side1 => exact cc_ HR0.out); (case side2 => exact HC0.out); (case side3 => exact cc_ HR1.out); (case side4 => exact HC1.out); rintro e w8 ⟨rfl, hb⟩; have n0_ := jA.mk (jC (bb_ HB) hb); clear HB; have HB := n0_; clear n0_) | (go_at_call 68; (with_reducible refine (jH.calls k _ _ l0 t515 _ ?side1 ?side2 A6.out).mono ?_); (case side1 => exact cc_ (Kd.je HR0.out HB.out)); (case side2 => exact HC0.out); rintro e w9 ⟨v516, rfl, ho0, hb⟩; have n0_ := jA.mk (Kd.jS ho0 (jB (bb_ HB))); have n1_ := jA.mk (jC (bb_ HB) hb); clear HB; have HO517 := n0_; have HB := n1_; clear n0_ n1_) | (go_at_call 68; (with_reducible refine (jH.calls k _ _ l1 t518 _ ?side1 ?side2 A7.out).mono ?_); (case side1 => exact cc_ (Kd.je HR1.out HB.out)); (case side2 => exact HC1.out); rintro e w10 ⟨v519, rfl, ho0, hb⟩; have n0_ := jA.mk (Kd.jK (rR_ HO517) (Kd.jL ho0) hb); have n1_ := jA.mk (Kd.jS (Kd.jN ho0 (Kd.R_lt (rR_ HO517))) (jB (bb_ HB))); have n2_ := jA.mk (jC (bb_ HB) hb); clear HO517 HB; have HO517 := n0_; have HO520 := n1_; have HB := n2_; clear n0_ n1_ n2_) | ((with_reducible refine jl (N := 20) rfl ?_); refine Kd.jAC (Kd.int .u64) _ 22 ?hg (N := 20) ?hd (xs := ([] : List Int)) (inner := []) (ok := fun _ => True) (okp := fun _ => True) ?hr ?hp (fun _ hk => hk) trivial (Below.refl _ _) (Nat.le_refl _) (by simp) ?_; (case hd => rfl); (case hg => rfl); (case hr => exact gs_); (case hp => exact (Reps.none _ _)); intro v522 w11 ho12 hb hg_ hnew_; clear hg_ hnew_; (first | rw [← Ny521.out] at ho12 | (simp only [Int.reduceToNat] at ho12; rw [← Ny521.out] at ho12)); have n0_ := jA.mk (Kd.jK (rR_ HO517) (Kd.jL ho12) hb); have n1_ := jA.mk (Kd.jK (rR_ HO520) (Kd.jL ho12) hb); have n2_ := jA.mk (Kd.jS (Kd.jN (Kd.jN ho12 (Kd.R_lt (rR_ HO517))) (Kd.R_lt (rR_ HO520))) (jB (bb_ HB))); have n3_ := jA.mk (jC (bb_ HB) hb); clear HO517 HO520 HB; have HO517 := n0_; have HO520 := n1_; have HO523 := n2_; have HB := n3_; clear n0_ n1_ n2_ n3_ hb ho12))
  repeat (go_quiet (first | (go_at_call 103; (with_reducible refine (jR.calls k _ _ l0 _ _ l1 t514 _ ?side1 ?side2 ?side3 ?side4 A3.out).mono ?_); (case side1 => exact cc_ HR0.out); (case side2 => exact HC0.out); (case side3 => exact cc_ HR1.out); (case side4 => exact HC1.out); rintro e w8 ⟨rfl, hb⟩; have n0_ := jA.mk (jC (bb_ HB) hb); clear HB; have HB := n0_; clear n0_) | (go_at_call 68; (with_reducible refine (jH.calls k _ _ l0 t515 _ ?side1 ?side2 A6.out).mono ?_); (case side1 => exact cc_ (Kd.je HR0.out HB.out)); (case side2 => exact HC0.out); rintro e w9 ⟨v516, rfl, ho0, hb⟩; have n0_ := jA.mk (Kd.jS ho0 (jB (bb_ HB))); have n1_ := jA.mk (jC (bb_ HB) hb); clear HB; have HO517 := n0_; have HB := n1_; clear n0_ n1_) | (go_at_call 68; (with_reducible refine (jH.calls k _ _ l1 t518 _ ?side1 ?side2 A7.out).mono ?_); (case side1 => exact cc_ (Kd.je HR1.out HB.out)); (case side2 => exact HC1.out); rintro e w10 ⟨v519, rfl, ho0, hb⟩; have n0_ := jA.mk (Kd.jK (rR_ HO517) (Kd.jL ho0) hb); have n1_ := jA.mk (Kd.jS (Kd.jN ho0 (Kd.R_lt (rR_ HO517))) (jB (bb_ HB))); have n2_ := jA.mk (jC (bb_ HB) hb); clear HO517 HB; have HO517 := n0_; have HO520 := n1_; have HB := n2_; clear n0_ n1_ n2_) | ((with_reducible refine jl (N := 20) rfl ?_); refine Kd.jAC (Kd.int .u64) _ 22 ?hg (N := 20) ?hd (xs := ([] : List Int)) (inner := []) (ok := fun _ => True) (okp := fun _ => True) ?hr ?hp (fun _ hk => hk) trivial (Below.refl _ _) (Nat.le_refl _) (by simp) ?_; (case hd => rfl); (case hg => rfl); (case hr => exact gs_); (case hp => exact (Reps.none _ _)); intro v522 w11 ho12 hb hg_ hnew_; clear hg_ hnew_; (first | rw [← Ny521.out] at ho12 | (simp only [Int.reduceToNat] at ho12; rw [← Ny521.out] at ho12)); have n0_ := jA.mk (Kd.jK (rR_ HO517) (Kd.jL ho12) hb); have n1_ := jA.mk (Kd.jK (rR_ HO520) (Kd.jL ho12) hb); have n2_ := jA.mk (Kd.jS (Kd.jN (Kd.jN ho12 (Kd.R_lt (rR_ HO517))) (Kd.R_lt (rR_ HO520))) (jB (bb_ HB))); have n3_ := jA.mk (jC (bb_ HB) hb); clear HO517 HO520 HB; have HO517 := n0_; have HO520 := n1_; have HO523 := n2_; have HB := n3_; clear n0_ n1_ n2_ n3_ hb ho12)); try go_wp2_with (first | (go_at_call 103; (with_reducible refine (jR.calls k _ _ l0 _ _ l1 t514 _ ?side1 ?side2 ?side3 ?side4 A3.out).mono ?_); (case side1 => exact cc_ HR0.out); (case side2 => exact HC0.out); (case side3 => exact cc_ HR1.out); (case side4 => exact HC1.out); rintro e w8 ⟨rfl, hb⟩; have n0_ := jA.mk (jC (bb_ HB) hb); clear HB; have HB := n0_; clear n0_) | (go_at_call 68; (with_reducible refine (jH.calls k _ _ l0 t515 _ ?side1 ?side2 A6.out).mono ?_); (case side1 => exact cc_ (Kd.je HR0.out HB.out)); (case side2 => exact HC0.out); rintro e w9 ⟨v516, rfl, ho0, hb⟩; have n0_ := jA.mk (Kd.jS ho0 (jB (bb_ HB))); have n1_ := jA.mk (jC (bb_ HB) hb); clear HB; have HO517 := n0_; have HB := n1_; clear n0_ n1_) | (go_at_call 68; (with_reducible refine (jH.calls k _ _ l1 t518 _ ?side1 ?side2 A7.out).mono ?_); (case side1 => exact cc_ (Kd.je HR1.out HB.out)); (case side2 => exact HC1.out); rintro e w10 ⟨v519, rfl, ho0, hb⟩; have n0_ := jA.mk (Kd.jK (rR_ HO517) (Kd.jL ho0) hb); have n1_ := jA.mk (Kd.jS (Kd.jN ho0 (Kd.R_lt (rR_ HO517))) (jB (bb_ HB))); have n2_ := jA.mk (jC (bb_ HB) hb); clear HO517 HB; have HO517 := n0_; have HO520 := n1_; have HB := n2_; clear n0_ n1_ n2_) | ((with_reducible refine jl (N := 20) rfl ?_); refine Kd.jAC (Kd.int .u64) _ 22 ?hg (N := 20) ?hd (xs := ([] : List Int)) (inner := []) (ok := fun _ => True) (okp := fun _ => True) ?hr ?hp (fun _ hk => hk) trivial (Below.refl _ _) (Nat.le_refl _) (by simp) ?_; (case hd => rfl); (case hg => rfl); (case hr => exact gs_); (case hp => exact (Reps.none _ _)); intro v522 w11 ho12 hb hg_ hnew_; clear hg_ hnew_; (first | rw [← Ny521.out] at ho12 | (simp only [Int.reduceToNat] at ho12; rw [← Ny521.out] at ho12)); have n0_ := jA.mk (Kd.jK (rR_ HO517) (Kd.jL ho12) hb); have n1_ := jA.mk (Kd.jK (rR_ HO520) (Kd.jL ho12) hb); have n2_ := jA.mk (Kd.jS (Kd.jN (Kd.jN ho12 (Kd.R_lt (rR_ HO517))) (Kd.R_lt (rR_ HO520))) (jB (bb_ HB))); have n3_ := jA.mk (jC (bb_ HB) hb); clear HO517 HO520 HB; have HO517 := n0_; have HO520 := n1_; have HO523 := n2_; have HB := n3_; clear n0_ n1_ n2_ n3_ hb ho12)))
  go_loopg [8, 9, 10] k (fun kq v8 v9 v10 w' => ∃ (x8_1 : List Int) (x9_1 : Int) (x10_1 : Int), v9 = .int .u64 x9_1 ∧ v10 = .int .i64 x10_1 ∧ jA (jZ.l0 kq t515 t518 x8_1 x9_1 x10_1 = some (r1, r2)) ∧ jA (kq ≤ k) ∧ jA (Kd.R (Kd.int .u64) 22 w' w.heap.size (fun k_ => some k_ ≠ (v519 : Value).ownBlock ∧ some k_ ≠ (v8 : Value).ownBlock) v516 t515) ∧ jA (Kd.R (Kd.int .u64) 22 w' w.heap.size (fun k_ => some k_ ≠ (v516 : Value).ownBlock ∧ some k_ ≠ (v8 : Value).ownBlock) v519 t518) ∧ jA (Kd.R (Kd.int .u64) 22 w' w.heap.size (fun k_ => some k_ ≠ (v516 : Value).ownBlock ∧ some k_ ≠ (v519 : Value).ownBlock) v8 x8_1) ∧ jA (Below w.heap.size w w'))
  case atStart => exact ⟨(y521), (0), (0), sd_, sd_, H', ⟨Nat.le_refl _⟩, ⟨by (with_reducible repeat (first | apply Kd.zQ | apply Kd.zU | apply Kd.ze)); exact Kd.jP HO517.out (fun _ hk => ⟨hk.1.2, hk.2⟩)⟩, ⟨by (with_reducible repeat (first | apply Kd.zQ | apply Kd.zU | apply Kd.ze)); exact Kd.jP HO520.out (fun _ hk => ⟨hk.1.2, hk.2⟩)⟩, ⟨by (with_reducible repeat (first | apply Kd.zQ | apply Kd.zU | apply Kd.ze)); exact Kd.jP HO523.out (fun _ hk => ⟨hk.1.2, hk.2⟩)⟩, ⟨(bb_ HB)⟩⟩
  case round =>
   clear H'
   try clear c1
   try clear p2
   try clear c4
   try clear c4b0
   try clear c10
   obtain ⟨x8_1, x9_1, x10_1, rfl, rfl, HA, HK1, HO_6, HO_7, HO_8, HB⟩ := hrel
   cases gk with
   | zero => exact absurd HA.out (by simp [jZ.l0])
   | succ k1 =>
    have H := HA.out
    clear HA
    simp only [jZ.l0] at H
    by_cases c13 : x10_1 < (t515.length : Int)
    ·
     rw [if_pos c13] at H
     have c13b0 := decide_eq_true c13
     clear c13
     by_cases c14 : 0 ≤ x10_1
     ·
      rw [if_pos c14] at H
      have c14b0 := decide_eq_true c14
      clear c14
      replace H := ob_ H
      obtain ⟨t525, A150, H⟩ := H
      try dsimp only at H
      have A15 := jA.mk A150
      clear A150
      obtain ⟨ji16, hji16⟩ : ∃ j_ : Int, (Int.tmod (IntKind.u64.wrap ((IntKind.u64.wrap ((IntKind.u64.wrap ((rd t515 x10_1) + 4294967296)) - t525)) - x9_1)) 4294967296) = j_ := ⟨_, rfl⟩
      replace H : (if x8_1.length < 17592186044416 then (jZ.l0 k1 t515 t518 (x8_1 ++ [ji16]) (IntKind.u64.wrap (1 - (IntKind.u64.wrap (Int.tdiv (IntKind.u64.wrap ((IntKind.u64.wrap ((IntKind.u64.wrap ((rd t515 x10_1) + 4294967296)) - t525)) - x9_1)) 4294967296)))) (wrap64 (x10_1 + 1))) else (none)) = some (r1, r2) := by first | (rw [hji16] at H; exact H) | (simp only [hji16] at H ⊢; exact H)
      (try rw [hji16] at A15)
      by_cases c17 : x8_1.length < 17592186044416
      ·
       rw [if_pos c17] at H
       have LMc17 := jA.mk c17
       clear c17
       obtain ⟨y526, hy526⟩ : ∃ y_ : List Int, y_ = (x8_1 ++ [ji16]) := ⟨_, rfl⟩
       replace H : (jZ.l0 k1 t515 t518 y526 (IntKind.u64.wrap (1 - (IntKind.u64.wrap (Int.tdiv (IntKind.u64.wrap ((IntKind.u64.wrap ((IntKind.u64.wrap ((rd t515 x10_1) + 4294967296)) - t525)) - x9_1)) 4294967296)))) (wrap64 (x10_1 + 1))) = some (r1, r2) := by first | (rw [hy526]; with_reducible exact H) | (have H2_ := (Option.bind_some _ _).symm.trans H; rw [hy526]; with_reducible exact H2_) | (with_reducible exact hs_ H) | with_reducible exact H | (rw [hy526]; exact H) | exact H
       have Ny526 := jA.mk hy526
       clear hy526
       have H' := jA.mk H
       clear H
       obtain ⟨Ao18, co18, eo18⟩ := Kd.jc HO_6.out
       subst eo18
       have p524 : 0 ≤ (x10_1 : Int) := of_decide_eq_true am_
       have q524 : x10_1 < (t515.length : Int) := of_decide_eq_true am_
       obtain ⟨ad524, e524, hx524_0⟩ := Kd.zF (Kd.jI HO_6.out).2.2 x10_1 p524 q524
       cases e524
       replace p524 := eq_true p524
       replace q524 := eq_true q524
       obtain ⟨Ao19, co19, eo19⟩ := Kd.jc HO_7.out
       subst eo19
       go_wp2_with (first | (go_at_call 69; (with_reducible refine (jf.calls _ _ t518 x10_1 t525 _ ?side1 ?side2 A15.out).mono ?_); (case side1 => exact cc_ (Kd.jI HO_7.out).2.2); (case side2 => exact (Kd.jI HO_7.out).2.1); rintro e w' ⟨rfl, ⟨nd, rfl⟩⟩; (try first | exact ⟨rfl, _, World.drewN_drewN _ _ _⟩ | exact ⟨rfl, _, Eq.trans (World.drewN_drewN _ _ _) (congrArg (World.drewN _) (Nat.add_assoc _ _ _))⟩)) | ((with_reducible refine vw (b := .append) (xs := #[.tmp 38, .tmp 41]) rfl ?_); at_builtin; refine Kd.qc (Kd.int .u64) (w0 := w) w.heap.size rfl (.tmp 38) (.tmp 41) 35 22 (.int .u64 0) 8 rfl Try.underlying35 qJ rfl (by decide) (by omega) u8 x8_1 ji16 [.int .u64 ji16] (fun k_ => some k_ ≠ (.slice (some ad524) t515.length co18 : Value).ownBlock ∧ some k_ ≠ (.slice Ao19 t518.length co19 : Value).ownBlock) (fun _ => False) rfl rfl ?aP (fun _ hk => hk.elim) ?aF ?aO ?aB ?aS ?aL ?_; (case aP => exact rfl); (case aB => exact (bb_ HB)); (case aF => exact (fun k_ hk => ⟨Kd.fresh' (Kd.R_lt (rR_ HO_6)) k_ hk, Kd.fresh' (Kd.R_lt (rR_ HO_7)) k_ hk⟩)); (case aO => exact (rR_ HO_8)); (case aS => exact (jB (bb_ HB))); (case aL => have := LMc17.out; omega); intro v527 w20 ho hb hg hat; rw [← Ny526.out] at ho; have n0_ := jA.mk (Kd.zX (ok := (fun k_ => some k_ ≠ (.slice Ao19 t518.length co19 : Value).ownBlock)) (rR_ HO_6) hg hat); have n1_ := jA.mk (Kd.zX (ok := (fun k_ => some k_ ≠ (.slice (some ad524) t515.length co18 : Value).ownBlock)) (rR_ HO_7) hg hat); have n2_ := jA.mk (hb); have n3_ := jA.mk (ho); clear HO_6 HO_7 HB HO_8; have HO_6 := n0_; have HO_7 := n1_; have HB := n2_; have HO528 := n3_; clear n0_ n1_ n2_ n3_ ho hb hg hat))
       repeat (go_quiet (first | (go_at_call 69; (with_reducible refine (jf.calls _ _ t518 x10_1 t525 _ ?side1 ?side2 A15.out).mono ?_); (case side1 => exact cc_ (Kd.jI HO_7.out).2.2); (case side2 => exact (Kd.jI HO_7.out).2.1); rintro e w' ⟨rfl, ⟨nd, rfl⟩⟩; (try first | exact ⟨rfl, _, World.drewN_drewN _ _ _⟩ | exact ⟨rfl, _, Eq.trans (World.drewN_drewN _ _ _) (congrArg (World.drewN _) (Nat.add_assoc _ _ _))⟩)) | ((with_reducible refine vw (b := .append) (xs := #[.tmp 38, .tmp 41]) rfl ?_); at_builtin; refine Kd.qc (Kd.int .u64) (w0 := w) w.heap.size rfl (.tmp 38) (.tmp 41) 35 22 (.int .u64 0) 8 rfl Try.underlying35 qJ rfl (by decide) (by omega) u8 x8_1 ji16 [.int .u64 ji16] (fun k_ => some k_ ≠ (.slice (some ad524) t515.length co18 : Value).ownBlock ∧ some k_ ≠ (.slice Ao19 t518.length co19 : Value).ownBlock) (fun _ => False) rfl rfl ?aP (fun _ hk => hk.elim) ?aF ?aO ?aB ?aS ?aL ?_; (case aP => exact rfl); (case aB => exact (bb_ HB)); (case aF => exact (fun k_ hk => ⟨Kd.fresh' (Kd.R_lt (rR_ HO_6)) k_ hk, Kd.fresh' (Kd.R_lt (rR_ HO_7)) k_ hk⟩)); (case aO => exact (rR_ HO_8)); (case aS => exact (jB (bb_ HB))); (case aL => have := LMc17.out; omega); intro v527 w20 ho hb hg hat; rw [← Ny526.out] at ho; have n0_ := jA.mk (Kd.zX (ok := (fun k_ => some k_ ≠ (.slice Ao19 t518.length co19 : Value).ownBlock)) (rR_ HO_6) hg hat); have n1_ := jA.mk (Kd.zX (ok := (fun k_ => some k_ ≠ (.slice (some ad524) t515.length co18 : Value).ownBlock)) (rR_ HO_7) hg hat); have n2_ := jA.mk (hb); have n3_ := jA.mk (ho); clear HO_6 HO_7 HB HO_8; have HO_6 := n0_; have HO_7 := n1_; have HB := n2_; have HO528 := n3_; clear n0_ n1_ n2_ n3_ ho hb hg hat)); try go_wp2_with (first | (go_at_call 69; (with_reducible refine (jf.calls _ _ t518 x10_1 t525 _ ?side1 ?side2 A15.out).mono ?_); (case side1 => exact cc_ (Kd.jI HO_7.out).2.2); (case side2 => exact (Kd.jI HO_7.out).2.1); rintro e w' ⟨rfl, ⟨nd, rfl⟩⟩; (try first | exact ⟨rfl, _, World.drewN_drewN _ _ _⟩ | exact ⟨rfl, _, Eq.trans (World.drewN_drewN _ _ _) (congrArg (World.drewN _) (Nat.add_assoc _ _ _))⟩)) | ((with_reducible refine vw (b := .append) (xs := #[.tmp 38, .tmp 41]) rfl ?_); at_builtin; refine Kd.qc (Kd.int .u64) (w0 := w) w.heap.size rfl (.tmp 38) (.tmp 41) 35 22 (.int .u64 0) 8 rfl Try.underlying35 qJ rfl (by decide) (by omega) u8 x8_1 ji16 [.int .u64 ji16] (fun k_ => some k_ ≠ (.slice (some ad524) t515.length co18 : Value).ownBlock ∧ some k_ ≠ (.slice Ao19 t518.length co19 : Value).ownBlock) (fun _ => False) rfl rfl ?aP (fun _ hk => hk.elim) ?aF ?aO ?aB ?aS ?aL ?_; (case aP => exact rfl); (case aB => exact (bb_ HB)); (case aF => exact (fun k_ hk => ⟨Kd.fresh' (Kd.R_lt (rR_ HO_6)) k_ hk, Kd.fresh' (Kd.R_lt (rR_ HO_7)) k_ hk⟩)); (case aO => exact (rR_ HO_8)); (case aS => exact (jB (bb_ HB))); (case aL => have := LMc17.out; omega); intro v527 w20 ho hb hg hat; rw [← Ny526.out] at ho; have n0_ := jA.mk (Kd.zX (ok := (fun k_ => some k_ ≠ (.slice Ao19 t518.length co19 : Value).ownBlock)) (rR_ HO_6) hg hat); have n1_ := jA.mk (Kd.zX (ok := (fun k_ => some k_ ≠ (.slice (some ad524) t515.length co18 : Value).ownBlock)) (rR_ HO_7) hg hat); have n2_ := jA.mk (hb); have n3_ := jA.mk (ho); clear HO_6 HO_7 HB HO_8; have HO_6 := n0_; have HO_7 := n1_; have HB := n2_; have HO528 := n3_; clear n0_ n1_ n2_ n3_ ho hb hg hat)))
       go_roundg k1
       case measure => have := HK1.out; omega
       case rel => exact ⟨(y526), (IntKind.u64.wrap (1 - (IntKind.u64.wrap (Int.tdiv (IntKind.u64.wrap ((IntKind.u64.wrap ((IntKind.u64.wrap ((rd t515 x10_1) + 4294967296)) - t525)) - x9_1)) 4294967296)))), (wrap64 (x10_1 + 1)), sd_, sd_, H', ⟨by have := HK1.out; omega⟩, ⟨(rR_ HO_6)⟩, ⟨(rR_ HO_7)⟩, ⟨(rR_ HO528)⟩, ⟨(bb_ HB)⟩⟩
      ·
       rw [if_neg c17] at H
       exact absurd H (by simp)
     ·
      rw [if_neg c14] at H
      exact absurd H (by simp)
    ·
     rw [if_neg c13] at H
     have c13b0 := decide_eq_false c13
     clear c13
     replace H := ob_ H
     obtain ⟨t529, A210, H⟩ := H
     try dsimp only at H
     have A21 := jA.mk A210
     clear A210
     simp only [Option.some.injEq, Prod.mk.injEq] at H
     obtain ⟨rfl, rfl⟩ := H
     obtain ⟨Ao22, co22, eo22⟩ := Kd.jc HO_6.out
     subst eo22
     obtain ⟨Ao23, co23, eo23⟩ := Kd.jc HO_8.out
     subst eo23
     go_wp2_with (first | (go_at_call 70; (with_reducible refine (jO.calls k1 _ _ x8_1 t529 _ ?side1 ?side2 A21.out).mono ?_); (case side1 => exact cc_ (Kd.jI HO_8.out).2.2); (case side2 => exact (Kd.jI HO_8.out).2.1); rintro e w24 ⟨v530, rfl, ho0, hb⟩; have n0_ := jA.mk (Kd.jK (rR_ HO_6) (Kd.jL ho0) hb); have n1_ := jA.mk (Kd.jK (rR_ HO_7) (Kd.jL ho0) hb); have n2_ := jA.mk (Kd.jK (rR_ HO_8) (Kd.jL ho0) hb); have n3_ := jA.mk (Kd.jS (Kd.jN (Kd.jN (Kd.jN ho0 (Kd.R_lt (rR_ HO_6))) (Kd.R_lt (rR_ HO_7))) (Kd.R_lt (rR_ HO_8))) (jB (bb_ HB))); have n4_ := jA.mk (jC (bb_ HB) hb); clear HO_6 HO_7 HO_8 HB; have HO_6 := n0_; have HO_7 := n1_; have HO_8 := n2_; have HO531 := n3_; have HB := n4_; clear n0_ n1_ n2_ n3_ n4_))
     repeat (go_quiet (first | (go_at_call 70; (with_reducible refine (jO.calls k1 _ _ x8_1 t529 _ ?side1 ?side2 A21.out).mono ?_); (case side1 => exact cc_ (Kd.jI HO_8.out).2.2); (case side2 => exact (Kd.jI HO_8.out).2.1); rintro e w24 ⟨v530, rfl, ho0, hb⟩; have n0_ := jA.mk (Kd.jK (rR_ HO_6) (Kd.jL ho0) hb); have n1_ := jA.mk (Kd.jK (rR_ HO_7) (Kd.jL ho0) hb); have n2_ := jA.mk (Kd.jK (rR_ HO_8) (Kd.jL ho0) hb); have n3_ := jA.mk (Kd.jS (Kd.jN (Kd.jN (Kd.jN ho0 (Kd.R_lt (rR_ HO_6))) (Kd.R_lt (rR_ HO_7))) (Kd.R_lt (rR_ HO_8))) (jB (bb_ HB))); have n4_ := jA.mk (jC (bb_ HB) hb); clear HO_6 HO_7 HO_8 HB; have HO_6 := n0_; have HO_7 := n1_; have HO_8 := n2_; have HO531 := n3_; have HB := n4_; clear n0_ n1_ n2_ n3_ n4_)); try go_wp2_with (first | (go_at_call 70; (with_reducible refine (jO.calls k1 _ _ x8_1 t529 _ ?side1 ?side2 A21.out).mono ?_); (case side1 => exact cc_ (Kd.jI HO_8.out).2.2); (case side2 => exact (Kd.jI HO_8.out).2.1); rintro e w24 ⟨v530, rfl, ho0, hb⟩; have n0_ := jA.mk (Kd.jK (rR_ HO_6) (Kd.jL ho0) hb); have n1_ := jA.mk (Kd.jK (rR_ HO_7) (Kd.jL ho0) hb); have n2_ := jA.mk (Kd.jK (rR_ HO_8) (Kd.jL ho0) hb); have n3_ := jA.mk (Kd.jS (Kd.jN (Kd.jN (Kd.jN ho0 (Kd.R_lt (rR_ HO_6))) (Kd.R_lt (rR_ HO_7))) (Kd.R_lt (rR_ HO_8))) (jB (bb_ HB))); have n4_ := jA.mk (jC (bb_ HB) hb); clear HO_6 HO_7 HO_8 HB; have HO_6 := n0_; have HO_7 := n1_; have HO_8 := n2_; have HO531 := n3_; have HB := n4_; clear n0_ n1_ n2_ n3_ n4_)))
     go_ret2
     exact ⟨_, ew_, by refine pR_ ?_; exact Kd.jP HO531.out (fun _ hk => trivial), (bb_ HB)⟩

end Go.Proofs.Ytijgeonhbmgikaa.PORatioSums
