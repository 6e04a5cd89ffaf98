-- printed (pr.py)
import Derived.Test.YtijgeonhbmgikaaPORatioMakesx15
namespace Go.Proofs.Ytijgeonhbmgikaa.PORatioMakes
open Go.RowKit Go.Proofs.YtijgeonhbmgikaaN Go.Proofs.YtijgeonhbmgikaaW.PrintWords Go.Proofs.YtijgeonhbmgikaaW.PrintLast Go.Proofs.YtijgeonhbmgikaaW.PrintMore
attribute [local go_sem] qJ qH qd qc zo zn qI qG
set_option maxHeartbeats 8000000
set_option maxRecDepth 100000
set_option linter.unusedVariables false
set_option linter.unusedSimpArgs false
def jh.j0 : Nat → Bool → Bool → List Int → List Int → Option (Bool)
 | 0, _, _, _, _ => none
 | k + 1, x20, x629000, x629001, x629002 => if x20 = true then (some false) else ((jT.f k x629001 x629002).bind fun bt631 => ((vI.f k bt631.1 (([1] : List Int))).bind fun t638 => (if t638 = true then (if x629000 = true then (some (!((x629001.length : Int) == 0))) else (some (!false))) else (some false))))
def jh.f (k : Nat) (a0_0 : Bool) (l0_1 : List Int) (l0_2 : List Int) : Option (Bool) := (jk.f l0_1).bind fun t629 => (if t629 = true then ((jk.f l0_2).bind fun t630 => (if t630 = true then (jh.j0 k ((l0_2.length : Int) == 0) a0_0 l0_1 l0_2) else (jh.j0 k true a0_0 l0_1 l0_2))) else (jh.j0 k true a0_0 l0_1 l0_2))
theorem jh.vQ : ∀ k, (∀ y0 y1 y2 y3, LeO (jh.j0 k y0 y1 y2 y3) (jh.j0 (k + 1) y0 y1 y2 y3))
 | 0 => fun _ _ _ _ r h => by simp [jh.j0] at h
 | k + 1 => by
  have ih0 := jh.vQ k
  ·
   intro y0 y1 y2 y3
   unfold jh.j0
   repeat' first
   | (with_reducible exact ih0 _ _ _ _)
   | (with_reducible exact vI.mono _ _ _)
   | (with_reducible exact jT.mono _ _ _)
   | (with_reducible exact LeO.refl _)
   | (with_reducible exact LeO.none _)
   | (with_reducible refine LeO.ite ?_ ?_)
   | (with_reducible refine LeO.bind ?_ (fun _ => ?_))
theorem jh.mono : ∀ a0 a1 a2 k, LeO (jh.f k a0 a1 a2) (jh.f (k + 1) a0 a1 a2) := by
 intro a0 a1 a2 k
 have ih0 := jh.vQ k
 unfold jh.f
 repeat' first
   | (with_reducible exact ih0 _ _ _ _)
   | (with_reducible exact vI.mono _ _ _)
   | (with_reducible exact jT.mono _ _ _)
   | (with_reducible exact LeO.refl _)
   | (with_reducible exact LeO.none _)
   | (with_reducible refine LeO.ite ?_ ?_)
   | (with_reducible refine LeO.bind ?_ (fun _ => ?_))
theorem jh.calls (k : Nat) (a0_0 : Bool) (A0_1 : Option Addr) (c0_1 : Nat) (l0_1 : List Int) (A0_2 : Option Addr) (c0_2 : Nat) (l0_2 : List Int) (r : Bool) (w : World) (hr0_1 : Kd.C (Kd.int .u64) w A0_1 l0_1.length l0_1) (hc0_1 : l0_1.length ≤ c0_1) (hr0_2 : Kd.C (Kd.int .u64) w A0_2 l0_2.length l0_2) (hc0_2 : l0_2.length ≤ c0_2) (h : jh.f k a0_0 l0_1 l0_2 = some r) :
  Calls Try.prog 76 #[.agg #[.bool a0_0, .slice A0_1 l0_1.length c0_1, .slice A0_2 l0_2.length c0_2]] w fun e w' => e = .returned (.bool r) ∧ Below w.heap.size w w' := by
 have hu44 := Try.underlying44
 have HR0_1 := jA.mk hr0_1
 have HC0_1 := jA.mk hc0_1
 clear hr0_1 hc0_1
 have HR0_2 := jA.mk hr0_2
 have HC0_2 := jA.mk hc0_2
 clear hr0_2 hc0_2
 have HB := jA.mk (Below.refl w.heap.size w)
 have H : ((jk.f l0_1).bind fun t629 => (if t629 = true then ((jk.f l0_2).bind fun t630 => (if t630 = true then (jh.j0 k ((l0_2.length : Int) == 0) a0_0 l0_1 l0_2) else (jh.j0 k true a0_0 l0_1 l0_2))) else (jh.j0 k true a0_0 l0_1 l0_2))) = some r := h
 clear h
 have HC2 := jA.mk H
 clear H
 go_enter Try.func76, Try.ntmps76
 go_upto_region 1 with (first | ((with_reducible refine jW (N := 1) rfl ?_); (try (refine je (by rfl) ?_; dsimp only)); refine bx_ 1 #[.bool a0_0, .slice A0_1 l0_1.length c0_1, .slice A0_2 l0_2.length c0_2] 44 ?_; intro gb628 hg w3 hbox hb; have BK628 := jA.mk (hbox); have GW628 := jA.mk ((by rw [hg]; exact (jB (bb_ HB)) : w.heap.size ≤ gb628)); have GE628 := GW628; replace HB := bs_ HB hb; clear hb hbox hg))
 (try simp only [Act.put, ss_])
 go_cut [20] (fun v20 wc => ∃ (kq : Nat) (x20_1 : Bool), v20 = .bool x20_1 ∧ jA (jh.j0 kq x20_1 a0_0 l0_1 l0_2 = some r) ∧ jA (kq ≤ k) ∧ jA (wc.heap[gb628]? = some (.cells #[.bool a0_0, (.slice A0_1 l0_1.length c0_1), (.slice A0_2 l0_2.length c0_2)] 44 (0, 0))) ∧ jA (Below w.heap.size w wc))
 case first =>
  have H := HC2.out
  clear HC2
  obtain ⟨t629, A4, H⟩ := oc_ H
  try dsimp only at H
  by_cases c5 : t629 = true
  ·
   subst c5
   replace H := ip_ H
   obtain ⟨t630, A6, H⟩ := oc_ H
   try dsimp only at H
   by_cases c7 : t630 = true
   ·
    subst c7
    replace H := ip_ H
    have H' := jA.mk H
    clear H
    have hcz8_0 : w3.cell? ⟨gb628, 0, none⟩ = some (.bool a0_0) := (jI BK628.out 0).trans rfl
    have hcz8_1 : w3.cell? ⟨gb628, 1, none⟩ = some (.slice A0_1 l0_1.length c0_1) := (jI BK628.out 1).trans rfl
    have hcz8_2 : w3.cell? ⟨gb628, 2, none⟩ = some (.slice A0_2 l0_2.length c0_2) := (jI BK628.out 2).trans rfl
    have hfz8_0 := jK BK628.out 0
    have hfz8_1 := jK BK628.out 1
    have hfz8_2 := jK BK628.out 2
    go_wp2_with (first | ((with_reducible refine jD (f := 74) rfl ?_); refine gl_ (some 7) Try.func74 #[.slice A0_1 l0_1.length c0_1] ?_; (with_reducible refine (jk.calls _ _ l0_1 true _ ?side1 ?side2 A4.out).mono ?_); (case side1 => exact cb_ HR0_1 HB); (case side2 => exact HC0_1.out); rintro e w' ⟨rfl, ⟨nd, rfl⟩⟩; refine ⟨_, rfl, ?_⟩) | ((with_reducible refine jW (N := 12) rfl ?_); (try (refine je (by rfl) ?_; dsimp only)); refine je (by first | rfl | kernel_rfl) ?_; dsimp only; (with_reducible refine jD (f := 74) rfl ?_); refine gl_ (some 12) Try.func74 #[.slice A0_2 l0_2.length c0_2] ?_; (with_reducible refine (jk.calls _ _ l0_2 true _ ?side1 ?side2 A6.out).mono ?_); (case side1 => repeat (first | exact (Kd.zT HR0_2.out (bb1_ HB GE628)) | (with_reducible refine Kd.zR ?_ _) | (with_reducible refine Kd.zV ?_ _) | (with_reducible refine Kd.zw ?_))); (case side2 => exact HC0_2.out); rintro e w' ⟨rfl, ⟨nd, rfl⟩⟩; refine ⟨_, rfl, ?_⟩))
    go_meet
    case rel => exact ⟨_, (((l0_2.length : Int) == 0)), sd_, H', ⟨by first | omega | exact Nat.le_refl _⟩, ⟨by (with_reducible repeat (first | refine zU ?_ _ | refine vN ?_ | refine vT ?_ _)); exact BK628.out⟩, ⟨(bb1_ HB GE628)⟩⟩
   ·
    replace c7 := Bool.eq_false_iff.mpr c7
    subst c7
    replace H := in_ H
    have H' := jA.mk H
    clear H
    have hcz9_0 : w3.cell? ⟨gb628, 0, none⟩ = some (.bool a0_0) := (jI BK628.out 0).trans rfl
    have hcz9_1 : w3.cell? ⟨gb628, 1, none⟩ = some (.slice A0_1 l0_1.length c0_1) := (jI BK628.out 1).trans rfl
    have hcz9_2 : w3.cell? ⟨gb628, 2, none⟩ = some (.slice A0_2 l0_2.length c0_2) := (jI BK628.out 2).trans rfl
    have hfz9_0 := jK BK628.out 0
    have hfz9_1 := jK BK628.out 1
    have hfz9_2 := jK BK628.out 2
    go_wp2_with (first | ((with_reducible refine jD (f := 74) rfl ?_); refine gl_ (some 7) Try.func74 #[.slice A0_1 l0_1.length c0_1] ?_; (with_reducible refine (jk.calls _ _ l0_1 true _ ?side1 ?side2 A4.out).mono ?_); (case side1 => exact cb_ HR0_1 HB); (case side2 => exact HC0_1.out); rintro e w' ⟨rfl, ⟨nd, rfl⟩⟩; refine ⟨_, rfl, ?_⟩) | ((with_reducible refine jW (N := 12) rfl ?_); (try (refine je (by rfl) ?_; dsimp only)); refine je (by first | rfl | kernel_rfl) ?_; dsimp only; (with_reducible refine jD (f := 74) rfl ?_); refine gl_ (some 12) Try.func74 #[.slice A0_2 l0_2.length c0_2] ?_; (with_reducible refine (jk.calls _ _ l0_2 false _ ?side1 ?side2 A6.out).mono ?_); (case side1 => repeat (first | exact (Kd.zT HR0_2.out (bb1_ HB GE628)) | (with_reducible refine Kd.zR ?_ _) | (with_reducible refine Kd.zV ?_ _) | (with_reducible refine Kd.zw ?_))); (case side2 => exact HC0_2.out); rintro e w' ⟨rfl, ⟨nd, rfl⟩⟩; refine ⟨_, rfl, ?_⟩))
    go_meet
    case rel => exact ⟨_, (true), sd_, H', ⟨by first | omega | exact Nat.le_refl _⟩, ⟨by (with_reducible repeat (first | refine zU ?_ _ | refine vN ?_ | refine vT ?_ _)); exact BK628.out⟩, ⟨(bb1_ HB GE628)⟩⟩
  ·
   replace c5 := Bool.eq_false_iff.mpr c5
   subst c5
   replace H := in_ H
   have H' := jA.mk H
   clear H
   have hcz10_0 : w3.cell? ⟨gb628, 0, none⟩ = some (.bool a0_0) := (jI BK628.out 0).trans rfl
   have hcz10_1 : w3.cell? ⟨gb628, 1, none⟩ = some (.slice A0_1 l0_1.length c0_1) := (jI BK628.out 1).trans rfl
   have hcz10_2 : w3.cell? ⟨gb628, 2, none⟩ = some (.slice A0_2 l0_2.length c0_2) := (jI BK628.out 2).trans rfl
   have hfz10_0 := jK BK628.out 0
   have hfz10_1 := jK BK628.out 1
   have hfz10_2 := jK BK628.out 2
   go_wp2_with (first | ((with_reducible refine jD (f := 74) rfl ?_); refine gl_ (some 7) Try.func74 #[.slice A0_1 l0_1.length c0_1] ?_; (with_reducible refine (jk.calls _ _ l0_1 false _ ?side1 ?side2 A4.out).mono ?_); (case side1 => exact cb_ HR0_1 HB); (case side2 => exact HC0_1.out); rintro e w' ⟨rfl, ⟨nd, rfl⟩⟩; refine ⟨_, rfl, ?_⟩))
   go_meet
   case rel => exact ⟨_, (true), sd_, H', ⟨by first | omega | exact Nat.le_refl _⟩, ⟨by (with_reducible repeat (first | refine zU ?_ _ | refine vN ?_ | refine vT ?_ _)); exact BK628.out⟩, ⟨(bb1_ HB GE628)⟩⟩
 case rest =>
  clear HC2
  try clear p2
  try clear c5
  try clear c7
  try clear hcz10_0
  try clear hcz10_1
  try clear hcz10_2
  try clear hcz8_0
  try clear hcz8_1
  try clear hcz8_2
  try clear hcz9_0
  try clear hcz9_1
  try clear hcz9_2
  try clear hfz10_0
  try clear hfz10_1
  try clear hfz10_2
  try clear hfz8_0
  try clear hfz8_1
  try clear hfz8_2
  try clear hfz9_0
  try clear hfz9_1
  try clear hfz9_2
  obtain ⟨kq, x20_1, rfl, HA, HJ1, BK628, HB⟩ := hcut
  cases kq with
  | zero => exact absurd HA.out (by simp [jh.j0])
  | succ kj1 =>
   have H := HA.out
   clear HA
   simp only [jh.j0] at H
   by_cases c11 : x20_1 = true
   ·
    subst c11
    replace H := ip_ H
    obtain rfl := Option.some.inj H
    go_wp2
    go_ret
    exact ⟨ew_, (bb1_ HB GE628)⟩
   ·
    replace c11 := Bool.eq_false_iff.mpr c11
    subst c11
    replace H := in_ H
    replace H := ob_ H
    obtain ⟨⟨t631, t634⟩, A120, H⟩ := H
    try dsimp only at H
    have A12 := jA.mk A120
    clear A120
    obtain ⟨y635, hy635⟩ : ∃ y_ : List Int, y_ = (([1] : List Int)) := ⟨_, rfl⟩
    replace H : ((vI.f kj1 t631 y635).bind fun t638 => (if t638 = true then (if a0_0 = true then (some (!((l0_1.length : Int) == 0))) else (some (!false))) else (some false))) = some r := by first | (rw [hy635]; with_reducible exact H) | (have H2_ := (Option.bind_some _ _).symm.trans H; rw [hy635]; with_reducible exact H2_) | (with_reducible exact hs_ H) | with_reducible exact H | (rw [hy635]; exact H) | exact H
    have Ny635 := jA.mk hy635
    clear hy635
    obtain ⟨t638, A13, H⟩ := oc_ H
    try dsimp only at H
    by_cases c14 : t638 = true
    ·
     subst c14
     replace H := ip_ H
     by_cases c15 : a0_0 = true
     ·
      subst c15
      replace H := ip_ H
      obtain rfl := Option.some.inj H
      have hcz16_0 : wc.cell? ⟨gb628, 0, none⟩ = some (.bool true) := (jI BK628.out 0).trans rfl
      have hcz16_1 : wc.cell? ⟨gb628, 1, none⟩ = some (.slice A0_1 l0_1.length c0_1) := (jI BK628.out 1).trans rfl
      have hcz16_2 : wc.cell? ⟨gb628, 2, none⟩ = some (.slice A0_2 l0_2.length c0_2) := (jI BK628.out 2).trans rfl
      have hfz16_0 := jK BK628.out 0
      have hfz16_1 := jK BK628.out 1
      have hfz16_2 := jK BK628.out 2
      go_wp2_with (first | ((with_reducible refine jD (f := 77) rfl ?_); refine gl_ (some 26) Try.func77 #[.slice A0_1 l0_1.length c0_1, .slice A0_2 l0_2.length c0_2] ?_; (with_reducible refine (jT.calls kj1 (fun k_ => k_ < w.heap.size) _ _ l0_1 (fun k_ => k_ < w.heap.size) _ _ l0_2 t631 t634 _ ?side1 ?side2 A12.out).mono ?_); (case side1 => exact Kd.V_mk HC0_1.out (Kd.zZ (Kd.C_F (Kd.zI .u64) HR0_1.out) (bb1_ HB GE628))); (case side2 => exact Kd.V_mk HC0_2.out (Kd.zZ (Kd.C_F (Kd.zI .u64) HR0_2.out) (bb1_ HB GE628))); rintro e w17 ⟨v632, rfl, ho0, hb⟩; refine ⟨_, rfl, ?_⟩; have HO633 := jA.mk (Kd.zf (Kd.zF (ok' := fun k_ => k_ ≠ gb628) ho0 (fun k_ hk_ => Or.elim hk_ (fun hs_ => Or.elim hs_ (fun hs_ => fun e_ => Nat.not_le.2 hs_ (by rw [e_]; exact GW628.out)) (fun hs_ => fun e_ => Nat.not_le.2 hs_ (by rw [e_]; exact GW628.out))) (fun hn_ => (Kd.jAQ (g := gb628) (o := .cells #[.bool true, .slice A0_1 l0_1.length c0_1, .slice A0_2 l0_2.length c0_2] 44 (0, 0)) (kb_ BK628) k_ hn_)))) (jB (bb1_ HB GE628))); replace BK628 := bk_ BK628 hb; replace HB := jA.mk (jJ (bb1_ HB GE628) hb)) | ((with_reducible refine jW (N := 30) rfl ?_); (try (refine je (by rfl) ?_; dsimp only)); refine Kd.qy (Kd.int .u64) _ 22 ?hg (N := 30) ?hd (xs := ([1] : List Int)) (inner := [.int .u64 1]) (ok := fun _ => True) (okp := fun _ => True) ?hr ?hp (fun _ hk => hk) trivial (Below.refl _ _) (Nat.le_refl _) (by simp) ?_; (case hd => rfl); (case hg => rfl); (case hr => exact gs_); (case hp => exact (Reps.one (show Kd.M (Kd.int .u64) _ _ _ 1 [.int .u64 1] from rfl) (Reps.none _ _))); intro v636 w18 ho19 hb hg_ hnew_; clear hg_ hnew_; (first | rw [← Ny635.out] at ho19 | (simp only [Int.reduceToNat] at ho19; rw [← Ny635.out] at ho19)); replace HO633 := jA.mk (Kd.zx (rV_ HO633) (Kd.jY ho19) hb); have HO637 := jA.mk (Kd.jL ho19 (jB (bb1_ HB GE628))); replace BK628 := bk_ BK628 hb; replace HB := jA.mk (jJ (bb1_ HB GE628) hb); clear hb ho19; obtain ⟨Ao20, co20, rfl⟩ := Kd.zX HO633.out; obtain ⟨Ao21, co21, rfl⟩ := Kd.jP HO637.out) | ((with_reducible refine jD (f := 47) rfl ?_); refine gl_ (some 31) Try.func47 #[.slice Ao20 t631.length co20, .slice Ao21 y635.length co21] ?_; (with_reducible refine (vI.calls kj1 _ _ t631 _ _ y635 true _ ?side1 ?side2 ?side3 ?side4 A13.out).mono ?_); (case side1 => repeat (first | exact (Kd.vG HO633.out).2.2 | (with_reducible refine Kd.zR ?_ _) | (with_reducible refine Kd.zV ?_ _) | (with_reducible refine Kd.zw ?_))); (case side2 => exact (Kd.vG HO633.out).2.1); (case side3 => exact cc_ (Kd.jC HO637.out).2.2); (case side4 => exact (Kd.jC HO637.out).2.1); rintro e w' ⟨rfl, ⟨nd, rfl⟩⟩; refine ⟨_, rfl, ?_⟩; obtain ⟨hcz22_0, hcz22_1, hcz22_2, hfz22_0, hfz22_1, hfz22_2⟩ := bf3_ BK628))
      go_ret
      exact ⟨ew_, (bb1_ HB GE628)⟩
     ·
      replace c15 := Bool.eq_false_iff.mpr c15
      subst c15
      replace H := in_ H
      obtain rfl := Option.some.inj H
      have hcz23_0 : wc.cell? ⟨gb628, 0, none⟩ = some (.bool false) := (jI BK628.out 0).trans rfl
      have hcz23_1 : wc.cell? ⟨gb628, 1, none⟩ = some (.slice A0_1 l0_1.length c0_1) := (jI BK628.out 1).trans rfl
      have hcz23_2 : wc.cell? ⟨gb628, 2, none⟩ = some (.slice A0_2 l0_2.length c0_2) := (jI BK628.out 2).trans rfl
      have hfz23_0 := jK BK628.out 0
      have hfz23_1 := jK BK628.out 1
      have hfz23_2 := jK BK628.out 2
      go_wp2_with (first | ((with_reducible refine jD (f := 77) rfl ?_); refine gl_ (some 26) Try.func77 #[.slice A0_1 l0_1.length c0_1, .slice A0_2 l0_2.length c0_2] ?_; (with_reducible refine (jT.calls kj1 (fun k_ => k_ < w.heap.size) _ _ l0_1 (fun k_ => k_ < w.heap.size) _ _ l0_2 t631 t634 _ ?side1 ?side2 A12.out).mono ?_); (case side1 => exact Kd.V_mk HC0_1.out (Kd.zZ (Kd.C_F (Kd.zI .u64) HR0_1.out) (bb1_ HB GE628))); (case side2 => exact Kd.V_mk HC0_2.out (Kd.zZ (Kd.C_F (Kd.zI .u64) HR0_2.out) (bb1_ HB GE628))); rintro e w24 ⟨v632, rfl, ho0, hb⟩; refine ⟨_, rfl, ?_⟩; have HO633 := jA.mk (Kd.zf (Kd.zF (ok' := fun k_ => k_ ≠ gb628) ho0 (fun k_ hk_ => Or.elim hk_ (fun hs_ => Or.elim hs_ (fun hs_ => fun e_ => Nat.not_le.2 hs_ (by rw [e_]; exact GW628.out)) (fun hs_ => fun e_ => Nat.not_le.2 hs_ (by rw [e_]; exact GW628.out))) (fun hn_ => (Kd.jAQ (g := gb628) (o := .cells #[.bool false, .slice A0_1 l0_1.length c0_1, .slice A0_2 l0_2.length c0_2] 44 (0, 0)) (kb_ BK628) k_ hn_)))) (jB (bb1_ HB GE628))); replace BK628 := bk_ BK628 hb; replace HB := jA.mk (jJ (bb1_ HB GE628) hb)) | ((with_reducible refine jW (N := 30) rfl ?_); (try (refine je (by rfl) ?_; dsimp only)); refine Kd.qy (Kd.int .u64) _ 22 ?hg (N := 30) ?hd (xs := ([1] : List Int)) (inner := [.int .u64 1]) (ok := fun _ => True) (okp := fun _ => True) ?hr ?hp (fun _ hk => hk) trivial (Below.refl _ _) (Nat.le_refl _) (by simp) ?_; (case hd => rfl); (case hg => rfl); (case hr => exact gs_); (case hp => exact (Reps.one (show Kd.M (Kd.int .u64) _ _ _ 1 [.int .u64 1] from rfl) (Reps.none _ _))); intro v636 w25 ho26 hb hg_ hnew_; clear hg_ hnew_; (first | rw [← Ny635.out] at ho26 | (simp only [Int.reduceToNat] at ho26; rw [← Ny635.out] at ho26)); replace HO633 := jA.mk (Kd.zx (rV_ HO633) (Kd.jY ho26) hb); have HO637 := jA.mk (Kd.jL ho26 (jB (bb1_ HB GE628))); replace BK628 := bk_ BK628 hb; replace HB := jA.mk (jJ (bb1_ HB GE628) hb); clear hb ho26; obtain ⟨Ao27, co27, rfl⟩ := Kd.zX HO633.out; obtain ⟨Ao28, co28, rfl⟩ := Kd.jP HO637.out) | ((with_reducible refine jD (f := 47) rfl ?_); refine gl_ (some 31) Try.func47 #[.slice Ao27 t631.length co27, .slice Ao28 y635.length co28] ?_; (with_reducible refine (vI.calls kj1 _ _ t631 _ _ y635 true _ ?side1 ?side2 ?side3 ?side4 A13.out).mono ?_); (case side1 => repeat (first | exact (Kd.vG HO633.out).2.2 | (with_reducible refine Kd.zR ?_ _) | (with_reducible refine Kd.zV ?_ _) | (with_reducible refine Kd.zw ?_))); (case side2 => exact (Kd.vG HO633.out).2.1); (case side3 => exact cc_ (Kd.jC HO637.out).2.2); (case side4 => exact (Kd.jC HO637.out).2.1); rintro e w' ⟨rfl, ⟨nd, rfl⟩⟩; refine ⟨_, rfl, ?_⟩; obtain ⟨hcz29_0, hcz29_1, hcz29_2, hfz29_0, hfz29_1, hfz29_2⟩ := bf3_ BK628))
      go_ret
      exact ⟨ew_, (bb1_ HB GE628)⟩
    ·
     replace c14 := Bool.eq_false_iff.mpr c14
     subst c14
     replace H := in_ H
     obtain rfl := Option.some.inj H
     have hcz30_0 : wc.cell? ⟨gb628, 0, none⟩ = some (.bool a0_0) := (jI BK628.out 0).trans rfl
     have hcz30_1 : wc.cell? ⟨gb628, 1, none⟩ = some (.slice A0_1 l0_1.length c0_1) := (jI BK628.out 1).trans rfl
     have hcz30_2 : wc.cell? ⟨gb628, 2, none⟩ = some (.slice A0_2 l0_2.length c0_2) := (jI BK628.out 2).trans rfl
     have hfz30_0 := jK BK628.out 0
     have hfz30_1 := jK BK628.out 1
     have hfz30_2 := jK BK628.out 2
     go_wp2_with (first | ((with_reducible refine jD (f := 77) rfl ?_); refine gl_ (some 26) Try.func77 #[.slice A0_1 l0_1.length c0_1, .slice A0_2 l0_2.length c0_2] ?_; (with_reducible refine (jT.calls kj1 (fun k_ => k_ < w.heap.size) _ _ l0_1 (fun k_ => k_ < w.heap.size) _ _ l0_2 t631 t634 _ ?side1 ?side2 A12.out).mono ?_); (case side1 => exact Kd.V_mk HC0_1.out (Kd.zZ (Kd.C_F (Kd.zI .u64) HR0_1.out) (bb1_ HB GE628))); (case side2 => exact Kd.V_mk HC0_2.out (Kd.zZ (Kd.C_F (Kd.zI .u64) HR0_2.out) (bb1_ HB GE628))); rintro e w31 ⟨v632, rfl, ho0, hb⟩; refine ⟨_, rfl, ?_⟩; have HO633 := jA.mk (Kd.zf (Kd.zF (ok' := fun k_ => k_ ≠ gb628) ho0 (fun k_ hk_ => Or.elim hk_ (fun hs_ => Or.elim hs_ (fun hs_ => fun e_ => Nat.not_le.2 hs_ (by rw [e_]; exact GW628.out)) (fun hs_ => fun e_ => Nat.not_le.2 hs_ (by rw [e_]; exact GW628.out))) (fun hn_ => (Kd.jAQ (g := gb628) (o := .cells #[.bool a0_0, .slice A0_1 l0_1.length c0_1, .slice A0_2 l0_2.length c0_2] 44 (0, 0)) (kb_ BK628) k_ hn_)))) (jB (bb1_ HB GE628))); replace BK628 := bk_ BK628 hb; replace HB := jA.mk (jJ (bb1_ HB GE628) hb)) | ((with_reducible refine jW (N := 30) rfl ?_); (try (refine je (by rfl) ?_; dsimp only)); refine Kd.qy (Kd.int .u64) _ 22 ?hg (N := 30) ?hd (xs := ([1] : List Int)) (inner := [.int .u64 1]) (ok := fun _ => True) (okp := fun _ => True) ?hr ?hp (fun _ hk => hk) trivial (Below.refl _ _) (Nat.le_refl _) (by simp) ?_; (case hd => rfl); (case hg => rfl); (case hr => exact gs_); (case hp => exact (Reps.one (show Kd.M (Kd.int .u64) _ _ _ 1 [.int .u64 1] from rfl) (Reps.none _ _))); intro v636 w32 ho33 hb hg_ hnew_; clear hg_ hnew_; (first | rw [← Ny635.out] at ho33 | (simp only [Int.reduceToNat] at ho33; rw [← Ny635.out] at ho33)); replace HO633 := jA.mk (Kd.zx (rV_ HO633) (Kd.jY ho33) hb); have HO637 := jA.mk (Kd.jL ho33 (jB (bb1_ HB GE628))); replace BK628 := bk_ BK628 hb; replace HB := jA.mk (jJ (bb1_ HB GE628) hb); clear hb ho33; obtain ⟨Ao34, co34, rfl⟩ := Kd.zX HO633.out; obtain ⟨Ao35, co35, rfl⟩ := Kd.jP HO637.out) | ((with_reducible refine jD (f := 47) rfl ?_); refine gl_ (some 31) Try.func47 #[.slice Ao34 t631.length co34, .slice Ao35 y635.length co35] ?_; (with_reducible refine (vI.calls kj1 _ _ t631 _ _ y635 false _ ?side1 ?side2 ?side3 ?side4 A13.out).mono ?_); (case side1 => repeat (first | exact (Kd.vG HO633.out).2.2 | (with_reducible refine Kd.zR ?_ _) | (with_reducible refine Kd.zV ?_ _) | (with_reducible refine Kd.zw ?_))); (case side2 => exact (Kd.vG HO633.out).2.1); (case side3 => exact cc_ (Kd.jC HO637.out).2.2); (case side4 => exact (Kd.jC HO637.out).2.1); rintro e w' ⟨rfl, ⟨nd, rfl⟩⟩; refine ⟨_, rfl, ?_⟩))
     go_ret
     exact ⟨ew_, (bb1_ HB GE628)⟩
def qW.f (l0 : List Int) : Option (List Int × Int) := if (l0.length : Int) > 8 then (some (([] : List Int), 21)) else (some (l0, 0))
theorem qW.calls (P0_ : Nat → Prop) (u9000_ : Value) (l0 : List Int) (r1 : List Int) (r2 : Int) (w0 w : World) (hB : Below w0.heap.size w0 w) (ho0 : Kd.R (Kd.int .u64) 22 w w0.heap.size P0_ u9000_ l0) (h : qW.f l0 = some (r1, r2)) :
  Calls Try.prog 119 #[u9000_] w fun e w' => ∃ v0_ : Value, e = .returned (.tuple #[v0_, .int .i64 r2]) ∧ Kd.R (Kd.int .u64) 22 w' w0.heap.size (fun k_ => (P0_ k_ ∨ w.heap.size ≤ k_)) v0_ r1 ∧ Below w0.heap.size w0 w' ∧ Kept w w' (fun k_ => P0_ k_) := by
 have HO0 := jA.mk (show Kd.R (Kd.int .u64) 22 w w0.heap.size (fun k_ => (P0_ k_ ∨ w.heap.size ≤ k_)) u9000_ l0 from Kd.jO ho0 (fun k_ hk => (.inl hk)))
 have HK := jA.mk (Kept.refl w (fun k_ => P0_ k_))
 have HW0 := jA.mk hB.size
 have HB := jA.mk hB
 clear hB
 have H : (if (l0.length : Int) > 8 then (some (([] : List Int), 21)) else (some (l0, 0))) = some (r1, r2) := h
 clear h
 by_cases c2 : (l0.length : Int) > 8
 ·
  rw [if_pos c2] at H
  have c2b0 := decide_eq_true c2
  have c2b1 : decide (8 < l0.length) = true := decide_eq_true (by omega)
  clear c2
  simp only [Option.some.injEq, Prod.mk.injEq] at H
  obtain ⟨rfl, rfl⟩ := H
  obtain ⟨Ao3, co3, eo3⟩ := Kd.jP HO0.out
  subst eo3
  go_enter Try.func119, Try.ntmps119
  go_wp2
  go_ret2
  exact ⟨_, ew_, nl_, (bb_ HB), by repeat (first | (with_reducible first | exact HK.out | apply Kept.alloc | apply Kept.drewN | apply Kept.drew) | exact HK.out)⟩
 ·
  rw [if_neg c2] at H
  have c2b0 := decide_eq_false c2
  have c2b1 : decide (8 < l0.length) = false := decide_eq_false (by omega)
  clear c2
  simp only [Option.some.injEq, Prod.mk.injEq] at H
  obtain ⟨rfl, rfl⟩ := H
  obtain ⟨Ao4, co4, eo4⟩ := Kd.jP HO0.out
  subst eo4
  go_enter Try.func119, Try.ntmps119
  go_wp2
  go_ret2
  exact ⟨_, ew_, (rR_ HO0), (bb_ HB), by repeat (first | (with_reducible first | exact HK.out | apply Kept.alloc | apply Kept.drewN | apply Kept.drew) | exact HK.out)⟩
def jX.j0 : Nat → List Int → List Int → Bool → Option (List Int × Int)
 | 0, _, _, _ => none
 | k + 1, x0, x1, x13 => if x13 = true then (some (([] : List Int), 1)) else ((jF.f k x0 x1).bind fun t641 => ((qW.f t641).bind fun bt644 => (some (bt644.1, bt644.2))))
def jX.f (k : Nat) (l0 : List Int) (l1 : List Int) : Option (List Int × Int) := (jk.f l0).bind fun t639 => (if t639 = true then ((jk.f l1).bind fun t640 => (jX.j0 k l0 l1 (!t640))) else (jX.j0 k l0 l1 true))
theorem jX.vQ : ∀ k, (∀ y0 y1 y2, LeO (jX.j0 k y0 y1 y2) (jX.j0 (k + 1) y0 y1 y2))
 | 0 => fun _ _ _ r h => by simp [jX.j0] at h
 | k + 1 => by
  have ih0 := jX.vQ k
  ·
   intro y0 y1 y2
   unfold jX.j0
   repeat' first
   | (with_reducible exact ih0 _ _ _)
   | (with_reducible exact jF.mono _ _ _)
   | (with_reducible exact LeO.refl _)
   | (with_reducible exact LeO.none _)
   | (with_reducible refine LeO.ite ?_ ?_)
   | (with_reducible refine LeO.bind ?_ (fun _ => ?_))
theorem jX.mono : ∀ a0 a1 k, LeO (jX.f k a0 a1) (jX.f (k + 1) a0 a1) := by
 intro a0 a1 k
 have ih0 := jX.vQ k
 unfold jX.f
 repeat' first
   | (with_reducible exact ih0 _ _ _)
   | (with_reducible exact jF.mono _ _ _)
   | (with_reducible exact LeO.refl _)
   | (with_reducible exact LeO.none _)
   | (with_reducible refine LeO.ite ?_ ?_)
   | (with_reducible refine LeO.bind ?_ (fun _ => ?_))
theorem jX.calls (k : Nat) (A0 : Option Addr) (c0 : Nat) (l0 : List Int) (A1 : Option Addr) (c1 : Nat) (l1 : List Int) (r1 : List Int) (r2 : Int) (w : World) (hr0 : Kd.C (Kd.int .u64) w A0 l0.length l0) (hc0 : l0.length ≤ c0) (hr1 : Kd.C (Kd.int .u64) w A1 l1.length l1) (hc1 : l1.length ≤ c1) (h : jX.f k l0 l1 = some (r1, r2)) :
  Calls Try.prog 106 #[.slice A0 l0.length c0, .slice A1 l1.length c1] w fun e w' => ∃ v0_ : Value, e = .returned (.tuple #[v0_, .int .i64 r2]) ∧ Kd.R (Kd.int .u64) 22 w' w.heap.size (fun _ => True) v0_ r1 ∧ Below w.heap.size w w' := by
 have HR0 := jA.mk hr0
 have HC0 := jA.mk hc0
 clear hr0 hc0
 have HR1 := jA.mk hr1
 have HC1 := jA.mk hc1
 clear hr1 hc1
 have HB := jA.mk (Below.refl w.heap.size w)
 have H : ((jk.f l0).bind fun t639 => (if t639 = true then ((jk.f l1).bind fun t640 => (jX.j0 k l0 l1 (!t640))) else (jX.j0 k l0 l1 true))) = some (r1, r2) := h
 clear h
 have HC3 := jA.mk H
 clear H
 go_enter Try.func106, Try.ntmps106
 go_upto_region 1 with (fail)
 go_cut [13] (fun v13 wc => ∃ (kq : Nat) (x13_2 : Bool), v13 = .bool x13_2 ∧ jA (jX.j0 kq l0 l1 x13_2 = some (r1, r2)) ∧ jA (kq ≤ k) ∧ jA (Below w.heap.size w wc))
 case first =>
  have H := HC3.out
  clear HC3
  obtain ⟨t639, A4, H⟩ := oc_ H
  try dsimp only at H
  by_cases c5 : t639 = true
  ·
   subst c5
   replace H := ip_ H
   obtain ⟨t640, A6, H⟩ := oc_ H
   try dsimp only at H
   have H' := jA.mk H
   clear H
   go_wp2_with (first | ((with_reducible refine jD (f := 74) rfl ?_); refine gl_ (some 7) Try.func74 #[.slice A0 l0.length c0] ?_; (with_reducible refine (jk.calls _ _ l0 true _ ?side1 ?side2 A4.out).mono ?_); (case side1 => exact cb_ HR0 HB); (case side2 => exact HC0.out); rintro e w' ⟨rfl, ⟨nd, rfl⟩⟩; refine ⟨_, rfl, ?_⟩) | ((with_reducible refine jW (N := 11) rfl ?_); refine je (by first | rfl | kernel_rfl) ?_; dsimp only; (with_reducible refine jD (f := 74) rfl ?_); refine gl_ (some 11) Try.func74 #[.slice A1 l1.length c1] ?_; (with_reducible refine (jk.calls _ _ l1 t640 _ ?side1 ?side2 A6.out).mono ?_); (case side1 => repeat (first | exact (Kd.zT HR1.out (bb_ HB)) | (with_reducible refine Kd.zR ?_ _) | (with_reducible refine Kd.zV ?_ _) | (with_reducible refine Kd.zw ?_))); (case side2 => exact HC1.out); rintro e w' ⟨rfl, ⟨nd, rfl⟩⟩; refine ⟨_, rfl, ?_⟩))
   go_meet
   case rel => exact ⟨_, (!t640), sd_, H', ⟨by first | omega | exact Nat.le_refl _⟩, ⟨(bb_ HB)⟩⟩
  ·
   replace c5 := Bool.eq_false_iff.mpr c5
   subst c5
   replace H := in_ H
   have H' := jA.mk H
   clear H
   go_wp2_with (first | ((with_reducible refine jD (f := 74) rfl ?_); refine gl_ (some 7) Try.func74 #[.slice A0 l0.length c0] ?_; (with_reducible refine (jk.calls _ _ l0 false _ ?side1 ?side2 A4.out).mono ?_); (case side1 => exact cb_ HR0 HB); (case side2 => exact HC0.out); rintro e w' ⟨rfl, ⟨nd, rfl⟩⟩; refine ⟨_, rfl, ?_⟩))
   go_meet
   case rel => exact ⟨_, (true), sd_, H', ⟨by first | omega | exact Nat.le_refl _⟩, ⟨(bb_ HB)⟩⟩
 case rest =>
  clear HC3
  try clear c1
  try clear p2
  try clear c5
  obtain ⟨kq, x13_2, rfl, HA, HJ2, HB⟩ := hcut
  cases kq with
  | zero => exact absurd HA.out (by simp [jX.j0])
  | succ kj2 =>
   have H := HA.out
   clear HA
   simp only [jX.j0] at H
   by_cases c7 : x13_2 = true
   ·
    subst c7
    replace H := ip_ H
    simp only [Option.some.injEq, Prod.mk.injEq] at H
    obtain ⟨rfl, rfl⟩ := H
    go_wp2
    go_ret2
    exact ⟨_, ew_, nl_, (bb_ HB)⟩
   ·
    replace c7 := Bool.eq_false_iff.mpr c7
    subst c7
    replace H := in_ H
    obtain ⟨t641, A8, H⟩ := oc_ H
    try dsimp only at H
    replace H := ob_ H
    obtain ⟨⟨t644, t647⟩, A90, H⟩ := H
    try dsimp only at H
    have A9 := jA.mk A90
    clear A90
    simp only [Option.some.injEq, Prod.mk.injEq] at H
    obtain ⟨rfl, rfl⟩ := H
    go_wp2_with (first | ((with_reducible refine jD (f := 23) rfl ?_); refine gl_ (some 16) Try.func23 #[.slice A0 l0.length c0, .slice A1 l1.length c1] ?_; (with_reducible refine (jF.calls kj2 _ _ l0 _ _ l1 t641 _ ?side1 ?side2 ?side3 ?side4 A8.out).mono ?_); (case side1 => exact cb_ HR0 HB); (case side2 => exact HC0.out); (case side3 => exact cb_ HR1 HB); (case side4 => exact HC1.out); rintro e w10 ⟨v642, rfl, ho0, hb⟩; refine ⟨_, rfl, ?_⟩; have HO643 := jA.mk (Kd.jL ho0 (jB (bb_ HB))); replace HB := bs_ HB hb; obtain ⟨Ao11, co11, rfl⟩ := Kd.jP HO643.out) | ((with_reducible refine jD (f := 119) rfl ?_); refine gl_ (some 17) Try.func119 #[.slice Ao11 t641.length co11] ?_; (with_reducible refine (qW.calls (fun k_ => some k_ = (.slice Ao11 t641.length co11 : Value).ownBlock) (.slice Ao11 t641.length co11) t641 t644 t647 w _ ?side1 ?side2 A9.out).mono ?_); (case side1 => repeat (first | (with_reducible first | exact HB.out | apply vM | apply ze | apply zk) | exact HB.out)); (case side2 => exact Kd.jBS rfl HO643.out); rintro e w12 ⟨v645, rfl, ho0, hb, hkp⟩; refine ⟨_, rfl, ?_⟩; have HO646 := jA.mk (Kd.jO (ok' := fun k_ => True) ho0 (fun k_ hk_ => trivial)); replace HB := jA.mk (hb); clear HO643; (try clear hkp)))
    go_ret2
    exact ⟨_, ew_, (rR_ HO646), (bb_ HB)⟩
def vB.f (k : Nat) (a0_0 : Bool) (l0_1 : List Int) (a1_0 : Bool) (l1_1 : List Int) : Option (Bool × List Int) := if (a0_0 == a1_0) = true then ((jQ.f k l0_1 l1_1).bind fun t651 => (some (a0_0, t651))) else ((jZ.f k l0_1 l1_1).bind fun bt654 => (if bt654.2 = true then (some (a0_0, bt654.1)) else ((jZ.f k l1_1 l0_1).bind fun bt658 => (some (a1_0, bt658.1)))))
theorem vB.mono : ∀ a0 a1 a2 a3 k, LeO (vB.f k a0 a1 a2 a3) (vB.f (k + 1) a0 a1 a2 a3) := by
 intro a0 a1 a2 a3 k
 unfold vB.f
 repeat' first
   | (with_reducible exact jQ.mono _ _ _)
   | (with_reducible exact jZ.mono _ _ _)
   | (with_reducible exact LeO.refl _)
   | (with_reducible exact LeO.none _)
   | (with_reducible refine LeO.ite ?_ ?_)
   | (with_reducible refine LeO.bind ?_ (fun _ => ?_))
def vB.T2 : Bool × List (List Nat × List Nat) := (true, [([], []), ([0], [0]), ([], []), ([2], [2]), ([], []), ([4], [4]), ([3, 5], [3, 5]), ([1, 6], [1, 6]), ([7, 6, 0, 1, 2, 3, 4, 5, 6, 7], [7])])
def vB.B2 : List Nat := [0, 1, 0, 4, 0, 16, 60, 127, 255]
theorem vB.tab2 : rtab .any (opsOf Try.f107 2) = vB.T2 := by kernel_rfl
theorem vB.jKR : jAa vB.T2.2 vB.B2 = true := by kernel_rfl
theorem vB.calls (k : Nat) (a0_0 : Bool) (A0_1 : Option Addr) (c0_1 : Nat) (l0_1 : List Int) (a1_0 : Bool) (A1_1 : Option Addr) (c1_1 : Nat) (l1_1 : List Int) (r1 : Bool) (r2 : List Int) (w : World) (hr0_1 : Kd.C (Kd.int .u64) w A0_1 l0_1.length l0_1) (hc0_1 : l0_1.length ≤ c0_1) (hr1_1 : Kd.C (Kd.int .u64) w A1_1 l1_1.length l1_1) (hc1_1 : l1_1.length ≤ c1_1) (h : vB.f k a0_0 l0_1 a1_0 l1_1 = some (r1, r2)) :
  Calls Try.prog 107 #[.agg #[.bool a0_0, .slice A0_1 l0_1.length c0_1], .agg #[.bool a1_0, .slice A1_1 l1_1.length c1_1]] w fun e w' => ∃ v1_ : Value, e = .returned (.agg #[.bool r1, v1_]) ∧ Kd.R (Kd.int .u64) 22 w' w.heap.size (fun _ => True) v1_ r2 ∧ Below w.heap.size w w' := by
 have hu120 := Try.underlying120
 have HR0_1 := jA.mk hr0_1
 have HC0_1 := jA.mk hc0_1
 clear hr0_1 hc0_1
 have HR1_1 := jA.mk hr1_1
 have HC1_1 := jA.mk hc1_1
 clear hr1_1 hc1_1
 have HB := jA.mk (Below.refl w.heap.size w)
 have H : (if (a0_0 == a1_0) = true then ((jQ.f k l0_1 l1_1).bind fun t651 => (some (a0_0, t651))) else ((jZ.f k l0_1 l1_1).bind fun bt654 => (if bt654.2 = true then (some (a0_0, bt654.1)) else ((jZ.f k l1_1 l0_1).bind fun bt658 => (some (a1_0, bt658.1)))))) = some (r1, r2) := h
 clear h
 by_cases c3 : (a0_0 == a1_0) = true
 ·
  rw [if_pos c3] at H
  have c3b0 : (a0_0 == a1_0) = true := c3
  (try (have c3b1 : decide (a0_0 = a1_0) = true := by simpa using c3))
  (try (have c3b2 : (a0_0 == a1_0) = true := by simpa using c3))
  clear c3
  obtain ⟨t651, A4, H⟩ := oc_ H
  try dsimp only at H
  simp only [Option.some.injEq, Prod.mk.injEq] at H
  obtain ⟨rfl, rfl⟩ := H
  go_enter Try.func107, Try.ntmps107
  try go_wp2_with (first | ((with_reducible refine jW (N := 2) rfl ?_); refine bx_ 2 #[.bool a0_0, .slice A0_1 l0_1.length c0_1] 120 ?_; intro gb648 hg w5 hbox hb; have BK648 := jA.mk (hbox); have GW648 := jA.mk ((by rw [hg]; exact (jB (bb_ HB)) : w.heap.size ≤ gb648)); have GE648 := GW648; replace HB := bs_ HB hb; clear hb hbox hg) | ((with_reducible refine jW (N := 3) rfl ?_); refine bx_ 3 #[.bool a1_0, .slice A1_1 l1_1.length c1_1] 120 ?_; intro gb649 hg w6 hbox hb; have BK649 := jA.mk (hbox); have GW649 := jA.mk ((by rw [hg]; exact (jB (bb1_ HB GE648)) : w.heap.size ≤ gb649)); have GE649 := GW649; replace HB := jA.mk (jJ (bb1_ HB GE648) hb); have NB648_649 := jA.mk ((by rw [hg]; exact nlt_ BK648 : gb648 ≠ gb649)); have NB649_648 := jA.mk ((by rw [hg]; exact ngt_ BK648 : gb649 ≠ gb648)); replace BK648 := bk_ BK648 hb; clear hb hbox hg) | ((with_reducible refine jW (N := 4) rfl ?_); refine bx_ 4 #[.bool false, .slice none 0 0] 120 ?_; intro gb650 hg w7 hbox hb; have BK650 := jA.mk (hbox); have GW650 := jA.mk ((by rw [hg]; exact (jB (bb2_ HB GE648 GE649)) : w.heap.size ≤ gb650)); have GE650 := GW650; replace HB := jA.mk (jJ (bb2_ HB GE648 GE649) hb); have NB648_650 := jA.mk ((by rw [hg]; exact nlt_ BK648 : gb648 ≠ gb650)); have NB650_648 := jA.mk ((by rw [hg]; exact ngt_ BK648 : gb650 ≠ gb648)); replace BK648 := bk_ BK648 hb; have NB649_650 := jA.mk ((by rw [hg]; exact nlt_ BK649 : gb649 ≠ gb650)); have NB650_649 := jA.mk ((by rw [hg]; exact ngt_ BK649 : gb650 ≠ gb649)); replace BK649 := bk_ BK649 hb; clear hb hbox hg; have hnb8 := NB648_649.out; have hnc8 := NB649_648.out; have hnb9 := NB648_650.out; have hnc9 := NB650_648.out; obtain ⟨hcz10_0, hcz10_1, hfz10_0, hfz10_1⟩ := bf2_ BK648; have hnb11 := NB649_650.out; have hnc11 := NB650_649.out; obtain ⟨hcz12_0, hcz12_1, hfz12_0, hfz12_1⟩ := bf2_ BK649))
  have n0_ := jA.mk (vN BK648.out)
  have n1_ := jA.mk (vN BK649.out)
  have n2_ := jA.mk (vN BK650.out)
  have n3_ := jA.mk (zk HB.out)
  clear BK648
  clear BK649
  clear BK650
  clear HB
  have BK648 := n0_
  have BK649 := n1_
  have BK650 := n2_
  have HB := n3_
  clear n0_ n1_ n2_ n3_
  refine jAk (n := 9) (S := fun w' => w'.cell? ⟨gb648, 0, none⟩ = some (.bool a0_0) ∧ w'.cell? ⟨gb648, 1, none⟩ = some (.slice A0_1 l0_1.length c0_1) ∧ w'.cell? ⟨gb649, 0, none⟩ = some (.bool a1_0) ∧ w'.cell? ⟨gb649, 1, none⟩ = some (.slice A1_1 l1_1.length c1_1)) (ds := []) #[false, false, false, false, false, false, false, false, false] kr_ rfl rfl ⟨(jI BK648.out 0).trans rfl, (jI BK648.out 1).trans rfl, (jI BK649.out 0).trans rfl, (jI BK649.out 1).trans rfl⟩ (fun hHeld => ?_); refine jAK vB.tab2 vB.jKR (fun HT_ HW_ => ?_)
  generalize w7.drew = w13 at BK648 BK649 BK650 HB hHeld ⊢
  refine pu_ 0 (some 14) (ba_ 9 1) (vL HT_.out kr_) ?_
  refine pu_ 2 (some 16) (ba_ 9 5) (vL HT_.out kr_) ?_
  refine pu_ 4 (some 18) (ba_ 9 21) (vL HT_.out kr_) ?_
  refine tk4_ 1 (some 15) (ba_ 9 23) (qF HT_.out HW_.out kr_) hHeld ?_
  refine tk4_ 3 (some 17) (ba_ 9 31) (qF HT_.out HW_.out kr_) hHeld ?_
  refine tk4_ 5 (some 19) (ba_ 9 63) (qF HT_.out HW_.out kr_) hHeld ?_
  refine one_ (i := 6) (N := some 20) (ba_ 9 127) rfl rfl (ql HT_.out kr_) (by decide) (fun K hK => ?_)
  refine jAs Try.func102 kr_ rfl #[.slice A0_1 l0_1.length c0_1, .slice A1_1 l1_1.length c1_1] (by rfl) rfl rfl (by (try simp only [List.map_toArray, List.map_cons, List.map_nil]); first | done | rfl | (simp only [List.length_drop, List.length_take]; rfl)) ?_
  with_reducible refine (jQ.calls k _ _ l0_1 _ _ l1_1 t651 _ ?side1 ?side2 ?side3 ?side4 A4.out).mono ?_
  (case side1 => exact cb_ HR0_1 HB)
  (case side2 => exact HC0_1.out)
  (case side3 => exact cb_ HR1_1 HB)
  (case side4 => exact HC1_1.out)
  rintro e w14 ⟨v652, rfl, ho0, hb⟩
  refine ⟨_, rfl, ?_⟩
  have n0_ := jA.mk (Kd.jL ho0 (jB (bb3_ HB GE648 GE649 GE650)))
  have n1_ := bk_ BK648 hb
  have n2_ := bk_ BK649 hb
  have n3_ := bk_ BK650 hb
  have n4_ := jA.mk (jJ (bb3_ HB GE648 GE649 GE650) hb)
  clear BK648
  clear BK649
  clear BK650
  clear HB
  have HO653 := n0_
  have BK648 := n1_
  have BK649 := n2_
  have BK650 := n3_
  have HB := n4_
  clear n0_ n1_ n2_ n3_ n4_
  (try clear hb)
  (try clear hb2)
  (try clear hk)
  (try clear hi)
  (try clear ho0)
  obtain ⟨Ao15, co15, eo15⟩ := Kd.jP HO653.out
  (first | subst eo15 | (injection eo15 with f1_ f2_ f3_; have f4_ := f1_.symm; have f5_ := f3_.symm; clear f1_ f2_ f3_; subst f4_; subst f5_))
  refine hK.out _ _ ⟨(jI BK648.out 0).trans rfl, (jI BK648.out 1).trans rfl, (jI BK649.out 0).trans rfl, (jI BK649.out 1).trans rfl⟩ (fun hHeld => ?_)
  clear hK K
  refine ns_ 20 ?_
  refine pu_ 7 (some 21) (ba_ 9 255) (vL HT_.out kr_) ?_
  refine one_ (i := 8) (N := none) (ba_ 9 511) rfl rfl (ql HT_.out kr_) (by decide) (fun K hK => ?_)
  have hs16 : w14.cell? ⟨gb650, 0, none⟩ = some (.bool false) := (jI BK650.out 0).trans rfl
  have hfs16 := jK BK650.out 0
  have hns16_0 := NB648_650.out
  have hns16_1 := NB649_650.out
  have hms16_0 := NB650_648.out
  have hms16_1 := NB650_649.out
  have hs17 : w14.cell? ⟨gb650, 1, none⟩ = some (.slice none 0 0) := (jI BK650.out 1).trans rfl
  have hfs17 := jK BK650.out 1
  have hns17_0 := NB648_650.out
  have hns17_1 := NB649_650.out
  have hms17_0 := NB650_648.out
  have hms17_1 := NB650_649.out
  refine jBt (w1 := ?_) (by rfl) rfl ?_ ?_
  rotate_left
  ·
   go_simp
   rfl
  refine hK.out _ _ ⟨((cell_far (p := ⟨gb650, _, none⟩) NB648_650.out _).trans (((cell_far (p := ⟨gb650, _, none⟩) NB648_650.out _).trans (hHeld.1)))), ((cell_far (p := ⟨gb650, _, none⟩) NB648_650.out _).trans (((cell_far (p := ⟨gb650, _, none⟩) NB648_650.out _).trans (hHeld.2.1)))), ((cell_far (p := ⟨gb650, _, none⟩) NB649_650.out _).trans (((cell_far (p := ⟨gb650, _, none⟩) NB649_650.out _).trans (hHeld.2.2.1)))), ((cell_far (p := ⟨gb650, _, none⟩) NB649_650.out _).trans (((cell_far (p := ⟨gb650, _, none⟩) NB649_650.out _).trans (hHeld.2.2.2))))⟩ (fun hHeld => ?_)
  clear hK K
  refine jBH (jAt HT_.out kr_) ?_
  try go_wp2
  refine bodyPost_ret (results_cell_row rfl _ _ gb650 120 #[.bool a0_0, .slice Ao15 t651.length co15] (0, 0) _ rfl (by refine pk_ ?_; refine jc (cs := #[.bool a0_0, .slice none 0 0]) ?_ 1 _ rs_; refine pk_ ?_; refine jc (cs := #[.bool false, .slice none 0 0]) ?_ 0 _ rs_; refine pk_ ?_; exact BK650.out) Try.underlying120 rfl kr_) rfl ?_
  exact ⟨_, ew_, by refine pR_ ?_; exact Kd.jO (Kd.vU (p := ⟨gb650, 1, none⟩) (Kd.vU (p := ⟨gb650, 0, none⟩) (Kd.jm HO653.out BK650.out (by decide)) (fun _ hk => hk.2) (.bool a0_0)) (fun _ hk => hk.2) (.slice Ao15 t651.length co15)) (fun _ hk => trivial), (bb3_ HB GE648 GE649 GE650)⟩
 ·
  rw [if_neg c3] at H
  have c3b0 : (a0_0 == a1_0) = false := by simpa using c3
  (try (have c3b1 : decide (a0_0 = a1_0) = false := by simpa using c3))
  (try (have c3b2 : (a0_0 == a1_0) = false := by simpa using c3))
  (try (have c3b3 : ¬ (a0_0 = a1_0) := by simpa using c3))
  clear c3
  replace H := ob_ H
  obtain ⟨⟨t654, t655⟩, A180, H⟩ := H
  try dsimp only at H
  have A18 := jA.mk A180
  clear A180
  by_cases c19 : t655 = true
  ·
   subst c19
   replace H := ip_ H
   simp only [Option.some.injEq, Prod.mk.injEq] at H
   obtain ⟨rfl, rfl⟩ := H
   go_enter Try.func107, Try.ntmps107
   go_wp2_with (first | ((with_reducible refine jW (N := 2) rfl ?_); refine bx_ 2 #[.bool a0_0, .slice A0_1 l0_1.length c0_1] 120 ?_; intro gb648 hg w20 hbox hb; have BK648 := jA.mk (hbox); have GW648 := jA.mk ((by rw [hg]; exact (jB (bb_ HB)) : w.heap.size ≤ gb648)); have GE648 := GW648; replace HB := bs_ HB hb; clear hb hbox hg) | ((with_reducible refine jW (N := 3) rfl ?_); refine bx_ 3 #[.bool a1_0, .slice A1_1 l1_1.length c1_1] 120 ?_; intro gb649 hg w21 hbox hb; have BK649 := jA.mk (hbox); have GW649 := jA.mk ((by rw [hg]; exact (jB (bb1_ HB GE648)) : w.heap.size ≤ gb649)); have GE649 := GW649; replace HB := jA.mk (jJ (bb1_ HB GE648) hb); have NB648_649 := jA.mk ((by rw [hg]; exact nlt_ BK648 : gb648 ≠ gb649)); have NB649_648 := jA.mk ((by rw [hg]; exact ngt_ BK648 : gb649 ≠ gb648)); replace BK648 := bk_ BK648 hb; clear hb hbox hg) | ((with_reducible refine jW (N := 4) rfl ?_); refine bx_ 4 #[.bool false, .slice none 0 0] 120 ?_; intro gb650 hg w22 hbox hb; have BK650 := jA.mk (hbox); have GW650 := jA.mk ((by rw [hg]; exact (jB (bb2_ HB GE648 GE649)) : w.heap.size ≤ gb650)); have GE650 := GW650; replace HB := jA.mk (jJ (bb2_ HB GE648 GE649) hb); have NB648_650 := jA.mk ((by rw [hg]; exact nlt_ BK648 : gb648 ≠ gb650)); have NB650_648 := jA.mk ((by rw [hg]; exact ngt_ BK648 : gb650 ≠ gb648)); replace BK648 := bk_ BK648 hb; have NB649_650 := jA.mk ((by rw [hg]; exact nlt_ BK649 : gb649 ≠ gb650)); have NB650_649 := jA.mk ((by rw [hg]; exact ngt_ BK649 : gb650 ≠ gb649)); replace BK649 := bk_ BK649 hb; clear hb hbox hg; have hnb23 := NB648_649.out; have hnc23 := NB649_648.out; have hnb24 := NB648_650.out; have hnc24 := NB650_648.out; obtain ⟨hcz25_0, hcz25_1, hfz25_0, hfz25_1⟩ := bf2_ BK648; have hnb26 := NB649_650.out; have hnc26 := NB650_649.out; obtain ⟨hcz27_0, hcz27_1, hfz27_0, hfz27_1⟩ := bf2_ BK649) | ((with_reducible refine jD (f := 105) rfl ?_); refine gl_ (some 27) Try.func105 #[.slice A0_1 l0_1.length c0_1, .slice A1_1 l1_1.length c1_1] ?_; (with_reducible refine (jZ.calls k _ _ l0_1 _ _ l1_1 t654 true _ ?side1 ?side2 ?side3 ?side4 A18.out).mono ?_); (case side1 => exact cb_ HR0_1 HB); (case side2 => exact HC0_1.out); (case side3 => exact cb_ HR1_1 HB); (case side4 => exact HC1_1.out); rintro e w28 ⟨v656, rfl, ho0, hb⟩; refine ⟨_, rfl, ?_⟩; have HO657 := jA.mk (Kd.jL ho0 (jB (bb3_ HB GE648 GE649 GE650))); replace BK648 := bk_ BK648 hb; replace BK649 := bk_ BK649 hb; replace BK650 := bk_ BK650 hb; replace HB := jA.mk (jJ (bb3_ HB GE648 GE649 GE650) hb); obtain ⟨hcz29_0, hcz29_1, hfz29_0, hfz29_1⟩ := bf2_ BK648; obtain ⟨Ao30, co30, rfl⟩ := Kd.jP HO657.out; obtain ⟨hcz31_0, hcz31_1, hfz31_0, hfz31_1⟩ := bf2_ BK650))
   refine bodyPost_ret (results_cell_row rfl _ _ gb650 120 #[.bool a0_0, .slice Ao30 t654.length co30] (0, 0) _ rfl (by refine pk_ ?_; refine jc (cs := #[.bool a0_0, .slice none 0 0]) ?_ 1 _ rs_; refine pk_ ?_; refine jc (cs := #[.bool false, .slice none 0 0]) ?_ 0 _ rs_; refine pk_ ?_; exact BK650.out) Try.underlying120 rfl kr_) rfl ?_
   exact ⟨_, ew_, by refine pR_ ?_; exact Kd.jO (Kd.vU (p := ⟨gb650, 1, none⟩) (Kd.vU (p := ⟨gb650, 0, none⟩) (Kd.jm HO657.out BK650.out (by decide)) (fun _ hk => hk.2) (.bool a0_0)) (fun _ hk => hk.2) (.slice Ao30 t654.length co30)) (fun _ hk => trivial), (bb3_ HB GE648 GE649 GE650)⟩
  ·
   replace c19 := Bool.eq_false_iff.mpr c19
   subst c19
   replace H := in_ H
   replace H := ob_ H
   obtain ⟨⟨t658, t659⟩, A320, H⟩ := H
   try dsimp only at H
   have A32 := jA.mk A320
   clear A320
   simp only [Option.some.injEq, Prod.mk.injEq] at H
   obtain ⟨rfl, rfl⟩ := H
   go_enter Try.func107, Try.ntmps107
   go_wp2_with (first | ((with_reducible refine jW (N := 2) rfl ?_); refine bx_ 2 #[.bool a0_0, .slice A0_1 l0_1.length c0_1] 120 ?_; intro gb648 hg w33 hbox hb; have BK648 := jA.mk (hbox); have GW648 := jA.mk ((by rw [hg]; exact (jB (bb_ HB)) : w.heap.size ≤ gb648)); have GE648 := GW648; replace HB := bs_ HB hb; clear hb hbox hg) | ((with_reducible refine jW (N := 3) rfl ?_); refine bx_ 3 #[.bool a1_0, .slice A1_1 l1_1.length c1_1] 120 ?_; intro gb649 hg w34 hbox hb; have BK649 := jA.mk (hbox); have GW649 := jA.mk ((by rw [hg]; exact (jB (bb1_ HB GE648)) : w.heap.size ≤ gb649)); have GE649 := GW649; replace HB := jA.mk (jJ (bb1_ HB GE648) hb); have NB648_649 := jA.mk ((by rw [hg]; exact nlt_ BK648 : gb648 ≠ gb649)); have NB649_648 := jA.mk ((by rw [hg]; exact ngt_ BK648 : gb649 ≠ gb648)); replace BK648 := bk_ BK648 hb; clear hb hbox hg) | ((with_reducible refine jW (N := 4) rfl ?_); refine bx_ 4 #[.bool false, .slice none 0 0] 120 ?_; intro gb650 hg w35 hbox hb; have BK650 := jA.mk (hbox); have GW650 := jA.mk ((by rw [hg]; exact (jB (bb2_ HB GE648 GE649)) : w.heap.size ≤ gb650)); have GE650 := GW650; replace HB := jA.mk (jJ (bb2_ HB GE648 GE649) hb); have NB648_650 := jA.mk ((by rw [hg]; exact nlt_ BK648 : gb648 ≠ gb650)); have NB650_648 := jA.mk ((by rw [hg]; exact ngt_ BK648 : gb650 ≠ gb648)); replace BK648 := bk_ BK648 hb; have NB649_650 := jA.mk ((by rw [hg]; exact nlt_ BK649 : gb649 ≠ gb650)); have NB650_649 := jA.mk ((by rw [hg]; exact ngt_ BK649 : gb650 ≠ gb649)); replace BK649 := bk_ BK649 hb; clear hb hbox hg; have hnb36 := NB648_649.out; have hnc36 := NB649_648.out; have hnb37 := NB648_650.out; have hnc37 := NB650_648.out; obtain ⟨hcz38_0, hcz38_1, hfz38_0, hfz38_1⟩ := bf2_ BK648; have hnb39 := NB649_650.out; have hnc39 := NB650_649.out; obtain ⟨hcz40_0, hcz40_1, hfz40_0, hfz40_1⟩ := bf2_ BK649) | ((with_reducible refine jD (f := 105) rfl ?_); refine gl_ (some 27) Try.func105 #[.slice A0_1 l0_1.length c0_1, .slice A1_1 l1_1.length c1_1] ?_; (with_reducible refine (jZ.calls k _ _ l0_1 _ _ l1_1 t654 false _ ?side1 ?side2 ?side3 ?side4 A18.out).mono ?_); (case side1 => exact cb_ HR0_1 HB); (case side2 => exact HC0_1.out); (case side3 => exact cb_ HR1_1 HB); (case side4 => exact HC1_1.out); rintro e w41 ⟨v656, rfl, ho0, hb⟩; refine ⟨_, rfl, ?_⟩; have HO657 := jA.mk (Kd.jL ho0 (jB (bb3_ HB GE648 GE649 GE650))); replace BK648 := bk_ BK648 hb; replace BK649 := bk_ BK649 hb; replace BK650 := bk_ BK650 hb; replace HB := jA.mk (jJ (bb3_ HB GE648 GE649 GE650) hb); obtain ⟨hcz42_0, hcz42_1, hfz42_0, hfz42_1⟩ := bf2_ BK649; obtain ⟨hcz43_0, hcz43_1, hfz43_0, hfz43_1⟩ := bf2_ BK648) | ((with_reducible refine jD (f := 105) rfl ?_); refine gl_ (some 40) Try.func105 #[.slice A1_1 l1_1.length c1_1, .slice A0_1 l0_1.length c0_1] ?_; (with_reducible refine (jZ.calls k _ _ l1_1 _ _ l0_1 t658 t659 _ ?side1 ?side2 ?side3 ?side4 A32.out).mono ?_); (case side1 => exact cb_ HR1_1 HB); (case side2 => exact HC1_1.out); (case side3 => exact cb_ HR0_1 HB); (case side4 => exact HC0_1.out); rintro e w44 ⟨v660, rfl, ho0, hb⟩; refine ⟨_, rfl, ?_⟩; have HO661 := jA.mk (Kd.jL (Kd.jG ho0 (Kd.R_lt (rR_ HO657))) (jB (bb3_ HB GE648 GE649 GE650))); replace HO657 := re_ HO657 ho0 hb; replace BK648 := bk_ BK648 hb; replace BK649 := bk_ BK649 hb; replace BK650 := bk_ BK650 hb; replace HB := jA.mk (jJ (bb3_ HB GE648 GE649 GE650) hb); obtain ⟨hcz45_0, hcz45_1, hfz45_0, hfz45_1⟩ := bf2_ BK649; obtain ⟨Ao46, co46, rfl⟩ := Kd.jP HO661.out; obtain ⟨hcz47_0, hcz47_1, hfz47_0, hfz47_1⟩ := bf2_ BK650))
   refine bodyPost_ret (results_cell_row rfl _ _ gb650 120 #[.bool a1_0, .slice Ao46 t658.length co46] (0, 0) _ rfl (by refine pk_ ?_; refine jc (cs := #[.bool a1_0, .slice none 0 0]) ?_ 1 _ rs_; refine pk_ ?_; refine jc (cs := #[.bool false, .slice none 0 0]) ?_ 0 _ rs_; refine pk_ ?_; exact BK650.out) Try.underlying120 rfl kr_) rfl ?_
   exact ⟨_, ew_, by refine pR_ ?_; exact Kd.jO (Kd.vU (p := ⟨gb650, 1, none⟩) (Kd.vU (p := ⟨gb650, 0, none⟩) (Kd.jm HO661.out BK650.out (by decide)) (fun _ hk => hk.2) (.bool a1_0)) (fun _ hk => hk.2) (.slice Ao46 t658.length co46)) (fun _ hk => trivial), (bb3_ HB GE648 GE649 GE650)⟩
end Go.Proofs.Ytijgeonhbmgikaa.PORatioMakes
