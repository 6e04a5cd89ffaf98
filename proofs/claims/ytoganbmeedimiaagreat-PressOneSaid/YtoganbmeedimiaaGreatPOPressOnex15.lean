-- printed (pr.py)
import Derived.Test.YtoganbmeedimiaaGreatPOPressOnex9
import Derived.Test.YtoganbmeedimiaaGreatPOPressOnex14
namespace Go.Proofs.YtoganbmeedimiaaGreat.POPressOne
open Go.RowKit Go.Proofs.YtoganbmeedimiaaGreatN Go.Proofs.YtoganbmeedimiaaGreatW.PrintWords Go.Proofs.YtoganbmeedimiaaGreatW.PrintLast Go.Proofs.YtoganbmeedimiaaGreatW.PrintMore
attribute [local go_sem] zV zR qA zy vZ vY zU zQ
set_option maxHeartbeats 8000000
set_option maxRecDepth 100000
set_option linter.unusedVariables false
set_option linter.unusedSimpArgs false
namespace OctRat
open Oct
def rat_ (k : Nat) (s : ByteArray) : Option (Int ⊕ (Bool × List Int × List Int × ByteArray)) :=
 if s.size < 1 then some (.inl 60) else if 1 < (bt s 0).toNat then some (.inl 62) else
 (OctNat.nat_ k (s.extract 1 s.size)).bind fun v => match v with
  | .inl c => some (.inl c)
  | .inr (a, t) => (OctNat.nat_ k t).bind fun v2 => match v2 with
   | .inl c => some (.inl c)
   | .inr (b, u) => (vR.f k ((bt s 0) == 1) a b).bind fun m => some (if m = true then .inr ((bt s 0) == 1, a, b, u) else .inl 62)
theorem jRI (s : ByteArray) (k : Nat) : LeO (rat_ k s) (rat_ (k + 1) s) := by
 unfold rat_
 refine LeO.ite (LeO.refl _) (LeO.ite (LeO.refl _) (LeO.bind (OctNat.jIU _ _) fun v => ?_))
 cases v with
 | inl c => exact LeO.refl _
 | inr p =>
  refine LeO.bind (OctNat.jIU _ _) fun v2 => ?_
  cases v2 with
  | inl c => exact LeO.refl _
  | inr q => exact LeO.bind (vR.mono _ _ _ _) fun _ => LeO.refl _
def jPA (g : Nat) (w : World) (v : Int ⊕ (Bool × List Int × List Int × ByteArray)) (e : Ending) (w' : World) : Prop := match v with
 | .inl c => e = .panicked (pan c) ∧ Below g w w'
 | .inr (n, a, b, t) => ∃ u1 u2 : Value, e = .returned (.agg #[.bool n, u1, u2]) ∧ Below g w w' ∧ w'.heap[g]? = some (.cells #[.string t] 135 (0, 0)) ∧ Kd.R (Kd.int .u64) 56 w' w.heap.size (fun k_ => some k_ ≠ (u2 : Value).ownBlock) u1 a ∧ Kd.R (Kd.int .u64) 56 w' w.heap.size (fun k_ => some k_ ≠ (u1 : Value).ownBlock) u2 b
theorem jMc {k : Nat} {s t : ByteArray} {l : List Int} (h : OctNat.nat_ k s = some (.inr (l, t))) : t.size ≤ s.size := by
 unfold OctNat.nat_ at h
 cases hn : num s with
 | inl c => rw [hn] at h; cases h
 | inr p =>
  obtain ⟨n, x⟩ := p
  have hx := jFR hn
  rw [hn] at h
  simp only at h
  split at h
  ·
   cases h
  split at h
  ·
   cases h
  obtain ⟨r, _, h⟩ := Option.bind_eq_some_iff.mp h
  obtain ⟨b, _, h⟩ := Option.bind_eq_some_iff.mp h
  cases b with
  | false => cases h
  | true => cases h; rw [ByteArray.size_extract]; omega
theorem jPd (k g : Nat) (s : ByteArray) (w : World) (v : Int ⊕ (Bool × List Int × List Int × ByteArray)) (hb : w.heap[g]? = some (.cells #[.string s] 135 (0, 0))) (hz : s.size ≤ 140737488351232) (h : rat_ k s = some v) :
  Calls Tryz.prog 93 #[.pointer (some ⟨g, 0, none⟩)] w (jPA g w v) := by
 have HB := jA.mk (jO hb (.cells #[.bool false, .slice none 0 0, .slice none 0 0] 33))
 have HA := jA.mk (vD w (.cells #[.bool false, .slice none 0 0, .slice none 0 0] 33))
 have HG := jA.mk (qG hb)
 have HW := jA.mk (jQ (Below.refl w.heap.size w) (.cells #[.bool false, .slice none 0 0, .slice none 0 0] 33))
 have HS := jA.mk (show (w.alloc (.cells #[.bool false, .slice none 0 0, .slice none 0 0] 33)).heap.size = w.heap.size + 1 from Array.size_push _)
 clear hb
 unfold rat_ at h
 by_cases h1 : s.size < 1
 ·
  rw [if_pos h1] at h
  cases h
  go_enter Tryz.func93, Tryz.ntmps93
  go_wp2_with fail
  refine (jFI g 1 s _ HB.out (by omega) h1).mono ?_
  rintro e w1 ⟨rfl, rfl⟩
  exact ⟨rfl, rfl, HW.out.mono (Nat.le_of_lt HG.out)⟩
 rw [if_neg h1] at h
 obtain ⟨b, hk⟩ := Int.eq_ofNat_of_zero_le (jAl s 0).1
 have hkb : b ≤ 255 := by have := (jAl s 0).2; omega
 have hx1 : (s.extract 0 1).size = 1 := by rw [ByteArray.size_extract]; omega
 have hget : ∀ h : 0 < (s.extract 0 1).size, (((s.extract 0 1)[0]'h).toNat : Int) = (b : Int) := fun h => by
  rw [ByteArray.getElem_extract, ← hk]; exact jOo s 0 (by simp; omega)
 rw [hk] at h
 simp only [Int.toNat_natCast] at h
 have hgs : w.heap.size ≠ g := fun e => by have := HG.out; omega
 have HB1 := jA.mk (jM (cs' := #[.string (s.extract 1 s.size)]) HB.out 0 (.string (s.extract 1 s.size)) rfl)
 have HA1 := jA.mk (jV (p := ⟨g, 0, none⟩) HA.out hgs (.string (s.extract 1 s.size)))
 have HW1 := jA.mk ((HW.out.mono (Nat.le_of_lt HG.out)).setCell (p := ⟨g, 0, none⟩) (Nat.le_refl g) (.string (s.extract 1 s.size)))
 have HS1 := jA.mk (show ((w.alloc (.cells #[.bool false, .slice none 0 0, .slice none 0 0] 33)).setCell ⟨g, 0, none⟩ (.string (s.extract 1 s.size))).heap.size = w.heap.size + 1 from by rw [← HS.out]; simp [World.setCell])
 have TK := jA.mk (jBT g 1 s _ HB.out (by omega) (by omega))
 have HX := jA.mk (show (s.extract 1 s.size).size ≤ 140737488351232 by rw [ByteArray.size_extract]; omega)
 clear hk HA HW HS
 by_cases h2 : 1 < b
 ·
  rw [if_pos h2] at h
  cases h
  have t2 : decide ((b : Int) ≤ 1) = false := decide_eq_false (by omega)
  have t3 : decide (b ≤ 1) = false := decide_eq_false (by omega)
  go_enter Tryz.func93, Tryz.ntmps93
  go_wp2_with fail
  refine TK.out.mono ?_
  rintro e w1 ⟨rfl, rfl⟩
  go_wp2_with fail
  refine (jCl _).mono ?_
  rintro e w1 ⟨rfl, rfl⟩
  exact ⟨rfl, rfl, HW1.out⟩
 rw [if_neg h2] at h
 have t2 : decide ((b : Int) ≤ 1) = true := decide_eq_true (by omega)
 have t3 : decide (b ≤ 1) = true := decide_eq_true (by omega)
 obtain ⟨v1, hv1, h⟩ := Option.bind_eq_some_iff.mp h
 obtain ⟨nb, t4⟩ : ∃ nb : Bool, ((b : Int) == 1) = nb := ⟨_, rfl⟩
 have t5 : (b == 1) = nb := by
  rw [← t4]
  cases hb1 : (b == 1) with
  | true => rw [beq_iff_eq.1 hb1]; rfl
  | false => have := beq_eq_false_iff_ne.1 hb1; exact (beq_eq_false_iff_ne.2 (by omega)).symm
 rw [t4] at h
 have HH := jA.mk h
 have HV1 := jA.mk hv1
 clear h hv1 HB
 go_enter Tryz.func93, Tryz.ntmps93
 go_wp2_with fail
 refine TK.out.mono ?_
 rintro e w1 ⟨rfl, rfl⟩
 clear TK
 generalize (w.alloc (.cells #[.bool false, .slice none 0 0, .slice none 0 0] 33)).setCell ⟨g, 0, none⟩ (.string (s.extract 1 s.size)) = W at HB1 HA1 HW1 HS1 ⊢
 go_wp2_with fail
 refine (jAb _).mono ?_
 rintro e w1 ⟨rfl, rfl⟩
 have q0 := (jB HA1.out 0).trans (show _ = some (.bool false) from rfl)
 have f0 := jP HA1.out 0
 have HB2 := jA.mk (jV (p := ⟨w.heap.size, 0, none⟩) HB1.out (by show g ≠ w.heap.size; omega) (.bool nb))
 have HA2 := jA.mk (jM (cs' := #[.bool nb, .slice none 0 0, .slice none 0 0]) HA1.out 0 (.bool nb) rfl)
 have HW2 := jA.mk (HW1.out.setCell (p := ⟨w.heap.size, 0, none⟩) (Nat.le_of_lt HG.out) (.bool nb))
 have HS2 := jA.mk (show (W.setCell ⟨w.heap.size, 0, none⟩ (.bool nb)).heap.size = w.heap.size + 1 from by rw [← HS1.out]; simp [World.setCell])
 clear HB1 HA1 HW1 HS1
 go_wp2_with fail
 have NC := jA.mk (OctNat.jGU k g (s.extract 1 s.size) _ v1 HB2.out HX.out HV1.out)
 generalize W.setCell ⟨w.heap.size, 0, none⟩ (.bool nb) = W2 at HB2 HA2 HW2 HS2 NC ⊢
 cases v1 with
 | inl c =>
  have hh := HH.out
  cases hh
  refine NC.out.mono ?_
  rintro e w1 ⟨rfl, hb⟩
  exact ⟨rfl, rfl, HW2.out.trans hb.1⟩
 | inr p =>
  obtain ⟨a, t⟩ := p
  have hh := HH.out
  clear HH
  simp only at hh
  obtain ⟨v2, hv2, hh⟩ := Option.bind_eq_some_iff.mp hh
  have HH := jA.mk hh
  have HV2 := jA.mk hv2
  have HTZ := jA.mk (Nat.le_trans (jMc HV1.out) HX.out)
  clear hh hv2 HV1
  refine NC.out.mono ?_
  rintro e w4 ⟨u, rfl, hb4, h4, hr⟩
  obtain ⟨A1, c1, rfl⟩ := Kd.vE hr
  have HA3 := jA.mk (hb4.2.blk HA2.out hgs (by simp))
  have HW3 := jA.mk (HW2.out.trans hb4.1)
  have HR3 := jA.mk (Kd.jk (base' := w.heap.size) (Kd.vB (ok' := fun k_ => w.heap.size + 1 ≤ k_) (Kd.zC hr) (fun k_ hk_ => by have := hk_.2.1; have := HS2.out; omega)) (by have := HS2.out; omega))
  have HZ3 := jA.mk (show w.heap.size + 1 ≤ w4.heap.size by have := hb4.1.size; have := HS2.out; omega)
  have q1 := (jB HA3.out 1).trans (show _ = some (.slice none 0 0) from rfl)
  have f1 := jP HA3.out 1
  have HB5 := jA.mk (jV (p := ⟨w.heap.size, 1, none⟩) h4 (by show g ≠ w.heap.size; omega) (.slice A1 a.length c1))
  have HA5 := jA.mk (jM (cs' := #[.bool nb, .slice A1 a.length c1, .slice none 0 0]) HA3.out 1 (.slice A1 a.length c1) rfl)
  have HW5 := jA.mk (HW3.out.setCell (p := ⟨w.heap.size, 1, none⟩) (Nat.le_of_lt HG.out) (.slice A1 a.length c1))
  have HR5 := jA.mk (Oct.jQz (p := ⟨w.heap.size, 1, none⟩) HR3.out (by show w.heap.size < _; omega) (.slice A1 a.length c1))
  have HZ5 := jA.mk (show w.heap.size + 1 ≤ (w4.setCell ⟨w.heap.size, 1, none⟩ (.slice A1 a.length c1)).heap.size by have := HZ3.out; simpa [World.setCell] using this)
  clear hr hb4 h4 HA2 HB2 HW2 HS2 HA3 HW3 HR3 HZ3 NC
  go_wp2_with fail
  have NC := jA.mk (OctNat.jGU k g t _ v2 HB5.out HTZ.out HV2.out)
  generalize w4.setCell ⟨w.heap.size, 1, none⟩ (.slice A1 a.length c1) = W5 at HB5 HA5 HW5 HR5 HZ5 NC ⊢
  cases v2 with
  | inl c =>
   have hh := HH.out
   cases hh
   refine NC.out.mono ?_
   rintro e w1 ⟨rfl, hb⟩
   exact ⟨rfl, rfl, HW5.out.trans hb.1⟩
  | inr p =>
   obtain ⟨b2, t2⟩ := p
   have hh := HH.out
   clear HH HV2
   simp only at hh
   obtain ⟨m, hm, hh⟩ := Option.bind_eq_some_iff.mp hh
   have HH := jA.mk hh
   have HM := jA.mk hm
   clear hh hm
   refine NC.out.mono ?_
   rintro e w6 ⟨u, rfl, hb6, h6, hr⟩
   obtain ⟨A2, c2, rfl⟩ := Kd.vE hr
   have HA6 := jA.mk (hb6.2.blk HA5.out hgs (by simp))
   have HW6 := jA.mk (HW5.out.trans hb6.1)
   have HR6 := jA.mk (Kd.jQy (Kd.vB (ok' := fun k_ => w.heap.size + 1 ≤ k_ ∧ k_ < W5.heap.size) (Kd.zC HR5.out) (fun k_ hk_ => ⟨hk_.1, hk_.2.2.1⟩)) hb6.2 (fun k_ hk_ => by have := hk_.1; have := HG.out; omega))
   have HQ6 := jA.mk (Kd.jk (base' := w.heap.size) (Kd.vB (ok' := fun k_ => W5.heap.size ≤ k_) (Kd.zC hr) (fun k_ hk_ => hk_.2.1)) (by have := HZ5.out; omega))
   have HS6 := jA.mk hb6.1.size
   have q2 := (jB HA6.out 2).trans (show _ = some (.slice none 0 0) from rfl)
   have f2 := jP HA6.out 2
   have HB7 := jA.mk (jV (p := ⟨w.heap.size, 2, none⟩) h6 (by show g ≠ w.heap.size; omega) (.slice A2 b2.length c2))
   have HA7 := jA.mk (jM (cs' := #[.bool nb, .slice A1 a.length c1, .slice A2 b2.length c2]) HA6.out 2 (.slice A2 b2.length c2) rfl)
   have HW7 := jA.mk (HW6.out.setCell (p := ⟨w.heap.size, 2, none⟩) (Nat.le_of_lt HG.out) (.slice A2 b2.length c2))
   have HR7 := jA.mk (Kd.qU (p := ⟨w.heap.size, 2, none⟩) HR6.out (fun k_ hk_ => by have := hk_.1; show k_ ≠ w.heap.size; omega) (.slice A2 b2.length c2))
   have HQ7 := jA.mk (Kd.qU (p := ⟨w.heap.size, 2, none⟩) HQ6.out (fun k_ hk_ => by have := HZ5.out; show k_ ≠ w.heap.size; omega) (.slice A2 b2.length c2))
   have HZ7 := jA.mk (show w.heap.size + 1 ≤ (w6.setCell ⟨w.heap.size, 2, none⟩ (.slice A2 b2.length c2)).heap.size by have := HS6.out; have := HZ5.out; simp [World.setCell]; omega)
   clear hr hb6 h6 HA5 HB5 HW5 HR5 HA6 HW6 HR6 HQ6 HS6 NC
   have q3 := (jB HA7.out 0).trans (show _ = some (.bool nb) from rfl)
   have q4 := (jB HA7.out 1).trans (show _ = some (.slice A1 a.length c1) from rfl)
   have q5 := (jB HA7.out 2).trans (show _ = some (.slice A2 b2.length c2) from rfl)
   go_wp2_with fail
   have RC1 := jA.mk (Kd.jW HR7.out)
   have RC2 := jA.mk (Kd.jW HQ7.out)
   clear q0 f0 q1 f1 q2 f2 q3 q4 q5
   generalize w6.setCell ⟨w.heap.size, 2, none⟩ (.slice A2 b2.length c2) = W7 at HB7 HA7 HW7 HR7 HQ7 HZ7 RC1 RC2 ⊢
   refine (vR.calls k nb A1 c1 a A2 c2 b2 m W7 RC1.out.2.2 RC1.out.2.1 RC2.out.2.2 RC2.out.2.1 HM.out).mono ?_
   rintro e w8 ⟨rfl, hb8⟩
   have HA8 := jA.mk (jN HA7.out hb8)
   have HB8 := jA.mk (jN HB7.out hb8)
   have HW8 := jA.mk (HW7.out.trans (hb8.mono (by have := HZ7.out; have := HG.out; omega)))
   have HR8 := jA.mk (Kd.jAT HR7.out hb8)
   have HQ8 := jA.mk (Kd.jAT HQ7.out hb8)
   clear hb8 HB7 HA7 HW7 HR7 HQ7 RC1 RC2 HM
   go_wp2_with fail
   cases m with
   | false =>
    have hh := HH.out
    cases hh
    refine (jCl _).mono ?_
    rintro e w9 ⟨rfl, rfl⟩
    exact ⟨rfl, rfl, HW8.out⟩
   | true =>
    have hh := HH.out
    cases hh
    refine (jAb _).mono ?_
    rintro e w9 ⟨rfl, rfl⟩
    have q3 := (jB HA8.out 0).trans (show _ = some (.bool nb) from rfl)
    have q4 := (jB HA8.out 1).trans (show _ = some (.slice A1 a.length c1) from rfl)
    have q5 := (jB HA8.out 2).trans (show _ = some (.slice A2 b2.length c2) from rfl)
    have f3 := jP HA8.out 0
    have f4 := jP HA8.out 1
    have f5 := jP HA8.out 2
    go_wp2
    refine bodyPost_ret (results_cell_row rfl _ _ w.heap.size 33 #[.bool nb, .slice A1 a.length c1, .slice A2 b2.length c2] (0, 0) _ rfl (by refine jM (cs := #[.bool nb, .slice A1 a.length c1, .slice A2 b2.length c2]) ?_ 2 _ rs_; refine jM (cs := #[.bool nb, .slice A1 a.length c1, .slice A2 b2.length c2]) ?_ 1 _ rs_; refine jM (cs := #[.bool nb, .slice A1 a.length c1, .slice A2 b2.length c2]) ?_ 0 _ rs_; exact HA8.out) Tryz.underlying33 rfl kr_) rfl ?_
    refine ⟨_, _, rfl, ((HW8.out.setCell (p := ⟨w.heap.size, 0, none⟩) (Nat.le_of_lt HG.out) _).setCell (p := ⟨w.heap.size, 1, none⟩) (Nat.le_of_lt HG.out) _).setCell (p := ⟨w.heap.size, 2, none⟩) (Nat.le_of_lt HG.out) _, ?_, ?_, ?_⟩
    ·
     exact jV (p := ⟨w.heap.size, 2, none⟩) (jV (p := ⟨w.heap.size, 1, none⟩) (jV (p := ⟨w.heap.size, 0, none⟩) HB8.out hgs.symm _) hgs.symm _) hgs.symm _
    ·
     refine Kd.vB (Kd.qU (p := ⟨w.heap.size, 2, none⟩) (Kd.qU (p := ⟨w.heap.size, 1, none⟩) (Kd.qU (p := ⟨w.heap.size, 0, none⟩) HR8.out (fun k_ hk_ => by have := hk_.1; show k_ ≠ w.heap.size; omega) _) (fun k_ hk_ => by have := hk_.1; show k_ ≠ w.heap.size; omega) _) (fun k_ hk_ => by have := hk_.1; show k_ ≠ w.heap.size; omega) _) (fun k_ hk_ e_ => ?_)
     have h1_ := HQ8.out.1 k_ e_.symm
     have h2_ := hk_.2
     omega
    refine Kd.vB (Kd.qU (p := ⟨w.heap.size, 2, none⟩) (Kd.qU (p := ⟨w.heap.size, 1, none⟩) (Kd.qU (p := ⟨w.heap.size, 0, none⟩) HQ8.out (fun k_ hk_ => by have := HZ5.out; show k_ ≠ w.heap.size; omega) _) (fun k_ hk_ => by have := HZ5.out; show k_ ≠ w.heap.size; omega) _) (fun k_ hk_ => by have := HZ5.out; show k_ ≠ w.heap.size; omega) _) (fun k_ hk_ e_ => ?_)
    have h1_ := (HR8.out.1 k_ e_.symm).2
    omega
end OctRat
namespace vv
open Oct
set_option maxHeartbeats 4000000 in
theorem jPQ (g q : Nat) (x0 x1 x2 y : Value) (w : World) (hp : w.heap[g]? = some (.cells #[x0, x1, x2] 33 (0, 0))) (hq : w.heap[q]? = some (.cells #[y] 9 (0, 0))) (hne : q ≠ g) :
  Calls Tryz.prog 92 #[.pointer (some ⟨g, 0, none⟩), .pointer (some ⟨q, 0, none⟩)] w fun e w' => e = .returned (.tuple #[]) ∧ w' = (((w.setCell ⟨g, 0, none⟩ (.bool false)).setCell ⟨g, 1, none⟩ (.slice none 0 0)).setCell ⟨g, 2, none⟩ (.slice none 0 0)).setCell ⟨q, 0, none⟩ (.string { data := #[] }) := by
 have z0 := (jB hp 0).trans (show _ = some x0 from rfl)
 have z1 := (jB hp 1).trans (show _ = some x1 from rfl)
 have z2 := (jB hp 2).trans (show _ = some x2 from rfl)
 have f0 := jP hp 0
 have f1 := jP hp 1
 have f2 := jP hp 2
 have hq' := (jV (p := ⟨g, 2, none⟩) (jV (p := ⟨g, 1, none⟩) (jV (p := ⟨g, 0, none⟩) hq hne (.bool false)) hne (.slice none 0 0)) hne (.slice none 0 0))
 have y0 := (jB hq' 0).trans (show _ = some y from rfl)
 have g0 := jP hq' 0
 clear hp hq hq'
 go_enter Tryz.func92, Tryz.ntmps92
 go_wp2
 go_end0
 exact ⟨rfl, rfl⟩
def W4 (s : ByteArray) (w : World) : World := (((w.alloc (.cells #[.bool false, .slice none 0 0, .slice none 0 0] 33)).alloc (.cells #[.string { data := #[] }] 9)).alloc (.cells #[.int .i64 0] 27)).alloc (.cells #[.string s] 135)
theorem zk (w : World) (o : Obj) : (w.alloc o).heap.size = w.heap.size + 1 := Array.size_push _
theorem w4_0 (s : ByteArray) (w : World) : (W4 s w).heap[w.heap.size]? = some (.cells #[.bool false, .slice none 0 0, .slice none 0 0] 33 (0, 0)) := jO (jO (jO (vD _ _) _) _) _
theorem w4_1 (s : ByteArray) (w : World) : (W4 s w).heap[w.heap.size + 1]? = some (.cells #[.string { data := #[] }] 9 (0, 0)) := by rw [← zk w (.cells #[.bool false, .slice none 0 0, .slice none 0 0] 33)]; exact jO (jO (vD _ _) _) _
theorem w4_2 (s : ByteArray) (w : World) : (W4 s w).heap[w.heap.size + 1 + 1]? = some (.cells #[.int .i64 0] 27 (0, 0)) := by rw [← zk w (.cells #[.bool false, .slice none 0 0, .slice none 0 0] 33), ← zk _ (.cells #[.string { data := #[] }] 9)]; exact jO (vD _ _) _
theorem w4_3 (s : ByteArray) (w : World) : (W4 s w).heap[w.heap.size + 1 + 1 + 1]? = some (.cells #[.string s] 135 (0, 0)) := by rw [← zk w (.cells #[.bool false, .slice none 0 0, .slice none 0 0] 33), ← zk _ (.cells #[.string { data := #[] }] 9), ← zk _ (.cells #[.int .i64 0] 27)]; exact vD _ _
theorem jJn (s : ByteArray) (w : World) : (W4 s w).heap.size = w.heap.size + 1 + 1 + 1 + 1 := by unfold W4; rw [zk, zk, zk, zk]
theorem jIA (s : ByteArray) (w : World) : Below w.heap.size w (W4 s w) :=
 jQ (jQ (jQ (jQ (Below.refl _ w) _) _) _) _
theorem jQO (k : Nat) (s : ByteArray) (w : World) (c : Int) (hn : OctRat.rat_ k s = some (.inl c)) (hz : s.size ≤ 140737488351232) :
  Calls Tryz.prog 55 #[.string s] w fun e w' => e = .returned (.tuple #[.agg #[.bool false, .slice none 0 0, .slice none 0 0], .string { data := #[] }, .int .i64 c]) ∧ Below w.heap.size w w' := by
 have hmf : ∀ (fn : Fn) (first cap : Array Value) (w : World), (Instr.makeFunc fn first cap).run Tryz.prog w = .ok (.func fn first cap) w := fun _ _ _ _ => rfl
 have H0 := jA.mk (w4_0 s w)
 have H1 := jA.mk (w4_1 s w)
 have H2 := jA.mk (w4_2 s w)
 have H3 := jA.mk (w4_3 s w)
 have HW := jA.mk (jIA s w)
 have HZ := jA.mk (jJn s w)
 have HN := jA.mk hn
 clear hn
 go_enter_defers Tryz.func55, Tryz.ntmps55
 go_wp2_with fail
 refine (show Calls Tryz.prog 93 _ (W4 s w) (OctRat.jPA _ (W4 s w) _) from OctRat.jPd k _ s _ _ H3.out hz HN.out).mono ?_
 generalize W4 s w = W at H0 H1 H2 H3 HW HZ ⊢
 rintro e w1 ⟨rfl, hb⟩
 have C0 := jA.mk ((hb.block _ (by omega)).trans H0.out)
 have C1 := jA.mk ((hb.block _ (by omega)).trans H1.out)
 have C2 := jA.mk ((hb.block _ (by omega)).trans H2.out)
 have CB := jA.mk (HW.out.trans (hb.mono (by omega)))
 clear hb
 show bodyPostD Tryz.prog Tryz.f55 _ (Exit.panic _) _ _
 unfold bodyPostD pan
 refine leaves_cons (f := 89) (args := #[.pointer (some ⟨w.heap.size + 1 + 1, 0, none⟩), .func (.func 92) #[] #[.pointer (some ⟨w.heap.size, 0, none⟩), .pointer (some ⟨w.heap.size + 1, 0, none⟩)]]) (by simp) kr_ ?_
 have D0 := jV (p := ⟨w.heap.size + 1 + 1, 0, none⟩) C0.out (by simp; omega) (.int .i64 c)
 have D1 := jV (p := ⟨w.heap.size + 1 + 1, 0, none⟩) C1.out (by simp) (.int .i64 c)
 have DB := (CB.out.setCell (p := ⟨w.heap.size + 1 + 1, 0, none⟩) (by simp; omega) (.int .i64 c))
 have HU := jPQ w.heap.size (w.heap.size + 1) _ _ _ _ _ D0 D1 (by omega)
 have DU := (((DB.setCell (p := ⟨w.heap.size, 0, none⟩) (by simp) (.bool false)).setCell (p := ⟨w.heap.size, 1, none⟩) (by simp) (.slice none 0 0)).setCell (p := ⟨w.heap.size, 2, none⟩) (by simp) (.slice none 0 0)).setCell (p := ⟨w.heap.size + 1, 0, none⟩) (by simp) (.string { data := #[] })
 have E2 := jV (p := ⟨w.heap.size + 1, 0, none⟩) (jV (p := ⟨w.heap.size, 2, none⟩) (jV (p := ⟨w.heap.size, 1, none⟩) (jV (p := ⟨w.heap.size, 0, none⟩) (jM (cs' := #[.int .i64 c]) C2.out 0 (.int .i64 c) rfl) (by simp; omega) (.bool false)) (by simp; omega) (.slice none 0 0)) (by simp; omega) (.slice none 0 0)) (by simp) (.string { data := #[] })
 have E0 := jV (p := ⟨w.heap.size + 1, 0, none⟩) (jM (cs' := #[.bool false, .slice none 0 0, .slice none 0 0]) (jM (cs' := #[.bool false, .slice none 0 0, .slice none 0 0]) (jM (cs' := #[.bool false, .slice none 0 0, .slice none 0 0]) D0 0 (.bool false) rfl) 1 (.slice none 0 0) rfl) 2 (.slice none 0 0) rfl) (by simp) (.string { data := #[] })
 have E1 := jM (cs' := #[.string { data := #[] }]) (jV (p := ⟨w.heap.size, 2, none⟩) (jV (p := ⟨w.heap.size, 1, none⟩) (jV (p := ⟨w.heap.size, 0, none⟩) D1 (by simp) (.bool false)) (by simp) (.slice none 0 0)) (by simp) (.slice none 0 0)) 0 (.string { data := #[] }) rfl
 refine (jDC ⟨w.heap.size + 1 + 1, 0, none⟩ 0 c 92 Tryz.f92 _ [] w1 _ ((jB C2.out 0).trans rfl) (jP C2.out 0) (fun _ _ => kr_) HU).mono ?_
 rintro e u' w'' ⟨rfl, rfl, rfl⟩
 have F2 := (jB E2 0).trans (show _ = some (.int .i64 c) from rfl)
 have F0 := (jB E0 0).trans (show _ = some (.bool false) from rfl)
 have F0a := (jB E0 1).trans (show _ = some (.slice none 0 0) from rfl)
 have F0b := (jB E0 2).trans (show _ = some (.slice none 0 0) from rfl)
 have F1 := (jB E1 0).trans (show _ = some (.string { data := #[] }) from rfl)
 clear E0 E1 E2 HU D0 D1 DB
 generalize ((((w1.setCell ⟨w.heap.size + 1 + 1, 0, none⟩ (.int .i64 c)).setCell ⟨w.heap.size, 0, none⟩ (.bool false)).setCell ⟨w.heap.size, 1, none⟩ (.slice none 0 0)).setCell ⟨w.heap.size, 2, none⟩ (.slice none 0 0)).setCell ⟨w.heap.size + 1, 0, none⟩ (.string { data := #[] }) = w3 at DU F0 F0a F0b F1 F2 ⊢
 have hu := Tryz.underlying33
 simp [Leaves, settle, results, Tryz.results55, go_sem, F0, F0a, F0b, F1, F2]
 exact DU
theorem jOZ (k : Nat) (s : ByteArray) (w : World) (n : Bool) (a b : List Int) (t : ByteArray) (hn : OctRat.rat_ k s = some (.inr (n, a, b, t))) (hz : s.size ≤ 140737488351232) :
  Calls Tryz.prog 55 #[.string s] w fun e w' => ∃ u1 u2 : Value, e = .returned (.tuple #[.agg #[.bool n, u1, u2], .string t, .int .i64 0]) ∧ Kd.R (Kd.int .u64) 56 w' w.heap.size (fun k_ => some k_ ≠ (u2 : Value).ownBlock) u1 a ∧ Kd.R (Kd.int .u64) 56 w' w.heap.size (fun k_ => some k_ ≠ (u1 : Value).ownBlock) u2 b ∧ Below w.heap.size w w' := by
 have hmf : ∀ (fn : Fn) (first cap : Array Value) (w : World), (Instr.makeFunc fn first cap).run Tryz.prog w = .ok (.func fn first cap) w := fun _ _ _ _ => rfl
 have H0 := jA.mk (w4_0 s w)
 have H1 := jA.mk (w4_1 s w)
 have H2 := jA.mk (w4_2 s w)
 have H3 := jA.mk (w4_3 s w)
 have HW := jA.mk (jIA s w)
 have HZ := jA.mk (jJn s w)
 have HN := jA.mk hn
 clear hn
 go_enter_defers Tryz.func55, Tryz.ntmps55
 go_wp2_with fail
 refine (show Calls Tryz.prog 93 _ (W4 s w) (OctRat.jPA _ (W4 s w) _) from OctRat.jPd k _ s _ _ H3.out hz HN.out).mono ?_
 generalize W4 s w = W at H0 H1 H2 H3 HW HZ ⊢
 rintro e w1 ⟨u1, u2, rfl, hb, h3, hr1, hr2⟩
 clear HN
 obtain ⟨A1, c1, rfl⟩ := Kd.vE hr1
 obtain ⟨A2, c2, rfl⟩ := Kd.vE hr2
 have C0 := (hb.block _ (by omega)).trans H0.out
 have C1 := (hb.block _ (by omega)).trans H1.out
 have C2 := (hb.block _ (by omega)).trans H2.out
 have CB := HW.out.trans (hb.mono (by omega))
 have X0 := (jB C0 0).trans (show _ = some (.bool false) from rfl)
 have X0a := (jB C0 1).trans (show _ = some (.slice none 0 0) from rfl)
 have X0b := (jB C0 2).trans (show _ = some (.slice none 0 0) from rfl)
 have Z0 := jP C0 0
 have Z0a := jP C0 1
 have Z0b := jP C0 2
 have HZ0 := HZ
 have G1 := Kd.jk (base' := w.heap.size) (Kd.vB (ok' := fun k_ => w.heap.size + 1 + 1 + 1 + 1 ≤ k_ ∧ some k_ ≠ (.slice A2 b.length c2 : Value).ownBlock) (Kd.zC hr1) (fun k_ hk_ => ⟨HZ0.out ▸ hk_.2.1, hk_.1⟩)) (show w.heap.size ≤ W.heap.size by have := HZ0.out; omega)
 have G2 := Kd.jk (base' := w.heap.size) (Kd.vB (ok' := fun k_ => w.heap.size + 1 + 1 + 1 + 1 ≤ k_ ∧ some k_ ≠ (.slice A1 a.length c1 : Value).ownBlock) (Kd.zC hr2) (fun k_ hk_ => ⟨HZ0.out ▸ hk_.2.1, hk_.1⟩)) (show w.heap.size ≤ W.heap.size by have := HZ0.out; omega)
 clear hb HW H0 H1 H2 H3 HZ hr1 hr2
 have D0 := jA.mk (jM (cs' := #[.bool n, .slice A1 a.length c1, .slice A2 b.length c2]) (jM (cs' := #[.bool n, .slice A1 a.length c1, .slice none 0 0]) (jM (cs' := #[.bool n, .slice none 0 0, .slice none 0 0]) C0 0 (.bool n) rfl) 1 (.slice A1 a.length c1) rfl) 2 (.slice A2 b.length c2) rfl)
 have D1 := jA.mk (jV (p := ⟨w.heap.size, 2, none⟩) (jV (p := ⟨w.heap.size, 1, none⟩) (jV (p := ⟨w.heap.size, 0, none⟩) C1 (by simp) (.bool n)) (by simp) (.slice A1 a.length c1)) (by simp) (.slice A2 b.length c2))
 have D2 := jA.mk (jV (p := ⟨w.heap.size, 2, none⟩) (jV (p := ⟨w.heap.size, 1, none⟩) (jV (p := ⟨w.heap.size, 0, none⟩) C2 (by simp; omega) (.bool n)) (by simp; omega) (.slice A1 a.length c1)) (by simp; omega) (.slice A2 b.length c2))
 have D3 := jA.mk (jV (p := ⟨w.heap.size, 2, none⟩) (jV (p := ⟨w.heap.size, 1, none⟩) (jV (p := ⟨w.heap.size, 0, none⟩) h3 (by simp; omega) (.bool n)) (by simp; omega) (.slice A1 a.length c1)) (by simp; omega) (.slice A2 b.length c2))
 have DB := jA.mk (((CB.setCell (p := ⟨w.heap.size, 0, none⟩) (by simp) (.bool n)).setCell (p := ⟨w.heap.size, 1, none⟩) (by simp) (.slice A1 a.length c1)).setCell (p := ⟨w.heap.size, 2, none⟩) (by simp) (.slice A2 b.length c2))
 have HV1 := jA.mk (Kd.qU (p := ⟨w.heap.size, 2, none⟩) (Kd.qU (p := ⟨w.heap.size, 1, none⟩) (Kd.qU (p := ⟨w.heap.size, 0, none⟩) G1 (fun k_ hk_ => by have := hk_.1; show k_ ≠ w.heap.size; omega) (.bool n)) (fun k_ hk_ => by have := hk_.1; show k_ ≠ w.heap.size; omega) (.slice A1 a.length c1)) (fun k_ hk_ => by have := hk_.1; show k_ ≠ w.heap.size; omega) (.slice A2 b.length c2))
 have HV2 := jA.mk (Kd.qU (p := ⟨w.heap.size, 2, none⟩) (Kd.qU (p := ⟨w.heap.size, 1, none⟩) (Kd.qU (p := ⟨w.heap.size, 0, none⟩) G2 (fun k_ hk_ => by have := hk_.1; show k_ ≠ w.heap.size; omega) (.bool n)) (fun k_ hk_ => by have := hk_.1; show k_ ≠ w.heap.size; omega) (.slice A1 a.length c1)) (fun k_ hk_ => by have := hk_.1; show k_ ≠ w.heap.size; omega) (.slice A2 b.length c2))
 clear C0 C1 C2 CB h3 G1 G2 HZ0
 go_wp2
 generalize (((w1.setCell ⟨w.heap.size, 0, none⟩ (.bool n)).setCell ⟨w.heap.size, 1, none⟩ (.slice A1 a.length c1)).setCell ⟨w.heap.size, 2, none⟩ (.slice A2 b.length c2)) = v0 at D0 D1 D2 D3 DB HV1 HV2 ⊢
 refine jJl ?_
 refine zw (n := 8) (S := fun w' => w'.heap[w.heap.size]? = some (.cells #[.bool n, .slice A1 a.length c1, .slice A2 b.length c2] 33 (0, 0)) ∧ w'.heap[w.heap.size + 1]? = some (.cells #[.string { data := #[] }] 9 (0, 0)) ∧ w'.heap[w.heap.size + 1 + 1]? = some (.cells #[.int .i64 0] 27 (0, 0)) ∧ w'.heap[w.heap.size + 1 + 1 + 1]? = some (.cells #[.string t] 135 (0, 0)) ∧ Below w.heap.size w w' ∧ Kd.R (Kd.int .u64) 56 w' w.heap.size (fun k_ => w.heap.size + 1 + 1 + 1 + 1 ≤ k_ ∧ some k_ ≠ (.slice A2 b.length c2 : Value).ownBlock) (.slice A1 a.length c1) a ∧ Kd.R (Kd.int .u64) 56 w' w.heap.size (fun k_ => w.heap.size + 1 + 1 + 1 + 1 ≤ k_ ∧ some k_ ≠ (.slice A1 a.length c1 : Value).ownBlock) (.slice A2 b.length c2) b) (ds := [6, 7]) #[false, false, false, false, false, false, false, false] kr_ rfl rfl ⟨jI D0.out, jI D1.out, jI D2.out, jI D3.out, jv DB.out, Kd.qL HV1.out, Kd.qL HV2.out⟩ (fun hHeld => ?_)
 generalize v0.drew = u0 at hHeld ⊢
 clear D0 D1 D2 D3 DB HV1 HV2
 refine jBx (i := 0) (N := some 12) (v := ?_) (a' := ?_) (ba_ 8 1) rfl rfl kr_ (fun _ _ _ h => h) (Or.inl ⟨by rfl, ?_⟩) hHeld ?_ ?_
 rotate_left
 ·
  rintro w' ⟨s0_, s1_, s2_, s3_, s4_, s5_, s6_⟩
  have hc := (jB s0_ 0).trans (show _ = some (.bool n) from rfl)
  have hca := (jB s0_ 1).trans (show _ = some (.slice A1 a.length c1) from rfl)
  have hcb := (jB s0_ 2).trans (show _ = some (.slice A2 b.length c2) from rfl)
  go_simp
  with_reducible rfl
 rotate_left
 ·
  simp only [Act.put, ss_, vF, vN]
  rfl
 refine pu_ 1 (some 13) (ba_ 8 3) kr_ ?_
 refine pu_ 2 (some 14) (ba_ 8 7) kr_ ?_
 refine pu_ 3 (some 15) (ba_ 8 15) kr_ ?_
 refine jBx (i := 4) (N := some 16) (v := ?_) (a' := ?_) (ba_ 8 31) rfl rfl kr_ (fun _ _ _ h => h) (Or.inl ⟨by rfl, ?_⟩) hHeld ?_ ?_
 rotate_left
 ·
  rintro w' ⟨s0_, s1_, s2_, s3_, s4_, s5_, s6_⟩
  have hc := (jB s3_ 0).trans (show _ = some (.string t) from rfl)
  go_simp
  with_reducible rfl
 rotate_left
 ·
  simp only [Act.put, ss_, vF, vN]
  rfl
 obtain ⟨s0_, s1_, s2_, s3_, s4_, s5_, s6_⟩ := hHeld
 refine one_ (i := 5) (N := none) (ba_ 8 63) rfl rfl kr_ (by decide) (fun K hK => ?_)
 have hc := (jB s0_ 0).trans (show _ = some (.bool n) from rfl)
 have hca := (jB s0_ 1).trans (show _ = some (.slice A1 a.length c1) from rfl)
 have hcb := (jB s0_ 2).trans (show _ = some (.slice A2 b.length c2) from rfl)
 have hf := jP s0_ 0
 have hfa := jP s0_ 1
 have hfb := jP s0_ 2
 refine jAq (w1 := ?_) (by rfl) rfl ?_ ?_
 rotate_left
 ·
  go_simp
  rfl
 refine hK.out _ _ ⟨(jM (cs' := #[.bool n, .slice A1 a.length c1, .slice A2 b.length c2]) (jM (cs' := #[.bool n, .slice A1 a.length c1, .slice A2 b.length c2]) (jM (cs' := #[.bool n, .slice A1 a.length c1, .slice A2 b.length c2]) s0_ 0 (.bool n) rfl) 1 (.slice A1 a.length c1) rfl) 2 (.slice A2 b.length c2) rfl), (jV (p := ⟨w.heap.size, 2, none⟩) (jV (p := ⟨w.heap.size, 1, none⟩) (jV (p := ⟨w.heap.size, 0, none⟩) s1_ (by simp) (.bool n)) (by simp) (.slice A1 a.length c1)) (by simp) (.slice A2 b.length c2)), (jV (p := ⟨w.heap.size, 2, none⟩) (jV (p := ⟨w.heap.size, 1, none⟩) (jV (p := ⟨w.heap.size, 0, none⟩) s2_ (by simp; omega) (.bool n)) (by simp; omega) (.slice A1 a.length c1)) (by simp; omega) (.slice A2 b.length c2)), (jV (p := ⟨w.heap.size, 2, none⟩) (jV (p := ⟨w.heap.size, 1, none⟩) (jV (p := ⟨w.heap.size, 0, none⟩) s3_ (by simp; omega) (.bool n)) (by simp; omega) (.slice A1 a.length c1)) (by simp; omega) (.slice A2 b.length c2)), (((s4_.setCell (p := ⟨w.heap.size, 0, none⟩) (by simp) (.bool n)).setCell (p := ⟨w.heap.size, 1, none⟩) (by simp) (.slice A1 a.length c1)).setCell (p := ⟨w.heap.size, 2, none⟩) (by simp) (.slice A2 b.length c2)), (Kd.qU (p := ⟨w.heap.size, 2, none⟩) (Kd.qU (p := ⟨w.heap.size, 1, none⟩) (Kd.qU (p := ⟨w.heap.size, 0, none⟩) s5_ (fun k_ hk_ => by have := hk_.1; show k_ ≠ w.heap.size; omega) (.bool n)) (fun k_ hk_ => by have := hk_.1; show k_ ≠ w.heap.size; omega) (.slice A1 a.length c1)) (fun k_ hk_ => by have := hk_.1; show k_ ≠ w.heap.size; omega) (.slice A2 b.length c2)), (Kd.qU (p := ⟨w.heap.size, 2, none⟩) (Kd.qU (p := ⟨w.heap.size, 1, none⟩) (Kd.qU (p := ⟨w.heap.size, 0, none⟩) s6_ (fun k_ hk_ => by have := hk_.1; show k_ ≠ w.heap.size; omega) (.bool n)) (fun k_ hk_ => by have := hk_.1; show k_ ≠ w.heap.size; omega) (.slice A1 a.length c1)) (fun k_ hk_ => by have := hk_.1; show k_ ≠ w.heap.size; omega) (.slice A2 b.length c2))⟩ (fun hHeld => ?_)
 clear hK K
 clear hc hca hcb hf hfa hfb
 obtain ⟨s0_, s1_, s2_, s3_, s4_, s5_, s6_⟩ := hHeld
 refine jAh (i := 6) (N := none) (ba_ 8 127) rfl rfl kr_ (by decide) (fun K hK => ?_)
 have hc := (jB s1_ 0).trans (show _ = some (.string { data := #[] }) from rfl)
 have hf := jP s1_ 0
 refine jAq (w1 := ?_) (by rfl) rfl ?_ ?_
 rotate_left
 ·
  go_simp
  rfl
 refine hK.out _ _ ?_
 clear hK K
 have e0 := jV (p := ⟨w.heap.size + 1, 0, none⟩) s0_ (by simp) (.string t)
 have e1 := jM (cs' := #[.string t]) s1_ 0 (.string t) rfl
 have e2 := jV (p := ⟨w.heap.size + 1, 0, none⟩) s2_ (by simp) (.string t)
 have e4 := s4_.setCell (p := ⟨w.heap.size + 1, 0, none⟩) (by simp) (.string t)
 have c2_ := (jB s2_ 0).trans (show _ = some (.int .i64 0) from rfl)
 have z2 := jP s2_ 0
 have e5 := (Kd.qU (p := ⟨w.heap.size + 1, 0, none⟩) s5_ (fun k_ hk_ => by have := hk_.1; show k_ ≠ w.heap.size + 1; omega) (.string t))
 have e6 := (Kd.qU (p := ⟨w.heap.size + 1, 0, none⟩) s6_ (fun k_ hk_ => by have := hk_.1; show k_ ≠ w.heap.size + 1; omega) (.string t))
 clear s0_ s1_ s2_ s3_ s4_ s5_ s6_
 refine jAh (i := 7) (N := none) (ba_ 8 255) rfl rfl kr_ (by decide) (fun K hK => ?_)
 have hc := (jB e2 0).trans (show _ = some (.int .i64 0) from rfl)
 have hf := jP e2 0
 refine jAq (w1 := ?_) (by rfl) rfl ?_ ?_
 rotate_left
 ·
  go_simp
  rfl
 refine hK.out _ _ ?_
 clear hK K
 have ff0 := (jV (p := ⟨w.heap.size + 1 + 1, 0, none⟩) e0 (by simp; omega) (.int .i64 0))
 have f0 := (jB ff0 0).trans (show _ = some (.bool n) from rfl)
 have f0a := (jB ff0 1).trans (show _ = some (.slice A1 a.length c1) from rfl)
 have f0b := (jB ff0 2).trans (show _ = some (.slice A2 b.length c2) from rfl)
 have f1 := (jB (jV (p := ⟨w.heap.size + 1 + 1, 0, none⟩) e1 (by simp) (.int .i64 0)) 0).trans (show _ = some (.string t) from rfl)
 have f2 := (jB (jM (cs' := #[.int .i64 0]) e2 0 (.int .i64 0) rfl) 0).trans (show _ = some (.int .i64 0) from rfl)
 have f4 := e4.setCell (p := ⟨w.heap.size + 1 + 1, 0, none⟩) (by simp; omega) (.int .i64 0)
 have f5 := (Kd.qU (p := ⟨w.heap.size + 1 + 1, 0, none⟩) e5 (fun k_ hk_ => by have := hk_.1; show k_ ≠ w.heap.size + 1 + 1; omega) (.int .i64 0))
 have f6 := (Kd.qU (p := ⟨w.heap.size + 1 + 1, 0, none⟩) e6 (fun k_ hk_ => by have := hk_.1; show k_ ≠ w.heap.size + 1 + 1; omega) (.int .i64 0))
 clear e0 e1 e2 e4 e5 e6 ff0
 refine jAR kr_ ?_
 refine jBs ?_
 refine (‹∀ (a : Act) (w : World), Code.wp Tryz.prog Code.ret _ a w → _›) _ _ ?_
 clear hc hf c2_ z2 X0 X0a X0b Z0 Z0a Z0b
 go_wp2
 generalize ((((u0.setCell ⟨w.heap.size, 0, none⟩ (.bool n)).setCell ⟨w.heap.size, 1, none⟩ (.slice A1 a.length c1)).setCell ⟨w.heap.size, 2, none⟩ (.slice A2 b.length c2)).setCell ⟨w.heap.size + 1, 0, none⟩ (.string t)).setCell ⟨w.heap.size + 1 + 1, 0, none⟩ (.int .i64 0) = w3 at f0 f0a f0b f1 f2 f4 f5 f6 ⊢
 unfold bodyPostD
 refine leaves_cons (f := 89) (args := #[.pointer (some ⟨w.heap.size + 1 + 1, 0, none⟩), .func (.func 92) #[] #[.pointer (some ⟨w.heap.size, 0, none⟩), .pointer (some ⟨w.heap.size + 1, 0, none⟩)]]) (by simp) kr_ ?_
 refine (jED _ _ _).mono ?_
 rintro e u' w'' ⟨rfl, rfl, rfl⟩
 have hu := Tryz.underlying33
 simp [Leaves, settle, results, Tryz.results55, go_sem, f0, f0a, f0b, f1, f2]
 refine ⟨.slice A1 a.length c1, .slice A2 b.length c2, by first | rfl | exact ⟨rfl, rfl⟩ | simp, Kd.vB f5 (fun _ h_ => h_.2), Kd.vB f6 (fun _ h_ => h_.2), f4⟩
end vv
def vv.f (k : Nat) (a0 : ByteArray) : Option (Bool × List Int × List Int × ByteArray × Int) := if a0.size ≤ 140737488351232 then ((OctRat.rat_ k a0).bind fun v_ => some (match v_ with | .inl c => (false, [], [], { data := #[] }, c) | .inr (n, a, b, t) => (n, a, b, t, 0))) else none
theorem vv.calls (k : Nat) (a0 : ByteArray) (r1 : Bool) (r2 : List Int) (r3 : List Int) (r4 : ByteArray) (r5 : Int) (w : World) (h : vv.f k a0 = some (r1, r2, r3, r4, r5)) :
  Calls Tryz.prog 55 #[.string a0] w fun e w' => ∃ v1_ v2_ : Value, e = .returned (.tuple #[.agg #[.bool r1, v1_, v2_], .string r4, .int .i64 r5]) ∧ Kd.R (Kd.int .u64) 56 w' w.heap.size (fun k_ => some k_ ≠ (v2_ : Value).ownBlock) v1_ r2 ∧ Kd.R (Kd.int .u64) 56 w' w.heap.size (fun k_ => some k_ ≠ (v1_ : Value).ownBlock) v2_ r3 ∧ Below w.heap.size w w' := by
 unfold vv.f at h
 by_cases hz : a0.size ≤ 140737488351232
 rotate_left
 ·
  rw [if_neg hz] at h; cases h
 rw [if_pos hz] at h
 obtain ⟨v, hv, h⟩ := Option.bind_eq_some_iff.mp h
 cases v with
 | inl c =>
  cases h
  refine (vv.jQO k a0 w _ hv hz).mono ?_
  rintro e w' ⟨he, hb⟩
  exact ⟨_, _, he, Kd.jAS _ _ _ _ _, Kd.jAS _ _ _ _ _, hb⟩
 | inr p =>
  obtain ⟨n, a, b, t⟩ := p
  cases h
  exact vv.jOZ k a0 w _ _ _ _ hv hz
namespace GetT
def zT : S37 := ⟨⟨false, [], []⟩, ⟨0, 0, 0, 0⟩⟩
def getT (k : Nat) (s : ByteArray) : Option (S37 × ByteArray × Int) := (vv.f k s).bind fun r => if r.2.2.2.2 ≠ 0 then some (zT, { data := #[] }, r.2.2.2.2) else if r.2.2.2.1.size < 4 then some (zT, { data := #[] }, 60) else if r.2.2.2.1.size ≤ 9223372036854775807 then some (⟨⟨r.1, r.2.1, r.2.2.1⟩, ⟨bt r.2.2.2.1 0, bt r.2.2.2.1 1, bt r.2.2.2.1 2, bt r.2.2.2.1 3⟩⟩, r.2.2.2.1.extract 4 r.2.2.2.1.size, 0) else none
theorem jDb {P : Program} {fn : Func} {p u v : Tmp} {ty : TypeId} (h : fn.results = #[.cell p ty, .tmp u, .tmp v]) (tmps : Array Value) (w : World) (g : Nat) (t : TypeId) (cs : Array Value) (fr : Nat × Nat) (d : TypeDesc)
  (hp : tmps.getD p undef = .pointer (some ⟨g, 0, none⟩)) (hg : w.heap[g]? = some (.cells cs t fr))
  (hu : P.underlying ty = some d) (hd : (match d with | .struct _ | .array _ _ => true | _ => false) = true) (hi : (P.info? ty).map (·.size) = some cs.size) :
  (results fn tmps).run P w = .ok (.tuple #[.agg cs, tmps.getD u undef, tmps.getD v undef]) w := by
 have hp' : tmps[p]?.getD undef = .pointer (some ⟨g, 0, none⟩) := by simpa using hp
 simp [results, h, hp', asAddr, run_loadVar_row w g t ty cs fr d hg hu hd hi, Sem.run_bind, Result.andThen]
theorem jKp : (Tryz.prog.info? 37).map (·.size) = some 7 := by kernel_rfl
theorem jMi (u : ByteArray) (i : Int) (w : World) (h0 : 0 ≤ i) (h1 : i < u.size) : (Instr.index 9 (.string u) (.int .i64 i)).run Tryz.prog w = .ok (.int .u8 (bt u i)) w := by
 have h2 : i.toNat < u.size := by omega
 rw [run_index_string w _ _ _ _ Tryz.underlying9]
 simp [h0, h1, h2, bt]
theorem w64b (u : ByteArray) (i : Int) : wrap64 (bt u i) = bt u i := by have := jAl u i; unfold wrap64; omega
/-- A row whose blocks are not the box g stays while the box is written. -/
theorem farT {w : World} {base N g : Nat} {v : Value} {l : List Int} (h : Kd.R (Kd.int .u64) 56 w base (fun k => N ≤ k) v l) (hg : g < N) (j : Nat) (u : Value) : Kd.R (Kd.int .u64) 56 (w.setCell ⟨g, j, none⟩ u) base (fun k => N ≤ k) v l := Kd.qU h (fun k hk e => by have : k = g := e; omega) u
theorem belT {B g : Nat} {w w' : World} (h : Below B w w') (hg : B ≤ g) (j : Nat) (u : Value) : Below B w (w'.setCell ⟨g, j, none⟩ u) := h.setCell (p := ⟨g, j, none⟩) hg u
set_option maxHeartbeats 4000000 in
theorem jQP (k : Nat) (s : ByteArray) (x : S37) (t : ByteArray) (ec : Int) (w : World) (h : getT k s = some (x, t, ec)) :
  Calls Tryz.prog 30 #[.string s] w fun e w' => ∃ v1_ v2_ : Value, e = .returned (.tuple #[.agg #[.bool x.f0.f0, v1_, v2_, .int .i64 x.f1.f0, .int .i64 x.f1.f1, .int .i64 x.f1.f2, .int .i64 x.f1.f3], .string t, .int .i64 ec]) ∧ Kd.R (Kd.int .u64) 56 w' w.heap.size (fun _ => True) v1_ x.f0.f1 ∧ Kd.R (Kd.int .u64) 56 w' w.heap.size (fun _ => True) v2_ x.f0.f2 ∧ Below w.heap.size w w' := by
 unfold getT at h
 obtain ⟨r, hp, h2⟩ := Option.bind_eq_some_iff.1 h
 clear h
 obtain ⟨n, a, b, u, c⟩ := r
 dsimp only at h2
 have hH := jA.mk (fun W => vv.calls k s n a b u c W hp)
 have HH := jA.mk h2
 clear hp h2
 have hu_37 := Tryz.underlying37
 have hu_33 := Tryz.underlying33
 have hu_35 := Tryz.underlying35
 go_enter Tryz.func30, Tryz.ntmps30
 go_wp2_with ((with_reducible refine jl (N := 2) rfl ?_); (try (refine jg (by rfl) ?_; dsimp only)); refine bx_ 2 #[.bool false, .slice none 0 0, .slice none 0 0, .int .i64 0, .int .i64 0, .int .i64 0, .int .i64 0] 37 ?_; intro g hg w1 hbox hb; have HBK := jA.mk hbox; have HGE := jA.mk hg; have HB := jA.mk hb; clear hbox hb hg)
 refine (hH.out _).mono ?_
 rintro e w2 ⟨v1, v2, rfl, hr1, hr2, hb⟩
 have HBK2 := jA.mk (jN HBK.out hb)
 have HB2 := jA.mk (jG HB.out hb)
 have hle : w.heap.size ≤ w1.heap.size := HB.out.size
 have HGL := jA.mk (show g < w1.heap.size from qG HBK.out)
 have HR1 := jA.mk (Kd.vB (Kd.jk (Kd.zC hr1) hle) (fun k hk => (show w1.heap.size ≤ k from hk.2.1)))
 have HR2 := jA.mk (Kd.vB (Kd.jk (Kd.zC hr2) hle) (fun k hk => (show w1.heap.size ≤ k from hk.2.1)))
 obtain ⟨A1, c1, rfl⟩ := Kd.vE hr1
 obtain ⟨A2, c2, rfl⟩ := Kd.vE hr2
 have HGW := jA.mk (show w.heap.size ≤ g from by rw [HGE.out]; exact Nat.le_refl _)
 clear hr1 hr2 hb HBK HB hH hle HGE
 have HX := jA.mk (jM (jM (jM HBK2.out 0 (.bool n) rfl) 1 (.slice A1 a.length c1) rfl) 2 (.slice A2 b.length c2) rfl)
 have HY := jA.mk (belT (belT (belT HB2.out HGW.out 0 (.bool n)) HGW.out 1 (.slice A1 a.length c1)) HGW.out 2 (.slice A2 b.length c2))
 have HS1 := jA.mk (farT (farT (farT HR1.out HGL.out 0 (.bool n)) HGL.out 1 (.slice A1 a.length c1)) HGL.out 2 (.slice A2 b.length c2))
 have HS2 := jA.mk (farT (farT (farT HR2.out HGL.out 0 (.bool n)) HGL.out 1 (.slice A1 a.length c1)) HGL.out 2 (.slice A2 b.length c2))
 have y0 := (jB HBK2.out 0).trans (show _ = some (.bool false) from rfl)
 have y1 := (jB HBK2.out 1).trans (show _ = some (.slice none 0 0) from rfl)
 have y2 := (jB HBK2.out 2).trans (show _ = some (.slice none 0 0) from rfl)
 have z : ∀ i, w2.frozen? ⟨g, i, none⟩ = false := fun i => jP HBK2.out i
 clear HBK2 HB2 HR1 HR2
 by_cases h0 : c ≠ 0
 ·
  have t3 : (c != 0) = true := bne_iff_ne.mpr h0
  obtain ⟨rfl, rfl, rfl⟩ : zT = x ∧ ({ data := #[] } : ByteArray) = t ∧ c = ec := by
   have := HH.out
   rw [if_pos h0] at this
   simp only [Option.some.injEq, Prod.mk.injEq] at this
   exact this
  clear h0 HH
  have y3 := (jB HX.out 3).trans (show _ = some (.int .i64 0) from rfl)
  have y4 := (jB HX.out 4).trans (show _ = some (.int .i64 0) from rfl)
  have y5 := (jB HX.out 5).trans (show _ = some (.int .i64 0) from rfl)
  have y6 := (jB HX.out 6).trans (show _ = some (.int .i64 0) from rfl)
  have HP := jA.mk (jM (cs' := #[.bool false, .slice none 0 0, .slice none 0 0, .int .i64 0, .int .i64 0, .int .i64 0, .int .i64 0]) (jM (jM (jM (jM (jM (jM HX.out 0 (.bool false) rfl) 1 (.slice none 0 0) rfl) 2 (.slice none 0 0) rfl) 3 (.int .i64 0) rfl) 4 (.int .i64 0) rfl) 5 (.int .i64 0) rfl) 6 (.int .i64 0) (by simp only [ss_]))
  have HQ := jA.mk (belT (belT (belT (belT (belT (belT (belT HY.out HGW.out 0 (.bool false)) HGW.out 1 (.slice none 0 0)) HGW.out 2 (.slice none 0 0)) HGW.out 3 (.int .i64 0)) HGW.out 4 (.int .i64 0)) HGW.out 5 (.int .i64 0)) HGW.out 6 (.int .i64 0))
  clear HX HY HS1 HS2
  go_wp2
  (try simp only [Exit.inBlock, Exit.then])
  refine bodyPost_ret (jDb (ty := 37) (p := 2) (u := 3) (v := 4) rfl _ _ g 37 #[.bool false, .slice none 0 0, .slice none 0 0, .int .i64 0, .int .i64 0, .int .i64 0, .int .i64 0] _ _ rfl HP.out hu_37 rfl jKp) rfl ?_
  exact ⟨_, _, rfl, Kd.jAS _ _ _ _ _, Kd.jAS _ _ _ _ _, HQ.out⟩
 have hc : c = 0 := Decidable.of_not_not h0
 subst hc
 clear h0
 have hh := HH.out
 rw [if_neg (fun q => q rfl)] at hh
 clear HH
 have y3 := (jB HX.out 3).trans (show _ = some (.int .i64 0) from rfl)
 have y4 := (jB HX.out 4).trans (show _ = some (.int .i64 0) from rfl)
 have y5 := (jB HX.out 5).trans (show _ = some (.int .i64 0) from rfl)
 have y6 := (jB HX.out 6).trans (show _ = some (.int .i64 0) from rfl)
 by_cases h1 : u.size < 4
 ·
  rw [if_pos h1] at hh
  cases hh
  have t1 : decide ((u.size : Int) < 4) = true := decide_eq_true (by omega)
  clear h1
  have HP := jA.mk (jM (cs' := #[.bool false, .slice none 0 0, .slice none 0 0, .int .i64 0, .int .i64 0, .int .i64 0, .int .i64 0]) (jM (jM (jM (jM (jM (jM HX.out 0 (.bool false) rfl) 1 (.slice none 0 0) rfl) 2 (.slice none 0 0) rfl) 3 (.int .i64 0) rfl) 4 (.int .i64 0) rfl) 5 (.int .i64 0) rfl) 6 (.int .i64 0) (by simp only [ss_]))
  have HQ := jA.mk (belT (belT (belT (belT (belT (belT (belT HY.out HGW.out 0 (.bool false)) HGW.out 1 (.slice none 0 0)) HGW.out 2 (.slice none 0 0)) HGW.out 3 (.int .i64 0)) HGW.out 4 (.int .i64 0)) HGW.out 5 (.int .i64 0)) HGW.out 6 (.int .i64 0))
  clear HX HY HS1 HS2
  go_wp2
  (try simp only [Exit.inBlock, Exit.then])
  refine bodyPost_ret (jDb (ty := 37) (p := 2) (u := 3) (v := 4) rfl _ _ g 37 #[.bool false, .slice none 0 0, .slice none 0 0, .int .i64 0, .int .i64 0, .int .i64 0, .int .i64 0] _ _ rfl HP.out hu_37 rfl jKp) rfl ?_
  exact ⟨_, _, rfl, Kd.jAS _ _ _ _ _, Kd.jAS _ _ _ _ _, HQ.out⟩
 rw [if_neg h1] at hh
 split at hh
 rotate_left
 ·
  cases hh
 rename_i hsz
 cases hh
 have HSZ := jA.mk hsz
 have HSG := jA.mk h1
 have t1 : decide ((u.size : Int) < 4) = false := decide_eq_false (by omega)
 have i0 : ∀ w, (Instr.index 9 (.string u) (.int .i64 0)).run Tryz.prog w = .ok (.int .u8 (bt u 0)) w := fun w => jMi u 0 w (Int.le_refl 0) (by omega)
 have i1 : ∀ w, (Instr.index 9 (.string u) (.int .i64 1)).run Tryz.prog w = .ok (.int .u8 (bt u 1)) w := fun w => jMi u 1 w (by decide) (by omega)
 have i2 : ∀ w, (Instr.index 9 (.string u) (.int .i64 2)).run Tryz.prog w = .ok (.int .u8 (bt u 2)) w := fun w => jMi u 2 w (by decide) (by omega)
 have i3 : ∀ w, (Instr.index 9 (.string u) (.int .i64 3)).run Tryz.prog w = .ok (.int .u8 (bt u 3)) w := fun w => jMi u 3 w (by decide) (by omega)
 have q0 : wrap64 (bt u 0) = bt u 0 := w64b u 0
 have q1 : wrap64 (bt u 1) = bt u 1 := w64b u 1
 have q2 : wrap64 (bt u 2) = bt u 2 := w64b u 2
 have q3 : wrap64 (bt u 3) = bt u 3 := w64b u 3
 clear h1 hsz
 go_wp2
 generalize hw3 : (((w2.setCell ⟨g, 0, none⟩ (.bool n)).setCell ⟨g, 1, none⟩ (.slice A1 a.length c1)).setCell ⟨g, 2, none⟩ (.slice A2 b.length c2)) = w3 at HX HY HS1 HS2 y3 y4 y5 y6 ⊢
 clear hw3 y0 y1 y2 z
 have z : ∀ i, w3.frozen? ⟨g, i, none⟩ = false := fun i => jP HX.out i
 have HP := jA.mk (jM (cs' := #[.bool n, .slice A1 a.length c1, .slice A2 b.length c2, .int .i64 (bt u 0), .int .i64 (bt u 1), .int .i64 (bt u 2), .int .i64 (bt u 3)]) (jM (jM (jM HX.out 3 (.int .i64 (bt u 0)) rfl) 4 (.int .i64 (bt u 1)) rfl) 5 (.int .i64 (bt u 2)) rfl) 6 (.int .i64 (bt u 3)) (by simp only [ss_]))
 have HQ := jA.mk (belT (belT (belT (belT HY.out HGW.out 3 (.int .i64 (bt u 0))) HGW.out 4 (.int .i64 (bt u 1))) HGW.out 5 (.int .i64 (bt u 2))) HGW.out 6 (.int .i64 (bt u 3)))
 have HU1 := jA.mk (farT (farT (farT (farT HS1.out HGL.out 3 (.int .i64 (bt u 0))) HGL.out 4 (.int .i64 (bt u 1))) HGL.out 5 (.int .i64 (bt u 2))) HGL.out 6 (.int .i64 (bt u 3)))
 have HU2 := jA.mk (farT (farT (farT (farT HS2.out HGL.out 3 (.int .i64 (bt u 0))) HGL.out 4 (.int .i64 (bt u 1))) HGL.out 5 (.int .i64 (bt u 2))) HGL.out 6 (.int .i64 (bt u 3)))
 clear HX HY HS1 HS2
 refine wp_loop_rounds 5 ?_
 rw [rounds_succ]
 go_wp2
 rw [rounds_succ]
 go_wp2
 rw [rounds_succ]
 go_wp2
 rw [rounds_succ]
 go_wp2
 rw [rounds_succ]
 go_wp2
 clear y3 y4 y5 y6 z i0 i1 i2 i3
 generalize ((((w3.setCell ⟨g, 3, none⟩ (.int .i64 (bt u 0))).setCell ⟨g, 4, none⟩ (.int .i64 (bt u 1))).setCell ⟨g, 5, none⟩ (.int .i64 (bt u 2))).setCell ⟨g, 6, none⟩ (.int .i64 (bt u 3))) = w4 at HP HQ HU1 HU2 ⊢
 have hx4 : ((4 : Int) ≤ (u.size : Int)) = True := eq_true (by have := HSG.out; omega)
 refine zw (n := 6) (S := fun w' => w'.cell? ⟨g, 0, none⟩ = some (.bool n) ∧ w'.cell? ⟨g, 1, none⟩ = some (.slice A1 a.length c1) ∧ w'.cell? ⟨g, 2, none⟩ = some (.slice A2 b.length c2) ∧ w'.cell? ⟨g, 3, none⟩ = some (.int .i64 (bt u 0)) ∧ w'.cell? ⟨g, 4, none⟩ = some (.int .i64 (bt u 1)) ∧ w'.cell? ⟨g, 5, none⟩ = some (.int .i64 (bt u 2)) ∧ w'.cell? ⟨g, 6, none⟩ = some (.int .i64 (bt u 3))) (ds := [3]) #[false, false, false, false, false, false] kr_ rfl rfl ⟨(jB (jI HP.out) 0).trans rfl, (jB (jI HP.out) 1).trans rfl, (jB (jI HP.out) 2).trans rfl, (jB (jI HP.out) 3).trans rfl, (jB (jI HP.out) 4).trans rfl, (jB (jI HP.out) 5).trans rfl, (jB (jI HP.out) 6).trans rfl⟩ (fun hHeld => ?_)
 have HP4 := jA.mk (jI HP.out)
 have HQ4 := jA.mk (jv HQ.out)
 have HU3 := jA.mk (Kd.qL HU1.out)
 have HU4 := jA.mk (Kd.qL HU2.out)
 clear HP HQ HU1 HU2
 generalize w4.drew = w5 at HP4 HQ4 HU3 HU4 hHeld ⊢
 refine tk7_ 0 (some 34) (ba_ 6 1) kr_ hHeld ?_
 refine pu_ 1 (some 35) (ba_ 6 3) kr_ ?_
 refine pu_ 2 (some 36) (ba_ 6 7) kr_ ?_
 refine jAh (i := 3) (N := none) (ba_ 6 15) rfl rfl kr_ (by decide) (fun K hK => ?_)
 obtain ⟨s0_, s1_, s2_, s3_, s4_, s5_, s6_⟩ := hHeld
 have z : ∀ i, w5.frozen? ⟨g, i, none⟩ = false := fun i => jP HP4.out i
 refine jAq (w1 := ?_) (by rfl) rfl ?_ ?_
 rotate_left
 ·
  go_simp
  rfl
 refine hK.out _ _ ?_
 clear hK K
 refine pu_ 4 (some 3) (ba_ 6 31) kr_ ?_
 refine pu_ 5 (some 4) (ba_ 6 63) kr_ ?_
 refine jAR kr_ ?_
 have HZ := jA.mk (jM (cs' := #[.bool n, .slice A1 a.length c1, .slice A2 b.length c2, .int .i64 (bt u 0), .int .i64 (bt u 1), .int .i64 (bt u 2), .int .i64 (bt u 3)]) (jM (jM (jM (jM (jM (jM HP4.out 0 (.bool n) rfl) 1 (.slice A1 a.length c1) rfl) 2 (.slice A2 b.length c2) rfl) 3 (.int .i64 (bt u 0)) rfl) 4 (.int .i64 (bt u 1)) rfl) 5 (.int .i64 (bt u 2)) rfl) 6 (.int .i64 (bt u 3)) (by simp only [ss_]))
 have HZ2 := jA.mk (belT (belT (belT (belT (belT (belT (belT HQ4.out HGW.out 0 (.bool n)) HGW.out 1 (.slice A1 a.length c1)) HGW.out 2 (.slice A2 b.length c2)) HGW.out 3 (.int .i64 (bt u 0))) HGW.out 4 (.int .i64 (bt u 1))) HGW.out 5 (.int .i64 (bt u 2))) HGW.out 6 (.int .i64 (bt u 3)))
 have HZ3 := jA.mk (farT (farT (farT (farT (farT (farT (farT HU3.out HGL.out 0 (.bool n)) HGL.out 1 (.slice A1 a.length c1)) HGL.out 2 (.slice A2 b.length c2)) HGL.out 3 (.int .i64 (bt u 0))) HGL.out 4 (.int .i64 (bt u 1))) HGL.out 5 (.int .i64 (bt u 2))) HGL.out 6 (.int .i64 (bt u 3)))
 have HZ4 := jA.mk (farT (farT (farT (farT (farT (farT (farT HU4.out HGL.out 0 (.bool n)) HGL.out 1 (.slice A1 a.length c1)) HGL.out 2 (.slice A2 b.length c2)) HGL.out 3 (.int .i64 (bt u 0))) HGL.out 4 (.int .i64 (bt u 1))) HGL.out 5 (.int .i64 (bt u 2))) HGL.out 6 (.int .i64 (bt u 3)))
 clear HP4 HQ4 HU3 HU4 s0_ s1_ s2_ s3_ s4_ s5_ s6_ z
 go_wp2
 (try simp only [Exit.inBlock, Exit.then])
 refine bodyPost_ret (jDb (ty := 37) (p := 2) (u := 3) (v := 4) rfl _ _ g 37 #[.bool n, .slice A1 a.length c1, .slice A2 b.length c2, .int .i64 (bt u 0), .int .i64 (bt u 1), .int .i64 (bt u 2), .int .i64 (bt u 3)] _ _ rfl HZ.out hu_37 rfl jKp) rfl ?_
 exact ⟨_, _, rfl, Kd.vB HZ3.out (fun _ _ => trivial), Kd.vB HZ4.out (fun _ _ => trivial), HZ2.out⟩
end GetT
-- NOT PRINTED: function 90 (octet_Get_1)
end Go.Proofs.YtoganbmeedimiaaGreat.POPressOne
