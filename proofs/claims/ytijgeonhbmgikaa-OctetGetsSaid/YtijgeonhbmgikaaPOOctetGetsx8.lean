-- printed (pr.py)
import Derived.Test.YtijgeonhbmgikaaPOOctetGetsx0
import Derived.Test.YtijgeonhbmgikaaPOOctetGetsx5
namespace Go.Proofs.Ytijgeonhbmgikaa.POOctetGets
open Go.RowKit Go.Proofs.YtijgeonhbmgikaaN Go.Proofs.YtijgeonhbmgikaaW.PrintWords Go.Proofs.YtijgeonhbmgikaaW.PrintLast Go.Proofs.YtijgeonhbmgikaaW.PrintMore
attribute [local go_sem] qC zy qR qP za zZ qA zx
set_option maxHeartbeats 8000000
set_option maxRecDepth 100000
set_option linter.unusedVariables false
set_option linter.unusedSimpArgs false

/-! ### jH: function 100 -/
mutual
def jH.j0 : Nat → List Int → Int → Bool → Option (List Int)
 | 0, _, _, _ => none
 | k + 1, x0, x1, x27 => if x27 = true then (some ([] : List Int)) else (if 0 ≤ (wrap64 (Int.tdiv x1 64)) then (if (wrap64 (Int.tdiv x1 64)) ≤ (x0.length : Int) then ((je.f (x0.drop ((wrap64 (Int.tdiv x1 64)) : Int).toNat)).bind fun t188 => (jH.l0 k t188 (Int.tmod x1 64) (t188.length : Int) 0)) else (none)) else (none))
def jH.l0 : Nat → List Int → Int → Int → Int → Option (List Int)
 | 0, _, _, _, _ => none
 | k + 1, x5, x6, x36, x37 => if x37 < x36 then (if 0 ≤ x37 then (if x37 < (x5.length : Int) then (if 0 ≤ x6 then ((some (x5.set (x37 : Int).toNat (shr .u64 (rd x5 x37) x6) : List Int)).bind fun y192 => (if (wrap64 (x37 + 1)) < (x5.length : Int) then (if x6 > 0 then (if 0 ≤ (wrap64 (x37 + 1)) then (if 0 ≤ (wrap64 (64 - x6)) then (jH.l0 k (y192.set (x37 : Int).toNat (Go.bits .or .u64 (rd y192 x37) (shl .u64 (rd y192 (wrap64 (x37 + 1))) (wrap64 (64 - x6))))) x6 x36 (wrap64 (x37 + 1))) else (none)) else (none)) else (jH.l0 k y192 x6 x36 (wrap64 (x37 + 1)))) else (jH.l0 k y192 x6 x36 (wrap64 (x37 + 1))))) else (none)) else (none)) else (none)) else ((jQ.f k x5).bind fun t196 => (some t196))
def jH.l1 : Nat → Int → List Int → Int → List Int → Int → Int → Option (List Int)
 | 0, _, _, _, _, _, _ => none
 | k + 1, x1, x8, x9, x84, x85, x86 => if x86 < x85 then (if 0 ≤ x86 then (if x86 < (x84.length : Int) then (if 0 ≤ (Int.tmod x1 64) then (if x8.length < 17592186044416 then (if 0 ≤ (wrap64 (63 - (Int.tmod x1 64))) then (jH.l1 k x1 (x8 ++ [Go.bits .or .u64 (shl .u64 (rd x84 x86) (Int.tmod x1 64)) x9]) ((shr .u64 (rd x84 x86) (wrap64 (63 - (Int.tmod x1 64)))) / 2) x84 x85 (wrap64 (x86 + 1))) else (none)) else (none)) else (none)) else (none)) else (none)) else (if x8.length < 17592186044416 then ((jQ.f k (x8 ++ [x9])).bind fun t209 => ((je.f t209).bind fun t212 => (some t212))) else (none))
end
def jH.f (k : Nat) (l0 : List Int) (a1 : Int) : Option (List Int) := (jQ.f k l0).bind fun t180 => (if a1 < 0 then (if (wrap64 (-(mx a1 (-100001)))) > 100000 then (jH.j0 k t180 (wrap64 (-(mx a1 (-100001)))) true) else (jH.j0 k t180 (wrap64 (-(mx a1 (-100001)))) (decide ((wrap64 (Int.tdiv (wrap64 (-(mx a1 (-100001)))) 64)) ≥ (t180.length : Int))))) else (if 0 ≤ (wrap64 (Int.tdiv (mn a1 1000) 64)) then (if (wrap64 (Int.tdiv (mn a1 1000) 64)) ≤ (wrap64 ((wrap64 ((wrap64 (Int.tdiv (mn a1 1000) 64)) + (t180.length : Int))) + 1)) then (if (wrap64 ((wrap64 ((wrap64 (Int.tdiv (mn a1 1000) 64)) + (t180.length : Int))) + 1) : Int).toNat ≤ 35184372088832 then (jH.l1 k (mn a1 1000) (List.replicate (wrap64 (Int.tdiv (mn a1 1000) 64) : Int).toNat 0) 0 t180 (t180.length : Int) 0) else (none)) else (none)) else (none)))
theorem jH.vN : ∀ k, (∀ y0 y1 y2, LeO (jH.j0 k y0 y1 y2) (jH.j0 (k + 1) y0 y1 y2)) ∧ (∀ y0 y1 y2 y3, LeO (jH.l0 k y0 y1 y2 y3) (jH.l0 (k + 1) y0 y1 y2 y3)) ∧ (∀ y0 y1 y2 y3 y4 y5, LeO (jH.l1 k y0 y1 y2 y3 y4 y5) (jH.l1 (k + 1) y0 y1 y2 y3 y4 y5))
 | 0 => ⟨fun _ _ _ r h => by simp [jH.j0] at h, fun _ _ _ _ r h => by simp [jH.l0] at h, fun _ _ _ _ _ _ r h => by simp [jH.l1] at h⟩
 | k + 1 => by
  obtain ⟨ih0, ih1, ih2⟩ := jH.vN k
  refine ⟨?_, ?_, ?_⟩ <;> (intros; first | unfold jH.j0 | unfold jH.l0 | unfold jH.l1) <;> repeat' first
   | (with_reducible exact ih0 _ _ _)
   | (with_reducible exact ih1 _ _ _ _)
   | (with_reducible exact ih2 _ _ _ _ _ _)
   | (with_reducible exact jQ.mono _ _)
   | (with_reducible exact LeO.refl _)
   | (with_reducible exact LeO.none _)
   | (with_reducible refine LeO.ite ?_ ?_)
   | (with_reducible refine LeO.bind ?_ (fun _ => ?_))
theorem jH.mono : ∀ a0 a1 k, LeO (jH.f k a0 a1) (jH.f (k + 1) a0 a1) := by
 intro a0 a1 k
 obtain ⟨ih0, ih1, ih2⟩ := jH.vN k
 unfold jH.f
 repeat' first
   | (with_reducible exact ih0 _ _ _)
   | (with_reducible exact ih1 _ _ _ _)
   | (with_reducible exact ih2 _ _ _ _ _ _)
   | (with_reducible exact jQ.mono _ _)
   | (with_reducible exact LeO.refl _)
   | (with_reducible exact LeO.none _)
   | (with_reducible refine LeO.ite ?_ ?_)
   | (with_reducible refine LeO.bind ?_ (fun _ => ?_))
def jH.T12 : Bool × List (List Nat × List Nat) := (true, [([], []), ([], []), ([0, 1], [0, 1]), ([2], [2]), ([], []), ([], []), ([5], [5]), ([4, 6], [4, 6]), ([7], [7]), ([], []), ([9], [9]), ([8, 10], [8, 10]), ([3, 11], [3, 11]), ([0, 1, 0, 1, 2, 3, 4, 5, 6, 7, 8, 9, 10, 11, 12], [0, 1]), ([13, 12, 0, 1, 2, 3, 4, 5, 6, 7, 8, 9, 10, 11, 12], [12, 13])])
def jH.B12 : List Nat := [0, 0, 3, 7, 0, 0, 32, 112, 240, 0, 512, 2032, 4095, 8191, 16383]
theorem jH.jLO : rtab .any (opsOf Try.f100 12) = jH.T12 := by kernel_rfl
theorem jH.jKr : jAj jH.T12.2 jH.B12 = true := by kernel_rfl
def jH.T21 : Bool × List (List Nat × List Nat) := (true, [([], []), ([], []), ([], []), ([2], [2]), ([1, 3], [1, 3]), ([], []), ([4, 5], [4, 5]), ([6], [6]), ([0, 7], [0, 7]), ([], []), ([], []), ([10], [10]), ([11], [11]), ([9, 12], [9, 12]), ([13], [13]), ([8, 8, 0, 1, 2, 3, 4, 5, 6, 7, 8], [0, 8]), ([14, 15, 0, 1, 2, 3, 4, 5, 6, 7, 8, 9, 10, 11, 12, 13, 14, 15], [5, 14])])
def jH.B21 : List Nat := [0, 0, 0, 4, 14, 0, 62, 126, 255, 0, 0, 1024, 3072, 7680, 15872, 511, 65535]
theorem jH.jLN : rtab .any (opsOf Try.f100 21) = jH.T21 := by kernel_rfl
theorem jH.jKq : jAj jH.T21.2 jH.B21 = true := by kernel_rfl
theorem jH.calls (k : Nat) (A0 : Option Addr) (c0 : Nat) (l0 : List Int) (a1 : Int) (r : List Int) (w : World) (hr0 : Kd.C (Kd.int .u64) w A0 l0.length l0) (hc0 : l0.length ≤ c0) (h : jH.f k l0 a1 = some r) :
  Calls Try.prog 100 #[.slice A0 l0.length c0, .int .i64 a1] w fun e w' => ∃ v0_ : Value, e = .returned (v0_) ∧ Kd.R (Kd.int .u64) 22 w' w.heap.size (fun _ => True) v0_ r ∧ Below w.heap.size w w' := by
 obtain ⟨P0_, hP0_⟩ : ∃ P0_ : Nat → Prop, ∀ k, P0_ k := ⟨fun _ => True, fun _ => trivial⟩
 have hs0 : Kd.V (Kd.int .u64) 22 w w.heap.size (fun k_ => P0_ k_) (.slice A0 l0.length c0) l0 := Kd.V_mk hc0 (fun W' hb => (Kd.zQ .u64).C (fun k hk => hb k (hP0_ k) hk) hr0)
 clear hr0 hc0 hP0_
 have HO0 := jA.mk (show Kd.V (Kd.int .u64) 22 w w.heap.size (fun k_ => (P0_ k_ ∨ w.heap.size ≤ k_)) (.slice A0 l0.length c0) l0 from Kd.zV hs0 (fun k_ hk => .inl hk))
 have HB := jA.mk (Below.refl w.heap.size w)
 have H : ((jQ.f k l0).bind fun t180 => (if a1 < 0 then (if (wrap64 (-(mx a1 (-100001)))) > 100000 then (jH.j0 k t180 (wrap64 (-(mx a1 (-100001)))) true) else (jH.j0 k t180 (wrap64 (-(mx a1 (-100001)))) (decide ((wrap64 (Int.tdiv (wrap64 (-(mx a1 (-100001)))) 64)) ≥ (t180.length : Int))))) else (if 0 ≤ (wrap64 (Int.tdiv (mn a1 1000) 64)) then (if (wrap64 (Int.tdiv (mn a1 1000) 64)) ≤ (wrap64 ((wrap64 ((wrap64 (Int.tdiv (mn a1 1000) 64)) + (t180.length : Int))) + 1)) then (if (wrap64 ((wrap64 ((wrap64 (Int.tdiv (mn a1 1000) 64)) + (t180.length : Int))) + 1) : Int).toNat ≤ 35184372088832 then (jH.l1 k (mn a1 1000) (List.replicate (wrap64 (Int.tdiv (mn a1 1000) 64) : Int).toNat 0) 0 t180 (t180.length : Int) 0) else (none)) else (none)) else (none)))) = some r := h
 clear h
 replace H := ob_ H
 obtain ⟨t180, A30, H⟩ := H
 try dsimp only at H
 have A3 := jA.mk A30
 clear A30
 by_cases c4 : a1 < 0
 ·
  rw [if_pos c4] at H
  have c4b0 := decide_eq_true c4
  clear c4
  obtain ⟨ji5, hji5⟩ : ∃ j_ : Int, (mx a1 (-100001)) = j_ := ⟨_, rfl⟩
  replace H : (if (wrap64 (-(ji5))) > 100000 then (jH.j0 k t180 (wrap64 (-(ji5))) true) else (jH.j0 k t180 (wrap64 (-(ji5))) (decide ((wrap64 (Int.tdiv (wrap64 (-(ji5))) 64)) ≥ (t180.length : Int))))) = some r := by first | (rw [hji5] at H; exact H) | (simp only [hji5] at H ⊢; exact H)
  (try rw [hji5] at A3)
  have hji5_ : (if a1 < (-100001) then (-100001) else a1) = ji5 := hji5
  have HC6 := jA.mk H
  clear H
  go_enter Try.func100, Try.ntmps100
  go_upto_region 4 with (first | ((with_reducible refine jG (f := 110) rfl ?_); refine jo (some 13) rfl rfl Try.func110 kr_ rfl #[.slice A0 l0.length c0] rfl mt_ ?_; (with_reducible refine (jQ.calls k (fun k_ => (P0_ k_ ∨ w.heap.size ≤ k_)) _ _ l0 t180 _ ?side1 A3.out).mono ?_); (case side1 => exact HO0.out); rintro e w7 ⟨v181, rfl, ho0, hb⟩; refine ⟨_, rfl, ?_⟩; replace HO0 := jA.mk (Kd.jAT (rV_ HO0) hb); have HO182 := jA.mk (Kd.zq (Kd.zV (ok' := fun k_ => (P0_ k_ ∨ w.heap.size ≤ k_)) ho0 (fun k_ hk_ => Or.elim hk_ (fun hs_ => hs_) (fun hn_ => (.inr (Nat.le_trans (jB (bb_ HB)) hn_))))) (jB (bb_ HB))); replace HB := bs_ HB hb))
  (try simp only [Act.put, ss_])
  go_cut [27] (fun v27 wc => ∃ (kq : Nat) (x27_5 : Bool), v27 = .bool x27_5 ∧ jA (jH.j0 kq t180 (wrap64 (-(ji5))) x27_5 = some r) ∧ jA (kq ≤ k) ∧ jA (Kd.V (Kd.int .u64) 22 wc w.heap.size (fun k_ => (P0_ k_ ∨ w.heap.size ≤ k_)) v181 t180) ∧ jA (Below w.heap.size w wc))
  case first =>
   have H := HC6.out
   clear HC6
   by_cases c8 : (wrap64 (-(ji5))) > 100000
   ·
    rw [if_pos c8] at H
    have c8b0 := decide_eq_true c8
    clear c8
    (first | rw [c8b0] | (simp only [zF, zW]; rw [c8b0]) | skip)
    have H' := jA.mk H
    clear H
    go_wp2
    go_meet
    case rel => exact ⟨_, (true), sd_, H', ⟨by first | omega | exact Nat.le_refl _⟩, ⟨(rV_ HO182)⟩, ⟨(bb_ HB)⟩⟩
   ·
    rw [if_neg c8] at H
    have c8b0 := decide_eq_false c8
    clear c8
    (first | rw [c8b0] | (simp only [zF, zW]; rw [c8b0]) | skip)
    have H' := jA.mk H
    clear H
    obtain ⟨Ao9, co9, eo9⟩ := Kd.zT HO182.out
    subst eo9
    go_wp2
    go_meet
    case rel => exact ⟨_, (decide ((wrap64 (Int.tdiv (wrap64 (-(ji5))) 64)) ≥ (t180.length : Int))), (by first | rfl | (simp; done) | (simp only [← hji5] <;> (first | rfl | simp)) | (simp [*]; done)), H', ⟨by first | omega | exact Nat.le_refl _⟩, ⟨(rV_ HO182)⟩, ⟨(bb_ HB)⟩⟩
  case rest =>
   clear HC6
   try clear c1
   try clear p2
   try clear c4
   try clear c4b0
   try clear p6
   try clear c8
   try clear c8b0
   obtain ⟨kq, x27_5, rfl, HA, HJ5, HO_0, HB⟩ := hcut
   cases kq with
   | zero => exact absurd HA.out (by simp [jH.j0])
   | succ kj5 =>
    have H := HA.out
    clear HA
    simp only [jH.j0] at H
    by_cases c10 : x27_5 = true
    ·
     subst c10
     have H1 : (some ([] : List Int)) = some r := by rw [if_pos rfl] at H; exact H
     clear H
     have H := H1
     clear H1
     obtain rfl := Option.some.inj H
     go_wp2
     go_ret
     exact ⟨_, by first | rfl | (simp [vM, vL] <;> rfl) | (simp only [← hji5]; first | rfl | (simp [vM, vL] <;> rfl)) | (simp [*, vM, vL] <;> rfl), Kd.jCA _ _ _ _ _, (bb_ HB)⟩
    ·
     replace c10 := Bool.eq_false_iff.mpr c10
     subst c10
     have H1 : (if 0 ≤ (wrap64 (Int.tdiv (wrap64 (-(ji5))) 64)) then (if (wrap64 (Int.tdiv (wrap64 (-(ji5))) 64)) ≤ (t180.length : Int) then ((je.f (t180.drop ((wrap64 (Int.tdiv (wrap64 (-(ji5))) 64)) : Int).toNat)).bind fun t188 => (jH.l0 kj5 t188 (Int.tmod (wrap64 (-(ji5))) 64) (t188.length : Int) 0)) else (none)) else (none)) = some r := by rw [if_neg (show ¬ (false = true) by decide)] at H; exact H
     clear H
     have H := H1
     clear H1
     obtain ⟨ji11, hji11⟩ : ∃ j_ : Int, (wrap64 (Int.tdiv (wrap64 (-(ji5))) 64)) = j_ := ⟨_, rfl⟩
     replace H : (if 0 ≤ (ji11) then (if (ji11) ≤ (t180.length : Int) then ((je.f (t180.drop ((ji11) : Int).toNat)).bind fun t188 => (jH.l0 kj5 t188 (Int.tmod (wrap64 (-(ji5))) 64) (t188.length : Int) 0)) else (none)) else (none)) = some r := by first | (rw [hji11] at H; exact H) | (simp only [hji11] at H ⊢; exact H)
     have hji11w : (IntKind.i64.wrap (Int.tdiv (wrap64 (-(ji5))) 64)) = ji11 := (zF _).trans hji11
     by_cases c12 : 0 ≤ (ji11)
     ·
      rw [if_pos c12] at H
      have c12b0 := eq_true c12
      have c12b1 := decide_eq_true c12
      clear c12
      by_cases c13 : (ji11) ≤ (t180.length : Int)
      ·
       rw [if_pos c13] at H
       have c13b0 := eq_true c13
       have c13b1 := decide_eq_true c13
       clear c13
       obtain ⟨y183, hy183⟩ : ∃ y_ : List Int, y_ = (t180.drop ((ji11) : Int).toNat) := ⟨_, rfl⟩
       replace H : ((je.f y183).bind fun t188 => (jH.l0 kj5 t188 (Int.tmod (wrap64 (-(ji5))) 64) (t188.length : Int) 0)) = some r := by first | (rw [hy183]; with_reducible exact H) | (have H2_ := (Option.bind_some _ _).symm.trans H; rw [hy183]; with_reducible exact H2_) | (with_reducible exact hs_ H) | with_reducible exact H | (rw [hy183]; exact H) | exact H
       have Ny183 := jA.mk hy183
       clear hy183
       replace H := ob_ H
       obtain ⟨t188, A140, H⟩ := H
       try dsimp only at H
       have A14 := jA.mk A140
       clear A140
       obtain ⟨ji15, hji15⟩ : ∃ j_ : Int, (Int.tmod (wrap64 (-(ji5))) 64) = j_ := ⟨_, rfl⟩
       replace H : (jH.l0 kj5 t188 ji15 (t188.length : Int) 0) = some r := by first | (rw [hji15] at H; exact H) | (simp only [hji15] at H ⊢; exact H)
       (try rw [hji15] at A14)
       have H' := jA.mk H
       clear H
       obtain ⟨Ao17, co17, eo17⟩ := Kd.zT HO_0.out
       subst eo17
       have q16 : ((ji11) : Int) ≤ ((t180.length : Int) : Int) := of_decide_eq_true am_
       obtain ⟨i016, hi016, _, hsz16, _⟩ := info_parts zw
       have hroom16 : t180.length ≤ co17 := (Kd.vW HO_0.out).2.1
       have hC16 : Kd.F (Kd.int .u64) _ _ Ao17 t180.length t180 := (Kd.V_at (base := w.heap.size) HO_0.out).2.2
       have q016 : (0 : Int) ≤ ((ji11) : Int) := of_decide_eq_true am_
       have hcut16 := jIN (P := Try.prog) 35 22 .i64 Try.underlying35 hi016 1 hsz16 Ao17 t180.length co17 (ji11) q016 q16
       have hr16 := Kd.jLh (m := ((ji11) : Int).toNat) (c := co17) hC16 (by omega) hroom16
       obtain ⟨A16, hA16⟩ : ∃ A1, A1 = (if co17 = ((ji11) : Int).toNat then Ao17 else (Ao17 : Option Addr).map (·.add (((ji11) : Int).toNat * 1))) := ⟨_, rfl⟩
       obtain ⟨c16, hc16⟩ : ∃ c1, c1 = co17 - ((ji11) : Int).toNat := ⟨_, rfl⟩
       have hy16 : y183.length = t180.length - ((ji11) : Int).toNat := (by rw [Ny183.out, List.length_drop] <;> omega)
       rw [show (t180).drop ((ji11) : Int).toNat = y183 from Ny183.out.symm] at hr16
       replace hr16 : Kd.F (Kd.int .u64) _ _ A16 y183.length y183 := (by rw [hA16]; exact hr16)
       rw [← hy16, ← hA16, ← hc16] at hcut16
       have HO187 := jA.mk (show Kd.V (Kd.int .u64) 22 _ w.heap.size _ (.slice A16 y183.length c16) y183 from Kd.V_mk (by rw [hy16, hc16]; exact Nat.sub_le_sub_right hroom16 _) hr16)
       have HC187 := jA.mk (show y183.length ≤ c16 from by rw [hy16, hc16]; exact Nat.sub_le_sub_right hroom16 _)
       clear hr16 hC16 hroom16 hi016 hsz16 hc16
       have KY16 := jA.mk hy16
       have KA16 := jA.mk hA16
       clear hy16 hA16
       replace q16 := eq_true q16
       go_wp2_with (first | ((with_reducible refine jG (f := 116) rfl ?_); refine jo (some 32) rfl rfl Try.func116 kr_ rfl #[.slice A16 y183.length c16] rfl mt_ ?_; (with_reducible refine (je.calls _ _ y183 t188 _ ?side1 ?side2 A14.out).mono ?_); (case side1 => repeat (first | exact (Kd.vW HO187.out).2.2 | (with_reducible refine Kd.zh ?_ _) | (with_reducible refine Kd.zu ?_ _) | (with_reducible refine Kd.qW ?_))); (case side2 => exact (Kd.vW HO187.out).2.1); rintro e w18 ⟨v189, rfl, ho0, hb⟩; refine ⟨_, rfl, ?_⟩; replace HO_0 := jA.mk (Kd.qg (rV_ HO_0) (Kd.zf ho0) hb); replace HO187 := jA.mk (Kd.qg (rV_ HO187) (Kd.zf ho0) hb); have HO190 := jA.mk (Kd.jU (Kd.jEF (M := fun k_ => (w.heap.size ≤ k_)) ho0 (jB (bb_ HB)) (fun k_ h_ => h_)) (jB (bb_ HB))); replace HB := bs_ HB hb; obtain ⟨Ao19, co19, eo19⟩ := Kd.jm HO190.out; subst eo19))
       go_loopg [37] kj5 (fun kq v37 w' => ∃ (x5_2 : List Int) (x37_2 : Int), v37 = .int .i64 x37_2 ∧ jA (jH.l0 kq x5_2 ji15 (t188.length : Int) x37_2 = some r) ∧ jA (kq ≤ kj5) ∧ jA (Kd.R (Kd.int .u64) 22 w' w.heap.size (fun k_ => (w.heap.size ≤ k_)) (.slice Ao19 t188.length co19) x5_2) ∧ jA (Below w.heap.size w w'))
       case atStart => exact ⟨(t188), (0), sd_, H', ⟨Nat.le_refl _⟩, ⟨by (with_reducible repeat (first | apply Kd.zK | apply Kd.zN | apply Kd.zM)); exact Kd.jk HO190.out (fun _ hk => hk.1)⟩, ⟨(bb_ HB)⟩⟩
       case round =>
        clear H'
        try clear c1
        try clear q1
        try clear p2
        try clear c4
        try clear c4b0
        try clear p6
        try clear c8
        try clear c8b0
        try clear c10
        try clear c11
        try clear c12
        try clear c12b0
        try clear c12b1
        try clear c13
        try clear c13b0
        try clear c13b1
        try clear c16
        try clear q16
        try clear p2
        try clear p6
        try clear q016
        try clear q16
        obtain ⟨x5_2, x37_2, rfl, HA, HK2, HO_5, HB⟩ := hrel
        have hl5_2 := (Kd.jF HO_5.out).1
        rw [hl5_2] at HO_5
        (try simp only [hl5_2])
        cases gk with
        | zero => exact absurd HA.out (by simp [jH.l0])
        | succ k2 =>
         have H := HA.out
         clear HA
         simp only [jH.l0] at H
         by_cases c20 : x37_2 < (t188.length : Int)
         ·
          rw [if_pos c20] at H
          have c20b0 := decide_eq_true c20
          (try simp only [hl5_2] at c20b0)
          clear c20
          by_cases c21 : 0 ≤ x37_2
          ·
           rw [if_pos c21] at H
           have c21b0 := decide_eq_true c21
           clear c21
           by_cases c22 : x37_2 < (x5_2.length : Int)
           ·
            rw [if_pos c22] at H
            have c22b0 := decide_eq_true c22
            (try simp only [hl5_2] at c22b0)
            clear c22
            by_cases c23 : 0 ≤ ji15
            ·
             rw [if_pos c23] at H
             have c23b0 := eq_true c23
             have c23b1 := decide_eq_true c23
             clear c23
             obtain ⟨ji24, hji24⟩ : ∃ j_ : Int, (shr .u64 (rd x5_2 x37_2) ji15) = j_ := ⟨_, rfl⟩
             replace H : ((some (x5_2.set (x37_2 : Int).toNat (ji24) : List Int)).bind fun y192 => (if (wrap64 (x37_2 + 1)) < (x5_2.length : Int) then (if ji15 > 0 then (if 0 ≤ (wrap64 (x37_2 + 1)) then (if 0 ≤ (wrap64 (64 - ji15)) then (jH.l0 k2 (y192.set (x37_2 : Int).toNat (Go.bits .or .u64 (rd y192 x37_2) (shl .u64 (rd y192 (wrap64 (x37_2 + 1))) (wrap64 (64 - ji15))))) ji15 (t188.length : Int) (wrap64 (x37_2 + 1))) else (none)) else (none)) else (jH.l0 k2 y192 ji15 (t188.length : Int) (wrap64 (x37_2 + 1)))) else (jH.l0 k2 y192 ji15 (t188.length : Int) (wrap64 (x37_2 + 1))))) = some r := by first | (rw [hji24] at H; exact H) | (simp only [hji24] at H ⊢; exact H)
             have hji24_ : ((rd x5_2 x37_2) / 2 ^ min ji15.toNat 64) = ji24 := hji24
             have hji24z : ji15 ≤ 64 → ((rd x5_2 x37_2) / 2 ^ ji15.toNat) = ji24 := jAv hji24
             obtain ⟨y192, hy192⟩ : ∃ y_ : List Int, y_ = (x5_2.set (x37_2 : Int).toNat (ji24)) := ⟨_, rfl⟩
             replace H : (if (wrap64 (x37_2 + 1)) < (x5_2.length : Int) then (if ji15 > 0 then (if 0 ≤ (wrap64 (x37_2 + 1)) then (if 0 ≤ (wrap64 (64 - ji15)) then (jH.l0 k2 (y192.set (x37_2 : Int).toNat (Go.bits .or .u64 (rd y192 x37_2) (shl .u64 (rd y192 (wrap64 (x37_2 + 1))) (wrap64 (64 - ji15))))) ji15 (t188.length : Int) (wrap64 (x37_2 + 1))) else (none)) else (none)) else (jH.l0 k2 y192 ji15 (t188.length : Int) (wrap64 (x37_2 + 1)))) else (jH.l0 k2 y192 ji15 (t188.length : Int) (wrap64 (x37_2 + 1)))) = some r := by first | (rw [hy192]; with_reducible exact H) | (have H2_ := (Option.bind_some _ _).symm.trans H; rw [hy192]; with_reducible exact H2_) | (with_reducible exact hs_ H) | with_reducible exact H | (rw [hy192]; exact H) | exact H
             have Ny192 := jA.mk hy192
             clear hy192
             by_cases c26 : (wrap64 (x37_2 + 1)) < (x5_2.length : Int)
             ·
              rw [if_pos c26] at H
              have c26b0 := decide_eq_true c26
              (try simp only [hl5_2] at c26b0)
              clear c26
              by_cases c27 : ji15 > 0
              ·
               rw [if_pos c27] at H
               have c27b0 := decide_eq_true c27
               clear c27
               obtain ⟨ji28, hji28⟩ : ∃ j_ : Int, (wrap64 (x37_2 + 1)) = j_ := ⟨_, rfl⟩
               replace H : (if 0 ≤ (ji28) then (if 0 ≤ (wrap64 (64 - ji15)) then (jH.l0 k2 (y192.set (x37_2 : Int).toNat (Go.bits .or .u64 (rd y192 x37_2) (shl .u64 (rd y192 (ji28)) (wrap64 (64 - ji15))))) ji15 (t188.length : Int) ji28) else (none)) else (none)) = some r := by first | (rw [hji28] at H; exact H) | (simp only [hji28] at H ⊢; exact H)
               (try rw [hji28] at c26b0)
               have hji28w : (IntKind.i64.wrap (x37_2 + 1)) = ji28 := (zF _).trans hji28
               by_cases c29 : 0 ≤ (ji28)
               ·
                rw [if_pos c29] at H
                have c29b0 := decide_eq_true c29
                clear c29
                obtain ⟨ji30, hji30⟩ : ∃ j_ : Int, (wrap64 (64 - ji15)) = j_ := ⟨_, rfl⟩
                replace H : (if 0 ≤ (ji30) then (jH.l0 k2 (y192.set (x37_2 : Int).toNat (Go.bits .or .u64 (rd y192 x37_2) (shl .u64 (rd y192 (ji28)) (ji30)))) ji15 (t188.length : Int) ji28) else (none)) = some r := by first | (rw [hji30] at H; exact H) | (simp only [hji30] at H ⊢; exact H)
                have hji30w : (IntKind.i64.wrap (64 - ji15)) = ji30 := (zF _).trans hji30
                by_cases c31 : 0 ≤ (ji30)
                ·
                 rw [if_pos c31] at H
                 have c31b0 := eq_true c31
                 have c31b1 := decide_eq_true c31
                 clear c31
                 obtain ⟨ji32, hji32⟩ : ∃ j_ : Int, (shl .u64 (rd y192 (ji28)) (ji30)) = j_ := ⟨_, rfl⟩
                 replace H : (jH.l0 k2 (y192.set (x37_2 : Int).toNat (Go.bits .or .u64 (rd y192 x37_2) (ji32))) ji15 (t188.length : Int) ji28) = some r := by first | (rw [hji32] at H; exact H) | (simp only [hji32] at H ⊢; exact H)
                 have hji32_ : (IntKind.u64.wrap ((rd y192 (ji28)) * 2 ^ min (ji30).toNat 64)) = ji32 := hji32
                 have hji32z : (ji30) ≤ 64 → (IntKind.u64.wrap ((rd y192 (ji28)) * 2 ^ (ji30).toNat)) = ji32 := jBP hji32
                 obtain ⟨y195, hy195⟩ : ∃ y_ : List Int, y_ = (y192.set (x37_2 : Int).toNat (Go.bits .or .u64 (rd y192 x37_2) (ji32))) := ⟨_, rfl⟩
                 replace H : (jH.l0 k2 y195 ji15 (t188.length : Int) ji28) = some r := by first | (rw [hy195]; with_reducible exact H) | (have H2_ := (Option.bind_some _ _).symm.trans H; rw [hy195]; with_reducible exact H2_) | (with_reducible exact hs_ H) | with_reducible exact H | (rw [hy195]; exact H) | exact H
                 have Ny195 := jA.mk hy195
                 clear hy195
                 have H' := jA.mk H
                 clear H
                 have p191 : 0 ≤ (x37_2 : Int) := of_decide_eq_true am_
                 have q191 : x37_2 < (x5_2.length : Int) := of_decide_eq_true am_
                 obtain ⟨ad191, e191, hx191_0⟩ := Kd.zD (Kd.jF HO_5.out).2.2 x37_2 p191 q191
                 cases e191
                 replace p191 := eq_true p191
                 replace q191 := eq_true q191
                 have p25 : 0 ≤ (x37_2 : Int) := of_decide_eq_true am_
                 have q25 : (x37_2 : Int) < ((x5_2.length : Int) : Int) := of_decide_eq_true am_
                 obtain ⟨go25, co25, eo25, gb25, gl25, cl25, HG25⟩ := Kd.jAA HO_5.out (by omega)
                 (first | cases eo25 | (injection eo25 with ea_ en_ ec_; (first | subst ea_ | (injection ea_ with ea_; subst ea_)); subst ec_; clear en_))
                 have GB25 := jA.mk gb25
                 have GG25 := jA.mk HG25
                 clear gb25 gl25 HG25
                 (first | simp only [add_plain] at hx191_0 | skip)
                 obtain ⟨hx25_0, hf25_0⟩ := Kd.zJ 0 HO_5.out (x37_2 : Int) p25 q25
                 replace p25 := eq_true p25
                 replace q25 := eq_true q25
                 have HP34 := Kd.qz HO_5.out (x37_2 : Int) ji24
                 try go_wp2_with (first | ((with_reducible refine qD (t := 22) (p := 46) rfl ?_); refine zm (t := 22) (p := 46) (v := ?vo_w35) (w1 := (wr.setCell ⟨go25, (x37_2 : Int).toNat, none⟩ (.int .u64 ji24))) ?hg ?ho ?hn ?hr ?_; (case ho => rfl); (case hg => rfl); (case hn => rfl); (case hr => exact gs_); intro w35 hw; have hg : wr.grownBy w35 (some go25) := (by rw [hw]; exact HP34.2); have hp_ : Kd.R (Kd.int .u64) 22 w35 w.heap.size (fun k_ => (w.heap.size ≤ k_)) (.slice (some ⟨go25, 0, none⟩) x5_2.length co19) y192 := (by rw [hw, Ny192.out]; exact HP34.1); clear HP34; replace HO_5 := jA.mk (hp_); replace HB := jA.mk ((by rw [hw]; exact zI (HB.out) GB25.out : Below w.heap.size w w35)); clear hg hw hp_))
                 have n0_ := jA.mk (Kd.zM HO_5.out)
                 have n1_ := jA.mk (qF HB.out)
                 clear HO_5
                 clear HB
                 have HO_5 := n0_
                 have HB := n1_
                 clear n0_ n1_
                 have p193 : 0 ≤ (x37_2 : Int) := of_decide_eq_true am_
                 have q193 : x37_2 < (y192.length : Int) := (by have h_ : (x37_2 : Int) < ((x5_2.length : Int) : Int) := of_decide_eq_true am_; first | (have e_ := (Kd.jF HO_5.out).1; omega) | simpa only [Ny192.out, List.length_set] using h_)
                 have ql193 : ((x37_2 : Int) < ((x5_2.length : Int) : Int)) = True := eq_true (of_decide_eq_true am_)
                 obtain ⟨ad193, e193, hx193_0⟩ := Kd.zD (Kd.jF HO_5.out).2.2 x37_2 p193 q193
                 obtain rfl : (⟨go25, 0, none⟩ : Addr) = ad193 := (by injection e193)
                 (first | simp only [add_plain] at hx193_0 | simp only [jHG] at hx193_0 | simp only [Addr.add, Nat.zero_add] at hx193_0 | skip)
                 replace p193 := eq_true p193
                 replace q193 := eq_true q193
                 have p194 : 0 ≤ ((ji28) : Int) := of_decide_eq_true am_
                 have q194 : (ji28) < (y192.length : Int) := (by have h_ : ((ji28) : Int) < ((x5_2.length : Int) : Int) := of_decide_eq_true am_; first | (have e_ := (Kd.jF HO_5.out).1; omega) | simpa only [Ny192.out, List.length_set] using h_)
                 have ql194 : (((ji28) : Int) < ((x5_2.length : Int) : Int)) = True := eq_true (of_decide_eq_true am_)
                 obtain ⟨ad194, e194, hx194_0⟩ := Kd.zD (Kd.jF HO_5.out).2.2 (ji28) p194 q194
                 obtain rfl : (⟨go25, 0, none⟩ : Addr) = ad194 := (by injection e194)
                 (first | simp only [add_plain] at hx194_0 | simp only [jHG] at hx194_0 | simp only [Addr.add, Nat.zero_add] at hx194_0 | skip)
                 replace p194 := eq_true p194
                 replace q194 := eq_true q194
                 have p33 : 0 ≤ (x37_2 : Int) := of_decide_eq_true am_
                 have q33 : (x37_2 : Int) < ((x5_2.length : Int) : Int) := of_decide_eq_true am_
                 obtain ⟨hx33_0, hf33_0⟩ := Kd.zJ 0 HO_5.out (x37_2 : Int) p33 q33
                 replace p33 := eq_true p33
                 replace q33 := eq_true q33
                 have HP37 := Kd.jHM HO_5.out (x37_2 : Int) (Go.bits .or .u64 (rd y192 x37_2) (ji32))
                 rw [← Ny195.out] at HP37
                 have HQ37 := jA.mk HP37
                 clear HP37
                 refine jAc (n := 15) (S := fun w' => w'.cell? ⟨go25, (x37_2).toNat, none⟩ = some (.int .u64 (rd y192 x37_2)) ∧ w'.cell? ⟨go25, ((ji28)).toNat, none⟩ = some (.int .u64 (rd y192 (ji28)))) (ds := [14]) #[false, false, false, false, false, false, false, false, false, false, false, false, false, false, false] kr_ rfl rfl ⟨hx193_0, hx194_0⟩ (fun hHeld => ?_); refine jAX jH.jLO jH.jKr (fun HT_ HW_ => ?_)
                 generalize w35.drew = w36 at HO_5 HB HQ37 hf33_0 hx193_0 hx194_0 hx33_0 hHeld ⊢
                 refine pu_ 0 (some 56) (ba_ 15 1) (vO HT_.out kr_) ?_
                 refine pu_ 1 (some 57) (ba_ 15 3) (vO HT_.out kr_) ?_
                 refine pu_ 2 (some 58) (ba_ 15 7) (vO HT_.out kr_) ?_
                 refine pu_ 4 (some 60) (ba_ 15 23) (vO HT_.out kr_) ?_
                 refine pu_ 5 (some 61) (ba_ 15 55) (vO HT_.out kr_) ?_
                 refine pu_ 6 (some 62) (ba_ 15 119) (vO HT_.out kr_) ?_
                 refine pu_ 7 (some 63) (ba_ 15 247) (vO HT_.out kr_) ?_
                 refine pu_ 9 (some 65) (ba_ 15 759) (vO HT_.out kr_) ?_
                 refine pu_ 10 (some 66) (ba_ 15 1783) (vO HT_.out kr_) ?_
                 refine tk2_ 3 (some 59) (ba_ 15 1791) (jAD HT_.out HW_.out kr_) hHeld ?_
                 refine tk2_ 8 (some 64) (ba_ 15 2047) (jAD HT_.out HW_.out kr_) hHeld ?_
                 refine pu_ 11 (some 67) (ba_ 15 4095) (vO HT_.out kr_) ?_
                 refine pu_ 12 (some 68) (ba_ 15 8191) (vO HT_.out kr_) ?_
                 refine pu_ 13 (some 69) (ba_ 15 16383) (vO HT_.out kr_) ?_
                 refine jBS (i := 14) (N := none) (ba_ 15 32767) rfl rfl (ql HT_.out kr_) (by decide) (fun K hK => ?_)
                 refine jAu (w1 := ?_) (by rfl) rfl ?_ ?_
                 rotate_left
                 ·
                  go_simp
                  rfl
                 refine hK.out _ _ ?_
                 clear hK K
                 refine jBZ (jBT HT_.out kr_) ?_
                 try go_wp2
                 (try simp only [← hl5_2])
                 go_roundg k2
                 case measure => have := HJ5.out; have := HK2.out; omega
                 case rel => exact ⟨(y195), (ji28), (by first | rfl | (simp; done) | (simp only [← hji28] <;> (first | rfl | simp)) | (simp [*]; done)), H', ⟨by have := HJ5.out; have := HK2.out; omega⟩, ⟨by (try simp only [hl5_2]); refine pR_ ?_; exact HQ37.out⟩, ⟨(bb1_ HB GB25)⟩⟩
                ·
                 rw [if_neg c31] at H
                 exact absurd H (by simp)
               ·
                rw [if_neg c29] at H
                exact absurd H (by simp)
              ·
               rw [if_neg c27] at H
               have c27b0 := decide_eq_false c27
               clear c27
               have H' := jA.mk H
               clear H
               have p191 : 0 ≤ (x37_2 : Int) := of_decide_eq_true am_
               have q191 : x37_2 < (x5_2.length : Int) := of_decide_eq_true am_
               obtain ⟨ad191, e191, hx191_0⟩ := Kd.zD (Kd.jF HO_5.out).2.2 x37_2 p191 q191
               cases e191
               replace p191 := eq_true p191
               replace q191 := eq_true q191
               have p25 : 0 ≤ (x37_2 : Int) := of_decide_eq_true am_
               have q25 : (x37_2 : Int) < ((x5_2.length : Int) : Int) := of_decide_eq_true am_
               obtain ⟨go25, co25, eo25, gb25, gl25, cl25, HG25⟩ := Kd.jAA HO_5.out (by omega)
               (first | cases eo25 | (injection eo25 with ea_ en_ ec_; (first | subst ea_ | (injection ea_ with ea_; subst ea_)); subst ec_; clear en_))
               have GB25 := jA.mk gb25
               have GG25 := jA.mk HG25
               clear gb25 gl25 HG25
               (first | simp only [add_plain] at hx191_0 | skip)
               obtain ⟨hx25_0, hf25_0⟩ := Kd.zJ 0 HO_5.out (x37_2 : Int) p25 q25
               replace p25 := eq_true p25
               replace q25 := eq_true q25
               have HP38 := Kd.qz HO_5.out (x37_2 : Int) ji24
               go_wp2_with (first | ((with_reducible refine qD (t := 22) (p := 46) rfl ?_); refine zm (t := 22) (p := 46) (v := ?vo_w39) (w1 := (wr.setCell ⟨go25, (x37_2 : Int).toNat, none⟩ (.int .u64 ji24))) ?hg ?ho ?hn ?hr ?_; (case ho => rfl); (case hg => rfl); (case hn => rfl); (case hr => exact gs_); intro w39 hw; have hg : wr.grownBy w39 (some go25) := (by rw [hw]; exact HP38.2); have hp_ : Kd.R (Kd.int .u64) 22 w39 w.heap.size (fun k_ => (w.heap.size ≤ k_)) (.slice (some ⟨go25, 0, none⟩) x5_2.length co19) y192 := (by rw [hw, Ny192.out]; exact HP38.1); clear HP38; replace HO_5 := jA.mk (hp_); replace HB := jA.mk ((by rw [hw]; exact zI (HB.out) GB25.out : Below w.heap.size w w39)); clear hg hw hp_))
               (try simp only [← hl5_2])
               go_roundg k2
               case measure => have := HJ5.out; have := HK2.out; omega
               case rel => exact ⟨(y192), (wrap64 (x37_2 + 1)), sd_, H', ⟨by have := HJ5.out; have := HK2.out; omega⟩, ⟨by (try simp only [hl5_2]); refine pR_ ?_; exact HO_5.out⟩, ⟨(bb_ HB)⟩⟩
             ·
              rw [if_neg c26] at H
              have c26b0 := decide_eq_false c26
              (try simp only [hl5_2] at c26b0)
              clear c26
              have H' := jA.mk H
              clear H
              have p191 : 0 ≤ (x37_2 : Int) := of_decide_eq_true am_
              have q191 : x37_2 < (x5_2.length : Int) := of_decide_eq_true am_
              obtain ⟨ad191, e191, hx191_0⟩ := Kd.zD (Kd.jF HO_5.out).2.2 x37_2 p191 q191
              cases e191
              replace p191 := eq_true p191
              replace q191 := eq_true q191
              have p25 : 0 ≤ (x37_2 : Int) := of_decide_eq_true am_
              have q25 : (x37_2 : Int) < ((x5_2.length : Int) : Int) := of_decide_eq_true am_
              obtain ⟨go25, co25, eo25, gb25, gl25, cl25, HG25⟩ := Kd.jAA HO_5.out (by omega)
              (first | cases eo25 | (injection eo25 with ea_ en_ ec_; (first | subst ea_ | (injection ea_ with ea_; subst ea_)); subst ec_; clear en_))
              have GB25 := jA.mk gb25
              have GG25 := jA.mk HG25
              clear gb25 gl25 HG25
              (first | simp only [add_plain] at hx191_0 | skip)
              obtain ⟨hx25_0, hf25_0⟩ := Kd.zJ 0 HO_5.out (x37_2 : Int) p25 q25
              replace p25 := eq_true p25
              replace q25 := eq_true q25
              have HP40 := Kd.qz HO_5.out (x37_2 : Int) ji24
              go_wp2_with (first | ((with_reducible refine qD (t := 22) (p := 46) rfl ?_); refine zm (t := 22) (p := 46) (v := ?vo_w41) (w1 := (wr.setCell ⟨go25, (x37_2 : Int).toNat, none⟩ (.int .u64 ji24))) ?hg ?ho ?hn ?hr ?_; (case ho => rfl); (case hg => rfl); (case hn => rfl); (case hr => exact gs_); intro w41 hw; have hg : wr.grownBy w41 (some go25) := (by rw [hw]; exact HP40.2); have hp_ : Kd.R (Kd.int .u64) 22 w41 w.heap.size (fun k_ => (w.heap.size ≤ k_)) (.slice (some ⟨go25, 0, none⟩) x5_2.length co19) y192 := (by rw [hw, Ny192.out]; exact HP40.1); clear HP40; replace HO_5 := jA.mk (hp_); replace HB := jA.mk ((by rw [hw]; exact zI (HB.out) GB25.out : Below w.heap.size w w41)); clear hg hw hp_))
              (try simp only [← hl5_2])
              go_roundg k2
              case measure => have := HJ5.out; have := HK2.out; omega
              case rel => exact ⟨(y192), (wrap64 (x37_2 + 1)), sd_, H', ⟨by have := HJ5.out; have := HK2.out; omega⟩, ⟨by (try simp only [hl5_2]); refine pR_ ?_; exact HO_5.out⟩, ⟨(bb_ HB)⟩⟩
            ·
             rw [if_neg c23] at H
             exact absurd H (by simp)
           ·
            rw [if_neg c22] at H
            exact absurd H (by simp)
          ·
           rw [if_neg c21] at H
           exact absurd H (by simp)
         ·
          rw [if_neg c20] at H
          have c20b0 := decide_eq_false c20
          (try simp only [hl5_2] at c20b0)
          clear c20
          replace H := ob_ H
          obtain ⟨t196, A420, H⟩ := H
          replace H : (some t196) = some r := H
          have A42 := jA.mk A420
          clear A420
          obtain rfl := Option.some.inj H
          go_wp2_with fail
          refine (jQ.own k2 w.heap.size (fun k_ => w.heap.size ≤ k_) Ao19 co19 x5_2 _ _ HO_5.out A42.out).mono ?_
          rintro e w43 ⟨v157, rfl, ho0, hb⟩
          have HO158 := jA.mk ho0
          have HB2_ := jA.mk (jv HB.out hb)
          clear ho0 hb
          go_wp2
          go_ret
          exact ⟨_, rfl, Kd.jk HO158.out (fun _ _ => trivial), HB2_.out⟩
      ·
       rw [if_neg c13] at H
       exact absurd H (by simp)
     ·
      rw [if_neg c12] at H
      exact absurd H (by simp)
 ·
  rw [if_neg c4] at H
  have c4b0 := decide_eq_false c4
  clear c4
  obtain ⟨ji44, hji44⟩ : ∃ j_ : Int, (mn a1 1000) = j_ := ⟨_, rfl⟩
  replace H : (if 0 ≤ (wrap64 (Int.tdiv (ji44) 64)) then (if (wrap64 (Int.tdiv (ji44) 64)) ≤ (wrap64 ((wrap64 ((wrap64 (Int.tdiv (ji44) 64)) + (t180.length : Int))) + 1)) then (if (wrap64 ((wrap64 ((wrap64 (Int.tdiv (ji44) 64)) + (t180.length : Int))) + 1) : Int).toNat ≤ 35184372088832 then (jH.l1 k ji44 (List.replicate (wrap64 (Int.tdiv (ji44) 64) : Int).toNat 0) 0 t180 (t180.length : Int) 0) else (none)) else (none)) else (none)) = some r := by first | (rw [hji44] at H; exact H) | (simp only [hji44] at H ⊢; exact H)
  (try rw [hji44] at A3)
  (try (have hji44h : ji44 ≤ 1000 := by (rw [← hji44]; unfold mn; (repeat' split) <;> omega)))
  (try (have hji44g : ji44 ≤ 64 := by omega))
  have hji44_ : (if 1000 < a1 then 1000 else a1) = ji44 := hji44
  obtain ⟨ji45, hji45⟩ : ∃ j_ : Int, (wrap64 (Int.tdiv (ji44) 64)) = j_ := ⟨_, rfl⟩
  replace H : (if 0 ≤ (ji45) then (if (ji45) ≤ (wrap64 ((wrap64 ((ji45) + (t180.length : Int))) + 1)) then (if (wrap64 ((wrap64 ((ji45) + (t180.length : Int))) + 1) : Int).toNat ≤ 35184372088832 then (jH.l1 k ji44 (List.replicate (ji45 : Int).toNat 0) 0 t180 (t180.length : Int) 0) else (none)) else (none)) else (none)) = some r := by first | (rw [hji45] at H; exact H) | (simp only [hji45] at H ⊢; exact H)
  (try rw [hji45] at A3)
  have hji45w : (IntKind.i64.wrap (Int.tdiv (ji44) 64)) = ji45 := (zF _).trans hji45
  by_cases c46 : 0 ≤ (ji45)
  ·
   rw [if_pos c46] at H
   have c46b0 := eq_true c46
   have c46b1 := decide_eq_true c46
   clear c46
   by_cases c47 : (ji45) ≤ (wrap64 ((wrap64 ((ji45) + (t180.length : Int))) + 1))
   ·
    rw [if_pos c47] at H
    have c47b0 := eq_true c47
    have c47b1 := decide_eq_true c47
    by_cases c48 : (wrap64 ((wrap64 ((ji45) + (t180.length : Int))) + 1) : Int).toNat ≤ 35184372088832
    ·
     rw [if_pos c48] at H
     have c48b0 := eq_true c48
     have c48b1 := decide_eq_true c48
     obtain ⟨y199, hy199⟩ : ∃ y_ : List Int, y_ = (List.replicate (ji45 : Int).toNat 0) := ⟨_, rfl⟩
     replace H : (jH.l1 k ji44 y199 0 t180 (t180.length : Int) 0) = some r := by first | (rw [hy199]; with_reducible exact H) | (have H2_ := (Option.bind_some _ _).symm.trans H; rw [hy199]; with_reducible exact H2_) | (with_reducible exact hs_ H) | with_reducible exact H | (rw [hy199]; exact H) | exact H
     have Ny199 := jA.mk hy199
     clear hy199
     have H' := jA.mk H
     clear H
     go_enter Try.func100, Try.ntmps100
     go_wp2_with (first | ((with_reducible refine jG (f := 110) rfl ?_); refine jo (some 13) rfl rfl Try.func110 kr_ rfl #[.slice A0 l0.length c0] rfl mt_ ?_; (with_reducible refine (jQ.calls k (fun k_ => (P0_ k_ ∨ w.heap.size ≤ k_)) _ _ l0 t180 _ ?side1 A3.out).mono ?_); (case side1 => exact HO0.out); rintro e w49 ⟨v181, rfl, ho0, hb⟩; refine ⟨_, rfl, ?_⟩; replace HO0 := jA.mk (Kd.jAT (rV_ HO0) hb); have HO182 := jA.mk (Kd.zq (Kd.zV (ok' := fun k_ => (P0_ k_ ∨ w.heap.size ≤ k_)) ho0 (fun k_ hk_ => Or.elim hk_ (fun hs_ => hs_) (fun hn_ => (.inr (Nat.le_trans (jB (bb_ HB)) hn_))))) (jB (bb_ HB))); replace HB := bs_ HB hb; obtain ⟨Ao50, co50, eo50⟩ := Kd.zT HO182.out; subst eo50) | ((with_reducible refine jr (N := 83) rfl ?_); (try (refine vE (by rfl) ?_; dsimp only)); refine jFk (Kd.int .u64) _ 22 rfl (N := 83) rfl 35 _ _ rfl ji45 (wrap64 ((wrap64 ((ji45) + (t180.length : Int))) + 1)) rfl rfl Try.underlying35 (.int .u64 0) 8 zw rfl (by decide) (by omega) 0 (ok := fun _ => True) (okp := fun _ => True) rfl (fun _ hk => hk) trivial (of_decide_eq_true am_) (of_decide_eq_true am_) (Nat.le_trans (Nat.mul_le_mul_right _ (of_decide_eq_true am_ : (wrap64 ((wrap64 ((ji45) + (t180.length : Int))) + 1)).toNat ≤ 35184372088832)) (by omega)) (Below.refl _ _) (Nat.le_refl _) ?_; intro v200 w51 ho52 hb hg_ hnew_; clear hg_ hnew_; (first | rw [← Ny199.out] at ho52 | (simp only [Int.reduceToNat] at ho52; rw [← Ny199.out] at ho52)); replace HO0 := jA.mk (Kd.qg (rV_ HO0) (Kd.zf ho52) hb); replace HO182 := jA.mk (Kd.qg (rV_ HO182) (Kd.zf ho52) hb); have HO201 := jA.mk (Kd.jU (Kd.jEF (M := fun k_ => (w.heap.size ≤ k_)) ho52 (jB (bb_ HB)) (fun k_ h_ => h_)) (jB (bb_ HB))); replace HB := bs_ HB hb; clear hb ho52))
     go_loopg [8, 9, 86] k (fun kq v8 v9 v86 w' => ∃ (x8_1 : List Int) (x9_1 : Int) (x86_1 : Int), v9 = .int .u64 x9_1 ∧ v86 = .int .i64 x86_1 ∧ jA (jH.l1 kq ji44 x8_1 x9_1 t180 (t180.length : Int) x86_1 = some r) ∧ jA (kq ≤ k) ∧ jA (Kd.R (Kd.int .u64) 22 w' w.heap.size (fun k_ => (w.heap.size ≤ k_)) v8 x8_1) ∧ jA (Kd.V (Kd.int .u64) 22 w' w.heap.size (fun k_ => (P0_ k_ ∨ w.heap.size ≤ k_) ∧ some k_ ≠ (v8 : Value).ownBlock) (.slice Ao50 t180.length co50) t180) ∧ jA (Below w.heap.size w w'))
     case atStart => exact ⟨(y199), (0), (0), sd_, sd_, H', ⟨Nat.le_refl _⟩, ⟨by (with_reducible repeat (first | apply Kd.zK | apply Kd.zN | apply Kd.zM)); exact Kd.jk HO201.out (fun _ hk => hk.1)⟩, ⟨(rV_ HO182)⟩, ⟨(bb_ HB)⟩⟩
     case round =>
      clear H'
      try clear c1
      try clear p1
      try clear q1
      try clear hx1
      try clear c2
      try clear p2
      try clear q2
      try clear hx2
      try clear hf2
      try clear c3
      try clear p3
      try clear q3
      try clear hx3
      try clear hf3
      try clear c4
      try clear c4b0
      try clear p6
      try clear c8
      try clear c8b0
      try clear c10
      try clear c11
      try clear c12
      try clear c12b0
      try clear c12b1
      try clear c13
      try clear c13b0
      try clear c13b1
      try clear c16
      try clear q16
      try clear p19
      try clear q19
      try clear hx19
      try clear c20
      try clear c20b0
      try clear c21
      try clear c21b0
      try clear c22
      try clear c22b0
      try clear c23
      try clear c23b0
      try clear c23b1
      try clear p25
      try clear q25
      try clear hx25
      try clear hf25
      try clear c26
      try clear c26b0
      try clear c27
      try clear c27b0
      try clear c29
      try clear c29b0
      try clear c31
      try clear c31b0
      try clear c31b1
      try clear p33
      try clear q33
      try clear hx33
      try clear hf33
      try clear c46
      try clear c46b0
      try clear c46b1
      try clear c47
      try clear c47b0
      try clear c47b1
      try clear c48
      try clear c48b0
      try clear c48b1
      try clear hx191_0
      try clear hx193_0
      try clear hx194_0
      try clear hx25_0
      try clear hx33_0
      try clear p191
      try clear p193
      try clear p194
      try clear p2
      try clear p25
      try clear p33
      try clear p6
      try clear q016
      try clear q1
      try clear q16
      try clear q191
      try clear q193
      try clear q194
      try clear q25
      try clear q33
      obtain ⟨x8_1, x9_1, x86_1, rfl, rfl, HA, HK1, HO_8, HO_84, HB⟩ := hrel
      cases gk with
      | zero => exact absurd HA.out (by simp [jH.l1])
      | succ k1 =>
       have H := HA.out
       clear HA
       simp only [jH.l1] at H
       by_cases c53 : x86_1 < (t180.length : Int)
       ·
        rw [if_pos c53] at H
        have c53b0 := decide_eq_true c53
        clear c53
        by_cases c54 : 0 ≤ x86_1
        ·
         rw [if_pos c54] at H
         have c54b0 := decide_eq_true c54
         clear c54
         by_cases c55 : x86_1 < (t180.length : Int)
         ·
          rw [if_pos c55] at H
          have c55b0 := decide_eq_true c55
          clear c55
          obtain ⟨ji56, hji56⟩ : ∃ j_ : Int, (Int.tmod ji44 64) = j_ := ⟨_, rfl⟩
          replace H : (if 0 ≤ (ji56) then (if x8_1.length < 17592186044416 then (if 0 ≤ (wrap64 (63 - (ji56))) then (jH.l1 k1 ji44 (x8_1 ++ [Go.bits .or .u64 (shl .u64 (rd t180 x86_1) (ji56)) x9_1]) ((shr .u64 (rd t180 x86_1) (wrap64 (63 - (ji56)))) / 2) t180 (t180.length : Int) (wrap64 (x86_1 + 1))) else (none)) else (none)) else (none)) = some r := by first | (rw [hji56] at H; exact H) | (simp only [hji56] at H ⊢; exact H)
          by_cases c57 : 0 ≤ (ji56)
          ·
           rw [if_pos c57] at H
           have c57b0 := eq_true c57
           have c57b1 := decide_eq_true c57
           clear c57
           obtain ⟨ji58, hji58⟩ : ∃ j_ : Int, (shl .u64 (rd t180 x86_1) (ji56)) = j_ := ⟨_, rfl⟩
           replace H : (if x8_1.length < 17592186044416 then (if 0 ≤ (wrap64 (63 - (ji56))) then (jH.l1 k1 ji44 (x8_1 ++ [Go.bits .or .u64 (ji58) x9_1]) ((shr .u64 (rd t180 x86_1) (wrap64 (63 - (ji56)))) / 2) t180 (t180.length : Int) (wrap64 (x86_1 + 1))) else (none)) else (none)) = some r := by first | (rw [hji58] at H; exact H) | (simp only [hji58] at H ⊢; exact H)
           have hji58_ : (IntKind.u64.wrap ((rd t180 x86_1) * 2 ^ min (ji56).toNat 64)) = ji58 := hji58
           have hji58z : (ji56) ≤ 64 → (IntKind.u64.wrap ((rd t180 x86_1) * 2 ^ (ji56).toNat)) = ji58 := jBP hji58
           by_cases c59 : x8_1.length < 17592186044416
           ·
            rw [if_pos c59] at H
            have LMc59 := jA.mk c59
            clear c59
            obtain ⟨y203, hy203⟩ : ∃ y_ : List Int, y_ = (x8_1 ++ [Go.bits .or .u64 (ji58) x9_1]) := ⟨_, rfl⟩
            replace H : (if 0 ≤ (wrap64 (63 - (ji56))) then (jH.l1 k1 ji44 y203 ((shr .u64 (rd t180 x86_1) (wrap64 (63 - (ji56)))) / 2) t180 (t180.length : Int) (wrap64 (x86_1 + 1))) else (none)) = some r := by first | (rw [hy203]; with_reducible exact H) | (have H2_ := (Option.bind_some _ _).symm.trans H; rw [hy203]; with_reducible exact H2_) | (with_reducible exact hs_ H) | with_reducible exact H | (rw [hy203]; exact H) | exact H
            have Ny203 := jA.mk hy203
            clear hy203
            obtain ⟨ji60, hji60⟩ : ∃ j_ : Int, (wrap64 (63 - (ji56))) = j_ := ⟨_, rfl⟩
            replace H : (if 0 ≤ (ji60) then (jH.l1 k1 ji44 y203 ((shr .u64 (rd t180 x86_1) (ji60)) / 2) t180 (t180.length : Int) (wrap64 (x86_1 + 1))) else (none)) = some r := by first | (rw [hji60] at H; exact H) | (simp only [hji60] at H ⊢; exact H)
            have hji60w : (IntKind.i64.wrap (63 - (ji56))) = ji60 := (zF _).trans hji60
            by_cases c61 : 0 ≤ (ji60)
            ·
             rw [if_pos c61] at H
             have c61b0 := eq_true c61
             have c61b1 := decide_eq_true c61
             clear c61
             obtain ⟨ji62, hji62⟩ : ∃ j_ : Int, (shr .u64 (rd t180 x86_1) (ji60)) = j_ := ⟨_, rfl⟩
             replace H : (jH.l1 k1 ji44 y203 ((ji62) / 2) t180 (t180.length : Int) (wrap64 (x86_1 + 1))) = some r := by first | (rw [hji62] at H; exact H) | (simp only [hji62] at H ⊢; exact H)
             have hji62_ : ((rd t180 x86_1) / 2 ^ min (ji60).toNat 64) = ji62 := hji62
             have hji62z : (ji60) ≤ 64 → ((rd t180 x86_1) / 2 ^ (ji60).toNat) = ji62 := jAv hji62
             have H' := jA.mk H
             clear H
             have p202 : 0 ≤ (x86_1 : Int) := of_decide_eq_true am_
             have q202 : x86_1 < (t180.length : Int) := of_decide_eq_true am_
             obtain ⟨ad202, e202, hx202_0⟩ := Kd.zD (Kd.vW HO_84.out).2.2 x86_1 p202 q202
             cases e202
             replace p202 := eq_true p202
             replace q202 := eq_true q202
             try go_wp2
             have n0_ := jA.mk (Kd.zM HO_8.out)
             have n1_ := jA.mk (Kd.jDE HO_84.out)
             have n2_ := jA.mk (qF HB.out)
             clear HO_8
             clear HO_84
             clear HB
             have HO_8 := n0_
             have HO_84 := n1_
             have HB := n2_
             clear n0_ n1_ n2_
             refine jAc (n := 17) (S := fun w' => True) (ds := []) #[false, false, false, false, false, false, false, false, false, false, false, false, false, false, false, false, false] kr_ rfl rfl trivial (fun hHeld => ?_); refine jAX jH.jLN jH.jKq (fun HT_ HW_ => ?_)
             generalize wr.drew = w63 at HO_8 HO_84 HB hHeld ⊢
             refine pu_ 0 (some 90) (ba_ 17 1) (vO HT_.out kr_) ?_
             refine pu_ 1 (some 91) (ba_ 17 3) (vO HT_.out kr_) ?_
             refine pu_ 2 (some 92) (ba_ 17 7) (vO HT_.out kr_) ?_
             refine pu_ 3 (some 93) (ba_ 17 15) (vO HT_.out kr_) ?_
             refine pu_ 4 (some 94) (ba_ 17 31) (vO HT_.out kr_) ?_
             refine pu_ 5 (some 95) (ba_ 17 63) (vO HT_.out kr_) ?_
             refine pu_ 6 (some 96) (ba_ 17 127) (vO HT_.out kr_) ?_
             refine pu_ 9 (some 99) (ba_ 17 639) (vO HT_.out kr_) ?_
             refine pu_ 10 (some 100) (ba_ 17 1663) (vO HT_.out kr_) ?_
             refine pu_ 11 (some 101) (ba_ 17 3711) (vO HT_.out kr_) ?_
             refine pu_ 12 (some 102) (ba_ 17 7807) (vO HT_.out kr_) ?_
             refine pu_ 13 (some 103) (ba_ 17 15999) (vO HT_.out kr_) ?_
             refine pu_ 14 (some 104) (ba_ 17 32383) (vO HT_.out kr_) ?_
             refine one_ (i := 7) (N := some 97) (ba_ 17 32511) rfl rfl (ql HT_.out kr_) (by decide) (fun K hK => ?_)
             refine jEp (w1 := ?_) (v := ?_) (by rfl) rfl ?_ ?_
             rotate_left 2
             ·
              go_simp
              constructor
              ·
               rfl
              ·
               rfl
             refine hK.out _ _ trivial (fun hHeld => ?_)
             clear hK K
             refine qJ (a' := ?_) ?_ ?_
             rotate_left
             ·
              show Act.put _ (some 97) _ = _
              simp only [Act.put, ss_, zF, zW]
              rfl
             refine one_ (i := 8) (N := some 98) (ba_ 17 32767) rfl rfl (ql HT_.out kr_) (by decide) (fun K hK => ?_)
             refine Kd.jDb (Kd.int .u64) (w0 := w) w.heap.size (by rfl) (.tmp 90) (.tmp 97) 35 22 (.int .u64 0) 8 rfl Try.underlying35 zw rfl (by decide) (by omega) u8 x8_1 (Go.bits .or .u64 (ji58) x9_1) [.int .u64 (Go.bits .or .u64 (ji58) x9_1)] (fun k_ => (w.heap.size ≤ k_)) (fun _ => False) rfl rfl ?aP (fun _ hk => hk.elim) ?aF ?aO ?aB ?aS ?aL ?_
             (case aP => exact rfl)
             (case aB => exact (bb_ HB))
             (case aF => exact (fun k_ hk => (Nat.le_trans (jB (bb_ HB)) hk)))
             (case aO => exact (rR_ HO_8))
             (case aS => exact (jB (bb_ HB)))
             (case aL => have := LMc59.out; omega)
             intro v204 w64 ho hb hg hat
             rw [← Ny203.out] at ho
             have n0_ := jA.mk (Kd.jAM (ok := (fun k_ => (P0_ k_ ∨ w.heap.size ≤ k_))) (rV_ HO_84) hg hat)
             have n1_ := jA.mk (hb)
             have n2_ := jA.mk (ho)
             clear HO_84
             clear HB
             clear HO_8
             have HO_84 := n0_
             have HB := n1_
             have HO205 := n2_
             clear n0_ n1_ n2_
             clear ho hb hg hat
             refine hK.out _ _ trivial (fun hHeld => ?_)
             clear hK K
             refine qJ (a' := ?_) ?_ ?_
             rotate_left
             ·
              show Act.put _ (some 98) _ = _
              simp only [Act.put, ss_, zF, zW]
              rfl
             refine pu_ 15 (some 8) (ba_ 17 65535) (vO HT_.out kr_) ?_
             refine pu_ 16 (some 9) (ba_ 17 131071) (vO HT_.out kr_) ?_
             refine jBZ (jBT HT_.out kr_) ?_
             try go_wp2
             go_roundg k1
             case measure => have := HK1.out; omega
             case rel => exact ⟨(y203), ((ji62) / 2), (wrap64 (x86_1 + 1)), (by first | rfl | (simp; done) | (simp only [← hji62] <;> (first | rfl | simp)) | (simp [*]; done)), sd_, H', ⟨by have := HK1.out; omega⟩, ⟨(rR_ HO205)⟩, ⟨(rV_ HO_84)⟩, ⟨(bb_ HB)⟩⟩
            ·
             rw [if_neg c61] at H
             exact absurd H (by simp)
           ·
            rw [if_neg c59] at H
            exact absurd H (by simp)
          ·
           rw [if_neg c57] at H
           exact absurd H (by simp)
         ·
          rw [if_neg c55] at H
          exact absurd H (by simp)
        ·
         rw [if_neg c54] at H
         exact absurd H (by simp)
       ·
        rw [if_neg c53] at H
        have c53b0 := decide_eq_false c53
        clear c53
        by_cases c65 : x8_1.length < 17592186044416
        ·
         rw [if_pos c65] at H
         have LMc65 := jA.mk c65
         clear c65
         obtain ⟨y206, hy206⟩ : ∃ y_ : List Int, y_ = (x8_1 ++ [x9_1]) := ⟨_, rfl⟩
         replace H : ((jQ.f k1 y206).bind fun t209 => ((je.f t209).bind fun t212 => (some t212))) = some r := by first | (rw [hy206]; with_reducible exact H) | (have H2_ := (Option.bind_some _ _).symm.trans H; rw [hy206]; with_reducible exact H2_) | (with_reducible exact hs_ H) | with_reducible exact H | (rw [hy206]; exact H) | exact H
         have Ny206 := jA.mk hy206
         clear hy206
         replace H := ob_ H
         obtain ⟨t209, A660, H⟩ := H
         try dsimp only at H
         have A66 := jA.mk A660
         clear A660
         replace H := ob_ H
         obtain ⟨t212, A670, H⟩ := H
         replace H : (some t212) = some r := H
         have A67 := jA.mk A670
         clear A670
         obtain rfl := Option.some.inj H
         go_wp2_with (first | ((with_reducible refine vU (b := .append) (xs := #[.tmp 106, .tmp 108]) rfl ?_); (try (refine vE (by rfl) ?_; dsimp only)); at_builtin; refine Kd.qM (Kd.int .u64) (w0 := w) w.heap.size rfl (.tmp 106) (.tmp 108) 35 22 (.int .u64 0) 8 rfl Try.underlying35 zw rfl (by decide) (by omega) u8 x8_1 x9_1 [.int .u64 x9_1] (fun k_ => (w.heap.size ≤ k_)) (fun _ => False) rfl rfl ?aP (fun _ hk => hk.elim) ?aF ?aO ?aB ?aS ?aL ?_; (case aP => exact rfl); (case aB => exact (bb_ HB)); (case aF => exact (fun k_ hk => (Nat.le_trans (jB (bb_ HB)) hk))); (case aO => exact (rR_ HO_8)); (case aS => exact (jB (bb_ HB))); (case aL => have := LMc65.out; omega); intro v207 w68 ho hb hg hat; rw [← Ny206.out] at ho; replace HO_84 := jA.mk (Kd.jAM (ok := (fun k_ => (P0_ k_ ∨ w.heap.size ≤ k_))) (rV_ HO_84) hg hat); replace HB := jA.mk (hb); have HO208 := jA.mk (ho); clear HO_8 ho hb hg hat; obtain ⟨Ao69, co69, eo69⟩ := Kd.jm HO208.out; subst eo69) | ((with_reducible refine jG (f := 110) rfl ?_); refine jo (some 110) rfl rfl Try.func110 kr_ rfl #[.slice Ao69 y206.length co69] rfl mt_ ?_; (with_reducible refine (jQ.calls k1 (fun k_ => some k_ = (.slice Ao69 y206.length co69 : Value).ownBlock) _ _ y206 t209 _ ?side1 A66.out).mono ?_); (case side1 => exact Kd.R_V (Kd.jDa rfl (HO208.out))); rintro e w70 ⟨v210, rfl, ho0, hb⟩; refine ⟨_, rfl, ?_⟩; replace HO_84 := jA.mk (Kd.jAT (rV_ HO_84) hb); have HO211 := jA.mk (Kd.zq (Kd.zV (ok' := fun k_ => (P0_ k_ ∨ w.heap.size ≤ k_)) ho0 (fun k_ hk_ => Or.elim hk_ (fun hs_ => (.inr (((HO208.out).1 k_ hs_.symm)))) (fun hn_ => (.inr (Nat.le_trans (jB (bb_ HB)) hn_))))) (jB (bb_ HB))); replace HO208 := ro_ HO208 hb; replace HB := bs_ HB hb; obtain ⟨Ao71, co71, eo71⟩ := Kd.zT HO211.out; subst eo71) | ((with_reducible refine jG (f := 116) rfl ?_); refine jo (some 111) rfl rfl Try.func116 kr_ rfl #[.slice Ao71 t209.length co71] rfl mt_ ?_; (with_reducible refine (je.calls _ _ t209 t212 _ ?side1 ?side2 A67.out).mono ?_); (case side1 => repeat (first | exact (Kd.vW HO211.out).2.2 | (with_reducible refine Kd.zh ?_ _) | (with_reducible refine Kd.zu ?_ _) | (with_reducible refine Kd.qW ?_))); (case side2 => exact (Kd.vW HO211.out).2.1); rintro e w72 ⟨v213, rfl, ho0, hb⟩; refine ⟨_, rfl, ?_⟩; replace HO_84 := jA.mk (Kd.qg (rV_ HO_84) (Kd.zf ho0) hb); replace HO211 := jA.mk (Kd.qg (rV_ HO211) (Kd.zf ho0) hb); have HO214 := jA.mk (Kd.jU (Kd.jR (Kd.jEF (M := fun k_ => (w.heap.size ≤ k_)) ho0 (jB (bb_ HB)) (fun k_ h_ => h_)) (Kd.R_lt (rR_ HO208))) (jB (bb_ HB))); replace HO208 := re_ HO208 ho0 hb; replace HB := bs_ HB hb))
         go_ret
         exact ⟨_, by first | rfl | (simp [vM, vL] <;> rfl) | (simp only [← hji44, ← hji45]; first | rfl | (simp [vM, vL] <;> rfl)) | (simp [*, vM, vL] <;> rfl), by refine pR_ ?_; exact Kd.jk HO214.out (fun _ _ => trivial), (bb_ HB)⟩
        ·
         rw [if_neg c65] at H
         exact absurd H (by simp)
    ·
     rw [if_neg c48] at H
     exact absurd H (by simp)
   ·
    rw [if_neg c47] at H
    exact absurd H (by simp)
  ·
   rw [if_neg c46] at H
   exact absurd H (by simp)

end Go.Proofs.Ytijgeonhbmgikaa.POOctetGets
