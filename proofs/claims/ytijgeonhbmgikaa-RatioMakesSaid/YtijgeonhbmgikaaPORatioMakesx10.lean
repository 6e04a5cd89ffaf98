-- printed (pr.py)
import Derived.Test.YtijgeonhbmgikaaPORatioMakesx9
namespace Go.Proofs.Ytijgeonhbmgikaa.PORatioMakes
open Go.RowKit Go.Proofs.YtijgeonhbmgikaaN Go.Proofs.YtijgeonhbmgikaaW.PrintWords Go.Proofs.YtijgeonhbmgikaaW.PrintLast Go.Proofs.YtijgeonhbmgikaaW.PrintMore
attribute [local go_sem] qJ qH qd qc zo zn qI qG
set_option maxHeartbeats 8000000
set_option maxRecDepth 100000
set_option linter.unusedVariables false
set_option linter.unusedSimpArgs false
mutual
def vC.l0 : Nat → List Int → List Int → Int → Int → Option (List Int)
 | 0, _, _, _, _ => none
 | k + 1, x1, x5, x6, x7 => if x7 < (x1.length : Int) then (vC.j1 k x1 x5 x6 x7 true) else (vC.j1 k x1 x5 x6 x7 (decide (x6 > 0)))
def vC.j1 : Nat → List Int → List Int → Int → Int → Bool → Option (List Int)
 | 0, _, _, _, _, _ => none
 | k + 1, x1, x5, x6, x7, x24 => if x24 = true then (if x7 ≥ (x5.length : Int) then (if x5.length < 17592186044416 then ((some (x5 ++ [0] : List Int)).bind fun y314 => (if x7 < (x1.length : Int) then (if 0 ≤ x7 then (if x7 < (y314.length : Int) then (if x6 ≤ 1 then (vC.l0 k x1 (y314.set (x7 : Int).toNat (ad64 (rd y314 x7) (rd x1 x7) x6)) (ac64 (rd y314 x7) (rd x1 x7) x6) (wrap64 (x7 + 1))) else (none)) else (none)) else (none)) else (if 0 ≤ x7 then (if x7 < (y314.length : Int) then (if x6 ≤ 1 then (vC.l0 k x1 (y314.set (x7 : Int).toNat (ad64 (rd y314 x7) 0 x6)) (ac64 (rd y314 x7) 0 x6) (wrap64 (x7 + 1))) else (none)) else (none)) else (none)))) else (none)) else (if x7 < (x1.length : Int) then (if 0 ≤ x7 then (if x7 < (x5.length : Int) then (if x6 ≤ 1 then (vC.l0 k x1 (x5.set (x7 : Int).toNat (ad64 (rd x5 x7) (rd x1 x7) x6)) (ac64 (rd x5 x7) (rd x1 x7) x6) (wrap64 (x7 + 1))) else (none)) else (none)) else (none)) else (if 0 ≤ x7 then (if x7 < (x5.length : Int) then (if x6 ≤ 1 then (vC.l0 k x1 (x5.set (x7 : Int).toNat (ad64 (rd x5 x7) 0 x6)) (ac64 (rd x5 x7) 0 x6) (wrap64 (x7 + 1))) else (none)) else (none)) else (none)))) else ((jS.f k x5).bind fun t311 => (some t311))
end
def vC.f (k : Nat) (l0 : List Int) (l1 : List Int) : Option (List Int) := (jS.f k l0).bind fun t302 => (if (t302.length : Int) = 0 then ((zC.f k l1).bind fun t305 => (some t305)) else ((zC.f k l0).bind fun t308 => (vC.l0 k l1 t308 0 0)))
theorem vC.vQ : ∀ k, (∀ y0 y1 y2 y3, LeO (vC.l0 k y0 y1 y2 y3) (vC.l0 (k + 1) y0 y1 y2 y3)) ∧ (∀ y0 y1 y2 y3 y4, LeO (vC.j1 k y0 y1 y2 y3 y4) (vC.j1 (k + 1) y0 y1 y2 y3 y4))
 | 0 => ⟨fun _ _ _ _ r h => by simp [vC.l0] at h, fun _ _ _ _ _ r h => by simp [vC.j1] at h⟩
 | k + 1 => by
  obtain ⟨ih0, ih1⟩ := vC.vQ k
  refine ⟨?_, ?_⟩ <;> (intros; first | unfold vC.l0 | unfold vC.j1) <;> repeat' first
   | (with_reducible exact ih0 _ _ _ _)
   | (with_reducible exact ih1 _ _ _ _ _)
   | (with_reducible exact zC.mono _ _)
   | (with_reducible exact jS.mono _ _)
   | (with_reducible exact LeO.refl _)
   | (with_reducible exact LeO.none _)
   | (with_reducible refine LeO.ite ?_ ?_)
   | (with_reducible refine LeO.bind ?_ (fun _ => ?_))
theorem vC.mono : ∀ a0 a1 k, LeO (vC.f k a0 a1) (vC.f (k + 1) a0 a1) := by
 intro a0 a1 k
 obtain ⟨ih0, ih1⟩ := vC.vQ k
 unfold vC.f
 repeat' first
   | (with_reducible exact ih0 _ _ _ _)
   | (with_reducible exact ih1 _ _ _ _ _)
   | (with_reducible exact zC.mono _ _)
   | (with_reducible exact jS.mono _ _)
   | (with_reducible exact LeO.refl _)
   | (with_reducible exact LeO.none _)
   | (with_reducible refine LeO.ite ?_ ?_)
   | (with_reducible refine LeO.bind ?_ (fun _ => ?_))
theorem vC.calls (k : Nat) (P0_ : Nat → Prop) (A0 : Option Addr) (c0 : Nat) (l0 : List Int) (A1 : Option Addr) (c1 : Nat) (l1 : List Int) (r : List Int) (w : World) (hs0 : Kd.V (Kd.int .u64) 22 w w.heap.size (fun k_ => P0_ k_) (.slice A0 l0.length c0) l0) (hr1 : Kd.C (Kd.int .u64) w A1 l1.length l1) (hc1 : l1.length ≤ c1) (h : vC.f k l0 l1 = some r) :
  Calls Try.prog 108 #[.slice A0 l0.length c0, .slice A1 l1.length c1] w fun e w' => ∃ v0_ : Value, e = .returned (v0_) ∧ Kd.V (Kd.int .u64) 22 w' w.heap.size (fun k_ => (P0_ k_ ∨ w.heap.size ≤ k_)) v0_ r ∧ Below w.heap.size w w' := by
 have HO0 := jA.mk (show Kd.V (Kd.int .u64) 22 w w.heap.size (fun k_ => (P0_ k_ ∨ w.heap.size ≤ k_)) (.slice A0 l0.length c0) l0 from Kd.zF hs0 (fun k_ hk => .inl hk))
 have HR1 := jA.mk hr1
 have HC1 := jA.mk hc1
 clear hr1 hc1
 have HB := jA.mk (Below.refl w.heap.size w)
 have H : ((jS.f k l0).bind fun t302 => (if (t302.length : Int) = 0 then ((zC.f k l1).bind fun t305 => (some t305)) else ((zC.f k l0).bind fun t308 => (vC.l0 k l1 t308 0 0)))) = some r := h
 clear h
 obtain ⟨t302, A3, H⟩ := oc_ H
 try dsimp only at H
 by_cases c4 : (t302.length : Int) = 0
 ·
  rw [if_pos c4] at H
  have c4b0 := beq_iff_eq.mpr c4
  have c4b1 := bne_eq_false_iff_eq.mpr c4
  clear c4
  replace H := ob_ H
  obtain ⟨t305, A50, H⟩ := H
  replace H : (some t305) = some r := H
  have A5 := jA.mk A50
  clear A50
  obtain rfl := Option.some.inj H
  go_enter Try.func108, Try.ntmps108
  go_wp2_with (first | ((with_reducible refine jD (f := 110) rfl ?_); refine gl_ (some 10) Try.func110 #[.slice A0 l0.length c0] ?_; (with_reducible refine (jS.calls k (fun k_ => (P0_ k_ ∨ w.heap.size ≤ k_)) _ _ l0 t302 _ ?side1 A3.out).mono ?_); (case side1 => exact HO0.out); rintro e w6 ⟨v303, rfl, ho0, hb⟩; refine ⟨_, rfl, ?_⟩; replace HO0 := jA.mk (Kd.jAA (rV_ HO0) hb); have HO304 := jA.mk (Kd.zf (Kd.zF (ok' := fun k_ => (P0_ k_ ∨ w.heap.size ≤ k_)) ho0 (fun k_ hk_ => Or.elim hk_ (fun hs_ => hs_) (fun hn_ => (.inr (Nat.le_trans (jB (bb_ HB)) hn_))))) (jB (bb_ HB))); replace HB := bs_ HB hb; obtain ⟨Ao7, co7, rfl⟩ := Kd.zX HO304.out) | ((with_reducible refine jD (f := 96) rfl ?_); refine gl_ (some 14) Try.func96 #[.slice A1 l1.length c1] ?_; (with_reducible refine (zC.calls k _ _ l1 t305 _ ?side1 ?side2 A5.out).mono ?_); (case side1 => exact cb_ HR1 HB); (case side2 => exact HC1.out); rintro e w8 ⟨v306, rfl, ho0, hb⟩; refine ⟨_, rfl, ?_⟩; replace HO0 := jA.mk (Kd.zx (rV_ HO0) (Kd.jY ho0) hb); replace HO304 := jA.mk (Kd.zx (rV_ HO304) (Kd.jY ho0) hb); have HO307 := jA.mk (Kd.jL (Kd.jBh (M := fun k_ => (w.heap.size ≤ k_)) ho0 (jB (bb_ HB)) (fun k_ h_ => h_)) (jB (bb_ HB))); replace HB := bs_ HB hb))
  go_ret
  exact ⟨_, ew_, Kd.zF (Kd.R_V (by refine pR_ ?_; exact Kd.jO HO307.out (fun _ hk => hk.1))) (fun k_ hk => by first | exact ⟨(.inr (hk.1)), hk.2⟩ | exact (.inr (hk))), (bb_ HB)⟩
 ·
  rw [if_neg c4] at H
  have c4b0 := beq_eq_false_iff_ne.mpr c4
  have c4b1 := bne_iff_ne.mpr c4
  have c4b2 : ¬ (t302 = []) := fun h_ => c4 (by rw [h_]; rfl)
  obtain ⟨t308, A9, H⟩ := oc_ H
  try dsimp only at H
  have H' := jA.mk H
  clear H
  go_enter Try.func108, Try.ntmps108
  go_wp2_with (first | ((with_reducible refine jD (f := 110) rfl ?_); refine gl_ (some 10) Try.func110 #[.slice A0 l0.length c0] ?_; (with_reducible refine (jS.calls k (fun k_ => (P0_ k_ ∨ w.heap.size ≤ k_)) _ _ l0 t302 _ ?side1 A3.out).mono ?_); (case side1 => exact HO0.out); rintro e w10 ⟨v303, rfl, ho0, hb⟩; refine ⟨_, rfl, ?_⟩; replace HO0 := jA.mk (Kd.jAA (rV_ HO0) hb); have HO304 := jA.mk (Kd.zf (Kd.zF (ok' := fun k_ => (P0_ k_ ∨ w.heap.size ≤ k_)) ho0 (fun k_ hk_ => Or.elim hk_ (fun hs_ => hs_) (fun hn_ => (.inr (Nat.le_trans (jB (bb_ HB)) hn_))))) (jB (bb_ HB))); replace HB := bs_ HB hb; obtain ⟨Ao11, co11, rfl⟩ := Kd.zX HO304.out) | ((with_reducible refine jD (f := 96) rfl ?_); refine gl_ (some 16) Try.func96 #[.slice A0 l0.length c0] ?_; (with_reducible refine (zC.calls k _ _ l0 t308 _ ?side1 ?side2 A9.out).mono ?_); (case side1 => repeat (first | exact (Kd.vG HO0.out).2.2 | (with_reducible refine Kd.zR ?_ _) | (with_reducible refine Kd.zV ?_ _) | (with_reducible refine Kd.zw ?_))); (case side2 => exact (Kd.vG HO0.out).2.1); rintro e w12 ⟨v309, rfl, ho0, hb⟩; refine ⟨_, rfl, ?_⟩; replace HO0 := jA.mk (Kd.zx (rV_ HO0) (Kd.jY ho0) hb); replace HO304 := jA.mk (Kd.zx (rV_ HO304) (Kd.jY ho0) hb); have HO310 := jA.mk (Kd.jL (Kd.jBh (M := fun k_ => (w.heap.size ≤ k_)) ho0 (jB (bb_ HB)) (fun k_ h_ => h_)) (jB (bb_ HB))); replace HB := bs_ HB hb))
  go_loopg [5, 6, 7] k (fun kq v5 v6 v7 w' => ∃ (x5_1 : List Int) (x6_1 : Int) (x7_1 : Int), v6 = .int .u64 x6_1 ∧ v7 = .int .i64 x7_1 ∧ jA (vC.l0 kq l1 x5_1 x6_1 x7_1 = some r) ∧ jA (kq ≤ k) ∧ jA (Kd.R (Kd.int .u64) 22 w' w.heap.size (fun k_ => (w.heap.size ≤ k_)) v5 x5_1) ∧ jA (Below w.heap.size w w'))
  case atStart => exact ⟨(t308), (0), (0), sd_, sd_, H', ⟨Nat.le_refl _⟩, ⟨by (with_reducible repeat (first | apply Kd.zG | apply Kd.zM | apply Kd.zP)); exact Kd.jO HO310.out (fun _ hk => hk.1)⟩, ⟨(bb_ HB)⟩⟩
  case round =>
   clear H'
   try clear c1
   try clear p2
   try clear c4
   try clear c4b0
   try clear c4b1
   try clear c4b2
   try clear c9
   try clear c10
   try clear c11
   obtain ⟨x5_1, x6_1, x7_1, rfl, rfl, HA, HK1, HO_5, HB⟩ := hrel
   cases gk with
   | zero => exact absurd HA.out (by simp [vC.l0])
   | succ k1 =>
    have H := HA.out
    clear HA
    simp only [vC.l0] at H
    have HC13 := jA.mk H
    clear H
    go_upto_region 6 with (fail)
    go_cut [24] (fun v24 wc => ∃ (kq : Nat) (x24_12 : Bool), v24 = .bool x24_12 ∧ jA (vC.j1 kq l1 x5_1 x6_1 x7_1 x24_12 = some r) ∧ jA (kq ≤ k1) ∧ jA (Kd.R (Kd.int .u64) 22 wc w.heap.size (fun k_ => (w.heap.size ≤ k_)) u5 x5_1) ∧ jA (Below w.heap.size w wc))
    case first =>
     have H := HC13.out
     clear HC13
     by_cases c14 : x7_1 < (l1.length : Int)
     ·
      rw [if_pos c14] at H
      have c14b0 := decide_eq_true c14
      clear c14
      (first | rw [c14b0] | (simp only [qg, jAb]; rw [c14b0]) | skip)
      have H' := jA.mk H
      clear H
      go_wp2
      go_meet
      case rel => exact ⟨_, (true), sd_, H', ⟨by have := HK1.out; first | omega | exact Nat.le_refl _⟩, ⟨(rR_ HO_5)⟩, ⟨(bb_ HB)⟩⟩
     ·
      rw [if_neg c14] at H
      have c14b0 := decide_eq_false c14
      clear c14
      (first | rw [c14b0] | (simp only [qg, jAb]; rw [c14b0]) | skip)
      have H' := jA.mk H
      clear H
      go_wp2
      go_meet
      case rel => exact ⟨_, (decide (x6_1 > 0)), sd_, H', ⟨by have := HK1.out; first | omega | exact Nat.le_refl _⟩, ⟨(rR_ HO_5)⟩, ⟨(bb_ HB)⟩⟩
    case rest =>
     clear HC13
     try clear c1
     try clear p2
     try clear c4
     try clear c4b0
     try clear c4b1
     try clear c4b2
     try clear c9
     try clear c10
     try clear c11
     try clear c14
     try clear c14b0
     try clear p2
     obtain ⟨kq, x24_12, rfl, HA, HJ12, HO_5, HB⟩ := hcut
     cases kq with
     | zero => exact absurd HA.out (by simp [vC.j1])
     | succ kj12 =>
      have H := HA.out
      clear HA
      simp only [vC.j1] at H
      by_cases c15 : x24_12 = true
      ·
       subst c15
       replace H := ip_ H
       by_cases c16 : x7_1 ≥ (x5_1.length : Int)
       ·
        rw [if_pos c16] at H
        have c16b0 := decide_eq_true c16
        clear c16
        by_cases c17 : x5_1.length < 17592186044416
        ·
         rw [if_pos c17] at H
         have LMc17 := jA.mk c17
         clear c17
         obtain ⟨y314, hy314⟩ : ∃ y_ : List Int, y_ = (x5_1 ++ [0]) := ⟨_, rfl⟩
         replace H : (if x7_1 < (l1.length : Int) then (if 0 ≤ x7_1 then (if x7_1 < (y314.length : Int) then (if x6_1 ≤ 1 then (vC.l0 kj12 l1 (y314.set (x7_1 : Int).toNat (ad64 (rd y314 x7_1) (rd l1 x7_1) x6_1)) (ac64 (rd y314 x7_1) (rd l1 x7_1) x6_1) (wrap64 (x7_1 + 1))) else (none)) else (none)) else (none)) else (if 0 ≤ x7_1 then (if x7_1 < (y314.length : Int) then (if x6_1 ≤ 1 then (vC.l0 kj12 l1 (y314.set (x7_1 : Int).toNat (ad64 (rd y314 x7_1) 0 x6_1)) (ac64 (rd y314 x7_1) 0 x6_1) (wrap64 (x7_1 + 1))) else (none)) else (none)) else (none))) = some r := by first | (rw [hy314]; with_reducible exact H) | (have H2_ := (Option.bind_some _ _).symm.trans H; rw [hy314]; with_reducible exact H2_) | (with_reducible exact hs_ H) | with_reducible exact H | (rw [hy314]; exact H) | exact H
         have Ny314 := jA.mk hy314
         clear hy314
         by_cases c18 : x7_1 < (l1.length : Int)
         ·
          rw [if_pos c18] at H
          have c18b0 := decide_eq_true c18
          clear c18
          by_cases c19 : 0 ≤ x7_1
          ·
           rw [if_pos c19] at H
           have c19b0 := decide_eq_true c19
           clear c19
           by_cases c20 : x7_1 < (y314.length : Int)
           ·
            rw [if_pos c20] at H
            have c20b0 := decide_eq_true c20
            clear c20
            by_cases c21 : x6_1 ≤ 1
            ·
             rw [if_pos c21] at H
             have c21b0 := decide_eq_true c21
             clear c21
             obtain ⟨y319, hy319⟩ : ∃ y_ : List Int, y_ = (y314.set (x7_1 : Int).toNat (ad64 (rd y314 x7_1) (rd l1 x7_1) x6_1)) := ⟨_, rfl⟩
             replace H : (vC.l0 kj12 l1 y319 (ac64 (rd y314 x7_1) (rd l1 x7_1) x6_1) (wrap64 (x7_1 + 1))) = some r := by first | (rw [hy319]; with_reducible exact H) | (have H2_ := (Option.bind_some _ _).symm.trans H; rw [hy319]; with_reducible exact H2_) | (with_reducible exact hs_ H) | with_reducible exact H | (rw [hy319]; exact H) | exact H
             have Ny319 := jA.mk hy319
             clear hy319
             have H' := jA.mk H
             clear H
             obtain ⟨Ao23, co23, eo23⟩ := Kd.jP HO_5.out
             subst eo23
             go_wp2_with (first | ((with_reducible refine zK (b := .append) (xs := #[.tmp 31, .tmp 32]) rfl ?_); at_builtin; refine Kd.qh (Kd.int .u64) (w0 := w) w.heap.size rfl (.tmp 31) (.tmp 32) 35 22 (.int .u64 0) 8 rfl Try.underlying35 qO rfl (by decide) (by omega) (.slice Ao23 x5_1.length co23) x5_1 0 [.int .u64 0] (fun k_ => (w.heap.size ≤ k_)) (fun _ => False) rfl rfl ?aP (fun _ hk => hk.elim) ?aF ?aO ?aB ?aS ?aL ?_; (case aP => exact rfl); (case aB => exact (bb_ HB)); (case aF => exact (fun k_ hk => (Nat.le_trans (jB (bb_ HB)) hk))); (case aO => exact (rR_ HO_5)); (case aS => exact (jB (bb_ HB))); (case aL => have := LMc17.out; omega); intro v315 w24 ho hb hg hat; rw [← Ny314.out] at ho; replace HB := jA.mk (hb); have HO316 := jA.mk (ho); clear HO_5 ho hb hg hat; have p317 : 0 ≤ (x7_1 : Int) := of_decide_eq_true am_; have q317 : x7_1 < (l1.length : Int) := of_decide_eq_true am_; obtain ⟨ad317, e317, hx317_0⟩ := Kd.zJ HR1.out x7_1 p317 q317; cases e317; replace hx317_0 := (HB.out.cell (World.block_lt_of_cell? w _ hx317_0)).trans hx317_0; replace p317 := eq_true p317; replace q317 := eq_true q317; obtain ⟨Ao25, co25, rfl⟩ := Kd.jP HO316.out; have p318 : 0 ≤ (x7_1 : Int) := of_decide_eq_true am_; have q318 : x7_1 < (y314.length : Int) := of_decide_eq_true am_; obtain ⟨ad318, e318, hx318_0⟩ := Kd.zJ (Kd.jC HO316.out).2.2 x7_1 p318 q318; cases e318; replace p318 := eq_true p318; replace q318 := eq_true q318; have p22 : 0 ≤ (x7_1 : Int) := of_decide_eq_true am_; have q22 : (x7_1 : Int) < ((y314.length : Int) : Int) := of_decide_eq_true am_; obtain ⟨go22, co22, eo22, gb22, gl22, cl22, HG22⟩ := Kd.jAC HO316.out (by omega); (first | cases eo22 | (injection eo22 with ea_ en_ ec_; (first | subst ea_ | (injection ea_ with ea_; subst ea_)); subst ec_; clear en_)); have GB22 := jA.mk gb22; have GG22 := jA.mk HG22; clear gb22 gl22 HG22; (first | simp only [add_plain] at hx318_0 | skip); obtain ⟨hx22_0, hf22_0⟩ := Kd.zY 0 HO316.out (x7_1 : Int) p22 q22; replace p22 := eq_true p22; replace q22 := eq_true q22; obtain ⟨hy26_, hz26_⟩ := Kd.zY 0 HO316.out (x7_1 : Int) (of_decide_eq_true am_) (of_decide_eq_true am_); have HP26 := Kd.qz HO316.out (x7_1 : Int) (ad64 (rd y314 x7_1) (rd l1 x7_1) x6_1)) | ((with_reducible refine zu (t := 22) (p := 54) rfl ?_); refine zi (t := 22) (p := 54) (v := ?vo_w27) (w1 := (w24.setCell ⟨go22, (x7_1 : Int).toNat, none⟩ (.int .u64 (ad64 (rd y314 x7_1) (rd l1 x7_1) x6_1)))) ?hg ?ho ?hn ?hr ?_; (case ho => rfl); (case hg => rfl); (case hn => rfl); (case hr => exact gs_); intro w27 hw; have hg : w24.grownBy w27 (some go22) := (by rw [hw]; exact HP26.2); have hp_ : Kd.R (Kd.int .u64) 22 w27 w.heap.size (fun k_ => (w.heap.size ≤ k_)) (.slice (some ⟨go22, 0, none⟩) y314.length co25) y319 := (by rw [hw, Ny319.out]; exact HP26.1); clear HP26; replace HO316 := jA.mk (hp_); replace HB := jA.mk ((by rw [hw]; exact vX (HB.out) GB22.out : Below w.heap.size w w27)); clear hg hw hp_))
             go_roundg kj12
             case measure => have := HK1.out; have := HJ12.out; omega
             case rel => exact ⟨(y319), (ac64 (rd y314 x7_1) (rd l1 x7_1) x6_1), (wrap64 (x7_1 + 1)), sd_, sd_, H', ⟨by have := HK1.out; have := HJ12.out; omega⟩, ⟨(rR_ HO316)⟩, ⟨(bb_ HB)⟩⟩
            ·
             rw [if_neg c21] at H
             exact absurd H (by simp)
           ·
            rw [if_neg c20] at H
            exact absurd H (by simp)
          ·
           rw [if_neg c19] at H
           exact absurd H (by simp)
         ·
          rw [if_neg c18] at H
          have c18b0 := decide_eq_false c18
          clear c18
          by_cases c28 : 0 ≤ x7_1
          ·
           rw [if_pos c28] at H
           have c28b0 := decide_eq_true c28
           clear c28
           by_cases c29 : x7_1 < (y314.length : Int)
           ·
            rw [if_pos c29] at H
            have c29b0 := decide_eq_true c29
            clear c29
            by_cases c30 : x6_1 ≤ 1
            ·
             rw [if_pos c30] at H
             have c30b0 := decide_eq_true c30
             clear c30
             obtain ⟨y321, hy321⟩ : ∃ y_ : List Int, y_ = (y314.set (x7_1 : Int).toNat (ad64 (rd y314 x7_1) 0 x6_1)) := ⟨_, rfl⟩
             replace H : (vC.l0 kj12 l1 y321 (ac64 (rd y314 x7_1) 0 x6_1) (wrap64 (x7_1 + 1))) = some r := by first | (rw [hy321]; with_reducible exact H) | (have H2_ := (Option.bind_some _ _).symm.trans H; rw [hy321]; with_reducible exact H2_) | (with_reducible exact hs_ H) | with_reducible exact H | (rw [hy321]; exact H) | exact H
             have Ny321 := jA.mk hy321
             clear hy321
             have H' := jA.mk H
             clear H
             obtain ⟨Ao32, co32, eo32⟩ := Kd.jP HO_5.out
             subst eo32
             go_wp2_with (first | ((with_reducible refine zK (b := .append) (xs := #[.tmp 31, .tmp 32]) rfl ?_); at_builtin; refine Kd.qh (Kd.int .u64) (w0 := w) w.heap.size rfl (.tmp 31) (.tmp 32) 35 22 (.int .u64 0) 8 rfl Try.underlying35 qO rfl (by decide) (by omega) (.slice Ao32 x5_1.length co32) x5_1 0 [.int .u64 0] (fun k_ => (w.heap.size ≤ k_)) (fun _ => False) rfl rfl ?aP (fun _ hk => hk.elim) ?aF ?aO ?aB ?aS ?aL ?_; (case aP => exact rfl); (case aB => exact (bb_ HB)); (case aF => exact (fun k_ hk => (Nat.le_trans (jB (bb_ HB)) hk))); (case aO => exact (rR_ HO_5)); (case aS => exact (jB (bb_ HB))); (case aL => have := LMc17.out; omega); intro v315 w33 ho hb hg hat; rw [← Ny314.out] at ho; replace HB := jA.mk (hb); have HO316 := jA.mk (ho); clear HO_5 ho hb hg hat; obtain ⟨Ao34, co34, rfl⟩ := Kd.jP HO316.out; have p320 : 0 ≤ (x7_1 : Int) := of_decide_eq_true am_; have q320 : x7_1 < (y314.length : Int) := of_decide_eq_true am_; obtain ⟨ad320, e320, hx320_0⟩ := Kd.zJ (Kd.jC HO316.out).2.2 x7_1 p320 q320; cases e320; replace p320 := eq_true p320; replace q320 := eq_true q320; have p31 : 0 ≤ (x7_1 : Int) := of_decide_eq_true am_; have q31 : (x7_1 : Int) < ((y314.length : Int) : Int) := of_decide_eq_true am_; obtain ⟨go31, co31, eo31, gb31, gl31, cl31, HG31⟩ := Kd.jAC HO316.out (by omega); (first | cases eo31 | (injection eo31 with ea_ en_ ec_; (first | subst ea_ | (injection ea_ with ea_; subst ea_)); subst ec_; clear en_)); have GB31 := jA.mk gb31; have GG31 := jA.mk HG31; clear gb31 gl31 HG31; (first | simp only [add_plain] at hx320_0 | skip); obtain ⟨hx31_0, hf31_0⟩ := Kd.zY 0 HO316.out (x7_1 : Int) p31 q31; replace p31 := eq_true p31; replace q31 := eq_true q31; obtain ⟨hy35_, hz35_⟩ := Kd.zY 0 HO316.out (x7_1 : Int) (of_decide_eq_true am_) (of_decide_eq_true am_); have HP35 := Kd.qz HO316.out (x7_1 : Int) (ad64 (rd y314 x7_1) 0 x6_1)) | ((with_reducible refine zu (t := 22) (p := 54) rfl ?_); refine zi (t := 22) (p := 54) (v := ?vo_w36) (w1 := (w33.setCell ⟨go31, (x7_1 : Int).toNat, none⟩ (.int .u64 (ad64 (rd y314 x7_1) 0 x6_1)))) ?hg ?ho ?hn ?hr ?_; (case ho => rfl); (case hg => rfl); (case hn => rfl); (case hr => exact gs_); intro w36 hw; have hg : w33.grownBy w36 (some go31) := (by rw [hw]; exact HP35.2); have hp_ : Kd.R (Kd.int .u64) 22 w36 w.heap.size (fun k_ => (w.heap.size ≤ k_)) (.slice (some ⟨go31, 0, none⟩) y314.length co34) y321 := (by rw [hw, Ny321.out]; exact HP35.1); clear HP35; replace HO316 := jA.mk (hp_); replace HB := jA.mk ((by rw [hw]; exact vX (HB.out) GB31.out : Below w.heap.size w w36)); clear hg hw hp_))
             go_roundg kj12
             case measure => have := HK1.out; have := HJ12.out; omega
             case rel => exact ⟨(y321), (ac64 (rd y314 x7_1) 0 x6_1), (wrap64 (x7_1 + 1)), sd_, sd_, H', ⟨by have := HK1.out; have := HJ12.out; omega⟩, ⟨(rR_ HO316)⟩, ⟨(bb_ HB)⟩⟩
            ·
             rw [if_neg c30] at H
             exact absurd H (by simp)
           ·
            rw [if_neg c29] at H
            exact absurd H (by simp)
          ·
           rw [if_neg c28] at H
           exact absurd H (by simp)
        ·
         rw [if_neg c17] at H
         exact absurd H (by simp)
       ·
        rw [if_neg c16] at H
        have c16b0 := decide_eq_false c16
        clear c16
        by_cases c37 : x7_1 < (l1.length : Int)
        ·
         rw [if_pos c37] at H
         have c37b0 := decide_eq_true c37
         clear c37
         by_cases c38 : 0 ≤ x7_1
         ·
          rw [if_pos c38] at H
          have c38b0 := decide_eq_true c38
          clear c38
          by_cases c39 : x7_1 < (x5_1.length : Int)
          ·
           rw [if_pos c39] at H
           have c39b0 := decide_eq_true c39
           clear c39
           by_cases c40 : x6_1 ≤ 1
           ·
            rw [if_pos c40] at H
            have c40b0 := decide_eq_true c40
            clear c40
            obtain ⟨y324, hy324⟩ : ∃ y_ : List Int, y_ = (x5_1.set (x7_1 : Int).toNat (ad64 (rd x5_1 x7_1) (rd l1 x7_1) x6_1)) := ⟨_, rfl⟩
            replace H : (vC.l0 kj12 l1 y324 (ac64 (rd x5_1 x7_1) (rd l1 x7_1) x6_1) (wrap64 (x7_1 + 1))) = some r := by first | (rw [hy324]; with_reducible exact H) | (have H2_ := (Option.bind_some _ _).symm.trans H; rw [hy324]; with_reducible exact H2_) | (with_reducible exact hs_ H) | with_reducible exact H | (rw [hy324]; exact H) | exact H
            have Ny324 := jA.mk hy324
            clear hy324
            have H' := jA.mk H
            clear H
            obtain ⟨Ao42, co42, eo42⟩ := Kd.jP HO_5.out
            subst eo42
            have p322 : 0 ≤ (x7_1 : Int) := of_decide_eq_true am_
            have q322 : x7_1 < (l1.length : Int) := of_decide_eq_true am_
            obtain ⟨ad322, e322, hx322_0⟩ := Kd.zJ HR1.out x7_1 p322 q322
            cases e322
            replace hx322_0 := (HB.out.cell (World.block_lt_of_cell? w _ hx322_0)).trans hx322_0
            replace p322 := eq_true p322
            replace q322 := eq_true q322
            have p323 : 0 ≤ (x7_1 : Int) := of_decide_eq_true am_
            have q323 : x7_1 < (x5_1.length : Int) := of_decide_eq_true am_
            obtain ⟨ad323, e323, hx323_0⟩ := Kd.zJ (Kd.jC HO_5.out).2.2 x7_1 p323 q323
            cases e323
            replace p323 := eq_true p323
            replace q323 := eq_true q323
            have p41 : 0 ≤ (x7_1 : Int) := of_decide_eq_true am_
            have q41 : (x7_1 : Int) < ((x5_1.length : Int) : Int) := of_decide_eq_true am_
            obtain ⟨go41, co41, eo41, gb41, gl41, cl41, HG41⟩ := Kd.jAC HO_5.out (by omega)
            (first | cases eo41 | (injection eo41 with ea_ en_ ec_; (first | subst ea_ | (injection ea_ with ea_; subst ea_)); subst ec_; clear en_))
            have GB41 := jA.mk gb41
            have GG41 := jA.mk HG41
            clear gb41 gl41 HG41
            (first | simp only [add_plain] at hx323_0 | skip)
            obtain ⟨hx41_0, hf41_0⟩ := Kd.zY 0 HO_5.out (x7_1 : Int) p41 q41
            replace p41 := eq_true p41
            replace q41 := eq_true q41
            have HP43 := Kd.qz HO_5.out (x7_1 : Int) (ad64 (rd x5_1 x7_1) (rd l1 x7_1) x6_1)
            go_wp2_with (first | ((with_reducible refine zu (t := 22) (p := 54) rfl ?_); refine zi (t := 22) (p := 54) (v := ?vo_w44) (w1 := (wc.setCell ⟨go41, (x7_1 : Int).toNat, none⟩ (.int .u64 (ad64 (rd x5_1 x7_1) (rd l1 x7_1) x6_1)))) ?hg ?ho ?hn ?hr ?_; (case ho => rfl); (case hg => rfl); (case hn => rfl); (case hr => exact gs_); intro w44 hw; have hg : wc.grownBy w44 (some go41) := (by rw [hw]; exact HP43.2); have hp_ : Kd.R (Kd.int .u64) 22 w44 w.heap.size (fun k_ => (w.heap.size ≤ k_)) (.slice (some ⟨go41, 0, none⟩) x5_1.length co42) y324 := (by rw [hw, Ny324.out]; exact HP43.1); clear HP43; replace HO_5 := jA.mk (hp_); replace HB := jA.mk ((by rw [hw]; exact vX (HB.out) GB41.out : Below w.heap.size w w44)); clear hg hw hp_))
            go_roundg kj12
            case measure => have := HK1.out; have := HJ12.out; omega
            case rel => exact ⟨(y324), (ac64 (rd x5_1 x7_1) (rd l1 x7_1) x6_1), (wrap64 (x7_1 + 1)), sd_, sd_, H', ⟨by have := HK1.out; have := HJ12.out; omega⟩, ⟨(rR_ HO_5)⟩, ⟨(bb_ HB)⟩⟩
           ·
            rw [if_neg c40] at H
            exact absurd H (by simp)
          ·
           rw [if_neg c39] at H
           exact absurd H (by simp)
         ·
          rw [if_neg c38] at H
          exact absurd H (by simp)
        ·
         rw [if_neg c37] at H
         have c37b0 := decide_eq_false c37
         clear c37
         by_cases c45 : 0 ≤ x7_1
         ·
          rw [if_pos c45] at H
          have c45b0 := decide_eq_true c45
          clear c45
          by_cases c46 : x7_1 < (x5_1.length : Int)
          ·
           rw [if_pos c46] at H
           have c46b0 := decide_eq_true c46
           clear c46
           by_cases c47 : x6_1 ≤ 1
           ·
            rw [if_pos c47] at H
            have c47b0 := decide_eq_true c47
            clear c47
            obtain ⟨y326, hy326⟩ : ∃ y_ : List Int, y_ = (x5_1.set (x7_1 : Int).toNat (ad64 (rd x5_1 x7_1) 0 x6_1)) := ⟨_, rfl⟩
            replace H : (vC.l0 kj12 l1 y326 (ac64 (rd x5_1 x7_1) 0 x6_1) (wrap64 (x7_1 + 1))) = some r := by first | (rw [hy326]; with_reducible exact H) | (have H2_ := (Option.bind_some _ _).symm.trans H; rw [hy326]; with_reducible exact H2_) | (with_reducible exact hs_ H) | with_reducible exact H | (rw [hy326]; exact H) | exact H
            have Ny326 := jA.mk hy326
            clear hy326
            have H' := jA.mk H
            clear H
            obtain ⟨Ao49, co49, eo49⟩ := Kd.jP HO_5.out
            subst eo49
            have p325 : 0 ≤ (x7_1 : Int) := of_decide_eq_true am_
            have q325 : x7_1 < (x5_1.length : Int) := of_decide_eq_true am_
            obtain ⟨ad325, e325, hx325_0⟩ := Kd.zJ (Kd.jC HO_5.out).2.2 x7_1 p325 q325
            cases e325
            replace p325 := eq_true p325
            replace q325 := eq_true q325
            have p48 : 0 ≤ (x7_1 : Int) := of_decide_eq_true am_
            have q48 : (x7_1 : Int) < ((x5_1.length : Int) : Int) := of_decide_eq_true am_
            obtain ⟨go48, co48, eo48, gb48, gl48, cl48, HG48⟩ := Kd.jAC HO_5.out (by omega)
            (first | cases eo48 | (injection eo48 with ea_ en_ ec_; (first | subst ea_ | (injection ea_ with ea_; subst ea_)); subst ec_; clear en_))
            have GB48 := jA.mk gb48
            have GG48 := jA.mk HG48
            clear gb48 gl48 HG48
            (first | simp only [add_plain] at hx325_0 | skip)
            obtain ⟨hx48_0, hf48_0⟩ := Kd.zY 0 HO_5.out (x7_1 : Int) p48 q48
            replace p48 := eq_true p48
            replace q48 := eq_true q48
            have HP50 := Kd.qz HO_5.out (x7_1 : Int) (ad64 (rd x5_1 x7_1) 0 x6_1)
            go_wp2_with (first | ((with_reducible refine zu (t := 22) (p := 54) rfl ?_); refine zi (t := 22) (p := 54) (v := ?vo_w51) (w1 := (wc.setCell ⟨go48, (x7_1 : Int).toNat, none⟩ (.int .u64 (ad64 (rd x5_1 x7_1) 0 x6_1)))) ?hg ?ho ?hn ?hr ?_; (case ho => rfl); (case hg => rfl); (case hn => rfl); (case hr => exact gs_); intro w51 hw; have hg : wc.grownBy w51 (some go48) := (by rw [hw]; exact HP50.2); have hp_ : Kd.R (Kd.int .u64) 22 w51 w.heap.size (fun k_ => (w.heap.size ≤ k_)) (.slice (some ⟨go48, 0, none⟩) x5_1.length co49) y326 := (by rw [hw, Ny326.out]; exact HP50.1); clear HP50; replace HO_5 := jA.mk (hp_); replace HB := jA.mk ((by rw [hw]; exact vX (HB.out) GB48.out : Below w.heap.size w w51)); clear hg hw hp_))
            go_roundg kj12
            case measure => have := HK1.out; have := HJ12.out; omega
            case rel => exact ⟨(y326), (ac64 (rd x5_1 x7_1) 0 x6_1), (wrap64 (x7_1 + 1)), sd_, sd_, H', ⟨by have := HK1.out; have := HJ12.out; omega⟩, ⟨(rR_ HO_5)⟩, ⟨(bb_ HB)⟩⟩
           ·
            rw [if_neg c47] at H
            exact absurd H (by simp)
          ·
           rw [if_neg c46] at H
           exact absurd H (by simp)
         ·
          rw [if_neg c45] at H
          exact absurd H (by simp)
      ·
       replace c15 := Bool.eq_false_iff.mpr c15
       subst c15
       replace H := in_ H
       replace H := ob_ H
       obtain ⟨t311, A520, H⟩ := H
       replace H : (some t311) = some r := H
       have A52 := jA.mk A520
       clear A520
       obtain rfl := Option.some.inj H
       obtain ⟨Ao53, co53, eo53⟩ := Kd.jP HO_5.out
       subst eo53
       go_wp2_with (first | ((with_reducible refine jD (f := 110) rfl ?_); refine gl_ (some 56) Try.func110 #[.slice Ao53 x5_1.length co53] ?_; (with_reducible refine (jS.calls kj12 (fun k_ => some k_ = (.slice Ao53 x5_1.length co53 : Value).ownBlock) _ _ x5_1 t311 _ ?side1 A52.out).mono ?_); (case side1 => exact Kd.R_V (Kd.jBS rfl (HO_5.out))); rintro e w54 ⟨v312, rfl, ho0, hb⟩; refine ⟨_, rfl, ?_⟩; have HO313 := jA.mk (Kd.zf (Kd.zF (ok' := fun k_ => (P0_ k_ ∨ w.heap.size ≤ k_)) ho0 (fun k_ hk_ => Or.elim hk_ (fun hs_ => (.inr (((HO_5.out).1 k_ hs_.symm)))) (fun hn_ => (.inr (Nat.le_trans (jB (bb_ HB)) hn_))))) (jB (bb_ HB))); replace HO_5 := ro_ HO_5 hb; replace HB := bs_ HB hb))
       go_ret
       exact ⟨_, ew_, (rV_ HO313), (bb_ HB)⟩
def qC.f (k : Nat) (a0 : Bool) (l1 : List Int) (a2 : Bool) (l3 : List Int) : Option (Bool × List Int) := if (a0 == a2) = true then ((vC.f k l1 l3).bind fun t327 => (some (a0, t327))) else ((vv.f k l1 l3).bind fun t330 => (if t330 < 0 then ((vk.f k l3 l1).bind fun bt331 => (some (a2, bt331.1))) else ((vk.f k l1 l3).bind fun bt335 => (some (a0, bt335.1)))))
theorem qC.mono : ∀ a0 a1 a2 a3 k, LeO (qC.f k a0 a1 a2 a3) (qC.f (k + 1) a0 a1 a2 a3) := by
 intro a0 a1 a2 a3 k
 unfold qC.f
 repeat' first
   | (with_reducible exact vC.mono _ _ _)
   | (with_reducible exact vv.mono _ _ _)
   | (with_reducible exact vk.mono _ _ _)
   | (with_reducible exact LeO.refl _)
   | (with_reducible exact LeO.none _)
   | (with_reducible refine LeO.ite ?_ ?_)
   | (with_reducible refine LeO.bind ?_ (fun _ => ?_))
theorem qC.calls (k : Nat) (a0 : Bool) (P1_ : Nat → Prop) (A1 : Option Addr) (c1 : Nat) (l1 : List Int) (a2 : Bool) (A3 : Option Addr) (c3 : Nat) (l3 : List Int) (r1 : Bool) (r2 : List Int) (w : World) (hs1 : Kd.V (Kd.int .u64) 22 w w.heap.size (fun k_ => P1_ k_) (.slice A1 l1.length c1) l1) (hr3 : Kd.C (Kd.int .u64) w A3 l3.length l3) (hc3 : l3.length ≤ c3) (h : qC.f k a0 l1 a2 l3 = some (r1, r2)) :
  Calls Try.prog 87 #[.bool a0, .slice A1 l1.length c1, .bool a2, .slice A3 l3.length c3] w fun e w' => ∃ v1_ : Value, e = .returned (.tuple #[.bool r1, v1_]) ∧ Kd.V (Kd.int .u64) 22 w' w.heap.size (fun k_ => (P1_ k_ ∨ w.heap.size ≤ k_)) v1_ r2 ∧ Below w.heap.size w w' := by
 have HO1 := jA.mk (show Kd.V (Kd.int .u64) 22 w w.heap.size (fun k_ => (P1_ k_ ∨ w.heap.size ≤ k_)) (.slice A1 l1.length c1) l1 from Kd.zF hs1 (fun k_ hk => .inl hk))
 have HR3 := jA.mk hr3
 have HC3 := jA.mk hc3
 clear hr3 hc3
 have HB := jA.mk (Below.refl w.heap.size w)
 have H : (if (a0 == a2) = true then ((vC.f k l1 l3).bind fun t327 => (some (a0, t327))) else ((vv.f k l1 l3).bind fun t330 => (if t330 < 0 then ((vk.f k l3 l1).bind fun bt331 => (some (a2, bt331.1))) else ((vk.f k l1 l3).bind fun bt335 => (some (a0, bt335.1)))))) = some (r1, r2) := h
 clear h
 by_cases c5 : (a0 == a2) = true
 ·
  rw [if_pos c5] at H
  have c5b0 : (a0 == a2) = true := c5
  (try (have c5b1 : decide (a0 = a2) = true := by simpa using c5))
  (try (have c5b2 : (a0 == a2) = true := by simpa using c5))
  clear c5
  obtain ⟨t327, A6, H⟩ := oc_ H
  try dsimp only at H
  simp only [Option.some.injEq, Prod.mk.injEq] at H
  obtain ⟨rfl, rfl⟩ := H
  go_enter Try.func87, Try.ntmps87
  go_wp2_with (first | ((with_reducible refine jD (f := 108) rfl ?_); refine gl_ (some 19) Try.func108 #[.slice A1 l1.length c1, .slice A3 l3.length c3] ?_; (with_reducible refine (vC.calls k (fun k_ => (P1_ k_ ∨ w.heap.size ≤ k_)) _ _ l1 _ _ l3 t327 _ ?side1 ?side2 ?side3 A6.out).mono ?_); (case side1 => exact HO1.out); (case side2 => exact cc_ HR3.out); (case side3 => exact HC3.out); rintro e w7 ⟨v328, rfl, ho0, hb⟩; refine ⟨_, rfl, ?_⟩; replace HO1 := jA.mk (Kd.jAA (rV_ HO1) hb); have HO329 := jA.mk (Kd.zf (Kd.zF (ok' := fun k_ => (P1_ k_ ∨ w.heap.size ≤ k_)) ho0 (fun k_ hk_ => Or.elim hk_ (fun hs_ => hs_) (fun hn_ => (.inr (Nat.le_trans (jB (bb_ HB)) hn_))))) (jB (bb_ HB))); replace HB := bs_ HB hb))
  go_ret2
  exact ⟨_, ew_, (rV_ HO329), (bb_ HB)⟩
 ·
  rw [if_neg c5] at H
  have c5b0 : (a0 == a2) = false := by simpa using c5
  (try (have c5b1 : decide (a0 = a2) = false := by simpa using c5))
  (try (have c5b2 : (a0 == a2) = false := by simpa using c5))
  (try (have c5b3 : ¬ (a0 = a2) := by simpa using c5))
  clear c5
  obtain ⟨t330, A8, H⟩ := oc_ H
  try dsimp only at H
  by_cases c9 : t330 < 0
  ·
   rw [if_pos c9] at H
   have c9b0 := decide_eq_true c9
   clear c9
   replace H := ob_ H
   obtain ⟨⟨t331, t332⟩, A100, H⟩ := H
   try dsimp only at H
   have A10 := jA.mk A100
   clear A100
   simp only [Option.some.injEq, Prod.mk.injEq] at H
   obtain ⟨rfl, rfl⟩ := H
   go_enter Try.func87, Try.ntmps87
   go_wp2_with (first | ((with_reducible refine jD (f := 98) rfl ?_); refine gl_ (some 23) Try.func98 #[.slice A1 l1.length c1, .slice A3 l3.length c3] ?_; (with_reducible refine (vv.calls k _ _ l1 _ _ l3 t330 _ ?side1 ?side2 ?side3 ?side4 A8.out).mono ?_); (case side1 => repeat (first | exact (Kd.vG HO1.out).2.2 | (with_reducible refine Kd.zR ?_ _) | (with_reducible refine Kd.zV ?_ _) | (with_reducible refine Kd.zw ?_))); (case side2 => exact (Kd.vG HO1.out).2.1); (case side3 => exact cc_ HR3.out); (case side4 => exact HC3.out); rintro e w11 ⟨rfl, hb⟩; refine ⟨_, rfl, ?_⟩; replace HO1 := jA.mk (Kd.jAA (rV_ HO1) hb); replace HB := bs_ HB hb) | ((with_reducible refine jD (f := 109) rfl ?_); refine gl_ (some 31) Try.func109 #[.slice A3 l3.length c3, .slice A1 l1.length c1] ?_; (with_reducible refine (vk.calls k _ _ l3 _ _ l1 t331 t332 _ ?side1 ?side2 ?side3 ?side4 A10.out).mono ?_); (case side1 => exact cb_ HR3 HB); (case side2 => exact HC3.out); (case side3 => repeat (first | exact (Kd.vG HO1.out).2.2 | (with_reducible refine Kd.zR ?_ _) | (with_reducible refine Kd.zV ?_ _) | (with_reducible refine Kd.zw ?_))); (case side4 => exact (Kd.vG HO1.out).2.1); rintro e w12 ⟨v333, rfl, ho0, hb⟩; refine ⟨_, rfl, ?_⟩; replace HO1 := jA.mk (Kd.zx (rV_ HO1) (Kd.jY ho0) hb); have HO334 := jA.mk (Kd.jL (Kd.jBh (M := fun k_ => (w.heap.size ≤ k_)) ho0 (jB (bb_ HB)) (fun k_ h_ => h_)) (jB (bb_ HB))); replace HB := bs_ HB hb))
   go_ret2
   exact ⟨_, ew_, Kd.zF (Kd.R_V (by refine pR_ ?_; exact Kd.jO HO334.out (fun _ hk => hk.1))) (fun k_ hk => by first | exact ⟨(.inr (hk.1)), hk.2⟩ | exact (.inr (hk))), (bb_ HB)⟩
  ·
   rw [if_neg c9] at H
   have c9b0 := decide_eq_false c9
   clear c9
   replace H := ob_ H
   obtain ⟨⟨t335, t336⟩, A130, H⟩ := H
   try dsimp only at H
   have A13 := jA.mk A130
   clear A130
   simp only [Option.some.injEq, Prod.mk.injEq] at H
   obtain ⟨rfl, rfl⟩ := H
   go_enter Try.func87, Try.ntmps87
   go_wp2_with (first | ((with_reducible refine jD (f := 98) rfl ?_); refine gl_ (some 23) Try.func98 #[.slice A1 l1.length c1, .slice A3 l3.length c3] ?_; (with_reducible refine (vv.calls k _ _ l1 _ _ l3 t330 _ ?side1 ?side2 ?side3 ?side4 A8.out).mono ?_); (case side1 => repeat (first | exact (Kd.vG HO1.out).2.2 | (with_reducible refine Kd.zR ?_ _) | (with_reducible refine Kd.zV ?_ _) | (with_reducible refine Kd.zw ?_))); (case side2 => exact (Kd.vG HO1.out).2.1); (case side3 => exact cc_ HR3.out); (case side4 => exact HC3.out); rintro e w14 ⟨rfl, hb⟩; refine ⟨_, rfl, ?_⟩; replace HO1 := jA.mk (Kd.jAA (rV_ HO1) hb); replace HB := bs_ HB hb) | ((with_reducible refine jD (f := 109) rfl ?_); refine gl_ (some 31) Try.func109 #[.slice A1 l1.length c1, .slice A3 l3.length c3] ?_; (with_reducible refine (vk.calls k _ _ l1 _ _ l3 t335 t336 _ ?side1 ?side2 ?side3 ?side4 A13.out).mono ?_); (case side1 => repeat (first | exact (Kd.vG HO1.out).2.2 | (with_reducible refine Kd.zR ?_ _) | (with_reducible refine Kd.zV ?_ _) | (with_reducible refine Kd.zw ?_))); (case side2 => exact (Kd.vG HO1.out).2.1); (case side3 => exact cb_ HR3 HB); (case side4 => exact HC3.out); rintro e w15 ⟨v337, rfl, ho0, hb⟩; refine ⟨_, rfl, ?_⟩; replace HO1 := jA.mk (Kd.zx (rV_ HO1) (Kd.jY ho0) hb); have HO338 := jA.mk (Kd.jL (Kd.jBh (M := fun k_ => (w.heap.size ≤ k_)) ho0 (jB (bb_ HB)) (fun k_ h_ => h_)) (jB (bb_ HB))); replace HB := bs_ HB hb))
   go_ret2
   exact ⟨_, ew_, Kd.zF (Kd.R_V (by refine pR_ ?_; exact Kd.jO HO338.out (fun _ hk => hk.1))) (fun k_ hk => by first | exact ⟨(.inr (hk.1)), hk.2⟩ | exact (.inr (hk))), (bb_ HB)⟩
-- NOT PRINTED: function 123 (slices_IndexFunc_uint64_uint64)
-- NOT PRINTED: function 114 (slices_ContainsFunc_uint64_uint64)
-- NOT PRINTED: function 115 (ratio_big_1)
def zA.idx : List (List Int) → Int → Int
 | [], _ => -1
 | x :: r, i => if 8 < x.length then i else zA.idx r (i + 1)
def zA.any (l0 : List (List Int)) : Bool := decide (0 ≤ zA.idx l0 0)
def zA.f (l0 : List (List Int)) : Option Bool := some (zA.any l0)
set_option maxHeartbeats 4000000 in
theorem zA.one (A0 : Option Addr) (c0 n : Nat) (b : Bool) (w : World) (hb : decide (8 < (n : Int)) = b) (hm : (n : Int) ≤ 9223372036854775807) :
  Calls Try.prog 115 #[.slice A0 n c0] w fun e w' => e = .returned (.bool b) ∧ w = w' := by
 have hb2 : decide (8 < n) = b := by rw [← hb]; exact decide_eq_decide.2 (by omega)
 cases b <;>
 ·
  go_enter Try.func115, Try.ntmps115
  go_wp2
  go_ret
  exact ⟨rfl, rfl⟩
theorem zA.index (A0 : Option Addr) (c0 : Nat) (l0 : List (List Int)) (w : World) (hr0 : Kd.C (Kd.slice 22 (Kd.int .u64)) w A0 l0.length l0) :
  Calls Try.prog 123 #[.slice A0 l0.length c0, .func (.func 115) #[] #[]] w fun e w' => e = .returned (.int .i64 (zA.idx l0 0)) ∧ w = w' := by
 have HR0 := jA.mk hr0
 have hmx : (l0.length : Int) ≤ 9223372036854775807 := by have := hr0.2.1; omega
 clear hr0
 go_enter Try.func123, Try.ntmps123
 go_wp2_with fail
 go_loopg [8] l0.length (fun kq v8 wr => ∃ i : Nat, v8 = .int .i64 i ∧ jA (i + kq = l0.length) ∧ jA (zA.idx (l0.drop i) i = zA.idx l0 0) ∧ w = wr)
 case atStart => exact ⟨0, rfl, ⟨by omega⟩, ⟨rfl⟩, rfl⟩
 case round =>
  obtain ⟨i, rfl, HI, HX, rfl⟩ := hrel
  cases gk with
  | zero =>
   obtain rfl : i = l0.length := by have := HI.out; omega
   have hx := HX.out
   rw [List.drop_length, zA.idx] at hx
   have HX2 := jA.mk hx
   clear HX hx
   go_wp2
   go_ret
   exact ⟨by rw [← HX2.out]; rfl, rfl⟩
  | succ d =>
   have hil : i < l0.length := by have := HI.out; omega
   obtain ⟨ad, cs, e1, hcl, hK, hcs⟩ := Kd.jGf HR0.out [] (i : Int) (by omega) (by omega)
   cases e1
   obtain ⟨Ar, cr, ecs, hrl, hC⟩ := hK
   subst ecs
   rw [Int.toNat_natCast] at hrl hC hcs
   obtain ⟨row, hrow⟩ : ∃ row, l0.getD i [] = row := ⟨_, rfl⟩
   rw [hrow] at hrl hC hcs
   have hcell := hcs 0 _ rfl
   rw [show i * (Kd.slice 22 (Kd.int .u64)).sz + 0 = i from by show i * 1 + 0 = i; omega] at hcell
   have hx := HX.out
   rw [List.drop_eq_getElem_cons hil] at hx
   have hrow2 : l0[i] = row := by rw [← hrow, List.getD_eq_getElem?_getD, List.getElem?_eq_getElem hil]; rfl
   rw [hrow2, zA.idx] at hx
   have hmr : (row.length : Int) ≤ 9223372036854775807 := by have := hC.2.1; omega
   have hil' : (i : Int) < (l0.length : Int) := by omega
   clear hrow hrow2 hcs hcl hC hrl HX
   by_cases hb : 8 < row.length
   ·
    rw [if_pos hb] at hx
    have HX2 := jA.mk hx
    have HBT := jA.mk (show decide (8 < (row.length : Int)) = true from decide_eq_true (by omega))
    clear hx hb
    go_wp2_with fail
    refine (zA.one Ar cr row.length true _ HBT.out hmr).mono ?_
    rintro e w1 ⟨rfl, rfl⟩
    go_wp2
    go_ret
    exact ⟨by rw [← HX2.out]; rfl, rfl⟩
   ·
    rw [if_neg hb] at hx
    have HX2 := jA.mk hx
    have HBT := jA.mk (show decide (8 < (row.length : Int)) = false from decide_eq_false (by omega))
    clear hx hb
    go_wp2_with fail
    refine (zA.one Ar cr row.length false _ HBT.out hmr).mono ?_
    rintro e w1 ⟨rfl, rfl⟩
    go_wp2
    go_roundg d
    case measure => omega
    case rel => exact ⟨i + 1, by go_num, ⟨by have := HI.out; omega⟩, ⟨by have := HX2.out; rw [← this]; congr 1⟩, rfl⟩
theorem zA.calls (A0 : Option Addr) (c0 : Nat) (l0 : List (List Int)) (r : Bool) (w : World) (hr0 : Kd.C (Kd.slice 22 (Kd.int .u64)) w A0 l0.length l0) (hc0 : l0.length ≤ c0) (h : zA.f l0 = some r) :
  Calls Try.prog 89 #[.slice A0 l0.length c0] w fun e w' => e = .returned (.bool r) ∧ zl w w' := by
 obtain rfl := Option.some.inj h
 have HR0 := jA.mk hr0
 clear hr0 hc0 h
 have HC : jA (Calls Try.prog 114 #[.slice A0 l0.length c0, .func (.func 115) #[] #[]] w fun e w' => e = .returned (.bool (zA.any l0)) ∧ w = w') := by
  refine ⟨?_⟩
  unfold zA.any
  have HI := jA.mk (zA.index A0 c0 l0 w HR0.out)
  generalize zA.idx l0 0 = j at HI
  cases hj : decide (0 ≤ j) with
  | true =>
   go_enter Try.func114, Try.ntmps114
   go_wp2_with fail
   refine HI.out.mono ?_
   rintro e w1 ⟨rfl, rfl⟩
   go_wp2
   go_ret
   exact ⟨rfl, rfl⟩
  | false =>
   go_enter Try.func114, Try.ntmps114
   go_wp2_with fail
   refine HI.out.mono ?_
   rintro e w1 ⟨rfl, rfl⟩
   go_wp2
   go_ret
   exact ⟨rfl, rfl⟩
 generalize zA.any l0 = b at HC
 go_enter Try.func89, Try.ntmps89
 go_wp2_with fail
 refine HC.out.mono ?_
 rintro e w1 ⟨rfl, rfl⟩
 go_wp2
 go_ret
 exact ⟨rfl, zl.refl _⟩
def vO.j0 : Nat → Bool → Bool → List Int → List Int → Bool → List Int → List Int → Option (Bool × List Int × List Int × Int)
 | 0, _, _, _, _, _, _, _ => none
 | k + 1, x18, x340000, x340001, x340002, x341000, x341001, x341002 => if x18 = true then (some (false, ([] : List Int), ([] : List Int), 1)) else ((vS.f k x340000 x340001 x340002 x341000 x341001 x341002).bind fun bt344 => ((qC.f k x340000 bt344.1 x341000 bt344.2).bind fun bt350 => ((vE.f k x340002 x341002).bind fun t354 => ((zA.f (([bt344.1, bt344.2, bt350.2, t354] : List (List Int)))).bind fun t360 => (if t360 = true then (some (false, ([] : List Int), ([] : List Int), 21)) else ((zq.f k bt350.1 bt350.2 t354).bind fun bt361 => (some (bt361.1, bt361.2.1, bt361.2.2.1, bt361.2.2.2))))))))
def vO.f (k : Nat) (a0_0 : Bool) (l0_1 : List Int) (l0_2 : List Int) (a1_0 : Bool) (l1_1 : List Int) (l1_2 : List Int) : Option (Bool × List Int × List Int × Int) := (qK.f k a0_0 l0_1 l0_2).bind fun t342 => (if t342 = true then ((qK.f k a1_0 l1_1 l1_2).bind fun t343 => (vO.j0 k (!t343) a0_0 l0_1 l0_2 a1_0 l1_1 l1_2)) else (vO.j0 k true a0_0 l0_1 l0_2 a1_0 l1_1 l1_2))
theorem vO.vQ : ∀ k, (∀ y0 y1 y2 y3 y4 y5 y6, LeO (vO.j0 k y0 y1 y2 y3 y4 y5 y6) (vO.j0 (k + 1) y0 y1 y2 y3 y4 y5 y6))
 | 0 => fun _ _ _ _ _ _ _ r h => by simp [vO.j0] at h
 | k + 1 => by
  have ih0 := vO.vQ k
  ·
   intro y0 y1 y2 y3 y4 y5 y6
   unfold vO.j0
   repeat' first
   | (with_reducible exact ih0 _ _ _ _ _ _ _)
   | (with_reducible exact vE.mono _ _ _)
   | (with_reducible exact zq.mono _ _ _ _)
   | (with_reducible exact qK.mono _ _ _ _)
   | (with_reducible exact vS.mono _ _ _ _ _ _ _)
   | (with_reducible exact qC.mono _ _ _ _ _)
   | (with_reducible exact LeO.refl _)
   | (with_reducible exact LeO.none _)
   | (with_reducible refine LeO.ite ?_ ?_)
   | (with_reducible refine LeO.bind ?_ (fun _ => ?_))
theorem vO.mono : ∀ a0 a1 a2 a3 a4 a5 k, LeO (vO.f k a0 a1 a2 a3 a4 a5) (vO.f (k + 1) a0 a1 a2 a3 a4 a5) := by
 intro a0 a1 a2 a3 a4 a5 k
 have ih0 := vO.vQ k
 unfold vO.f
 repeat' first
   | (with_reducible exact ih0 _ _ _ _ _ _ _)
   | (with_reducible exact vE.mono _ _ _)
   | (with_reducible exact zq.mono _ _ _ _)
   | (with_reducible exact qK.mono _ _ _ _)
   | (with_reducible exact vS.mono _ _ _ _ _ _ _)
   | (with_reducible exact qC.mono _ _ _ _ _)
   | (with_reducible exact LeO.refl _)
   | (with_reducible exact LeO.none _)
   | (with_reducible refine LeO.ite ?_ ?_)
   | (with_reducible refine LeO.bind ?_ (fun _ => ?_))
theorem vO.calls (k : Nat) (a0_0 : Bool) (A0_1 : Option Addr) (c0_1 : Nat) (l0_1 : List Int) (A0_2 : Option Addr) (c0_2 : Nat) (l0_2 : List Int) (a1_0 : Bool) (A1_1 : Option Addr) (c1_1 : Nat) (l1_1 : List Int) (A1_2 : Option Addr) (c1_2 : Nat) (l1_2 : List Int) (r1 : Bool) (r2 : List Int) (r3 : List Int) (r4 : Int) (w : World) (hr0_1 : Kd.C (Kd.int .u64) w A0_1 l0_1.length l0_1) (hc0_1 : l0_1.length ≤ c0_1) (hr0_2 : Kd.C (Kd.int .u64) w A0_2 l0_2.length l0_2) (hc0_2 : l0_2.length ≤ c0_2) (hr1_1 : Kd.C (Kd.int .u64) w A1_1 l1_1.length l1_1) (hc1_1 : l1_1.length ≤ c1_1) (hr1_2 : Kd.C (Kd.int .u64) w A1_2 l1_2.length l1_2) (hc1_2 : l1_2.length ≤ c1_2) (h : vO.f k a0_0 l0_1 l0_2 a1_0 l1_1 l1_2 = some (r1, r2, r3, r4)) :
  Calls Try.prog 49 #[.agg #[.bool a0_0, .slice A0_1 l0_1.length c0_1, .slice A0_2 l0_2.length c0_2], .agg #[.bool a1_0, .slice A1_1 l1_1.length c1_1, .slice A1_2 l1_2.length c1_2]] w fun e w' => ∃ v1_ v2_ : Value, e = .returned (.tuple #[.agg #[.bool r1, v1_, v2_], .int .i64 r4]) ∧ Kd.R (Kd.int .u64) 22 w' w.heap.size (fun k_ => some k_ ≠ (v2_ : Value).ownBlock) v1_ r2 ∧ Kd.R (Kd.int .u64) 22 w' w.heap.size (fun k_ => some k_ ≠ (v1_ : Value).ownBlock) v2_ r3 ∧ Below w.heap.size w w' := by
 have hu44 := Try.underlying44
 have HR0_1 := jA.mk hr0_1
 have HC0_1 := jA.mk hc0_1
 clear hr0_1 hc0_1
 have HR0_2 := jA.mk hr0_2
 have HC0_2 := jA.mk hc0_2
 clear hr0_2 hc0_2
 have HR1_1 := jA.mk hr1_1
 have HC1_1 := jA.mk hc1_1
 clear hr1_1 hc1_1
 have HR1_2 := jA.mk hr1_2
 have HC1_2 := jA.mk hc1_2
 clear hr1_2 hc1_2
 have HB := jA.mk (Below.refl w.heap.size w)
 have H : ((qK.f k a0_0 l0_1 l0_2).bind fun t342 => (if t342 = true then ((qK.f k a1_0 l1_1 l1_2).bind fun t343 => (vO.j0 k (!t343) a0_0 l0_1 l0_2 a1_0 l1_1 l1_2)) else (vO.j0 k true a0_0 l0_1 l0_2 a1_0 l1_1 l1_2))) = some (r1, r2, r3, r4) := h
 clear h
 have HC3 := jA.mk H
 clear H
 go_enter Try.func49, Try.ntmps49
 go_upto_region 1 with (first | ((with_reducible refine jW (N := 2) rfl ?_); refine bx_ 2 #[.bool a0_0, .slice A0_1 l0_1.length c0_1, .slice A0_2 l0_2.length c0_2] 44 ?_; intro gb339 hg w4 hbox hb; have BK339 := jA.mk (hbox); have GW339 := jA.mk ((by rw [hg]; exact (jB (bb_ HB)) : w.heap.size ≤ gb339)); have GE339 := GW339; replace HB := bs_ HB hb; clear hb hbox hg) | ((with_reducible refine jW (N := 3) rfl ?_); refine bx_ 3 #[.bool a1_0, .slice A1_1 l1_1.length c1_1, .slice A1_2 l1_2.length c1_2] 44 ?_; intro gb340 hg w5 hbox hb; have BK340 := jA.mk (hbox); have GW340 := jA.mk ((by rw [hg]; exact (jB (bb1_ HB GE339)) : w.heap.size ≤ gb340)); have GE340 := GW340; replace HB := jA.mk (jJ (bb1_ HB GE339) hb); have NB339_340 := jA.mk ((by rw [hg]; exact nlt_ BK339 : gb339 ≠ gb340)); have NB340_339 := jA.mk ((by rw [hg]; exact ngt_ BK339 : gb340 ≠ gb339)); replace BK339 := bk_ BK339 hb; clear hb hbox hg) | ((with_reducible refine jW (N := 4) rfl ?_); refine bx_ 4 #[.bool false, .slice none 0 0, .slice none 0 0] 44 ?_; intro gb341 hg w6 hbox hb; have BK341 := jA.mk (hbox); have GW341 := jA.mk ((by rw [hg]; exact (jB (bb2_ HB GE339 GE340)) : w.heap.size ≤ gb341)); have GE341 := GW341; replace HB := jA.mk (jJ (bb2_ HB GE339 GE340) hb); have NB339_341 := jA.mk ((by rw [hg]; exact nlt_ BK339 : gb339 ≠ gb341)); have NB341_339 := jA.mk ((by rw [hg]; exact ngt_ BK339 : gb341 ≠ gb339)); replace BK339 := bk_ BK339 hb; have NB340_341 := jA.mk ((by rw [hg]; exact nlt_ BK340 : gb340 ≠ gb341)); have NB341_340 := jA.mk ((by rw [hg]; exact ngt_ BK340 : gb341 ≠ gb340)); replace BK340 := bk_ BK340 hb; clear hb hbox hg))
 (try simp only [Act.put, ss_])
 go_cut [18] (fun v18 wc => ∃ (kq : Nat) (x18_2 : Bool), v18 = .bool x18_2 ∧ jA (vO.j0 kq x18_2 a0_0 l0_1 l0_2 a1_0 l1_1 l1_2 = some (r1, r2, r3, r4)) ∧ jA (kq ≤ k) ∧ jA (wc.heap[gb339]? = some (.cells #[.bool a0_0, (.slice A0_1 l0_1.length c0_1), (.slice A0_2 l0_2.length c0_2)] 44 (0, 0))) ∧ jA (wc.heap[gb340]? = some (.cells #[.bool a1_0, (.slice A1_1 l1_1.length c1_1), (.slice A1_2 l1_2.length c1_2)] 44 (0, 0))) ∧ jA (wc.heap[gb341]? = some (.cells #[.bool false, (.slice none 0 0), (.slice none 0 0)] 44 (0, 0))) ∧ jA (Below w.heap.size w wc))
 case first =>
  have H := HC3.out
  clear HC3
  obtain ⟨t342, A7, H⟩ := oc_ H
  try dsimp only at H
  by_cases c8 : t342 = true
  ·
   subst c8
   replace H := ip_ H
   obtain ⟨t343, A9, H⟩ := oc_ H
   try dsimp only at H
   have H' := jA.mk H
   clear H
   have hnb10 := NB339_340.out
   have hnc10 := NB340_339.out
   have hnb11 := NB339_341.out
   have hnc11 := NB341_339.out
   have hcz12_0 : w6.cell? ⟨gb339, 0, none⟩ = some (.bool a0_0) := (jI BK339.out 0).trans rfl
   have hcz12_1 : w6.cell? ⟨gb339, 1, none⟩ = some (.slice A0_1 l0_1.length c0_1) := (jI BK339.out 1).trans rfl
   have hcz12_2 : w6.cell? ⟨gb339, 2, none⟩ = some (.slice A0_2 l0_2.length c0_2) := (jI BK339.out 2).trans rfl
   have hfz12_0 := jK BK339.out 0
   have hfz12_1 := jK BK339.out 1
   have hfz12_2 := jK BK339.out 2
   go_wp2_with (first | ((with_reducible refine jD (f := 27) rfl ?_); refine gl_ (some 12) Try.func27 #[.agg #[.bool a0_0, .slice A0_1 l0_1.length c0_1, .slice A0_2 l0_2.length c0_2]] ?_; (with_reducible refine (qK.calls k a0_0 _ _ l0_1 _ _ l0_2 true _ ?side1 ?side2 ?side3 ?side4 A7.out).mono ?_); (case side1 => exact cb_ HR0_1 HB); (case side2 => exact HC0_1.out); (case side3 => exact cb_ HR0_2 HB); (case side4 => exact HC0_2.out); rintro e w13 ⟨rfl, hb⟩; refine ⟨_, rfl, ?_⟩; replace BK339 := bk_ BK339 hb; replace BK340 := bk_ BK340 hb; replace BK341 := bk_ BK341 hb; replace HB := jA.mk (jJ (bb3_ HB GE339 GE340 GE341) hb); have hnb14 := NB340_341.out; have hnc14 := NB341_340.out; obtain ⟨hcz15_0, hcz15_1, hcz15_2, hfz15_0, hfz15_1, hfz15_2⟩ := bf3_ BK340) | (go_at_call 27; (with_reducible refine (qK.calls k a1_0 _ _ l1_1 _ _ l1_2 t343 _ ?side1 ?side2 ?side3 ?side4 A9.out).mono ?_); (case side1 => exact cb_ HR1_1 HB); (case side2 => exact HC1_1.out); (case side3 => exact cb_ HR1_2 HB); (case side4 => exact HC1_2.out); rintro e w16 ⟨rfl, hb⟩; replace BK339 := bk_ BK339 hb; replace BK340 := bk_ BK340 hb; replace BK341 := bk_ BK341 hb; replace HB := jA.mk (jJ (bb3_ HB GE339 GE340 GE341) hb)))
   go_meet
   case rel => exact ⟨_, (!t343), sd_, H', ⟨by first | omega | exact Nat.le_refl _⟩, ⟨by (with_reducible repeat (first | refine zU ?_ _ | refine vN ?_ | refine vT ?_ _)); exact BK339.out⟩, ⟨by (with_reducible repeat (first | refine zU ?_ _ | refine vN ?_ | refine vT ?_ _)); exact BK340.out⟩, ⟨by (with_reducible repeat (first | refine zU ?_ _ | refine vN ?_ | refine vT ?_ _)); exact BK341.out⟩, ⟨(bb3_ HB GE339 GE340 GE341)⟩⟩
  ·
   replace c8 := Bool.eq_false_iff.mpr c8
   subst c8
   replace H := in_ H
   have H' := jA.mk H
   clear H
   have hnb17 := NB339_340.out
   have hnc17 := NB340_339.out
   have hnb18 := NB339_341.out
   have hnc18 := NB341_339.out
   have hcz19_0 : w6.cell? ⟨gb339, 0, none⟩ = some (.bool a0_0) := (jI BK339.out 0).trans rfl
   have hcz19_1 : w6.cell? ⟨gb339, 1, none⟩ = some (.slice A0_1 l0_1.length c0_1) := (jI BK339.out 1).trans rfl
   have hcz19_2 : w6.cell? ⟨gb339, 2, none⟩ = some (.slice A0_2 l0_2.length c0_2) := (jI BK339.out 2).trans rfl
   have hfz19_0 := jK BK339.out 0
   have hfz19_1 := jK BK339.out 1
   have hfz19_2 := jK BK339.out 2
   go_wp2_with (first | ((with_reducible refine jD (f := 27) rfl ?_); refine gl_ (some 12) Try.func27 #[.agg #[.bool a0_0, .slice A0_1 l0_1.length c0_1, .slice A0_2 l0_2.length c0_2]] ?_; (with_reducible refine (qK.calls k a0_0 _ _ l0_1 _ _ l0_2 false _ ?side1 ?side2 ?side3 ?side4 A7.out).mono ?_); (case side1 => exact cb_ HR0_1 HB); (case side2 => exact HC0_1.out); (case side3 => exact cb_ HR0_2 HB); (case side4 => exact HC0_2.out); rintro e w20 ⟨rfl, hb⟩; refine ⟨_, rfl, ?_⟩; replace BK339 := bk_ BK339 hb; replace BK340 := bk_ BK340 hb; replace BK341 := bk_ BK341 hb; replace HB := jA.mk (jJ (bb3_ HB GE339 GE340 GE341) hb)))
   go_meet
   case rel => exact ⟨_, (true), sd_, H', ⟨by first | omega | exact Nat.le_refl _⟩, ⟨by (with_reducible repeat (first | refine zU ?_ _ | refine vN ?_ | refine vT ?_ _)); exact BK339.out⟩, ⟨by (with_reducible repeat (first | refine zU ?_ _ | refine vN ?_ | refine vT ?_ _)); exact BK340.out⟩, ⟨by (with_reducible repeat (first | refine zU ?_ _ | refine vN ?_ | refine vT ?_ _)); exact BK341.out⟩, ⟨(bb3_ HB GE339 GE340 GE341)⟩⟩
 case rest =>
  clear HC3
  try clear c1
  try clear c2
  try clear p2
  try clear c4
  try clear c8
  try clear c10
  try clear c11
  try clear c14
  try clear c17
  try clear c18
  try clear hcz12_0
  try clear hcz12_1
  try clear hcz12_2
  try clear hcz15_0
  try clear hcz15_1
  try clear hcz15_2
  try clear hcz19_0
  try clear hcz19_1
  try clear hcz19_2
  try clear hfz12_0
  try clear hfz12_1
  try clear hfz12_2
  try clear hfz15_0
  try clear hfz15_1
  try clear hfz15_2
  try clear hfz19_0
  try clear hfz19_1
  try clear hfz19_2
  obtain ⟨kq, x18_2, rfl, HA, HJ2, BK339, BK340, BK341, HB⟩ := hcut
  cases kq with
  | zero => exact absurd HA.out (by simp [vO.j0])
  | succ kj2 =>
   have H := HA.out
   clear HA
   simp only [vO.j0] at H
   by_cases c21 : x18_2 = true
   ·
    subst c21
    replace H := ip_ H
    simp only [Option.some.injEq, Prod.mk.injEq] at H
    obtain ⟨rfl, rfl, rfl, rfl⟩ := H
    have hnb22 := NB341_339.out
    have hnc22 := NB339_341.out
    have hnb23 := NB341_340.out
    have hnc23 := NB340_341.out
    have hcz24_0 : wc.cell? ⟨gb341, 0, none⟩ = some (.bool false) := (jI BK341.out 0).trans rfl
    have hcz24_1 : wc.cell? ⟨gb341, 1, none⟩ = some (.slice none 0 0) := (jI BK341.out 1).trans rfl
    have hcz24_2 : wc.cell? ⟨gb341, 2, none⟩ = some (.slice none 0 0) := (jI BK341.out 2).trans rfl
    have hfz24_0 := jK BK341.out 0
    have hfz24_1 := jK BK341.out 1
    have hfz24_2 := jK BK341.out 2
    go_wp2
    refine bodyPost_ret (za rfl _ _ gb341 44 #[.bool false, .slice none 0 0, .slice none 0 0] (0, 0) _ rfl (by refine pk_ ?_; refine jc (cs := #[.bool false, .slice none 0 0, .slice none 0 0]) ?_ 2 _ rs_; refine pk_ ?_; refine jc (cs := #[.bool false, .slice none 0 0, .slice none 0 0]) ?_ 1 _ rs_; refine pk_ ?_; refine jc (cs := #[.bool false, .slice none 0 0, .slice none 0 0]) ?_ 0 _ rs_; refine pk_ ?_; exact BK341.out) Try.underlying44 rfl kr_) rfl ?_
    exact ⟨_, _, ew_, nl_, nl_, (bb3_ HB GE339 GE340 GE341)⟩
   ·
    replace c21 := Bool.eq_false_iff.mpr c21
    subst c21
    replace H := in_ H
    replace H := ob_ H
    obtain ⟨⟨t344, t347⟩, A250, H⟩ := H
    try dsimp only at H
    have A25 := jA.mk A250
    clear A250
    replace H := ob_ H
    obtain ⟨⟨t350, t351⟩, A260, H⟩ := H
    try dsimp only at H
    have A26 := jA.mk A260
    clear A260
    obtain ⟨t354, A27, H⟩ := oc_ H
    try dsimp only at H
    obtain ⟨y357, hy357⟩ : ∃ y_ : List (List Int), y_ = (([t344, t347, t351, t354] : List (List Int))) := ⟨_, rfl⟩
    replace H : ((zA.f y357).bind fun t360 => (if t360 = true then (some (false, ([] : List Int), ([] : List Int), 21)) else ((zq.f kj2 t350 t351 t354).bind fun bt361 => (some (bt361.1, bt361.2.1, bt361.2.2.1, bt361.2.2.2))))) = some (r1, r2, r3, r4) := by first | (rw [hy357]; with_reducible exact H) | (have H2_ := (Option.bind_some _ _).symm.trans H; rw [hy357]; with_reducible exact H2_) | (with_reducible exact hs_ H) | with_reducible exact H | (rw [hy357]; exact H) | exact H
    have Ny357 := jA.mk hy357
    clear hy357
    obtain ⟨t360, A28, H⟩ := oc_ H
    try dsimp only at H
    by_cases c29 : t360 = true
    ·
     subst c29
     replace H := ip_ H
     simp only [Option.some.injEq, Prod.mk.injEq] at H
     obtain ⟨rfl, rfl, rfl, rfl⟩ := H
     have hnb30 := NB339_340.out
     have hnc30 := NB340_339.out
     have hnb31 := NB339_341.out
     have hnc31 := NB341_339.out
     have hcz32_0 : wc.cell? ⟨gb339, 0, none⟩ = some (.bool a0_0) := (jI BK339.out 0).trans rfl
     have hcz32_1 : wc.cell? ⟨gb339, 1, none⟩ = some (.slice A0_1 l0_1.length c0_1) := (jI BK339.out 1).trans rfl
     have hcz32_2 : wc.cell? ⟨gb339, 2, none⟩ = some (.slice A0_2 l0_2.length c0_2) := (jI BK339.out 2).trans rfl
     have hfz32_0 := jK BK339.out 0
     have hfz32_1 := jK BK339.out 1
     have hfz32_2 := jK BK339.out 2
     have hnb33 := NB340_341.out
     have hnc33 := NB341_340.out
     have hcz34_0 : wc.cell? ⟨gb340, 0, none⟩ = some (.bool a1_0) := (jI BK340.out 0).trans rfl
     have hcz34_1 : wc.cell? ⟨gb340, 1, none⟩ = some (.slice A1_1 l1_1.length c1_1) := (jI BK340.out 1).trans rfl
     have hcz34_2 : wc.cell? ⟨gb340, 2, none⟩ = some (.slice A1_2 l1_2.length c1_2) := (jI BK340.out 2).trans rfl
     have hfz34_0 := jK BK340.out 0
     have hfz34_1 := jK BK340.out 1
     have hfz34_2 := jK BK340.out 2
     go_wp2_with (first | ((with_reducible refine jD (f := 86) rfl ?_); refine gl_ (some 23) Try.func86 #[.agg #[.bool a0_0, .slice A0_1 l0_1.length c0_1, .slice A0_2 l0_2.length c0_2], .agg #[.bool a1_0, .slice A1_1 l1_1.length c1_1, .slice A1_2 l1_2.length c1_2]] ?_; (with_reducible refine (vS.calls kj2 a0_0 _ _ l0_1 _ _ l0_2 a1_0 _ _ l1_1 _ _ l1_2 t344 t347 _ ?side1 ?side2 ?side3 ?side4 ?side5 ?side6 ?side7 ?side8 A25.out).mono ?_); (case side1 => exact cb_ HR0_1 HB); (case side2 => exact HC0_1.out); (case side3 => exact cb_ HR0_2 HB); (case side4 => exact HC0_2.out); (case side5 => exact cb_ HR1_1 HB); (case side6 => exact HC1_1.out); (case side7 => exact cb_ HR1_2 HB); (case side8 => exact HC1_2.out); rintro e w35 ⟨v345, v348, rfl, ho0, ho1, hb⟩; refine ⟨_, rfl, ?_⟩; have HO346 := jA.mk (Kd.jL ho0 (jB (bb3_ HB GE339 GE340 GE341))); have HO349 := jA.mk (Kd.jL ho1 (jB (bb3_ HB GE339 GE340 GE341))); replace BK339 := bk_ BK339 hb; replace BK340 := bk_ BK340 hb; replace BK341 := bk_ BK341 hb; replace HB := jA.mk (jJ (bb3_ HB GE339 GE340 GE341) hb); obtain ⟨hcz36_0, hcz36_1, hcz36_2, hfz36_0, hfz36_1, hfz36_2⟩ := bf3_ BK339; obtain ⟨hcz37_0, hcz37_1, hcz37_2, hfz37_0, hfz37_1, hfz37_2⟩ := bf3_ BK340; obtain ⟨Ao38, co38, rfl⟩ := Kd.jP HO346.out; obtain ⟨Ao39, co39, rfl⟩ := Kd.jP HO349.out) | ((with_reducible refine jD (f := 87) rfl ?_); refine gl_ (some 33) Try.func87 #[.bool a0_0, .slice Ao38 t344.length co38, .bool a1_0, .slice Ao39 t347.length co39] ?_; (with_reducible refine (qC.calls kj2 a0_0 (fun k_ => some k_ = (.slice Ao38 t344.length co38 : Value).ownBlock) _ _ t344 a1_0 _ _ t347 t350 t351 _ ?side1 ?side2 ?side3 A26.out).mono ?_); (case side1 => exact Kd.R_V (Kd.jBS rfl (Kd.jm (Kd.jm (Kd.jm (HO346.out) BK339.out (by decide)) BK340.out (by decide)) BK341.out (by decide)))); (case side2 => exact cc_ (Kd.jC HO349.out).2.2); (case side3 => exact (Kd.jC HO349.out).2.1); rintro e w40 ⟨v352, rfl, ho0, hb⟩; refine ⟨_, rfl, ?_⟩; have HO353 := jA.mk (Kd.zf (Kd.zF (ok' := fun k_ => some k_ ≠ (.slice Ao39 t347.length co39 : Value).ownBlock ∧ k_ ≠ gb339 ∧ k_ ≠ gb340 ∧ k_ ≠ gb341) ho0 (fun k_ hk_ => ⟨Or.elim hk_ (fun hs_ => ((Kd.jm (Kd.jm (Kd.jm (HO346.out) BK339.out (by decide)) BK340.out (by decide)) BK341.out (by decide)).1 k_ hs_.symm).1.1.1) (fun hn_ => (Kd.fresh' (Kd.R_lt (rR_ HO349)) k_ hn_)), Or.elim hk_ (fun hs_ => ((Kd.jm (Kd.jm (Kd.jm (HO346.out) BK339.out (by decide)) BK340.out (by decide)) BK341.out (by decide)).1 k_ hs_.symm).1.1.2) (fun hn_ => (Kd.jAQ (g := gb339) (o := .cells #[.bool a0_0, .slice A0_1 l0_1.length c0_1, .slice A0_2 l0_2.length c0_2] 44 (0, 0)) (kb_ BK339) k_ hn_)), Or.elim hk_ (fun hs_ => ((Kd.jm (Kd.jm (Kd.jm (HO346.out) BK339.out (by decide)) BK340.out (by decide)) BK341.out (by decide)).1 k_ hs_.symm).1.2) (fun hn_ => (Kd.jAQ (g := gb340) (o := .cells #[.bool a1_0, .slice A1_1 l1_1.length c1_1, .slice A1_2 l1_2.length c1_2] 44 (0, 0)) (kb_ BK340) k_ hn_)), Or.elim hk_ (fun hs_ => ((Kd.jm (Kd.jm (Kd.jm (HO346.out) BK339.out (by decide)) BK340.out (by decide)) BK341.out (by decide)).1 k_ hs_.symm).2) (fun hn_ => (Kd.jAQ (g := gb341) (o := .cells #[.bool false, .slice none 0 0, .slice none 0 0] 44 (0, 0)) (kb_ BK341) k_ hn_))⟩)) (jB (bb3_ HB GE339 GE340 GE341))); replace HO346 := ro_ HO346 hb; replace HO349 := ro_ HO349 hb; replace BK339 := bk_ BK339 hb; replace BK340 := bk_ BK340 hb; replace BK341 := bk_ BK341 hb; replace HB := jA.mk (jJ (bb3_ HB GE339 GE340 GE341) hb); obtain ⟨hcz41_0, hcz41_1, hcz41_2, hfz41_0, hfz41_1, hfz41_2⟩ := bf3_ BK339; obtain ⟨hcz42_0, hcz42_1, hcz42_2, hfz42_0, hfz42_1, hfz42_2⟩ := bf3_ BK340) | ((with_reducible refine jD (f := 88) rfl ?_); refine gl_ (some 40) Try.func88 #[.slice A0_2 l0_2.length c0_2, .slice A1_2 l1_2.length c1_2] ?_; (with_reducible refine (vE.calls kj2 _ _ l0_2 _ _ l1_2 t354 _ ?side1 ?side2 ?side3 ?side4 A27.out).mono ?_); (case side1 => exact cb_ HR0_2 HB); (case side2 => exact HC0_2.out); (case side3 => exact cb_ HR1_2 HB); (case side4 => exact HC1_2.out); rintro e w43 ⟨v355, rfl, ho0, hb⟩; refine ⟨_, rfl, ?_⟩; replace HO353 := jA.mk (Kd.zx (rV_ HO353) (Kd.jY ho0) hb); have HO356 := jA.mk (Kd.jL (Kd.jG (Kd.jG ho0 (Kd.R_lt (rR_ HO346))) (Kd.R_lt (rR_ HO349))) (jB (bb3_ HB GE339 GE340 GE341))); replace HO346 := re_ HO346 ho0 hb; replace HO349 := re_ HO349 ho0 hb; replace BK339 := bk_ BK339 hb; replace BK340 := bk_ BK340 hb; replace BK341 := bk_ BK341 hb; replace HB := jA.mk (jJ (bb3_ HB GE339 GE340 GE341) hb); obtain ⟨Ao44, co44, rfl⟩ := Kd.zX HO353.out; obtain ⟨Ao45, co45, rfl⟩ := Kd.jP HO356.out) | ((with_reducible refine jW (N := 45) rfl ?_); refine Kd.jJw (Kd.slice 22 (Kd.int .u64)) _ 35 ?hg (N' := 45) ?hd (xs := ([t344, t347, t351, t354] : List (List Int))) (inner := [.slice Ao38 t344.length co38, .slice Ao39 t347.length co39, .slice Ao44 t351.length co44, .slice Ao45 t354.length co45]) (ok := (fun k_ => k_ ≠ gb339 ∧ k_ ≠ gb340 ∧ k_ ≠ gb341)) (okp := (fun k_ => k_ ≠ gb339 ∧ k_ ≠ gb340 ∧ k_ ≠ gb341)) ?hr ?hp (fun _ hk => hk) ((show ∀ k_, w43.heap.size ≤ k_ → (fun k_ => k_ ≠ gb339 ∧ k_ ≠ gb340 ∧ k_ ≠ gb341) k_ from fun k_ hk => ⟨Kd.jAQ (g := gb339) (o := .cells #[.bool a0_0, .slice A0_1 l0_1.length c0_1, .slice A0_2 l0_2.length c0_2] 44 (0, 0)) (kb_ BK339) k_ hk, Kd.jAQ (g := gb340) (o := .cells #[.bool a1_0, .slice A1_1 l1_1.length c1_1, .slice A1_2 l1_2.length c1_2] 44 (0, 0)) (kb_ BK340) k_ hk, Kd.jAQ (g := gb341) (o := .cells #[.bool false, .slice none 0 0, .slice none 0 0] 44 (0, 0)) (kb_ BK341) k_ hk⟩) _ (Nat.le_refl _)) (Below.refl _ _) (Nat.le_refl _) (by simp) ?_; (case hd => rfl); (case hg => rfl); (case hr => exact gs_); (case hp => exact (Reps.one (show Kd.FK (Kd.slice 22 (Kd.int .u64)) _ _ t344 [.slice Ao38 t344.length co38] from (Kd.jAF (Kd.jC (Kd.jO (ok' := (fun k_ => k_ ≠ gb339 ∧ k_ ≠ gb340 ∧ k_ ≠ gb341)) (Kd.jm (Kd.jm (Kd.jm (HO346.out) BK339.out (by decide)) BK340.out (by decide)) BK341.out (by decide)) (fun k_ hk => ⟨hk.1.1.2, ⟨hk.1.2, hk.2⟩⟩))).2.1 (Kd.R_F (Kd.jO (ok' := (fun k_ => k_ ≠ gb339 ∧ k_ ≠ gb340 ∧ k_ ≠ gb341)) (Kd.jm (Kd.jm (Kd.jm (HO346.out) BK339.out (by decide)) BK340.out (by decide)) BK341.out (by decide)) (fun k_ hk => ⟨hk.1.1.2, ⟨hk.1.2, hk.2⟩⟩))))) (Reps.one (show Kd.FK (Kd.slice 22 (Kd.int .u64)) _ _ t347 [.slice Ao39 t347.length co39] from (Kd.jAF (Kd.jC (Kd.jO (ok' := (fun k_ => k_ ≠ gb339 ∧ k_ ≠ gb340 ∧ k_ ≠ gb341)) (Kd.jm (Kd.jm (Kd.jm (HO349.out) BK339.out (by decide)) BK340.out (by decide)) BK341.out (by decide)) (fun k_ hk => ⟨hk.1.1.2, ⟨hk.1.2, hk.2⟩⟩))).2.1 (Kd.R_F (Kd.jO (ok' := (fun k_ => k_ ≠ gb339 ∧ k_ ≠ gb340 ∧ k_ ≠ gb341)) (Kd.jm (Kd.jm (Kd.jm (HO349.out) BK339.out (by decide)) BK340.out (by decide)) BK341.out (by decide)) (fun k_ hk => ⟨hk.1.1.2, ⟨hk.1.2, hk.2⟩⟩))))) (Reps.one (show Kd.FK (Kd.slice 22 (Kd.int .u64)) _ _ t351 [.slice Ao44 t351.length co44] from (Kd.jAF (Kd.vG (Kd.zF (ok' := (fun k_ => k_ ≠ gb339 ∧ k_ ≠ gb340 ∧ k_ ≠ gb341)) (HO353.out) (fun k_ hk => ⟨hk.1.2.1, ⟨hk.1.2.2.1, hk.1.2.2.2⟩⟩))).2.1 (Kd.V_F (Kd.zF (ok' := (fun k_ => k_ ≠ gb339 ∧ k_ ≠ gb340 ∧ k_ ≠ gb341)) (HO353.out) (fun k_ hk => ⟨hk.1.2.1, ⟨hk.1.2.2.1, hk.1.2.2.2⟩⟩))))) (Reps.one (show Kd.FK (Kd.slice 22 (Kd.int .u64)) _ _ t354 [.slice Ao45 t354.length co45] from (Kd.jAF (Kd.jC (Kd.jO (ok' := (fun k_ => k_ ≠ gb339 ∧ k_ ≠ gb340 ∧ k_ ≠ gb341)) (Kd.jm (Kd.jm (Kd.jm (HO356.out) BK339.out (by decide)) BK340.out (by decide)) BK341.out (by decide)) (fun k_ hk => ⟨hk.1.1.2, ⟨hk.1.2, hk.2⟩⟩))).2.1 (Kd.R_F (Kd.jO (ok' := (fun k_ => k_ ≠ gb339 ∧ k_ ≠ gb340 ∧ k_ ≠ gb341)) (Kd.jm (Kd.jm (Kd.jm (HO356.out) BK339.out (by decide)) BK340.out (by decide)) BK341.out (by decide)) (fun k_ hk => ⟨hk.1.1.2, ⟨hk.1.2, hk.2⟩⟩))))) (Reps.none _ _)))))); intro v358 w46 ho47 hb hg_ hnew_; clear hg_ hnew_; (first | rw [← Ny357.out] at ho47 | (simp only [Int.reduceToNat] at ho47; rw [← Ny357.out] at ho47)); replace HO353 := jA.mk (Kd.zx (rV_ HO353) (Kd.jGc ho47) hb); have HO359 := jA.mk (Kd.jGb ho47 (jB (bb3_ HB GE339 GE340 GE341))); replace BK339 := bk_ BK339 hb; replace BK340 := bk_ BK340 hb; replace BK341 := bk_ BK341 hb; replace HB := jA.mk (jJ (bb3_ HB GE339 GE340 GE341) hb); clear HO346 HO349 HO356 hb ho47; obtain ⟨Ao48, co48, rfl⟩ := Kd.jGa HO359.out) | ((with_reducible refine jD (f := 89) rfl ?_); refine gl_ (some 46) Try.func89 #[.slice Ao48 y357.length co48] ?_; (with_reducible refine (zA.calls _ _ y357 true _ ?side1 ?side2 A28.out).mono ?_); (case side1 => repeat (first | exact (Kd.jCF HO359.out).2.2 | (with_reducible refine Kd.zR ?_ _) | (with_reducible refine Kd.zV ?_ _) | (with_reducible refine Kd.zw ?_))); (case side2 => exact (Kd.jCF HO359.out).2.1); rintro e w' ⟨rfl, ⟨nd, rfl⟩⟩; refine ⟨_, rfl, ?_⟩; (try (rw [jAH w46]; generalize hq_ : World.drewN w46 _ = w46; replace HO353 : jA (Kd.V (Kd.int .u64) 22 w46 w.heap.size (fun k_ => some k_ ≠ (.slice Ao48 y357.length co48 : Value).ownBlock ∧ k_ ≠ gb339 ∧ k_ ≠ gb340 ∧ k_ ≠ gb341) (.slice Ao44 t351.length co44) t351) := ⟨by rw [← hq_]; exact (by refine pV_ ?_; exact Kd.zF HO353.out (fun _ hk => ⟨hk.2, ⟨hk.1.1.2.1, ⟨hk.1.1.2.2.1, hk.1.1.2.2.2⟩⟩⟩))⟩; replace HO359 : jA (Kd.N (Kd.slice 22 (Kd.int .u64)) 35 w46 w.heap.size (fun k_ => k_ ≠ gb339 ∧ k_ ≠ gb340 ∧ k_ ≠ gb341) (.slice Ao48 y357.length co48) y357) := ⟨by rw [← hq_]; exact (rN_ HO359)⟩; replace BK339 : jA (w46.heap[gb339]? = some (.cells #[.bool a0_0, .slice A0_1 l0_1.length c0_1, .slice A0_2 l0_2.length c0_2] 44 (0, 0))) := ⟨by rw [← hq_]; exact (kb_ BK339)⟩; replace BK340 : jA (w46.heap[gb340]? = some (.cells #[.bool a1_0, .slice A1_1 l1_1.length c1_1, .slice A1_2 l1_2.length c1_2] 44 (0, 0))) := ⟨by rw [← hq_]; exact (kb_ BK340)⟩; replace BK341 : jA (w46.heap[gb341]? = some (.cells #[.bool false, .slice none 0 0, .slice none 0 0] 44 (0, 0))) := ⟨by rw [← hq_]; exact (kb_ BK341)⟩; replace HB : jA (Below w.heap.size w w46) := ⟨by rw [← hq_]; exact (bb3_ HB GE339 GE340 GE341)⟩; clear hq_)); obtain ⟨hcz49_0, hcz49_1, hcz49_2, hfz49_0, hfz49_1, hfz49_2⟩ := bf3_ BK341))
     refine bodyPost_ret (za rfl _ _ gb341 44 #[.bool false, .slice none 0 0, .slice none 0 0] (0, 0) _ rfl (by refine pk_ ?_; refine jc (cs := #[.bool false, .slice none 0 0, .slice none 0 0]) ?_ 2 _ rs_; refine pk_ ?_; refine jc (cs := #[.bool false, .slice none 0 0, .slice none 0 0]) ?_ 1 _ rs_; refine pk_ ?_; refine jc (cs := #[.bool false, .slice none 0 0, .slice none 0 0]) ?_ 0 _ rs_; refine pk_ ?_; exact BK341.out) Try.underlying44 rfl kr_) rfl ?_
     exact ⟨_, _, ew_, nl_, nl_, (bb3_ HB GE339 GE340 GE341)⟩
    ·
     replace c29 := Bool.eq_false_iff.mpr c29
     subst c29
     replace H := in_ H
     replace H := ob_ H
     obtain ⟨⟨t361, t362, t365, t368⟩, A500, H⟩ := H
     try dsimp only at H
     have A50 := jA.mk A500
     clear A500
     simp only [Option.some.injEq, Prod.mk.injEq] at H
     obtain ⟨rfl, rfl, rfl, rfl⟩ := H
     have hnb51 := NB339_340.out
     have hnc51 := NB340_339.out
     have hnb52 := NB339_341.out
     have hnc52 := NB341_339.out
     have hcz53_0 : wc.cell? ⟨gb339, 0, none⟩ = some (.bool a0_0) := (jI BK339.out 0).trans rfl
     have hcz53_1 : wc.cell? ⟨gb339, 1, none⟩ = some (.slice A0_1 l0_1.length c0_1) := (jI BK339.out 1).trans rfl
     have hcz53_2 : wc.cell? ⟨gb339, 2, none⟩ = some (.slice A0_2 l0_2.length c0_2) := (jI BK339.out 2).trans rfl
     have hfz53_0 := jK BK339.out 0
     have hfz53_1 := jK BK339.out 1
     have hfz53_2 := jK BK339.out 2
     have hnb54 := NB340_341.out
     have hnc54 := NB341_340.out
     have hcz55_0 : wc.cell? ⟨gb340, 0, none⟩ = some (.bool a1_0) := (jI BK340.out 0).trans rfl
     have hcz55_1 : wc.cell? ⟨gb340, 1, none⟩ = some (.slice A1_1 l1_1.length c1_1) := (jI BK340.out 1).trans rfl
     have hcz55_2 : wc.cell? ⟨gb340, 2, none⟩ = some (.slice A1_2 l1_2.length c1_2) := (jI BK340.out 2).trans rfl
     have hfz55_0 := jK BK340.out 0
     have hfz55_1 := jK BK340.out 1
     have hfz55_2 := jK BK340.out 2
     go_wp2_with (first | ((with_reducible refine jD (f := 86) rfl ?_); refine gl_ (some 23) Try.func86 #[.agg #[.bool a0_0, .slice A0_1 l0_1.length c0_1, .slice A0_2 l0_2.length c0_2], .agg #[.bool a1_0, .slice A1_1 l1_1.length c1_1, .slice A1_2 l1_2.length c1_2]] ?_; (with_reducible refine (vS.calls kj2 a0_0 _ _ l0_1 _ _ l0_2 a1_0 _ _ l1_1 _ _ l1_2 t344 t347 _ ?side1 ?side2 ?side3 ?side4 ?side5 ?side6 ?side7 ?side8 A25.out).mono ?_); (case side1 => exact cb_ HR0_1 HB); (case side2 => exact HC0_1.out); (case side3 => exact cb_ HR0_2 HB); (case side4 => exact HC0_2.out); (case side5 => exact cb_ HR1_1 HB); (case side6 => exact HC1_1.out); (case side7 => exact cb_ HR1_2 HB); (case side8 => exact HC1_2.out); rintro e w56 ⟨v345, v348, rfl, ho0, ho1, hb⟩; refine ⟨_, rfl, ?_⟩; have HO346 := jA.mk (Kd.jL ho0 (jB (bb3_ HB GE339 GE340 GE341))); have HO349 := jA.mk (Kd.jL ho1 (jB (bb3_ HB GE339 GE340 GE341))); replace BK339 := bk_ BK339 hb; replace BK340 := bk_ BK340 hb; replace BK341 := bk_ BK341 hb; replace HB := jA.mk (jJ (bb3_ HB GE339 GE340 GE341) hb); obtain ⟨hcz57_0, hcz57_1, hcz57_2, hfz57_0, hfz57_1, hfz57_2⟩ := bf3_ BK339; obtain ⟨hcz58_0, hcz58_1, hcz58_2, hfz58_0, hfz58_1, hfz58_2⟩ := bf3_ BK340; obtain ⟨Ao59, co59, rfl⟩ := Kd.jP HO346.out; obtain ⟨Ao60, co60, rfl⟩ := Kd.jP HO349.out) | ((with_reducible refine jD (f := 87) rfl ?_); refine gl_ (some 33) Try.func87 #[.bool a0_0, .slice Ao59 t344.length co59, .bool a1_0, .slice Ao60 t347.length co60] ?_; (with_reducible refine (qC.calls kj2 a0_0 (fun k_ => some k_ = (.slice Ao59 t344.length co59 : Value).ownBlock) _ _ t344 a1_0 _ _ t347 t350 t351 _ ?side1 ?side2 ?side3 A26.out).mono ?_); (case side1 => exact Kd.R_V (Kd.jBS rfl (Kd.jm (Kd.jm (Kd.jm (HO346.out) BK339.out (by decide)) BK340.out (by decide)) BK341.out (by decide)))); (case side2 => exact cc_ (Kd.jC HO349.out).2.2); (case side3 => exact (Kd.jC HO349.out).2.1); rintro e w61 ⟨v352, rfl, ho0, hb⟩; refine ⟨_, rfl, ?_⟩; have HO353 := jA.mk (Kd.zf (Kd.zF (ok' := fun k_ => some k_ ≠ (.slice Ao60 t347.length co60 : Value).ownBlock ∧ k_ ≠ gb339 ∧ k_ ≠ gb340 ∧ k_ ≠ gb341) ho0 (fun k_ hk_ => ⟨Or.elim hk_ (fun hs_ => ((Kd.jm (Kd.jm (Kd.jm (HO346.out) BK339.out (by decide)) BK340.out (by decide)) BK341.out (by decide)).1 k_ hs_.symm).1.1.1) (fun hn_ => (Kd.fresh' (Kd.R_lt (rR_ HO349)) k_ hn_)), Or.elim hk_ (fun hs_ => ((Kd.jm (Kd.jm (Kd.jm (HO346.out) BK339.out (by decide)) BK340.out (by decide)) BK341.out (by decide)).1 k_ hs_.symm).1.1.2) (fun hn_ => (Kd.jAQ (g := gb339) (o := .cells #[.bool a0_0, .slice A0_1 l0_1.length c0_1, .slice A0_2 l0_2.length c0_2] 44 (0, 0)) (kb_ BK339) k_ hn_)), Or.elim hk_ (fun hs_ => ((Kd.jm (Kd.jm (Kd.jm (HO346.out) BK339.out (by decide)) BK340.out (by decide)) BK341.out (by decide)).1 k_ hs_.symm).1.2) (fun hn_ => (Kd.jAQ (g := gb340) (o := .cells #[.bool a1_0, .slice A1_1 l1_1.length c1_1, .slice A1_2 l1_2.length c1_2] 44 (0, 0)) (kb_ BK340) k_ hn_)), Or.elim hk_ (fun hs_ => ((Kd.jm (Kd.jm (Kd.jm (HO346.out) BK339.out (by decide)) BK340.out (by decide)) BK341.out (by decide)).1 k_ hs_.symm).2) (fun hn_ => (Kd.jAQ (g := gb341) (o := .cells #[.bool false, .slice none 0 0, .slice none 0 0] 44 (0, 0)) (kb_ BK341) k_ hn_))⟩)) (jB (bb3_ HB GE339 GE340 GE341))); replace HO346 := ro_ HO346 hb; replace HO349 := ro_ HO349 hb; replace BK339 := bk_ BK339 hb; replace BK340 := bk_ BK340 hb; replace BK341 := bk_ BK341 hb; replace HB := jA.mk (jJ (bb3_ HB GE339 GE340 GE341) hb); obtain ⟨hcz62_0, hcz62_1, hcz62_2, hfz62_0, hfz62_1, hfz62_2⟩ := bf3_ BK339; obtain ⟨hcz63_0, hcz63_1, hcz63_2, hfz63_0, hfz63_1, hfz63_2⟩ := bf3_ BK340) | ((with_reducible refine jD (f := 88) rfl ?_); refine gl_ (some 40) Try.func88 #[.slice A0_2 l0_2.length c0_2, .slice A1_2 l1_2.length c1_2] ?_; (with_reducible refine (vE.calls kj2 _ _ l0_2 _ _ l1_2 t354 _ ?side1 ?side2 ?side3 ?side4 A27.out).mono ?_); (case side1 => exact cb_ HR0_2 HB); (case side2 => exact HC0_2.out); (case side3 => exact cb_ HR1_2 HB); (case side4 => exact HC1_2.out); rintro e w64 ⟨v355, rfl, ho0, hb⟩; refine ⟨_, rfl, ?_⟩; replace HO353 := jA.mk (Kd.zx (rV_ HO353) (Kd.jY ho0) hb); have HO356 := jA.mk (Kd.jL (Kd.jG (Kd.jG ho0 (Kd.R_lt (rR_ HO346))) (Kd.R_lt (rR_ HO349))) (jB (bb3_ HB GE339 GE340 GE341))); replace HO346 := re_ HO346 ho0 hb; replace HO349 := re_ HO349 ho0 hb; replace BK339 := bk_ BK339 hb; replace BK340 := bk_ BK340 hb; replace BK341 := bk_ BK341 hb; replace HB := jA.mk (jJ (bb3_ HB GE339 GE340 GE341) hb); obtain ⟨Ao65, co65, rfl⟩ := Kd.zX HO353.out; obtain ⟨Ao66, co66, rfl⟩ := Kd.jP HO356.out) | ((with_reducible refine jW (N := 45) rfl ?_); refine Kd.jJw (Kd.slice 22 (Kd.int .u64)) _ 35 ?hg (N' := 45) ?hd (xs := ([t344, t347, t351, t354] : List (List Int))) (inner := [.slice Ao59 t344.length co59, .slice Ao60 t347.length co60, .slice Ao65 t351.length co65, .slice Ao66 t354.length co66]) (ok := (fun k_ => k_ ≠ gb339 ∧ k_ ≠ gb340 ∧ k_ ≠ gb341)) (okp := (fun k_ => k_ ≠ gb339 ∧ k_ ≠ gb340 ∧ k_ ≠ gb341)) ?hr ?hp (fun _ hk => hk) ((show ∀ k_, w64.heap.size ≤ k_ → (fun k_ => k_ ≠ gb339 ∧ k_ ≠ gb340 ∧ k_ ≠ gb341) k_ from fun k_ hk => ⟨Kd.jAQ (g := gb339) (o := .cells #[.bool a0_0, .slice A0_1 l0_1.length c0_1, .slice A0_2 l0_2.length c0_2] 44 (0, 0)) (kb_ BK339) k_ hk, Kd.jAQ (g := gb340) (o := .cells #[.bool a1_0, .slice A1_1 l1_1.length c1_1, .slice A1_2 l1_2.length c1_2] 44 (0, 0)) (kb_ BK340) k_ hk, Kd.jAQ (g := gb341) (o := .cells #[.bool false, .slice none 0 0, .slice none 0 0] 44 (0, 0)) (kb_ BK341) k_ hk⟩) _ (Nat.le_refl _)) (Below.refl _ _) (Nat.le_refl _) (by simp) ?_; (case hd => rfl); (case hg => rfl); (case hr => exact gs_); (case hp => exact (Reps.one (show Kd.FK (Kd.slice 22 (Kd.int .u64)) _ _ t344 [.slice Ao59 t344.length co59] from (Kd.jAF (Kd.jC (Kd.jO (ok' := (fun k_ => k_ ≠ gb339 ∧ k_ ≠ gb340 ∧ k_ ≠ gb341)) (Kd.jm (Kd.jm (Kd.jm (HO346.out) BK339.out (by decide)) BK340.out (by decide)) BK341.out (by decide)) (fun k_ hk => ⟨hk.1.1.2, ⟨hk.1.2, hk.2⟩⟩))).2.1 (Kd.R_F (Kd.jO (ok' := (fun k_ => k_ ≠ gb339 ∧ k_ ≠ gb340 ∧ k_ ≠ gb341)) (Kd.jm (Kd.jm (Kd.jm (HO346.out) BK339.out (by decide)) BK340.out (by decide)) BK341.out (by decide)) (fun k_ hk => ⟨hk.1.1.2, ⟨hk.1.2, hk.2⟩⟩))))) (Reps.one (show Kd.FK (Kd.slice 22 (Kd.int .u64)) _ _ t347 [.slice Ao60 t347.length co60] from (Kd.jAF (Kd.jC (Kd.jO (ok' := (fun k_ => k_ ≠ gb339 ∧ k_ ≠ gb340 ∧ k_ ≠ gb341)) (Kd.jm (Kd.jm (Kd.jm (HO349.out) BK339.out (by decide)) BK340.out (by decide)) BK341.out (by decide)) (fun k_ hk => ⟨hk.1.1.2, ⟨hk.1.2, hk.2⟩⟩))).2.1 (Kd.R_F (Kd.jO (ok' := (fun k_ => k_ ≠ gb339 ∧ k_ ≠ gb340 ∧ k_ ≠ gb341)) (Kd.jm (Kd.jm (Kd.jm (HO349.out) BK339.out (by decide)) BK340.out (by decide)) BK341.out (by decide)) (fun k_ hk => ⟨hk.1.1.2, ⟨hk.1.2, hk.2⟩⟩))))) (Reps.one (show Kd.FK (Kd.slice 22 (Kd.int .u64)) _ _ t351 [.slice Ao65 t351.length co65] from (Kd.jAF (Kd.vG (Kd.zF (ok' := (fun k_ => k_ ≠ gb339 ∧ k_ ≠ gb340 ∧ k_ ≠ gb341)) (HO353.out) (fun k_ hk => ⟨hk.1.2.1, ⟨hk.1.2.2.1, hk.1.2.2.2⟩⟩))).2.1 (Kd.V_F (Kd.zF (ok' := (fun k_ => k_ ≠ gb339 ∧ k_ ≠ gb340 ∧ k_ ≠ gb341)) (HO353.out) (fun k_ hk => ⟨hk.1.2.1, ⟨hk.1.2.2.1, hk.1.2.2.2⟩⟩))))) (Reps.one (show Kd.FK (Kd.slice 22 (Kd.int .u64)) _ _ t354 [.slice Ao66 t354.length co66] from (Kd.jAF (Kd.jC (Kd.jO (ok' := (fun k_ => k_ ≠ gb339 ∧ k_ ≠ gb340 ∧ k_ ≠ gb341)) (Kd.jm (Kd.jm (Kd.jm (HO356.out) BK339.out (by decide)) BK340.out (by decide)) BK341.out (by decide)) (fun k_ hk => ⟨hk.1.1.2, ⟨hk.1.2, hk.2⟩⟩))).2.1 (Kd.R_F (Kd.jO (ok' := (fun k_ => k_ ≠ gb339 ∧ k_ ≠ gb340 ∧ k_ ≠ gb341)) (Kd.jm (Kd.jm (Kd.jm (HO356.out) BK339.out (by decide)) BK340.out (by decide)) BK341.out (by decide)) (fun k_ hk => ⟨hk.1.1.2, ⟨hk.1.2, hk.2⟩⟩))))) (Reps.none _ _)))))); intro v358 w67 ho68 hb hg_ hnew_; clear hg_ hnew_; (first | rw [← Ny357.out] at ho68 | (simp only [Int.reduceToNat] at ho68; rw [← Ny357.out] at ho68)); have n0_ := jA.mk (Kd.zx (rV_ HO353) (Kd.jGc ho68) hb); have n1_ := jA.mk (Kd.jGb ho68 (jB (bb3_ HB GE339 GE340 GE341))); have n2_ := bk_ BK339 hb; have n3_ := bk_ BK340 hb; have n4_ := bk_ BK341 hb; have n5_ := jA.mk (jJ (bb3_ HB GE339 GE340 GE341) hb); have m0_ := jA.mk (Kd.jAf (rR_ HO356) (Kd.jGc ho68) hb); clear HO353 BK339 BK340 BK341 HB HO346 HO349 HO356; have HO353 := n0_; have HO359 := n1_; have BK339 := n2_; have BK340 := n3_; have BK341 := n4_; have HB := n5_; clear n0_ n1_ n2_ n3_ n4_ n5_; have HO356 := m0_; clear m0_ hb ho68; obtain ⟨Ao69, co69, rfl⟩ := Kd.jGa HO359.out) | ((with_reducible refine jD (f := 89) rfl ?_); refine gl_ (some 46) Try.func89 #[.slice Ao69 y357.length co69] ?_; (with_reducible refine (zA.calls _ _ y357 false _ ?side1 ?side2 A28.out).mono ?_); (case side1 => repeat (first | exact (Kd.jCF HO359.out).2.2 | (with_reducible refine Kd.zR ?_ _) | (with_reducible refine Kd.zV ?_ _) | (with_reducible refine Kd.zw ?_))); (case side2 => exact (Kd.jCF HO359.out).2.1); rintro e w' ⟨rfl, ⟨nd, rfl⟩⟩; refine ⟨_, rfl, ?_⟩; (try (rw [jAH w67]; generalize hq_ : World.drewN w67 _ = w67; have m0_ := jA.mk (show Kd.R (Kd.int .u64) 22 w67 w.heap.size _ _ _ from (by rw [← hq_]; exact (rR_ HO356))); replace HO353 : jA (Kd.V (Kd.int .u64) 22 w67 w.heap.size (fun k_ => some k_ ≠ (.slice Ao69 y357.length co69 : Value).ownBlock ∧ k_ ≠ gb339 ∧ k_ ≠ gb340 ∧ k_ ≠ gb341) (.slice Ao65 t351.length co65) t351) := ⟨by rw [← hq_]; exact (by refine pV_ ?_; exact Kd.zF HO353.out (fun _ hk => ⟨hk.2, ⟨hk.1.1.2.1, ⟨hk.1.1.2.2.1, hk.1.1.2.2.2⟩⟩⟩))⟩; replace HO359 : jA (Kd.N (Kd.slice 22 (Kd.int .u64)) 35 w67 w.heap.size (fun k_ => k_ ≠ gb339 ∧ k_ ≠ gb340 ∧ k_ ≠ gb341) (.slice Ao69 y357.length co69) y357) := ⟨by rw [← hq_]; exact (rN_ HO359)⟩; replace BK339 : jA (w67.heap[gb339]? = some (.cells #[.bool a0_0, .slice A0_1 l0_1.length c0_1, .slice A0_2 l0_2.length c0_2] 44 (0, 0))) := ⟨by rw [← hq_]; exact (kb_ BK339)⟩; replace BK340 : jA (w67.heap[gb340]? = some (.cells #[.bool a1_0, .slice A1_1 l1_1.length c1_1, .slice A1_2 l1_2.length c1_2] 44 (0, 0))) := ⟨by rw [← hq_]; exact (kb_ BK340)⟩; replace BK341 : jA (w67.heap[gb341]? = some (.cells #[.bool false, .slice none 0 0, .slice none 0 0] 44 (0, 0))) := ⟨by rw [← hq_]; exact (kb_ BK341)⟩; replace HB : jA (Below w.heap.size w w67) := ⟨by rw [← hq_]; exact (bb3_ HB GE339 GE340 GE341)⟩; clear hq_ HO356; have HO356 := m0_; clear m0_))) | ((with_reducible refine jD (f := 24) rfl ?_); refine gl_ (some 51) Try.func24 #[.bool t350, .slice Ao65 t351.length co65, .slice Ao66 t354.length co66] ?_; (with_reducible refine (zq.calls kj2 t350 _ _ t351 _ _ t354 t361 t362 t365 t368 _ ?side1 ?side2 ?side3 ?side4 A50.out).mono ?_); (case side1 => repeat (first | exact (Kd.vG HO353.out).2.2 | (with_reducible refine Kd.zR ?_ _) | (with_reducible refine Kd.zV ?_ _) | (with_reducible refine Kd.zw ?_))); (case side2 => exact (Kd.vG HO353.out).2.1); (case side3 => exact cc_ (Kd.jC HO356.out).2.2); (case side4 => exact (Kd.jC HO356.out).2.1); rintro e w70 ⟨v363, v366, rfl, ho0, ho1, hb⟩; refine ⟨_, rfl, ?_⟩; replace HO353 := jA.mk (Kd.zF (Kd.jAp (Kd.jAp (Kd.jEV (rV_ HO353) hb) (Kd.jY ho0)) (Kd.jY ho1)) (fun _ h_ => h_.1)); replace HO359 := jA.mk (Kd.jHr (Kd.jHq (Kd.jHq (Kd.jKV (rN_ HO359) hb) (Kd.jY ho0)) (Kd.jY ho1)) (fun _ h_ => h_.1)); have HO364 := jA.mk (Kd.jL ho0 (jB (bb3_ HB GE339 GE340 GE341))); have HO367 := jA.mk (Kd.jL ho1 (jB (bb3_ HB GE339 GE340 GE341))); replace BK339 := bk_ BK339 hb; replace BK340 := bk_ BK340 hb; replace BK341 := bk_ BK341 hb; replace HB := jA.mk (jJ (bb3_ HB GE339 GE340 GE341) hb); obtain ⟨hcz71_0, hcz71_1, hcz71_2, hfz71_0, hfz71_1, hfz71_2⟩ := bf3_ BK341; obtain ⟨Ao72, co72, rfl⟩ := Kd.jP HO364.out; obtain ⟨Ao73, co73, rfl⟩ := Kd.jP HO367.out))
     refine bodyPost_ret (za rfl _ _ gb341 44 #[.bool t361, .slice Ao72 t362.length co72, .slice Ao73 t365.length co73] (0, 0) _ rfl (by refine pk_ ?_; refine jc (cs := #[.bool t361, .slice Ao72 t362.length co72, .slice none 0 0]) ?_ 2 _ rs_; refine pk_ ?_; refine jc (cs := #[.bool t361, .slice none 0 0, .slice none 0 0]) ?_ 1 _ rs_; refine pk_ ?_; refine jc (cs := #[.bool false, .slice none 0 0, .slice none 0 0]) ?_ 0 _ rs_; refine pk_ ?_; exact BK341.out) Try.underlying44 rfl kr_) rfl ?_
     exact ⟨_, _, ew_, by refine pR_ ?_; exact Kd.jO (Kd.vU (p := ⟨gb341, 2, none⟩) (Kd.vU (p := ⟨gb341, 1, none⟩) (Kd.vU (p := ⟨gb341, 0, none⟩) (Kd.jm HO364.out BK341.out (by decide)) (fun _ hk => hk.2) (.bool t361)) (fun _ hk => hk.2) (.slice Ao72 t362.length co72)) (fun _ hk => hk.2) (.slice Ao73 t365.length co73)) (fun _ hk => hk.1), by refine pR_ ?_; exact Kd.jO (Kd.vU (p := ⟨gb341, 2, none⟩) (Kd.vU (p := ⟨gb341, 1, none⟩) (Kd.vU (p := ⟨gb341, 0, none⟩) (Kd.jm HO367.out BK341.out (by decide)) (fun _ hk => hk.2) (.bool t361)) (fun _ hk => hk.2) (.slice Ao72 t362.length co72)) (fun _ hk => hk.2) (.slice Ao73 t365.length co73)) (fun _ hk => hk.1), (bb3_ HB GE339 GE340 GE341)⟩
end Go.Proofs.Ytijgeonhbmgikaa.PORatioMakes
