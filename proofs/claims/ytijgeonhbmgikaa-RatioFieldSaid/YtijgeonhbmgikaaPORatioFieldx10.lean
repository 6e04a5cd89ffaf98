-- printed (pr.py)
import Derived.Test.YtijgeonhbmgikaaPORatioFieldx9
namespace Go.Proofs.Ytijgeonhbmgikaa.PORatioField
open Go.RowKit Go.Proofs.YtijgeonhbmgikaaN Go.Proofs.YtijgeonhbmgikaaW.PrintWords Go.Proofs.YtijgeonhbmgikaaW.PrintLast Go.Proofs.YtijgeonhbmgikaaW.PrintMore
attribute [local go_sem] qH qF qg qd zq zo qG qE
set_option maxHeartbeats 8000000
set_option maxRecDepth 100000
set_option linter.unusedVariables false
set_option linter.unusedSimpArgs false
def vR.idx : List (List Int) → Int → Int
 | [], _ => -1
 | x :: r, i => if 8 < x.length then i else vR.idx r (i + 1)
def vR.any (l0 : List (List Int)) : Bool := decide (0 ≤ vR.idx l0 0)
def vR.f (l0 : List (List Int)) : Option Bool := some (vR.any l0)
set_option maxHeartbeats 4000000 in
theorem vR.one (A0 : Option Addr) (c0 n : Nat) (b : Bool) (w : World) (hb : decide (8 < (n : Int)) = b) (hm : (n : Int) ≤ 9223372036854775807) :
  Calls Try.prog 115 #[.slice A0 n c0] w fun e w' => e = .returned (.bool b) ∧ w = w' := by
 have hb2 : decide (8 < n) = b := by rw [← hb]; exact decide_eq_decide.2 (by omega)
 cases b <;>
 ·
  go_enter Try.func115, Try.ntmps115
  go_wp2
  go_ret
  exact ⟨rfl, rfl⟩
theorem vR.index (A0 : Option Addr) (c0 : Nat) (l0 : List (List Int)) (w : World) (hr0 : Kd.C (Kd.slice 22 (Kd.int .u64)) w A0 l0.length l0) :
  Calls Try.prog 123 #[.slice A0 l0.length c0, .func (.func 115) #[] #[]] w fun e w' => e = .returned (.int .i64 (vR.idx l0 0)) ∧ w = w' := by
 have HR0 := jA.mk hr0
 have hmx : (l0.length : Int) ≤ 9223372036854775807 := by have := hr0.2.1; omega
 clear hr0
 go_enter Try.func123, Try.ntmps123
 go_wp2_with fail
 go_loopg [8] l0.length (fun kq v8 wr => ∃ i : Nat, v8 = .int .i64 i ∧ jA (i + kq = l0.length) ∧ jA (vR.idx (l0.drop i) i = vR.idx l0 0) ∧ w = wr)
 case atStart => exact ⟨0, rfl, ⟨by omega⟩, ⟨rfl⟩, rfl⟩
 case round =>
  obtain ⟨i, rfl, HI, HX, rfl⟩ := hrel
  cases gk with
  | zero =>
   obtain rfl : i = l0.length := by have := HI.out; omega
   have hx := HX.out
   rw [List.drop_length, vR.idx] at hx
   have HX2 := jA.mk hx
   clear HX hx
   go_wp2
   go_ret
   exact ⟨by rw [← HX2.out]; rfl, rfl⟩
  | succ d =>
   have hil : i < l0.length := by have := HI.out; omega
   obtain ⟨ad, cs, e1, hcl, hK, hcs⟩ := Kd.jFa HR0.out [] (i : Int) (by omega) (by omega)
   cases e1
   obtain ⟨Ar, cr, ecs, hrl, hC⟩ := hK
   subst ecs
   rw [Int.toNat_natCast] at hrl hC hcs
   obtain ⟨row, hrow⟩ : ∃ row, l0.getD i [] = row := ⟨_, rfl⟩
   rw [hrow] at hrl hC hcs
   have hcell := hcs 0 _ rfl
   rw [show i * (Kd.slice 22 (Kd.int .u64)).sz + 0 = i from by show i * 1 + 0 = i; omega] at hcell
   have hx := HX.out
   rw [List.drop_eq_getElem_cons hil] at hx
   have hrow2 : l0[i] = row := by rw [← hrow, List.getD_eq_getElem?_getD, List.getElem?_eq_getElem hil]; rfl
   rw [hrow2, vR.idx] at hx
   have hmr : (row.length : Int) ≤ 9223372036854775807 := by have := hC.2.1; omega
   have hil' : (i : Int) < (l0.length : Int) := by omega
   clear hrow hrow2 hcs hcl hC hrl HX
   by_cases hb : 8 < row.length
   ·
    rw [if_pos hb] at hx
    have HX2 := jA.mk hx
    have HBT := jA.mk (show decide (8 < (row.length : Int)) = true from decide_eq_true (by omega))
    clear hx hb
    go_wp2_with fail
    refine (vR.one Ar cr row.length true _ HBT.out hmr).mono ?_
    rintro e w1 ⟨rfl, rfl⟩
    go_wp2
    go_ret
    exact ⟨by rw [← HX2.out]; rfl, rfl⟩
   ·
    rw [if_neg hb] at hx
    have HX2 := jA.mk hx
    have HBT := jA.mk (show decide (8 < (row.length : Int)) = false from decide_eq_false (by omega))
    clear hx hb
    go_wp2_with fail
    refine (vR.one Ar cr row.length false _ HBT.out hmr).mono ?_
    rintro e w1 ⟨rfl, rfl⟩
    go_wp2
    go_roundg d
    case measure => omega
    case rel => exact ⟨i + 1, by go_num, ⟨by have := HI.out; omega⟩, ⟨by have := HX2.out; rw [← this]; congr 1⟩, rfl⟩
theorem vR.calls (A0 : Option Addr) (c0 : Nat) (l0 : List (List Int)) (r : Bool) (w : World) (hr0 : Kd.C (Kd.slice 22 (Kd.int .u64)) w A0 l0.length l0) (hc0 : l0.length ≤ c0) (h : vR.f l0 = some r) :
  Calls Try.prog 89 #[.slice A0 l0.length c0] w fun e w' => e = .returned (.bool r) ∧ za w w' := by
 obtain rfl := Option.some.inj h
 have HR0 := jA.mk hr0
 clear hr0 hc0 h
 have HC : jA (Calls Try.prog 114 #[.slice A0 l0.length c0, .func (.func 115) #[] #[]] w fun e w' => e = .returned (.bool (vR.any l0)) ∧ w = w') := by
  refine ⟨?_⟩
  unfold vR.any
  have HI := jA.mk (vR.index A0 c0 l0 w HR0.out)
  generalize vR.idx l0 0 = j at HI
  cases hj : decide (0 ≤ j) with
  | true =>
   go_enter Try.func114, Try.ntmps114
   go_wp2_with fail
   refine HI.out.mono ?_
   rintro e w1 ⟨rfl, rfl⟩
   go_wp2
   go_ret
   exact ⟨rfl, rfl⟩
  | false =>
   go_enter Try.func114, Try.ntmps114
   go_wp2_with fail
   refine HI.out.mono ?_
   rintro e w1 ⟨rfl, rfl⟩
   go_wp2
   go_ret
   exact ⟨rfl, rfl⟩
 generalize vR.any l0 = b at HC
 go_enter Try.func89, Try.ntmps89
 go_wp2_with fail
 refine HC.out.mono ?_
 rintro e w1 ⟨rfl, rfl⟩
 go_wp2
 go_ret
 exact ⟨rfl, za.refl _⟩
def vL.j0 : Nat → Bool → Bool → List Int → List Int → Bool → List Int → List Int → Option (Bool × List Int × List Int × Int)
 | 0, _, _, _, _, _, _, _ => none
 | k + 1, x18, x340000, x340001, x340002, x341000, x341001, x341002 => if x18 = true then (some (false, ([] : List Int), ([] : List Int), 1)) else ((vJ.f k x340000 x340001 x340002 x341000 x341001 x341002).bind fun bt344 => ((qO.f k x340000 bt344.1 x341000 bt344.2).bind fun bt350 => ((jl.f k x340002 x341002).bind fun t354 => ((vR.f (([bt344.1, bt344.2, bt350.2, t354] : List (List Int)))).bind fun t360 => (if t360 = true then (some (false, ([] : List Int), ([] : List Int), 21)) else ((zm.f k bt350.1 bt350.2 t354).bind fun bt361 => (some (bt361.1, bt361.2.1, bt361.2.2.1, bt361.2.2.2))))))))
def vL.f (k : Nat) (a0_0 : Bool) (l0_1 : List Int) (l0_2 : List Int) (a1_0 : Bool) (l1_1 : List Int) (l1_2 : List Int) : Option (Bool × List Int × List Int × Int) := (vV.f k a0_0 l0_1 l0_2).bind fun t342 => (if t342 = true then ((vV.f k a1_0 l1_1 l1_2).bind fun t343 => (vL.j0 k (!t343) a0_0 l0_1 l0_2 a1_0 l1_1 l1_2)) else (vL.j0 k true a0_0 l0_1 l0_2 a1_0 l1_1 l1_2))
theorem vL.vS : ∀ k, (∀ y0 y1 y2 y3 y4 y5 y6, LeO (vL.j0 k y0 y1 y2 y3 y4 y5 y6) (vL.j0 (k + 1) y0 y1 y2 y3 y4 y5 y6))
 | 0 => fun _ _ _ _ _ _ _ r h => by simp [vL.j0] at h
 | k + 1 => by
  have ih0 := vL.vS k
  ·
   intro y0 y1 y2 y3 y4 y5 y6
   unfold vL.j0
   repeat' first
   | (with_reducible exact ih0 _ _ _ _ _ _ _)
   | (with_reducible exact jl.mono _ _ _)
   | (with_reducible exact zm.mono _ _ _ _)
   | (with_reducible exact vV.mono _ _ _ _)
   | (with_reducible exact vJ.mono _ _ _ _ _ _ _)
   | (with_reducible exact qO.mono _ _ _ _ _)
   | (with_reducible exact LeO.refl _)
   | (with_reducible exact LeO.none _)
   | (with_reducible refine LeO.ite ?_ ?_)
   | (with_reducible refine LeO.bind ?_ (fun _ => ?_))
theorem vL.mono : ∀ a0 a1 a2 a3 a4 a5 k, LeO (vL.f k a0 a1 a2 a3 a4 a5) (vL.f (k + 1) a0 a1 a2 a3 a4 a5) := by
 intro a0 a1 a2 a3 a4 a5 k
 have ih0 := vL.vS k
 unfold vL.f
 repeat' first
   | (with_reducible exact ih0 _ _ _ _ _ _ _)
   | (with_reducible exact jl.mono _ _ _)
   | (with_reducible exact zm.mono _ _ _ _)
   | (with_reducible exact vV.mono _ _ _ _)
   | (with_reducible exact vJ.mono _ _ _ _ _ _ _)
   | (with_reducible exact qO.mono _ _ _ _ _)
   | (with_reducible exact LeO.refl _)
   | (with_reducible exact LeO.none _)
   | (with_reducible refine LeO.ite ?_ ?_)
   | (with_reducible refine LeO.bind ?_ (fun _ => ?_))
theorem vL.calls (k : Nat) (a0_0 : Bool) (A0_1 : Option Addr) (c0_1 : Nat) (l0_1 : List Int) (A0_2 : Option Addr) (c0_2 : Nat) (l0_2 : List Int) (a1_0 : Bool) (A1_1 : Option Addr) (c1_1 : Nat) (l1_1 : List Int) (A1_2 : Option Addr) (c1_2 : Nat) (l1_2 : List Int) (r1 : Bool) (r2 : List Int) (r3 : List Int) (r4 : Int) (w : World) (hr0_1 : Kd.C (Kd.int .u64) w A0_1 l0_1.length l0_1) (hc0_1 : l0_1.length ≤ c0_1) (hr0_2 : Kd.C (Kd.int .u64) w A0_2 l0_2.length l0_2) (hc0_2 : l0_2.length ≤ c0_2) (hr1_1 : Kd.C (Kd.int .u64) w A1_1 l1_1.length l1_1) (hc1_1 : l1_1.length ≤ c1_1) (hr1_2 : Kd.C (Kd.int .u64) w A1_2 l1_2.length l1_2) (hc1_2 : l1_2.length ≤ c1_2) (h : vL.f k a0_0 l0_1 l0_2 a1_0 l1_1 l1_2 = some (r1, r2, r3, r4)) :
  Calls Try.prog 49 #[.agg #[.bool a0_0, .slice A0_1 l0_1.length c0_1, .slice A0_2 l0_2.length c0_2], .agg #[.bool a1_0, .slice A1_1 l1_1.length c1_1, .slice A1_2 l1_2.length c1_2]] w fun e w' => ∃ v1_ v2_ : Value, e = .returned (.tuple #[.agg #[.bool r1, v1_, v2_], .int .i64 r4]) ∧ Kd.R (Kd.int .u64) 22 w' w.heap.size (fun k_ => some k_ ≠ (v2_ : Value).ownBlock) v1_ r2 ∧ Kd.R (Kd.int .u64) 22 w' w.heap.size (fun k_ => some k_ ≠ (v1_ : Value).ownBlock) v2_ r3 ∧ Below w.heap.size w w' := by
 have hu44 := Try.underlying44
 have HR0_1 := jA.mk hr0_1
 have HC0_1 := jA.mk hc0_1
 clear hr0_1 hc0_1
 have HR0_2 := jA.mk hr0_2
 have HC0_2 := jA.mk hc0_2
 clear hr0_2 hc0_2
 have HR1_1 := jA.mk hr1_1
 have HC1_1 := jA.mk hc1_1
 clear hr1_1 hc1_1
 have HR1_2 := jA.mk hr1_2
 have HC1_2 := jA.mk hc1_2
 clear hr1_2 hc1_2
 have HB := jA.mk (Below.refl w.heap.size w)
 have H : ((vV.f k a0_0 l0_1 l0_2).bind fun t342 => (if t342 = true then ((vV.f k a1_0 l1_1 l1_2).bind fun t343 => (vL.j0 k (!t343) a0_0 l0_1 l0_2 a1_0 l1_1 l1_2)) else (vL.j0 k true a0_0 l0_1 l0_2 a1_0 l1_1 l1_2))) = some (r1, r2, r3, r4) := h
 clear h
 have HC3 := jA.mk H
 clear H
 go_enter Try.func49, Try.ntmps49
 go_upto_region 1 with (first | ((with_reducible refine jX (N := 2) rfl ?_); refine bx_ 2 #[.bool a0_0, .slice A0_1 l0_1.length c0_1, .slice A0_2 l0_2.length c0_2] 44 ?_; intro gb339 hg w4 hbox hb; have BK339 := jA.mk (hbox); have GW339 := jA.mk ((by rw [hg]; exact (jC (bb_ HB)) : w.heap.size ≤ gb339)); have GE339 := GW339; replace HB := bs_ HB hb; clear hb hbox hg) | ((with_reducible refine jX (N := 3) rfl ?_); refine bx_ 3 #[.bool a1_0, .slice A1_1 l1_1.length c1_1, .slice A1_2 l1_2.length c1_2] 44 ?_; intro gb340 hg w5 hbox hb; have BK340 := jA.mk (hbox); have GW340 := jA.mk ((by rw [hg]; exact (jC (bb1_ HB GE339)) : w.heap.size ≤ gb340)); have GE340 := GW340; replace HB := jA.mk (jI (bb1_ HB GE339) hb); have NB339_340 := jA.mk ((by rw [hg]; exact nlt_ BK339 : gb339 ≠ gb340)); have NB340_339 := jA.mk ((by rw [hg]; exact ngt_ BK339 : gb340 ≠ gb339)); replace BK339 := bk_ BK339 hb; clear hb hbox hg) | ((with_reducible refine jX (N := 4) rfl ?_); refine bx_ 4 #[.bool false, .slice none 0 0, .slice none 0 0] 44 ?_; intro gb341 hg w6 hbox hb; have BK341 := jA.mk (hbox); have GW341 := jA.mk ((by rw [hg]; exact (jC (bb2_ HB GE339 GE340)) : w.heap.size ≤ gb341)); have GE341 := GW341; replace HB := jA.mk (jI (bb2_ HB GE339 GE340) hb); have NB339_341 := jA.mk ((by rw [hg]; exact nlt_ BK339 : gb339 ≠ gb341)); have NB341_339 := jA.mk ((by rw [hg]; exact ngt_ BK339 : gb341 ≠ gb339)); replace BK339 := bk_ BK339 hb; have NB340_341 := jA.mk ((by rw [hg]; exact nlt_ BK340 : gb340 ≠ gb341)); have NB341_340 := jA.mk ((by rw [hg]; exact ngt_ BK340 : gb341 ≠ gb340)); replace BK340 := bk_ BK340 hb; clear hb hbox hg))
 (try simp only [Act.put, ss_])
 go_cut [18] (fun v18 wc => ∃ (kq : Nat) (x18_2 : Bool), v18 = .bool x18_2 ∧ jA (vL.j0 kq x18_2 a0_0 l0_1 l0_2 a1_0 l1_1 l1_2 = some (r1, r2, r3, r4)) ∧ jA (kq ≤ k) ∧ jA (wc.heap[gb339]? = some (.cells #[.bool a0_0, (.slice A0_1 l0_1.length c0_1), (.slice A0_2 l0_2.length c0_2)] 44 (0, 0))) ∧ jA (wc.heap[gb340]? = some (.cells #[.bool a1_0, (.slice A1_1 l1_1.length c1_1), (.slice A1_2 l1_2.length c1_2)] 44 (0, 0))) ∧ jA (wc.heap[gb341]? = some (.cells #[.bool false, (.slice none 0 0), (.slice none 0 0)] 44 (0, 0))) ∧ jA (Below w.heap.size w wc))
 case first =>
  have H := HC3.out
  clear HC3
  obtain ⟨t342, A7, H⟩ := oc_ H
  try dsimp only at H
  by_cases c8 : t342 = true
  ·
   subst c8
   replace H := ip_ H
   obtain ⟨t343, A9, H⟩ := oc_ H
   try dsimp only at H
   have H' := jA.mk H
   clear H
   have hnb10 := NB339_340.out
   have hnc10 := NB340_339.out
   have hnb11 := NB339_341.out
   have hnc11 := NB341_339.out
   have hcz12_0 : w6.cell? ⟨gb339, 0, none⟩ = some (.bool a0_0) := (jB BK339.out 0).trans rfl
   have hcz12_1 : w6.cell? ⟨gb339, 1, none⟩ = some (.slice A0_1 l0_1.length c0_1) := (jB BK339.out 1).trans rfl
   have hcz12_2 : w6.cell? ⟨gb339, 2, none⟩ = some (.slice A0_2 l0_2.length c0_2) := (jB BK339.out 2).trans rfl
   have hfz12_0 := jg BK339.out 0
   have hfz12_1 := jg BK339.out 1
   have hfz12_2 := jg BK339.out 2
   go_wp2_with (first | ((with_reducible refine jH (f := 27) rfl ?_); refine gl_ (some 12) Try.func27 #[.agg #[.bool a0_0, .slice A0_1 l0_1.length c0_1, .slice A0_2 l0_2.length c0_2]] ?_; (with_reducible refine (vV.calls k a0_0 _ _ l0_1 _ _ l0_2 true _ ?side1 ?side2 ?side3 ?side4 A7.out).mono ?_); (case side1 => exact cb_ HR0_1 HB); (case side2 => exact HC0_1.out); (case side3 => exact cb_ HR0_2 HB); (case side4 => exact HC0_2.out); rintro e w13 ⟨rfl, hb⟩; refine ⟨_, rfl, ?_⟩; replace BK339 := bk_ BK339 hb; replace BK340 := bk_ BK340 hb; replace BK341 := bk_ BK341 hb; replace HB := jA.mk (jI (bb3_ HB GE339 GE340 GE341) hb); have hnb14 := NB340_341.out; have hnc14 := NB341_340.out; obtain ⟨hcz15_0, hcz15_1, hcz15_2, hfz15_0, hfz15_1, hfz15_2⟩ := bf3_ BK340) | (go_at_call 27; (with_reducible refine (vV.calls k a1_0 _ _ l1_1 _ _ l1_2 t343 _ ?side1 ?side2 ?side3 ?side4 A9.out).mono ?_); (case side1 => exact cb_ HR1_1 HB); (case side2 => exact HC1_1.out); (case side3 => exact cb_ HR1_2 HB); (case side4 => exact HC1_2.out); rintro e w16 ⟨rfl, hb⟩; replace BK339 := bk_ BK339 hb; replace BK340 := bk_ BK340 hb; replace BK341 := bk_ BK341 hb; replace HB := jA.mk (jI (bb3_ HB GE339 GE340 GE341) hb)))
   go_meet
   case rel => exact ⟨_, (!t343), sd_, H', ⟨by first | omega | exact Nat.le_refl _⟩, ⟨by (with_reducible repeat (first | refine zw ?_ _ | refine vF ?_ | refine vH ?_ _)); exact BK339.out⟩, ⟨by (with_reducible repeat (first | refine zw ?_ _ | refine vF ?_ | refine vH ?_ _)); exact BK340.out⟩, ⟨by (with_reducible repeat (first | refine zw ?_ _ | refine vF ?_ | refine vH ?_ _)); exact BK341.out⟩, ⟨(bb3_ HB GE339 GE340 GE341)⟩⟩
  ·
   replace c8 := Bool.eq_false_iff.mpr c8
   subst c8
   replace H := in_ H
   have H' := jA.mk H
   clear H
   have hnb17 := NB339_340.out
   have hnc17 := NB340_339.out
   have hnb18 := NB339_341.out
   have hnc18 := NB341_339.out
   have hcz19_0 : w6.cell? ⟨gb339, 0, none⟩ = some (.bool a0_0) := (jB BK339.out 0).trans rfl
   have hcz19_1 : w6.cell? ⟨gb339, 1, none⟩ = some (.slice A0_1 l0_1.length c0_1) := (jB BK339.out 1).trans rfl
   have hcz19_2 : w6.cell? ⟨gb339, 2, none⟩ = some (.slice A0_2 l0_2.length c0_2) := (jB BK339.out 2).trans rfl
   have hfz19_0 := jg BK339.out 0
   have hfz19_1 := jg BK339.out 1
   have hfz19_2 := jg BK339.out 2
   go_wp2_with (first | ((with_reducible refine jH (f := 27) rfl ?_); refine gl_ (some 12) Try.func27 #[.agg #[.bool a0_0, .slice A0_1 l0_1.length c0_1, .slice A0_2 l0_2.length c0_2]] ?_; (with_reducible refine (vV.calls k a0_0 _ _ l0_1 _ _ l0_2 false _ ?side1 ?side2 ?side3 ?side4 A7.out).mono ?_); (case side1 => exact cb_ HR0_1 HB); (case side2 => exact HC0_1.out); (case side3 => exact cb_ HR0_2 HB); (case side4 => exact HC0_2.out); rintro e w20 ⟨rfl, hb⟩; refine ⟨_, rfl, ?_⟩; replace BK339 := bk_ BK339 hb; replace BK340 := bk_ BK340 hb; replace BK341 := bk_ BK341 hb; replace HB := jA.mk (jI (bb3_ HB GE339 GE340 GE341) hb)))
   go_meet
   case rel => exact ⟨_, (true), sd_, H', ⟨by first | omega | exact Nat.le_refl _⟩, ⟨by (with_reducible repeat (first | refine zw ?_ _ | refine vF ?_ | refine vH ?_ _)); exact BK339.out⟩, ⟨by (with_reducible repeat (first | refine zw ?_ _ | refine vF ?_ | refine vH ?_ _)); exact BK340.out⟩, ⟨by (with_reducible repeat (first | refine zw ?_ _ | refine vF ?_ | refine vH ?_ _)); exact BK341.out⟩, ⟨(bb3_ HB GE339 GE340 GE341)⟩⟩
 case rest =>
  clear HC3
  try clear c1
  try clear c2
  try clear p2
  try clear c4
  try clear c8
  try clear c10
  try clear c11
  try clear c14
  try clear c17
  try clear c18
  try clear hcz12_0
  try clear hcz12_1
  try clear hcz12_2
  try clear hcz15_0
  try clear hcz15_1
  try clear hcz15_2
  try clear hcz19_0
  try clear hcz19_1
  try clear hcz19_2
  try clear hfz12_0
  try clear hfz12_1
  try clear hfz12_2
  try clear hfz15_0
  try clear hfz15_1
  try clear hfz15_2
  try clear hfz19_0
  try clear hfz19_1
  try clear hfz19_2
  obtain ⟨kq, x18_2, rfl, HA, HJ2, BK339, BK340, BK341, HB⟩ := hcut
  cases kq with
  | zero => exact absurd HA.out (by simp [vL.j0])
  | succ kj2 =>
   have H := HA.out
   clear HA
   simp only [vL.j0] at H
   by_cases c21 : x18_2 = true
   ·
    subst c21
    replace H := ip_ H
    simp only [Option.some.injEq, Prod.mk.injEq] at H
    obtain ⟨rfl, rfl, rfl, rfl⟩ := H
    have hnb22 := NB341_339.out
    have hnc22 := NB339_341.out
    have hnb23 := NB341_340.out
    have hnc23 := NB340_341.out
    have hcz24_0 : wc.cell? ⟨gb341, 0, none⟩ = some (.bool false) := (jB BK341.out 0).trans rfl
    have hcz24_1 : wc.cell? ⟨gb341, 1, none⟩ = some (.slice none 0 0) := (jB BK341.out 1).trans rfl
    have hcz24_2 : wc.cell? ⟨gb341, 2, none⟩ = some (.slice none 0 0) := (jB BK341.out 2).trans rfl
    have hfz24_0 := jg BK341.out 0
    have hfz24_1 := jg BK341.out 1
    have hfz24_2 := jg BK341.out 2
    go_wp2
    refine bodyPost_ret (zn rfl _ _ gb341 44 #[.bool false, .slice none 0 0, .slice none 0 0] (0, 0) _ rfl (by refine pk_ ?_; refine jm (cs := #[.bool false, .slice none 0 0, .slice none 0 0]) ?_ 2 _ rs_; refine pk_ ?_; refine jm (cs := #[.bool false, .slice none 0 0, .slice none 0 0]) ?_ 1 _ rs_; refine pk_ ?_; refine jm (cs := #[.bool false, .slice none 0 0, .slice none 0 0]) ?_ 0 _ rs_; refine pk_ ?_; exact BK341.out) Try.underlying44 rfl kr_) rfl ?_
    exact ⟨_, _, ew_, nl_, nl_, (bb3_ HB GE339 GE340 GE341)⟩
   ·
    replace c21 := Bool.eq_false_iff.mpr c21
    subst c21
    replace H := in_ H
    replace H := ob_ H
    obtain ⟨⟨t344, t347⟩, A250, H⟩ := H
    try dsimp only at H
    have A25 := jA.mk A250
    clear A250
    replace H := ob_ H
    obtain ⟨⟨t350, t351⟩, A260, H⟩ := H
    try dsimp only at H
    have A26 := jA.mk A260
    clear A260
    obtain ⟨t354, A27, H⟩ := oc_ H
    try dsimp only at H
    obtain ⟨y357, hy357⟩ : ∃ y_ : List (List Int), y_ = (([t344, t347, t351, t354] : List (List Int))) := ⟨_, rfl⟩
    replace H : ((vR.f y357).bind fun t360 => (if t360 = true then (some (false, ([] : List Int), ([] : List Int), 21)) else ((zm.f kj2 t350 t351 t354).bind fun bt361 => (some (bt361.1, bt361.2.1, bt361.2.2.1, bt361.2.2.2))))) = some (r1, r2, r3, r4) := by first | (rw [hy357]; with_reducible exact H) | (have H2_ := (Option.bind_some _ _).symm.trans H; rw [hy357]; with_reducible exact H2_) | (with_reducible exact hs_ H) | with_reducible exact H | (rw [hy357]; exact H) | exact H
    have Ny357 := jA.mk hy357
    clear hy357
    obtain ⟨t360, A28, H⟩ := oc_ H
    try dsimp only at H
    by_cases c29 : t360 = true
    ·
     subst c29
     replace H := ip_ H
     simp only [Option.some.injEq, Prod.mk.injEq] at H
     obtain ⟨rfl, rfl, rfl, rfl⟩ := H
     have hnb30 := NB339_340.out
     have hnc30 := NB340_339.out
     have hnb31 := NB339_341.out
     have hnc31 := NB341_339.out
     have hcz32_0 : wc.cell? ⟨gb339, 0, none⟩ = some (.bool a0_0) := (jB BK339.out 0).trans rfl
     have hcz32_1 : wc.cell? ⟨gb339, 1, none⟩ = some (.slice A0_1 l0_1.length c0_1) := (jB BK339.out 1).trans rfl
     have hcz32_2 : wc.cell? ⟨gb339, 2, none⟩ = some (.slice A0_2 l0_2.length c0_2) := (jB BK339.out 2).trans rfl
     have hfz32_0 := jg BK339.out 0
     have hfz32_1 := jg BK339.out 1
     have hfz32_2 := jg BK339.out 2
     have hnb33 := NB340_341.out
     have hnc33 := NB341_340.out
     have hcz34_0 : wc.cell? ⟨gb340, 0, none⟩ = some (.bool a1_0) := (jB BK340.out 0).trans rfl
     have hcz34_1 : wc.cell? ⟨gb340, 1, none⟩ = some (.slice A1_1 l1_1.length c1_1) := (jB BK340.out 1).trans rfl
     have hcz34_2 : wc.cell? ⟨gb340, 2, none⟩ = some (.slice A1_2 l1_2.length c1_2) := (jB BK340.out 2).trans rfl
     have hfz34_0 := jg BK340.out 0
     have hfz34_1 := jg BK340.out 1
     have hfz34_2 := jg BK340.out 2
     go_wp2_with (first | ((with_reducible refine jH (f := 86) rfl ?_); refine gl_ (some 23) Try.func86 #[.agg #[.bool a0_0, .slice A0_1 l0_1.length c0_1, .slice A0_2 l0_2.length c0_2], .agg #[.bool a1_0, .slice A1_1 l1_1.length c1_1, .slice A1_2 l1_2.length c1_2]] ?_; (with_reducible refine (vJ.calls kj2 a0_0 _ _ l0_1 _ _ l0_2 a1_0 _ _ l1_1 _ _ l1_2 t344 t347 _ ?side1 ?side2 ?side3 ?side4 ?side5 ?side6 ?side7 ?side8 A25.out).mono ?_); (case side1 => exact cb_ HR0_1 HB); (case side2 => exact HC0_1.out); (case side3 => exact cb_ HR0_2 HB); (case side4 => exact HC0_2.out); (case side5 => exact cb_ HR1_1 HB); (case side6 => exact HC1_1.out); (case side7 => exact cb_ HR1_2 HB); (case side8 => exact HC1_2.out); rintro e w35 ⟨v345, v348, rfl, ho0, ho1, hb⟩; refine ⟨_, rfl, ?_⟩; have HO346 := jA.mk (Kd.jN ho0 (jC (bb3_ HB GE339 GE340 GE341))); have HO349 := jA.mk (Kd.jN ho1 (jC (bb3_ HB GE339 GE340 GE341))); replace BK339 := bk_ BK339 hb; replace BK340 := bk_ BK340 hb; replace BK341 := bk_ BK341 hb; replace HB := jA.mk (jI (bb3_ HB GE339 GE340 GE341) hb); obtain ⟨hcz36_0, hcz36_1, hcz36_2, hfz36_0, hfz36_1, hfz36_2⟩ := bf3_ BK339; obtain ⟨hcz37_0, hcz37_1, hcz37_2, hfz37_0, hfz37_1, hfz37_2⟩ := bf3_ BK340; obtain ⟨Ao38, co38, rfl⟩ := Kd.jV HO346.out; obtain ⟨Ao39, co39, rfl⟩ := Kd.jV HO349.out) | ((with_reducible refine jH (f := 87) rfl ?_); refine gl_ (some 33) Try.func87 #[.bool a0_0, .slice Ao38 t344.length co38, .bool a1_0, .slice Ao39 t347.length co39] ?_; (with_reducible refine (qO.calls kj2 a0_0 (fun k_ => some k_ = (.slice Ao38 t344.length co38 : Value).ownBlock) _ _ t344 a1_0 _ _ t347 t350 t351 _ ?side1 ?side2 ?side3 A26.out).mono ?_); (case side1 => exact Kd.R_V (Kd.jBw rfl (Kd.jZ (Kd.jZ (Kd.jZ (HO346.out) BK339.out (by decide)) BK340.out (by decide)) BK341.out (by decide)))); (case side2 => exact cc_ (Kd.jE HO349.out).2.2); (case side3 => exact (Kd.jE HO349.out).2.1); rintro e w40 ⟨v352, rfl, ho0, hb⟩; refine ⟨_, rfl, ?_⟩; have HO353 := jA.mk (Kd.zh (Kd.vZ (ok' := fun k_ => some k_ ≠ (.slice Ao39 t347.length co39 : Value).ownBlock ∧ k_ ≠ gb339 ∧ k_ ≠ gb340 ∧ k_ ≠ gb341) ho0 (fun k_ hk_ => ⟨Or.elim hk_ (fun hs_ => ((Kd.jZ (Kd.jZ (Kd.jZ (HO346.out) BK339.out (by decide)) BK340.out (by decide)) BK341.out (by decide)).1 k_ hs_.symm).1.1.1) (fun hn_ => (Kd.fresh' (Kd.R_lt (rR_ HO349)) k_ hn_)), Or.elim hk_ (fun hs_ => ((Kd.jZ (Kd.jZ (Kd.jZ (HO346.out) BK339.out (by decide)) BK340.out (by decide)) BK341.out (by decide)).1 k_ hs_.symm).1.1.2) (fun hn_ => (Kd.jAI (g := gb339) (o := .cells #[.bool a0_0, .slice A0_1 l0_1.length c0_1, .slice A0_2 l0_2.length c0_2] 44 (0, 0)) (kb_ BK339) k_ hn_)), Or.elim hk_ (fun hs_ => ((Kd.jZ (Kd.jZ (Kd.jZ (HO346.out) BK339.out (by decide)) BK340.out (by decide)) BK341.out (by decide)).1 k_ hs_.symm).1.2) (fun hn_ => (Kd.jAI (g := gb340) (o := .cells #[.bool a1_0, .slice A1_1 l1_1.length c1_1, .slice A1_2 l1_2.length c1_2] 44 (0, 0)) (kb_ BK340) k_ hn_)), Or.elim hk_ (fun hs_ => ((Kd.jZ (Kd.jZ (Kd.jZ (HO346.out) BK339.out (by decide)) BK340.out (by decide)) BK341.out (by decide)).1 k_ hs_.symm).2) (fun hn_ => (Kd.jAI (g := gb341) (o := .cells #[.bool false, .slice none 0 0, .slice none 0 0] 44 (0, 0)) (kb_ BK341) k_ hn_))⟩)) (jC (bb3_ HB GE339 GE340 GE341))); replace HO346 := ro_ HO346 hb; replace HO349 := ro_ HO349 hb; replace BK339 := bk_ BK339 hb; replace BK340 := bk_ BK340 hb; replace BK341 := bk_ BK341 hb; replace HB := jA.mk (jI (bb3_ HB GE339 GE340 GE341) hb); obtain ⟨hcz41_0, hcz41_1, hcz41_2, hfz41_0, hfz41_1, hfz41_2⟩ := bf3_ BK339; obtain ⟨hcz42_0, hcz42_1, hcz42_2, hfz42_0, hfz42_1, hfz42_2⟩ := bf3_ BK340) | ((with_reducible refine jH (f := 88) rfl ?_); refine gl_ (some 40) Try.func88 #[.slice A0_2 l0_2.length c0_2, .slice A1_2 l1_2.length c1_2] ?_; (with_reducible refine (jl.calls kj2 _ _ l0_2 _ _ l1_2 t354 _ ?side1 ?side2 ?side3 ?side4 A27.out).mono ?_); (case side1 => exact cb_ HR0_2 HB); (case side2 => exact HC0_2.out); (case side3 => exact cb_ HR1_2 HB); (case side4 => exact HC1_2.out); rintro e w43 ⟨v355, rfl, ho0, hb⟩; refine ⟨_, rfl, ?_⟩; replace HO353 := jA.mk (Kd.qA (rV_ HO353) (Kd.vB ho0) hb); have HO356 := jA.mk (Kd.jN (Kd.jL (Kd.jL ho0 (Kd.R_lt (rR_ HO346))) (Kd.R_lt (rR_ HO349))) (jC (bb3_ HB GE339 GE340 GE341))); replace HO346 := re_ HO346 ho0 hb; replace HO349 := re_ HO349 ho0 hb; replace BK339 := bk_ BK339 hb; replace BK340 := bk_ BK340 hb; replace BK341 := bk_ BK341 hb; replace HB := jA.mk (jI (bb3_ HB GE339 GE340 GE341) hb); obtain ⟨Ao44, co44, rfl⟩ := Kd.zR HO353.out; obtain ⟨Ao45, co45, rfl⟩ := Kd.jV HO356.out) | ((with_reducible refine jX (N := 45) rfl ?_); refine Kd.jHl (Kd.slice 22 (Kd.int .u64)) _ 35 ?hg (N' := 45) ?hd (xs := ([t344, t347, t351, t354] : List (List Int))) (inner := [.slice Ao38 t344.length co38, .slice Ao39 t347.length co39, .slice Ao44 t351.length co44, .slice Ao45 t354.length co45]) (ok := (fun k_ => k_ ≠ gb339 ∧ k_ ≠ gb340 ∧ k_ ≠ gb341)) (okp := (fun k_ => k_ ≠ gb339 ∧ k_ ≠ gb340 ∧ k_ ≠ gb341)) ?hr ?hp (fun _ hk => hk) ((show ∀ k_, w43.heap.size ≤ k_ → (fun k_ => k_ ≠ gb339 ∧ k_ ≠ gb340 ∧ k_ ≠ gb341) k_ from fun k_ hk => ⟨Kd.jAI (g := gb339) (o := .cells #[.bool a0_0, .slice A0_1 l0_1.length c0_1, .slice A0_2 l0_2.length c0_2] 44 (0, 0)) (kb_ BK339) k_ hk, Kd.jAI (g := gb340) (o := .cells #[.bool a1_0, .slice A1_1 l1_1.length c1_1, .slice A1_2 l1_2.length c1_2] 44 (0, 0)) (kb_ BK340) k_ hk, Kd.jAI (g := gb341) (o := .cells #[.bool false, .slice none 0 0, .slice none 0 0] 44 (0, 0)) (kb_ BK341) k_ hk⟩) _ (Nat.le_refl _)) (Below.refl _ _) (Nat.le_refl _) (by simp) ?_; (case hd => rfl); (case hg => rfl); (case hr => exact gs_); (case hp => exact (Reps.one (show Kd.FK (Kd.slice 22 (Kd.int .u64)) _ _ t344 [.slice Ao38 t344.length co38] from (Kd.qJ (Kd.jE (Kd.jT (ok' := (fun k_ => k_ ≠ gb339 ∧ k_ ≠ gb340 ∧ k_ ≠ gb341)) (Kd.jZ (Kd.jZ (Kd.jZ (HO346.out) BK339.out (by decide)) BK340.out (by decide)) BK341.out (by decide)) (fun k_ hk => ⟨hk.1.1.2, ⟨hk.1.2, hk.2⟩⟩))).2.1 (Kd.R_F (Kd.jT (ok' := (fun k_ => k_ ≠ gb339 ∧ k_ ≠ gb340 ∧ k_ ≠ gb341)) (Kd.jZ (Kd.jZ (Kd.jZ (HO346.out) BK339.out (by decide)) BK340.out (by decide)) BK341.out (by decide)) (fun k_ hk => ⟨hk.1.1.2, ⟨hk.1.2, hk.2⟩⟩))))) (Reps.one (show Kd.FK (Kd.slice 22 (Kd.int .u64)) _ _ t347 [.slice Ao39 t347.length co39] from (Kd.qJ (Kd.jE (Kd.jT (ok' := (fun k_ => k_ ≠ gb339 ∧ k_ ≠ gb340 ∧ k_ ≠ gb341)) (Kd.jZ (Kd.jZ (Kd.jZ (HO349.out) BK339.out (by decide)) BK340.out (by decide)) BK341.out (by decide)) (fun k_ hk => ⟨hk.1.1.2, ⟨hk.1.2, hk.2⟩⟩))).2.1 (Kd.R_F (Kd.jT (ok' := (fun k_ => k_ ≠ gb339 ∧ k_ ≠ gb340 ∧ k_ ≠ gb341)) (Kd.jZ (Kd.jZ (Kd.jZ (HO349.out) BK339.out (by decide)) BK340.out (by decide)) BK341.out (by decide)) (fun k_ hk => ⟨hk.1.1.2, ⟨hk.1.2, hk.2⟩⟩))))) (Reps.one (show Kd.FK (Kd.slice 22 (Kd.int .u64)) _ _ t351 [.slice Ao44 t351.length co44] from (Kd.qJ (Kd.vD (Kd.vZ (ok' := (fun k_ => k_ ≠ gb339 ∧ k_ ≠ gb340 ∧ k_ ≠ gb341)) (HO353.out) (fun k_ hk => ⟨hk.1.2.1, ⟨hk.1.2.2.1, hk.1.2.2.2⟩⟩))).2.1 (Kd.V_F (Kd.vZ (ok' := (fun k_ => k_ ≠ gb339 ∧ k_ ≠ gb340 ∧ k_ ≠ gb341)) (HO353.out) (fun k_ hk => ⟨hk.1.2.1, ⟨hk.1.2.2.1, hk.1.2.2.2⟩⟩))))) (Reps.one (show Kd.FK (Kd.slice 22 (Kd.int .u64)) _ _ t354 [.slice Ao45 t354.length co45] from (Kd.qJ (Kd.jE (Kd.jT (ok' := (fun k_ => k_ ≠ gb339 ∧ k_ ≠ gb340 ∧ k_ ≠ gb341)) (Kd.jZ (Kd.jZ (Kd.jZ (HO356.out) BK339.out (by decide)) BK340.out (by decide)) BK341.out (by decide)) (fun k_ hk => ⟨hk.1.1.2, ⟨hk.1.2, hk.2⟩⟩))).2.1 (Kd.R_F (Kd.jT (ok' := (fun k_ => k_ ≠ gb339 ∧ k_ ≠ gb340 ∧ k_ ≠ gb341)) (Kd.jZ (Kd.jZ (Kd.jZ (HO356.out) BK339.out (by decide)) BK340.out (by decide)) BK341.out (by decide)) (fun k_ hk => ⟨hk.1.1.2, ⟨hk.1.2, hk.2⟩⟩))))) (Reps.none _ _)))))); intro v358 w46 ho47 hb hg_ hnew_; clear hg_ hnew_; (first | rw [← Ny357.out] at ho47 | (simp only [Int.reduceToNat] at ho47; rw [← Ny357.out] at ho47)); replace HO353 := jA.mk (Kd.qA (rV_ HO353) (Kd.jEF ho47) hb); have HO359 := jA.mk (Kd.jDc ho47 (jC (bb3_ HB GE339 GE340 GE341))); replace BK339 := bk_ BK339 hb; replace BK340 := bk_ BK340 hb; replace BK341 := bk_ BK341 hb; replace HB := jA.mk (jI (bb3_ HB GE339 GE340 GE341) hb); clear HO346 HO349 HO356 hb ho47; obtain ⟨Ao48, co48, rfl⟩ := Kd.jDb HO359.out) | ((with_reducible refine jH (f := 89) rfl ?_); refine gl_ (some 46) Try.func89 #[.slice Ao48 y357.length co48] ?_; (with_reducible refine (vR.calls _ _ y357 true _ ?side1 ?side2 A28.out).mono ?_); (case side1 => repeat (first | exact (Kd.jAs HO359.out).2.2 | (with_reducible refine Kd.zJ ?_ _) | (with_reducible refine Kd.zU ?_ _) | (with_reducible refine Kd.zx ?_))); (case side2 => exact (Kd.jAs HO359.out).2.1); rintro e w' ⟨rfl, ⟨nd, rfl⟩⟩; refine ⟨_, rfl, ?_⟩; (try (rw [qh w46]; generalize hq_ : World.drewN w46 _ = w46; replace HO353 : jA (Kd.V (Kd.int .u64) 22 w46 w.heap.size (fun k_ => some k_ ≠ (.slice Ao48 y357.length co48 : Value).ownBlock ∧ k_ ≠ gb339 ∧ k_ ≠ gb340 ∧ k_ ≠ gb341) (.slice Ao44 t351.length co44) t351) := ⟨by rw [← hq_]; exact (by refine pV_ ?_; exact Kd.vZ HO353.out (fun _ hk => ⟨hk.2, ⟨hk.1.1.2.1, ⟨hk.1.1.2.2.1, hk.1.1.2.2.2⟩⟩⟩))⟩; replace HO359 : jA (Kd.N (Kd.slice 22 (Kd.int .u64)) 35 w46 w.heap.size (fun k_ => k_ ≠ gb339 ∧ k_ ≠ gb340 ∧ k_ ≠ gb341) (.slice Ao48 y357.length co48) y357) := ⟨by rw [← hq_]; exact (rN_ HO359)⟩; replace BK339 : jA (w46.heap[gb339]? = some (.cells #[.bool a0_0, .slice A0_1 l0_1.length c0_1, .slice A0_2 l0_2.length c0_2] 44 (0, 0))) := ⟨by rw [← hq_]; exact (kb_ BK339)⟩; replace BK340 : jA (w46.heap[gb340]? = some (.cells #[.bool a1_0, .slice A1_1 l1_1.length c1_1, .slice A1_2 l1_2.length c1_2] 44 (0, 0))) := ⟨by rw [← hq_]; exact (kb_ BK340)⟩; replace BK341 : jA (w46.heap[gb341]? = some (.cells #[.bool false, .slice none 0 0, .slice none 0 0] 44 (0, 0))) := ⟨by rw [← hq_]; exact (kb_ BK341)⟩; replace HB : jA (Below w.heap.size w w46) := ⟨by rw [← hq_]; exact (bb3_ HB GE339 GE340 GE341)⟩; clear hq_)); obtain ⟨hcz49_0, hcz49_1, hcz49_2, hfz49_0, hfz49_1, hfz49_2⟩ := bf3_ BK341))
     refine bodyPost_ret (zn rfl _ _ gb341 44 #[.bool false, .slice none 0 0, .slice none 0 0] (0, 0) _ rfl (by refine pk_ ?_; refine jm (cs := #[.bool false, .slice none 0 0, .slice none 0 0]) ?_ 2 _ rs_; refine pk_ ?_; refine jm (cs := #[.bool false, .slice none 0 0, .slice none 0 0]) ?_ 1 _ rs_; refine pk_ ?_; refine jm (cs := #[.bool false, .slice none 0 0, .slice none 0 0]) ?_ 0 _ rs_; refine pk_ ?_; exact BK341.out) Try.underlying44 rfl kr_) rfl ?_
     exact ⟨_, _, ew_, nl_, nl_, (bb3_ HB GE339 GE340 GE341)⟩
    ·
     replace c29 := Bool.eq_false_iff.mpr c29
     subst c29
     replace H := in_ H
     replace H := ob_ H
     obtain ⟨⟨t361, t362, t365, t368⟩, A500, H⟩ := H
     try dsimp only at H
     have A50 := jA.mk A500
     clear A500
     simp only [Option.some.injEq, Prod.mk.injEq] at H
     obtain ⟨rfl, rfl, rfl, rfl⟩ := H
     have hnb51 := NB339_340.out
     have hnc51 := NB340_339.out
     have hnb52 := NB339_341.out
     have hnc52 := NB341_339.out
     have hcz53_0 : wc.cell? ⟨gb339, 0, none⟩ = some (.bool a0_0) := (jB BK339.out 0).trans rfl
     have hcz53_1 : wc.cell? ⟨gb339, 1, none⟩ = some (.slice A0_1 l0_1.length c0_1) := (jB BK339.out 1).trans rfl
     have hcz53_2 : wc.cell? ⟨gb339, 2, none⟩ = some (.slice A0_2 l0_2.length c0_2) := (jB BK339.out 2).trans rfl
     have hfz53_0 := jg BK339.out 0
     have hfz53_1 := jg BK339.out 1
     have hfz53_2 := jg BK339.out 2
     have hnb54 := NB340_341.out
     have hnc54 := NB341_340.out
     have hcz55_0 : wc.cell? ⟨gb340, 0, none⟩ = some (.bool a1_0) := (jB BK340.out 0).trans rfl
     have hcz55_1 : wc.cell? ⟨gb340, 1, none⟩ = some (.slice A1_1 l1_1.length c1_1) := (jB BK340.out 1).trans rfl
     have hcz55_2 : wc.cell? ⟨gb340, 2, none⟩ = some (.slice A1_2 l1_2.length c1_2) := (jB BK340.out 2).trans rfl
     have hfz55_0 := jg BK340.out 0
     have hfz55_1 := jg BK340.out 1
     have hfz55_2 := jg BK340.out 2
     go_wp2_with (first | ((with_reducible refine jH (f := 86) rfl ?_); refine gl_ (some 23) Try.func86 #[.agg #[.bool a0_0, .slice A0_1 l0_1.length c0_1, .slice A0_2 l0_2.length c0_2], .agg #[.bool a1_0, .slice A1_1 l1_1.length c1_1, .slice A1_2 l1_2.length c1_2]] ?_; (with_reducible refine (vJ.calls kj2 a0_0 _ _ l0_1 _ _ l0_2 a1_0 _ _ l1_1 _ _ l1_2 t344 t347 _ ?side1 ?side2 ?side3 ?side4 ?side5 ?side6 ?side7 ?side8 A25.out).mono ?_); (case side1 => exact cb_ HR0_1 HB); (case side2 => exact HC0_1.out); (case side3 => exact cb_ HR0_2 HB); (case side4 => exact HC0_2.out); (case side5 => exact cb_ HR1_1 HB); (case side6 => exact HC1_1.out); (case side7 => exact cb_ HR1_2 HB); (case side8 => exact HC1_2.out); rintro e w56 ⟨v345, v348, rfl, ho0, ho1, hb⟩; refine ⟨_, rfl, ?_⟩; have HO346 := jA.mk (Kd.jN ho0 (jC (bb3_ HB GE339 GE340 GE341))); have HO349 := jA.mk (Kd.jN ho1 (jC (bb3_ HB GE339 GE340 GE341))); replace BK339 := bk_ BK339 hb; replace BK340 := bk_ BK340 hb; replace BK341 := bk_ BK341 hb; replace HB := jA.mk (jI (bb3_ HB GE339 GE340 GE341) hb); obtain ⟨hcz57_0, hcz57_1, hcz57_2, hfz57_0, hfz57_1, hfz57_2⟩ := bf3_ BK339; obtain ⟨hcz58_0, hcz58_1, hcz58_2, hfz58_0, hfz58_1, hfz58_2⟩ := bf3_ BK340; obtain ⟨Ao59, co59, rfl⟩ := Kd.jV HO346.out; obtain ⟨Ao60, co60, rfl⟩ := Kd.jV HO349.out) | ((with_reducible refine jH (f := 87) rfl ?_); refine gl_ (some 33) Try.func87 #[.bool a0_0, .slice Ao59 t344.length co59, .bool a1_0, .slice Ao60 t347.length co60] ?_; (with_reducible refine (qO.calls kj2 a0_0 (fun k_ => some k_ = (.slice Ao59 t344.length co59 : Value).ownBlock) _ _ t344 a1_0 _ _ t347 t350 t351 _ ?side1 ?side2 ?side3 A26.out).mono ?_); (case side1 => exact Kd.R_V (Kd.jBw rfl (Kd.jZ (Kd.jZ (Kd.jZ (HO346.out) BK339.out (by decide)) BK340.out (by decide)) BK341.out (by decide)))); (case side2 => exact cc_ (Kd.jE HO349.out).2.2); (case side3 => exact (Kd.jE HO349.out).2.1); rintro e w61 ⟨v352, rfl, ho0, hb⟩; refine ⟨_, rfl, ?_⟩; have HO353 := jA.mk (Kd.zh (Kd.vZ (ok' := fun k_ => some k_ ≠ (.slice Ao60 t347.length co60 : Value).ownBlock ∧ k_ ≠ gb339 ∧ k_ ≠ gb340 ∧ k_ ≠ gb341) ho0 (fun k_ hk_ => ⟨Or.elim hk_ (fun hs_ => ((Kd.jZ (Kd.jZ (Kd.jZ (HO346.out) BK339.out (by decide)) BK340.out (by decide)) BK341.out (by decide)).1 k_ hs_.symm).1.1.1) (fun hn_ => (Kd.fresh' (Kd.R_lt (rR_ HO349)) k_ hn_)), Or.elim hk_ (fun hs_ => ((Kd.jZ (Kd.jZ (Kd.jZ (HO346.out) BK339.out (by decide)) BK340.out (by decide)) BK341.out (by decide)).1 k_ hs_.symm).1.1.2) (fun hn_ => (Kd.jAI (g := gb339) (o := .cells #[.bool a0_0, .slice A0_1 l0_1.length c0_1, .slice A0_2 l0_2.length c0_2] 44 (0, 0)) (kb_ BK339) k_ hn_)), Or.elim hk_ (fun hs_ => ((Kd.jZ (Kd.jZ (Kd.jZ (HO346.out) BK339.out (by decide)) BK340.out (by decide)) BK341.out (by decide)).1 k_ hs_.symm).1.2) (fun hn_ => (Kd.jAI (g := gb340) (o := .cells #[.bool a1_0, .slice A1_1 l1_1.length c1_1, .slice A1_2 l1_2.length c1_2] 44 (0, 0)) (kb_ BK340) k_ hn_)), Or.elim hk_ (fun hs_ => ((Kd.jZ (Kd.jZ (Kd.jZ (HO346.out) BK339.out (by decide)) BK340.out (by decide)) BK341.out (by decide)).1 k_ hs_.symm).2) (fun hn_ => (Kd.jAI (g := gb341) (o := .cells #[.bool false, .slice none 0 0, .slice none 0 0] 44 (0, 0)) (kb_ BK341) k_ hn_))⟩)) (jC (bb3_ HB GE339 GE340 GE341))); replace HO346 := ro_ HO346 hb; replace HO349 := ro_ HO349 hb; replace BK339 := bk_ BK339 hb; replace BK340 := bk_ BK340 hb; replace BK341 := bk_ BK341 hb; replace HB := jA.mk (jI (bb3_ HB GE339 GE340 GE341) hb); obtain ⟨hcz62_0, hcz62_1, hcz62_2, hfz62_0, hfz62_1, hfz62_2⟩ := bf3_ BK339; obtain ⟨hcz63_0, hcz63_1, hcz63_2, hfz63_0, hfz63_1, hfz63_2⟩ := bf3_ BK340) | ((with_reducible refine jH (f := 88) rfl ?_); refine gl_ (some 40) Try.func88 #[.slice A0_2 l0_2.length c0_2, .slice A1_2 l1_2.length c1_2] ?_; (with_reducible refine (jl.calls kj2 _ _ l0_2 _ _ l1_2 t354 _ ?side1 ?side2 ?side3 ?side4 A27.out).mono ?_); (case side1 => exact cb_ HR0_2 HB); (case side2 => exact HC0_2.out); (case side3 => exact cb_ HR1_2 HB); (case side4 => exact HC1_2.out); rintro e w64 ⟨v355, rfl, ho0, hb⟩; refine ⟨_, rfl, ?_⟩; replace HO353 := jA.mk (Kd.qA (rV_ HO353) (Kd.vB ho0) hb); have HO356 := jA.mk (Kd.jN (Kd.jL (Kd.jL ho0 (Kd.R_lt (rR_ HO346))) (Kd.R_lt (rR_ HO349))) (jC (bb3_ HB GE339 GE340 GE341))); replace HO346 := re_ HO346 ho0 hb; replace HO349 := re_ HO349 ho0 hb; replace BK339 := bk_ BK339 hb; replace BK340 := bk_ BK340 hb; replace BK341 := bk_ BK341 hb; replace HB := jA.mk (jI (bb3_ HB GE339 GE340 GE341) hb); obtain ⟨Ao65, co65, rfl⟩ := Kd.zR HO353.out; obtain ⟨Ao66, co66, rfl⟩ := Kd.jV HO356.out) | ((with_reducible refine jX (N := 45) rfl ?_); refine Kd.jHl (Kd.slice 22 (Kd.int .u64)) _ 35 ?hg (N' := 45) ?hd (xs := ([t344, t347, t351, t354] : List (List Int))) (inner := [.slice Ao59 t344.length co59, .slice Ao60 t347.length co60, .slice Ao65 t351.length co65, .slice Ao66 t354.length co66]) (ok := (fun k_ => k_ ≠ gb339 ∧ k_ ≠ gb340 ∧ k_ ≠ gb341)) (okp := (fun k_ => k_ ≠ gb339 ∧ k_ ≠ gb340 ∧ k_ ≠ gb341)) ?hr ?hp (fun _ hk => hk) ((show ∀ k_, w64.heap.size ≤ k_ → (fun k_ => k_ ≠ gb339 ∧ k_ ≠ gb340 ∧ k_ ≠ gb341) k_ from fun k_ hk => ⟨Kd.jAI (g := gb339) (o := .cells #[.bool a0_0, .slice A0_1 l0_1.length c0_1, .slice A0_2 l0_2.length c0_2] 44 (0, 0)) (kb_ BK339) k_ hk, Kd.jAI (g := gb340) (o := .cells #[.bool a1_0, .slice A1_1 l1_1.length c1_1, .slice A1_2 l1_2.length c1_2] 44 (0, 0)) (kb_ BK340) k_ hk, Kd.jAI (g := gb341) (o := .cells #[.bool false, .slice none 0 0, .slice none 0 0] 44 (0, 0)) (kb_ BK341) k_ hk⟩) _ (Nat.le_refl _)) (Below.refl _ _) (Nat.le_refl _) (by simp) ?_; (case hd => rfl); (case hg => rfl); (case hr => exact gs_); (case hp => exact (Reps.one (show Kd.FK (Kd.slice 22 (Kd.int .u64)) _ _ t344 [.slice Ao59 t344.length co59] from (Kd.qJ (Kd.jE (Kd.jT (ok' := (fun k_ => k_ ≠ gb339 ∧ k_ ≠ gb340 ∧ k_ ≠ gb341)) (Kd.jZ (Kd.jZ (Kd.jZ (HO346.out) BK339.out (by decide)) BK340.out (by decide)) BK341.out (by decide)) (fun k_ hk => ⟨hk.1.1.2, ⟨hk.1.2, hk.2⟩⟩))).2.1 (Kd.R_F (Kd.jT (ok' := (fun k_ => k_ ≠ gb339 ∧ k_ ≠ gb340 ∧ k_ ≠ gb341)) (Kd.jZ (Kd.jZ (Kd.jZ (HO346.out) BK339.out (by decide)) BK340.out (by decide)) BK341.out (by decide)) (fun k_ hk => ⟨hk.1.1.2, ⟨hk.1.2, hk.2⟩⟩))))) (Reps.one (show Kd.FK (Kd.slice 22 (Kd.int .u64)) _ _ t347 [.slice Ao60 t347.length co60] from (Kd.qJ (Kd.jE (Kd.jT (ok' := (fun k_ => k_ ≠ gb339 ∧ k_ ≠ gb340 ∧ k_ ≠ gb341)) (Kd.jZ (Kd.jZ (Kd.jZ (HO349.out) BK339.out (by decide)) BK340.out (by decide)) BK341.out (by decide)) (fun k_ hk => ⟨hk.1.1.2, ⟨hk.1.2, hk.2⟩⟩))).2.1 (Kd.R_F (Kd.jT (ok' := (fun k_ => k_ ≠ gb339 ∧ k_ ≠ gb340 ∧ k_ ≠ gb341)) (Kd.jZ (Kd.jZ (Kd.jZ (HO349.out) BK339.out (by decide)) BK340.out (by decide)) BK341.out (by decide)) (fun k_ hk => ⟨hk.1.1.2, ⟨hk.1.2, hk.2⟩⟩))))) (Reps.one (show Kd.FK (Kd.slice 22 (Kd.int .u64)) _ _ t351 [.slice Ao65 t351.length co65] from (Kd.qJ (Kd.vD (Kd.vZ (ok' := (fun k_ => k_ ≠ gb339 ∧ k_ ≠ gb340 ∧ k_ ≠ gb341)) (HO353.out) (fun k_ hk => ⟨hk.1.2.1, ⟨hk.1.2.2.1, hk.1.2.2.2⟩⟩))).2.1 (Kd.V_F (Kd.vZ (ok' := (fun k_ => k_ ≠ gb339 ∧ k_ ≠ gb340 ∧ k_ ≠ gb341)) (HO353.out) (fun k_ hk => ⟨hk.1.2.1, ⟨hk.1.2.2.1, hk.1.2.2.2⟩⟩))))) (Reps.one (show Kd.FK (Kd.slice 22 (Kd.int .u64)) _ _ t354 [.slice Ao66 t354.length co66] from (Kd.qJ (Kd.jE (Kd.jT (ok' := (fun k_ => k_ ≠ gb339 ∧ k_ ≠ gb340 ∧ k_ ≠ gb341)) (Kd.jZ (Kd.jZ (Kd.jZ (HO356.out) BK339.out (by decide)) BK340.out (by decide)) BK341.out (by decide)) (fun k_ hk => ⟨hk.1.1.2, ⟨hk.1.2, hk.2⟩⟩))).2.1 (Kd.R_F (Kd.jT (ok' := (fun k_ => k_ ≠ gb339 ∧ k_ ≠ gb340 ∧ k_ ≠ gb341)) (Kd.jZ (Kd.jZ (Kd.jZ (HO356.out) BK339.out (by decide)) BK340.out (by decide)) BK341.out (by decide)) (fun k_ hk => ⟨hk.1.1.2, ⟨hk.1.2, hk.2⟩⟩))))) (Reps.none _ _)))))); intro v358 w67 ho68 hb hg_ hnew_; clear hg_ hnew_; (first | rw [← Ny357.out] at ho68 | (simp only [Int.reduceToNat] at ho68; rw [← Ny357.out] at ho68)); have n0_ := jA.mk (Kd.qA (rV_ HO353) (Kd.jEF ho68) hb); have n1_ := jA.mk (Kd.jDc ho68 (jC (bb3_ HB GE339 GE340 GE341))); have n2_ := bk_ BK339 hb; have n3_ := bk_ BK340 hb; have n4_ := bk_ BK341 hb; have n5_ := jA.mk (jI (bb3_ HB GE339 GE340 GE341) hb); have m0_ := jA.mk (Kd.jAS (rR_ HO356) (Kd.jEF ho68) hb); clear HO353 BK339 BK340 BK341 HB HO346 HO349 HO356; have HO353 := n0_; have HO359 := n1_; have BK339 := n2_; have BK340 := n3_; have BK341 := n4_; have HB := n5_; clear n0_ n1_ n2_ n3_ n4_ n5_; have HO356 := m0_; clear m0_ hb ho68; obtain ⟨Ao69, co69, rfl⟩ := Kd.jDb HO359.out) | ((with_reducible refine jH (f := 89) rfl ?_); refine gl_ (some 46) Try.func89 #[.slice Ao69 y357.length co69] ?_; (with_reducible refine (vR.calls _ _ y357 false _ ?side1 ?side2 A28.out).mono ?_); (case side1 => repeat (first | exact (Kd.jAs HO359.out).2.2 | (with_reducible refine Kd.zJ ?_ _) | (with_reducible refine Kd.zU ?_ _) | (with_reducible refine Kd.zx ?_))); (case side2 => exact (Kd.jAs HO359.out).2.1); rintro e w' ⟨rfl, ⟨nd, rfl⟩⟩; refine ⟨_, rfl, ?_⟩; (try (rw [qh w67]; generalize hq_ : World.drewN w67 _ = w67; have m0_ := jA.mk (show Kd.R (Kd.int .u64) 22 w67 w.heap.size _ _ _ from (by rw [← hq_]; exact (rR_ HO356))); replace HO353 : jA (Kd.V (Kd.int .u64) 22 w67 w.heap.size (fun k_ => some k_ ≠ (.slice Ao69 y357.length co69 : Value).ownBlock ∧ k_ ≠ gb339 ∧ k_ ≠ gb340 ∧ k_ ≠ gb341) (.slice Ao65 t351.length co65) t351) := ⟨by rw [← hq_]; exact (by refine pV_ ?_; exact Kd.vZ HO353.out (fun _ hk => ⟨hk.2, ⟨hk.1.1.2.1, ⟨hk.1.1.2.2.1, hk.1.1.2.2.2⟩⟩⟩))⟩; replace HO359 : jA (Kd.N (Kd.slice 22 (Kd.int .u64)) 35 w67 w.heap.size (fun k_ => k_ ≠ gb339 ∧ k_ ≠ gb340 ∧ k_ ≠ gb341) (.slice Ao69 y357.length co69) y357) := ⟨by rw [← hq_]; exact (rN_ HO359)⟩; replace BK339 : jA (w67.heap[gb339]? = some (.cells #[.bool a0_0, .slice A0_1 l0_1.length c0_1, .slice A0_2 l0_2.length c0_2] 44 (0, 0))) := ⟨by rw [← hq_]; exact (kb_ BK339)⟩; replace BK340 : jA (w67.heap[gb340]? = some (.cells #[.bool a1_0, .slice A1_1 l1_1.length c1_1, .slice A1_2 l1_2.length c1_2] 44 (0, 0))) := ⟨by rw [← hq_]; exact (kb_ BK340)⟩; replace BK341 : jA (w67.heap[gb341]? = some (.cells #[.bool false, .slice none 0 0, .slice none 0 0] 44 (0, 0))) := ⟨by rw [← hq_]; exact (kb_ BK341)⟩; replace HB : jA (Below w.heap.size w w67) := ⟨by rw [← hq_]; exact (bb3_ HB GE339 GE340 GE341)⟩; clear hq_ HO356; have HO356 := m0_; clear m0_))) | ((with_reducible refine jH (f := 24) rfl ?_); refine gl_ (some 51) Try.func24 #[.bool t350, .slice Ao65 t351.length co65, .slice Ao66 t354.length co66] ?_; (with_reducible refine (zm.calls kj2 t350 _ _ t351 _ _ t354 t361 t362 t365 t368 _ ?side1 ?side2 ?side3 ?side4 A50.out).mono ?_); (case side1 => repeat (first | exact (Kd.vD HO353.out).2.2 | (with_reducible refine Kd.zJ ?_ _) | (with_reducible refine Kd.zU ?_ _) | (with_reducible refine Kd.zx ?_))); (case side2 => exact (Kd.vD HO353.out).2.1); (case side3 => exact cc_ (Kd.jE HO356.out).2.2); (case side4 => exact (Kd.jE HO356.out).2.1); rintro e w70 ⟨v363, v366, rfl, ho0, ho1, hb⟩; refine ⟨_, rfl, ?_⟩; replace HO353 := jA.mk (Kd.vZ (Kd.jAr (Kd.jAr (Kd.jEb (rV_ HO353) hb) (Kd.vB ho0)) (Kd.vB ho1)) (fun _ h_ => h_.1)); replace HO359 := jA.mk (Kd.jGo (Kd.jFN (Kd.jFN (Kd.jKL (rN_ HO359) hb) (Kd.vB ho0)) (Kd.vB ho1)) (fun _ h_ => h_.1)); have HO364 := jA.mk (Kd.jN ho0 (jC (bb3_ HB GE339 GE340 GE341))); have HO367 := jA.mk (Kd.jN ho1 (jC (bb3_ HB GE339 GE340 GE341))); replace BK339 := bk_ BK339 hb; replace BK340 := bk_ BK340 hb; replace BK341 := bk_ BK341 hb; replace HB := jA.mk (jI (bb3_ HB GE339 GE340 GE341) hb); obtain ⟨hcz71_0, hcz71_1, hcz71_2, hfz71_0, hfz71_1, hfz71_2⟩ := bf3_ BK341; obtain ⟨Ao72, co72, rfl⟩ := Kd.jV HO364.out; obtain ⟨Ao73, co73, rfl⟩ := Kd.jV HO367.out))
     refine bodyPost_ret (zn rfl _ _ gb341 44 #[.bool t361, .slice Ao72 t362.length co72, .slice Ao73 t365.length co73] (0, 0) _ rfl (by refine pk_ ?_; refine jm (cs := #[.bool t361, .slice Ao72 t362.length co72, .slice none 0 0]) ?_ 2 _ rs_; refine pk_ ?_; refine jm (cs := #[.bool t361, .slice none 0 0, .slice none 0 0]) ?_ 1 _ rs_; refine pk_ ?_; refine jm (cs := #[.bool false, .slice none 0 0, .slice none 0 0]) ?_ 0 _ rs_; refine pk_ ?_; exact BK341.out) Try.underlying44 rfl kr_) rfl ?_
     exact ⟨_, _, ew_, by refine pR_ ?_; exact Kd.jT (Kd.vQ (p := ⟨gb341, 2, none⟩) (Kd.vQ (p := ⟨gb341, 1, none⟩) (Kd.vQ (p := ⟨gb341, 0, none⟩) (Kd.jZ HO364.out BK341.out (by decide)) (fun _ hk => hk.2) (.bool t361)) (fun _ hk => hk.2) (.slice Ao72 t362.length co72)) (fun _ hk => hk.2) (.slice Ao73 t365.length co73)) (fun _ hk => hk.1), by refine pR_ ?_; exact Kd.jT (Kd.vQ (p := ⟨gb341, 2, none⟩) (Kd.vQ (p := ⟨gb341, 1, none⟩) (Kd.vQ (p := ⟨gb341, 0, none⟩) (Kd.jZ HO367.out BK341.out (by decide)) (fun _ hk => hk.2) (.bool t361)) (fun _ hk => hk.2) (.slice Ao72 t362.length co72)) (fun _ hk => hk.2) (.slice Ao73 t365.length co73)) (fun _ hk => hk.1), (bb3_ HB GE339 GE340 GE341)⟩
def zP.f (k : Nat)  : Option (Bool) := (vL.f k false (([1] : List Int)) (([6] : List Int)) false (([1] : List Int)) (([3] : List Int))).bind fun bt381 => (if bt381.2.2.2 = 0 then ((vC.f k bt381.1 bt381.2.1 bt381.2.2.1 false (([1] : List Int)) (([2] : List Int))).bind fun t396 => (some t396)) else (some false))
theorem zP.mono : ∀ k, LeO (zP.f k ) (zP.f (k + 1) ) := by
 intro  k
 unfold zP.f
 repeat' first
   | (with_reducible exact vL.mono _ _ _ _ _ _ _)
   | (with_reducible exact vC.mono _ _ _ _ _ _ _)
   | (with_reducible exact LeO.refl _)
   | (with_reducible exact LeO.none _)
   | (with_reducible refine LeO.ite ?_ ?_)
   | (with_reducible refine LeO.bind ?_ (fun _ => ?_))
theorem zP.calls (k : Nat)  (r : Bool) (w : World) (h : zP.f k  = some r) :
  Calls Try.prog 28 #[] w fun e w' => e = .returned (.bool r) ∧ Below w.heap.size w w' := by
 have hu44 := Try.underlying44
 have HB := jA.mk (Below.refl w.heap.size w)
 have H : ((vL.f k false (([1] : List Int)) (([6] : List Int)) false (([1] : List Int)) (([3] : List Int))).bind fun bt381 => (if bt381.2.2.2 = 0 then ((vC.f k bt381.1 bt381.2.1 bt381.2.2.1 false (([1] : List Int)) (([2] : List Int))).bind fun t396 => (some t396)) else (some false))) = some r := h
 clear h
 obtain ⟨y369, hy369⟩ : ∃ y_ : List Int, y_ = (([1] : List Int)) := ⟨_, rfl⟩
 replace H : ((vL.f k false y369 (([6] : List Int)) false (([1] : List Int)) (([3] : List Int))).bind fun bt381 => (if bt381.2.2.2 = 0 then ((vC.f k bt381.1 bt381.2.1 bt381.2.2.1 false (([1] : List Int)) (([2] : List Int))).bind fun t396 => (some t396)) else (some false))) = some r := by first | (rw [hy369]; with_reducible exact H) | (have H2_ := (Option.bind_some _ _).symm.trans H; rw [hy369]; with_reducible exact H2_) | (with_reducible exact hs_ H) | with_reducible exact H | (rw [hy369]; exact H) | exact H
 have Ny369 := jA.mk hy369
 clear hy369
 obtain ⟨y372, hy372⟩ : ∃ y_ : List Int, y_ = (([6] : List Int)) := ⟨_, rfl⟩
 replace H : ((vL.f k false y369 y372 false (([1] : List Int)) (([3] : List Int))).bind fun bt381 => (if bt381.2.2.2 = 0 then ((vC.f k bt381.1 bt381.2.1 bt381.2.2.1 false (([1] : List Int)) (([2] : List Int))).bind fun t396 => (some t396)) else (some false))) = some r := by first | (rw [hy372]; with_reducible exact H) | (have H2_ := (Option.bind_some _ _).symm.trans H; rw [hy372]; with_reducible exact H2_) | (with_reducible exact hs_ H) | with_reducible exact H | (rw [hy372]; exact H) | exact H
 have Ny372 := jA.mk hy372
 clear hy372
 obtain ⟨y375, hy375⟩ : ∃ y_ : List Int, y_ = (([1] : List Int)) := ⟨_, rfl⟩
 replace H : ((vL.f k false y369 y372 false y375 (([3] : List Int))).bind fun bt381 => (if bt381.2.2.2 = 0 then ((vC.f k bt381.1 bt381.2.1 bt381.2.2.1 false (([1] : List Int)) (([2] : List Int))).bind fun t396 => (some t396)) else (some false))) = some r := by first | (rw [hy375]; with_reducible exact H) | (have H2_ := (Option.bind_some _ _).symm.trans H; rw [hy375]; with_reducible exact H2_) | (with_reducible exact hs_ H) | with_reducible exact H | (rw [hy375]; exact H) | exact H
 have Ny375 := jA.mk hy375
 clear hy375
 obtain ⟨y378, hy378⟩ : ∃ y_ : List Int, y_ = (([3] : List Int)) := ⟨_, rfl⟩
 replace H : ((vL.f k false y369 y372 false y375 y378).bind fun bt381 => (if bt381.2.2.2 = 0 then ((vC.f k bt381.1 bt381.2.1 bt381.2.2.1 false (([1] : List Int)) (([2] : List Int))).bind fun t396 => (some t396)) else (some false))) = some r := by first | (rw [hy378]; with_reducible exact H) | (have H2_ := (Option.bind_some _ _).symm.trans H; rw [hy378]; with_reducible exact H2_) | (with_reducible exact hs_ H) | with_reducible exact H | (rw [hy378]; exact H) | exact H
 have Ny378 := jA.mk hy378
 clear hy378
 replace H := ob_ H
 obtain ⟨⟨t381, t382, t385, t388⟩, A10, H⟩ := H
 try dsimp only at H
 have A1 := jA.mk A10
 clear A10
 by_cases c2 : t388 = 0
 ·
  rw [if_pos c2] at H
  have c2b0 := beq_iff_eq.mpr c2
  have c2b1 := bne_eq_false_iff_eq.mpr c2
  clear c2
  obtain ⟨y390, hy390⟩ : ∃ y_ : List Int, y_ = (([1] : List Int)) := ⟨_, rfl⟩
  replace H : ((vC.f k t381 t382 t385 false y390 (([2] : List Int))).bind fun t396 => (some t396)) = some r := by first | (rw [hy390]; with_reducible exact H) | (have H2_ := (Option.bind_some _ _).symm.trans H; rw [hy390]; with_reducible exact H2_) | (with_reducible exact hs_ H) | with_reducible exact H | (rw [hy390]; exact H) | exact H
  have Ny390 := jA.mk hy390
  clear hy390
  obtain ⟨y393, hy393⟩ : ∃ y_ : List Int, y_ = (([2] : List Int)) := ⟨_, rfl⟩
  replace H : ((vC.f k t381 t382 t385 false y390 y393).bind fun t396 => (some t396)) = some r := by first | (rw [hy393]; with_reducible exact H) | (have H2_ := (Option.bind_some _ _).symm.trans H; rw [hy393]; with_reducible exact H2_) | (with_reducible exact hs_ H) | with_reducible exact H | (rw [hy393]; exact H) | exact H
  have Ny393 := jA.mk hy393
  clear hy393
  replace H := ob_ H
  obtain ⟨t396, A30, H⟩ := H
  replace H : (some t396) = some r := H
  have A3 := jA.mk A30
  clear A30
  obtain rfl := Option.some.inj H
  go_enter Try.func28, Try.ntmps28
  go_wp2_with (first | ((with_reducible refine jX (N := 4) rfl ?_); (try (refine jr (by rfl) ?_; dsimp only)); refine Kd.jAC (Kd.int .u64) _ 22 ?hg (N := 4) ?hd (xs := ([1] : List Int)) (inner := [.int .u64 1]) (ok := fun _ => True) (okp := fun _ => True) ?hr ?hp (fun _ hk => hk) trivial (Below.refl _ _) (Nat.le_refl _) (by simp) ?_; (case hd => rfl); (case hg => rfl); (case hr => exact gs_); (case hp => exact (Reps.one (show Kd.M (Kd.int .u64) _ _ _ 1 [.int .u64 1] from rfl) (Reps.none _ _))); intro v370 w4 ho5 hb hg_ hnew_; clear hg_ hnew_; (first | rw [← Ny369.out] at ho5 | (simp only [Int.reduceToNat] at ho5; rw [← Ny369.out] at ho5)); have HO371 := jA.mk (Kd.jN ho5 (jC (bb_ HB))); replace HB := bs_ HB hb; clear hb ho5) | ((with_reducible refine jX (N := 5) rfl ?_); (try (refine jr (by rfl) ?_; dsimp only)); refine Kd.jAC (Kd.int .u64) _ 22 ?hg (N := 5) ?hd (xs := ([6] : List Int)) (inner := [.int .u64 6]) (ok := fun _ => True) (okp := fun _ => True) ?hr ?hp (fun _ hk => hk) trivial (Below.refl _ _) (Nat.le_refl _) (by simp) ?_; (case hd => rfl); (case hg => rfl); (case hr => exact gs_); (case hp => exact (Reps.one (show Kd.M (Kd.int .u64) _ _ _ 6 [.int .u64 6] from rfl) (Reps.none _ _))); intro v373 w6 ho7 hb hg_ hnew_; clear hg_ hnew_; (first | rw [← Ny372.out] at ho7 | (simp only [Int.reduceToNat] at ho7; rw [← Ny372.out] at ho7)); have HO374 := jA.mk (Kd.jN (Kd.jL ho7 (Kd.R_lt (rR_ HO371))) (jC (bb_ HB))); replace HO371 := re_ HO371 ho7 hb; replace HB := bs_ HB hb; clear hb ho7; obtain ⟨Ao8, co8, rfl⟩ := Kd.jV HO374.out; obtain ⟨Ao9, co9, rfl⟩ := Kd.jV HO371.out) | ((with_reducible refine jX (N := 7) rfl ?_); (try (refine jr (by rfl) ?_; dsimp only)); refine Kd.jAC (Kd.int .u64) _ 22 ?hg (N := 7) ?hd (xs := ([1] : List Int)) (inner := [.int .u64 1]) (ok := fun _ => True) (okp := fun _ => True) ?hr ?hp (fun _ hk => hk) trivial (Below.refl _ _) (Nat.le_refl _) (by simp) ?_; (case hd => rfl); (case hg => rfl); (case hr => exact gs_); (case hp => exact (Reps.one (show Kd.M (Kd.int .u64) _ _ _ 1 [.int .u64 1] from rfl) (Reps.none _ _))); intro v376 w10 ho11 hb hg_ hnew_; clear hg_ hnew_; (first | rw [← Ny375.out] at ho11 | (simp only [Int.reduceToNat] at ho11; rw [← Ny375.out] at ho11)); have HO377 := jA.mk (Kd.jN (Kd.jL (Kd.jL ho11 (Kd.R_lt (rR_ HO371))) (Kd.R_lt (rR_ HO374))) (jC (bb_ HB))); replace HO371 := re_ HO371 ho11 hb; replace HO374 := re_ HO374 ho11 hb; replace HB := bs_ HB hb; clear hb ho11) | ((with_reducible refine jX (N := 8) rfl ?_); (try (refine jr (by rfl) ?_; dsimp only)); refine Kd.jAC (Kd.int .u64) _ 22 ?hg (N := 8) ?hd (xs := ([3] : List Int)) (inner := [.int .u64 3]) (ok := fun _ => True) (okp := fun _ => True) ?hr ?hp (fun _ hk => hk) trivial (Below.refl _ _) (Nat.le_refl _) (by simp) ?_; (case hd => rfl); (case hg => rfl); (case hr => exact gs_); (case hp => exact (Reps.one (show Kd.M (Kd.int .u64) _ _ _ 3 [.int .u64 3] from rfl) (Reps.none _ _))); intro v379 w12 ho13 hb hg_ hnew_; clear hg_ hnew_; (first | rw [← Ny378.out] at ho13 | (simp only [Int.reduceToNat] at ho13; rw [← Ny378.out] at ho13)); have HO380 := jA.mk (Kd.jN (Kd.jL (Kd.jL (Kd.jL ho13 (Kd.R_lt (rR_ HO371))) (Kd.R_lt (rR_ HO374))) (Kd.R_lt (rR_ HO377))) (jC (bb_ HB))); replace HO371 := re_ HO371 ho13 hb; replace HO374 := re_ HO374 ho13 hb; replace HO377 := re_ HO377 ho13 hb; replace HB := bs_ HB hb; clear hb ho13; obtain ⟨Ao14, co14, rfl⟩ := Kd.jV HO380.out; obtain ⟨Ao15, co15, rfl⟩ := Kd.jV HO377.out) | ((with_reducible refine jH (f := 49) rfl ?_); refine gl_ (some 10) Try.func49 #[.agg #[.bool false, .slice Ao9 y369.length co9, .slice Ao8 y372.length co8], .agg #[.bool false, .slice Ao15 y375.length co15, .slice Ao14 y378.length co14]] ?_; (with_reducible refine (vL.calls k false _ _ y369 _ _ y372 false _ _ y375 _ _ y378 t381 t382 t385 t388 _ ?side1 ?side2 ?side3 ?side4 ?side5 ?side6 ?side7 ?side8 A1.out).mono ?_); (case side1 => exact cc_ (Kd.jE HO371.out).2.2); (case side2 => exact (Kd.jE HO371.out).2.1); (case side3 => exact cc_ (Kd.jE HO374.out).2.2); (case side4 => exact (Kd.jE HO374.out).2.1); (case side5 => exact cc_ (Kd.jE HO377.out).2.2); (case side6 => exact (Kd.jE HO377.out).2.1); (case side7 => exact cc_ (Kd.jE HO380.out).2.2); (case side8 => exact (Kd.jE HO380.out).2.1); rintro e w16 ⟨v383, v386, rfl, ho0, ho1, hb⟩; refine ⟨_, rfl, ?_⟩; have HO384 := jA.mk (Kd.jN (Kd.jL (Kd.jL (Kd.jL (Kd.jL ho0 (Kd.R_lt (rR_ HO371))) (Kd.R_lt (rR_ HO374))) (Kd.R_lt (rR_ HO377))) (Kd.R_lt (rR_ HO380))) (jC (bb_ HB))); have HO387 := jA.mk (Kd.jN (Kd.jL (Kd.jL (Kd.jL (Kd.jL ho1 (Kd.R_lt (rR_ HO371))) (Kd.R_lt (rR_ HO374))) (Kd.R_lt (rR_ HO377))) (Kd.R_lt (rR_ HO380))) (jC (bb_ HB))); replace HO371 := jA.mk (Kd.jT (Kd.zQ (Kd.zQ (Kd.jAf (rR_ HO371) hb) (Kd.vB ho0)) (Kd.vB ho1)) (fun _ h_ => h_.1)); replace HO374 := jA.mk (Kd.jT (Kd.zQ (Kd.zQ (Kd.jAf (rR_ HO374) hb) (Kd.vB ho0)) (Kd.vB ho1)) (fun _ h_ => h_.1)); replace HO377 := jA.mk (Kd.jT (Kd.zQ (Kd.zQ (Kd.jAf (rR_ HO377) hb) (Kd.vB ho0)) (Kd.vB ho1)) (fun _ h_ => h_.1)); replace HO380 := jA.mk (Kd.jT (Kd.zQ (Kd.zQ (Kd.jAf (rR_ HO380) hb) (Kd.vB ho0)) (Kd.vB ho1)) (fun _ h_ => h_.1)); replace HB := bs_ HB hb) | ((with_reducible refine jX (N := 1) rfl ?_); (try (refine jr (by rfl) ?_; dsimp only)); refine bx_ 1 #[.bool false, .slice none 0 0, .slice none 0 0] 44 ?_; intro gb389 hg w17 hbox hb; replace HO371 := ro_ HO371 hb; replace HO374 := ro_ HO374 hb; replace HO377 := ro_ HO377 hb; replace HO380 := ro_ HO380 hb; replace HO384 := ro_ HO384 hb; replace HO387 := ro_ HO387 hb; have BK389 := jA.mk (hbox); have GW389 := jA.mk ((by rw [hg]; exact (jC (bb_ HB)) : w.heap.size ≤ gb389)); have GE389 := GW389; replace HB := bs_ HB hb; clear hb hbox hg; obtain ⟨hcz18_0, hcz18_1, hcz18_2, hfz18_0, hfz18_1, hfz18_2⟩ := bf3_ BK389; obtain ⟨Ao19, co19, rfl⟩ := Kd.jV HO384.out; obtain ⟨Ao20, co20, rfl⟩ := Kd.jV HO387.out) | ((with_reducible refine jX (N := 17) rfl ?_); (try (refine jr (by rfl) ?_; dsimp only)); refine Kd.jAC (Kd.int .u64) _ 22 ?hg (N := 17) ?hd (xs := ([1] : List Int)) (inner := [.int .u64 1]) (ok := fun _ => True) (okp := fun _ => True) ?hr ?hp (fun _ hk => hk) trivial (Below.refl _ _) (Nat.le_refl _) (by simp) ?_; (case hd => rfl); (case hg => rfl); (case hr => exact gs_); (case hp => exact (Reps.one (show Kd.M (Kd.int .u64) _ _ _ 1 [.int .u64 1] from rfl) (Reps.none _ _))); intro v391 w21 ho22 hb hg_ hnew_; clear hg_ hnew_; (first | rw [← Ny390.out] at ho22 | (simp only [Int.reduceToNat] at ho22; rw [← Ny390.out] at ho22)); have HO392 := jA.mk (Kd.jN (Kd.jL (Kd.jL (Kd.jL (Kd.jL (Kd.jL (Kd.jL ho22 (Kd.R_lt (rg3_ HO371 BK389))) (Kd.R_lt (rg3_ HO374 BK389))) (Kd.R_lt (rg3_ HO377 BK389))) (Kd.R_lt (rg3_ HO380 BK389))) (Kd.R_lt (rg3_ HO384 BK389))) (Kd.R_lt (rg3_ HO387 BK389))) (jC (bb1_ HB GE389))); replace HO371 := jA.mk (Kd.jAS (rg3_ HO371 BK389) (Kd.vB ho22) hb); replace HO374 := jA.mk (Kd.jAS (rg3_ HO374 BK389) (Kd.vB ho22) hb); replace HO377 := jA.mk (Kd.jAS (rg3_ HO377 BK389) (Kd.vB ho22) hb); replace HO380 := jA.mk (Kd.jAS (rg3_ HO380 BK389) (Kd.vB ho22) hb); replace HO384 := jA.mk (Kd.jAS (rg3_ HO384 BK389) (Kd.vB ho22) hb); replace HO387 := jA.mk (Kd.jAS (rg3_ HO387 BK389) (Kd.vB ho22) hb); replace BK389 := jA.mk (jJ (g := gb389) (o := .cells #[.bool t381, .slice Ao19 t382.length co19, .slice Ao20 t385.length co20] 44 (0, 0)) (by refine pk_ ?_; refine jm (cs := #[.bool t381, .slice Ao19 t382.length co19, .slice none 0 0]) ?_ 2 _ rs_; refine pk_ ?_; refine jm (cs := #[.bool t381, .slice none 0 0, .slice none 0 0]) ?_ 1 _ rs_; refine pk_ ?_; refine jm (cs := #[.bool false, .slice none 0 0, .slice none 0 0]) ?_ 0 _ rs_; refine pk_ ?_; exact BK389.out) hb); replace HB := jA.mk (jI (bb1_ HB GE389) hb); clear hb ho22) | ((with_reducible refine jX (N := 18) rfl ?_); (try (refine jr (by rfl) ?_; dsimp only)); refine Kd.jAC (Kd.int .u64) _ 22 ?hg (N := 18) ?hd (xs := ([2] : List Int)) (inner := [.int .u64 2]) (ok := fun _ => True) (okp := fun _ => True) ?hr ?hp (fun _ hk => hk) trivial (Below.refl _ _) (Nat.le_refl _) (by simp) ?_; (case hd => rfl); (case hg => rfl); (case hr => exact gs_); (case hp => exact (Reps.one (show Kd.M (Kd.int .u64) _ _ _ 2 [.int .u64 2] from rfl) (Reps.none _ _))); intro v394 w23 ho24 hb hg_ hnew_; clear hg_ hnew_; (first | rw [← Ny393.out] at ho24 | (simp only [Int.reduceToNat] at ho24; rw [← Ny393.out] at ho24)); have HO395 := jA.mk (Kd.jN (Kd.jL (Kd.jL (Kd.jL (Kd.jL (Kd.jL (Kd.jL (Kd.jL ho24 (Kd.R_lt (rR_ HO371))) (Kd.R_lt (rR_ HO374))) (Kd.R_lt (rR_ HO377))) (Kd.R_lt (rR_ HO380))) (Kd.R_lt (rR_ HO384))) (Kd.R_lt (rR_ HO387))) (Kd.R_lt (rR_ HO392))) (jC (bb1_ HB GE389))); replace HO371 := re_ HO371 ho24 hb; replace HO374 := re_ HO374 ho24 hb; replace HO377 := re_ HO377 ho24 hb; replace HO380 := re_ HO380 ho24 hb; replace HO384 := re_ HO384 ho24 hb; replace HO387 := re_ HO387 ho24 hb; replace HO392 := re_ HO392 ho24 hb; replace BK389 := bk_ BK389 hb; replace HB := jA.mk (jI (bb1_ HB GE389) hb); clear hb ho24; obtain ⟨Ao25, co25, rfl⟩ := Kd.jV HO395.out; obtain ⟨Ao26, co26, rfl⟩ := Kd.jV HO392.out) | (go_at_call 26; (with_reducible refine (vC.calls k t381 _ _ t382 _ _ t385 false _ _ y390 _ _ y393 t396 _ ?side1 ?side2 ?side3 ?side4 ?side5 ?side6 ?side7 ?side8 A3.out).mono ?_); (case side1 => exact cc_ (Kd.jE HO384.out).2.2); (case side2 => exact (Kd.jE HO384.out).2.1); (case side3 => exact cc_ (Kd.jE HO387.out).2.2); (case side4 => exact (Kd.jE HO387.out).2.1); (case side5 => exact cc_ (Kd.jE HO392.out).2.2); (case side6 => exact (Kd.jE HO392.out).2.1); (case side7 => exact cc_ (Kd.jE HO395.out).2.2); (case side8 => exact (Kd.jE HO395.out).2.1); rintro e w27 ⟨rfl, hb⟩; replace HO371 := ro_ HO371 hb; replace HO374 := ro_ HO374 hb; replace HO377 := ro_ HO377 hb; replace HO380 := ro_ HO380 hb; replace HO384 := ro_ HO384 hb; replace HO387 := ro_ HO387 hb; replace HO392 := ro_ HO392 hb; replace HO395 := ro_ HO395 hb; replace BK389 := bk_ BK389 hb; replace HB := jA.mk (jI (bb1_ HB GE389) hb)))
  go_ret
  exact ⟨ew_, (bb1_ HB GE389)⟩
 ·
  rw [if_neg c2] at H
  have c2b0 := beq_eq_false_iff_ne.mpr c2
  have c2b1 := bne_iff_ne.mpr c2
  obtain rfl := Option.some.inj H
  go_enter Try.func28, Try.ntmps28
  go_wp2_with (first | ((with_reducible refine jX (N := 4) rfl ?_); (try (refine jr (by rfl) ?_; dsimp only)); refine Kd.jAC (Kd.int .u64) _ 22 ?hg (N := 4) ?hd (xs := ([1] : List Int)) (inner := [.int .u64 1]) (ok := fun _ => True) (okp := fun _ => True) ?hr ?hp (fun _ hk => hk) trivial (Below.refl _ _) (Nat.le_refl _) (by simp) ?_; (case hd => rfl); (case hg => rfl); (case hr => exact gs_); (case hp => exact (Reps.one (show Kd.M (Kd.int .u64) _ _ _ 1 [.int .u64 1] from rfl) (Reps.none _ _))); intro v370 w28 ho29 hb hg_ hnew_; clear hg_ hnew_; (first | rw [← Ny369.out] at ho29 | (simp only [Int.reduceToNat] at ho29; rw [← Ny369.out] at ho29)); have HO371 := jA.mk (Kd.jN ho29 (jC (bb_ HB))); replace HB := bs_ HB hb; clear hb ho29) | ((with_reducible refine jX (N := 5) rfl ?_); (try (refine jr (by rfl) ?_; dsimp only)); refine Kd.jAC (Kd.int .u64) _ 22 ?hg (N := 5) ?hd (xs := ([6] : List Int)) (inner := [.int .u64 6]) (ok := fun _ => True) (okp := fun _ => True) ?hr ?hp (fun _ hk => hk) trivial (Below.refl _ _) (Nat.le_refl _) (by simp) ?_; (case hd => rfl); (case hg => rfl); (case hr => exact gs_); (case hp => exact (Reps.one (show Kd.M (Kd.int .u64) _ _ _ 6 [.int .u64 6] from rfl) (Reps.none _ _))); intro v373 w30 ho31 hb hg_ hnew_; clear hg_ hnew_; (first | rw [← Ny372.out] at ho31 | (simp only [Int.reduceToNat] at ho31; rw [← Ny372.out] at ho31)); have HO374 := jA.mk (Kd.jN (Kd.jL ho31 (Kd.R_lt (rR_ HO371))) (jC (bb_ HB))); replace HO371 := re_ HO371 ho31 hb; replace HB := bs_ HB hb; clear hb ho31; obtain ⟨Ao32, co32, rfl⟩ := Kd.jV HO374.out; obtain ⟨Ao33, co33, rfl⟩ := Kd.jV HO371.out) | ((with_reducible refine jX (N := 7) rfl ?_); (try (refine jr (by rfl) ?_; dsimp only)); refine Kd.jAC (Kd.int .u64) _ 22 ?hg (N := 7) ?hd (xs := ([1] : List Int)) (inner := [.int .u64 1]) (ok := fun _ => True) (okp := fun _ => True) ?hr ?hp (fun _ hk => hk) trivial (Below.refl _ _) (Nat.le_refl _) (by simp) ?_; (case hd => rfl); (case hg => rfl); (case hr => exact gs_); (case hp => exact (Reps.one (show Kd.M (Kd.int .u64) _ _ _ 1 [.int .u64 1] from rfl) (Reps.none _ _))); intro v376 w34 ho35 hb hg_ hnew_; clear hg_ hnew_; (first | rw [← Ny375.out] at ho35 | (simp only [Int.reduceToNat] at ho35; rw [← Ny375.out] at ho35)); have HO377 := jA.mk (Kd.jN (Kd.jL (Kd.jL ho35 (Kd.R_lt (rR_ HO371))) (Kd.R_lt (rR_ HO374))) (jC (bb_ HB))); replace HO371 := re_ HO371 ho35 hb; replace HO374 := re_ HO374 ho35 hb; replace HB := bs_ HB hb; clear hb ho35) | ((with_reducible refine jX (N := 8) rfl ?_); (try (refine jr (by rfl) ?_; dsimp only)); refine Kd.jAC (Kd.int .u64) _ 22 ?hg (N := 8) ?hd (xs := ([3] : List Int)) (inner := [.int .u64 3]) (ok := fun _ => True) (okp := fun _ => True) ?hr ?hp (fun _ hk => hk) trivial (Below.refl _ _) (Nat.le_refl _) (by simp) ?_; (case hd => rfl); (case hg => rfl); (case hr => exact gs_); (case hp => exact (Reps.one (show Kd.M (Kd.int .u64) _ _ _ 3 [.int .u64 3] from rfl) (Reps.none _ _))); intro v379 w36 ho37 hb hg_ hnew_; clear hg_ hnew_; (first | rw [← Ny378.out] at ho37 | (simp only [Int.reduceToNat] at ho37; rw [← Ny378.out] at ho37)); have HO380 := jA.mk (Kd.jN (Kd.jL (Kd.jL (Kd.jL ho37 (Kd.R_lt (rR_ HO371))) (Kd.R_lt (rR_ HO374))) (Kd.R_lt (rR_ HO377))) (jC (bb_ HB))); replace HO371 := re_ HO371 ho37 hb; replace HO374 := re_ HO374 ho37 hb; replace HO377 := re_ HO377 ho37 hb; replace HB := bs_ HB hb; clear hb ho37; obtain ⟨Ao38, co38, rfl⟩ := Kd.jV HO380.out; obtain ⟨Ao39, co39, rfl⟩ := Kd.jV HO377.out) | ((with_reducible refine jH (f := 49) rfl ?_); refine gl_ (some 10) Try.func49 #[.agg #[.bool false, .slice Ao33 y369.length co33, .slice Ao32 y372.length co32], .agg #[.bool false, .slice Ao39 y375.length co39, .slice Ao38 y378.length co38]] ?_; (with_reducible refine (vL.calls k false _ _ y369 _ _ y372 false _ _ y375 _ _ y378 t381 t382 t385 t388 _ ?side1 ?side2 ?side3 ?side4 ?side5 ?side6 ?side7 ?side8 A1.out).mono ?_); (case side1 => exact cc_ (Kd.jE HO371.out).2.2); (case side2 => exact (Kd.jE HO371.out).2.1); (case side3 => exact cc_ (Kd.jE HO374.out).2.2); (case side4 => exact (Kd.jE HO374.out).2.1); (case side5 => exact cc_ (Kd.jE HO377.out).2.2); (case side6 => exact (Kd.jE HO377.out).2.1); (case side7 => exact cc_ (Kd.jE HO380.out).2.2); (case side8 => exact (Kd.jE HO380.out).2.1); rintro e w40 ⟨v383, v386, rfl, ho0, ho1, hb⟩; refine ⟨_, rfl, ?_⟩; have HO384 := jA.mk (Kd.jN (Kd.jL (Kd.jL (Kd.jL (Kd.jL ho0 (Kd.R_lt (rR_ HO371))) (Kd.R_lt (rR_ HO374))) (Kd.R_lt (rR_ HO377))) (Kd.R_lt (rR_ HO380))) (jC (bb_ HB))); have HO387 := jA.mk (Kd.jN (Kd.jL (Kd.jL (Kd.jL (Kd.jL ho1 (Kd.R_lt (rR_ HO371))) (Kd.R_lt (rR_ HO374))) (Kd.R_lt (rR_ HO377))) (Kd.R_lt (rR_ HO380))) (jC (bb_ HB))); replace HO371 := jA.mk (Kd.jT (Kd.zQ (Kd.zQ (Kd.jAf (rR_ HO371) hb) (Kd.vB ho0)) (Kd.vB ho1)) (fun _ h_ => h_.1)); replace HO374 := jA.mk (Kd.jT (Kd.zQ (Kd.zQ (Kd.jAf (rR_ HO374) hb) (Kd.vB ho0)) (Kd.vB ho1)) (fun _ h_ => h_.1)); replace HO377 := jA.mk (Kd.jT (Kd.zQ (Kd.zQ (Kd.jAf (rR_ HO377) hb) (Kd.vB ho0)) (Kd.vB ho1)) (fun _ h_ => h_.1)); replace HO380 := jA.mk (Kd.jT (Kd.zQ (Kd.zQ (Kd.jAf (rR_ HO380) hb) (Kd.vB ho0)) (Kd.vB ho1)) (fun _ h_ => h_.1)); replace HB := bs_ HB hb) | ((with_reducible refine jX (N := 1) rfl ?_); (try (refine jr (by rfl) ?_; dsimp only)); refine bx_ 1 #[.bool false, .slice none 0 0, .slice none 0 0] 44 ?_; intro gb389 hg w41 hbox hb; replace HO371 := ro_ HO371 hb; replace HO374 := ro_ HO374 hb; replace HO377 := ro_ HO377 hb; replace HO380 := ro_ HO380 hb; replace HO384 := ro_ HO384 hb; replace HO387 := ro_ HO387 hb; have BK389 := jA.mk (hbox); have GW389 := jA.mk ((by rw [hg]; exact (jC (bb_ HB)) : w.heap.size ≤ gb389)); have GE389 := GW389; replace HB := bs_ HB hb; clear hb hbox hg; obtain ⟨hcz42_0, hcz42_1, hcz42_2, hfz42_0, hfz42_1, hfz42_2⟩ := bf3_ BK389; obtain ⟨Ao43, co43, rfl⟩ := Kd.jV HO384.out; obtain ⟨Ao44, co44, rfl⟩ := Kd.jV HO387.out))
  go_ret
  exact ⟨ew_, (bb1_ HB GE389)⟩
-- NOT PRINTED: function 80 (ratio_Of_1)
def zV.sz (a0 : Int) : Int := if a0 < 0 then IntKind.u64.wrap (-(IntKind.u64.wrap a0)) else IntKind.u64.wrap a0
def zV.f (a0 : Int) : Option (Bool × List Int × List Int) := (jBW.f (zV.sz a0)).bind fun t => some (decide (a0 < 0), t, [1])
theorem zV.jJl {P : Program} {ops : Array Oper} {Q : Exit → Act → World → Prop} {oi : Oper} {N : Option Tmp} {a : Act} {w : World} {K : Act → World → Prop} {f : FuncId} {fn : Func} {t : Tmp} {as_ : Array Operand} {ts : Array TypeId} (cap : Array Value) (hf : P.funcs[f]? = some fn) (hname : (fn.name == "runtime.NumGoroutine") = false) (hb : fn.body.isSome = true) (args : Array Value)
  (hw : Region.wanted oi (yielded ops a.tmps) = true) (hN : oi.dst = N) (hop : oi.op = .call { callee := .value (.tmp t), args := as_, argTypes := ts }) (hv : a.eval (.tmp t) = .func (.func f) #[] cap) (hargs : as_.map a.eval ++ cap = args)
  (h : Calls P f args w fun e w' => ∃ v, e = .returned v ∧ K (a.put N v) w') : if Region.wanted oi (yielded ops a.tmps) = true then Oper.wp P oi a w K Q else K (a.put N undef) w := by
 refine call_ f args hw hN ?_ h
 have he := jCd hf hname hb args w
 unfold execOp
 simp [hop, resolve, Deferred.ofValue, invoke, hv, hargs, he]
theorem zV.lit (w : World) (q : Int) (base : Nat) (hb : base ≤ w.heap.size) : Kd.R (Kd.int .u64) 22 (w.alloc (.cells #[.int .u64 q] 22)) base (fun k_ => k_ = w.heap.size) (.slice (some ⟨w.heap.size, 0, none⟩) 1 1) [q] := Kd.jBV (jFx w base 22 .u64 [q] hb (by simp)) (fun k_ hk => by simp [Value.ownBlock] at hk; exact hk.symm)
theorem zV.fin {wz w : World} {g gL c9 : Nat} {A9 : Option Addr} {t : List Int} {neg : Bool} (ht : Kd.R (Kd.int .u64) 22 wz w.heap.size (fun k_ => k_ ≠ g ∧ k_ ≠ gL) (.slice A9 t.length c9) t) (hl : Kd.R (Kd.int .u64) 22 wz w.heap.size (fun k_ => k_ = gL) (.slice (some ⟨gL, 0, none⟩) 1 1) [1]) (hg : gL ≠ g) (hb : Below w.heap.size w wz) (hw : w.heap.size ≤ g) :
  Kd.R (Kd.int .u64) 22 (((wz.setCell ⟨g, 0, none⟩ (.bool neg)).setCell ⟨g, 1, none⟩ (.slice A9 t.length c9)).setCell ⟨g, 2, none⟩ (.slice (some ⟨gL, 0, none⟩) 1 1)) w.heap.size (fun k_ => some k_ ≠ (.slice (some ⟨gL, 0, none⟩) 1 1 : Value).ownBlock) (.slice A9 t.length c9) t ∧
  Kd.R (Kd.int .u64) 22 (((wz.setCell ⟨g, 0, none⟩ (.bool neg)).setCell ⟨g, 1, none⟩ (.slice A9 t.length c9)).setCell ⟨g, 2, none⟩ (.slice (some ⟨gL, 0, none⟩) 1 1)) w.heap.size (fun k_ => some k_ ≠ (.slice A9 t.length c9 : Value).ownBlock) (.slice (some ⟨gL, 0, none⟩) 1 1) [1] ∧
  Below w.heap.size w (((wz.setCell ⟨g, 0, none⟩ (.bool neg)).setCell ⟨g, 1, none⟩ (.slice A9 t.length c9)).setCell ⟨g, 2, none⟩ (.slice (some ⟨gL, 0, none⟩) 1 1)) := by
 refine ⟨Kd.jT (Kd.vQ (Kd.vQ (Kd.vQ ht (fun _ hk => hk.1) _) (fun _ hk => hk.1) _) (fun _ hk => hk.1) _) (fun k_ hk => ?_), Kd.jT (Kd.vQ (Kd.vQ (Kd.vQ hl (fun _ hk => by rw [hk]; exact hg) _) (fun _ hk => by rw [hk]; exact hg) _) (fun _ hk => by rw [hk]; exact hg) _) (fun k_ hk => ?_), vI (vI (vI hb hw) hw) hw⟩
 ·
  intro e_
  have : k_ = gL := by simpa [Value.ownBlock] using e_
  exact hk.2 this
 ·
  subst hk
  intro e_
  exact (ht.1 k_ e_.symm).2 rfl
set_option maxHeartbeats 4000000 in
theorem zV.cl (g : Nat) (a0 : Int) (w : World) (hx : w.heap[g]? = some (.cells #[.int .i64 a0] 2 (0, 0))) : Calls Try.prog 80 #[.pointer (some ⟨g, 0, none⟩)] w fun e w' => e = .returned (.int .u64 (zV.sz a0)) ∧ w = w' := by
 have hc : w.cell? ⟨g, 0, none⟩ = some (.int .i64 a0) := (jB hx 0).trans rfl
 clear hx
 unfold zV.sz
 by_cases h : a0 < 0
 ·
  have hb : decide (a0 < 0) = true := decide_eq_true h
  rw [if_pos h]
  clear h
  go_enter Try.func80, Try.ntmps80
  go_wp2
  go_ret
  exact ⟨rfl, rfl⟩
 ·
  have hb : decide (a0 < 0) = false := decide_eq_false h
  rw [if_neg h]
  clear h
  go_enter Try.func80, Try.ntmps80
  go_wp2
  go_ret
  exact ⟨rfl, rfl⟩
theorem zV.calls (a0 : Int) (r1 : Bool) (r2 : List Int) (r3 : List Int) (w : World) (h : zV.f a0 = some (r1, r2, r3)) :
  Calls Try.prog 39 #[.int .i64 a0] w fun e w' => ∃ v1_ v2_ : Value, e = .returned (.agg #[.bool r1, v1_, v2_]) ∧ Kd.R (Kd.int .u64) 22 w' w.heap.size (fun k_ => some k_ ≠ (v2_ : Value).ownBlock) v1_ r2 ∧ Kd.R (Kd.int .u64) 22 w' w.heap.size (fun k_ => some k_ ≠ (v1_ : Value).ownBlock) v2_ r3 ∧ Below w.heap.size w w' := by
 unfold zV.f at h
 obtain ⟨t, ht, h⟩ := Option.bind_eq_some_iff.mp h
 simp only [Option.some.injEq, Prod.mk.injEq] at h
 obtain ⟨rfl, rfl, rfl⟩ := h
 have HT := jA.mk ht
 clear ht
 have hX := vH (jAN w (.cells #[.int .i64 a0] 2)) (.cells #[.bool false, .slice none 0 0, .slice none 0 0] 44)
 have hY := jAN (w.alloc (.cells #[.int .i64 a0] 2)) (.cells #[.bool false, .slice none 0 0, .slice none 0 0] 44)
 have hD := jk (jk (Below.refl _ w) (.cells #[.int .i64 a0] 2)) (.cells #[.bool false, .slice none 0 0, .slice none 0 0] 44)
 have hS := jA.mk (show ((w.alloc (.cells #[.int .i64 a0] 2)).alloc (.cells #[.bool false, .slice none 0 0, .slice none 0 0] 44)).heap.size = w.heap.size + 2 from by simp)
 simp only [World.size_alloc] at hY
 have HX := jA.mk hX
 have HY := jA.mk hY
 have HD := jA.mk hD
 have HSZ := jA.mk (show ∀ x : Int, zV.sz x = zV.sz x from fun _ => rfl)
 generalize hsz : zV.sz a0 = z at HT
 have HCL := jA.mk (show ∀ w : World, w.heap[w.heap.size]? = w.heap[w.heap.size]? from fun _ => rfl)
 have HC : jA (∀ w' : World, w'.heap[w.heap.size]? = some (.cells #[.int .i64 a0] 2 (0, 0)) → Calls Try.prog 80 #[.pointer (some ⟨w.heap.size, 0, none⟩)] w' fun e w'' => e = .returned (.int .u64 z) ∧ w' = w'') := ⟨fun w' hx => by rw [← hsz]; exact zV.cl _ _ _ hx⟩
 clear hX hY hD HSZ HCL hsz
 generalize hlt : decide (a0 < 0) = neg
 have HLT := jA.mk hlt
 go_enter Try.func39, Try.ntmps39
 go_wp2_with fail
 generalize (w.alloc (.cells #[.int .i64 a0] 2)).alloc (.cells #[.bool false, .slice none 0 0, .slice none 0 0] 44) = v0 at HX HY HD hS ⊢
 refine jAU (n := 8) (S := fun w' => w'.heap[w.heap.size]? = some (.cells #[.int .i64 a0] 2 (0, 0)) ∧ w'.heap[w.heap.size + 1]? = some (.cells #[.bool false, .slice none 0 0, .slice none 0 0] 44 (0, 0)) ∧ Below w.heap.size w w') (ds := [7]) #[false, false, false, false, false, false, false, false] kr_ rfl rfl ⟨vF HX.out, vF HY.out, zI HD.out⟩ (fun hHeld => ?_)
 have hS1 := jA.mk (show v0.drew.heap.size = w.heap.size + 2 from hS.out)
 generalize v0.drew = v1 at hS1 hHeld ⊢
 clear HX HY HD hS
 refine jBo (i := 0) (N := some 5) (v := ?_) (a' := ?_) (ba_ 8 1) rfl rfl kr_ (fun _ _ _ h => h) (Or.inl ⟨by rfl, ?_⟩) hHeld ?_ ?_
 rotate_left
 ·
  rintro w' ⟨s0_, s1_, s2_⟩
  have hc := (jB s0_ 0).trans (show _ = some (.int .i64 a0) from rfl)
  go_simp
  with_reducible rfl
 rotate_left
 ·
  simp only [Act.put, ss_, qZ, jAd]
  rfl
 refine pu_ 1 (some 6) (ba_ 8 3) kr_ ?_
 refine pu_ 2 (some 7) (ba_ 8 7) kr_ ?_
 refine two_ (i := 3) (j := 5) (Ni := some 8) (Nj := some 10) (ba_ 8 15) (ba_ 8 39) rfl rfl rfl rfl kr_ (by decide) (by decide) (fun K hK => ?_) (fun K hK => ?_)
 ·
  refine zV.jJl #[.pointer (some ⟨w.heap.size, 0, none⟩)] Try.func80 kr_ rfl #[.pointer (some ⟨w.heap.size, 0, none⟩)] (by rfl) rfl rfl rfl (by (try simp only [List.map_toArray, List.map_cons, List.map_nil]); first | done | rfl) ?_
  refine (HC.out _ hHeld.1).mono ?_
  rintro e w' ⟨rfl, rfl⟩
  refine ⟨_, rfl, ?_⟩
  refine hK.out _ _ hHeld (fun hHeld => ?_)
  clear hK K
  refine ns_ 8 ?_
  refine two_ (i := 4) (j := 5) (Ni := some 9) (Nj := some 10) (ba_ 8 31) (ba_ 8 47) rfl rfl rfl rfl kr_ (by decide) (by decide) (fun K hK => ?_) (fun K hK => ?_)
  ·
   obtain ⟨s0_, s1_, s2_⟩ := hHeld
   refine jAQ Try.func81 kr_ rfl #[.int .u64 z] (by rfl) rfl rfl (by (try simp only [List.map_toArray, List.map_cons, List.map_nil]); first | done | rfl) ?_
   refine (jBW.calls z t _ HT.out).mono ?_
   rintro e w4 ⟨v9, rfl, ho, hb⟩
   refine ⟨_, rfl, ?_⟩
   obtain ⟨A9, c9, e9⟩ := Kd.jV ho
   subst e9
   have HO := jA.mk ho
   have HBB := jA.mk hb
   have HZB := jA.mk (jC s2_)
   clear ho hb
   refine hK.out _ _ ⟨jJ s0_ HBB.out, jJ s1_ HBB.out, jI s2_ HBB.out⟩ (fun hHeld => ?_)
   clear hK K s0_ s1_ s2_
   refine ns_ 9 ?_
   refine one_ (i := 5) (N := some 10) (ba_ 8 63) rfl rfl kr_ (by decide) (fun K hK => ?_)
   refine jEg (w1 := ?_) (v := ?_) (by rfl) rfl ?_ ?_
   rotate_left 2
   ·
    go_simp
    constructor
    ·
     rfl
    ·
     rfl
   obtain ⟨s0_, s1_, s2_⟩ := hHeld
   have HL := jA.mk (zV.lit _ 1 w.heap.size (jC s2_))
   refine hK.out _ _ ⟨vH s0_ _, vH s1_ _, jk s2_ _⟩ (fun hHeld => ?_)
   clear hK K
   refine ns_ 10 ?_
   obtain ⟨s0_, s1_, s2_⟩ := hHeld
   refine pu_ 6 (some 11) (ba_ 8 127) kr_ ?_
   have z0 := (jB s1_ 0).trans (show _ = some (.bool false) from rfl)
   have z1 := (jB s1_ 1).trans (show _ = some (.slice none 0 0) from rfl)
   have z2 := (jB s1_ 2).trans (show _ = some (.slice none 0 0) from rfl)
   have f0 := jg s1_ 0
   have f1 := jg s1_ 1
   have f2 := jg s1_ 2
   refine jCq (i := 7) (N := none) (ba_ 8 255) rfl rfl kr_ (by decide) (fun K hK => ?_)
   refine jCN (w1 := ?_) (by rfl) rfl ?_ ?_
   rotate_left
   ·
    go_simp
    rfl
   refine hK.out _ _ ?_
   clear hK K z0 z1 z2 f0 f1 f2
   refine jAv kr_ ?_
   go_wp2
   refine bodyPost_ret (results_cell_row rfl _ _ (w.heap.size + 1) 44 #[.bool neg, .slice A9 t.length c9, .slice (some ⟨w4.heap.size, 0, none⟩) 1 1] (0, 0) _ rfl (by refine jm (cs := #[.bool neg, .slice A9 t.length c9, .slice none 0 0]) ?_ 2 _ rs_; refine jm (cs := #[.bool neg, .slice none 0 0, .slice none 0 0]) ?_ 1 _ rs_; refine jm (cs := #[.bool false, .slice none 0 0, .slice none 0 0]) ?_ 0 _ rs_; exact s1_) Try.underlying44 rfl kr_) rfl ?_
   have hz1 := hS1.out
   have hz2 := jC HBB.out
   (try simp only [World.size_alloc] at hz2)
   obtain ⟨f1, f2, f3⟩ := zV.fin (neg := neg) (g := w.heap.size + 1) (Kd.zM (Kd.jN (Kd.jT (Kd.jAJ HO.out) (fun k_ hk => ⟨by have := hk.2.1; omega, by have := hk.2.2.1; omega⟩)) HZB.out) _) HL.out (by omega) s2_ (by omega)
   exact ⟨_, _, rfl, f1, f2, f3⟩
  ·
   refine jEg (w1 := ?_) (v := ?_) (by rfl) rfl ?_ ?_
   rotate_left 2
   ·
    go_simp
    constructor
    ·
     rfl
    ·
     rfl
   obtain ⟨s0_, s1_, s2_⟩ := hHeld
   have HL := jA.mk (zV.lit _ 1 w.heap.size (jC s2_))
   refine hK.out _ _ ⟨vH s0_ _, vH s1_ _, jk s2_ _⟩ (fun hHeld => ?_)
   clear hK K
   refine ns_ 10 ?_
   refine one_ (i := 4) (N := some 9) (ba_ 8 63) rfl rfl kr_ (by decide) (fun K hK => ?_)
   obtain ⟨s0_, s1_, s2_⟩ := hHeld
   refine jAQ Try.func81 kr_ rfl #[.int .u64 z] (by rfl) rfl rfl (by (try simp only [List.map_toArray, List.map_cons, List.map_nil]); first | done | rfl) ?_
   refine (jBW.calls z t _ HT.out).mono ?_
   rintro e w4 ⟨v9, rfl, ho, hb⟩
   refine ⟨_, rfl, ?_⟩
   obtain ⟨A9, c9, e9⟩ := Kd.jV ho
   subst e9
   have HL := jA.mk (Kd.jAg HL.out hb)
   have HO := jA.mk ho
   have HBB := jA.mk hb
   have HZB := jA.mk (jC s2_)
   clear ho hb
   refine hK.out _ _ ⟨jJ s0_ HBB.out, jJ s1_ HBB.out, jI s2_ HBB.out⟩ (fun hHeld => ?_)
   clear hK K s0_ s1_ s2_
   refine ns_ 9 ?_
   obtain ⟨s0_, s1_, s2_⟩ := hHeld
   refine pu_ 6 (some 11) (ba_ 8 127) kr_ ?_
   have z0 := (jB s1_ 0).trans (show _ = some (.bool false) from rfl)
   have z1 := (jB s1_ 1).trans (show _ = some (.slice none 0 0) from rfl)
   have z2 := (jB s1_ 2).trans (show _ = some (.slice none 0 0) from rfl)
   have f0 := jg s1_ 0
   have f1 := jg s1_ 1
   have f2 := jg s1_ 2
   refine jCq (i := 7) (N := none) (ba_ 8 255) rfl rfl kr_ (by decide) (fun K hK => ?_)
   refine jCN (w1 := ?_) (by rfl) rfl ?_ ?_
   rotate_left
   ·
    go_simp
    rfl
   refine hK.out _ _ ?_
   clear hK K z0 z1 z2 f0 f1 f2
   refine jAv kr_ ?_
   go_wp2
   refine bodyPost_ret (results_cell_row rfl _ _ (w.heap.size + 1) 44 #[.bool neg, .slice A9 t.length c9, .slice (some ⟨v1.heap.size, 0, none⟩) 1 1] (0, 0) _ rfl (by refine jm (cs := #[.bool neg, .slice A9 t.length c9, .slice none 0 0]) ?_ 2 _ rs_; refine jm (cs := #[.bool neg, .slice none 0 0, .slice none 0 0]) ?_ 1 _ rs_; refine jm (cs := #[.bool false, .slice none 0 0, .slice none 0 0]) ?_ 0 _ rs_; exact s1_) Try.underlying44 rfl kr_) rfl ?_
   have hz1 := hS1.out
   obtain ⟨f1, f2, f3⟩ := zV.fin (neg := neg) (g := w.heap.size + 1) (Kd.jN (Kd.jT (Kd.jAJ HO.out) (fun k_ hk => by have hk1 := hk.2.1; simp only [World.size_alloc] at hk1; exact ⟨by omega, by omega⟩)) HZB.out) HL.out (by omega) s2_ (by omega)
   exact ⟨_, _, rfl, f1, f2, f3⟩
 ·
  refine jEg (w1 := ?_) (v := ?_) (by rfl) rfl ?_ ?_
  rotate_left 2
  ·
   go_simp
   constructor
   ·
    rfl
   ·
    rfl
  obtain ⟨s0_, s1_, s2_⟩ := hHeld
  have HL := jA.mk (zV.lit _ 1 w.heap.size (jC s2_))
  refine hK.out _ _ ⟨vH s0_ _, vH s1_ _, jk s2_ _⟩ (fun hHeld => ?_)
  clear hK K
  refine ns_ 10 ?_
  refine one_ (i := 3) (N := some 8) (ba_ 8 47) rfl rfl kr_ (by decide) (fun K hK => ?_)
  refine zV.jJl #[.pointer (some ⟨w.heap.size, 0, none⟩)] Try.func80 kr_ rfl #[.pointer (some ⟨w.heap.size, 0, none⟩)] (by rfl) rfl rfl rfl (by (try simp only [List.map_toArray, List.map_cons, List.map_nil]); first | done | rfl) ?_
  refine (HC.out _ hHeld.1).mono ?_
  rintro e w' ⟨rfl, rfl⟩
  refine ⟨_, rfl, ?_⟩
  refine hK.out _ _ hHeld (fun hHeld => ?_)
  clear hK K
  refine ns_ 8 ?_
  refine one_ (i := 4) (N := some 9) (ba_ 8 63) rfl rfl kr_ (by decide) (fun K hK => ?_)
  obtain ⟨s0_, s1_, s2_⟩ := hHeld
  refine jAQ Try.func81 kr_ rfl #[.int .u64 z] (by rfl) rfl rfl (by (try simp only [List.map_toArray, List.map_cons, List.map_nil]); first | done | rfl) ?_
  refine (jBW.calls z t _ HT.out).mono ?_
  rintro e w4 ⟨v9, rfl, ho, hb⟩
  refine ⟨_, rfl, ?_⟩
  obtain ⟨A9, c9, e9⟩ := Kd.jV ho
  subst e9
  have HL := jA.mk (Kd.jAg HL.out hb)
  have HO := jA.mk ho
  have HBB := jA.mk hb
  have HZB := jA.mk (jC s2_)
  clear ho hb
  refine hK.out _ _ ⟨jJ s0_ HBB.out, jJ s1_ HBB.out, jI s2_ HBB.out⟩ (fun hHeld => ?_)
  clear hK K s0_ s1_ s2_
  refine ns_ 9 ?_
  obtain ⟨s0_, s1_, s2_⟩ := hHeld
  refine pu_ 6 (some 11) (ba_ 8 127) kr_ ?_
  have z0 := (jB s1_ 0).trans (show _ = some (.bool false) from rfl)
  have z1 := (jB s1_ 1).trans (show _ = some (.slice none 0 0) from rfl)
  have z2 := (jB s1_ 2).trans (show _ = some (.slice none 0 0) from rfl)
  have f0 := jg s1_ 0
  have f1 := jg s1_ 1
  have f2 := jg s1_ 2
  refine jCq (i := 7) (N := none) (ba_ 8 255) rfl rfl kr_ (by decide) (fun K hK => ?_)
  refine jCN (w1 := ?_) (by rfl) rfl ?_ ?_
  rotate_left
  ·
   go_simp
   rfl
  refine hK.out _ _ ?_
  clear hK K z0 z1 z2 f0 f1 f2
  refine jAv kr_ ?_
  go_wp2
  refine bodyPost_ret (results_cell_row rfl _ _ (w.heap.size + 1) 44 #[.bool neg, .slice A9 t.length c9, .slice (some ⟨v1.heap.size, 0, none⟩) 1 1] (0, 0) _ rfl (by refine jm (cs := #[.bool neg, .slice A9 t.length c9, .slice none 0 0]) ?_ 2 _ rs_; refine jm (cs := #[.bool neg, .slice none 0 0, .slice none 0 0]) ?_ 1 _ rs_; refine jm (cs := #[.bool false, .slice none 0 0, .slice none 0 0]) ?_ 0 _ rs_; exact s1_) Try.underlying44 rfl kr_) rfl ?_
  have hz1 := hS1.out
  obtain ⟨f1, f2, f3⟩ := zV.fin (neg := neg) (g := w.heap.size + 1) (Kd.jN (Kd.jT (Kd.jAJ HO.out) (fun k_ hk => by have hk1 := hk.2.1; simp only [World.size_alloc] at hk1; exact ⟨by omega, by omega⟩)) HZB.out) HL.out (by omega) s2_ (by omega)
  exact ⟨_, _, rfl, f1, f2, f3⟩
end Go.Proofs.Ytijgeonhbmgikaa.PORatioField
