-- printed (pr.py)
import Derived.Test.YtijgeonhbmgikaaPORatioSumsx0
import Derived.Test.YtijgeonhbmgikaaPORatioSumsx1
import Derived.Test.YtijgeonhbmgikaaPORatioSumsx5
import Derived.Test.YtijgeonhbmgikaaPORatioSumsx8
import Derived.Test.YtijgeonhbmgikaaPORatioSumsx9
namespace Go.Proofs.Ytijgeonhbmgikaa.PORatioSums
open Go.RowKit Go.Proofs.YtijgeonhbmgikaaN Go.Proofs.YtijgeonhbmgikaaW.PrintWords Go.Proofs.YtijgeonhbmgikaaW.PrintLast Go.Proofs.YtijgeonhbmgikaaW.PrintMore
attribute [local go_sem] qV qR qy qx qA zy qU qP
set_option maxHeartbeats 8000000
set_option maxRecDepth 100000

/-! ### vv: function 89 -/

def vv.idx : List (List Int) → Int → Int
 | [], _ => -1
 | x :: r, i => if 8 < x.length then i else vv.idx r (i + 1)
def vv.any (l0 : List (List Int)) : Bool := decide (0 ≤ vv.idx l0 0)
def vv.f (l0 : List (List Int)) : Option Bool := some (vv.any l0)
set_option maxHeartbeats 4000000 in
theorem vv.one (A0 : Option Addr) (c0 n : Nat) (b : Bool) (w : World) (hb : decide (8 < (n : Int)) = b) (hm : (n : Int) ≤ 9223372036854775807) :
  Calls Try.prog 115 #[.slice A0 n c0] w fun e w' => e = .returned (.bool b) ∧ w = w' := by
 have hb2 : decide (8 < n) = b := by rw [← hb]; exact decide_eq_decide.2 (by omega)
 cases b <;>
 ·
  go_enter Try.func115, Try.ntmps115
  go_wp2
  go_ret
  exact ⟨rfl, rfl⟩
theorem vv.index (A0 : Option Addr) (c0 : Nat) (l0 : List (List Int)) (w : World) (hr0 : Kd.C (Kd.slice 22 (Kd.int .u64)) w A0 l0.length l0) :
  Calls Try.prog 123 #[.slice A0 l0.length c0, .func (.func 115) #[] #[]] w fun e w' => e = .returned (.int .i64 (vv.idx l0 0)) ∧ w = w' := by
 have HR0 := jA.mk hr0
 have hmx : (l0.length : Int) ≤ 9223372036854775807 := by have := hr0.2.1; omega
 clear hr0
 go_enter Try.func123, Try.ntmps123
 go_wp2_with fail
 go_loopg [8] l0.length (fun kq v8 wr => ∃ i : Nat, v8 = .int .i64 i ∧ jA (i + kq = l0.length) ∧ jA (vv.idx (l0.drop i) i = vv.idx l0 0) ∧ w = wr)
 case atStart => exact ⟨0, rfl, ⟨by omega⟩, ⟨rfl⟩, rfl⟩
 case round =>
  obtain ⟨i, rfl, HI, HX, rfl⟩ := hrel
  cases gk with
  | zero =>
   obtain rfl : i = l0.length := by have := HI.out; omega
   have hx := HX.out
   rw [List.drop_length, vv.idx] at hx
   have HX2 := jA.mk hx
   clear HX hx
   go_wp2
   go_ret
   exact ⟨by rw [← HX2.out]; rfl, rfl⟩
  | succ d =>
   have hil : i < l0.length := by have := HI.out; omega
   obtain ⟨ad, cs, e1, hcl, hK, hcs⟩ := Kd.jEc HR0.out [] (i : Int) (by omega) (by omega)
   cases e1
   obtain ⟨Ar, cr, ecs, hrl, hC⟩ := hK
   subst ecs
   rw [Int.toNat_natCast] at hrl hC hcs
   obtain ⟨row, hrow⟩ : ∃ row, l0.getD i [] = row := ⟨_, rfl⟩
   rw [hrow] at hrl hC hcs
   have hcell := hcs 0 _ rfl
   rw [show i * (Kd.slice 22 (Kd.int .u64)).sz + 0 = i from by show i * 1 + 0 = i; omega] at hcell
   have hx := HX.out
   rw [List.drop_eq_getElem_cons hil] at hx
   have hrow2 : l0[i] = row := by rw [← hrow, List.getD_eq_getElem?_getD, List.getElem?_eq_getElem hil]; rfl
   rw [hrow2, vv.idx] at hx
   have hmr : (row.length : Int) ≤ 9223372036854775807 := by have := hC.2.1; omega
   have hil' : (i : Int) < (l0.length : Int) := by omega
   clear hrow hrow2 hcs hcl hC hrl HX
   by_cases hb : 8 < row.length
   ·
    rw [if_pos hb] at hx
    have HX2 := jA.mk hx
    have HBT := jA.mk (show decide (8 < (row.length : Int)) = true from decide_eq_true (by omega))
    clear hx hb
    go_wp2_with fail
    refine (vv.one Ar cr row.length true _ HBT.out hmr).mono ?_
    rintro e w1 ⟨rfl, rfl⟩
    go_wp2
    go_ret
    exact ⟨by rw [← HX2.out]; rfl, rfl⟩
   ·
    rw [if_neg hb] at hx
    have HX2 := jA.mk hx
    have HBT := jA.mk (show decide (8 < (row.length : Int)) = false from decide_eq_false (by omega))
    clear hx hb
    go_wp2_with fail
    refine (vv.one Ar cr row.length false _ HBT.out hmr).mono ?_
    rintro e w1 ⟨rfl, rfl⟩
    go_wp2
    go_roundg d
    case measure => omega
    case rel => exact ⟨i + 1, by go_num, ⟨by have := HI.out; omega⟩, ⟨by have := HX2.out; rw [← this]; congr 1⟩, rfl⟩
theorem vv.calls (A0 : Option Addr) (c0 : Nat) (l0 : List (List Int)) (r : Bool) (w : World) (hr0 : Kd.C (Kd.slice 22 (Kd.int .u64)) w A0 l0.length l0) (hc0 : l0.length ≤ c0) (h : vv.f l0 = some r) :
  Calls Try.prog 89 #[.slice A0 l0.length c0] w fun e w' => e = .returned (.bool r) ∧ zf w w' := by
 obtain rfl := Option.some.inj h
 have HR0 := jA.mk hr0
 clear hr0 hc0 h
 have HC : jA (Calls Try.prog 114 #[.slice A0 l0.length c0, .func (.func 115) #[] #[]] w fun e w' => e = .returned (.bool (vv.any l0)) ∧ w = w') := by
  refine ⟨?_⟩
  unfold vv.any
  have HI := jA.mk (vv.index A0 c0 l0 w HR0.out)
  generalize vv.idx l0 0 = j at HI
  cases hj : decide (0 ≤ j) with
  | true =>
   go_enter Try.func114, Try.ntmps114
   go_wp2_with fail
   refine HI.out.mono ?_
   rintro e w1 ⟨rfl, rfl⟩
   go_wp2
   go_ret
   exact ⟨rfl, rfl⟩
  | false =>
   go_enter Try.func114, Try.ntmps114
   go_wp2_with fail
   refine HI.out.mono ?_
   rintro e w1 ⟨rfl, rfl⟩
   go_wp2
   go_ret
   exact ⟨rfl, rfl⟩
 generalize vv.any l0 = b at HC
 go_enter Try.func89, Try.ntmps89
 go_wp2_with fail
 refine HC.out.mono ?_
 rintro e w1 ⟨rfl, rfl⟩
 go_wp2
 go_ret
 exact ⟨rfl, zf.refl _⟩

/-! ### vJ: function 49 -/
def vJ.j0 : Nat → Bool → Bool → List Int → List Int → Bool → List Int → List Int → Option (Bool × List Int × List Int × Int)
 | 0, _, _, _, _, _, _, _ => none
 | k + 1, x18, x340000, x340001, x340002, x341000, x341001, x341002 => if x18 = true then (some (false, ([] : List Int), ([] : List Int), 1)) else ((vP.f k x340000 x340001 x340002 x341000 x341001 x341002).bind fun bt344 => ((zu.f k x340000 bt344.1 x341000 bt344.2).bind fun bt350 => ((vB.f k x340002 x341002).bind fun t354 => ((vv.f (([bt344.1, bt344.2, bt350.2, t354] : List (List Int)))).bind fun t360 => (if t360 = true then (some (false, ([] : List Int), ([] : List Int), 21)) else ((zY.f k bt350.1 bt350.2 t354).bind fun bt361 => (some (bt361.1, bt361.2.1, bt361.2.2.1, bt361.2.2.2))))))))
def vJ.f (k : Nat) (a0_0 : Bool) (l0_1 : List Int) (l0_2 : List Int) (a1_0 : Bool) (l1_1 : List Int) (l1_2 : List Int) : Option (Bool × List Int × List Int × Int) := (zm.f k a0_0 l0_1 l0_2).bind fun t342 => (if t342 = true then ((zm.f k a1_0 l1_1 l1_2).bind fun t343 => (vJ.j0 k (!t343) a0_0 l0_1 l0_2 a1_0 l1_1 l1_2)) else (vJ.j0 k true a0_0 l0_1 l0_2 a1_0 l1_1 l1_2))
theorem vJ.vk : ∀ k, (∀ y0 y1 y2 y3 y4 y5 y6, LeO (vJ.j0 k y0 y1 y2 y3 y4 y5 y6) (vJ.j0 (k + 1) y0 y1 y2 y3 y4 y5 y6))
 | 0 => fun _ _ _ _ _ _ _ r h => by simp [vJ.j0] at h
 | k + 1 => by
  have ih0 := vJ.vk k
  ·
   intro y0 y1 y2 y3 y4 y5 y6
   unfold vJ.j0
   repeat' first
   | (with_reducible exact ih0 _ _ _ _ _ _ _)
   | (with_reducible exact vB.mono _ _ _)
   | (with_reducible exact zY.mono _ _ _ _)
   | (with_reducible exact zm.mono _ _ _ _)
   | (with_reducible exact vP.mono _ _ _ _ _ _ _)
   | (with_reducible exact zu.mono _ _ _ _ _)
   | (with_reducible exact LeO.refl _)
   | (with_reducible exact LeO.none _)
   | (with_reducible refine LeO.ite ?_ ?_)
   | (with_reducible refine LeO.bind ?_ (fun _ => ?_))
theorem vJ.mono : ∀ a0 a1 a2 a3 a4 a5 k, LeO (vJ.f k a0 a1 a2 a3 a4 a5) (vJ.f (k + 1) a0 a1 a2 a3 a4 a5) := by
 intro a0 a1 a2 a3 a4 a5 k
 have ih0 := vJ.vk k
 unfold vJ.f
 repeat' first
   | (with_reducible exact ih0 _ _ _ _ _ _ _)
   | (with_reducible exact vB.mono _ _ _)
   | (with_reducible exact zY.mono _ _ _ _)
   | (with_reducible exact zm.mono _ _ _ _)
   | (with_reducible exact vP.mono _ _ _ _ _ _ _)
   | (with_reducible exact zu.mono _ _ _ _ _)
   | (with_reducible exact LeO.refl _)
   | (with_reducible exact LeO.none _)
   | (with_reducible refine LeO.ite ?_ ?_)
   | (with_reducible refine LeO.bind ?_ (fun _ => ?_))
theorem vJ.calls (k : Nat) (a0_0 : Bool) (A0_1 : Option Addr) (c0_1 : Nat) (l0_1 : List Int) (A0_2 : Option Addr) (c0_2 : Nat) (l0_2 : List Int) (a1_0 : Bool) (A1_1 : Option Addr) (c1_1 : Nat) (l1_1 : List Int) (A1_2 : Option Addr) (c1_2 : Nat) (l1_2 : List Int) (r1 : Bool) (r2 : List Int) (r3 : List Int) (r4 : Int) (w : World) (hr0_1 : Kd.C (Kd.int .u64) w A0_1 l0_1.length l0_1) (hc0_1 : l0_1.length ≤ c0_1) (hr0_2 : Kd.C (Kd.int .u64) w A0_2 l0_2.length l0_2) (hc0_2 : l0_2.length ≤ c0_2) (hr1_1 : Kd.C (Kd.int .u64) w A1_1 l1_1.length l1_1) (hc1_1 : l1_1.length ≤ c1_1) (hr1_2 : Kd.C (Kd.int .u64) w A1_2 l1_2.length l1_2) (hc1_2 : l1_2.length ≤ c1_2) (h : vJ.f k a0_0 l0_1 l0_2 a1_0 l1_1 l1_2 = some (r1, r2, r3, r4)) :
  Calls Try.prog 49 #[.agg #[.bool a0_0, .slice A0_1 l0_1.length c0_1, .slice A0_2 l0_2.length c0_2], .agg #[.bool a1_0, .slice A1_1 l1_1.length c1_1, .slice A1_2 l1_2.length c1_2]] w fun e w' => ∃ v1_ v2_ : Value, e = .returned (.tuple #[.agg #[.bool r1, v1_, v2_], .int .i64 r4]) ∧ Kd.R (Kd.int .u64) 22 w' w.heap.size (fun k_ => some k_ ≠ (v2_ : Value).ownBlock) v1_ r2 ∧ Kd.R (Kd.int .u64) 22 w' w.heap.size (fun k_ => some k_ ≠ (v1_ : Value).ownBlock) v2_ r3 ∧ Below w.heap.size w w' := by
 have hu44 := Try.underlying44
 have HR0_1 := jA.mk hr0_1
 have HC0_1 := jA.mk hc0_1
 clear hr0_1 hc0_1
 have HR0_2 := jA.mk hr0_2
 have HC0_2 := jA.mk hc0_2
 clear hr0_2 hc0_2
 have HR1_1 := jA.mk hr1_1
 have HC1_1 := jA.mk hc1_1
 clear hr1_1 hc1_1
 have HR1_2 := jA.mk hr1_2
 have HC1_2 := jA.mk hc1_2
 clear hr1_2 hc1_2
 have HB := jA.mk (Below.refl w.heap.size w)
 have H : ((zm.f k a0_0 l0_1 l0_2).bind fun t342 => (if t342 = true then ((zm.f k a1_0 l1_1 l1_2).bind fun t343 => (vJ.j0 k (!t343) a0_0 l0_1 l0_2 a1_0 l1_1 l1_2)) else (vJ.j0 k true a0_0 l0_1 l0_2 a1_0 l1_1 l1_2))) = some (r1, r2, r3, r4) := h
 clear h
 have HC3 := jA.mk H
 clear H
 go_enter Try.func49, Try.ntmps49
 go_upto_region 1 with (first | ((with_reducible refine jl (N := 2) rfl ?_); refine zA ?hg (N := 2) ?hd (cs := #[.bool a0_0, .slice A0_1 l0_1.length c0_1, .slice A0_2 l0_2.length c0_2]) (t := 44) ?hr ?_; (case hd => rfl); (case hg => rfl); (case hr => exact gs_); intro gb339 hg w4 hbox hb; have n0_ := jA.mk (jC (bb_ HB) hb); have n1_ := jA.mk (hbox); have n2_ := jA.mk ((by rw [hg]; exact (jB (bb_ HB)) : w.heap.size ≤ gb339)); have n3_ := jA.mk ((by rw [hg]; exact (jB (bb_ HB)) : w.heap.size ≤ gb339)); clear HB; have HB := n0_; have BK339 := n1_; have GW339 := n2_; have GE339 := n3_; clear n0_ n1_ n2_ n3_ hb hbox hg) | ((with_reducible refine jl (N := 3) rfl ?_); refine zA ?hg (N := 3) ?hd (cs := #[.bool a1_0, .slice A1_1 l1_1.length c1_1, .slice A1_2 l1_2.length c1_2]) (t := 44) ?hr ?_; (case hd => rfl); (case hg => rfl); (case hr => exact gs_); intro gb340 hg w5 hbox hb; have n0_ := jA.mk (bl_ BK339 hb); have n1_ := jA.mk (jC (bb1_ HB GE339) hb); have n2_ := jA.mk (hbox); have n3_ := jA.mk ((by rw [hg]; exact (jB (bb1_ HB GE339)) : w.heap.size ≤ gb340)); have n4_ := jA.mk ((by rw [hg]; exact (jB (bb1_ HB GE339)) : w.heap.size ≤ gb340)); have n5_ := jA.mk ((by rw [hg]; exact Nat.ne_of_lt (qC (g := gb339) (o := .cells #[.bool a0_0, .slice A0_1 l0_1.length c0_1, .slice A0_2 l0_2.length c0_2] 44 (0, 0)) (kb_ BK339)) : gb339 ≠ gb340)); have n6_ := jA.mk ((by rw [hg]; exact Nat.ne_of_gt (qC (g := gb339) (o := .cells #[.bool a0_0, .slice A0_1 l0_1.length c0_1, .slice A0_2 l0_2.length c0_2] 44 (0, 0)) (kb_ BK339)) : gb340 ≠ gb339)); clear BK339 HB; have BK339 := n0_; have HB := n1_; have BK340 := n2_; have GW340 := n3_; have GE340 := n4_; have NB339_340 := n5_; have NB340_339 := n6_; clear n0_ n1_ n2_ n3_ n4_ n5_ n6_ hb hbox hg) | ((with_reducible refine jl (N := 4) rfl ?_); refine zA ?hg (N := 4) ?hd (cs := #[.bool false, .slice none 0 0, .slice none 0 0]) (t := 44) ?hr ?_; (case hd => rfl); (case hg => rfl); (case hr => exact gs_); intro gb341 hg w6 hbox hb; have n0_ := jA.mk (bl_ BK339 hb); have n1_ := jA.mk (bl_ BK340 hb); have n2_ := jA.mk (jC (bb2_ HB GE339 GE340) hb); have n3_ := jA.mk (hbox); have n4_ := jA.mk ((by rw [hg]; exact (jB (bb2_ HB GE339 GE340)) : w.heap.size ≤ gb341)); have n5_ := jA.mk ((by rw [hg]; exact (jB (bb2_ HB GE339 GE340)) : w.heap.size ≤ gb341)); have n6_ := jA.mk ((by rw [hg]; exact Nat.ne_of_lt (qC (g := gb339) (o := .cells #[.bool a0_0, .slice A0_1 l0_1.length c0_1, .slice A0_2 l0_2.length c0_2] 44 (0, 0)) (kb_ BK339)) : gb339 ≠ gb341)); have n7_ := jA.mk ((by rw [hg]; exact Nat.ne_of_gt (qC (g := gb339) (o := .cells #[.bool a0_0, .slice A0_1 l0_1.length c0_1, .slice A0_2 l0_2.length c0_2] 44 (0, 0)) (kb_ BK339)) : gb341 ≠ gb339)); have n8_ := jA.mk ((by rw [hg]; exact Nat.ne_of_lt (qC (g := gb340) (o := .cells #[.bool a1_0, .slice A1_1 l1_1.length c1_1, .slice A1_2 l1_2.length c1_2] 44 (0, 0)) (kb_ BK340)) : gb340 ≠ gb341)); have n9_ := jA.mk ((by rw [hg]; exact Nat.ne_of_gt (qC (g := gb340) (o := .cells #[.bool a1_0, .slice A1_1 l1_1.length c1_1, .slice A1_2 l1_2.length c1_2] 44 (0, 0)) (kb_ BK340)) : gb341 ≠ gb340)); clear BK339 BK340 HB; have BK339 := n0_; have BK340 := n1_; have HB := n2_; have BK341 := n3_; have GW341 := n4_; have GE341 := n5_; have NB339_341 := n6_; have NB341_339 := n7_; have NB340_341 := n8_; have NB341_340 := n9_; clear n0_ n1_ n2_ n3_ n4_ n5_ n6_ n7_ n8_ n9_ hb hbox hg))
 (try simp only [Act.put, ss_])
 go_cut [18] (fun v18 wc => ∃ (kq : Nat) (x18_2 : Bool), v18 = .bool x18_2 ∧ jA (vJ.j0 kq x18_2 a0_0 l0_1 l0_2 a1_0 l1_1 l1_2 = some (r1, r2, r3, r4)) ∧ jA (kq ≤ k) ∧ jA (wc.heap[gb339]? = some (.cells #[.bool a0_0, (.slice A0_1 l0_1.length c0_1), (.slice A0_2 l0_2.length c0_2)] 44 (0, 0))) ∧ jA (wc.heap[gb340]? = some (.cells #[.bool a1_0, (.slice A1_1 l1_1.length c1_1), (.slice A1_2 l1_2.length c1_2)] 44 (0, 0))) ∧ jA (wc.heap[gb341]? = some (.cells #[.bool false, (.slice none 0 0), (.slice none 0 0)] 44 (0, 0))) ∧ jA (Below w.heap.size w wc))
 case first =>
  have H := HC3.out
  clear HC3
  replace H := ob_ H
  obtain ⟨t342, A70, H⟩ := H
  try dsimp only at H
  have A7 := jA.mk A70
  clear A70
  by_cases c8 : t342 = true
  ·
   subst c8
   have H1 : ((zm.f k a1_0 l1_1 l1_2).bind fun t343 => (vJ.j0 k (!t343) a0_0 l0_1 l0_2 a1_0 l1_1 l1_2)) = some (r1, r2, r3, r4) := by rw [if_pos rfl] at H; exact H
   clear H
   have H := H1
   clear H1
   replace H := ob_ H
   obtain ⟨t343, A90, H⟩ := H
   try dsimp only at H
   have A9 := jA.mk A90
   clear A90
   have H' := jA.mk H
   clear H
   have hnb10 := NB339_340.out
   have hnc10 := NB340_339.out
   have hnb11 := NB339_341.out
   have hnc11 := NB341_339.out
   have hcz12_0 : w6.cell? ⟨gb339, 0, none⟩ = some (.bool a0_0) := (jF BK339.out 0).trans rfl
   have hcz12_1 : w6.cell? ⟨gb339, 1, none⟩ = some (.slice A0_1 l0_1.length c0_1) := (jF BK339.out 1).trans rfl
   have hcz12_2 : w6.cell? ⟨gb339, 2, none⟩ = some (.slice A0_2 l0_2.length c0_2) := (jF BK339.out 2).trans rfl
   have hfz12_0 := jE BK339.out 0
   have hfz12_1 := jE BK339.out 1
   have hfz12_2 := jE BK339.out 2
   go_wp2_with (first | ((with_reducible refine jJ (f := 27) rfl ?_); refine jr (some 12) rfl rfl Try.func27 kr_ rfl #[.agg #[.bool a0_0, .slice A0_1 l0_1.length c0_1, .slice A0_2 l0_2.length c0_2]] rfl mt_ ?_; (with_reducible refine (zm.calls k a0_0 _ _ l0_1 _ _ l0_2 true _ ?side1 ?side2 ?side3 ?side4 A7.out).mono ?_); (case side1 => exact cc_ (Kd.je HR0_1.out HB.out)); (case side2 => exact HC0_1.out); (case side3 => exact cc_ (Kd.je HR0_2.out HB.out)); (case side4 => exact HC0_2.out); rintro e w13 ⟨rfl, hb⟩; refine ⟨_, rfl, ?_⟩; have n0_ := jA.mk (bl_ BK339 hb); have n1_ := jA.mk (bl_ BK340 hb); have n2_ := jA.mk (bl_ BK341 hb); have n3_ := jA.mk (jC (bb3_ HB GE339 GE340 GE341) hb); clear BK339 BK340 BK341 HB; have BK339 := n0_; have BK340 := n1_; have BK341 := n2_; have HB := n3_; clear n0_ n1_ n2_ n3_; have hnb14 := NB340_341.out; have hnc14 := NB341_340.out; have hcz15_0 : w13.cell? ⟨gb340, 0, none⟩ = some (.bool a1_0) := (jF BK340.out 0).trans rfl; have hcz15_1 : w13.cell? ⟨gb340, 1, none⟩ = some (.slice A1_1 l1_1.length c1_1) := (jF BK340.out 1).trans rfl; have hcz15_2 : w13.cell? ⟨gb340, 2, none⟩ = some (.slice A1_2 l1_2.length c1_2) := (jF BK340.out 2).trans rfl; have hfz15_0 := jE BK340.out 0; have hfz15_1 := jE BK340.out 1; have hfz15_2 := jE BK340.out 2) | (go_at_call 27; (with_reducible refine (zm.calls k a1_0 _ _ l1_1 _ _ l1_2 t343 _ ?side1 ?side2 ?side3 ?side4 A9.out).mono ?_); (case side1 => exact cc_ (Kd.je HR1_1.out HB.out)); (case side2 => exact HC1_1.out); (case side3 => exact cc_ (Kd.je HR1_2.out HB.out)); (case side4 => exact HC1_2.out); rintro e w16 ⟨rfl, hb⟩; have n0_ := jA.mk (bl_ BK339 hb); have n1_ := jA.mk (bl_ BK340 hb); have n2_ := jA.mk (bl_ BK341 hb); have n3_ := jA.mk (jC (bb3_ HB GE339 GE340 GE341) hb); clear BK339 BK340 BK341 HB; have BK339 := n0_; have BK340 := n1_; have BK341 := n2_; have HB := n3_; clear n0_ n1_ n2_ n3_))
   go_meet
   case rel => exact ⟨_, (!t343), sd_, H', ⟨by first | omega | exact Nat.le_refl _⟩, ⟨by (with_reducible repeat (first | refine jAE ?_ _ | refine zW ?_ | refine za ?_ _)); exact BK339.out⟩, ⟨by (with_reducible repeat (first | refine jAE ?_ _ | refine zW ?_ | refine za ?_ _)); exact BK340.out⟩, ⟨by (with_reducible repeat (first | refine jAE ?_ _ | refine zW ?_ | refine za ?_ _)); exact BK341.out⟩, ⟨(bb3_ HB GE339 GE340 GE341)⟩⟩
  ·
   replace c8 := Bool.eq_false_iff.mpr c8
   subst c8
   have H1 : (vJ.j0 k true a0_0 l0_1 l0_2 a1_0 l1_1 l1_2) = some (r1, r2, r3, r4) := by rw [if_neg (show ¬ (false = true) by decide)] at H; exact H
   clear H
   have H := H1
   clear H1
   have H' := jA.mk H
   clear H
   have hnb17 := NB339_340.out
   have hnc17 := NB340_339.out
   have hnb18 := NB339_341.out
   have hnc18 := NB341_339.out
   have hcz19_0 : w6.cell? ⟨gb339, 0, none⟩ = some (.bool a0_0) := (jF BK339.out 0).trans rfl
   have hcz19_1 : w6.cell? ⟨gb339, 1, none⟩ = some (.slice A0_1 l0_1.length c0_1) := (jF BK339.out 1).trans rfl
   have hcz19_2 : w6.cell? ⟨gb339, 2, none⟩ = some (.slice A0_2 l0_2.length c0_2) := (jF BK339.out 2).trans rfl
   have hfz19_0 := jE BK339.out 0
   have hfz19_1 := jE BK339.out 1
   have hfz19_2 := jE BK339.out 2
   go_wp2_with (first | ((with_reducible refine jJ (f := 27) rfl ?_); refine jr (some 12) rfl rfl Try.func27 kr_ rfl #[.agg #[.bool a0_0, .slice A0_1 l0_1.length c0_1, .slice A0_2 l0_2.length c0_2]] rfl mt_ ?_; (with_reducible refine (zm.calls k a0_0 _ _ l0_1 _ _ l0_2 false _ ?side1 ?side2 ?side3 ?side4 A7.out).mono ?_); (case side1 => exact cc_ (Kd.je HR0_1.out HB.out)); (case side2 => exact HC0_1.out); (case side3 => exact cc_ (Kd.je HR0_2.out HB.out)); (case side4 => exact HC0_2.out); rintro e w20 ⟨rfl, hb⟩; refine ⟨_, rfl, ?_⟩; have n0_ := jA.mk (bl_ BK339 hb); have n1_ := jA.mk (bl_ BK340 hb); have n2_ := jA.mk (bl_ BK341 hb); have n3_ := jA.mk (jC (bb3_ HB GE339 GE340 GE341) hb); clear BK339 BK340 BK341 HB; have BK339 := n0_; have BK340 := n1_; have BK341 := n2_; have HB := n3_; clear n0_ n1_ n2_ n3_))
   go_meet
   case rel => exact ⟨_, (true), sd_, H', ⟨by first | omega | exact Nat.le_refl _⟩, ⟨by (with_reducible repeat (first | refine jAE ?_ _ | refine zW ?_ | refine za ?_ _)); exact BK339.out⟩, ⟨by (with_reducible repeat (first | refine jAE ?_ _ | refine zW ?_ | refine za ?_ _)); exact BK340.out⟩, ⟨by (with_reducible repeat (first | refine jAE ?_ _ | refine zW ?_ | refine za ?_ _)); exact BK341.out⟩, ⟨(bb3_ HB GE339 GE340 GE341)⟩⟩
 case rest =>
  clear HC3
  try clear c1
  try clear c2
  try clear p2
  try clear c4
  try clear c8
  try clear c10
  try clear c11
  try clear c14
  try clear c17
  try clear c18
  try clear hcz12_0
  try clear hcz12_1
  try clear hcz12_2
  try clear hcz15_0
  try clear hcz15_1
  try clear hcz15_2
  try clear hcz19_0
  try clear hcz19_1
  try clear hcz19_2
  try clear hfz12_0
  try clear hfz12_1
  try clear hfz12_2
  try clear hfz15_0
  try clear hfz15_1
  try clear hfz15_2
  try clear hfz19_0
  try clear hfz19_1
  try clear hfz19_2
  obtain ⟨kq, x18_2, rfl, HA, HJ2, BK339, BK340, BK341, HB⟩ := hcut
  cases kq with
  | zero => exact absurd HA.out (by simp [vJ.j0])
  | succ kj2 =>
   have H := HA.out
   clear HA
   simp only [vJ.j0] at H
   by_cases c21 : x18_2 = true
   ·
    subst c21
    have H1 : (some (false, ([] : List Int), ([] : List Int), 1)) = some (r1, r2, r3, r4) := by rw [if_pos rfl] at H; exact H
    clear H
    have H := H1
    clear H1
    simp only [Option.some.injEq, Prod.mk.injEq] at H
    obtain ⟨rfl, rfl, rfl, rfl⟩ := H
    have hnb22 := NB341_339.out
    have hnc22 := NB339_341.out
    have hnb23 := NB341_340.out
    have hnc23 := NB340_341.out
    have hcz24_0 : wc.cell? ⟨gb341, 0, none⟩ = some (.bool false) := (jF BK341.out 0).trans rfl
    have hcz24_1 : wc.cell? ⟨gb341, 1, none⟩ = some (.slice none 0 0) := (jF BK341.out 1).trans rfl
    have hcz24_2 : wc.cell? ⟨gb341, 2, none⟩ = some (.slice none 0 0) := (jF BK341.out 2).trans rfl
    have hfz24_0 := jE BK341.out 0
    have hfz24_1 := jE BK341.out 1
    have hfz24_2 := jE BK341.out 2
    go_wp2
    refine bodyPost_ret (qN rfl _ _ gb341 44 #[.bool false, .slice none 0 0, .slice none 0 0] (0, 0) _ rfl (by refine pk_ ?_; refine vD (cs := #[.bool false, .slice none 0 0, .slice none 0 0]) ?_ 2 _ rs_; refine pk_ ?_; refine vD (cs := #[.bool false, .slice none 0 0, .slice none 0 0]) ?_ 1 _ rs_; refine pk_ ?_; refine vD (cs := #[.bool false, .slice none 0 0, .slice none 0 0]) ?_ 0 _ rs_; refine pk_ ?_; exact BK341.out) Try.underlying44 rfl kr_) rfl ?_
    exact ⟨_, _, ew_, nl_, nl_, (bb3_ HB GE339 GE340 GE341)⟩
   ·
    replace c21 := Bool.eq_false_iff.mpr c21
    subst c21
    have H1 : ((vP.f kj2 a0_0 l0_1 l0_2 a1_0 l1_1 l1_2).bind fun bt344 => ((zu.f kj2 a0_0 bt344.1 a1_0 bt344.2).bind fun bt350 => ((vB.f kj2 l0_2 l1_2).bind fun t354 => ((vv.f (([bt344.1, bt344.2, bt350.2, t354] : List (List Int)))).bind fun t360 => (if t360 = true then (some (false, ([] : List Int), ([] : List Int), 21)) else ((zY.f kj2 bt350.1 bt350.2 t354).bind fun bt361 => (some (bt361.1, bt361.2.1, bt361.2.2.1, bt361.2.2.2)))))))) = some (r1, r2, r3, r4) := by rw [if_neg (show ¬ (false = true) by decide)] at H; exact H
    clear H
    have H := H1
    clear H1
    replace H := ob_ H
    obtain ⟨⟨t344, t347⟩, A250, H⟩ := H
    try dsimp only at H
    have A25 := jA.mk A250
    clear A250
    replace H := ob_ H
    obtain ⟨⟨t350, t351⟩, A260, H⟩ := H
    try dsimp only at H
    have A26 := jA.mk A260
    clear A260
    replace H := ob_ H
    obtain ⟨t354, A270, H⟩ := H
    try dsimp only at H
    have A27 := jA.mk A270
    clear A270
    obtain ⟨y357, hy357⟩ : ∃ y_ : List (List Int), y_ = (([t344, t347, t351, t354] : List (List Int))) := ⟨_, rfl⟩
    replace H : ((vv.f y357).bind fun t360 => (if t360 = true then (some (false, ([] : List Int), ([] : List Int), 21)) else ((zY.f kj2 t350 t351 t354).bind fun bt361 => (some (bt361.1, bt361.2.1, bt361.2.2.1, bt361.2.2.2))))) = some (r1, r2, r3, r4) := by first | (rw [hy357]; with_reducible exact H) | (have H2_ := (Option.bind_some _ _).symm.trans H; rw [hy357]; with_reducible exact H2_) | (with_reducible exact hs_ H) | with_reducible exact H | (rw [hy357]; exact H) | exact H
    have Ny357 := jA.mk hy357
    clear hy357
    replace H := ob_ H
    obtain ⟨t360, A280, H⟩ := H
    try dsimp only at H
    have A28 := jA.mk A280
    clear A280
    by_cases c29 : t360 = true
    ·
     subst c29
     have H1 : (some (false, ([] : List Int), ([] : List Int), 21)) = some (r1, r2, r3, r4) := by rw [if_pos rfl] at H; exact H
     clear H
     have H := H1
     clear H1
     simp only [Option.some.injEq, Prod.mk.injEq] at H
     obtain ⟨rfl, rfl, rfl, rfl⟩ := H
     have hnb30 := NB339_340.out
     have hnc30 := NB340_339.out
     have hnb31 := NB339_341.out
     have hnc31 := NB341_339.out
     have hcz32_0 : wc.cell? ⟨gb339, 0, none⟩ = some (.bool a0_0) := (jF BK339.out 0).trans rfl
     have hcz32_1 : wc.cell? ⟨gb339, 1, none⟩ = some (.slice A0_1 l0_1.length c0_1) := (jF BK339.out 1).trans rfl
     have hcz32_2 : wc.cell? ⟨gb339, 2, none⟩ = some (.slice A0_2 l0_2.length c0_2) := (jF BK339.out 2).trans rfl
     have hfz32_0 := jE BK339.out 0
     have hfz32_1 := jE BK339.out 1
     have hfz32_2 := jE BK339.out 2
     have hnb33 := NB340_341.out
     have hnc33 := NB341_340.out
     have hcz34_0 : wc.cell? ⟨gb340, 0, none⟩ = some (.bool a1_0) := (jF BK340.out 0).trans rfl
     have hcz34_1 : wc.cell? ⟨gb340, 1, none⟩ = some (.slice A1_1 l1_1.length c1_1) := (jF BK340.out 1).trans rfl
     have hcz34_2 : wc.cell? ⟨gb340, 2, none⟩ = some (.slice A1_2 l1_2.length c1_2) := (jF BK340.out 2).trans rfl
     have hfz34_0 := jE BK340.out 0
     have hfz34_1 := jE BK340.out 1
     have hfz34_2 := jE BK340.out 2
     go_wp2_with (first | ((with_reducible refine jJ (f := 86) rfl ?_); refine jr (some 23) rfl rfl Try.func86 kr_ rfl #[.agg #[.bool a0_0, .slice A0_1 l0_1.length c0_1, .slice A0_2 l0_2.length c0_2], .agg #[.bool a1_0, .slice A1_1 l1_1.length c1_1, .slice A1_2 l1_2.length c1_2]] rfl mt_ ?_; (with_reducible refine (vP.calls kj2 a0_0 _ _ l0_1 _ _ l0_2 a1_0 _ _ l1_1 _ _ l1_2 t344 t347 _ ?side1 ?side2 ?side3 ?side4 ?side5 ?side6 ?side7 ?side8 A25.out).mono ?_); (case side1 => exact cc_ (Kd.je HR0_1.out HB.out)); (case side2 => exact HC0_1.out); (case side3 => exact cc_ (Kd.je HR0_2.out HB.out)); (case side4 => exact HC0_2.out); (case side5 => exact cc_ (Kd.je HR1_1.out HB.out)); (case side6 => exact HC1_1.out); (case side7 => exact cc_ (Kd.je HR1_2.out HB.out)); (case side8 => exact HC1_2.out); rintro e w35 ⟨v345, v348, rfl, ho0, ho1, hb⟩; refine ⟨_, rfl, ?_⟩; have n0_ := jA.mk (Kd.jS ho0 (jB (bb3_ HB GE339 GE340 GE341))); have n1_ := jA.mk (Kd.jS ho1 (jB (bb3_ HB GE339 GE340 GE341))); have n2_ := jA.mk (bl_ BK339 hb); have n3_ := jA.mk (bl_ BK340 hb); have n4_ := jA.mk (bl_ BK341 hb); have n5_ := jA.mk (jC (bb3_ HB GE339 GE340 GE341) hb); clear BK339 BK340 BK341 HB; have HO346 := n0_; have HO349 := n1_; have BK339 := n2_; have BK340 := n3_; have BK341 := n4_; have HB := n5_; clear n0_ n1_ n2_ n3_ n4_ n5_; have hcz36_0 : w35.cell? ⟨gb339, 0, none⟩ = some (.bool a0_0) := (jF BK339.out 0).trans rfl; have hcz36_1 : w35.cell? ⟨gb339, 1, none⟩ = some (.slice A0_1 l0_1.length c0_1) := (jF BK339.out 1).trans rfl; have hcz36_2 : w35.cell? ⟨gb339, 2, none⟩ = some (.slice A0_2 l0_2.length c0_2) := (jF BK339.out 2).trans rfl; have hfz36_0 := jE BK339.out 0; have hfz36_1 := jE BK339.out 1; have hfz36_2 := jE BK339.out 2; have hcz37_0 : w35.cell? ⟨gb340, 0, none⟩ = some (.bool a1_0) := (jF BK340.out 0).trans rfl; have hcz37_1 : w35.cell? ⟨gb340, 1, none⟩ = some (.slice A1_1 l1_1.length c1_1) := (jF BK340.out 1).trans rfl; have hcz37_2 : w35.cell? ⟨gb340, 2, none⟩ = some (.slice A1_2 l1_2.length c1_2) := (jF BK340.out 2).trans rfl; have hfz37_0 := jE BK340.out 0; have hfz37_1 := jE BK340.out 1; have hfz37_2 := jE BK340.out 2; obtain ⟨Ao38, co38, eo38⟩ := Kd.jc HO346.out; subst eo38; obtain ⟨Ao39, co39, eo39⟩ := Kd.jc HO349.out; subst eo39) | ((with_reducible refine jJ (f := 87) rfl ?_); refine jr (some 33) rfl rfl Try.func87 kr_ rfl #[.bool a0_0, .slice Ao38 t344.length co38, .bool a1_0, .slice Ao39 t347.length co39] rfl mt_ ?_; (with_reducible refine (zu.calls kj2 a0_0 (fun k_ => some k_ = (.slice Ao38 t344.length co38 : Value).ownBlock) _ _ t344 a1_0 _ _ t347 t350 t351 _ ?side1 ?side2 ?side3 A26.out).mono ?_); (case side1 => exact Kd.R_V (Kd.jBr rfl (Kd.jW (Kd.jW (Kd.jW (HO346.out) BK339.out (by decide)) BK340.out (by decide)) BK341.out (by decide)))); (case side2 => exact cc_ (Kd.jI HO349.out).2.2); (case side3 => exact (Kd.jI HO349.out).2.1); rintro e w40 ⟨v352, rfl, ho0, hb⟩; refine ⟨_, rfl, ?_⟩; have n0_ := jA.mk (Kd.jy (rR_ HO346) hb); have n1_ := jA.mk (Kd.jy (rR_ HO349) hb); have n2_ := jA.mk (Kd.zk (Kd.vO (ok' := fun k_ => some k_ ≠ (.slice Ao39 t347.length co39 : Value).ownBlock ∧ k_ ≠ gb339 ∧ k_ ≠ gb340 ∧ k_ ≠ gb341) ho0 (fun k_ hk_ => ⟨Or.elim hk_ (fun hs_ => ((Kd.jW (Kd.jW (Kd.jW (HO346.out) BK339.out (by decide)) BK340.out (by decide)) BK341.out (by decide)).1 k_ hs_.symm).1.1.1) (fun hn_ => (Kd.fresh' (Kd.R_lt (rR_ HO349)) k_ hn_)), Or.elim hk_ (fun hs_ => ((Kd.jW (Kd.jW (Kd.jW (HO346.out) BK339.out (by decide)) BK340.out (by decide)) BK341.out (by decide)).1 k_ hs_.symm).1.1.2) (fun hn_ => (Kd.jAe (g := gb339) (o := .cells #[.bool a0_0, .slice A0_1 l0_1.length c0_1, .slice A0_2 l0_2.length c0_2] 44 (0, 0)) (kb_ BK339) k_ hn_)), Or.elim hk_ (fun hs_ => ((Kd.jW (Kd.jW (Kd.jW (HO346.out) BK339.out (by decide)) BK340.out (by decide)) BK341.out (by decide)).1 k_ hs_.symm).1.2) (fun hn_ => (Kd.jAe (g := gb340) (o := .cells #[.bool a1_0, .slice A1_1 l1_1.length c1_1, .slice A1_2 l1_2.length c1_2] 44 (0, 0)) (kb_ BK340) k_ hn_)), Or.elim hk_ (fun hs_ => ((Kd.jW (Kd.jW (Kd.jW (HO346.out) BK339.out (by decide)) BK340.out (by decide)) BK341.out (by decide)).1 k_ hs_.symm).2) (fun hn_ => (Kd.jAe (g := gb341) (o := .cells #[.bool false, .slice none 0 0, .slice none 0 0] 44 (0, 0)) (kb_ BK341) k_ hn_))⟩)) (jB (bb3_ HB GE339 GE340 GE341))); have n3_ := jA.mk (bl_ BK339 hb); have n4_ := jA.mk (bl_ BK340 hb); have n5_ := jA.mk (bl_ BK341 hb); have n6_ := jA.mk (jC (bb3_ HB GE339 GE340 GE341) hb); clear HO346 HO349 BK339 BK340 BK341 HB; have HO346 := n0_; have HO349 := n1_; have HO353 := n2_; have BK339 := n3_; have BK340 := n4_; have BK341 := n5_; have HB := n6_; clear n0_ n1_ n2_ n3_ n4_ n5_ n6_; have hcz41_0 : w40.cell? ⟨gb339, 0, none⟩ = some (.bool a0_0) := (jF BK339.out 0).trans rfl; have hcz41_1 : w40.cell? ⟨gb339, 1, none⟩ = some (.slice A0_1 l0_1.length c0_1) := (jF BK339.out 1).trans rfl; have hcz41_2 : w40.cell? ⟨gb339, 2, none⟩ = some (.slice A0_2 l0_2.length c0_2) := (jF BK339.out 2).trans rfl; have hfz41_0 := jE BK339.out 0; have hfz41_1 := jE BK339.out 1; have hfz41_2 := jE BK339.out 2; have hcz42_0 : w40.cell? ⟨gb340, 0, none⟩ = some (.bool a1_0) := (jF BK340.out 0).trans rfl; have hcz42_1 : w40.cell? ⟨gb340, 1, none⟩ = some (.slice A1_1 l1_1.length c1_1) := (jF BK340.out 1).trans rfl; have hcz42_2 : w40.cell? ⟨gb340, 2, none⟩ = some (.slice A1_2 l1_2.length c1_2) := (jF BK340.out 2).trans rfl; have hfz42_0 := jE BK340.out 0; have hfz42_1 := jE BK340.out 1; have hfz42_2 := jE BK340.out 2) | ((with_reducible refine jJ (f := 88) rfl ?_); refine jr (some 40) rfl rfl Try.func88 kr_ rfl #[.slice A0_2 l0_2.length c0_2, .slice A1_2 l1_2.length c1_2] rfl mt_ ?_; (with_reducible refine (vB.calls kj2 _ _ l0_2 _ _ l1_2 t354 _ ?side1 ?side2 ?side3 ?side4 A27.out).mono ?_); (case side1 => exact cc_ (Kd.je HR0_2.out HB.out)); (case side2 => exact HC0_2.out); (case side3 => exact cc_ (Kd.je HR1_2.out HB.out)); (case side4 => exact HC1_2.out); rintro e w43 ⟨v355, rfl, ho0, hb⟩; refine ⟨_, rfl, ?_⟩; have n0_ := jA.mk (Kd.jK (rR_ HO346) (Kd.jL ho0) hb); have n1_ := jA.mk (Kd.jK (rR_ HO349) (Kd.jL ho0) hb); have n2_ := jA.mk (Kd.qE (rV_ HO353) (Kd.jL ho0) hb); have n3_ := jA.mk (Kd.jS (Kd.jN (Kd.jN ho0 (Kd.R_lt (rR_ HO346))) (Kd.R_lt (rR_ HO349))) (jB (bb3_ HB GE339 GE340 GE341))); have n4_ := jA.mk (bl_ BK339 hb); have n5_ := jA.mk (bl_ BK340 hb); have n6_ := jA.mk (bl_ BK341 hb); have n7_ := jA.mk (jC (bb3_ HB GE339 GE340 GE341) hb); clear HO346 HO349 HO353 BK339 BK340 BK341 HB; have HO346 := n0_; have HO349 := n1_; have HO353 := n2_; have HO356 := n3_; have BK339 := n4_; have BK340 := n5_; have BK341 := n6_; have HB := n7_; clear n0_ n1_ n2_ n3_ n4_ n5_ n6_ n7_; obtain ⟨Ao44, co44, eo44⟩ := Kd.zT HO353.out; subst eo44; obtain ⟨Ao45, co45, eo45⟩ := Kd.jc HO356.out; subst eo45) | ((with_reducible refine jl (N := 45) rfl ?_); refine Kd.jHa (Kd.slice 22 (Kd.int .u64)) _ 35 ?hg (N' := 45) ?hd (xs := ([t344, t347, t351, t354] : List (List Int))) (inner := [.slice Ao38 t344.length co38, .slice Ao39 t347.length co39, .slice Ao44 t351.length co44, .slice Ao45 t354.length co45]) (ok := (fun k_ => k_ ≠ gb339 ∧ k_ ≠ gb340 ∧ k_ ≠ gb341)) (okp := (fun k_ => k_ ≠ gb339 ∧ k_ ≠ gb340 ∧ k_ ≠ gb341)) ?hr ?hp (fun _ hk => hk) ((show ∀ k_, w43.heap.size ≤ k_ → (fun k_ => k_ ≠ gb339 ∧ k_ ≠ gb340 ∧ k_ ≠ gb341) k_ from fun k_ hk => ⟨Kd.jAe (g := gb339) (o := .cells #[.bool a0_0, .slice A0_1 l0_1.length c0_1, .slice A0_2 l0_2.length c0_2] 44 (0, 0)) (kb_ BK339) k_ hk, Kd.jAe (g := gb340) (o := .cells #[.bool a1_0, .slice A1_1 l1_1.length c1_1, .slice A1_2 l1_2.length c1_2] 44 (0, 0)) (kb_ BK340) k_ hk, Kd.jAe (g := gb341) (o := .cells #[.bool false, .slice none 0 0, .slice none 0 0] 44 (0, 0)) (kb_ BK341) k_ hk⟩) _ (Nat.le_refl _)) (Below.refl _ _) (Nat.le_refl _) (by simp) ?_; (case hd => rfl); (case hg => rfl); (case hr => exact gs_); (case hp => exact (Reps.one (show Kd.FK (Kd.slice 22 (Kd.int .u64)) _ _ t344 [.slice Ao38 t344.length co38] from (Kd.jAG (Kd.jI (Kd.jP (ok' := (fun k_ => k_ ≠ gb339 ∧ k_ ≠ gb340 ∧ k_ ≠ gb341)) (Kd.jW (Kd.jW (Kd.jW (HO346.out) BK339.out (by decide)) BK340.out (by decide)) BK341.out (by decide)) (fun k_ hk => ⟨hk.1.1.2, ⟨hk.1.2, hk.2⟩⟩))).2.1 (Kd.R_F (Kd.jP (ok' := (fun k_ => k_ ≠ gb339 ∧ k_ ≠ gb340 ∧ k_ ≠ gb341)) (Kd.jW (Kd.jW (Kd.jW (HO346.out) BK339.out (by decide)) BK340.out (by decide)) BK341.out (by decide)) (fun k_ hk => ⟨hk.1.1.2, ⟨hk.1.2, hk.2⟩⟩))))) (Reps.one (show Kd.FK (Kd.slice 22 (Kd.int .u64)) _ _ t347 [.slice Ao39 t347.length co39] from (Kd.jAG (Kd.jI (Kd.jP (ok' := (fun k_ => k_ ≠ gb339 ∧ k_ ≠ gb340 ∧ k_ ≠ gb341)) (Kd.jW (Kd.jW (Kd.jW (HO349.out) BK339.out (by decide)) BK340.out (by decide)) BK341.out (by decide)) (fun k_ hk => ⟨hk.1.1.2, ⟨hk.1.2, hk.2⟩⟩))).2.1 (Kd.R_F (Kd.jP (ok' := (fun k_ => k_ ≠ gb339 ∧ k_ ≠ gb340 ∧ k_ ≠ gb341)) (Kd.jW (Kd.jW (Kd.jW (HO349.out) BK339.out (by decide)) BK340.out (by decide)) BK341.out (by decide)) (fun k_ hk => ⟨hk.1.1.2, ⟨hk.1.2, hk.2⟩⟩))))) (Reps.one (show Kd.FK (Kd.slice 22 (Kd.int .u64)) _ _ t351 [.slice Ao44 t351.length co44] from (Kd.jAG (Kd.vI (Kd.vO (ok' := (fun k_ => k_ ≠ gb339 ∧ k_ ≠ gb340 ∧ k_ ≠ gb341)) (HO353.out) (fun k_ hk => ⟨hk.1.2.1, ⟨hk.1.2.2.1, hk.1.2.2.2⟩⟩))).2.1 (Kd.V_F (Kd.vO (ok' := (fun k_ => k_ ≠ gb339 ∧ k_ ≠ gb340 ∧ k_ ≠ gb341)) (HO353.out) (fun k_ hk => ⟨hk.1.2.1, ⟨hk.1.2.2.1, hk.1.2.2.2⟩⟩))))) (Reps.one (show Kd.FK (Kd.slice 22 (Kd.int .u64)) _ _ t354 [.slice Ao45 t354.length co45] from (Kd.jAG (Kd.jI (Kd.jP (ok' := (fun k_ => k_ ≠ gb339 ∧ k_ ≠ gb340 ∧ k_ ≠ gb341)) (Kd.jW (Kd.jW (Kd.jW (HO356.out) BK339.out (by decide)) BK340.out (by decide)) BK341.out (by decide)) (fun k_ hk => ⟨hk.1.1.2, ⟨hk.1.2, hk.2⟩⟩))).2.1 (Kd.R_F (Kd.jP (ok' := (fun k_ => k_ ≠ gb339 ∧ k_ ≠ gb340 ∧ k_ ≠ gb341)) (Kd.jW (Kd.jW (Kd.jW (HO356.out) BK339.out (by decide)) BK340.out (by decide)) BK341.out (by decide)) (fun k_ hk => ⟨hk.1.1.2, ⟨hk.1.2, hk.2⟩⟩))))) (Reps.none _ _)))))); intro v358 w46 ho47 hb hg_ hnew_; clear hg_ hnew_; (first | rw [← Ny357.out] at ho47 | (simp only [Int.reduceToNat] at ho47; rw [← Ny357.out] at ho47)); have n0_ := jA.mk (Kd.qE (rV_ HO353) (Kd.jFJ ho47) hb); have n1_ := jA.mk (Kd.jDS ho47 (jB (bb3_ HB GE339 GE340 GE341))); have n2_ := jA.mk (bl_ BK339 hb); have n3_ := jA.mk (bl_ BK340 hb); have n4_ := jA.mk (bl_ BK341 hb); have n5_ := jA.mk (jC (bb3_ HB GE339 GE340 GE341) hb); clear HO353 BK339 BK340 BK341 HB HO346 HO349 HO356; have HO353 := n0_; have HO359 := n1_; have BK339 := n2_; have BK340 := n3_; have BK341 := n4_; have HB := n5_; clear n0_ n1_ n2_ n3_ n4_ n5_ hb ho47; obtain ⟨Ao48, co48, eo48⟩ := Kd.jCf HO359.out; subst eo48) | ((with_reducible refine jJ (f := 89) rfl ?_); refine jr (some 46) rfl rfl Try.func89 kr_ rfl #[.slice Ao48 y357.length co48] rfl mt_ ?_; (with_reducible refine (vv.calls _ _ y357 true _ ?side1 ?side2 A28.out).mono ?_); (case side1 => repeat (first | exact (Kd.jAP HO359.out).2.2 | (with_reducible refine Kd.zR ?_ _) | (with_reducible refine Kd.zh ?_ _) | (with_reducible refine Kd.qG ?_))); (case side2 => exact (Kd.jAP HO359.out).2.1); rintro e w' ⟨rfl, ⟨nd, rfl⟩⟩; refine ⟨_, rfl, ?_⟩; (try (rw [jAI w46]; generalize hq_ : World.drewN w46 _ = w46; have n0_ : jA (Kd.V (Kd.int .u64) 22 w46 w.heap.size (fun k_ => some k_ ≠ (.slice Ao48 y357.length co48 : Value).ownBlock ∧ k_ ≠ gb339 ∧ k_ ≠ gb340 ∧ k_ ≠ gb341) (.slice Ao44 t351.length co44) t351) := ⟨by rw [← hq_]; exact (by refine pV_ ?_; exact Kd.vO HO353.out (fun _ hk => ⟨hk.2, ⟨hk.1.1.2.1, ⟨hk.1.1.2.2.1, hk.1.1.2.2.2⟩⟩⟩))⟩; have n1_ : jA (Kd.N (Kd.slice 22 (Kd.int .u64)) 35 w46 w.heap.size (fun k_ => k_ ≠ gb339 ∧ k_ ≠ gb340 ∧ k_ ≠ gb341) (.slice Ao48 y357.length co48) y357) := ⟨by rw [← hq_]; exact (rN_ HO359)⟩; have n2_ : jA (w46.heap[gb339]? = some (.cells #[.bool a0_0, .slice A0_1 l0_1.length c0_1, .slice A0_2 l0_2.length c0_2] 44 (0, 0))) := ⟨by rw [← hq_]; exact (kb_ BK339)⟩; have n3_ : jA (w46.heap[gb340]? = some (.cells #[.bool a1_0, .slice A1_1 l1_1.length c1_1, .slice A1_2 l1_2.length c1_2] 44 (0, 0))) := ⟨by rw [← hq_]; exact (kb_ BK340)⟩; have n4_ : jA (w46.heap[gb341]? = some (.cells #[.bool false, .slice none 0 0, .slice none 0 0] 44 (0, 0))) := ⟨by rw [← hq_]; exact (kb_ BK341)⟩; have n5_ : jA (Below w.heap.size w w46) := ⟨by rw [← hq_]; exact (bb3_ HB GE339 GE340 GE341)⟩; clear HO353 HO359 BK339 BK340 BK341 HB hq_; have HO353 := n0_; have HO359 := n1_; have BK339 := n2_; have BK340 := n3_; have BK341 := n4_; have HB := n5_; clear n0_ n1_ n2_ n3_ n4_ n5_)); have hcz49_0 : w46.cell? ⟨gb341, 0, none⟩ = some (.bool false) := (jF BK341.out 0).trans rfl; have hcz49_1 : w46.cell? ⟨gb341, 1, none⟩ = some (.slice none 0 0) := (jF BK341.out 1).trans rfl; have hcz49_2 : w46.cell? ⟨gb341, 2, none⟩ = some (.slice none 0 0) := (jF BK341.out 2).trans rfl; have hfz49_0 := jE BK341.out 0; have hfz49_1 := jE BK341.out 1; have hfz49_2 := jE BK341.out 2))
     refine bodyPost_ret (qN rfl _ _ gb341 44 #[.bool false, .slice none 0 0, .slice none 0 0] (0, 0) _ rfl (by refine pk_ ?_; refine vD (cs := #[.bool false, .slice none 0 0, .slice none 0 0]) ?_ 2 _ rs_; refine pk_ ?_; refine vD (cs := #[.bool false, .slice none 0 0, .slice none 0 0]) ?_ 1 _ rs_; refine pk_ ?_; refine vD (cs := #[.bool false, .slice none 0 0, .slice none 0 0]) ?_ 0 _ rs_; refine pk_ ?_; exact BK341.out) Try.underlying44 rfl kr_) rfl ?_
     exact ⟨_, _, ew_, nl_, nl_, (bb3_ HB GE339 GE340 GE341)⟩
    ·
     replace c29 := Bool.eq_false_iff.mpr c29
     subst c29
     have H1 : ((zY.f kj2 t350 t351 t354).bind fun bt361 => (some (bt361.1, bt361.2.1, bt361.2.2.1, bt361.2.2.2))) = some (r1, r2, r3, r4) := by rw [if_neg (show ¬ (false = true) by decide)] at H; exact H
     clear H
     have H := H1
     clear H1
     replace H := ob_ H
     obtain ⟨⟨t361, t362, t365, t368⟩, A500, H⟩ := H
     try dsimp only at H
     have A50 := jA.mk A500
     clear A500
     simp only [Option.some.injEq, Prod.mk.injEq] at H
     obtain ⟨rfl, rfl, rfl, rfl⟩ := H
     have hnb51 := NB339_340.out
     have hnc51 := NB340_339.out
     have hnb52 := NB339_341.out
     have hnc52 := NB341_339.out
     have hcz53_0 : wc.cell? ⟨gb339, 0, none⟩ = some (.bool a0_0) := (jF BK339.out 0).trans rfl
     have hcz53_1 : wc.cell? ⟨gb339, 1, none⟩ = some (.slice A0_1 l0_1.length c0_1) := (jF BK339.out 1).trans rfl
     have hcz53_2 : wc.cell? ⟨gb339, 2, none⟩ = some (.slice A0_2 l0_2.length c0_2) := (jF BK339.out 2).trans rfl
     have hfz53_0 := jE BK339.out 0
     have hfz53_1 := jE BK339.out 1
     have hfz53_2 := jE BK339.out 2
     have hnb54 := NB340_341.out
     have hnc54 := NB341_340.out
     have hcz55_0 : wc.cell? ⟨gb340, 0, none⟩ = some (.bool a1_0) := (jF BK340.out 0).trans rfl
     have hcz55_1 : wc.cell? ⟨gb340, 1, none⟩ = some (.slice A1_1 l1_1.length c1_1) := (jF BK340.out 1).trans rfl
     have hcz55_2 : wc.cell? ⟨gb340, 2, none⟩ = some (.slice A1_2 l1_2.length c1_2) := (jF BK340.out 2).trans rfl
     have hfz55_0 := jE BK340.out 0
     have hfz55_1 := jE BK340.out 1
     have hfz55_2 := jE BK340.out 2
     go_wp2_with (first | ((with_reducible refine jJ (f := 86) rfl ?_); refine jr (some 23) rfl rfl Try.func86 kr_ rfl #[.agg #[.bool a0_0, .slice A0_1 l0_1.length c0_1, .slice A0_2 l0_2.length c0_2], .agg #[.bool a1_0, .slice A1_1 l1_1.length c1_1, .slice A1_2 l1_2.length c1_2]] rfl mt_ ?_; (with_reducible refine (vP.calls kj2 a0_0 _ _ l0_1 _ _ l0_2 a1_0 _ _ l1_1 _ _ l1_2 t344 t347 _ ?side1 ?side2 ?side3 ?side4 ?side5 ?side6 ?side7 ?side8 A25.out).mono ?_); (case side1 => exact cc_ (Kd.je HR0_1.out HB.out)); (case side2 => exact HC0_1.out); (case side3 => exact cc_ (Kd.je HR0_2.out HB.out)); (case side4 => exact HC0_2.out); (case side5 => exact cc_ (Kd.je HR1_1.out HB.out)); (case side6 => exact HC1_1.out); (case side7 => exact cc_ (Kd.je HR1_2.out HB.out)); (case side8 => exact HC1_2.out); rintro e w56 ⟨v345, v348, rfl, ho0, ho1, hb⟩; refine ⟨_, rfl, ?_⟩; have n0_ := jA.mk (Kd.jS ho0 (jB (bb3_ HB GE339 GE340 GE341))); have n1_ := jA.mk (Kd.jS ho1 (jB (bb3_ HB GE339 GE340 GE341))); have n2_ := jA.mk (bl_ BK339 hb); have n3_ := jA.mk (bl_ BK340 hb); have n4_ := jA.mk (bl_ BK341 hb); have n5_ := jA.mk (jC (bb3_ HB GE339 GE340 GE341) hb); clear BK339 BK340 BK341 HB; have HO346 := n0_; have HO349 := n1_; have BK339 := n2_; have BK340 := n3_; have BK341 := n4_; have HB := n5_; clear n0_ n1_ n2_ n3_ n4_ n5_; have hcz57_0 : w56.cell? ⟨gb339, 0, none⟩ = some (.bool a0_0) := (jF BK339.out 0).trans rfl; have hcz57_1 : w56.cell? ⟨gb339, 1, none⟩ = some (.slice A0_1 l0_1.length c0_1) := (jF BK339.out 1).trans rfl; have hcz57_2 : w56.cell? ⟨gb339, 2, none⟩ = some (.slice A0_2 l0_2.length c0_2) := (jF BK339.out 2).trans rfl; have hfz57_0 := jE BK339.out 0; have hfz57_1 := jE BK339.out 1; have hfz57_2 := jE BK339.out 2; have hcz58_0 : w56.cell? ⟨gb340, 0, none⟩ = some (.bool a1_0) := (jF BK340.out 0).trans rfl; have hcz58_1 : w56.cell? ⟨gb340, 1, none⟩ = some (.slice A1_1 l1_1.length c1_1) := (jF BK340.out 1).trans rfl; have hcz58_2 : w56.cell? ⟨gb340, 2, none⟩ = some (.slice A1_2 l1_2.length c1_2) := (jF BK340.out 2).trans rfl; have hfz58_0 := jE BK340.out 0; have hfz58_1 := jE BK340.out 1; have hfz58_2 := jE BK340.out 2; obtain ⟨Ao59, co59, eo59⟩ := Kd.jc HO346.out; subst eo59; obtain ⟨Ao60, co60, eo60⟩ := Kd.jc HO349.out; subst eo60) | ((with_reducible refine jJ (f := 87) rfl ?_); refine jr (some 33) rfl rfl Try.func87 kr_ rfl #[.bool a0_0, .slice Ao59 t344.length co59, .bool a1_0, .slice Ao60 t347.length co60] rfl mt_ ?_; (with_reducible refine (zu.calls kj2 a0_0 (fun k_ => some k_ = (.slice Ao59 t344.length co59 : Value).ownBlock) _ _ t344 a1_0 _ _ t347 t350 t351 _ ?side1 ?side2 ?side3 A26.out).mono ?_); (case side1 => exact Kd.R_V (Kd.jBr rfl (Kd.jW (Kd.jW (Kd.jW (HO346.out) BK339.out (by decide)) BK340.out (by decide)) BK341.out (by decide)))); (case side2 => exact cc_ (Kd.jI HO349.out).2.2); (case side3 => exact (Kd.jI HO349.out).2.1); rintro e w61 ⟨v352, rfl, ho0, hb⟩; refine ⟨_, rfl, ?_⟩; have n0_ := jA.mk (Kd.jy (rR_ HO346) hb); have n1_ := jA.mk (Kd.jy (rR_ HO349) hb); have n2_ := jA.mk (Kd.zk (Kd.vO (ok' := fun k_ => some k_ ≠ (.slice Ao60 t347.length co60 : Value).ownBlock ∧ k_ ≠ gb339 ∧ k_ ≠ gb340 ∧ k_ ≠ gb341) ho0 (fun k_ hk_ => ⟨Or.elim hk_ (fun hs_ => ((Kd.jW (Kd.jW (Kd.jW (HO346.out) BK339.out (by decide)) BK340.out (by decide)) BK341.out (by decide)).1 k_ hs_.symm).1.1.1) (fun hn_ => (Kd.fresh' (Kd.R_lt (rR_ HO349)) k_ hn_)), Or.elim hk_ (fun hs_ => ((Kd.jW (Kd.jW (Kd.jW (HO346.out) BK339.out (by decide)) BK340.out (by decide)) BK341.out (by decide)).1 k_ hs_.symm).1.1.2) (fun hn_ => (Kd.jAe (g := gb339) (o := .cells #[.bool a0_0, .slice A0_1 l0_1.length c0_1, .slice A0_2 l0_2.length c0_2] 44 (0, 0)) (kb_ BK339) k_ hn_)), Or.elim hk_ (fun hs_ => ((Kd.jW (Kd.jW (Kd.jW (HO346.out) BK339.out (by decide)) BK340.out (by decide)) BK341.out (by decide)).1 k_ hs_.symm).1.2) (fun hn_ => (Kd.jAe (g := gb340) (o := .cells #[.bool a1_0, .slice A1_1 l1_1.length c1_1, .slice A1_2 l1_2.length c1_2] 44 (0, 0)) (kb_ BK340) k_ hn_)), Or.elim hk_ (fun hs_ => ((Kd.jW (Kd.jW (Kd.jW (HO346.out) BK339.out (by decide)) BK340.out (by decide)) BK341.out (by decide)).1 k_ hs_.symm).2) (fun hn_ => (Kd.jAe (g := gb341) (o := .cells #[.bool false, .slice none 0 0, .slice none 0 0] 44 (0, 0)) (kb_ BK341) k_ hn_))⟩)) (jB (bb3_ HB GE339 GE340 GE341))); have n3_ := jA.mk (bl_ BK339 hb); have n4_ := jA.mk (bl_ BK340 hb); have n5_ := jA.mk (bl_ BK341 hb); have n6_ := jA.mk (jC (bb3_ HB GE339 GE340 GE341) hb); clear HO346 HO349 BK339 BK340 BK341 HB; have HO346 := n0_; have HO349 := n1_; have HO353 := n2_; have BK339 := n3_; have BK340 := n4_; have BK341 := n5_; have HB := n6_; clear n0_ n1_ n2_ n3_ n4_ n5_ n6_; have hcz62_0 : w61.cell? ⟨gb339, 0, none⟩ = some (.bool a0_0) := (jF BK339.out 0).trans rfl; have hcz62_1 : w61.cell? ⟨gb339, 1, none⟩ = some (.slice A0_1 l0_1.length c0_1) := (jF BK339.out 1).trans rfl; have hcz62_2 : w61.cell? ⟨gb339, 2, none⟩ = some (.slice A0_2 l0_2.length c0_2) := (jF BK339.out 2).trans rfl; have hfz62_0 := jE BK339.out 0; have hfz62_1 := jE BK339.out 1; have hfz62_2 := jE BK339.out 2; have hcz63_0 : w61.cell? ⟨gb340, 0, none⟩ = some (.bool a1_0) := (jF BK340.out 0).trans rfl; have hcz63_1 : w61.cell? ⟨gb340, 1, none⟩ = some (.slice A1_1 l1_1.length c1_1) := (jF BK340.out 1).trans rfl; have hcz63_2 : w61.cell? ⟨gb340, 2, none⟩ = some (.slice A1_2 l1_2.length c1_2) := (jF BK340.out 2).trans rfl; have hfz63_0 := jE BK340.out 0; have hfz63_1 := jE BK340.out 1; have hfz63_2 := jE BK340.out 2) | ((with_reducible refine jJ (f := 88) rfl ?_); refine jr (some 40) rfl rfl Try.func88 kr_ rfl #[.slice A0_2 l0_2.length c0_2, .slice A1_2 l1_2.length c1_2] rfl mt_ ?_; (with_reducible refine (vB.calls kj2 _ _ l0_2 _ _ l1_2 t354 _ ?side1 ?side2 ?side3 ?side4 A27.out).mono ?_); (case side1 => exact cc_ (Kd.je HR0_2.out HB.out)); (case side2 => exact HC0_2.out); (case side3 => exact cc_ (Kd.je HR1_2.out HB.out)); (case side4 => exact HC1_2.out); rintro e w64 ⟨v355, rfl, ho0, hb⟩; refine ⟨_, rfl, ?_⟩; have n0_ := jA.mk (Kd.jK (rR_ HO346) (Kd.jL ho0) hb); have n1_ := jA.mk (Kd.jK (rR_ HO349) (Kd.jL ho0) hb); have n2_ := jA.mk (Kd.qE (rV_ HO353) (Kd.jL ho0) hb); have n3_ := jA.mk (Kd.jS (Kd.jN (Kd.jN ho0 (Kd.R_lt (rR_ HO346))) (Kd.R_lt (rR_ HO349))) (jB (bb3_ HB GE339 GE340 GE341))); have n4_ := jA.mk (bl_ BK339 hb); have n5_ := jA.mk (bl_ BK340 hb); have n6_ := jA.mk (bl_ BK341 hb); have n7_ := jA.mk (jC (bb3_ HB GE339 GE340 GE341) hb); clear HO346 HO349 HO353 BK339 BK340 BK341 HB; have HO346 := n0_; have HO349 := n1_; have HO353 := n2_; have HO356 := n3_; have BK339 := n4_; have BK340 := n5_; have BK341 := n6_; have HB := n7_; clear n0_ n1_ n2_ n3_ n4_ n5_ n6_ n7_; obtain ⟨Ao65, co65, eo65⟩ := Kd.zT HO353.out; subst eo65; obtain ⟨Ao66, co66, eo66⟩ := Kd.jc HO356.out; subst eo66) | ((with_reducible refine jl (N := 45) rfl ?_); refine Kd.jHa (Kd.slice 22 (Kd.int .u64)) _ 35 ?hg (N' := 45) ?hd (xs := ([t344, t347, t351, t354] : List (List Int))) (inner := [.slice Ao59 t344.length co59, .slice Ao60 t347.length co60, .slice Ao65 t351.length co65, .slice Ao66 t354.length co66]) (ok := (fun k_ => k_ ≠ gb339 ∧ k_ ≠ gb340 ∧ k_ ≠ gb341)) (okp := (fun k_ => k_ ≠ gb339 ∧ k_ ≠ gb340 ∧ k_ ≠ gb341)) ?hr ?hp (fun _ hk => hk) ((show ∀ k_, w64.heap.size ≤ k_ → (fun k_ => k_ ≠ gb339 ∧ k_ ≠ gb340 ∧ k_ ≠ gb341) k_ from fun k_ hk => ⟨Kd.jAe (g := gb339) (o := .cells #[.bool a0_0, .slice A0_1 l0_1.length c0_1, .slice A0_2 l0_2.length c0_2] 44 (0, 0)) (kb_ BK339) k_ hk, Kd.jAe (g := gb340) (o := .cells #[.bool a1_0, .slice A1_1 l1_1.length c1_1, .slice A1_2 l1_2.length c1_2] 44 (0, 0)) (kb_ BK340) k_ hk, Kd.jAe (g := gb341) (o := .cells #[.bool false, .slice none 0 0, .slice none 0 0] 44 (0, 0)) (kb_ BK341) k_ hk⟩) _ (Nat.le_refl _)) (Below.refl _ _) (Nat.le_refl _) (by simp) ?_; (case hd => rfl); (case hg => rfl); (case hr => exact gs_); (case hp => exact (Reps.one (show Kd.FK (Kd.slice 22 (Kd.int .u64)) _ _ t344 [.slice Ao59 t344.length co59] from (Kd.jAG (Kd.jI (Kd.jP (ok' := (fun k_ => k_ ≠ gb339 ∧ k_ ≠ gb340 ∧ k_ ≠ gb341)) (Kd.jW (Kd.jW (Kd.jW (HO346.out) BK339.out (by decide)) BK340.out (by decide)) BK341.out (by decide)) (fun k_ hk => ⟨hk.1.1.2, ⟨hk.1.2, hk.2⟩⟩))).2.1 (Kd.R_F (Kd.jP (ok' := (fun k_ => k_ ≠ gb339 ∧ k_ ≠ gb340 ∧ k_ ≠ gb341)) (Kd.jW (Kd.jW (Kd.jW (HO346.out) BK339.out (by decide)) BK340.out (by decide)) BK341.out (by decide)) (fun k_ hk => ⟨hk.1.1.2, ⟨hk.1.2, hk.2⟩⟩))))) (Reps.one (show Kd.FK (Kd.slice 22 (Kd.int .u64)) _ _ t347 [.slice Ao60 t347.length co60] from (Kd.jAG (Kd.jI (Kd.jP (ok' := (fun k_ => k_ ≠ gb339 ∧ k_ ≠ gb340 ∧ k_ ≠ gb341)) (Kd.jW (Kd.jW (Kd.jW (HO349.out) BK339.out (by decide)) BK340.out (by decide)) BK341.out (by decide)) (fun k_ hk => ⟨hk.1.1.2, ⟨hk.1.2, hk.2⟩⟩))).2.1 (Kd.R_F (Kd.jP (ok' := (fun k_ => k_ ≠ gb339 ∧ k_ ≠ gb340 ∧ k_ ≠ gb341)) (Kd.jW (Kd.jW (Kd.jW (HO349.out) BK339.out (by decide)) BK340.out (by decide)) BK341.out (by decide)) (fun k_ hk => ⟨hk.1.1.2, ⟨hk.1.2, hk.2⟩⟩))))) (Reps.one (show Kd.FK (Kd.slice 22 (Kd.int .u64)) _ _ t351 [.slice Ao65 t351.length co65] from (Kd.jAG (Kd.vI (Kd.vO (ok' := (fun k_ => k_ ≠ gb339 ∧ k_ ≠ gb340 ∧ k_ ≠ gb341)) (HO353.out) (fun k_ hk => ⟨hk.1.2.1, ⟨hk.1.2.2.1, hk.1.2.2.2⟩⟩))).2.1 (Kd.V_F (Kd.vO (ok' := (fun k_ => k_ ≠ gb339 ∧ k_ ≠ gb340 ∧ k_ ≠ gb341)) (HO353.out) (fun k_ hk => ⟨hk.1.2.1, ⟨hk.1.2.2.1, hk.1.2.2.2⟩⟩))))) (Reps.one (show Kd.FK (Kd.slice 22 (Kd.int .u64)) _ _ t354 [.slice Ao66 t354.length co66] from (Kd.jAG (Kd.jI (Kd.jP (ok' := (fun k_ => k_ ≠ gb339 ∧ k_ ≠ gb340 ∧ k_ ≠ gb341)) (Kd.jW (Kd.jW (Kd.jW (HO356.out) BK339.out (by decide)) BK340.out (by decide)) BK341.out (by decide)) (fun k_ hk => ⟨hk.1.1.2, ⟨hk.1.2, hk.2⟩⟩))).2.1 (Kd.R_F (Kd.jP (ok' := (fun k_ => k_ ≠ gb339 ∧ k_ ≠ gb340 ∧ k_ ≠ gb341)) (Kd.jW (Kd.jW (Kd.jW (HO356.out) BK339.out (by decide)) BK340.out (by decide)) BK341.out (by decide)) (fun k_ hk => ⟨hk.1.1.2, ⟨hk.1.2, hk.2⟩⟩))))) (Reps.none _ _)))))); intro v358 w67 ho68 hb hg_ hnew_; clear hg_ hnew_; (first | rw [← Ny357.out] at ho68 | (simp only [Int.reduceToNat] at ho68; rw [← Ny357.out] at ho68)); have n0_ := jA.mk (Kd.qE (rV_ HO353) (Kd.jFJ ho68) hb); have n1_ := jA.mk (Kd.jDS ho68 (jB (bb3_ HB GE339 GE340 GE341))); have n2_ := jA.mk (bl_ BK339 hb); have n3_ := jA.mk (bl_ BK340 hb); have n4_ := jA.mk (bl_ BK341 hb); have n5_ := jA.mk (jC (bb3_ HB GE339 GE340 GE341) hb); have m0_ := jA.mk (Kd.jK (rR_ HO356) (Kd.jFJ ho68) hb); clear HO353 BK339 BK340 BK341 HB HO346 HO349 HO356; have HO353 := n0_; have HO359 := n1_; have BK339 := n2_; have BK340 := n3_; have BK341 := n4_; have HB := n5_; clear n0_ n1_ n2_ n3_ n4_ n5_; have HO356 := m0_; clear m0_ hb ho68; obtain ⟨Ao69, co69, eo69⟩ := Kd.jCf HO359.out; subst eo69) | ((with_reducible refine jJ (f := 89) rfl ?_); refine jr (some 46) rfl rfl Try.func89 kr_ rfl #[.slice Ao69 y357.length co69] rfl mt_ ?_; (with_reducible refine (vv.calls _ _ y357 false _ ?side1 ?side2 A28.out).mono ?_); (case side1 => repeat (first | exact (Kd.jAP HO359.out).2.2 | (with_reducible refine Kd.zR ?_ _) | (with_reducible refine Kd.zh ?_ _) | (with_reducible refine Kd.qG ?_))); (case side2 => exact (Kd.jAP HO359.out).2.1); rintro e w' ⟨rfl, ⟨nd, rfl⟩⟩; refine ⟨_, rfl, ?_⟩; (try (rw [jAI w67]; generalize hq_ : World.drewN w67 _ = w67; have m0_ := jA.mk (show Kd.R (Kd.int .u64) 22 w67 w.heap.size _ _ _ from (by rw [← hq_]; exact (rR_ HO356))); have n0_ : jA (Kd.V (Kd.int .u64) 22 w67 w.heap.size (fun k_ => some k_ ≠ (.slice Ao69 y357.length co69 : Value).ownBlock ∧ k_ ≠ gb339 ∧ k_ ≠ gb340 ∧ k_ ≠ gb341) (.slice Ao65 t351.length co65) t351) := ⟨by rw [← hq_]; exact (by refine pV_ ?_; exact Kd.vO HO353.out (fun _ hk => ⟨hk.2, ⟨hk.1.1.2.1, ⟨hk.1.1.2.2.1, hk.1.1.2.2.2⟩⟩⟩))⟩; have n1_ : jA (Kd.N (Kd.slice 22 (Kd.int .u64)) 35 w67 w.heap.size (fun k_ => k_ ≠ gb339 ∧ k_ ≠ gb340 ∧ k_ ≠ gb341) (.slice Ao69 y357.length co69) y357) := ⟨by rw [← hq_]; exact (rN_ HO359)⟩; have n2_ : jA (w67.heap[gb339]? = some (.cells #[.bool a0_0, .slice A0_1 l0_1.length c0_1, .slice A0_2 l0_2.length c0_2] 44 (0, 0))) := ⟨by rw [← hq_]; exact (kb_ BK339)⟩; have n3_ : jA (w67.heap[gb340]? = some (.cells #[.bool a1_0, .slice A1_1 l1_1.length c1_1, .slice A1_2 l1_2.length c1_2] 44 (0, 0))) := ⟨by rw [← hq_]; exact (kb_ BK340)⟩; have n4_ : jA (w67.heap[gb341]? = some (.cells #[.bool false, .slice none 0 0, .slice none 0 0] 44 (0, 0))) := ⟨by rw [← hq_]; exact (kb_ BK341)⟩; have n5_ : jA (Below w.heap.size w w67) := ⟨by rw [← hq_]; exact (bb3_ HB GE339 GE340 GE341)⟩; clear HO353 HO359 BK339 BK340 BK341 HB hq_; have HO353 := n0_; have HO359 := n1_; have BK339 := n2_; have BK340 := n3_; have BK341 := n4_; have HB := n5_; clear n0_ n1_ n2_ n3_ n4_ n5_ HO356; have HO356 := m0_; clear m0_))) | ((with_reducible refine jJ (f := 24) rfl ?_); refine jr (some 51) rfl rfl Try.func24 kr_ rfl #[.bool t350, .slice Ao65 t351.length co65, .slice Ao66 t354.length co66] rfl mt_ ?_; (with_reducible refine (zY.calls kj2 t350 _ _ t351 _ _ t354 t361 t362 t365 t368 _ ?side1 ?side2 ?side3 ?side4 A50.out).mono ?_); (case side1 => repeat (first | exact (Kd.vI HO353.out).2.2 | (with_reducible refine Kd.zR ?_ _) | (with_reducible refine Kd.zh ?_ _) | (with_reducible refine Kd.qG ?_))); (case side2 => exact (Kd.vI HO353.out).2.1); (case side3 => exact cc_ (Kd.jI HO356.out).2.2); (case side4 => exact (Kd.jI HO356.out).2.1); rintro e w70 ⟨v363, v366, rfl, ho0, ho1, hb⟩; refine ⟨_, rfl, ?_⟩; have n0_ := jA.mk (Kd.vO (Kd.jAA (Kd.jAA (Kd.jCA (rV_ HO353) hb) (Kd.jL ho0)) (Kd.jL ho1)) (fun _ h_ => h_.1)); have n1_ := jA.mk (Kd.qg (Kd.jAf (Kd.jAf (Kd.jED (rN_ HO359) hb) (Kd.jL ho0)) (Kd.jL ho1)) (fun _ h_ => h_.1)); have n2_ := jA.mk (Kd.jS ho0 (jB (bb3_ HB GE339 GE340 GE341))); have n3_ := jA.mk (Kd.jS ho1 (jB (bb3_ HB GE339 GE340 GE341))); have n4_ := jA.mk (bl_ BK339 hb); have n5_ := jA.mk (bl_ BK340 hb); have n6_ := jA.mk (bl_ BK341 hb); have n7_ := jA.mk (jC (bb3_ HB GE339 GE340 GE341) hb); clear HO353 HO359 BK339 BK340 BK341 HB; have HO353 := n0_; have HO359 := n1_; have HO364 := n2_; have HO367 := n3_; have BK339 := n4_; have BK340 := n5_; have BK341 := n6_; have HB := n7_; clear n0_ n1_ n2_ n3_ n4_ n5_ n6_ n7_; have hcz71_0 : w70.cell? ⟨gb341, 0, none⟩ = some (.bool false) := (jF BK341.out 0).trans rfl; have hcz71_1 : w70.cell? ⟨gb341, 1, none⟩ = some (.slice none 0 0) := (jF BK341.out 1).trans rfl; have hcz71_2 : w70.cell? ⟨gb341, 2, none⟩ = some (.slice none 0 0) := (jF BK341.out 2).trans rfl; have hfz71_0 := jE BK341.out 0; have hfz71_1 := jE BK341.out 1; have hfz71_2 := jE BK341.out 2; obtain ⟨Ao72, co72, eo72⟩ := Kd.jc HO364.out; subst eo72; obtain ⟨Ao73, co73, eo73⟩ := Kd.jc HO367.out; subst eo73))
     refine bodyPost_ret (qN rfl _ _ gb341 44 #[.bool t361, .slice Ao72 t362.length co72, .slice Ao73 t365.length co73] (0, 0) _ rfl (by refine pk_ ?_; refine vD (cs := #[.bool t361, .slice Ao72 t362.length co72, .slice none 0 0]) ?_ 2 _ rs_; refine pk_ ?_; refine vD (cs := #[.bool t361, .slice none 0 0, .slice none 0 0]) ?_ 1 _ rs_; refine pk_ ?_; refine vD (cs := #[.bool false, .slice none 0 0, .slice none 0 0]) ?_ 0 _ rs_; refine pk_ ?_; exact BK341.out) Try.underlying44 rfl kr_) rfl ?_
     exact ⟨_, _, ew_, by refine pR_ ?_; exact Kd.jP (Kd.ji (p := ⟨gb341, 2, none⟩) (Kd.ji (p := ⟨gb341, 1, none⟩) (Kd.ji (p := ⟨gb341, 0, none⟩) (Kd.jW HO364.out BK341.out (by decide)) (fun _ hk => hk.2) (.bool t361)) (fun _ hk => hk.2) (.slice Ao72 t362.length co72)) (fun _ hk => hk.2) (.slice Ao73 t365.length co73)) (fun _ hk => hk.1), by refine pR_ ?_; exact Kd.jP (Kd.ji (p := ⟨gb341, 2, none⟩) (Kd.ji (p := ⟨gb341, 1, none⟩) (Kd.ji (p := ⟨gb341, 0, none⟩) (Kd.jW HO367.out BK341.out (by decide)) (fun _ hk => hk.2) (.bool t361)) (fun _ hk => hk.2) (.slice Ao72 t362.length co72)) (fun _ hk => hk.2) (.slice Ao73 t365.length co73)) (fun _ hk => hk.1), (bb3_ HB GE339 GE340 GE341)⟩

/-! ### vN: function 28 -/
def vN.f (k : Nat)  : Option (Bool) := (vJ.f k false (([1] : List Int)) (([6] : List Int)) false (([1] : List Int)) (([3] : List Int))).bind fun bt381 => (if bt381.2.2.2 = 0 then ((jh.f k bt381.1 bt381.2.1 bt381.2.2.1 false (([1] : List Int)) (([2] : List Int))).bind fun t396 => (some t396)) else (some false))
theorem vN.mono : ∀ k, LeO (vN.f k ) (vN.f (k + 1) ) := by
 intro  k
 unfold vN.f
 repeat' first
   | (with_reducible exact vJ.mono _ _ _ _ _ _ _)
   | (with_reducible exact jh.mono _ _ _ _ _ _ _)
   | (with_reducible exact LeO.refl _)
   | (with_reducible exact LeO.none _)
   | (with_reducible refine LeO.ite ?_ ?_)
   | (with_reducible refine LeO.bind ?_ (fun _ => ?_))
theorem vN.calls (k : Nat)  (r : Bool) (w : World) (h : vN.f k  = some r) :
  Calls Try.prog 28 #[] w fun e w' => e = .returned (.bool r) ∧ Below w.heap.size w w' := by
 have hu44 := Try.underlying44
 have HB := jA.mk (Below.refl w.heap.size w)
 have H : ((vJ.f k false (([1] : List Int)) (([6] : List Int)) false (([1] : List Int)) (([3] : List Int))).bind fun bt381 => (if bt381.2.2.2 = 0 then ((jh.f k bt381.1 bt381.2.1 bt381.2.2.1 false (([1] : List Int)) (([2] : List Int))).bind fun t396 => (some t396)) else (some false))) = some r := h
 clear h
 obtain ⟨y369, hy369⟩ : ∃ y_ : List Int, y_ = (([1] : List Int)) := ⟨_, rfl⟩
 replace H : ((vJ.f k false y369 (([6] : List Int)) false (([1] : List Int)) (([3] : List Int))).bind fun bt381 => (if bt381.2.2.2 = 0 then ((jh.f k bt381.1 bt381.2.1 bt381.2.2.1 false (([1] : List Int)) (([2] : List Int))).bind fun t396 => (some t396)) else (some false))) = some r := by first | (rw [hy369]; with_reducible exact H) | (have H2_ := (Option.bind_some _ _).symm.trans H; rw [hy369]; with_reducible exact H2_) | (with_reducible exact hs_ H) | with_reducible exact H | (rw [hy369]; exact H) | exact H
 have Ny369 := jA.mk hy369
 clear hy369
 obtain ⟨y372, hy372⟩ : ∃ y_ : List Int, y_ = (([6] : List Int)) := ⟨_, rfl⟩
 replace H : ((vJ.f k false y369 y372 false (([1] : List Int)) (([3] : List Int))).bind fun bt381 => (if bt381.2.2.2 = 0 then ((jh.f k bt381.1 bt381.2.1 bt381.2.2.1 false (([1] : List Int)) (([2] : List Int))).bind fun t396 => (some t396)) else (some false))) = some r := by first | (rw [hy372]; with_reducible exact H) | (have H2_ := (Option.bind_some _ _).symm.trans H; rw [hy372]; with_reducible exact H2_) | (with_reducible exact hs_ H) | with_reducible exact H | (rw [hy372]; exact H) | exact H
 have Ny372 := jA.mk hy372
 clear hy372
 obtain ⟨y375, hy375⟩ : ∃ y_ : List Int, y_ = (([1] : List Int)) := ⟨_, rfl⟩
 replace H : ((vJ.f k false y369 y372 false y375 (([3] : List Int))).bind fun bt381 => (if bt381.2.2.2 = 0 then ((jh.f k bt381.1 bt381.2.1 bt381.2.2.1 false (([1] : List Int)) (([2] : List Int))).bind fun t396 => (some t396)) else (some false))) = some r := by first | (rw [hy375]; with_reducible exact H) | (have H2_ := (Option.bind_some _ _).symm.trans H; rw [hy375]; with_reducible exact H2_) | (with_reducible exact hs_ H) | with_reducible exact H | (rw [hy375]; exact H) | exact H
 have Ny375 := jA.mk hy375
 clear hy375
 obtain ⟨y378, hy378⟩ : ∃ y_ : List Int, y_ = (([3] : List Int)) := ⟨_, rfl⟩
 replace H : ((vJ.f k false y369 y372 false y375 y378).bind fun bt381 => (if bt381.2.2.2 = 0 then ((jh.f k bt381.1 bt381.2.1 bt381.2.2.1 false (([1] : List Int)) (([2] : List Int))).bind fun t396 => (some t396)) else (some false))) = some r := by first | (rw [hy378]; with_reducible exact H) | (have H2_ := (Option.bind_some _ _).symm.trans H; rw [hy378]; with_reducible exact H2_) | (with_reducible exact hs_ H) | with_reducible exact H | (rw [hy378]; exact H) | exact H
 have Ny378 := jA.mk hy378
 clear hy378
 replace H := ob_ H
 obtain ⟨⟨t381, t382, t385, t388⟩, A10, H⟩ := H
 try dsimp only at H
 have A1 := jA.mk A10
 clear A10
 by_cases c2 : t388 = 0
 ·
  rw [if_pos c2] at H
  have c2b0 := beq_iff_eq.mpr c2
  have c2b1 := bne_eq_false_iff_eq.mpr c2
  clear c2
  obtain ⟨y390, hy390⟩ : ∃ y_ : List Int, y_ = (([1] : List Int)) := ⟨_, rfl⟩
  replace H : ((jh.f k t381 t382 t385 false y390 (([2] : List Int))).bind fun t396 => (some t396)) = some r := by first | (rw [hy390]; with_reducible exact H) | (have H2_ := (Option.bind_some _ _).symm.trans H; rw [hy390]; with_reducible exact H2_) | (with_reducible exact hs_ H) | with_reducible exact H | (rw [hy390]; exact H) | exact H
  have Ny390 := jA.mk hy390
  clear hy390
  obtain ⟨y393, hy393⟩ : ∃ y_ : List Int, y_ = (([2] : List Int)) := ⟨_, rfl⟩
  replace H : ((jh.f k t381 t382 t385 false y390 y393).bind fun t396 => (some t396)) = some r := by first | (rw [hy393]; with_reducible exact H) | (have H2_ := (Option.bind_some _ _).symm.trans H; rw [hy393]; with_reducible exact H2_) | (with_reducible exact hs_ H) | with_reducible exact H | (rw [hy393]; exact H) | exact H
  have Ny393 := jA.mk hy393
  clear hy393
  replace H := ob_ H
  obtain ⟨t396, A30, H⟩ := H
  replace H : (some t396) = some r := H
  have A3 := jA.mk A30
  clear A30
  obtain rfl := Option.some.inj H
  go_enter Try.func28, Try.ntmps28
  go_wp2_with (first | ((with_reducible refine jl (N := 4) rfl ?_); (try (refine jv (by rfl) ?_; dsimp only)); refine Kd.jAC (Kd.int .u64) _ 22 ?hg (N := 4) ?hd (xs := ([1] : List Int)) (inner := [.int .u64 1]) (ok := fun _ => True) (okp := fun _ => True) ?hr ?hp (fun _ hk => hk) trivial (Below.refl _ _) (Nat.le_refl _) (by simp) ?_; (case hd => rfl); (case hg => rfl); (case hr => exact gs_); (case hp => exact (Reps.one (show Kd.M (Kd.int .u64) _ _ _ 1 [.int .u64 1] from rfl) (Reps.none _ _))); intro v370 w4 ho5 hb hg_ hnew_; clear hg_ hnew_; (first | rw [← Ny369.out] at ho5 | (simp only [Int.reduceToNat] at ho5; rw [← Ny369.out] at ho5)); have n0_ := jA.mk (Kd.jS ho5 (jB (bb_ HB))); have n1_ := jA.mk (jC (bb_ HB) hb); clear HB; have HO371 := n0_; have HB := n1_; clear n0_ n1_ hb ho5) | ((with_reducible refine jl (N := 5) rfl ?_); (try (refine jv (by rfl) ?_; dsimp only)); refine Kd.jAC (Kd.int .u64) _ 22 ?hg (N := 5) ?hd (xs := ([6] : List Int)) (inner := [.int .u64 6]) (ok := fun _ => True) (okp := fun _ => True) ?hr ?hp (fun _ hk => hk) trivial (Below.refl _ _) (Nat.le_refl _) (by simp) ?_; (case hd => rfl); (case hg => rfl); (case hr => exact gs_); (case hp => exact (Reps.one (show Kd.M (Kd.int .u64) _ _ _ 6 [.int .u64 6] from rfl) (Reps.none _ _))); intro v373 w6 ho7 hb hg_ hnew_; clear hg_ hnew_; (first | rw [← Ny372.out] at ho7 | (simp only [Int.reduceToNat] at ho7; rw [← Ny372.out] at ho7)); have n0_ := jA.mk (Kd.jK (rR_ HO371) (Kd.jL ho7) hb); have n1_ := jA.mk (Kd.jS (Kd.jN ho7 (Kd.R_lt (rR_ HO371))) (jB (bb_ HB))); have n2_ := jA.mk (jC (bb_ HB) hb); clear HO371 HB; have HO371 := n0_; have HO374 := n1_; have HB := n2_; clear n0_ n1_ n2_ hb ho7; obtain ⟨Ao8, co8, eo8⟩ := Kd.jc HO374.out; subst eo8; obtain ⟨Ao9, co9, eo9⟩ := Kd.jc HO371.out; subst eo9) | ((with_reducible refine jl (N := 7) rfl ?_); (try (refine jv (by rfl) ?_; dsimp only)); refine Kd.jAC (Kd.int .u64) _ 22 ?hg (N := 7) ?hd (xs := ([1] : List Int)) (inner := [.int .u64 1]) (ok := fun _ => True) (okp := fun _ => True) ?hr ?hp (fun _ hk => hk) trivial (Below.refl _ _) (Nat.le_refl _) (by simp) ?_; (case hd => rfl); (case hg => rfl); (case hr => exact gs_); (case hp => exact (Reps.one (show Kd.M (Kd.int .u64) _ _ _ 1 [.int .u64 1] from rfl) (Reps.none _ _))); intro v376 w10 ho11 hb hg_ hnew_; clear hg_ hnew_; (first | rw [← Ny375.out] at ho11 | (simp only [Int.reduceToNat] at ho11; rw [← Ny375.out] at ho11)); have n0_ := jA.mk (Kd.jK (rR_ HO371) (Kd.jL ho11) hb); have n1_ := jA.mk (Kd.jK (rR_ HO374) (Kd.jL ho11) hb); have n2_ := jA.mk (Kd.jS (Kd.jN (Kd.jN ho11 (Kd.R_lt (rR_ HO371))) (Kd.R_lt (rR_ HO374))) (jB (bb_ HB))); have n3_ := jA.mk (jC (bb_ HB) hb); clear HO371 HO374 HB; have HO371 := n0_; have HO374 := n1_; have HO377 := n2_; have HB := n3_; clear n0_ n1_ n2_ n3_ hb ho11) | ((with_reducible refine jl (N := 8) rfl ?_); (try (refine jv (by rfl) ?_; dsimp only)); refine Kd.jAC (Kd.int .u64) _ 22 ?hg (N := 8) ?hd (xs := ([3] : List Int)) (inner := [.int .u64 3]) (ok := fun _ => True) (okp := fun _ => True) ?hr ?hp (fun _ hk => hk) trivial (Below.refl _ _) (Nat.le_refl _) (by simp) ?_; (case hd => rfl); (case hg => rfl); (case hr => exact gs_); (case hp => exact (Reps.one (show Kd.M (Kd.int .u64) _ _ _ 3 [.int .u64 3] from rfl) (Reps.none _ _))); intro v379 w12 ho13 hb hg_ hnew_; clear hg_ hnew_; (first | rw [← Ny378.out] at ho13 | (simp only [Int.reduceToNat] at ho13; rw [← Ny378.out] at ho13)); have n0_ := jA.mk (Kd.jK (rR_ HO371) (Kd.jL ho13) hb); have n1_ := jA.mk (Kd.jK (rR_ HO374) (Kd.jL ho13) hb); have n2_ := jA.mk (Kd.jK (rR_ HO377) (Kd.jL ho13) hb); have n3_ := jA.mk (Kd.jS (Kd.jN (Kd.jN (Kd.jN ho13 (Kd.R_lt (rR_ HO371))) (Kd.R_lt (rR_ HO374))) (Kd.R_lt (rR_ HO377))) (jB (bb_ HB))); have n4_ := jA.mk (jC (bb_ HB) hb); clear HO371 HO374 HO377 HB; have HO371 := n0_; have HO374 := n1_; have HO377 := n2_; have HO380 := n3_; have HB := n4_; clear n0_ n1_ n2_ n3_ n4_ hb ho13; obtain ⟨Ao14, co14, eo14⟩ := Kd.jc HO380.out; subst eo14; obtain ⟨Ao15, co15, eo15⟩ := Kd.jc HO377.out; subst eo15) | ((with_reducible refine jJ (f := 49) rfl ?_); refine jr (some 10) rfl rfl Try.func49 kr_ rfl #[.agg #[.bool false, .slice Ao9 y369.length co9, .slice Ao8 y372.length co8], .agg #[.bool false, .slice Ao15 y375.length co15, .slice Ao14 y378.length co14]] rfl mt_ ?_; (with_reducible refine (vJ.calls k false _ _ y369 _ _ y372 false _ _ y375 _ _ y378 t381 t382 t385 t388 _ ?side1 ?side2 ?side3 ?side4 ?side5 ?side6 ?side7 ?side8 A1.out).mono ?_); (case side1 => exact cc_ (Kd.jI HO371.out).2.2); (case side2 => exact (Kd.jI HO371.out).2.1); (case side3 => exact cc_ (Kd.jI HO374.out).2.2); (case side4 => exact (Kd.jI HO374.out).2.1); (case side5 => exact cc_ (Kd.jI HO377.out).2.2); (case side6 => exact (Kd.jI HO377.out).2.1); (case side7 => exact cc_ (Kd.jI HO380.out).2.2); (case side8 => exact (Kd.jI HO380.out).2.1); rintro e w16 ⟨v383, v386, rfl, ho0, ho1, hb⟩; refine ⟨_, rfl, ?_⟩; have n0_ := jA.mk (Kd.jP (Kd.zI (Kd.zI (Kd.jAR (rR_ HO371) hb) (Kd.jL ho0)) (Kd.jL ho1)) (fun _ h_ => h_.1)); have n1_ := jA.mk (Kd.jP (Kd.zI (Kd.zI (Kd.jAR (rR_ HO374) hb) (Kd.jL ho0)) (Kd.jL ho1)) (fun _ h_ => h_.1)); have n2_ := jA.mk (Kd.jP (Kd.zI (Kd.zI (Kd.jAR (rR_ HO377) hb) (Kd.jL ho0)) (Kd.jL ho1)) (fun _ h_ => h_.1)); have n3_ := jA.mk (Kd.jP (Kd.zI (Kd.zI (Kd.jAR (rR_ HO380) hb) (Kd.jL ho0)) (Kd.jL ho1)) (fun _ h_ => h_.1)); have n4_ := jA.mk (Kd.jS (Kd.jN (Kd.jN (Kd.jN (Kd.jN ho0 (Kd.R_lt (rR_ HO371))) (Kd.R_lt (rR_ HO374))) (Kd.R_lt (rR_ HO377))) (Kd.R_lt (rR_ HO380))) (jB (bb_ HB))); have n5_ := jA.mk (Kd.jS (Kd.jN (Kd.jN (Kd.jN (Kd.jN ho1 (Kd.R_lt (rR_ HO371))) (Kd.R_lt (rR_ HO374))) (Kd.R_lt (rR_ HO377))) (Kd.R_lt (rR_ HO380))) (jB (bb_ HB))); have n6_ := jA.mk (jC (bb_ HB) hb); clear HO371 HO374 HO377 HO380 HB; have HO371 := n0_; have HO374 := n1_; have HO377 := n2_; have HO380 := n3_; have HO384 := n4_; have HO387 := n5_; have HB := n6_; clear n0_ n1_ n2_ n3_ n4_ n5_ n6_) | ((with_reducible refine jl (N := 1) rfl ?_); (try (refine jv (by rfl) ?_; dsimp only)); refine zA ?hg (N := 1) ?hd (cs := #[.bool false, .slice none 0 0, .slice none 0 0]) (t := 44) ?hr ?_; (case hd => rfl); (case hg => rfl); (case hr => exact gs_); intro gb389 hg w17 hbox hb; have n0_ := jA.mk (Kd.jy (rR_ HO371) hb); have n1_ := jA.mk (Kd.jy (rR_ HO374) hb); have n2_ := jA.mk (Kd.jy (rR_ HO377) hb); have n3_ := jA.mk (Kd.jy (rR_ HO380) hb); have n4_ := jA.mk (Kd.jy (rR_ HO384) hb); have n5_ := jA.mk (Kd.jy (rR_ HO387) hb); have n6_ := jA.mk (jC (bb_ HB) hb); have n7_ := jA.mk (hbox); have n8_ := jA.mk ((by rw [hg]; exact (jB (bb_ HB)) : w.heap.size ≤ gb389)); have n9_ := jA.mk ((by rw [hg]; exact (jB (bb_ HB)) : w.heap.size ≤ gb389)); clear HO371 HO374 HO377 HO380 HO384 HO387 HB; have HO371 := n0_; have HO374 := n1_; have HO377 := n2_; have HO380 := n3_; have HO384 := n4_; have HO387 := n5_; have HB := n6_; have BK389 := n7_; have GW389 := n8_; have GE389 := n9_; clear n0_ n1_ n2_ n3_ n4_ n5_ n6_ n7_ n8_ n9_ hb hbox hg; have hcz18_0 : w17.cell? ⟨gb389, 0, none⟩ = some (.bool false) := (jF BK389.out 0).trans rfl; have hcz18_1 : w17.cell? ⟨gb389, 1, none⟩ = some (.slice none 0 0) := (jF BK389.out 1).trans rfl; have hcz18_2 : w17.cell? ⟨gb389, 2, none⟩ = some (.slice none 0 0) := (jF BK389.out 2).trans rfl; have hfz18_0 := jE BK389.out 0; have hfz18_1 := jE BK389.out 1; have hfz18_2 := jE BK389.out 2; obtain ⟨Ao19, co19, eo19⟩ := Kd.jc HO384.out; subst eo19; obtain ⟨Ao20, co20, eo20⟩ := Kd.jc HO387.out; subst eo20) | ((with_reducible refine jl (N := 17) rfl ?_); (try (refine jv (by rfl) ?_; dsimp only)); refine Kd.jAC (Kd.int .u64) _ 22 ?hg (N := 17) ?hd (xs := ([1] : List Int)) (inner := [.int .u64 1]) (ok := fun _ => True) (okp := fun _ => True) ?hr ?hp (fun _ hk => hk) trivial (Below.refl _ _) (Nat.le_refl _) (by simp) ?_; (case hd => rfl); (case hg => rfl); (case hr => exact gs_); (case hp => exact (Reps.one (show Kd.M (Kd.int .u64) _ _ _ 1 [.int .u64 1] from rfl) (Reps.none _ _))); intro v391 w21 ho22 hb hg_ hnew_; clear hg_ hnew_; (first | rw [← Ny390.out] at ho22 | (simp only [Int.reduceToNat] at ho22; rw [← Ny390.out] at ho22)); have n0_ := jA.mk (Kd.jK (by refine pR_ ?_; exact (Kd.jP (Kd.ji (p := ⟨gb389, 2, none⟩) (Kd.ji (p := ⟨gb389, 1, none⟩) (Kd.ji (p := ⟨gb389, 0, none⟩) (Kd.jW HO371.out BK389.out (by decide)) (fun _ hk => hk.2) (.bool t381)) (fun _ hk => hk.2) (.slice Ao19 t382.length co19)) (fun _ hk => hk.2) (.slice Ao20 t385.length co20)) (fun _ h_ => h_.1))) (Kd.jL ho22) hb); have n1_ := jA.mk (Kd.jK (by refine pR_ ?_; exact (Kd.jP (Kd.ji (p := ⟨gb389, 2, none⟩) (Kd.ji (p := ⟨gb389, 1, none⟩) (Kd.ji (p := ⟨gb389, 0, none⟩) (Kd.jW HO374.out BK389.out (by decide)) (fun _ hk => hk.2) (.bool t381)) (fun _ hk => hk.2) (.slice Ao19 t382.length co19)) (fun _ hk => hk.2) (.slice Ao20 t385.length co20)) (fun _ h_ => h_.1))) (Kd.jL ho22) hb); have n2_ := jA.mk (Kd.jK (by refine pR_ ?_; exact (Kd.jP (Kd.ji (p := ⟨gb389, 2, none⟩) (Kd.ji (p := ⟨gb389, 1, none⟩) (Kd.ji (p := ⟨gb389, 0, none⟩) (Kd.jW HO377.out BK389.out (by decide)) (fun _ hk => hk.2) (.bool t381)) (fun _ hk => hk.2) (.slice Ao19 t382.length co19)) (fun _ hk => hk.2) (.slice Ao20 t385.length co20)) (fun _ h_ => h_.1))) (Kd.jL ho22) hb); have n3_ := jA.mk (Kd.jK (by refine pR_ ?_; exact (Kd.jP (Kd.ji (p := ⟨gb389, 2, none⟩) (Kd.ji (p := ⟨gb389, 1, none⟩) (Kd.ji (p := ⟨gb389, 0, none⟩) (Kd.jW HO380.out BK389.out (by decide)) (fun _ hk => hk.2) (.bool t381)) (fun _ hk => hk.2) (.slice Ao19 t382.length co19)) (fun _ hk => hk.2) (.slice Ao20 t385.length co20)) (fun _ h_ => h_.1))) (Kd.jL ho22) hb); have n4_ := jA.mk (Kd.jK (by refine pR_ ?_; exact (Kd.jP (Kd.ji (p := ⟨gb389, 2, none⟩) (Kd.ji (p := ⟨gb389, 1, none⟩) (Kd.ji (p := ⟨gb389, 0, none⟩) (Kd.jW HO384.out BK389.out (by decide)) (fun _ hk => hk.2) (.bool t381)) (fun _ hk => hk.2) (.slice Ao19 t382.length co19)) (fun _ hk => hk.2) (.slice Ao20 t385.length co20)) (fun _ h_ => h_.1))) (Kd.jL ho22) hb); have n5_ := jA.mk (Kd.jK (by refine pR_ ?_; exact (Kd.jP (Kd.ji (p := ⟨gb389, 2, none⟩) (Kd.ji (p := ⟨gb389, 1, none⟩) (Kd.ji (p := ⟨gb389, 0, none⟩) (Kd.jW HO387.out BK389.out (by decide)) (fun _ hk => hk.2) (.bool t381)) (fun _ hk => hk.2) (.slice Ao19 t382.length co19)) (fun _ hk => hk.2) (.slice Ao20 t385.length co20)) (fun _ h_ => h_.1))) (Kd.jL ho22) hb); have n6_ := jA.mk (Kd.jS (Kd.jN (Kd.jN (Kd.jN (Kd.jN (Kd.jN (Kd.jN ho22 (Kd.R_lt (by refine pR_ ?_; exact (Kd.jP (Kd.ji (p := ⟨gb389, 2, none⟩) (Kd.ji (p := ⟨gb389, 1, none⟩) (Kd.ji (p := ⟨gb389, 0, none⟩) (Kd.jW HO371.out BK389.out (by decide)) (fun _ hk => hk.2) (.bool t381)) (fun _ hk => hk.2) (.slice Ao19 t382.length co19)) (fun _ hk => hk.2) (.slice Ao20 t385.length co20)) (fun _ h_ => h_.1))))) (Kd.R_lt (by refine pR_ ?_; exact (Kd.jP (Kd.ji (p := ⟨gb389, 2, none⟩) (Kd.ji (p := ⟨gb389, 1, none⟩) (Kd.ji (p := ⟨gb389, 0, none⟩) (Kd.jW HO374.out BK389.out (by decide)) (fun _ hk => hk.2) (.bool t381)) (fun _ hk => hk.2) (.slice Ao19 t382.length co19)) (fun _ hk => hk.2) (.slice Ao20 t385.length co20)) (fun _ h_ => h_.1))))) (Kd.R_lt (by refine pR_ ?_; exact (Kd.jP (Kd.ji (p := ⟨gb389, 2, none⟩) (Kd.ji (p := ⟨gb389, 1, none⟩) (Kd.ji (p := ⟨gb389, 0, none⟩) (Kd.jW HO377.out BK389.out (by decide)) (fun _ hk => hk.2) (.bool t381)) (fun _ hk => hk.2) (.slice Ao19 t382.length co19)) (fun _ hk => hk.2) (.slice Ao20 t385.length co20)) (fun _ h_ => h_.1))))) (Kd.R_lt (by refine pR_ ?_; exact (Kd.jP (Kd.ji (p := ⟨gb389, 2, none⟩) (Kd.ji (p := ⟨gb389, 1, none⟩) (Kd.ji (p := ⟨gb389, 0, none⟩) (Kd.jW HO380.out BK389.out (by decide)) (fun _ hk => hk.2) (.bool t381)) (fun _ hk => hk.2) (.slice Ao19 t382.length co19)) (fun _ hk => hk.2) (.slice Ao20 t385.length co20)) (fun _ h_ => h_.1))))) (Kd.R_lt (by refine pR_ ?_; exact (Kd.jP (Kd.ji (p := ⟨gb389, 2, none⟩) (Kd.ji (p := ⟨gb389, 1, none⟩) (Kd.ji (p := ⟨gb389, 0, none⟩) (Kd.jW HO384.out BK389.out (by decide)) (fun _ hk => hk.2) (.bool t381)) (fun _ hk => hk.2) (.slice Ao19 t382.length co19)) (fun _ hk => hk.2) (.slice Ao20 t385.length co20)) (fun _ h_ => h_.1))))) (Kd.R_lt (by refine pR_ ?_; exact (Kd.jP (Kd.ji (p := ⟨gb389, 2, none⟩) (Kd.ji (p := ⟨gb389, 1, none⟩) (Kd.ji (p := ⟨gb389, 0, none⟩) (Kd.jW HO387.out BK389.out (by decide)) (fun _ hk => hk.2) (.bool t381)) (fun _ hk => hk.2) (.slice Ao19 t382.length co19)) (fun _ hk => hk.2) (.slice Ao20 t385.length co20)) (fun _ h_ => h_.1))))) (jB (bb1_ HB GE389))); have n7_ := jA.mk (zC (g := gb389) (o := .cells #[.bool t381, .slice Ao19 t382.length co19, .slice Ao20 t385.length co20] 44 (0, 0)) (by refine pk_ ?_; refine vD (cs := #[.bool t381, .slice Ao19 t382.length co19, .slice none 0 0]) ?_ 2 _ rs_; refine pk_ ?_; refine vD (cs := #[.bool t381, .slice none 0 0, .slice none 0 0]) ?_ 1 _ rs_; refine pk_ ?_; refine vD (cs := #[.bool false, .slice none 0 0, .slice none 0 0]) ?_ 0 _ rs_; refine pk_ ?_; exact BK389.out) hb); have n8_ := jA.mk (jC (bb1_ HB GE389) hb); clear HO371 HO374 HO377 HO380 HO384 HO387 BK389 HB; have HO371 := n0_; have HO374 := n1_; have HO377 := n2_; have HO380 := n3_; have HO384 := n4_; have HO387 := n5_; have HO392 := n6_; have BK389 := n7_; have HB := n8_; clear n0_ n1_ n2_ n3_ n4_ n5_ n6_ n7_ n8_ hb ho22) | ((with_reducible refine jl (N := 18) rfl ?_); (try (refine jv (by rfl) ?_; dsimp only)); refine Kd.jAC (Kd.int .u64) _ 22 ?hg (N := 18) ?hd (xs := ([2] : List Int)) (inner := [.int .u64 2]) (ok := fun _ => True) (okp := fun _ => True) ?hr ?hp (fun _ hk => hk) trivial (Below.refl _ _) (Nat.le_refl _) (by simp) ?_; (case hd => rfl); (case hg => rfl); (case hr => exact gs_); (case hp => exact (Reps.one (show Kd.M (Kd.int .u64) _ _ _ 2 [.int .u64 2] from rfl) (Reps.none _ _))); intro v394 w23 ho24 hb hg_ hnew_; clear hg_ hnew_; (first | rw [← Ny393.out] at ho24 | (simp only [Int.reduceToNat] at ho24; rw [← Ny393.out] at ho24)); have n0_ := jA.mk (Kd.jK (rR_ HO371) (Kd.jL ho24) hb); have n1_ := jA.mk (Kd.jK (rR_ HO374) (Kd.jL ho24) hb); have n2_ := jA.mk (Kd.jK (rR_ HO377) (Kd.jL ho24) hb); have n3_ := jA.mk (Kd.jK (rR_ HO380) (Kd.jL ho24) hb); have n4_ := jA.mk (Kd.jK (rR_ HO384) (Kd.jL ho24) hb); have n5_ := jA.mk (Kd.jK (rR_ HO387) (Kd.jL ho24) hb); have n6_ := jA.mk (Kd.jK (rR_ HO392) (Kd.jL ho24) hb); have n7_ := jA.mk (Kd.jS (Kd.jN (Kd.jN (Kd.jN (Kd.jN (Kd.jN (Kd.jN (Kd.jN ho24 (Kd.R_lt (rR_ HO371))) (Kd.R_lt (rR_ HO374))) (Kd.R_lt (rR_ HO377))) (Kd.R_lt (rR_ HO380))) (Kd.R_lt (rR_ HO384))) (Kd.R_lt (rR_ HO387))) (Kd.R_lt (rR_ HO392))) (jB (bb1_ HB GE389))); have n8_ := jA.mk (bl_ BK389 hb); have n9_ := jA.mk (jC (bb1_ HB GE389) hb); clear HO371 HO374 HO377 HO380 HO384 HO387 HO392 BK389 HB; have HO371 := n0_; have HO374 := n1_; have HO377 := n2_; have HO380 := n3_; have HO384 := n4_; have HO387 := n5_; have HO392 := n6_; have HO395 := n7_; have BK389 := n8_; have HB := n9_; clear n0_ n1_ n2_ n3_ n4_ n5_ n6_ n7_ n8_ n9_ hb ho24; obtain ⟨Ao25, co25, eo25⟩ := Kd.jc HO395.out; subst eo25; obtain ⟨Ao26, co26, eo26⟩ := Kd.jc HO392.out; subst eo26) | (go_at_call 26; (with_reducible refine (jh.calls k t381 _ _ t382 _ _ t385 false _ _ y390 _ _ y393 t396 _ ?side1 ?side2 ?side3 ?side4 ?side5 ?side6 ?side7 ?side8 A3.out).mono ?_); (case side1 => exact cc_ (Kd.jI HO384.out).2.2); (case side2 => exact (Kd.jI HO384.out).2.1); (case side3 => exact cc_ (Kd.jI HO387.out).2.2); (case side4 => exact (Kd.jI HO387.out).2.1); (case side5 => exact cc_ (Kd.jI HO392.out).2.2); (case side6 => exact (Kd.jI HO392.out).2.1); (case side7 => exact cc_ (Kd.jI HO395.out).2.2); (case side8 => exact (Kd.jI HO395.out).2.1); rintro e w27 ⟨rfl, hb⟩; have n0_ := jA.mk (Kd.jy (rR_ HO371) hb); have n1_ := jA.mk (Kd.jy (rR_ HO374) hb); have n2_ := jA.mk (Kd.jy (rR_ HO377) hb); have n3_ := jA.mk (Kd.jy (rR_ HO380) hb); have n4_ := jA.mk (Kd.jy (rR_ HO384) hb); have n5_ := jA.mk (Kd.jy (rR_ HO387) hb); have n6_ := jA.mk (Kd.jy (rR_ HO392) hb); have n7_ := jA.mk (Kd.jy (rR_ HO395) hb); have n8_ := jA.mk (bl_ BK389 hb); have n9_ := jA.mk (jC (bb1_ HB GE389) hb); clear HO371 HO374 HO377 HO380 HO384 HO387 HO392 HO395 BK389 HB; have HO371 := n0_; have HO374 := n1_; have HO377 := n2_; have HO380 := n3_; have HO384 := n4_; have HO387 := n5_; have HO392 := n6_; have HO395 := n7_; have BK389 := n8_; have HB := n9_; clear n0_ n1_ n2_ n3_ n4_ n5_ n6_ n7_ n8_ n9_))
  go_ret
  exact ⟨ew_, (bb1_ HB GE389)⟩
 ·
  rw [if_neg c2] at H
  have c2b0 := beq_eq_false_iff_ne.mpr c2
  have c2b1 := bne_iff_ne.mpr c2
  obtain rfl := Option.some.inj H
  go_enter Try.func28, Try.ntmps28
  go_wp2_with (first | ((with_reducible refine jl (N := 4) rfl ?_); (try (refine jv (by rfl) ?_; dsimp only)); refine Kd.jAC (Kd.int .u64) _ 22 ?hg (N := 4) ?hd (xs := ([1] : List Int)) (inner := [.int .u64 1]) (ok := fun _ => True) (okp := fun _ => True) ?hr ?hp (fun _ hk => hk) trivial (Below.refl _ _) (Nat.le_refl _) (by simp) ?_; (case hd => rfl); (case hg => rfl); (case hr => exact gs_); (case hp => exact (Reps.one (show Kd.M (Kd.int .u64) _ _ _ 1 [.int .u64 1] from rfl) (Reps.none _ _))); intro v370 w28 ho29 hb hg_ hnew_; clear hg_ hnew_; (first | rw [← Ny369.out] at ho29 | (simp only [Int.reduceToNat] at ho29; rw [← Ny369.out] at ho29)); have n0_ := jA.mk (Kd.jS ho29 (jB (bb_ HB))); have n1_ := jA.mk (jC (bb_ HB) hb); clear HB; have HO371 := n0_; have HB := n1_; clear n0_ n1_ hb ho29) | ((with_reducible refine jl (N := 5) rfl ?_); (try (refine jv (by rfl) ?_; dsimp only)); refine Kd.jAC (Kd.int .u64) _ 22 ?hg (N := 5) ?hd (xs := ([6] : List Int)) (inner := [.int .u64 6]) (ok := fun _ => True) (okp := fun _ => True) ?hr ?hp (fun _ hk => hk) trivial (Below.refl _ _) (Nat.le_refl _) (by simp) ?_; (case hd => rfl); (case hg => rfl); (case hr => exact gs_); (case hp => exact (Reps.one (show Kd.M (Kd.int .u64) _ _ _ 6 [.int .u64 6] from rfl) (Reps.none _ _))); intro v373 w30 ho31 hb hg_ hnew_; clear hg_ hnew_; (first | rw [← Ny372.out] at ho31 | (simp only [Int.reduceToNat] at ho31; rw [← Ny372.out] at ho31)); have n0_ := jA.mk (Kd.jK (rR_ HO371) (Kd.jL ho31) hb); have n1_ := jA.mk (Kd.jS (Kd.jN ho31 (Kd.R_lt (rR_ HO371))) (jB (bb_ HB))); have n2_ := jA.mk (jC (bb_ HB) hb); clear HO371 HB; have HO371 := n0_; have HO374 := n1_; have HB := n2_; clear n0_ n1_ n2_ hb ho31; obtain ⟨Ao32, co32, eo32⟩ := Kd.jc HO374.out; subst eo32; obtain ⟨Ao33, co33, eo33⟩ := Kd.jc HO371.out; subst eo33) | ((with_reducible refine jl (N := 7) rfl ?_); (try (refine jv (by rfl) ?_; dsimp only)); refine Kd.jAC (Kd.int .u64) _ 22 ?hg (N := 7) ?hd (xs := ([1] : List Int)) (inner := [.int .u64 1]) (ok := fun _ => True) (okp := fun _ => True) ?hr ?hp (fun _ hk => hk) trivial (Below.refl _ _) (Nat.le_refl _) (by simp) ?_; (case hd => rfl); (case hg => rfl); (case hr => exact gs_); (case hp => exact (Reps.one (show Kd.M (Kd.int .u64) _ _ _ 1 [.int .u64 1] from rfl) (Reps.none _ _))); intro v376 w34 ho35 hb hg_ hnew_; clear hg_ hnew_; (first | rw [← Ny375.out] at ho35 | (simp only [Int.reduceToNat] at ho35; rw [← Ny375.out] at ho35)); have n0_ := jA.mk (Kd.jK (rR_ HO371) (Kd.jL ho35) hb); have n1_ := jA.mk (Kd.jK (rR_ HO374) (Kd.jL ho35) hb); have n2_ := jA.mk (Kd.jS (Kd.jN (Kd.jN ho35 (Kd.R_lt (rR_ HO371))) (Kd.R_lt (rR_ HO374))) (jB (bb_ HB))); have n3_ := jA.mk (jC (bb_ HB) hb); clear HO371 HO374 HB; have HO371 := n0_; have HO374 := n1_; have HO377 := n2_; have HB := n3_; clear n0_ n1_ n2_ n3_ hb ho35) | ((with_reducible refine jl (N := 8) rfl ?_); (try (refine jv (by rfl) ?_; dsimp only)); refine Kd.jAC (Kd.int .u64) _ 22 ?hg (N := 8) ?hd (xs := ([3] : List Int)) (inner := [.int .u64 3]) (ok := fun _ => True) (okp := fun _ => True) ?hr ?hp (fun _ hk => hk) trivial (Below.refl _ _) (Nat.le_refl _) (by simp) ?_; (case hd => rfl); (case hg => rfl); (case hr => exact gs_); (case hp => exact (Reps.one (show Kd.M (Kd.int .u64) _ _ _ 3 [.int .u64 3] from rfl) (Reps.none _ _))); intro v379 w36 ho37 hb hg_ hnew_; clear hg_ hnew_; (first | rw [← Ny378.out] at ho37 | (simp only [Int.reduceToNat] at ho37; rw [← Ny378.out] at ho37)); have n0_ := jA.mk (Kd.jK (rR_ HO371) (Kd.jL ho37) hb); have n1_ := jA.mk (Kd.jK (rR_ HO374) (Kd.jL ho37) hb); have n2_ := jA.mk (Kd.jK (rR_ HO377) (Kd.jL ho37) hb); have n3_ := jA.mk (Kd.jS (Kd.jN (Kd.jN (Kd.jN ho37 (Kd.R_lt (rR_ HO371))) (Kd.R_lt (rR_ HO374))) (Kd.R_lt (rR_ HO377))) (jB (bb_ HB))); have n4_ := jA.mk (jC (bb_ HB) hb); clear HO371 HO374 HO377 HB; have HO371 := n0_; have HO374 := n1_; have HO377 := n2_; have HO380 := n3_; have HB := n4_; clear n0_ n1_ n2_ n3_ n4_ hb ho37; obtain ⟨Ao38, co38, eo38⟩ := Kd.jc HO380.out; subst eo38; obtain ⟨Ao39, co39, eo39⟩ := Kd.jc HO377.out; subst eo39) | ((with_reducible refine jJ (f := 49) rfl ?_); refine jr (some 10) rfl rfl Try.func49 kr_ rfl #[.agg #[.bool false, .slice Ao33 y369.length co33, .slice Ao32 y372.length co32], .agg #[.bool false, .slice Ao39 y375.length co39, .slice Ao38 y378.length co38]] rfl mt_ ?_; (with_reducible refine (vJ.calls k false _ _ y369 _ _ y372 false _ _ y375 _ _ y378 t381 t382 t385 t388 _ ?side1 ?side2 ?side3 ?side4 ?side5 ?side6 ?side7 ?side8 A1.out).mono ?_); (case side1 => exact cc_ (Kd.jI HO371.out).2.2); (case side2 => exact (Kd.jI HO371.out).2.1); (case side3 => exact cc_ (Kd.jI HO374.out).2.2); (case side4 => exact (Kd.jI HO374.out).2.1); (case side5 => exact cc_ (Kd.jI HO377.out).2.2); (case side6 => exact (Kd.jI HO377.out).2.1); (case side7 => exact cc_ (Kd.jI HO380.out).2.2); (case side8 => exact (Kd.jI HO380.out).2.1); rintro e w40 ⟨v383, v386, rfl, ho0, ho1, hb⟩; refine ⟨_, rfl, ?_⟩; have n0_ := jA.mk (Kd.jP (Kd.zI (Kd.zI (Kd.jAR (rR_ HO371) hb) (Kd.jL ho0)) (Kd.jL ho1)) (fun _ h_ => h_.1)); have n1_ := jA.mk (Kd.jP (Kd.zI (Kd.zI (Kd.jAR (rR_ HO374) hb) (Kd.jL ho0)) (Kd.jL ho1)) (fun _ h_ => h_.1)); have n2_ := jA.mk (Kd.jP (Kd.zI (Kd.zI (Kd.jAR (rR_ HO377) hb) (Kd.jL ho0)) (Kd.jL ho1)) (fun _ h_ => h_.1)); have n3_ := jA.mk (Kd.jP (Kd.zI (Kd.zI (Kd.jAR (rR_ HO380) hb) (Kd.jL ho0)) (Kd.jL ho1)) (fun _ h_ => h_.1)); have n4_ := jA.mk (Kd.jS (Kd.jN (Kd.jN (Kd.jN (Kd.jN ho0 (Kd.R_lt (rR_ HO371))) (Kd.R_lt (rR_ HO374))) (Kd.R_lt (rR_ HO377))) (Kd.R_lt (rR_ HO380))) (jB (bb_ HB))); have n5_ := jA.mk (Kd.jS (Kd.jN (Kd.jN (Kd.jN (Kd.jN ho1 (Kd.R_lt (rR_ HO371))) (Kd.R_lt (rR_ HO374))) (Kd.R_lt (rR_ HO377))) (Kd.R_lt (rR_ HO380))) (jB (bb_ HB))); have n6_ := jA.mk (jC (bb_ HB) hb); clear HO371 HO374 HO377 HO380 HB; have HO371 := n0_; have HO374 := n1_; have HO377 := n2_; have HO380 := n3_; have HO384 := n4_; have HO387 := n5_; have HB := n6_; clear n0_ n1_ n2_ n3_ n4_ n5_ n6_) | ((with_reducible refine jl (N := 1) rfl ?_); (try (refine jv (by rfl) ?_; dsimp only)); refine zA ?hg (N := 1) ?hd (cs := #[.bool false, .slice none 0 0, .slice none 0 0]) (t := 44) ?hr ?_; (case hd => rfl); (case hg => rfl); (case hr => exact gs_); intro gb389 hg w41 hbox hb; have n0_ := jA.mk (Kd.jy (rR_ HO371) hb); have n1_ := jA.mk (Kd.jy (rR_ HO374) hb); have n2_ := jA.mk (Kd.jy (rR_ HO377) hb); have n3_ := jA.mk (Kd.jy (rR_ HO380) hb); have n4_ := jA.mk (Kd.jy (rR_ HO384) hb); have n5_ := jA.mk (Kd.jy (rR_ HO387) hb); have n6_ := jA.mk (jC (bb_ HB) hb); have n7_ := jA.mk (hbox); have n8_ := jA.mk ((by rw [hg]; exact (jB (bb_ HB)) : w.heap.size ≤ gb389)); have n9_ := jA.mk ((by rw [hg]; exact (jB (bb_ HB)) : w.heap.size ≤ gb389)); clear HO371 HO374 HO377 HO380 HO384 HO387 HB; have HO371 := n0_; have HO374 := n1_; have HO377 := n2_; have HO380 := n3_; have HO384 := n4_; have HO387 := n5_; have HB := n6_; have BK389 := n7_; have GW389 := n8_; have GE389 := n9_; clear n0_ n1_ n2_ n3_ n4_ n5_ n6_ n7_ n8_ n9_ hb hbox hg; have hcz42_0 : w41.cell? ⟨gb389, 0, none⟩ = some (.bool false) := (jF BK389.out 0).trans rfl; have hcz42_1 : w41.cell? ⟨gb389, 1, none⟩ = some (.slice none 0 0) := (jF BK389.out 1).trans rfl; have hcz42_2 : w41.cell? ⟨gb389, 2, none⟩ = some (.slice none 0 0) := (jF BK389.out 2).trans rfl; have hfz42_0 := jE BK389.out 0; have hfz42_1 := jE BK389.out 1; have hfz42_2 := jE BK389.out 2; obtain ⟨Ao43, co43, eo43⟩ := Kd.jc HO384.out; subst eo43; obtain ⟨Ao44, co44, eo44⟩ := Kd.jc HO387.out; subst eo44))
  go_ret
  exact ⟨ew_, (bb1_ HB GE389)⟩

-- NOT PRINTED: function 80 (ratio_Of_1)

/-! ### zH: function 39 -/

def zH.sz (a0 : Int) : Int := if a0 < 0 then IntKind.u64.wrap (-(IntKind.u64.wrap a0)) else IntKind.u64.wrap a0
def zH.f (a0 : Int) : Option (Bool × List Int × List Int) := (jAt.f (zH.sz a0)).bind fun t => some (decide (a0 < 0), t, [1])
theorem zH.jJX {P : Program} {ops : Array Oper} {Q : Exit → Act → World → Prop} {oi : Oper} {N : Option Tmp} {a : Act} {w : World} {K : Act → World → Prop} {f : FuncId} {fn : Func} {t : Tmp} {as_ : Array Operand} {ts : Array TypeId} (cap : Array Value) (hf : P.funcs[f]? = some fn) (hname : (fn.name == "runtime.NumGoroutine") = false) (hb : fn.body.isSome = true) (args : Array Value)
  (hw : Region.wanted oi (yielded ops a.tmps) = true) (hN : oi.dst = N) (hop : oi.op = .call { callee := .value (.tmp t), args := as_, argTypes := ts }) (hv : a.eval (.tmp t) = .func (.func f) #[] cap) (hargs : as_.map a.eval ++ cap = args)
  (h : Calls P f args w fun e w' => ∃ v, e = .returned v ∧ K (a.put N v) w') : if Region.wanted oi (yielded ops a.tmps) = true then Oper.wp P oi a w K Q else K (a.put N undef) w := by
 refine call_ f args hw hN ?_ h
 have he := jDM hf hname hb args w
 unfold execOp
 simp [hop, resolve, Deferred.ofValue, invoke, hv, hargs, he]
theorem zH.lit (w : World) (q : Int) (base : Nat) (hb : base ≤ w.heap.size) : Kd.R (Kd.int .u64) 22 (w.alloc (.cells #[.int .u64 q] 22)) base (fun k_ => k_ = w.heap.size) (.slice (some ⟨w.heap.size, 0, none⟩) 1 1) [q] := Kd.jBi (jFq w base 22 .u64 [q] hb (by simp)) (fun k_ hk => by simp [Value.ownBlock] at hk; exact hk.symm)
theorem zH.fin {wz w : World} {g gL c9 : Nat} {A9 : Option Addr} {t : List Int} {neg : Bool} (ht : Kd.R (Kd.int .u64) 22 wz w.heap.size (fun k_ => k_ ≠ g ∧ k_ ≠ gL) (.slice A9 t.length c9) t) (hl : Kd.R (Kd.int .u64) 22 wz w.heap.size (fun k_ => k_ = gL) (.slice (some ⟨gL, 0, none⟩) 1 1) [1]) (hg : gL ≠ g) (hb : Below w.heap.size w wz) (hw : w.heap.size ≤ g) :
  Kd.R (Kd.int .u64) 22 (((wz.setCell ⟨g, 0, none⟩ (.bool neg)).setCell ⟨g, 1, none⟩ (.slice A9 t.length c9)).setCell ⟨g, 2, none⟩ (.slice (some ⟨gL, 0, none⟩) 1 1)) w.heap.size (fun k_ => some k_ ≠ (.slice (some ⟨gL, 0, none⟩) 1 1 : Value).ownBlock) (.slice A9 t.length c9) t ∧
  Kd.R (Kd.int .u64) 22 (((wz.setCell ⟨g, 0, none⟩ (.bool neg)).setCell ⟨g, 1, none⟩ (.slice A9 t.length c9)).setCell ⟨g, 2, none⟩ (.slice (some ⟨gL, 0, none⟩) 1 1)) w.heap.size (fun k_ => some k_ ≠ (.slice A9 t.length c9 : Value).ownBlock) (.slice (some ⟨gL, 0, none⟩) 1 1) [1] ∧
  Below w.heap.size w (((wz.setCell ⟨g, 0, none⟩ (.bool neg)).setCell ⟨g, 1, none⟩ (.slice A9 t.length c9)).setCell ⟨g, 2, none⟩ (.slice (some ⟨gL, 0, none⟩) 1 1)) := by
 refine ⟨Kd.jP (Kd.ji (Kd.ji (Kd.ji ht (fun _ hk => hk.1) _) (fun _ hk => hk.1) _) (fun _ hk => hk.1) _) (fun k_ hk => ?_), Kd.jP (Kd.ji (Kd.ji (Kd.ji hl (fun _ hk => by rw [hk]; exact hg) _) (fun _ hk => by rw [hk]; exact hg) _) (fun _ hk => by rw [hk]; exact hg) _) (fun k_ hk => ?_), zD (zD (zD hb hw) hw) hw⟩
 ·
  intro e_
  have : k_ = gL := by simpa [Value.ownBlock] using e_
  exact hk.2 this
 ·
  subst hk
  intro e_
  exact (ht.1 k_ e_.symm).2 rfl
set_option maxHeartbeats 4000000 in
theorem zH.cl (g : Nat) (a0 : Int) (w : World) (hx : w.heap[g]? = some (.cells #[.int .i64 a0] 2 (0, 0))) : Calls Try.prog 80 #[.pointer (some ⟨g, 0, none⟩)] w fun e w' => e = .returned (.int .u64 (zH.sz a0)) ∧ w = w' := by
 have hc : w.cell? ⟨g, 0, none⟩ = some (.int .i64 a0) := (jF hx 0).trans rfl
 clear hx
 unfold zH.sz
 by_cases h : a0 < 0
 ·
  have hb : decide (a0 < 0) = true := decide_eq_true h
  rw [if_pos h]
  clear h
  go_enter Try.func80, Try.ntmps80
  go_wp2
  go_ret
  exact ⟨rfl, rfl⟩
 ·
  have hb : decide (a0 < 0) = false := decide_eq_false h
  rw [if_neg h]
  clear h
  go_enter Try.func80, Try.ntmps80
  go_wp2
  go_ret
  exact ⟨rfl, rfl⟩
theorem zH.calls (a0 : Int) (r1 : Bool) (r2 : List Int) (r3 : List Int) (w : World) (h : zH.f a0 = some (r1, r2, r3)) :
  Calls Try.prog 39 #[.int .i64 a0] w fun e w' => ∃ v1_ v2_ : Value, e = .returned (.agg #[.bool r1, v1_, v2_]) ∧ Kd.R (Kd.int .u64) 22 w' w.heap.size (fun k_ => some k_ ≠ (v2_ : Value).ownBlock) v1_ r2 ∧ Kd.R (Kd.int .u64) 22 w' w.heap.size (fun k_ => some k_ ≠ (v1_ : Value).ownBlock) v2_ r3 ∧ Below w.heap.size w w' := by
 unfold zH.f at h
 obtain ⟨t, ht, h⟩ := Option.bind_eq_some_iff.mp h
 simp only [Option.some.injEq, Prod.mk.injEq] at h
 obtain ⟨rfl, rfl, rfl⟩ := h
 have HT := jA.mk ht
 clear ht
 have hX := za (jAn w (.cells #[.int .i64 a0] 2)) (.cells #[.bool false, .slice none 0 0, .slice none 0 0] 44)
 have hY := jAn (w.alloc (.cells #[.int .i64 a0] 2)) (.cells #[.bool false, .slice none 0 0, .slice none 0 0] 44)
 have hD := vR (vR (Below.refl _ w) (.cells #[.int .i64 a0] 2)) (.cells #[.bool false, .slice none 0 0, .slice none 0 0] 44)
 have hS := jA.mk (show ((w.alloc (.cells #[.int .i64 a0] 2)).alloc (.cells #[.bool false, .slice none 0 0, .slice none 0 0] 44)).heap.size = w.heap.size + 2 from by simp)
 simp only [World.size_alloc] at hY
 have HX := jA.mk hX
 have HY := jA.mk hY
 have HD := jA.mk hD
 have HSZ := jA.mk (show ∀ x : Int, zH.sz x = zH.sz x from fun _ => rfl)
 generalize hsz : zH.sz a0 = z at HT
 have HCL := jA.mk (show ∀ w : World, w.heap[w.heap.size]? = w.heap[w.heap.size]? from fun _ => rfl)
 have HC : jA (∀ w' : World, w'.heap[w.heap.size]? = some (.cells #[.int .i64 a0] 2 (0, 0)) → Calls Try.prog 80 #[.pointer (some ⟨w.heap.size, 0, none⟩)] w' fun e w'' => e = .returned (.int .u64 z) ∧ w' = w'') := ⟨fun w' hx => by rw [← hsz]; exact zH.cl _ _ _ hx⟩
 clear hX hY hD HSZ HCL hsz
 generalize hlt : decide (a0 < 0) = neg
 have HLT := jA.mk hlt
 go_enter Try.func39, Try.ntmps39
 go_wp2_with fail
 generalize (w.alloc (.cells #[.int .i64 a0] 2)).alloc (.cells #[.bool false, .slice none 0 0, .slice none 0 0] 44) = v0 at HX HY HD hS ⊢
 refine jAs (n := 8) (S := fun w' => w'.heap[w.heap.size]? = some (.cells #[.int .i64 a0] 2 (0, 0)) ∧ w'.heap[w.heap.size + 1]? = some (.cells #[.bool false, .slice none 0 0, .slice none 0 0] 44 (0, 0)) ∧ Below w.heap.size w w') (ds := [7]) #[false, false, false, false, false, false, false, false] kr_ rfl rfl ⟨zW HX.out, zW HY.out, qD HD.out⟩ (fun hHeld => ?_)
 have hS1 := jA.mk (show v0.drew.heap.size = w.heap.size + 2 from hS.out)
 generalize v0.drew = v1 at hS1 hHeld ⊢
 clear HX HY HD hS
 refine qw (i := 0) (N := some 5) (v := ?_) (a' := ?_) #[true, false, false, false, false, false, false, false] rfl rfl kr_ (fun _ _ _ h => h) (Or.inl ⟨by rfl, ?_⟩) hHeld ?_ ?_
 rotate_left
 ·
  rintro w' ⟨s0_, s1_, s2_⟩
  have hc := (jF s0_ 0).trans (show _ = some (.int .i64 a0) from rfl)
  go_simp
  with_reducible rfl
 rotate_left
 ·
  simp only [Act.put, ss_, jk, jo]
  rfl
 refine vU (i := 1) (N := some 6) (v := ?_) (a' := ?_) #[true, true, false, false, false, false, false, false] rfl rfl kr_ (fun _ _ _ h => h) (Or.inl ⟨by rfl, ?_⟩) ?_ ?_
 rotate_left
 ·
  intro w'
  go_simp
  with_reducible rfl
 rotate_left
 ·
  simp only [Act.put, ss_, jk, jo]
  rfl
 refine vU (i := 2) (N := some 7) (v := ?_) (a' := ?_) #[true, true, true, false, false, false, false, false] rfl rfl kr_ (fun _ _ _ h => h) (Or.inl ⟨by rfl, ?_⟩) ?_ ?_
 rotate_left
 ·
  intro w'
  go_simp
  with_reducible rfl
 rotate_left
 ·
  simp only [Act.put, ss_, jk, jo]
  rfl
 refine two_ (i := 3) (j := 5) (Ni := some 8) (Nj := some 10) #[true, true, true, true, false, false, false, false] #[true, true, true, false, false, true, false, false] rfl rfl rfl rfl kr_ (by decide) (by decide) (fun K hK => ?_) (fun K hK => ?_)
 ·
  refine zH.jJX #[.pointer (some ⟨w.heap.size, 0, none⟩)] Try.func80 kr_ rfl #[.pointer (some ⟨w.heap.size, 0, none⟩)] (by rfl) rfl rfl rfl (by (try simp only [List.map_toArray, List.map_cons, List.map_nil]); first | done | rfl) ?_
  refine (HC.out _ hHeld.1).mono ?_
  rintro e w' ⟨rfl, rfl⟩
  refine ⟨_, rfl, ?_⟩
  refine hK.out _ _ hHeld (fun hHeld => ?_)
  clear hK K
  refine qO (a' := ?_) ?_ ?_
  rotate_left
  ·
   show Act.put _ (some 8) _ = _
   simp only [Act.put, ss_, jk, jo]
   rfl
  refine two_ (i := 4) (j := 5) (Ni := some 9) (Nj := some 10) #[true, true, true, true, true, false, false, false] #[true, true, true, true, false, true, false, false] rfl rfl rfl rfl kr_ (by decide) (by decide) (fun K hK => ?_) (fun K hK => ?_)
  ·
   obtain ⟨s0_, s1_, s2_⟩ := hHeld
   refine jBJ Try.func81 kr_ rfl #[.int .u64 z] (by rfl) rfl rfl (by (try simp only [List.map_toArray, List.map_cons, List.map_nil]); first | done | rfl) ?_
   refine (jAt.calls z t _ HT.out).mono ?_
   rintro e w4 ⟨v9, rfl, ho, hb⟩
   refine ⟨_, rfl, ?_⟩
   obtain ⟨A9, c9, e9⟩ := Kd.jc ho
   subst e9
   have HO := jA.mk ho
   have HBB := jA.mk hb
   have HZB := jA.mk (jB s2_)
   clear ho hb
   refine hK.out _ _ ⟨zC s0_ HBB.out, zC s1_ HBB.out, jC s2_ HBB.out⟩ (fun hHeld => ?_)
   clear hK K s0_ s1_ s2_
   refine qO (a' := ?_) ?_ ?_
   rotate_left
   ·
    show Act.put _ (some 9) _ = _
    simp only [Act.put, ss_, jk, jo]
    rfl
   refine one_ (i := 5) (N := some 10) #[true, true, true, true, true, true, false, false] rfl rfl kr_ (by decide) (fun K hK => ?_)
   refine jDa (w1 := ?_) (v := ?_) (by rfl) rfl ?_ ?_
   rotate_left 2
   ·
    go_simp
    constructor
    ·
     rfl
    ·
     rfl
   obtain ⟨s0_, s1_, s2_⟩ := hHeld
   have HL := jA.mk (zH.lit _ 1 w.heap.size (jB s2_))
   refine hK.out _ _ ⟨za s0_ _, za s1_ _, vR s2_ _⟩ (fun hHeld => ?_)
   clear hK K
   refine qO (a' := ?_) ?_ ?_
   rotate_left
   ·
    show Act.put _ (some 10) _ = _
    simp only [Act.put, ss_, jk, jo]
    rfl
   obtain ⟨s0_, s1_, s2_⟩ := hHeld
   refine vU (i := 6) (N := some 11) (v := ?_) (a' := ?_) #[true, true, true, true, true, true, true, false] rfl rfl kr_ (fun _ _ _ h => h) (Or.inl ⟨by rfl, ?_⟩) ?_ ?_
   rotate_left
   ·
    intro w'
    go_simp
    with_reducible rfl
   rotate_left
   ·
    simp only [Act.put, ss_, jk, jo]
    rfl
   have z0 := (jF s1_ 0).trans (show _ = some (.bool false) from rfl)
   have z1 := (jF s1_ 1).trans (show _ = some (.slice none 0 0) from rfl)
   have z2 := (jF s1_ 2).trans (show _ = some (.slice none 0 0) from rfl)
   have f0 := jE s1_ 0
   have f1 := jE s1_ 1
   have f2 := jE s1_ 2
   refine jCk (i := 7) (N := none) #[true, true, true, true, true, true, true, true] rfl rfl kr_ (by decide) (fun K hK => ?_)
   refine jDF (w1 := ?_) (by rfl) rfl ?_ ?_
   rotate_left
   ·
    go_simp
    rfl
   refine hK.out _ _ ?_
   clear hK K z0 z1 z2 f0 f1 f2
   refine jBW kr_ ?_
   go_wp2
   refine bodyPost_ret (results_cell_row rfl _ _ (w.heap.size + 1) 44 #[.bool neg, .slice A9 t.length c9, .slice (some ⟨w4.heap.size, 0, none⟩) 1 1] (0, 0) _ rfl (by refine vD (cs := #[.bool neg, .slice A9 t.length c9, .slice none 0 0]) ?_ 2 _ rs_; refine vD (cs := #[.bool neg, .slice none 0 0, .slice none 0 0]) ?_ 1 _ rs_; refine vD (cs := #[.bool false, .slice none 0 0, .slice none 0 0]) ?_ 0 _ rs_; exact s1_) Try.underlying44 rfl kr_) rfl ?_
   have hz1 := hS1.out
   have hz2 := jB HBB.out
   (try simp only [World.size_alloc] at hz2)
   obtain ⟨f1, f2, f3⟩ := zH.fin (neg := neg) (g := w.heap.size + 1) (Kd.zQ (Kd.jS (Kd.jP (Kd.jAN HO.out) (fun k_ hk => ⟨by have := hk.2.1; omega, by have := hk.2.2.1; omega⟩)) HZB.out) _) HL.out (by omega) s2_ (by omega)
   exact ⟨_, _, rfl, f1, f2, f3⟩
  ·
   refine jDa (w1 := ?_) (v := ?_) (by rfl) rfl ?_ ?_
   rotate_left 2
   ·
    go_simp
    constructor
    ·
     rfl
    ·
     rfl
   obtain ⟨s0_, s1_, s2_⟩ := hHeld
   have HL := jA.mk (zH.lit _ 1 w.heap.size (jB s2_))
   refine hK.out _ _ ⟨za s0_ _, za s1_ _, vR s2_ _⟩ (fun hHeld => ?_)
   clear hK K
   refine qO (a' := ?_) ?_ ?_
   rotate_left
   ·
    show Act.put _ (some 10) _ = _
    simp only [Act.put, ss_, jk, jo]
    rfl
   refine one_ (i := 4) (N := some 9) #[true, true, true, true, true, true, false, false] rfl rfl kr_ (by decide) (fun K hK => ?_)
   obtain ⟨s0_, s1_, s2_⟩ := hHeld
   refine jBJ Try.func81 kr_ rfl #[.int .u64 z] (by rfl) rfl rfl (by (try simp only [List.map_toArray, List.map_cons, List.map_nil]); first | done | rfl) ?_
   refine (jAt.calls z t _ HT.out).mono ?_
   rintro e w4 ⟨v9, rfl, ho, hb⟩
   refine ⟨_, rfl, ?_⟩
   obtain ⟨A9, c9, e9⟩ := Kd.jc ho
   subst e9
   have HL := jA.mk (Kd.jy HL.out hb)
   have HO := jA.mk ho
   have HBB := jA.mk hb
   have HZB := jA.mk (jB s2_)
   clear ho hb
   refine hK.out _ _ ⟨zC s0_ HBB.out, zC s1_ HBB.out, jC s2_ HBB.out⟩ (fun hHeld => ?_)
   clear hK K s0_ s1_ s2_
   refine qO (a' := ?_) ?_ ?_
   rotate_left
   ·
    show Act.put _ (some 9) _ = _
    simp only [Act.put, ss_, jk, jo]
    rfl
   obtain ⟨s0_, s1_, s2_⟩ := hHeld
   refine vU (i := 6) (N := some 11) (v := ?_) (a' := ?_) #[true, true, true, true, true, true, true, false] rfl rfl kr_ (fun _ _ _ h => h) (Or.inl ⟨by rfl, ?_⟩) ?_ ?_
   rotate_left
   ·
    intro w'
    go_simp
    with_reducible rfl
   rotate_left
   ·
    simp only [Act.put, ss_, jk, jo]
    rfl
   have z0 := (jF s1_ 0).trans (show _ = some (.bool false) from rfl)
   have z1 := (jF s1_ 1).trans (show _ = some (.slice none 0 0) from rfl)
   have z2 := (jF s1_ 2).trans (show _ = some (.slice none 0 0) from rfl)
   have f0 := jE s1_ 0
   have f1 := jE s1_ 1
   have f2 := jE s1_ 2
   refine jCk (i := 7) (N := none) #[true, true, true, true, true, true, true, true] rfl rfl kr_ (by decide) (fun K hK => ?_)
   refine jDF (w1 := ?_) (by rfl) rfl ?_ ?_
   rotate_left
   ·
    go_simp
    rfl
   refine hK.out _ _ ?_
   clear hK K z0 z1 z2 f0 f1 f2
   refine jBW kr_ ?_
   go_wp2
   refine bodyPost_ret (results_cell_row rfl _ _ (w.heap.size + 1) 44 #[.bool neg, .slice A9 t.length c9, .slice (some ⟨v1.heap.size, 0, none⟩) 1 1] (0, 0) _ rfl (by refine vD (cs := #[.bool neg, .slice A9 t.length c9, .slice none 0 0]) ?_ 2 _ rs_; refine vD (cs := #[.bool neg, .slice none 0 0, .slice none 0 0]) ?_ 1 _ rs_; refine vD (cs := #[.bool false, .slice none 0 0, .slice none 0 0]) ?_ 0 _ rs_; exact s1_) Try.underlying44 rfl kr_) rfl ?_
   have hz1 := hS1.out
   obtain ⟨f1, f2, f3⟩ := zH.fin (neg := neg) (g := w.heap.size + 1) (Kd.jS (Kd.jP (Kd.jAN HO.out) (fun k_ hk => by have hk1 := hk.2.1; simp only [World.size_alloc] at hk1; exact ⟨by omega, by omega⟩)) HZB.out) HL.out (by omega) s2_ (by omega)
   exact ⟨_, _, rfl, f1, f2, f3⟩
 ·
  refine jDa (w1 := ?_) (v := ?_) (by rfl) rfl ?_ ?_
  rotate_left 2
  ·
   go_simp
   constructor
   ·
    rfl
   ·
    rfl
  obtain ⟨s0_, s1_, s2_⟩ := hHeld
  have HL := jA.mk (zH.lit _ 1 w.heap.size (jB s2_))
  refine hK.out _ _ ⟨za s0_ _, za s1_ _, vR s2_ _⟩ (fun hHeld => ?_)
  clear hK K
  refine qO (a' := ?_) ?_ ?_
  rotate_left
  ·
   show Act.put _ (some 10) _ = _
   simp only [Act.put, ss_, jk, jo]
   rfl
  refine one_ (i := 3) (N := some 8) #[true, true, true, true, false, true, false, false] rfl rfl kr_ (by decide) (fun K hK => ?_)
  refine zH.jJX #[.pointer (some ⟨w.heap.size, 0, none⟩)] Try.func80 kr_ rfl #[.pointer (some ⟨w.heap.size, 0, none⟩)] (by rfl) rfl rfl rfl (by (try simp only [List.map_toArray, List.map_cons, List.map_nil]); first | done | rfl) ?_
  refine (HC.out _ hHeld.1).mono ?_
  rintro e w' ⟨rfl, rfl⟩
  refine ⟨_, rfl, ?_⟩
  refine hK.out _ _ hHeld (fun hHeld => ?_)
  clear hK K
  refine qO (a' := ?_) ?_ ?_
  rotate_left
  ·
   show Act.put _ (some 8) _ = _
   simp only [Act.put, ss_, jk, jo]
   rfl
  refine one_ (i := 4) (N := some 9) #[true, true, true, true, true, true, false, false] rfl rfl kr_ (by decide) (fun K hK => ?_)
  obtain ⟨s0_, s1_, s2_⟩ := hHeld
  refine jBJ Try.func81 kr_ rfl #[.int .u64 z] (by rfl) rfl rfl (by (try simp only [List.map_toArray, List.map_cons, List.map_nil]); first | done | rfl) ?_
  refine (jAt.calls z t _ HT.out).mono ?_
  rintro e w4 ⟨v9, rfl, ho, hb⟩
  refine ⟨_, rfl, ?_⟩
  obtain ⟨A9, c9, e9⟩ := Kd.jc ho
  subst e9
  have HL := jA.mk (Kd.jy HL.out hb)
  have HO := jA.mk ho
  have HBB := jA.mk hb
  have HZB := jA.mk (jB s2_)
  clear ho hb
  refine hK.out _ _ ⟨zC s0_ HBB.out, zC s1_ HBB.out, jC s2_ HBB.out⟩ (fun hHeld => ?_)
  clear hK K s0_ s1_ s2_
  refine qO (a' := ?_) ?_ ?_
  rotate_left
  ·
   show Act.put _ (some 9) _ = _
   simp only [Act.put, ss_, jk, jo]
   rfl
  obtain ⟨s0_, s1_, s2_⟩ := hHeld
  refine vU (i := 6) (N := some 11) (v := ?_) (a' := ?_) #[true, true, true, true, true, true, true, false] rfl rfl kr_ (fun _ _ _ h => h) (Or.inl ⟨by rfl, ?_⟩) ?_ ?_
  rotate_left
  ·
   intro w'
   go_simp
   with_reducible rfl
  rotate_left
  ·
   simp only [Act.put, ss_, jk, jo]
   rfl
  have z0 := (jF s1_ 0).trans (show _ = some (.bool false) from rfl)
  have z1 := (jF s1_ 1).trans (show _ = some (.slice none 0 0) from rfl)
  have z2 := (jF s1_ 2).trans (show _ = some (.slice none 0 0) from rfl)
  have f0 := jE s1_ 0
  have f1 := jE s1_ 1
  have f2 := jE s1_ 2
  refine jCk (i := 7) (N := none) #[true, true, true, true, true, true, true, true] rfl rfl kr_ (by decide) (fun K hK => ?_)
  refine jDF (w1 := ?_) (by rfl) rfl ?_ ?_
  rotate_left
  ·
   go_simp
   rfl
  refine hK.out _ _ ?_
  clear hK K z0 z1 z2 f0 f1 f2
  refine jBW kr_ ?_
  go_wp2
  refine bodyPost_ret (results_cell_row rfl _ _ (w.heap.size + 1) 44 #[.bool neg, .slice A9 t.length c9, .slice (some ⟨v1.heap.size, 0, none⟩) 1 1] (0, 0) _ rfl (by refine vD (cs := #[.bool neg, .slice A9 t.length c9, .slice none 0 0]) ?_ 2 _ rs_; refine vD (cs := #[.bool neg, .slice none 0 0, .slice none 0 0]) ?_ 1 _ rs_; refine vD (cs := #[.bool false, .slice none 0 0, .slice none 0 0]) ?_ 0 _ rs_; exact s1_) Try.underlying44 rfl kr_) rfl ?_
  have hz1 := hS1.out
  obtain ⟨f1, f2, f3⟩ := zH.fin (neg := neg) (g := w.heap.size + 1) (Kd.jS (Kd.jP (Kd.jAN HO.out) (fun k_ hk => by have hk1 := hk.2.1; simp only [World.size_alloc] at hk1; exact ⟨by omega, by omega⟩)) HZB.out) HL.out (by omega) s2_ (by omega)
  exact ⟨_, _, rfl, f1, f2, f3⟩

end Go.Proofs.Ytijgeonhbmgikaa.PORatioSums
