-- printed (pr.py)
import Derived.Test.YtoganbmeedimiaaGreatPOPressOnex2
namespace Go.Proofs.YtoganbmeedimiaaGreat.POPressOne
open Go.RowKit Go.Proofs.YtoganbmeedimiaaGreatN Go.Proofs.YtoganbmeedimiaaGreatW.PrintWords Go.Proofs.YtoganbmeedimiaaGreatW.PrintLast Go.Proofs.YtoganbmeedimiaaGreatW.PrintMore
attribute [local go_sem] zV zR qA zy vZ vY zU zQ
set_option maxHeartbeats 8000000
set_option maxRecDepth 100000
set_option linter.unusedVariables false
set_option linter.unusedSimpArgs false
set_option maxHeartbeats 4000000 in
theorem jr.cl (gx gc ga i n cap : Nat) (y a b : Int) (w : World) (hx : w.cell? ⟨gx, 0, none⟩ = some (.slice (some ⟨ga, 0, none⟩) n cap)) (hc : w.cell? ⟨gc, 0, none⟩ = some (.int .u64 b)) (ha : w.cell? ⟨ga, i, none⟩ = some (.int .u64 a))
  (hne : gc ≠ ga) (fa : w.frozen? ⟨ga, i, none⟩ = false) (fc : w.frozen? ⟨gc, 0, none⟩ = false) (hi : (i : Int) < (n : Int)) (hb : decide (b ≤ 1) = true) :
  Calls Tryz.prog 149 #[.int .i64 i, .int .u64 y, .pointer (some ⟨gx, 0, none⟩), .pointer (some ⟨gc, 0, none⟩)] w fun e w' => e = .returned (.tuple #[]) ∧ w' = ((w.setCell ⟨ga, i, none⟩ (.int .u64 (sb64 a y b))).setCell ⟨gc, 0, none⟩ (.int .u64 (bb64 a y b))).drew := by
 rw [← World.setCell_drew, ← World.setCell_drew]
 have hi0 : 0 ≤ (i : Int) := by omega
 have fa' : w.drew.frozen? ⟨ga, i, none⟩ = false := fa
 have fc' : w.drew.frozen? ⟨gc, 0, none⟩ = false := fc
 have hx' : w.drew.cell? ⟨gx, 0, none⟩ = some (.slice (some ⟨ga, 0, none⟩) n cap) := hx
 have ha' : w.drew.cell? ⟨ga, i, none⟩ = some (.int .u64 a) := ha
 have hc' : w.drew.cell? ⟨gc, 0, none⟩ = some (.int .u64 b) := hc
 clear fa fc hx ha hc
 go_enter Tryz.func149, Tryz.ntmps149
 refine zw (n := 15) (S := fun w' => w'.cell? ⟨gx, 0, none⟩ = some (.slice (some ⟨ga, 0, none⟩) n cap) ∧ w'.cell? ⟨ga, i, none⟩ = some (.int .u64 a) ∧ w'.cell? ⟨gc, 0, none⟩ = some (.int .u64 b)) (ds := [13, 14]) #[false, false, false, false, false, false, false, false, false, false, false, false, false, false, false] kr_ rfl rfl ⟨hx', ha', hc'⟩ (fun hHeld => ?_)
 generalize w.drew = w1 at fa' fc' hx' ha' hc' hHeld ⊢
 refine pu_ 1 (some 8) (ba_ 15 2) kr_ ?_
 refine pu_ 3 (some 10) (ba_ 15 10) kr_ ?_
 refine pu_ 6 (some 13) (ba_ 15 74) kr_ ?_
 refine tk3_ 0 (some 7) (ba_ 15 75) kr_ hHeld ?_
 refine tk3_ 2 (some 9) (ba_ 15 79) kr_ hHeld ?_
 refine pu_ 4 (some 11) (ba_ 15 95) kr_ ?_
 refine tk3_ 5 (some 12) (ba_ 15 127) kr_ hHeld ?_
 refine tk3_ 7 (some 14) (ba_ 15 255) kr_ hHeld ?_
 refine pu_ 8 (some 15) (ba_ 15 511) kr_ ?_
 refine pu_ 9 (some 6) (ba_ 15 1023) kr_ ?_
 refine pu_ 10 (some 16) (ba_ 15 2047) kr_ ?_
 refine pu_ 11 (some 17) (ba_ 15 4095) kr_ ?_
 refine pu_ 12 (some 18) (ba_ 15 8191) kr_ ?_
 refine jAh (i := 13) (N := none) (ba_ 15 16383) rfl rfl kr_ (by decide) (fun K hK => ?_)
 refine jAq (w1 := ?_) (by rfl) rfl ?_ ?_
 rotate_left
 ·
  go_simp
  rfl
 refine hK.out _ _ ?_
 clear hK K
 refine jAh (i := 14) (N := none) (ba_ 15 32767) rfl rfl kr_ (by decide) (fun K hK => ?_)
 refine jAq (w1 := ?_) (by rfl) rfl ?_ ?_
 rotate_left
 ·
  go_simp
  rfl
 refine hK.out _ _ ?_
 clear hK K
 refine jAR kr_ ?_
 go_wp2
 go_end0
 exact ⟨rfl, rfl⟩
/-- The loop: from place i on, d limbs are still to come. -/
def jr.l0 : Nat → List Int → List Int → Int → Nat → List Int
 | 0, x, _, _, _ => x
 | d + 1, x, b, c, i => jr.l0 d (x.set i (sb64 (x.getD i 0) (b.getD i 0) c)) b (bb64 (x.getD i 0) (b.getD i 0) c) (i + 1)
def jr.f (k : Nat) (l0 l1 : List Int) : Option (List Int × Bool) := (jo.f k l0 l1).bind fun t => if t < 0 then some ([], false) else (vC.f k l0).bind fun x => (jJ.f k (jr.l0 x.length x l1 0 0)).bind fun r => some (r, true)
theorem jr.mono : ∀ a0 a1 k, LeO (jr.f k a0 a1) (jr.f (k + 1) a0 a1) := by
 intro a0 a1 k
 unfold jr.f
 exact LeO.bind (jo.mono _ _ _) fun _ => LeO.ite (LeO.refl _) (LeO.bind (vC.mono _ _) fun _ => LeO.bind (jJ.mono _ _) fun _ => LeO.refl _)
theorem jLX (x y b : Int) : decide (bb64 x y b ≤ 1) = true := by
 unfold bb64; split <;> decide
theorem jr.calls (k : Nat) (A0 : Option Addr) (c0 : Nat) (l0 : List Int) (A1 : Option Addr) (c1 : Nat) (l1 : List Int) (r1 : List Int) (r2 : Bool) (w : World) (hr0 : Kd.C (Kd.int .u64) w A0 l0.length l0) (hc0 : l0.length ≤ c0) (hr1 : Kd.C (Kd.int .u64) w A1 l1.length l1) (hc1 : l1.length ≤ c1) (h : jr.f k l0 l1 = some (r1, r2)) :
  Calls Tryz.prog 145 #[.slice A0 l0.length c0, .slice A1 l1.length c1] w fun e w' => ∃ v0_ : Value, e = .returned (.tuple #[v0_, .bool r2]) ∧ Kd.R (Kd.int .u64) 56 w' w.heap.size (fun _ => True) v0_ r1 ∧ Below w.heap.size w w' := by
 have HR0 := jA.mk hr0
 have HC0 := jA.mk hc0
 have HR1 := jA.mk hr1
 have HC1 := jA.mk hc1
 clear hr0 hc0 hr1 hc1
 unfold jr.f at h
 obtain ⟨t, ht, h⟩ := Option.bind_eq_some_iff.mp h
 have HT := jA.mk ht
 clear ht
 by_cases hneg : t < 0
 ·
  rw [if_pos hneg] at h
  have c4b0 : decide (t < 0) = true := decide_eq_true hneg
  clear hneg
  simp only [Option.some.injEq, Prod.mk.injEq] at h
  obtain ⟨rfl, rfl⟩ := h
  go_enter Tryz.func145, Tryz.ntmps145
  go_wp2_with (go_at_call 129; (with_reducible refine (jo.calls k _ _ l0 _ _ l1 t _ HR0.out HC0.out HR1.out HC1.out HT.out).mono ?_); rintro e w1 ⟨rfl, hb⟩; have HB := jA.mk hb; clear hb)
  go_ret2
  exact ⟨_, rfl, Kd.jAS _ _ _ _ _, HB.out⟩
 rw [if_neg hneg] at h
 have c4b0 : decide (t < 0) = false := decide_eq_false hneg
 clear hneg
 obtain ⟨x, hx, h⟩ := Option.bind_eq_some_iff.mp h
 obtain ⟨r, hr, h⟩ := Option.bind_eq_some_iff.mp h
 have HX := jA.mk hx
 have HR := jA.mk hr
 clear hx hr
 simp only [Option.some.injEq, Prod.mk.injEq] at h
 obtain ⟨rfl, rfl⟩ := h
 go_enter Tryz.func145, Tryz.ntmps145
 go_wp2_with (go_at_call 129; (with_reducible refine (jo.calls k _ _ l0 _ _ l1 t _ HR0.out HC0.out HR1.out HC1.out HT.out).mono ?_); rintro e w1 ⟨rfl, hb⟩; have HB := jA.mk hb; clear hb)
 refine (vC.calls k _ _ l0 x _ (Kd.vQ HR0.out HB.out) HC0.out HX.out).mono ?_
 rintro e w2 ⟨v, rfl, ho, hb⟩
 obtain ⟨Ax, cx, ev⟩ := Kd.vE ho
 subst ev
 have HB2 := jA.mk (jG HB.out hb)
 have HB1 := HB
 have HO := jA.mk ho
 clear HB ho hb
 go_wp2_with fail
 go_loopg [19] x.length (fun kq v19 wr => ∃ (i : Nat) (xs : List Int) (c : Int), v19 = .int .i64 i ∧ jA (i + kq = x.length) ∧ jA (jr.l0 kq xs l1 c i = jr.l0 x.length x l1 0 0) ∧ jA (decide (c ≤ 1) = true) ∧ jA (wr.heap[w2.heap.size]? = some (.cells #[.slice Ax x.length cx] 30 (0, 0))) ∧ jA (wr.heap[w2.heap.size + 1]? = some (.cells #[.int .u64 c] 56 (0, 0))) ∧ jA (Kd.R (Kd.int .u64) 56 wr w.heap.size (fun k_ => k_ < w2.heap.size) (.slice Ax x.length cx) xs) ∧ jA (Below w.heap.size w wr))
 case atStart =>
  refine ⟨0, x, 0, rfl, ⟨by omega⟩, ⟨rfl⟩, ⟨by decide⟩, ⟨jO (vD w2 _) _⟩, ⟨?_⟩, ⟨?_⟩, ⟨jQ (jQ HB2.out _) _⟩⟩
  ·
   have h_ := vD (w2.alloc (.cells #[.slice Ax x.length cx] 30)) (.cells #[.int .u64 0] 56)
   simpa using h_
  refine Kd.qO (Kd.qO (Kd.vB (Kd.zC (Kd.jk HO.out (jE HB1.out))) (fun k_ hk => hk.2.2.1)) _) _
 case round =>
  obtain ⟨i, xs, c, rfl, HI, HS, HC, HX1, HX2, HO1, HB3⟩ := hrel
  have hcx : wr.cell? ⟨w2.heap.size, 0, none⟩ = some (.slice Ax x.length cx) := (jB HX1.out 0).trans rfl
  cases gk with
  | zero =>
   obtain rfl : i = x.length := by have := HI.out; omega
   have hxl : xs.length = x.length := (Kd.jW HO1.out).1.symm
   have hs := HS.out
   simp only [jr.l0] at hs
   have HR' := jA.mk (show jJ.f k xs = some r from hs ▸ HR.out)
   have HO2 := HO1.out
   rw [← hxl] at HO2
   have HO3 := jA.mk HO2
   have HXL := jA.mk hxl
   clear hxl hs HO2
   go_wp2_with fail
   rw [← HXL.out]
   refine (jJ.own k _ _ _ _ xs r _ HO3.out HR'.out).mono ?_
   rintro e w3 ⟨v, rfl, ho, hb⟩
   have HO4 := jA.mk ho
   have HB4 := jA.mk (jG HB3.out hb)
   clear ho hb
   go_wp2
   go_ret2
   exact ⟨_, rfl, Kd.vB HO4.out (fun _ _ => trivial), HB4.out⟩
  | succ d =>
   have hilt : i < x.length := by have := HI.out; omega
   have hxl : xs.length = x.length := (Kd.jW HO1.out).1.symm
   obtain ⟨ga, ca, ea, hga0, hga1, cells, hga2⟩ := Kd.jAg HO1.out (by omega)
   injection ea with ea_ en_ ec_
   subst ea_
   subst ec_
   clear en_ hga2 cells hga1
   have hgl : ga < w2.heap.size := HO1.out.1 ga rfl
   have HN := jA.mk (show w2.heap.size ≠ ga ∧ w2.heap.size + 1 ≠ ga ∧ w.heap.size ≤ ga from ⟨by omega, by omega, hga0⟩)
   have hne : w2.heap.size + 1 ≠ ga := HN.out.2.1
   obtain ⟨hca, hfa⟩ := Kd.qI 0 HO1.out (i : Int) (by omega) (by omega)
   rw [Int.toNat_natCast] at hca hfa
   replace hca : wr.cell? ⟨ga, i, none⟩ = some (.int .u64 (xs.getD i 0)) := hca
   have hcc : wr.cell? ⟨w2.heap.size + 1, 0, none⟩ = some (.int .u64 c) := (jB HX2.out 0).trans rfl
   have hfc : wr.frozen? ⟨w2.heap.size + 1, 0, none⟩ = false := jP HX2.out 0
   have hin : (i : Int) < (x.length : Int) := by omega
   have hmx : (x.length : Int) ≤ 9223372036854775807 := by have := (Kd.jW HO1.out).2.2.2.1; omega
   clear hgl hga0 hxl hilt
   by_cases hib : i < l1.length
   rotate_left
   ·
    have hib' : decide (i < l1.length) = false := decide_eq_false hib
    have hyv : l1.getD i 0 = 0 := by rw [List.getD_eq_getElem?_getD, List.getElem?_eq_none (by omega)]; rfl
    go_wp2_with fail
    refine (jr.cl w2.heap.size (w2.heap.size + 1) ga i x.length cx (0) (xs.getD i 0) c wr hcx hcc hca hne hfa hfc hin HC.out).mono ?_
    rintro e w' ⟨rfl, rfl⟩
    go_wp2
    go_roundg d
    case measure => omega
    case rel =>
     have hst := jBa (i := i) (s := sb64 (xs.getD i 0) (l1.getD i 0) c) (c' := bb64 (xs.getD i 0) (l1.getD i 0) c) HX1.out HX2.out HO1.out HB3.out HN.out.1 HN.out.2.1 (by omega) HN.out.2.2 (by have := jE HB2.out; omega) (fun k_ hk => by omega)
     rw [hyv] at hst
     exact ⟨i + 1, _, _, by go_num, ⟨by have := HI.out; omega⟩, ⟨by have h_ := HS.out; rw [jr.l0, hyv] at h_; exact h_⟩, ⟨jLX _ _ _⟩, ⟨hst.1⟩, ⟨hst.2.1⟩, ⟨hst.2.2.1⟩, ⟨hst.2.2.2⟩⟩
   obtain ⟨ad, e1, hcb⟩ := Kd.vS HR1.out (i : Int) (by omega) (by omega)
   cases e1
   replace hcb := (HB3.out.cell (World.block_lt_of_cell? w _ hcb)).trans hcb
   rw [Int.toNat_natCast] at hcb
   have hib' : (i : Int) < (l1.length : Int) := by omega
   have hyv : l1.getD i 0 = rd l1 (i : Int) := rfl
   go_wp2_with fail
   refine (jr.cl w2.heap.size (w2.heap.size + 1) ga i x.length cx (rd l1 (i : Int)) (xs.getD i 0) c wr hcx hcc hca hne hfa hfc hin HC.out).mono ?_
   rintro e w' ⟨rfl, rfl⟩
   go_wp2
   go_roundg d
   case measure => omega
   case rel =>
    have hst := jBa (i := i) (s := sb64 (xs.getD i 0) (l1.getD i 0) c) (c' := bb64 (xs.getD i 0) (l1.getD i 0) c) HX1.out HX2.out HO1.out HB3.out HN.out.1 HN.out.2.1 (by omega) HN.out.2.2 (by have := jE HB2.out; omega) (fun k_ hk => by omega)
    rw [hyv] at hst
    exact ⟨i + 1, _, _, by go_num, ⟨by have := HI.out; omega⟩, ⟨by have h_ := HS.out; rw [jr.l0, hyv] at h_; exact h_⟩, ⟨jLX _ _ _⟩, ⟨hst.1⟩, ⟨hst.2.1⟩, ⟨hst.2.2.1⟩, ⟨hst.2.2.2⟩⟩
-- NOT PRINTED: function 143 (quot_digit_1)
end Go.Proofs.YtoganbmeedimiaaGreat.POPressOne
