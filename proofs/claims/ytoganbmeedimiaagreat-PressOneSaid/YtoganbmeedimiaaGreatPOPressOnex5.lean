-- printed (pr.py)
import Derived.Test.YtoganbmeedimiaaGreatPOPressOnex2
namespace Go.Proofs.YtoganbmeedimiaaGreat.POPressOne
open Go.RowKit Go.Proofs.YtoganbmeedimiaaGreatN Go.Proofs.YtoganbmeedimiaaGreatW.PrintWords Go.Proofs.YtoganbmeedimiaaGreatW.PrintLast Go.Proofs.YtoganbmeedimiaaGreatW.PrintMore
attribute [local go_sem] zV zR qA zy vZ vY zU zQ
set_option maxHeartbeats 8000000
set_option maxRecDepth 100000
set_option linter.unusedVariables false
set_option linter.unusedSimpArgs false
def bits_Mul64.f (a0 a1 : Int) : Option (Int × Int) := if (0 ≤ a0 ∧ a0 < B) ∧ 0 ≤ a1 ∧ a1 < B then some (a0 * a1 / B, a0 * a1 % B) else none
namespace bits_Mul64
theorem maskN (a : Nat) (ha : a < 18446744073709551616) : bits .and .u64 (a : Int) 4294967295 = ((a % 4294967296 : Nat) : Int) := by
 have h := bits_and_u64_nat a 4294967295 ha (by omega)
 have e : a &&& 4294967295 = a % 4294967296 := Nat.and_two_pow_sub_one_eq_mod a 32
 rw [e] at h
 exact h
theorem divN (a : Nat) : (a : Int) / 4294967296 = ((a / 4294967296 : Nat) : Int) := by omega
theorem mulN (a b : Nat) : (a : Int) * (b : Int) = ((a * b : Nat) : Int) := (Int.natCast_mul a b).symm
theorem addN (a b : Nat) : (a : Int) + (b : Int) = ((a + b : Nat) : Int) := (Int.natCast_add a b).symm
theorem wrapN (a : Nat) (ha : a < 18446744073709551616) : IntKind.u64.wrap (a : Int) = (a : Int) := by rw [IntKind.wrap_u64]; omega
theorem wrapM (a : Nat) : IntKind.u64.wrap (a : Int) = ((a % 18446744073709551616 : Nat) : Int) := by rw [IntKind.wrap_u64]; omega
set_option maxHeartbeats 1000000 in
theorem calls_ (x y : Nat) (hx : x < 18446744073709551616) (hy : y < 18446744073709551616) (w : World) :
  Calls Tryz.prog 146 #[.int .u64 x, .int .u64 y] w fun e w' => e = .returned (.tuple #[.int .u64 ((x * y / 18446744073709551616 : Nat) : Int), .int .u64 ((x * y % 18446744073709551616 : Nat) : Int)]) ∧ w' = w := by
 obtain ⟨bd, bt, bw, hhi⟩ := Lib.mul64_hi x y hx hy
 have ba := Lib.half_mul_le (a := x / 4294967296) (b := y / 4294967296) (by omega) (by omega)
 have bb := Lib.half_mul_le (a := x / 4294967296) (b := y % 4294967296) (by omega) (by omega)
 have bc := Lib.half_mul_le (a := x % 4294967296) (b := y / 4294967296) (by omega) (by omega)
 have ba' : x / 4294967296 * (y / 4294967296) < 18446744073709551616 := by omega
 have bb' : x / 4294967296 * (y % 4294967296) < 18446744073709551616 := by omega
 have bc' : x % 4294967296 * (y / 4294967296) < 18446744073709551616 := by omega
 have bh1 : x / 4294967296 * (y / 4294967296) + (x / 4294967296 * (y % 4294967296) + x % 4294967296 * (y % 4294967296) / 4294967296) / 4294967296 < 18446744073709551616 := by omega
 have bh : x / 4294967296 * (y / 4294967296) + (x / 4294967296 * (y % 4294967296) + x % 4294967296 * (y % 4294967296) / 4294967296) / 4294967296 + ((x / 4294967296 * (y % 4294967296) + x % 4294967296 * (y % 4294967296) / 4294967296) % 4294967296 + x % 4294967296 * (y / 4294967296)) / 4294967296 < 18446744073709551616 := by omega
 go_enter Tryz.func146, Tryz.ntmps146
 go_wp2
 simp only [maskN x hx, maskN y hy, divN, mulN, addN, wrapN _ bd, wrapN _ bb', wrapN _ bt, maskN _ bt, wrapN _ bc', wrapN _ bw, wrapN _ ba', wrapN _ bh1, wrapN _ bh, wrapM (x * y)]
 rw [hhi]
 go_ret2
 exact ⟨rfl, rfl⟩
end bits_Mul64
theorem bits_Mul64.calls (a0 : Int) (a1 : Int) (r1 : Int) (r2 : Int) (w : World) (h : bits_Mul64.f a0 a1 = some (r1, r2)) :
  Calls Tryz.prog 146 #[.int .u64 a0, .int .u64 a1] w fun e w' => e = .returned (.tuple #[.int .u64 r1, .int .u64 r2]) ∧ jq w w' := by
 unfold bits_Mul64.f at h
 by_cases hc : (0 ≤ a0 ∧ a0 < B) ∧ 0 ≤ a1 ∧ a1 < B
 rotate_left
 ·
  rw [if_neg hc] at h; cases h
 rw [if_pos hc] at h
 cases h
 obtain ⟨⟨h0, h1⟩, h2, h3⟩ := hc
 obtain ⟨x, rfl⟩ := Int.eq_ofNat_of_zero_le h0
 obtain ⟨y, rfl⟩ := Int.eq_ofNat_of_zero_le h2
 rw [B_eq] at h1 h3
 refine (bits_Mul64.calls_ x y (by omega) (by omega) w).mono fun e w' ⟨he, hw⟩ => ⟨?_, hw ▸ jq.refl w⟩
 rw [he, B_eq]
 simp only [Int.natCast_ediv, Int.natCast_emod, Int.natCast_mul]
 rfl
-- NOT PRINTED: function 147 (bits_Add64)
-- NOT PRINTED: function 151 (limb_sum_1)
set_option maxHeartbeats 4000000 in
theorem jK.cl (gx gc ga i n cap : Nat) (y a b : Int) (w : World) (hx : w.cell? ⟨gx, 0, none⟩ = some (.slice (some ⟨ga, 0, none⟩) n cap)) (hc : w.cell? ⟨gc, 0, none⟩ = some (.int .u64 b)) (ha : w.cell? ⟨ga, i, none⟩ = some (.int .u64 a))
  (hne : gc ≠ ga) (fa : w.frozen? ⟨ga, i, none⟩ = false) (fc : w.frozen? ⟨gc, 0, none⟩ = false) (hi : (i : Int) < (n : Int)) (hb : decide (b ≤ 1) = true) :
  Calls Tryz.prog 151 #[.int .i64 i, .int .u64 y, .pointer (some ⟨gx, 0, none⟩), .pointer (some ⟨gc, 0, none⟩)] w fun e w' => e = .returned (.tuple #[]) ∧ w' = ((w.setCell ⟨ga, i, none⟩ (.int .u64 (ad64 a y b))).setCell ⟨gc, 0, none⟩ (.int .u64 (ac64 a y b))).drew := by
 rw [← World.setCell_drew, ← World.setCell_drew]
 have hi0 : 0 ≤ (i : Int) := by omega
 have fa' : w.drew.frozen? ⟨ga, i, none⟩ = false := fa
 have fc' : w.drew.frozen? ⟨gc, 0, none⟩ = false := fc
 have hx' : w.drew.cell? ⟨gx, 0, none⟩ = some (.slice (some ⟨ga, 0, none⟩) n cap) := hx
 have ha' : w.drew.cell? ⟨ga, i, none⟩ = some (.int .u64 a) := ha
 have hc' : w.drew.cell? ⟨gc, 0, none⟩ = some (.int .u64 b) := hc
 clear fa fc hx ha hc
 go_enter Tryz.func151, Tryz.ntmps151
 refine zw (n := 15) (S := fun w' => w'.cell? ⟨gx, 0, none⟩ = some (.slice (some ⟨ga, 0, none⟩) n cap) ∧ w'.cell? ⟨ga, i, none⟩ = some (.int .u64 a) ∧ w'.cell? ⟨gc, 0, none⟩ = some (.int .u64 b)) (ds := [13, 14]) #[false, false, false, false, false, false, false, false, false, false, false, false, false, false, false] kr_ rfl rfl ⟨hx', ha', hc'⟩ (fun hHeld => ?_)
 generalize w.drew = w1 at fa' fc' hx' ha' hc' hHeld ⊢
 refine pu_ 1 (some 8) (ba_ 15 2) kr_ ?_
 refine pu_ 3 (some 10) (ba_ 15 10) kr_ ?_
 refine pu_ 6 (some 13) (ba_ 15 74) kr_ ?_
 refine tk3_ 0 (some 7) (ba_ 15 75) kr_ hHeld ?_
 refine tk3_ 2 (some 9) (ba_ 15 79) kr_ hHeld ?_
 refine pu_ 4 (some 11) (ba_ 15 95) kr_ ?_
 refine tk3_ 5 (some 12) (ba_ 15 127) kr_ hHeld ?_
 refine tk3_ 7 (some 14) (ba_ 15 255) kr_ hHeld ?_
 refine pu_ 8 (some 15) (ba_ 15 511) kr_ ?_
 refine pu_ 9 (some 6) (ba_ 15 1023) kr_ ?_
 refine pu_ 10 (some 16) (ba_ 15 2047) kr_ ?_
 refine pu_ 11 (some 17) (ba_ 15 4095) kr_ ?_
 refine pu_ 12 (some 18) (ba_ 15 8191) kr_ ?_
 refine jAh (i := 13) (N := none) (ba_ 15 16383) rfl rfl kr_ (by decide) (fun K hK => ?_)
 refine jAq (w1 := ?_) (by rfl) rfl ?_ ?_
 rotate_left
 ·
  go_simp
  rfl
 refine hK.out _ _ ?_
 clear hK K
 refine jAh (i := 14) (N := none) (ba_ 15 32767) rfl rfl kr_ (by decide) (fun K hK => ?_)
 refine jAq (w1 := ?_) (by rfl) rfl ?_ ?_
 rotate_left
 ·
  go_simp
  rfl
 refine hK.out _ _ ?_
 clear hK K
 refine jAR kr_ ?_
 go_wp2
 go_end0
 exact ⟨rfl, rfl⟩
def jK.pad (out : List Int) (n : Nat) : List Int := out ++ List.replicate (n - out.length) 0
def jK.l3 : List Int → List Int → Nat → Int → Option (List Int × Int)
 | [], out, _, c => some (out, c)
 | x :: r, out, i, c => if c ≤ 1 ∧ i < out.length then jK.l3 r (out.set i (ad64 (out.getD i 0) x c)) (i + 1) (ac64 (out.getD i 0) x c) else none
def jK.l4 : Nat → List Int → Nat → Int → Option (List Int)
 | 0, _, _, _ => none
 | k + 1, out, i, c => if 0 < c then (if c ≤ 1 ∧ i ≤ out.length ∧ i < 17592186044415 then jK.l4 k ((jK.pad out (i + 1)).set i (ad64 ((jK.pad out (i + 1)).getD i 0) 0 c)) (i + 1) (ac64 ((jK.pad out (i + 1)).getD i 0) 0 c) else none) else some out
def jK.l1 (k : Nat) : List (List Int) → Nat → List Int → Option (List Int)
 | [], _, out => some out
 | r :: rs, j, out => (jJ.f k r).bind fun t => if j + t.length < 17592186044415 then (jK.l3 t (jK.pad out (j + t.length)) j 0).bind fun p => (jK.l4 k p.1 (j + t.length) p.2).bind fun o => jK.l1 k rs (j + 1) o else none
def jK.f (k : Nat) (l0 : List (List Int)) : Option (List Int) := (jK.l1 k l0 0 []).bind fun o => (jJ.f k o).bind fun t => (jT.f t).bind fun r => some r
theorem jK.jPu : ∀ k o i c, LeO (jK.l4 k o i c) (jK.l4 (k + 1) o i c)
 | 0, _, _, _ => fun r h => by simp [jK.l4] at h
 | k + 1, o, i, c => by
  rw [jK.l4, jK.l4]
  exact LeO.ite (LeO.ite (jK.jPu k _ _ _) (LeO.refl _)) (LeO.refl _)
theorem jK.jPv (k : Nat) : ∀ l j o, LeO (jK.l1 k l j o) (jK.l1 (k + 1) l j o)
 | [], _, _ => LeO.refl _
 | r :: rs, j, o => by
  rw [jK.l1, jK.l1]
  exact LeO.bind (jJ.mono _ _) fun t => LeO.ite (LeO.bind (LeO.refl _) fun p => LeO.bind (jK.jPu _ _ _ _) fun o => jK.jPv k rs _ _) (LeO.refl _)
theorem jK.mono : ∀ a0 k, LeO (jK.f k a0) (jK.f (k + 1) a0) := by
 intro a0 k
 unfold jK.f
 exact LeO.bind (jK.jPv k _ _ _) fun _ => LeO.bind (jJ.mono _ _) fun _ => LeO.refl _
theorem jK.jQh {w : World} {A : Option Addr} {l t : List Int} (h : Kd.C (Kd.int .u64) w A l.length l) (ht : t = l.take t.length) : Kd.C (Kd.int .u64) w A t.length t := by
 have hl : t.length ≤ l.length := by
  have := congrArg List.length ht
  rw [List.length_take] at this
  omega
 have := Kd.jMG h hl
 rw [← ht] at this
 exact this
theorem jK.jMV {out o2 : List Int} (h : o2 = jK.pad out o2.length) (hl : out.length ≤ o2.length) : o2 ++ [0] = jK.pad out (o2.length + 1) := by
 have e : o2.length + 1 - out.length = (o2.length - out.length) + 1 := by omega
 have h2 : o2 ++ [0] = jK.pad out o2.length ++ [0] := congrArg (· ++ [0]) h
 rw [h2]
 unfold jK.pad
 rw [e, List.replicate_succ', List.append_assoc]
theorem jK.jMX {out o2 : List Int} {n : Nat} (h : o2 = jK.pad out o2.length) (_ : out.length ≤ o2.length) (hn : n ≤ o2.length) (hx : o2.length ≤ n ∨ o2.length = out.length) : jK.pad out n = o2 := by
 rcases hx with hx | hx
 ·
  rw [show n = o2.length from by omega]; exact h.symm
 have e1 : n - out.length = 0 := by omega
 have e2 : o2.length - out.length = 0 := by omega
 have h2 : jK.pad out n = jK.pad out o2.length := by unfold jK.pad; rw [e1, e2]
 rw [h2, ← h]
theorem jK.jIN {o : List Int} {i : Nat} (h : i = o.length) : jK.pad o (i + 1) = o ++ [0] := by
 subst h
 unfold jK.pad
 rw [show o.length + 1 - o.length = 1 from by omega]
 rfl
theorem jK.jMW {o : List Int} {i : Nat} (h : i < o.length) : jK.pad o (i + 1) = o := by
 unfold jK.pad
 rw [show i + 1 - o.length = 0 from by omega]
 simp
theorem jK.calls (k : Nat) (A0 : Option Addr) (c0 : Nat) (l0 : List (List Int)) (r : List Int) (w : World) (hr0 : Kd.C (Kd.slice 56 (Kd.int .u64)) w A0 l0.length l0) (hc0 : l0.length ≤ c0) (h : jK.f k l0 = some r) :
  Calls Tryz.prog 148 #[.slice A0 l0.length c0] w fun e w' => ∃ v0_ : Value, e = .returned (v0_) ∧ Kd.R (Kd.int .u64) 56 w' w.heap.size (fun _ => True) v0_ r ∧ Below w.heap.size w w' := by
 have HR0 := jA.mk hr0
 have HC0 := jA.mk hc0
 clear hr0 hc0
 unfold jK.f at h
 replace h := Option.bind_eq_some_iff.mp h
 obtain ⟨o, ho, h⟩ := h
 replace h := Option.bind_eq_some_iff.mp h
 obtain ⟨t, ht, h⟩ := h
 replace h := Option.bind_eq_some_iff.mp h
 obtain ⟨r', hr', h⟩ := h
 obtain rfl := Option.some.inj h
 have HO := jA.mk ho
 have HT := jA.mk ht
 have HR' := jA.mk hr'
 clear ho ht hr' h
 have hmx : (l0.length : Int) ≤ 9223372036854775807 := by have := HR0.out.2.1; omega
 go_enter Tryz.func148, Tryz.ntmps148
 go_wp2_with fail
 go_loopg [13] l0.length (fun kq v13 wr => ∃ (j : Nat) (out : List Int) (vo : Value), v13 = .int .i64 j ∧ jA (j + kq = l0.length) ∧ jA (jK.l1 k (l0.drop j) j out = some o) ∧ jA (wr.heap[w.heap.size]? = some (.cells #[vo] 30 (0, 0))) ∧ jA (Kd.R (Kd.int .u64) 56 wr w.heap.size (fun k_ => k_ ≠ w.heap.size) vo out) ∧ jA (Below w.heap.size w wr))
 case atStart =>
  exact ⟨0, [], _, rfl, ⟨by omega⟩, HO, ⟨vD w _⟩, ⟨Kd.jAS _ _ _ _ _⟩, ⟨jQ (Below.refl _ _) _⟩⟩
 case round =>
  obtain ⟨j, out, vo, rfl, HI, HL, HX, HRo, HB⟩ := hrel
  have hcx : wr.cell? ⟨w.heap.size, 0, none⟩ = some vo := (jB HX.out 0).trans rfl
  obtain ⟨Ao, co, evo⟩ := Kd.vE HRo.out
  subst evo
  cases gk with
  | zero =>
   obtain rfl : j = l0.length := by have := HI.out; omega
   have hl := HL.out
   rw [List.drop_length, jK.l1] at hl
   obtain rfl := Option.some.inj hl
   clear hl
   go_wp2_with fail
   refine (jJ.own k _ _ _ _ out t _ HRo.out HT.out).mono ?_
   rintro e w3 ⟨v, rfl, ho, hb⟩
   obtain ⟨Av, cv, ev⟩ := Kd.vE ho
   subst ev
   have HO4 := jA.mk ho
   have HB4 := jA.mk (jG HB.out hb)
   clear ho hb
   go_wp2_with fail
   refine (jT.calls _ _ t r' _ (Kd.jW HO4.out).2.2 (Kd.jW HO4.out).2.1 HR'.out).mono ?_
   rintro e w4 ⟨v, rfl, ho, hb⟩
   have HO5 := jA.mk ho
   have HB5 := jA.mk (jG HB4.out hb)
   have HB6 := HB4
   clear ho hb
   go_wp2
   go_ret
   exact ⟨_, rfl, Kd.jk HO5.out (jE HB6.out), HB5.out⟩
  | succ d =>
   have hjl : j < l0.length := by have := HI.out; omega
   obtain ⟨ad, cs, e1, hcl, hK, hcs⟩ := Kd.jJk HR0.out [] (j : Int) (by omega) (by omega)
   cases e1
   obtain ⟨Ar, cr, ecs, hrl, hC⟩ := hK
   subst ecs
   rw [Int.toNat_natCast] at hrl hC hcs
   obtain ⟨row, hrow⟩ : ∃ row, l0.getD j [] = row := ⟨_, rfl⟩
   rw [hrow] at hrl hC hcs
   have hcell0 := hcs 0 _ rfl
   rw [show j * (Kd.slice 56 (Kd.int .u64)).sz + 0 = j from by show j * 1 + 0 = j; omega] at hcell0
   have hcell := (HB.out.cell (World.block_lt_of_cell? w _ hcell0)).trans hcell0
   clear hcell0
   have hl := HL.out
   rw [List.drop_eq_getElem_cons hjl] at hl
   have hrow2 : l0[j] = row := by rw [← hrow, List.getD_eq_getElem?_getD, List.getElem?_eq_getElem hjl]; rfl
   rw [hrow2, jK.l1] at hl
   replace hl := Option.bind_eq_some_iff.mp hl
   obtain ⟨tr, htr, hl⟩ := hl
   have HTR := jA.mk htr
   have HLR := jA.mk hl
   have HRC := jA.mk hC
   have HRL := jA.mk hrl
   have HROW := jA.mk hrow
   clear htr hl hC hrl hrow hrow2 hcs hcl
   have hjl' : (j : Int) < (l0.length : Int) := by omega
   have hj0 : (0 : Int) ≤ (j : Int) := by omega
   go_wp2_with fail
   refine (jJ.read k Ar cr row tr wr (Kd.vQ HRC.out HB.out) HRL.out HTR.out).mono ?_
   rintro e w1 ⟨rfl, htk, rfl⟩
   have HTC := jA.mk (jK.jQh HRC.out htk)
   have HTK := jA.mk htk
   clear htk hcell
   have HLR2 := HLR.out
   by_cases hbd : j + tr.length < 17592186044415
   rotate_left
   ·
    rw [if_neg hbd] at HLR2
    cases HLR2
   rw [if_pos hbd] at HLR2
   replace HLR2 := Option.bind_eq_some_iff.mp HLR2
   obtain ⟨p, hp3, HLR2⟩ := HLR2
   replace HLR2 := Option.bind_eq_some_iff.mp HLR2
   obtain ⟨o4, hp4, HLR2⟩ := HLR2
   have HP3 := jA.mk hp3
   have HP4 := jA.mk hp4
   have HP1 := jA.mk HLR2
   clear hp3 hp4 HLR2 HLR
   go_wp2_with fail
   go_loopg [] (j + tr.length - out.length) (fun kq wr2 => ∃ (out2 : List Int) (vo2 : Value), jA (out2 = jK.pad out out2.length ∧ out.length ≤ out2.length ∧ kq = j + tr.length - out2.length ∧ (out2.length ≤ j + tr.length ∨ out2.length = out.length)) ∧ jA (wr2.heap[w.heap.size]? = some (.cells #[vo2] 30 (0, 0))) ∧ jA (Kd.R (Kd.int .u64) 56 wr2 w.heap.size (fun k_ => k_ ≠ w.heap.size) vo2 out2) ∧ jA (Below w.heap.size w wr2))
   case atStart => exact ⟨out, _, ⟨by simp [jK.pad], Nat.le_refl _, rfl, .inr rfl⟩, HX, HRo, HB⟩
   case round =>
    obtain ⟨out2, vo2, HN, HX, HRo, HB⟩ := hrel
    obtain ⟨Ao2, co2, evo⟩ := Kd.vE HRo.out
    subst evo
    have hcx2 : wr.cell? ⟨w.heap.size, 0, none⟩ = some (.slice Ao2 out2.length co2) := (jB HX.out 0).trans rfl
    by_cases hlt : out2.length < j + tr.length
    ·
     have hlt' : (out2.length : Int) < (j : Int) + (tr.length : Int) := by omega
     have HBD := jA.mk hbd
     go_wp2_with ((with_reducible refine zi (b := .append) (xs := #[.tmp 27, .tmp 28]) rfl ?_); at_builtin; refine Kd.jBJ (Kd.int .u64) (w0 := w) w.heap.size rfl (.tmp 27) (.tmp 28) 30 56 (.int .u64 0) 8 rfl Tryz.underlying30 jAL rfl (by decide) (by omega) (.slice Ao2 out2.length co2) out2 0 [.int .u64 0] (fun k_ => k_ ≠ w.heap.size) (fun _ => False) rfl rfl ?aP (fun _ hk => hk.elim) ?aF ?aO ?aB ?aS ?aL ?_)
     case aP => exact rfl
     case aF => exact fun k_ hk => by have := jE HB.out; have := qG HX.out; omega
     case aO => exact HRo.out
     case aB => exact HB.out
     case aS => exact jE HB.out
     case aL => have := HBD.out; omega
     intro v1 w1 ho hb hg hat
     clear hat
     obtain ⟨out3, h3⟩ : ∃ l : List Int, l = out2 ++ [0] := ⟨_, rfl⟩
     rw [← h3] at ho
     have hl3 : out3.length = out2.length + 1 := by rw [h3]; simp
     have HN3 := jA.mk (show out3 = jK.pad out out3.length ∧ out.length ≤ out3.length ∧ out3.length ≤ j + tr.length ∧ j + tr.length - out3.length < gk from by
      obtain ⟨h1, h2, h4, h5⟩ := HN.out
      refine ⟨?_, by omega, by omega, by omega⟩
      rw [hl3, h3]
      exact jK.jMV h1 h2)
     clear h3 hl3 hlt HN
     obtain ⟨Av1, cv1, ev1⟩ := Kd.vE ho
     subst ev1
     have HX1 := jA.mk (jAy HX.out hg (fun e_ => HRo.out.1 _ e_.symm rfl))
     have HO1 := jA.mk ho
     have HB1 := jA.mk hb
     clear ho hb hg
     have hcx3 : w1.cell? ⟨w.heap.size, 0, none⟩ = some (.slice Ao2 out2.length co2) := (jB HX1.out 0).trans rfl
     have hfx3 : w1.frozen? ⟨w.heap.size, 0, none⟩ = false := jP HX1.out 0
     go_wp2
     go_roundg (j + tr.length - out3.length)
     case measure => exact HN3.out.2.2.2
     case rel =>
      exact ⟨out3, _, ⟨HN3.out.1, HN3.out.2.1, rfl, .inl HN3.out.2.2.1⟩, ⟨jM HX1.out 0 _ rfl⟩, ⟨Kd.qU HO1.out (fun _ hk => hk) _⟩, ⟨vP HB1.out (Nat.le_refl _)⟩⟩
    have hlt' : ¬ (out2.length : Int) < (j : Int) + (tr.length : Int) := by omega
    obtain ⟨wp, rfl⟩ : ∃ wp : World, wp = wr := ⟨_, rfl⟩
    have HP3' := jA.mk (show jK.l3 (tr.drop 0) out2 (j + 0) 0 = some p from by
     obtain ⟨h1, h2, h3, h4⟩ := HN.out
     have h5 := HP3.out
     rw [jK.jMX h1 h2 (by omega) h4] at h5
     exact h5)
    have hwb : w.heap.size ≤ wp.heap.size := jE HB.out
    have hwx : w.heap.size < wp.heap.size := qG HX.out
    have HWB := jA.mk (And.intro hwb hwx)
    have HBD := jA.mk hbd
    clear hwb hwx hlt HN
    have htl : (tr.length : Int) ≤ 9223372036854775807 := by have := HTC.out.2.1; omega
    go_wp2_with fail
    go_loopg [33] tr.length (fun kq v33 wr => ∃ (i : Nat) (oi : List Int) (ci : Int), v33 = .int .i64 i ∧ jA (i + kq = tr.length) ∧ jA (jK.l3 (tr.drop i) oi (j + i) ci = some p) ∧ jA (wr.heap[w.heap.size]? = some (.cells #[.slice Ao2 out2.length co2] 30 (0, 0))) ∧ jA (wr.heap[wp.heap.size]? = some (.cells #[.int .u64 ci] 56 (0, 0))) ∧ jA (Kd.R (Kd.int .u64) 56 wr w.heap.size (fun k_ => k_ ≠ w.heap.size ∧ k_ ≠ wp.heap.size) (.slice Ao2 out2.length co2) oi) ∧ jA (Below w.heap.size w wr))
    case atStart =>
     refine ⟨0, out2, 0, rfl, ⟨by omega⟩, HP3', ⟨jO HX.out _⟩, ⟨vD wp _⟩, ⟨Kd.qO (Kd.vB (Kd.zC HRo.out) (fun k_ hk => ⟨hk.1, ?_⟩)) _⟩, ⟨jQ HB.out _⟩⟩
     have := hk.2.2.1
     omega
    case round =>
     clear HX HRo HB HP3' hcx2
     obtain ⟨i, oi, ci, rfl, HI3, HL3, HX, HXc, HRo, HB⟩ := hrel
     have hcc : wr.cell? ⟨wp.heap.size, 0, none⟩ = some (.int .u64 ci) := (jB HXc.out 0).trans rfl
     have hcx : wr.cell? ⟨w.heap.size, 0, none⟩ = some (.slice Ao2 out2.length co2) := (jB HX.out 0).trans rfl
     have hfc : wr.frozen? ⟨wp.heap.size, 0, none⟩ = false := jP HXc.out 0
     cases gk with
     | succ d3 =>
      have hitr : i < tr.length := by have := HI3.out; omega
      have hl := HL3.out
      have hgi : tr.getD i 0 = tr[i] := by rw [List.getD_eq_getElem?_getD, List.getElem?_eq_getElem hitr]; rfl
      rw [List.drop_eq_getElem_cons hitr, ← hgi, jK.l3] at hl
      by_cases hcd : ci ≤ 1 ∧ j + i < oi.length
      ·
       rw [if_pos hcd] at hl
       have HL4 := jA.mk hl
       have hb1 : decide (ci ≤ 1) = true := decide_eq_true hcd.1
       have hol : oi.length = out2.length := (Kd.jW HRo.out).1.symm
       obtain ⟨ga, ca, ea, hga0, hga1, cells, hga2⟩ := Kd.jAg HRo.out (by omega)
       injection ea with ea_ en_ ec_
       subst ea_
       subst ec_
       have hgn := HRo.out.1 ga rfl
       have hne : wp.heap.size ≠ ga := fun e_ => hgn.2 e_.symm
       have HN := jA.mk (show w.heap.size ≠ ga ∧ wp.heap.size ≠ ga ∧ w.heap.size ≤ ga from ⟨fun e_ => hgn.1 e_.symm, hne, hga0⟩)
       obtain ⟨hca, hfa⟩ := Kd.qI 0 HRo.out ((j + i : Nat) : Int) (by omega) (by omega)
       rw [Int.toNat_natCast] at hca hfa
       replace hca : wr.cell? ⟨ga, j + i, none⟩ = some (.int .u64 (oi.getD (j + i) 0)) := hca
       obtain ⟨adr, e1, hcb⟩ := Kd.vS HTC.out (i : Int) (by omega) (by omega)
       cases e1
       replace hcb := (HB.out.cell (World.block_lt_of_cell? w _ hcb)).trans hcb
       rw [Int.toNat_natCast] at hcb
       have hin : ((j + i : Nat) : Int) < (out2.length : Int) := by omega
       have hit : (i : Int) < (tr.length : Int) := by omega
       have hsum : (j : Int) + (i : Int) < 17592186044415 := by have := HBD.out; omega
       have HST := jA.mk (jBa (i := j + i) (s := ad64 (oi.getD (j + i) 0) (rd tr (i : Int)) ci) (c' := ac64 (oi.getD (j + i) 0) (rd tr (i : Int)) ci) HX.out HXc.out HRo.out HB.out HN.out.1 HN.out.2.1 (by have := HWB.out.2; omega) HN.out.2.2 HWB.out.1 (fun k_ hk => hk.2))
       clear hgn hga0 hga1 hga2 cells en_ hl hcd hgi hol hitr
       go_wp2_with fail
       rw [show (j : Int) + (i : Int) = ((j + i : Nat) : Int) from by omega]
       refine (jK.cl w.heap.size wp.heap.size ga (j + i) out2.length co2 (rd tr (i : Int)) (oi.getD (j + i) 0) ci wr hcx hcc hca hne hfa hfc hin hb1).mono ?_
       rintro e w' ⟨rfl, rfl⟩
       go_wp2
       go_roundg d3
       case measure => omega
       case rel => exact ⟨i + 1, _, _, by go_num, ⟨by have := HI3.out; omega⟩, HL4, ⟨HST.out.1⟩, ⟨HST.out.2.1⟩, ⟨HST.out.2.2.1⟩, ⟨HST.out.2.2.2⟩⟩
      ·
       rw [if_neg hcd] at hl
       cases hl
     | zero =>
      obtain rfl : i = tr.length := by have := HI3.out; omega
      have hl := HL3.out
      rw [List.drop_length, jK.l3] at hl
      obtain rfl := Option.some.inj hl
      clear hl
      have hjt : (j : Int) + (tr.length : Int) < 17592186044415 := by have := HBD.out; omega
      obtain ⟨i0, hi0⟩ : ∃ i0, i0 = j + tr.length := ⟨_, rfl⟩
      have HP4' := jA.mk (show jK.l4 k oi i0 ci = some o4 from hi0 ▸ HP4.out)
      go_wp2_with fail
      rw [show (j : Int) + (tr.length : Int) = ((i0 : Nat) : Int) from by omega]
      clear hi0 hjt htl hcc hcx hfc
      go_loopg [10] k (fun kq v10 wr => ∃ (i4 : Nat) (o : List Int) (c : Int) (vo : Value), v10 = .int .i64 i4 ∧ jA (jK.l4 kq o i4 c = some o4) ∧ jA (wr.heap[w.heap.size]? = some (.cells #[vo] 30 (0, 0))) ∧ jA (wr.heap[wp.heap.size]? = some (.cells #[.int .u64 c] 56 (0, 0))) ∧ jA (Kd.R (Kd.int .u64) 56 wr w.heap.size (fun k_ => k_ ≠ w.heap.size ∧ k_ ≠ wp.heap.size) vo o) ∧ jA (Below w.heap.size w wr))
      case atStart => exact ⟨i0, oi, ci, _, rfl, HP4', HX, HXc, HRo, HB⟩
      case round =>
       clear HX HXc HRo HB HP4'
       obtain ⟨i4, o, c, vo, rfl, HL4, HX, HXc, HRo, HB⟩ := hrel
       obtain ⟨Ao4, co4, evo⟩ := Kd.vE HRo.out
       subst evo
       have hcc : wr.cell? ⟨wp.heap.size, 0, none⟩ = some (.int .u64 c) := (jB HXc.out 0).trans rfl
       have hcx : wr.cell? ⟨w.heap.size, 0, none⟩ = some (.slice Ao4 o.length co4) := (jB HX.out 0).trans rfl
       have hfc : wr.frozen? ⟨wp.heap.size, 0, none⟩ = false := jP HXc.out 0
       cases gk with
       | zero => exact absurd HL4.out (by simp [jK.l4])
       | succ k4 =>
        have hl := HL4.out
        rw [jK.l4] at hl
        by_cases hc0 : 0 < c
        rotate_left
        ·
         rw [if_neg hc0] at hl
         have hcb0 : decide (0 < c) = false := decide_eq_false hc0
         have HE := jA.mk (Option.some.inj hl)
         clear hl hc0 HL4
         go_wp2
         go_roundg d
         case measure => omega
         case rel => exact ⟨j + 1, o, _, by go_num, ⟨by have := HI.out; omega⟩, ⟨by rw [HE.out]; exact HP1.out⟩, HX, ⟨Kd.vB HRo.out (fun _ hk => hk.1)⟩, HB⟩
        rw [if_pos hc0] at hl
        have hcb0 : decide (0 < c) = true := decide_eq_true hc0
        by_cases hcd : c ≤ 1 ∧ i4 ≤ o.length ∧ i4 < 17592186044415
        rotate_left
        ·
         rw [if_neg hcd] at hl
         cases hl
        rw [if_pos hcd] at hl
        have hb1 : decide (c ≤ 1) = true := decide_eq_true hcd.1
        have hi4 : (i4 : Int) < 17592186044415 := by have := hcd.2.2; omega
        by_cases heq : i4 = o.length
        rotate_left
        ·
         have hlt4 : i4 < o.length := by have := hcd.2.1; omega
         rw [jK.jMW hlt4] at hl
         have heb : ((i4 : Int) == (o.length : Int)) = false := beq_eq_false_iff_ne.mpr (by omega)
         have heb2 : (i4 == o.length) = false := beq_eq_false_iff_ne.mpr heq
         have HL5 := jA.mk hl
         obtain ⟨ga, ca, ea, hga0, hga1, cells, hga2⟩ := Kd.jAg HRo.out (by omega)
         injection ea with ea_ en_ ec_
         subst ea_
         subst ec_
         have hgn := HRo.out.1 ga rfl
         have hne : wp.heap.size ≠ ga := fun e_ => hgn.2 e_.symm
         have HN := jA.mk (show w.heap.size ≠ ga ∧ wp.heap.size ≠ ga ∧ w.heap.size ≤ ga from ⟨fun e_ => hgn.1 e_.symm, hne, hga0⟩)
         obtain ⟨hca, hfa⟩ := Kd.qI 0 HRo.out (i4 : Int) (by omega) (by omega)
         rw [Int.toNat_natCast] at hca hfa
         replace hca : wr.cell? ⟨ga, i4, none⟩ = some (.int .u64 (o.getD i4 0)) := hca
         have hin : (i4 : Int) < (o.length : Int) := by omega
         have HST := jA.mk (jBa (i := i4) (s := ad64 (o.getD i4 0) 0 c) (c' := ac64 (o.getD i4 0) 0 c) HX.out HXc.out HRo.out HB.out HN.out.1 HN.out.2.1 (by have := HWB.out.2; omega) HN.out.2.2 HWB.out.1 (fun k_ hk => hk.2))
         clear hgn hga0 hga1 hga2 cells en_ hl hcd hc0 heq hlt4 HL4
         go_wp2_with fail
         refine (jK.cl w.heap.size wp.heap.size ga i4 o.length co4 0 (o.getD i4 0) c wr hcx hcc hca hne hfa hfc hin hb1).mono ?_
         rintro e w' ⟨rfl, rfl⟩
         go_wp2
         go_roundg k4
         case measure => omega
         case rel => exact ⟨i4 + 1, _, _, _, by go_num, HL5, ⟨HST.out.1⟩, ⟨HST.out.2.1⟩, ⟨HST.out.2.2.1⟩, ⟨HST.out.2.2.2⟩⟩
        rw [jK.jIN heq] at hl
        have heb : ((i4 : Int) == (o.length : Int)) = true := by rw [heq]; simp
        have heb2 : (i4 == o.length) = true := by rw [heq]; simp
        obtain ⟨o5, ho5⟩ : ∃ l : List Int, l = o ++ [0] := ⟨_, rfl⟩
        rw [← ho5] at hl
        have hol5 : o5.length = o.length + 1 := by rw [ho5]; simp
        have HL5 := jA.mk hl
        have HEQ := jA.mk (show i4 < o5.length ∧ o5.length = o.length + 1 ∧ o.length < 17592186044415 from ⟨by omega, hol5, by omega⟩)
        have HO5 := jA.mk ho5
        clear hl ho5 hol5 hcd hc0 heq HL4
        go_wp2_with ((with_reducible refine zi (b := .append) (xs := #[.tmp 57, .tmp 58]) rfl ?_); at_builtin; refine Kd.jBJ (Kd.int .u64) (w0 := w) w.heap.size rfl (.tmp 57) (.tmp 58) 30 56 (.int .u64 0) 8 rfl Tryz.underlying30 jAL rfl (by decide) (by omega) (.slice Ao4 o.length co4) o 0 [.int .u64 0] (fun k_ => k_ ≠ w.heap.size ∧ k_ ≠ wp.heap.size) (fun _ => False) rfl rfl ?bP (fun _ hk => hk.elim) ?bF ?bO ?bB ?bS ?bL ?_)
        case bP => exact rfl
        case bF => exact fun k_ hk => by have := qG HX.out; have := qG HXc.out; omega
        case bO => exact HRo.out
        case bB => exact HB.out
        case bS => exact jE HB.out
        case bL => have := HEQ.out; omega
        intro v1 w1 ho hb hg hat
        clear hat
        rw [← HO5.out] at ho
        obtain ⟨Av1, cv1, ev1⟩ := Kd.vE ho
        subst ev1
        have HX1 := jA.mk (jAy HX.out hg (fun e_ => (HRo.out.1 _ e_.symm).1 rfl))
        have HXc1 := jA.mk (jAy HXc.out hg (fun e_ => (HRo.out.1 _ e_.symm).2 rfl))
        have HR1 := jA.mk ho
        have HB1 := jA.mk hb
        clear ho hb hg
        have hcx3 : w1.cell? ⟨w.heap.size, 0, none⟩ = some (.slice Ao4 o.length co4) := (jB HX1.out 0).trans rfl
        have hfx3 : w1.frozen? ⟨w.heap.size, 0, none⟩ = false := jP HX1.out 0
        go_wp2_with fail
        have HX2 := jA.mk (jM (cs' := #[.slice Av1 o5.length cv1]) HX1.out 0 (.slice Av1 o5.length cv1) rfl)
        have HXc2 := jA.mk (jV HXc1.out (p := ⟨w.heap.size, 0, none⟩) (by have := HWB.out.2; simp; omega) (.slice Av1 o5.length cv1))
        have HR2 := jA.mk (Kd.qU HR1.out (p := ⟨w.heap.size, 0, none⟩) (fun _ hk => hk.1) (.slice Av1 o5.length cv1))
        have HB2 := jA.mk (vP (j := 0) (v := .slice Av1 o5.length cv1) HB1.out (Nat.le_refl w.heap.size))
        generalize w1.setCell ⟨w.heap.size, 0, none⟩ (.slice Av1 o5.length cv1) = w2 at HX2 HXc2 HR2 HB2 ⊢
        clear HX1 HXc1 HR1 HB1 hcx3 hfx3 HX HXc HRo HB hcc hcx hfc
        have hcc : w2.cell? ⟨wp.heap.size, 0, none⟩ = some (.int .u64 c) := (jB HXc2.out 0).trans rfl
        have hcx : w2.cell? ⟨w.heap.size, 0, none⟩ = some (.slice Av1 o5.length cv1) := (jB HX2.out 0).trans rfl
        have hfc : w2.frozen? ⟨wp.heap.size, 0, none⟩ = false := jP HXc2.out 0
        obtain ⟨ga, ca, ea, hga0, hga1, cells, hga2⟩ := Kd.jAg HR2.out (by have := HEQ.out.1; omega)
        injection ea with ea_ en_ ec_
        subst ea_
        subst ec_
        have hgn := HR2.out.1 ga rfl
        have hne : wp.heap.size ≠ ga := fun e_ => hgn.2 e_.symm
        have HN := jA.mk (show w.heap.size ≠ ga ∧ wp.heap.size ≠ ga ∧ w.heap.size ≤ ga from ⟨fun e_ => hgn.1 e_.symm, hne, hga0⟩)
        obtain ⟨hca, hfa⟩ := Kd.qI 0 HR2.out (i4 : Int) (by omega) (by have := HEQ.out.1; omega)
        rw [Int.toNat_natCast] at hca hfa
        replace hca : w2.cell? ⟨ga, i4, none⟩ = some (.int .u64 (o5.getD i4 0)) := hca
        have hin : (i4 : Int) < (o5.length : Int) := by have := HEQ.out.1; omega
        have HST := jA.mk (jBa (i := i4) (s := ad64 (o5.getD i4 0) 0 c) (c' := ac64 (o5.getD i4 0) 0 c) HX2.out HXc2.out HR2.out HB2.out HN.out.1 HN.out.2.1 (by have := HWB.out.2; omega) HN.out.2.2 HWB.out.1 (fun k_ hk => hk.2))
        clear hgn hga0 hga1 hga2 cells en_
        refine (jK.cl w.heap.size wp.heap.size ga i4 o5.length cv1 0 (o5.getD i4 0) c w2 hcx hcc hca hne hfa hfc hin hb1).mono ?_
        rintro e w' ⟨rfl, rfl⟩
        go_wp2
        go_roundg k4
        case measure => omega
        case rel => exact ⟨i4 + 1, _, _, _, by go_num, HL5, ⟨HST.out.1⟩, ⟨HST.out.2.1⟩, ⟨HST.out.2.2.1⟩, ⟨HST.out.2.2.2⟩⟩
mutual
def jZ.l0 : Nat → List Int → List (List Int) → List Int → Int → Int → Option (List Int)
 | 0, _, _, _, _, _ => none
 | k + 1, x1, x5, x19, x20, x21 => if x21 < x20 then (if 0 ≤ x21 then (if x21 < (x19.length : Int) then (if 0 ≤ (wrap64 ((x1.length : Int) + 1)) then (if (wrap64 ((x1.length : Int) + 1) : Int).toNat ≤ 35184372088832 then (jZ.l1 k x1 x5 (rd x19 x21) (List.replicate (wrap64 ((x1.length : Int) + 1) : Int).toNat 0) 0 x19 x20 x21 x1 (x1.length : Int) 0) else (none)) else (none)) else (none)) else (none)) else ((jK.f k x5).bind fun t191 => (some t191))
def jZ.l1 : Nat → List Int → List (List Int) → Int → List Int → Int → List Int → Int → Int → List Int → Int → Int → Option (List Int)
 | 0, _, _, _, _, _, _, _, _, _, _, _ => none
 | k + 1, x1, x5, x7, x8, x9, x19, x20, x21, x29, x30, x31 => if x31 < x30 then (if 0 ≤ x31 then (if x31 < (x29.length : Int) then ((bits_Mul64.f x7 (rd x29 x31)).bind fun bt199 => (if x31 < (x8.length : Int) then (jZ.l1 k x1 x5 x7 (x8.set (x31 : Int).toNat (ad64 bt199.2 x9 0)) (IntKind.u64.wrap (bt199.1 + (ac64 bt199.2 x9 0))) x19 x20 x21 x29 x30 (wrap64 (x31 + 1))) else (none))) else (none)) else (none)) else (if 0 ≤ (x1.length : Int) then (if (x1.length : Int) < (x8.length : Int) then (if x5.length < 5864062014805 then (jZ.l0 k x1 (x5 ++ [(x8.set ((x1.length : Int) : Int).toNat x9)]) x19 x20 (wrap64 (x21 + 1))) else (none)) else (none)) else (none))
end
def jZ.f (k : Nat) (l0 : List Int) (l1 : List Int) : Option (List Int) := (jJ.f k l1).bind fun t185 => ((jJ.f k l0).bind fun t188 => (jZ.l0 k t185 ([] : List (List Int)) t188 (t188.length : Int) 0))
theorem jZ.zY : ∀ k, (∀ y0 y1 y2 y3 y4, LeO (jZ.l0 k y0 y1 y2 y3 y4) (jZ.l0 (k + 1) y0 y1 y2 y3 y4)) ∧ (∀ y0 y1 y2 y3 y4 y5 y6 y7 y8 y9 y10, LeO (jZ.l1 k y0 y1 y2 y3 y4 y5 y6 y7 y8 y9 y10) (jZ.l1 (k + 1) y0 y1 y2 y3 y4 y5 y6 y7 y8 y9 y10))
 | 0 => ⟨fun _ _ _ _ _ r h => by simp [jZ.l0] at h, fun _ _ _ _ _ _ _ _ _ _ _ r h => by simp [jZ.l1] at h⟩
 | k + 1 => by
  obtain ⟨ih0, ih1⟩ := jZ.zY k
  refine ⟨?_, ?_⟩ <;> (intros; first | unfold jZ.l0 | unfold jZ.l1) <;> repeat' first
   | (with_reducible exact ih0 _ _ _ _ _)
   | (with_reducible exact ih1 _ _ _ _ _ _ _ _ _ _ _)
   | (with_reducible exact jK.mono _ _)
   | (with_reducible exact jJ.mono _ _)
   | (with_reducible exact LeO.refl _)
   | (with_reducible exact LeO.none _)
   | (with_reducible refine LeO.ite ?_ ?_)
   | (with_reducible refine LeO.bind ?_ (fun _ => ?_))
theorem jZ.mono : ∀ a0 a1 k, LeO (jZ.f k a0 a1) (jZ.f (k + 1) a0 a1) := by
 intro a0 a1 k
 obtain ⟨ih0, ih1⟩ := jZ.zY k
 unfold jZ.f
 repeat' first
   | (with_reducible exact ih0 _ _ _ _ _)
   | (with_reducible exact ih1 _ _ _ _ _ _ _ _ _ _ _)
   | (with_reducible exact jK.mono _ _)
   | (with_reducible exact jJ.mono _ _)
   | (with_reducible exact LeO.refl _)
   | (with_reducible exact LeO.none _)
   | (with_reducible refine LeO.ite ?_ ?_)
   | (with_reducible refine LeO.bind ?_ (fun _ => ?_))
theorem jZ.calls (k : Nat) (A0 : Option Addr) (c0 : Nat) (l0 : List Int) (A1 : Option Addr) (c1 : Nat) (l1 : List Int) (r : List Int) (w : World) (hr0 : Kd.C (Kd.int .u64) w A0 l0.length l0) (hc0 : l0.length ≤ c0) (hr1 : Kd.C (Kd.int .u64) w A1 l1.length l1) (hc1 : l1.length ≤ c1) (h : jZ.f k l0 l1 = some r) :
  Calls Tryz.prog 144 #[.slice A0 l0.length c0, .slice A1 l1.length c1] w fun e w' => ∃ v0_ : Value, e = .returned (v0_) ∧ Kd.R (Kd.int .u64) 56 w' w.heap.size (fun _ => True) v0_ r ∧ Below w.heap.size w w' := by
 have HR0 := jA.mk hr0
 have HC0 := jA.mk hc0
 clear hr0 hc0
 have HR1 := jA.mk hr1
 have HC1 := jA.mk hc1
 clear hr1 hc1
 have HB := jA.mk (Below.refl w.heap.size w)
 have H : ((jJ.f k l1).bind fun t185 => ((jJ.f k l0).bind fun t188 => (jZ.l0 k t185 ([] : List (List Int)) t188 (t188.length : Int) 0))) = some r := h
 clear h
 obtain ⟨t185, A3, H⟩ := oc_ H
 try dsimp only at H
 obtain ⟨t188, A4, H⟩ := oc_ H
 try dsimp only at H
 have H' := jA.mk H
 clear H
 go_enter Tryz.func144, Tryz.ntmps144
 go_wp2_with (first | ((with_reducible refine jL (f := 136) rfl ?_); refine gl_ (some 17) Tryz.func136 #[.slice A1 l1.length c1] ?_; (with_reducible refine (jJ.calls k (fun k_ => k_ < w.heap.size) _ _ l1 t185 _ ?side1 A3.out).mono ?_); (case side1 => exact Kd.V_mk HC1.out (Kd.zD (Kd.C_F (Kd.vJ .u64) HR1.out) (bb_ HB))); rintro e w5 ⟨v186, rfl, ho0, hb⟩; refine ⟨_, rfl, ?_⟩; have HO187 := jA.mk (Kd.zI (Kd.zF (ok' := fun k_ => True) ho0 (fun k_ hk_ => trivial)) (jE (bb_ HB))); replace HB := bs_ HB hb) | ((with_reducible refine jL (f := 136) rfl ?_); refine gl_ (some 19) Tryz.func136 #[.slice A0 l0.length c0] ?_; (with_reducible refine (jJ.calls k (fun k_ => k_ < w.heap.size) _ _ l0 t188 _ ?side1 A4.out).mono ?_); (case side1 => exact Kd.V_mk HC0.out (Kd.zD (Kd.C_F (Kd.vJ .u64) HR0.out) (bb_ HB))); rintro e w6 ⟨v189, rfl, ho0, hb⟩; refine ⟨_, rfl, ?_⟩; replace HO187 := jA.mk (Kd.jAG (rV_ HO187) hb); have HO190 := jA.mk (Kd.zI (Kd.zF (ok' := fun k_ => True) ho0 (fun k_ hk_ => trivial)) (jE (bb_ HB))); replace HB := bs_ HB hb; obtain ⟨Ao7, co7, rfl⟩ := Kd.vX HO190.out))
 go_loopg [5, 21] k (fun kq v5 v21 w' => ∃ (x1_1 : List Int) (x5_1 : List (List Int)) (x19_1 : List Int) (x21_1 : Int), v21 = .int .i64 x21_1 ∧ jA (jZ.l0 kq x1_1 x5_1 x19_1 (t188.length : Int) x21_1 = some r) ∧ jA (kq ≤ k) ∧ jA (Kd.V (Kd.int .u64) 56 w' w.heap.size (fun k_ => some k_ ≠ (v5 : Value).ownBlock) v186 x1_1) ∧ jA (Kd.S (Kd.slice 56 (Kd.int .u64)) 30 w' w.heap.size (fun _ => True) v5 x5_1) ∧ jA (Kd.V (Kd.int .u64) 56 w' w.heap.size (fun k_ => some k_ ≠ (v5 : Value).ownBlock) (.slice Ao7 t188.length co7) x19_1) ∧ jA (Below w.heap.size w w'))
 case atStart => exact ⟨(t185), (([] : List (List Int))), (t188), (0), sd_, H', ⟨Nat.le_refl _⟩, ⟨by (with_reducible repeat (first | apply Kd.jFm | apply Kd.jFl | apply Kd.jGx)); exact Kd.zF HO187.out (fun _ hk => (by simp [Value.ownBlock]))⟩, ⟨by first | exact Kd.jQt _ _ _ _ _ | exact Kd.jRD _ _ _ _ _ | exact Kd.jQr _ _ _ _ _ | exact Kd.jRC _ _ _ _ _ | exact Kd.jAS _ _ _ _ _⟩, ⟨by (with_reducible repeat (first | apply Kd.jFm | apply Kd.jFl | apply Kd.jGx)); exact Kd.zF HO190.out (fun _ hk => (by simp [Value.ownBlock]))⟩, ⟨(bb_ HB)⟩⟩
 case round =>
  clear H'
  try clear c1
  try clear p2
  obtain ⟨x1_1, x5_1, x19_1, x21_1, rfl, HA, HK1, HO_1, HO_5, HO_19, HB⟩ := hrel
  have hl19_1 := (Kd.vT HO_19.out).1
  rw [hl19_1] at HO_19
  (try simp only [hl19_1])
  (try simp only [hl19_1] at HO_1)
  (try simp only [hl19_1] at HO_5)
  cases gk with
  | zero => exact absurd HA.out (by simp [jZ.l0])
  | succ k1 =>
   have H := HA.out
   clear HA
   simp only [jZ.l0] at H
   by_cases c8 : x21_1 < (t188.length : Int)
   rotate_left
   ·
    rw [if_neg c8] at H
    have c8b0 := decide_eq_false c8
    (try simp only [hl19_1] at c8b0)
    clear c8
    replace H := ob_ H
    obtain ⟨t191, A320, H⟩ := H
    replace H : (some t191) = some r := H
    have A32 := jA.mk A320
    clear A320
    obtain rfl := Option.some.inj H
    obtain ⟨Ao33, co33, eo33⟩ := Kd.jOy HO_5.out
    subst eo33
    go_wp2_with (first | ((with_reducible refine jL (f := 148) rfl ?_); refine gl_ (some 67) Tryz.func148 #[.slice Ao33 x5_1.length co33] ?_; (with_reducible refine (jK.calls k1 _ _ x5_1 t191 _ ?side1 ?side2 A32.out).mono ?_); (case side1 => repeat (first | exact (Kd.jIq HO_5.out).2.2 | (with_reducible refine Kd.jAH ?_ _) | (with_reducible refine Kd.jBM ?_ _) | (with_reducible refine Kd.jDF ?_))); (case side2 => exact (Kd.jIq HO_5.out).2.1); rintro e w34 ⟨v192, rfl, ho0, hb⟩; refine ⟨_, rfl, ?_⟩; replace HO_1 := jA.mk (Kd.qx (rV_ HO_1) (Kd.qM ho0) hb); replace HO_5 := jA.mk (Kd.jIr (rS_ HO_5) (Kd.qM ho0) hb); replace HO_19 := jA.mk (Kd.qx (rV_ HO_19) (Kd.qM ho0) hb); have HO193 := jA.mk (Kd.jk ho0 (jE (bb_ HB))); replace HB := bs_ HB hb))
    go_ret
    exact ⟨_, ew_, (rR_ HO193), (bb_ HB)⟩
   rw [if_pos c8] at H
   have c8b0 := decide_eq_true c8
   (try simp only [hl19_1] at c8b0)
   clear c8
   by_cases c9 : 0 ≤ x21_1
   rotate_left
   ·
    rw [if_neg c9] at H
    exact absurd H (by simp)
   rw [if_pos c9] at H
   have c9b0 := decide_eq_true c9
   clear c9
   by_cases c10 : x21_1 < (x19_1.length : Int)
   rotate_left
   ·
    rw [if_neg c10] at H
    exact absurd H (by simp)
   rw [if_pos c10] at H
   have c10b0 := decide_eq_true c10
   (try simp only [hl19_1] at c10b0)
   clear c10
   obtain ⟨ji11, hji11⟩ : ∃ j_ : Int, (wrap64 ((x1_1.length : Int) + 1)) = j_ := ⟨_, rfl⟩
   replace H : (if 0 ≤ (ji11) then (if (ji11 : Int).toNat ≤ 35184372088832 then (jZ.l1 k1 x1_1 x5_1 (rd x19_1 x21_1) (List.replicate (ji11 : Int).toNat 0) 0 x19_1 (t188.length : Int) x21_1 x1_1 (x1_1.length : Int) 0) else (none)) else (none)) = some r := by first | (rw [hji11] at H; exact H) | (simp only [hji11] at H ⊢; exact H)
   have hji11w : (IntKind.i64.wrap ((x1_1.length : Int) + 1)) = ji11 := (vF _).trans hji11
   by_cases c12 : 0 ≤ (ji11)
   rotate_left
   ·
    rw [if_neg c12] at H
    exact absurd H (by simp)
   rw [if_pos c12] at H
   have c12b0 := eq_true c12
   have c12b1 := decide_eq_true c12
   clear c12
   by_cases c13 : (ji11 : Int).toNat ≤ 35184372088832
   rotate_left
   ·
    rw [if_neg c13] at H
    exact absurd H (by simp)
   rw [if_pos c13] at H
   have c13b0 := eq_true c13
   have c13b1 := decide_eq_true c13
   clear c13
   obtain ⟨y195, hy195⟩ : ∃ y_ : List Int, y_ = (List.replicate (ji11 : Int).toNat 0) := ⟨_, rfl⟩
   replace H : (jZ.l1 k1 x1_1 x5_1 (rd x19_1 x21_1) y195 0 x19_1 (t188.length : Int) x21_1 x1_1 (x1_1.length : Int) 0) = some r := by first | (rw [hy195]; with_reducible exact H) | (have H2_ := (Option.bind_some _ _).symm.trans H; rw [hy195]; with_reducible exact H2_) | (with_reducible exact hs_ H) | with_reducible exact H | (rw [hy195]; exact H) | exact H
   have Ny195 := jA.mk hy195
   clear hy195
   have H' := jA.mk H
   clear H
   have p194 : 0 ≤ (x21_1 : Int) := of_decide_eq_true am_
   have q194 : x21_1 < (x19_1.length : Int) := of_decide_eq_true am_
   obtain ⟨ad194, e194, hx194_0⟩ := Kd.vS (Kd.vT HO_19.out).2.2 x21_1 p194 q194
   cases e194
   replace p194 := eq_true p194
   replace q194 := eq_true q194
   obtain ⟨Ao14, co14, eo14⟩ := Kd.vX HO_1.out
   subst eo14
   go_wp2_with (first | ((with_reducible refine jl (N := 28) rfl ?_); refine Kd.jIt (Kd.int .u64) _ 56 rfl (N := 28) rfl 30 _ _ rfl ji11 rfl rfl Tryz.underlying30 (.int .u64 0) 8 jAL rfl (by decide) (by omega) 0 (ok := fun _ => True) (okp := fun _ => True) rfl (fun _ hk => hk) trivial (of_decide_eq_true am_) (Nat.le_trans (Nat.mul_le_mul_right _ (of_decide_eq_true am_ : ji11.toNat ≤ 35184372088832)) (by omega)) (Below.refl _ _) (Nat.le_refl _) ?_; intro v196 w15 ho16 hb hg_ hnew_; clear hg_ hnew_; (first | rw [← Ny195.out] at ho16 | (simp only [Int.reduceToNat] at ho16; rw [← Ny195.out] at ho16)); replace HO_1 := jA.mk (Kd.qx (rV_ HO_1) (Kd.qM ho16) hb); replace HO_5 := jA.mk (Kd.jIr (rS_ HO_5) (Kd.qM ho16) hb); replace HO_19 := jA.mk (Kd.qx (rV_ HO_19) (Kd.qM ho16) hb); have HO197 := jA.mk (Kd.jk ho16 (jE (bb_ HB))); replace HB := bs_ HB hb; clear hb ho16))
   go_loopg [9, 31] k1 (fun kq v9 v31 w' => ∃ (x8_2 : List Int) (x9_2 : Int) (x31_2 : Int), v9 = .int .u64 x9_2 ∧ v31 = .int .i64 x31_2 ∧ jA (jZ.l1 kq x1_1 x5_1 (rd x19_1 x21_1) x8_2 x9_2 x19_1 (t188.length : Int) x21_1 x1_1 (x1_1.length : Int) x31_2 = some r) ∧ jA (kq ≤ k1) ∧ jA (Kd.V (Kd.int .u64) 56 w' w.heap.size (fun k_ => some k_ ≠ (u5 : Value).ownBlock ∧ some k_ ≠ (v196 : Value).ownBlock) (.slice Ao14 x1_1.length co14) x1_1) ∧ jA (Kd.S (Kd.slice 56 (Kd.int .u64)) 30 w' w.heap.size (fun k_ => some k_ ≠ (v196 : Value).ownBlock) u5 x5_1) ∧ jA (Kd.R (Kd.int .u64) 56 w' w.heap.size (fun _ => True) v196 x8_2) ∧ jA (Kd.V (Kd.int .u64) 56 w' w.heap.size (fun k_ => some k_ ≠ (u5 : Value).ownBlock ∧ some k_ ≠ (v196 : Value).ownBlock) (.slice (some ad194) x19_1.length co7) x19_1) ∧ jA (Kd.V (Kd.int .u64) 56 w' w.heap.size (fun k_ => some k_ ≠ (u5 : Value).ownBlock ∧ some k_ ≠ (v196 : Value).ownBlock) (.slice Ao14 x1_1.length co14) x1_1) ∧ jA (Below w.heap.size w w'))
   case atStart => exact ⟨(y195), (0), (0), sd_, sd_, H', ⟨Nat.le_refl _⟩, ⟨by (try simp only [hl19_1]); refine pV_ ?_; exact HO_1.out⟩, ⟨by (try simp only [hl19_1]); refine pS_ ?_; exact Kd.jFB HO_5.out (fun _ hk => hk.2)⟩, ⟨by (try simp only [hl19_1]); refine pR_ ?_; exact HO197.out⟩, ⟨by (try simp only [hl19_1]); refine pV_ ?_; exact HO_19.out⟩, ⟨by (try simp only [hl19_1]); refine pV_ ?_; exact HO_1.out⟩, ⟨(bb_ HB)⟩⟩
   case round =>
    clear H'
    try clear c1
    try clear p1
    try clear q1
    try clear hx1
    try clear p2
    try clear p6
    try clear c8
    try clear c8b0
    try clear c9
    try clear c9b0
    try clear c10
    try clear c10b0
    try clear c12
    try clear c12b0
    try clear c12b1
    try clear c13
    try clear c13b0
    try clear c13b1
    try clear c14
    try clear hx194_0
    try clear p194
    try clear p2
    try clear q194
    obtain ⟨x8_2, x9_2, x31_2, rfl, rfl, HA, HK2, HO_1, HO_5, HO_8, HO_19, HO_29, HB⟩ := hrel
    cases gk with
    | zero => exact absurd HA.out (by simp [jZ.l1])
    | succ k2 =>
     have H := HA.out
     clear HA
     simp only [jZ.l1] at H
     by_cases c17 : x31_2 < (x1_1.length : Int)
     ·
      rw [if_pos c17] at H
      have c17b0 := decide_eq_true c17
      (try simp only [hl19_1] at c17b0)
      clear c17
      by_cases c18 : 0 ≤ x31_2
      rotate_left
      ·
       rw [if_neg c18] at H
       exact absurd H (by simp)
      rw [if_pos c18] at H
      have c18b0 := decide_eq_true c18
      clear c18
      by_cases c19 : x31_2 < (x1_1.length : Int)
      rotate_left
      ·
       rw [if_neg c19] at H
       exact absurd H (by simp)
      rw [if_pos c19] at H
      have c19b0 := decide_eq_true c19
      (try simp only [hl19_1] at c19b0)
      clear c19
      replace H := ob_ H
      obtain ⟨⟨t199, t200⟩, A200, H⟩ := H
      try dsimp only at H
      have A20 := jA.mk A200
      clear A200
      by_cases c21 : x31_2 < (x8_2.length : Int)
      rotate_left
      ·
       rw [if_neg c21] at H
       exact absurd H (by simp)
      rw [if_pos c21] at H
      have c21b0 := decide_eq_true c21
      (try simp only [hl19_1] at c21b0)
      clear c21
      obtain ⟨y201, hy201⟩ : ∃ y_ : List Int, y_ = (x8_2.set (x31_2 : Int).toNat (ad64 t200 x9_2 0)) := ⟨_, rfl⟩
      replace H : (jZ.l1 k2 x1_1 x5_1 (rd x19_1 x21_1) y201 (IntKind.u64.wrap (t199 + (ac64 t200 x9_2 0))) x19_1 (t188.length : Int) x21_1 x1_1 (x1_1.length : Int) (wrap64 (x31_2 + 1))) = some r := by first | (rw [hy201]; with_reducible exact H) | (have H2_ := (Option.bind_some _ _).symm.trans H; rw [hy201]; with_reducible exact H2_) | (with_reducible exact hs_ H) | with_reducible exact H | (rw [hy201]; exact H) | exact H
      have Ny201 := jA.mk hy201
      clear hy201
      have H' := jA.mk H
      clear H
      have p198 : 0 ≤ (x31_2 : Int) := of_decide_eq_true am_
      have q198 : x31_2 < (x1_1.length : Int) := of_decide_eq_true am_
      obtain ⟨ad198, e198, hx198_0⟩ := Kd.vS (Kd.vT HO_29.out).2.2 x31_2 p198 q198
      cases e198
      replace p198 := eq_true p198
      replace q198 := eq_true q198
      go_wp2_with (first | ((with_reducible refine jL (f := 146) rfl ?_); refine gl_ (some 39) Tryz.func146 #[.int .u64 (rd x19_1 x21_1), .int .u64 (rd x1_1 x31_2)] ?_; (with_reducible refine (bits_Mul64.calls (rd x19_1 x21_1) (rd x1_1 x31_2) t199 t200 _ A20.out).mono ?_); rintro e w' ⟨rfl, ⟨nd, rfl⟩⟩; refine ⟨_, rfl, ?_⟩; (try (rw [jJT wr]; generalize hq_ : World.drewN wr _ = wr; replace HO_1 : jA (Kd.V (Kd.int .u64) 56 wr w.heap.size (fun k_ => some k_ ≠ (u5 : Value).ownBlock ∧ some k_ ≠ (v196 : Value).ownBlock) (.slice (some ad198) x1_1.length co14) x1_1) := ⟨by rw [← hq_]; exact (rV_ HO_1)⟩; replace HO_19 : jA (Kd.V (Kd.int .u64) 56 wr w.heap.size (fun k_ => some k_ ≠ (u5 : Value).ownBlock ∧ some k_ ≠ (v196 : Value).ownBlock) (.slice (some ad194) x19_1.length co7) x19_1) := ⟨by rw [← hq_]; exact (rV_ HO_19)⟩; replace HO_29 : jA (Kd.V (Kd.int .u64) 56 wr w.heap.size (fun k_ => some k_ ≠ (u5 : Value).ownBlock ∧ some k_ ≠ (v196 : Value).ownBlock) (.slice (some ad198) x1_1.length co14) x1_1) := ⟨by rw [← hq_]; exact (rV_ HO_29)⟩; replace HO_5 : jA (Kd.S (Kd.slice 56 (Kd.int .u64)) 30 wr w.heap.size (fun k_ => some k_ ≠ (v196 : Value).ownBlock) u5 x5_1) := ⟨by rw [← hq_]; exact (rS_ HO_5)⟩; replace HO_8 : jA (Kd.R (Kd.int .u64) 56 wr w.heap.size (fun _ => True) v196 x8_2) := ⟨by rw [← hq_]; exact (rR_ HO_8)⟩; replace HB : jA (Below w.heap.size w wr) := ⟨by rw [← hq_]; exact (bb_ HB)⟩; clear hq_)); have p22 : 0 ≤ (x31_2 : Int) := of_decide_eq_true am_; have q22 : (x31_2 : Int) < ((x8_2.length : Int) : Int) := of_decide_eq_true am_; obtain ⟨go22, co22, eo22, gb22, gl22, cl22, HG22⟩ := Kd.jAg HO_8.out (by omega); (first | cases eo22 | (injection eo22 with ea_ en_ ec_; (first | subst ea_ | (injection ea_ with ea_; subst ea_)); subst ec_; clear en_)); have GB22 := jA.mk gb22; have GG22 := jA.mk HG22; clear gb22 gl22 HG22; obtain ⟨hx22_0, hf22_0⟩ := Kd.qI 0 HO_8.out (x31_2 : Int) p22 q22; replace p22 := eq_true p22; replace q22 := eq_true q22; obtain ⟨hy23_, hz23_⟩ := Kd.qI 0 HO_8.out (x31_2 : Int) (of_decide_eq_true am_) (of_decide_eq_true am_); have HP23 := Kd.jCh HO_8.out (x31_2 : Int) (ad64 t200 x9_2 0)) | ((with_reducible refine jAF (t := 56) (p := 54) rfl ?_); refine qY (t := 56) (p := 54) (v := ?vo_w24) (w1 := (wr.setCell ⟨go22, (x31_2 : Int).toNat, none⟩ (.int .u64 (ad64 t200 x9_2 0)))) ?hg ?ho ?hn ?hr ?_; (case ho => rfl); (case hg => rfl); (case hn => rfl); (case hr => exact gs_); intro w24 hw; have hg : wr.grownBy w24 (some go22) := (by rw [hw]; exact HP23.2); have hp_ : Kd.R (Kd.int .u64) 56 w24 w.heap.size (fun _ => True) (.slice (some ⟨go22, 0, none⟩) x8_2.length co22) y201 := (by rw [hw, Ny201.out]; exact HP23.1); clear HP23; replace HO_1 := jA.mk (Kd.qy (v := (.slice (some ⟨go22, 0, none⟩) x8_2.length co22)) (v1 := (.slice (some ⟨go22, 0, none⟩) x8_2.length co22)) (ok := (fun k_ => some k_ ≠ (u5 : Value).ownBlock)) (rV_ HO_1) hg (.inl rfl)); replace HO_5 := jA.mk (Kd.jLz (v := (.slice (some ⟨go22, 0, none⟩) x8_2.length co22)) (v1 := (.slice (some ⟨go22, 0, none⟩) x8_2.length co22)) (ok := (fun _ => True)) (by refine pS_ ?_; exact Kd.jFB HO_5.out (fun _ hk => ⟨trivial, hk⟩)) hg (.inl rfl)); replace HO_8 := jA.mk (hp_); replace HO_19 := jA.mk (Kd.qy (v := (.slice (some ⟨go22, 0, none⟩) x8_2.length co22)) (v1 := (.slice (some ⟨go22, 0, none⟩) x8_2.length co22)) (ok := (fun k_ => some k_ ≠ (u5 : Value).ownBlock)) (rV_ HO_19) hg (.inl rfl)); replace HO_29 := jA.mk (Kd.qy (v := (.slice (some ⟨go22, 0, none⟩) x8_2.length co22)) (v1 := (.slice (some ⟨go22, 0, none⟩) x8_2.length co22)) (ok := (fun k_ => some k_ ≠ (u5 : Value).ownBlock)) (rV_ HO_29) hg (.inl rfl)); replace HB := jA.mk ((by rw [hw]; exact vP (HB.out) GB22.out : Below w.heap.size w w24)); clear hg hw hp_))
      go_roundg k2
      case measure => have := HK1.out; have := HK2.out; omega
      case rel => exact ⟨(y201), (IntKind.u64.wrap (t199 + (ac64 t200 x9_2 0))), (wrap64 (x31_2 + 1)), sd_, sd_, H', ⟨by have := HK1.out; have := HK2.out; omega⟩, ⟨by (try simp only [hl19_1]); refine pV_ ?_; exact HO_1.out⟩, ⟨by (try simp only [hl19_1]); refine pS_ ?_; exact Kd.jFB HO_5.out (fun _ hk => hk.2)⟩, ⟨by (try simp only [hl19_1]); refine pR_ ?_; exact HO_8.out⟩, ⟨by (try simp only [hl19_1]); refine pV_ ?_; exact HO_19.out⟩, ⟨by (try simp only [hl19_1]); refine pV_ ?_; exact HO_29.out⟩, ⟨(bb_ HB)⟩⟩
     rw [if_neg c17] at H
     have c17b0 := decide_eq_false c17
     (try simp only [hl19_1] at c17b0)
     clear c17
     by_cases c25 : 0 ≤ (x1_1.length : Int)
     rotate_left
     ·
      rw [if_neg c25] at H
      exact absurd H (by simp)
     rw [if_pos c25] at H
     have c25b0 := decide_eq_true c25
     (try simp only [hl19_1] at c25b0)
     have c25b1 : decide (0 ≤ x1_1.length) = true := decide_eq_true (by omega)
     (try simp only [hl19_1] at c25b1)
     clear c25
     by_cases c26 : (x1_1.length : Int) < (x8_2.length : Int)
     rotate_left
     ·
      rw [if_neg c26] at H
      exact absurd H (by simp)
     rw [if_pos c26] at H
     have c26b0 := decide_eq_true c26
     (try simp only [hl19_1] at c26b0)
     have c26b1 : decide (x1_1.length < x8_2.length) = true := decide_eq_true (Int.ofNat_lt.mp c26)
     (try simp only [hl19_1] at c26b1)
     clear c26
     obtain ⟨y202, hy202⟩ : ∃ y_ : List Int, y_ = (x8_2.set ((x1_1.length : Int) : Int).toNat x9_2) := ⟨_, rfl⟩
     replace H : (if x5_1.length < 5864062014805 then (jZ.l0 k2 x1_1 (x5_1 ++ [y202]) x19_1 (t188.length : Int) (wrap64 (x21_1 + 1))) else (none)) = some r := by first | (rw [hy202]; with_reducible exact H) | (have H2_ := (Option.bind_some _ _).symm.trans H; rw [hy202]; with_reducible exact H2_) | (with_reducible exact hs_ H) | with_reducible exact H | (rw [hy202]; exact H) | exact H
     have Ny202 := jA.mk hy202
     clear hy202
     by_cases c28 : x5_1.length < 5864062014805
     rotate_left
     ·
      rw [if_neg c28] at H
      exact absurd H (by simp)
     rw [if_pos c28] at H
     have LMc28 := jA.mk c28
     clear c28
     obtain ⟨y203, hy203⟩ : ∃ y_ : List (List Int), y_ = (x5_1 ++ [y202]) := ⟨_, rfl⟩
     replace H : (jZ.l0 k2 x1_1 y203 x19_1 (t188.length : Int) (wrap64 (x21_1 + 1))) = some r := by first | (rw [hy203]; with_reducible exact H) | (have H2_ := (Option.bind_some _ _).symm.trans H; rw [hy203]; with_reducible exact H2_) | (with_reducible exact hs_ H) | with_reducible exact H | (rw [hy203]; exact H) | exact H
     have Ny203 := jA.mk hy203
     clear hy203
     have H' := jA.mk H
     clear H
     have p27 : 0 ≤ ((x1_1.length : Int) : Int) := of_decide_eq_true am_
     have q27 : ((x1_1.length : Int) : Int) < ((x8_2.length : Int) : Int) := of_decide_eq_true am_
     obtain ⟨go27, co27, eo27, gb27, gl27, cl27, HG27⟩ := Kd.jAg HO_8.out (by omega)
     (first | cases eo27 | (injection eo27 with ea_ en_ ec_; (first | subst ea_ | (injection ea_ with ea_; subst ea_)); subst ec_; clear en_))
     have GB27 := jA.mk gb27
     have GG27 := jA.mk HG27
     clear gb27 gl27 HG27
     obtain ⟨hx27_0, hf27_0⟩ := Kd.qI 0 HO_8.out ((x1_1.length : Int) : Int) p27 q27
     (try simp only [Int.toNat_natCast] at hx27_0 hf27_0)
     replace p27 := eq_true p27
     replace q27 := eq_true q27
     have HP29 := Kd.jCh HO_8.out ((x1_1.length : Int) : Int) x9_2
     go_wp2_with (first | ((with_reducible refine jAF (t := 56) (p := 60) rfl ?_); refine qY (t := 56) (p := 60) (v := ?vo_w30) (w1 := (wr.setCell ⟨go27, ((x1_1.length : Int) : Int).toNat, none⟩ (.int .u64 x9_2))) ?hg ?ho ?hn ?hr ?_; (case ho => rfl); (case hg => rfl); (case hn => rfl); (case hr => exact gs_); intro w30 hw; have hg : wr.grownBy w30 (some go27) := (by rw [hw]; exact HP29.2); have hp_ : Kd.R (Kd.int .u64) 56 w30 w.heap.size (fun _ => True) (.slice (some ⟨go27, 0, none⟩) x8_2.length co27) y202 := (by rw [hw, Ny202.out]; exact HP29.1); clear HP29; replace HO_1 := jA.mk (Kd.qy (v := (.slice (some ⟨go27, 0, none⟩) x8_2.length co27)) (v1 := (.slice (some ⟨go27, 0, none⟩) x8_2.length co27)) (ok := (fun k_ => some k_ ≠ (u5 : Value).ownBlock)) (rV_ HO_1) hg (.inl rfl)); replace HO_5 := jA.mk (Kd.jLz (v := (.slice (some ⟨go27, 0, none⟩) x8_2.length co27)) (v1 := (.slice (some ⟨go27, 0, none⟩) x8_2.length co27)) (ok := (fun _ => True)) (by refine pS_ ?_; exact Kd.jFB HO_5.out (fun _ hk => ⟨trivial, hk⟩)) hg (.inl rfl)); replace HO_8 := jA.mk (hp_); replace HO_19 := jA.mk (Kd.qy (v := (.slice (some ⟨go27, 0, none⟩) x8_2.length co27)) (v1 := (.slice (some ⟨go27, 0, none⟩) x8_2.length co27)) (ok := (fun k_ => some k_ ≠ (u5 : Value).ownBlock)) (rV_ HO_19) hg (.inl rfl)); replace HO_29 := jA.mk (Kd.qy (v := (.slice (some ⟨go27, 0, none⟩) x8_2.length co27)) (v1 := (.slice (some ⟨go27, 0, none⟩) x8_2.length co27)) (ok := (fun k_ => some k_ ≠ (u5 : Value).ownBlock)) (rV_ HO_29) hg (.inl rfl)); replace HB := jA.mk ((by rw [hw]; exact vP (HB.out) GB27.out : Below w.heap.size w w30)); clear hg hw hp_) | ((with_reducible refine zi (b := .append) (xs := #[.tmp 61, .tmp 63]) rfl ?_); at_builtin; refine Kd.jNH (Kd.slice 56 (Kd.int .u64)) (w0 := w) w.heap.size rfl (.tmp 61) (.tmp 63) 175 30 (.slice none 0 0) 24 rfl Tryz.underlying175 jQJ rfl (by decide) (by omega) u5 x5_1 y202 [.slice (some ⟨go27, 0, none⟩) x8_2.length co27] (fun _ => True) (fun k_ => some k_ = (.slice (some ⟨go27, 0, none⟩) x8_2.length co27 : Value).ownBlock) rfl rfl ?aP (fun k_ hk_ => ((Kd.vB (ok' := fun k_ => ((fun _ => True)) k_ ∧ some k_ ≠ (u5 : Value).ownBlock) (Kd.jIv (HO_8.out) (Kd.jLw HO_5.out) (by decide)) (fun k_ hk => ⟨trivial, hk.2⟩))).1 k_ hk_.symm) ?aF ?aO ?aB ?aS ?aL ?_; (case aP => exact Kd.jRi (Kd.vB (Kd.jFn rfl (Kd.vB (ok' := fun k_ => ((fun _ => True)) k_ ∧ some k_ ≠ (u5 : Value).ownBlock) (Kd.jIv (HO_8.out) (Kd.jLw HO_5.out) (by decide)) (fun k_ hk => ⟨trivial, hk.2⟩))) (fun _ h_ => h_))); (case aB => exact (bb_ HB)); (case aF => exact (fun _ _ => trivial)); (case aO => exact (by refine pS_ ?_; exact Kd.jFB HO_5.out (fun k_ hk => ⟨trivial, fun e_ => hk.2 e_⟩))); (case aS => exact (jE (bb_ HB))); (case aL => have := LMc28.out; omega); intro v204 w31 ho hb hg hat; rw [← Ny203.out] at ho; replace HO_1 := jA.mk (Kd.qy (ok := (fun k_ => some k_ ≠ (.slice (some ⟨go27, 0, none⟩) x8_2.length co27 : Value).ownBlock)) (by refine pV_ ?_; exact Kd.zF HO_1.out (fun _ hk => ⟨hk.2, hk.1⟩)) hg hat); replace HO_19 := jA.mk (Kd.qy (ok := (fun k_ => some k_ ≠ (.slice (some ⟨go27, 0, none⟩) x8_2.length co27 : Value).ownBlock)) (by refine pV_ ?_; exact Kd.zF HO_19.out (fun _ hk => ⟨hk.2, hk.1⟩)) hg hat); replace HO_29 := jA.mk (Kd.qy (ok := (fun k_ => some k_ ≠ (.slice (some ⟨go27, 0, none⟩) x8_2.length co27 : Value).ownBlock)) (by refine pV_ ?_; exact Kd.zF HO_29.out (fun _ hk => ⟨hk.2, hk.1⟩)) hg hat); replace HB := jA.mk (hb); have HO205 := jA.mk (ho); clear HO_5 HO_8 ho hb hg hat))
     (try simp only [← hl19_1])
     go_roundg k2
     case measure => have := HK1.out; have := HK2.out; omega
     case rel => exact ⟨(x1_1), (y203), (x19_1), (wrap64 (x21_1 + 1)), sd_, H', ⟨by have := HK1.out; have := HK2.out; omega⟩, ⟨by (try simp only [hl19_1]); refine pV_ ?_; exact Kd.zF HO_1.out (fun _ hk => hk.2)⟩, ⟨by (try simp only [hl19_1]); refine pS_ ?_; exact HO205.out⟩, ⟨by (try simp only [hl19_1]); refine pV_ ?_; exact Kd.zF HO_19.out (fun _ hk => hk.2)⟩, ⟨(bb_ HB)⟩⟩
-- NOT PRINTED: function 150 (bits_Sub64)
-- NOT PRINTED: function 149 (limb_Sub_1)
end Go.Proofs.YtoganbmeedimiaaGreat.POPressOne
