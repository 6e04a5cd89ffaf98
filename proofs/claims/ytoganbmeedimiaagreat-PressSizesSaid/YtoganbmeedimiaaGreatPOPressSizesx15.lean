-- printed (pr.py)
import Derived.Test.YtoganbmeedimiaaGreatPOPressSizesx14
namespace Go.Proofs.YtoganbmeedimiaaGreat.POPressSizes
open Go.RowKit Go.Proofs.YtoganbmeedimiaaGreatN Go.Proofs.YtoganbmeedimiaaGreatW.PrintWords Go.Proofs.YtoganbmeedimiaaGreatW.PrintLast Go.Proofs.YtoganbmeedimiaaGreatW.PrintMore
attribute [local go_sem] zU zQ zn zm vV vU zT zP
set_option maxHeartbeats 8000000
set_option maxRecDepth 100000
set_option linter.unusedVariables false
set_option linter.unusedSimpArgs false
namespace Siz
def szT (x : S37) : Int := 9 + 8 * x.f0.f1.length + 8 * x.f0.f2.length
def szs : List S37 → Int
 | [] => 0
 | x :: t => szT x + szs t
def small (l : List S37) : Prop := l.length ≤ 80 ∧ ∀ x ∈ l, x.f0.f1.length ≤ 12 ∧ x.f0.f2.length ≤ 12
def sizes (k : Nat) (l : List S37) : Option Bool := (jO.f k [l]).bind fun b => if b = true then some true else (PutP.putP k l).bind fun r => if r.2 ≠ 0 then some (r.1.toList.isEmpty && r.2 == 1) else some (decide ((r.1.size : Int) = (if l.length = 0 then 1 else 2) + szs l))
theorem w64_ {x : Int} (h0 : 0 ≤ x) (h1 : x < 9223372036854775808) : wrap64 x = x := by unfold wrap64; omega
theorem jKo {l : List S37} {i n N : Int} (hs : small l) (h0 : 0 ≤ i) (h1 : i < l.length) (h : 0 ≤ n ∧ n ≤ 2 + 201 * i ∧ n + szs (l.drop i.toNat) = N) :
  (0 ≤ wrap64 (n + wrap64 (wrap64 (wrap64 (wrap64 (3 + wrap64 (8 * ((jC l i).f0.f1.length : Int))) + 2) + wrap64 (8 * ((jC l i).f0.f2.length : Int))) + 4)) ∧ wrap64 (n + wrap64 (wrap64 (wrap64 (wrap64 (3 + wrap64 (8 * ((jC l i).f0.f1.length : Int))) + 2) + wrap64 (8 * ((jC l i).f0.f2.length : Int))) + 4)) ≤ 2 + 201 * (i + 1) ∧ wrap64 (n + wrap64 (wrap64 (wrap64 (wrap64 (3 + wrap64 (8 * ((jC l i).f0.f1.length : Int))) + 2) + wrap64 (8 * ((jC l i).f0.f2.length : Int))) + 4)) + szs (l.drop (i + 1).toNat) = N) ∧ wrap64 (i + 1) = i + 1 := by
 have hl := hs.1
 have hm : jC l i ∈ l := by
  unfold jC
  rw [List.getD_eq_getElem?_getD, List.getElem?_eq_getElem (by omega)]
  exact List.getElem_mem _
 obtain ⟨b1, b2⟩ := hs.2 _ hm
 obtain ⟨n1, n2, n3⟩ := h
 rw [AllT.jDo (by omega), Int.toNat_of_nonneg h0] at n3
 rw [show (i + 1).toNat = i.toNat + 1 by omega]
 have e : szs (jC l i :: l.drop (i.toNat + 1)) = 9 + 8 * ((jC l i).f0.f1.length : Int) + 8 * ((jC l i).f0.f2.length : Int) + szs (l.drop (i.toNat + 1)) := rfl
 rw [e] at n3
 generalize (jC l i).f0.f1.length = a at *
 generalize (jC l i).f0.f2.length = b at *
 rw [w64_ (x := 8 * (a : Int)) (by omega) (by omega), w64_ (x := 8 * (b : Int)) (by omega) (by omega), w64_ (x := 3 + 8 * (a : Int)) (by omega) (by omega), w64_ (x := 3 + 8 * (a : Int) + 2) (by omega) (by omega), w64_ (x := 3 + 8 * (a : Int) + 2 + 8 * (b : Int)) (by omega) (by omega), w64_ (x := 3 + 8 * (a : Int) + 2 + 8 * (b : Int) + 4) (by omega) (by omega), w64_ (x := n + (3 + 8 * (a : Int) + 2 + 8 * (b : Int) + 4)) (by omega) (by omega), w64_ (x := i + 1) (by omega) (by omega)]
 refine ⟨⟨?_, ?_, ?_⟩, rfl⟩ <;> omega
theorem jII {A : Option Addr} {c : Nat} {l : List S37} {w W : World} {g : Nat} (h : Kd.C k37 w A l.length l) (hc : l.length ≤ c) (hb : Below w.heap.size w W) (hg : W.heap[g]? = some (.cells #[.slice A l.length c] 23 (0, 0))) : Kd.C (Kd.slice 37 k37) W (some ⟨g, 0, none⟩) [l].length [l] :=
 ⟨rfl, (by show 1 ≤ _; decide), fun _ => ⟨_, rfl, fun j p hj => by
  match j, hj with
  | 0, hj =>
   simp only [List.getElem?_cons_zero, Option.some.injEq] at hj; subst hj
   exact ⟨[.slice A l.length c], rfl, ⟨A, c, rfl, hc, Kd.vG h hb⟩, fun i u hu => by
    match i, hu with
    | 0, hu => simp only [List.getElem?_cons_zero, Option.some.injEq] at hu; subst hu; exact (jB hg 0).trans rfl
    | n + 1, hu => simp at hu⟩
  | n + 1, hj => simp at hj⟩⟩
theorem jLa (k : Nat) (A : Option Addr) (c : Nat) (l : List S37) (r : Bool) (w : World) (hr : Kd.C k37 w A l.length l) (hc : l.length ≤ c) (hsm : jO.f k [l] = some false → small l) (h : sizes k l = some r) :
  Calls Tryz.prog 3 #[.slice A l.length c] w fun e w' => e = .returned (.bool r) ∧ Below w.heap.size w w' := by
 have HR := jA.mk hr
 have HC := jA.mk hc
 clear hr hc
 unfold sizes at h
 have hnot : ∀ (x : Bool) (w : World), (Op.unary .not (.bool x)).run Tryz.prog w = .ok (.bool (!x)) w := fun _ _ => rfl
 obtain ⟨b, hb, h⟩ := Option.bind_eq_some_iff.1 h
 have HB := jA.mk hb
 clear hb
 have HA0 := jA.mk (vE w (.cells #[.slice A l.length c] 23))
 have HD0 := jA.mk (jQ (Below.refl _ w) (.cells #[.slice A l.length c] 23))
 have HO := jA.mk (jII HR.out HC.out HD0.out HA0.out)
 cases b with
 | true =>
  obtain rfl := Option.some.inj ((if_pos rfl).symm.trans h)
  clear h
  go_enter Tryz.func3, Tryz.ntmps3
  go_wp2_with fail
  refine (jO.calls k _ 1 [l] true _ HO.out (Nat.le_refl 1) HB.out).mono ?_
  rintro e w1 ⟨rfl, hb1⟩
  have HB1 := jA.mk (jF HD0.out hb1.below)
  clear hb1
  go_wp2_with fail
  refine (zu.calls true _ rfl).mono ?_
  rintro e w2 ⟨rfl, hb1⟩
  have HB2 := jA.mk (jF HB1.out hb1)
  clear hb1
  go_wp2
  go_ret
  exact ⟨rfl, HB2.out⟩
 | false =>
  rw [if_neg (by decide)] at h
  have hsm := hsm HB.out
  obtain ⟨⟨s, ec⟩, hp, h⟩ := Option.bind_eq_some_iff.1 h
  have HP := jA.mk hp
  clear hp
  go_enter Tryz.func3, Tryz.ntmps3
  go_wp2_with fail
  refine (jO.calls k _ 1 [l] false _ HO.out (Nat.le_refl 1) HB.out).mono ?_
  rintro e w1 ⟨rfl, hb1⟩
  have HB1 := jA.mk (jF HD0.out hb1.below)
  clear hb1
  go_wp2_with fail
  refine (zu.calls true _ rfl).mono ?_
  rintro e w2 ⟨rfl, hb1⟩
  have HB2 := jA.mk (jF HB1.out hb1)
  clear hb1
  go_wp2_with fail
  refine (PutP.jMh k A c l (s, ec) _ (Kd.vG HR.out HB2.out) HC.out HP.out).mono ?_
  rintro e w3 ⟨rfl, hb1⟩
  have HB3 := jA.mk (jF HB2.out hb1)
  clear hb1
  by_cases c3 : ec = 0
  rotate_left
  ·
   rw [if_pos c3] at h
   have HRR := jA.mk (Option.some.inj h)
   clear h
   have t3 : (ec != 0) = true := bne_iff_ne.mpr c3
   have t4 : (ec == 0) = false := beq_eq_false_iff_ne.mpr c3
   cases t5 : s.toList.isEmpty with
   | true =>
    go_wp2
    go_ret
    exact ⟨by rw [← HRR.out]; dsimp only; rw [t5]; rfl, HB3.out⟩
   | false =>
    go_wp2
    go_ret
    exact ⟨by rw [← HRR.out]; dsimp only; rw [t5]; rfl, HB3.out⟩
  subst c3
  rw [if_neg (fun h => h rfl)] at h
  have HRR := jA.mk (Option.some.inj h)
  clear h
  have HS := jA.mk hsm
  clear hsm
  by_cases c4 : l.length = 0
  ·
   have d4 : ((l.length : Int) == 0) = true := by rw [c4]; rfl
   have d5 : (l.length == 0) = true := by rw [c4]; rfl
   have HN0 := jA.mk (show (1 : Int) = if l.length = 0 then 1 else 2 by rw [if_pos c4])
   clear c4
   go_wp2
   go_loopg [5, 6] l.length (fun q v5 v6 w' => ∃ (i n : Int), v5 = .int .i64 n ∧ v6 = .int .i64 i ∧ jA (0 ≤ i ∧ i + q = l.length) ∧ jA (0 ≤ n ∧ n ≤ 2 + 201 * i ∧ n + szs (l.drop i.toNat) = 1 + szs l) ∧ jA (Below w.heap.size w w'))
   case atStart => exact ⟨0, 1, rfl, rfl, ⟨by omega⟩, ⟨by omega, by omega, rfl⟩, HB3⟩
   case round =>
    clear HB3
    obtain ⟨i, n, rfl, rfl, HQ, HN, HB⟩ := hrel
    cases gk with
    | zero =>
     have hd : decide (i < (l.length : Int)) = false := decide_eq_false (by have := HQ.out; omega)
     have hN := HN.out.2.2
     rw [show i.toNat = l.length by have := HQ.out; omega, List.drop_length] at hN
     have HF := jA.mk (show n = 1 + szs l by have h0 : szs ([] : List S37) = 0 := rfl; omega)
     clear hN
     go_wp2
     go_ret
     exact ⟨by rw [← HRR.out, ← HN0.out, ← HF.out]; rfl, HB.out⟩
    | succ q =>
     have hi0 : 0 ≤ i := HQ.out.1
     have hil : i < (l.length : Int) := by have := HQ.out; omega
     obtain ⟨ad, A1, c1, A2, c2, e0, x0, x1, x2, x3, x4, x5, x6, l1, g1, l2, g2⟩ := jAQ HR.out i hi0 hil
     subst e0
     have HN2 := jA.mk (jKo HS.out hi0 hil HN.out)
     generalize jC l i = x at x0 x1 x2 x3 x4 x5 x6 l1 g1 l2 g2 HN2
     replace x1 := (HB.out.cell (World.block_lt_of_cell? w _ x1)).trans x1
     replace x2 := (HB.out.cell (World.block_lt_of_cell? w _ x2)).trans x2
     clear x0 x3 x4 x5 x6 g1 g2 l1 l2
     have hd : decide (i < (l.length : Int)) = true := decide_eq_true hil
     have hi0' : 0 ≤ i := hi0
     replace hi0 := eq_true hi0
     replace hil := eq_true hil
     go_wp2
     refine zl (n := 23) (S := fun w' => w'.cell? ⟨(ad.add (i.toNat * 7)).block, (ad.add (i.toNat * 7)).off + 1, none⟩ = some (.slice A1 x.f0.f1.length c1) ∧ w'.cell? ⟨(ad.add (i.toNat * 7)).block, (ad.add (i.toNat * 7)).off + 2, none⟩ = some (.slice A2 x.f0.f2.length c2) ∧ Below w.heap.size w w') (ds := []) #[false, false, false, false, false, false, false, false, false, false, false, false, false, false, false, false, false, false, false, false, false, false, false] kr_ rfl rfl ⟨(by exact x1), (by exact x2), jk HB.out⟩ (fun hHeld => ?_)
     refine pu_ 0 (some 37) (ba_ 23 1) kr_ ?_
     refine pu_ 1 (some 38) (ba_ 23 3) kr_ ?_
     refine pu_ 2 (some 39) (ba_ 23 7) kr_ ?_
     refine pu_ 3 (some 40) (ba_ 23 15) kr_ ?_
     refine pu_ 4 (some 41) (ba_ 23 31) kr_ ?_
     refine pu_ 5 (some 42) (ba_ 23 63) kr_ ?_
     refine tk3_ 6 (some 43) (ba_ 23 127) kr_ hHeld ?_
     refine pu_ 7 (some 44) (ba_ 23 255) kr_ ?_
     refine pu_ 8 (some 45) (ba_ 23 511) kr_ ?_
     refine pu_ 9 (some 46) (ba_ 23 1023) kr_ ?_
     refine pu_ 10 (some 47) (ba_ 23 2047) kr_ ?_
     refine pu_ 11 (some 48) (ba_ 23 4095) kr_ ?_
     refine pu_ 12 (some 49) (ba_ 23 8191) kr_ ?_
     refine pu_ 13 (some 50) (ba_ 23 16383) kr_ ?_
     refine pu_ 14 (some 51) (ba_ 23 32767) kr_ ?_
     refine pu_ 15 (some 52) (ba_ 23 65535) kr_ ?_
     refine tk3_ 16 (some 53) (ba_ 23 131071) kr_ hHeld ?_
     refine pu_ 17 (some 54) (ba_ 23 262143) kr_ ?_
     refine pu_ 18 (some 55) (ba_ 23 524287) kr_ ?_
     refine pu_ 19 (some 56) (ba_ 23 1048575) kr_ ?_
     refine pu_ 20 (some 57) (ba_ 23 2097151) kr_ ?_
     refine pu_ 21 (some 58) (ba_ 23 4194303) kr_ ?_
     refine pu_ 22 (some 5) (ba_ 23 8388607) kr_ ?_
     refine jAP kr_ ?_
     obtain ⟨s0_, s1_, HB'⟩ := hHeld
     have HB4 := jA.mk HB'
     clear HB'
     go_wp2
     go_roundg q
     case measure => omega
     case rel => exact ⟨wrap64 (i + 1), _, rfl, rfl, ⟨by rw [HN2.out.2]; have := HQ.out; omega⟩, ⟨by rw [HN2.out.2]; exact HN2.out.1⟩, HB4⟩
  have d4 : ((l.length : Int) == 0) = false := beq_eq_false_iff_ne.mpr (by omega)
  have d5 : (l.length == 0) = false := beq_eq_false_iff_ne.mpr c4
  have HN0 := jA.mk (show (2 : Int) = if l.length = 0 then 1 else 2 by rw [if_neg c4])
  clear c4
  go_wp2
  go_loopg [5, 6] l.length (fun q v5 v6 w' => ∃ (i n : Int), v5 = .int .i64 n ∧ v6 = .int .i64 i ∧ jA (0 ≤ i ∧ i + q = l.length) ∧ jA (0 ≤ n ∧ n ≤ 2 + 201 * i ∧ n + szs (l.drop i.toNat) = 2 + szs l) ∧ jA (Below w.heap.size w w'))
  case atStart => exact ⟨0, 2, rfl, rfl, ⟨by omega⟩, ⟨by omega, by omega, rfl⟩, HB3⟩
  case round =>
   clear HB3
   obtain ⟨i, n, rfl, rfl, HQ, HN, HB⟩ := hrel
   cases gk with
   | zero =>
    have hd : decide (i < (l.length : Int)) = false := decide_eq_false (by have := HQ.out; omega)
    have hN := HN.out.2.2
    rw [show i.toNat = l.length by have := HQ.out; omega, List.drop_length] at hN
    have HF := jA.mk (show n = 2 + szs l by have h0 : szs ([] : List S37) = 0 := rfl; omega)
    clear hN
    go_wp2
    go_ret
    exact ⟨by rw [← HRR.out, ← HN0.out, ← HF.out]; rfl, HB.out⟩
   | succ q =>
    have hi0 : 0 ≤ i := HQ.out.1
    have hil : i < (l.length : Int) := by have := HQ.out; omega
    obtain ⟨ad, A1, c1, A2, c2, e0, x0, x1, x2, x3, x4, x5, x6, l1, g1, l2, g2⟩ := jAQ HR.out i hi0 hil
    subst e0
    have HN2 := jA.mk (jKo HS.out hi0 hil HN.out)
    generalize jC l i = x at x0 x1 x2 x3 x4 x5 x6 l1 g1 l2 g2 HN2
    replace x1 := (HB.out.cell (World.block_lt_of_cell? w _ x1)).trans x1
    replace x2 := (HB.out.cell (World.block_lt_of_cell? w _ x2)).trans x2
    clear x0 x3 x4 x5 x6 g1 g2 l1 l2
    have hd : decide (i < (l.length : Int)) = true := decide_eq_true hil
    have hi0' : 0 ≤ i := hi0
    replace hi0 := eq_true hi0
    replace hil := eq_true hil
    go_wp2
    refine zl (n := 23) (S := fun w' => w'.cell? ⟨(ad.add (i.toNat * 7)).block, (ad.add (i.toNat * 7)).off + 1, none⟩ = some (.slice A1 x.f0.f1.length c1) ∧ w'.cell? ⟨(ad.add (i.toNat * 7)).block, (ad.add (i.toNat * 7)).off + 2, none⟩ = some (.slice A2 x.f0.f2.length c2) ∧ Below w.heap.size w w') (ds := []) #[false, false, false, false, false, false, false, false, false, false, false, false, false, false, false, false, false, false, false, false, false, false, false] kr_ rfl rfl ⟨(by exact x1), (by exact x2), jk HB.out⟩ (fun hHeld => ?_)
    refine pu_ 0 (some 37) (ba_ 23 1) kr_ ?_
    refine pu_ 1 (some 38) (ba_ 23 3) kr_ ?_
    refine pu_ 2 (some 39) (ba_ 23 7) kr_ ?_
    refine pu_ 3 (some 40) (ba_ 23 15) kr_ ?_
    refine pu_ 4 (some 41) (ba_ 23 31) kr_ ?_
    refine pu_ 5 (some 42) (ba_ 23 63) kr_ ?_
    refine tk3_ 6 (some 43) (ba_ 23 127) kr_ hHeld ?_
    refine pu_ 7 (some 44) (ba_ 23 255) kr_ ?_
    refine pu_ 8 (some 45) (ba_ 23 511) kr_ ?_
    refine pu_ 9 (some 46) (ba_ 23 1023) kr_ ?_
    refine pu_ 10 (some 47) (ba_ 23 2047) kr_ ?_
    refine pu_ 11 (some 48) (ba_ 23 4095) kr_ ?_
    refine pu_ 12 (some 49) (ba_ 23 8191) kr_ ?_
    refine pu_ 13 (some 50) (ba_ 23 16383) kr_ ?_
    refine pu_ 14 (some 51) (ba_ 23 32767) kr_ ?_
    refine pu_ 15 (some 52) (ba_ 23 65535) kr_ ?_
    refine tk3_ 16 (some 53) (ba_ 23 131071) kr_ hHeld ?_
    refine pu_ 17 (some 54) (ba_ 23 262143) kr_ ?_
    refine pu_ 18 (some 55) (ba_ 23 524287) kr_ ?_
    refine pu_ 19 (some 56) (ba_ 23 1048575) kr_ ?_
    refine pu_ 20 (some 57) (ba_ 23 2097151) kr_ ?_
    refine pu_ 21 (some 58) (ba_ 23 4194303) kr_ ?_
    refine pu_ 22 (some 5) (ba_ 23 8388607) kr_ ?_
    refine jAP kr_ ?_
    obtain ⟨s0_, s1_, HB'⟩ := hHeld
    have HB4 := jA.mk HB'
    clear HB'
    go_wp2
    go_roundg q
    case measure => omega
    case rel => exact ⟨wrap64 (i + 1), _, rfl, rfl, ⟨by rw [HN2.out.2]; have := HQ.out; omega⟩, ⟨by rw [HN2.out.2]; exact HN2.out.1⟩, HB4⟩
end Siz
def syzygylaw11_PressSizes.wf33 (x : S33) : Prop := True ∧ ((x.f1.length ≤ maxLen ∧ ∀ y0_ ∈ x.f1, (Lit.int .u64 y0_).wf = true) ∧ (x.f2.length ≤ maxLen ∧ ∀ y0_ ∈ x.f2, (Lit.int .u64 y0_).wf = true))
def syzygylaw11_PressSizes.wf35 (x : S35) : Prop := (Lit.int .i64 x.f0).wf = true ∧ ((Lit.int .i64 x.f1).wf = true ∧ ((Lit.int .i64 x.f2).wf = true ∧ (Lit.int .i64 x.f3).wf = true))
def syzygylaw11_PressSizes.wf37 (x : S37) : Prop := syzygylaw11_PressSizes.wf33 x.f0 ∧ syzygylaw11_PressSizes.wf35 x.f1
def syzygylaw11_PressSizes.Pure : Prop := ∀ (l0 : List S37), l0.length ≤ maxLen → (∀ x ∈ l0, syzygylaw11_PressSizes.wf37 x) → ∃ k, Siz.sizes k l0 = some true ∧ (jO.f k [l0] = some false → Siz.small l0)
theorem syzygylaw11_PressSizes.walk (P : syzygylaw11_PressSizes.Pure) (A0 : Option Addr) (c0 : Nat) (l0 : List S37) (w : World) (hr0 : Kd.C k37 w A0 l0.length l0) (hc0 : l0.length ≤ c0) (f0 : l0.length ≤ maxLen) (f1 : ∀ x ∈ l0, syzygylaw11_PressSizes.wf37 x) :
  Calls Tryz.prog 3 #[.slice A0 l0.length c0] w fun e w' => e = .returned (.bool true) ∧ Below w.heap.size w w' := by
 obtain ⟨k, h, hs⟩ := P l0 f0 f1
 exact Siz.jLa k A0 c0 l0 true w hr0 hc0 hs h
end Go.Proofs.YtoganbmeedimiaaGreat.POPressSizes
