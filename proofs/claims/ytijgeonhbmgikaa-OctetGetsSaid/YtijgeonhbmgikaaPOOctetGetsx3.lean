-- printed (pr.py)
import Derived.Test.YtijgeonhbmgikaaPOOctetGetsx0
import Derived.Test.YtijgeonhbmgikaaPOOctetGetsx1
import Derived.Test.YtijgeonhbmgikaaPOOctetGetsx2
namespace Go.Proofs.Ytijgeonhbmgikaa.POOctetGets
open Go.RowKit Go.Proofs.YtijgeonhbmgikaaN Go.Proofs.YtijgeonhbmgikaaW.PrintWords Go.Proofs.YtijgeonhbmgikaaW.PrintLast Go.Proofs.YtijgeonhbmgikaaW.PrintMore
attribute [local go_sem] qC zy qR qP za zZ qA zx
set_option maxHeartbeats 8000000
set_option maxRecDepth 100000
set_option linter.unusedVariables false
set_option linter.unusedSimpArgs false

/-! ### jf: function 95 -/
def jf.l0 : Nat → List Int → Int → Int → Option (List Int)
 | 0, _, _, _ => none
 | k + 1, x0, x2, x3 => if x2 < x3 then (if 0 ≤ x3 then (if x3 < (x0.length : Int) then (if 0 ≤ x2 then (if x2 < (x0.length : Int) then (jf.l0 k ((x0.set (x2 : Int).toNat (rd x0 x3)).set (x3 : Int).toNat (rd x0 x2)) (wrap64 (x2 + 1)) (wrap64 (x3 - 1))) else (none)) else (none)) else (none)) else (none)) else (some x0)
def jf.f (k : Nat) (l0 : List Int) : Option (List Int) := jf.l0 k l0 0 (wrap64 ((l0.length : Int) - 1))
theorem jf.vN : ∀ k, (∀ y0 y1 y2, LeO (jf.l0 k y0 y1 y2) (jf.l0 (k + 1) y0 y1 y2))
 | 0 => fun _ _ _ r h => by simp [jf.l0] at h
 | k + 1 => by
  have ih0 := jf.vN k
  ·
   intro y0 y1 y2
   unfold jf.l0
   repeat' first
   | (with_reducible exact ih0 _ _ _)
   | (with_reducible exact LeO.refl _)
   | (with_reducible exact LeO.none _)
   | (with_reducible refine LeO.ite ?_ ?_)
   | (with_reducible refine LeO.bind ?_ (fun _ => ?_))
theorem jf.mono : ∀ a0 k, LeO (jf.f k a0) (jf.f (k + 1) a0) := by
 intro a0 k
 have ih0 := jf.vN k
 unfold jf.f
 repeat' first
   | (with_reducible exact ih0 _ _ _)
   | (with_reducible exact LeO.refl _)
   | (with_reducible exact LeO.none _)
   | (with_reducible refine LeO.ite ?_ ?_)
   | (with_reducible refine LeO.bind ?_ (fun _ => ?_))
def jf.T3 : Bool × List (List Nat × List Nat) := (true, [([], []), ([], []), ([], []), ([], []), ([], []), ([], []), ([4, 5], [4, 5]), ([6], [6]), ([], []), ([], []), ([8, 9], [8, 9]), ([10], [10]), ([0, 1, 0, 1, 4, 5, 6, 7, 11], [0, 1]), ([12, 7, 0, 1, 4, 5, 6, 7, 11], [7, 12]), ([2, 3, 0, 1, 2, 3, 4, 5, 6, 7, 8, 9, 10, 11, 12, 13], [2, 3]), ([14, 11, 13, 0, 1, 2, 3, 4, 5, 6, 7, 8, 9, 10, 11, 12, 13], [11, 14])])
def jf.B3 : List Nat := [0, 0, 0, 0, 0, 0, 48, 112, 0, 0, 768, 1792, 4083, 8179, 16383, 32767]
theorem jf.tab3 : rtab .any (opsOf Try.f95 3) = jf.T3 := by kernel_rfl
theorem jf.jLZ : jAj jf.T3.2 jf.B3 = true := by kernel_rfl
theorem jf.calls (k : Nat) (P0_ : Nat → Prop) (u9000_ : Value) (l0 : List Int) (r : List Int) (w0 w : World) (hB : Below w0.heap.size w0 w) (ho0 : Kd.R (Kd.int .u64) 22 w w0.heap.size P0_ u9000_ l0) (h : jf.f k l0 = some r) :
  Calls Try.prog 95 #[u9000_] w fun e w' => e = .returned (.tuple #[]) ∧ Kd.R (Kd.int .u64) 22 w' w0.heap.size (fun k_ => (P0_ k_ ∨ w.heap.size ≤ k_)) u9000_ r ∧ Below w0.heap.size w0 w' ∧ Kept w w' (fun k_ => P0_ k_) := by
 have HO0 := jA.mk (show Kd.R (Kd.int .u64) 22 w w0.heap.size (fun k_ => (P0_ k_ ∨ w.heap.size ≤ k_)) u9000_ l0 from Kd.jk ho0 (fun k_ hk => (.inl hk)))
 have HK := jA.mk (Kept.refl w (fun k_ => P0_ k_))
 have HW0 := jA.mk hB.size
 have HB := jA.mk hB
 clear hB
 have H : (jf.l0 k l0 0 (wrap64 ((l0.length : Int) - 1))) = some r := h
 clear h
 have H' := jA.mk H
 clear H
 obtain ⟨Ao2, co2, eo2⟩ := Kd.jm HO0.out
 subst eo2
 go_enter Try.func95, Try.ntmps95
 go_wp2
 go_loopg [2, 3] k (fun kq v2 v3 w' => ∃ (x0_1 : List Int) (x2_1 : Int) (x3_1 : Int), v2 = .int .i64 x2_1 ∧ v3 = .int .i64 x3_1 ∧ jA (jf.l0 kq x0_1 x2_1 x3_1 = some r) ∧ jA (kq ≤ k) ∧ jA (Kd.R (Kd.int .u64) 22 w' w0.heap.size (fun k_ => (P0_ k_ ∨ w.heap.size ≤ k_)) (.slice Ao2 l0.length co2) x0_1) ∧ jA (Kept w w' (fun k_ => P0_ k_)) ∧ jA (Below w0.heap.size w0 w'))
 case atStart => exact ⟨(l0), (0), (wrap64 ((l0.length : Int) - 1)), sd_, sd_, H', ⟨Nat.le_refl _⟩, ⟨(rR_ HO0)⟩, ⟨by repeat (first | (with_reducible first | exact HK.out | apply Kept.alloc | apply Kept.drewN | apply Kept.drew) | exact HK.out)⟩, ⟨(bb_ HB)⟩⟩
 case round =>
  clear H'
  try clear p2
  obtain ⟨x0_1, x2_1, x3_1, rfl, rfl, HA, HK1, HO_0, HK, HB⟩ := hrel
  have hl0_1 := (Kd.jF HO_0.out).1
  rw [hl0_1] at HO_0
  (try simp only [hl0_1])
  cases gk with
  | zero => exact absurd HA.out (by simp [jf.l0])
  | succ k1 =>
   have H := HA.out
   clear HA
   simp only [jf.l0] at H
   by_cases c3 : x2_1 < x3_1
   ·
    rw [if_pos c3] at H
    have c3b0 := decide_eq_true c3
    clear c3
    by_cases c4 : 0 ≤ x3_1
    ·
     rw [if_pos c4] at H
     have c4b0 := decide_eq_true c4
     clear c4
     by_cases c5 : x3_1 < (x0_1.length : Int)
     ·
      rw [if_pos c5] at H
      have c5b0 := decide_eq_true c5
      (try simp only [hl0_1] at c5b0)
      clear c5
      by_cases c6 : 0 ≤ x2_1
      ·
       rw [if_pos c6] at H
       have c6b0 := decide_eq_true c6
       clear c6
       by_cases c7 : x2_1 < (x0_1.length : Int)
       ·
        rw [if_pos c7] at H
        have c7b0 := decide_eq_true c7
        (try simp only [hl0_1] at c7b0)
        clear c7
        obtain ⟨y118, hy118⟩ : ∃ y_ : List Int, y_ = (x0_1.set (x2_1 : Int).toNat (rd x0_1 x3_1)) := ⟨_, rfl⟩
        replace H : (jf.l0 k1 (y118.set (x3_1 : Int).toNat (rd x0_1 x2_1)) (wrap64 (x2_1 + 1)) (wrap64 (x3_1 - 1))) = some r := by first | (rw [hy118]; with_reducible exact H) | (have H2_ := (Option.bind_some _ _).symm.trans H; rw [hy118]; with_reducible exact H2_) | (with_reducible exact hs_ H) | with_reducible exact H | (rw [hy118]; exact H) | exact H
        have Ny118 := jA.mk hy118
        clear hy118
        obtain ⟨y119, hy119⟩ : ∃ y_ : List Int, y_ = (y118.set (x3_1 : Int).toNat (rd x0_1 x2_1)) := ⟨_, rfl⟩
        replace H : (jf.l0 k1 y119 (wrap64 (x2_1 + 1)) (wrap64 (x3_1 - 1))) = some r := by first | (rw [hy119]; with_reducible exact H) | (have H2_ := (Option.bind_some _ _).symm.trans H; rw [hy119]; with_reducible exact H2_) | (with_reducible exact hs_ H) | with_reducible exact H | (rw [hy119]; exact H) | exact H
        have Ny119 := jA.mk hy119
        clear hy119
        have H' := jA.mk H
        clear H
        try go_wp2
        have n0_ := jA.mk (Kd.zM HO_0.out)
        have n1_ := jA.mk (Kept.drew HK.out)
        have n2_ := jA.mk (qF HB.out)
        clear HO_0
        clear HK
        clear HB
        have HO_0 := n0_
        have HK := n1_
        have HB := n2_
        clear n0_ n1_ n2_
        have p116 : 0 ≤ (x3_1 : Int) := of_decide_eq_true am_
        have q116 : x3_1 < (x0_1.length : Int) := of_decide_eq_true am_
        obtain ⟨ad116, e116, hx116_0⟩ := Kd.zD (Kd.jF HO_0.out).2.2 x3_1 p116 q116
        cases e116
        replace p116 := eq_true p116
        replace q116 := eq_true q116
        have p117 : 0 ≤ (x2_1 : Int) := of_decide_eq_true am_
        have q117 : x2_1 < (x0_1.length : Int) := of_decide_eq_true am_
        obtain ⟨ad117, e117, hx117_0⟩ := Kd.zD (Kd.jF HO_0.out).2.2 x2_1 p117 q117
        obtain rfl : ad116 = ad117 := (by injection e117)
        replace p117 := eq_true p117
        replace q117 := eq_true q117
        have p8 : 0 ≤ (x2_1 : Int) := of_decide_eq_true am_
        have q8 : (x2_1 : Int) < ((x0_1.length : Int) : Int) := of_decide_eq_true am_
        obtain ⟨go8, co8, eo8, gb8, gl8, cl8, HG8⟩ := Kd.jAA HO_0.out (by omega)
        (first | cases eo8 | (injection eo8 with ea_ en_ ec_; (first | subst ea_ | (injection ea_ with ea_; subst ea_)); subst ec_; clear en_))
        have GB8 := jA.mk gb8
        have GG8 := jA.mk HG8
        clear gb8 gl8 HG8
        have HMgo8 := jA.mk (show (P0_ go8 ∨ w.heap.size ≤ go8) from (HO_0.out.1 _ rfl))
        (first | simp only [add_plain] at hx116_0 | skip)
        (first | simp only [add_plain] at hx117_0 | skip)
        obtain ⟨hx8_0, hf8_0⟩ := Kd.zJ 0 HO_0.out (x2_1 : Int) p8 q8
        replace p8 := eq_true p8
        replace q8 := eq_true q8
        have HP11 := Kd.jHM HO_0.out (x2_1 : Int) (rd x0_1 x3_1)
        rw [← Ny118.out] at HP11
        have HQ11 := jA.mk HP11
        clear HP11
        have p9 : 0 ≤ (x3_1 : Int) := of_decide_eq_true am_
        have q9 : (x3_1 : Int) < ((x0_1.length : Int) : Int) := of_decide_eq_true am_
        obtain ⟨hx9_0, hf9_0⟩ := Kd.zJ 0 HQ11.out (x3_1 : Int) p9 q9
        replace p9 := eq_true p9
        replace q9 := eq_true q9
        have HP12 := Kd.jHM HQ11.out (x3_1 : Int) (rd x0_1 x2_1)
        rw [← Ny119.out] at HP12
        have HQ12 := jA.mk HP12
        clear HP12
        refine jAc (n := 16) (S := fun w' => w'.cell? ⟨go8, (x3_1).toNat, none⟩ = some (.int .u64 (rd x0_1 x3_1)) ∧ w'.cell? ⟨go8, (x2_1).toNat, none⟩ = some (.int .u64 (rd x0_1 x2_1))) (ds := [13, 15]) #[false, false, false, false, false, false, false, false, false, false, false, false, false, false, false, false] kr_ rfl rfl ⟨hx116_0, hx117_0⟩ (fun hHeld => ?_); refine jAX jf.tab3 jf.jLZ (fun HT_ HW_ => ?_)
        generalize wr.drew = w10 at HO_0 HK HB GG8 HQ11 HQ12 hf8_0 hf9_0 hx116_0 hx117_0 hx8_0 hx9_0 hHeld ⊢
        refine pu_ 0 (some 14) (ba_ 16 1) (vO HT_.out kr_) ?_
        refine pu_ 1 (some 15) (ba_ 16 3) (vO HT_.out kr_) ?_
        refine pu_ 2 (some 16) (ba_ 16 7) (vO HT_.out kr_) ?_
        refine pu_ 3 (some 17) (ba_ 16 15) (vO HT_.out kr_) ?_
        refine pu_ 4 (some 18) (ba_ 16 31) (vO HT_.out kr_) ?_
        refine pu_ 5 (some 19) (ba_ 16 63) (vO HT_.out kr_) ?_
        refine pu_ 6 (some 20) (ba_ 16 127) (vO HT_.out kr_) ?_
        refine pu_ 8 (some 22) (ba_ 16 383) (vO HT_.out kr_) ?_
        refine pu_ 9 (some 23) (ba_ 16 895) (vO HT_.out kr_) ?_
        refine pu_ 10 (some 24) (ba_ 16 1919) (vO HT_.out kr_) ?_
        refine tk2_ 7 (some 21) (ba_ 16 2047) (jAD HT_.out HW_.out kr_) hHeld ?_
        refine tk2_ 11 (some 25) (ba_ 16 4095) (jAD HT_.out HW_.out kr_) hHeld ?_
        refine pu_ 12 (some 26) (ba_ 16 8191) (vO HT_.out kr_) ?_
        refine jBS (i := 13) (N := none) (ba_ 16 16383) rfl rfl (ql HT_.out kr_) (by decide) (fun K hK => ?_)
        refine jAu (w1 := ?_) (by rfl) rfl ?_ ?_
        rotate_left
        ·
         go_simp
         rfl
        refine hK.out _ _ ?_
        clear hK K
        refine pu_ 14 (some 27) (ba_ 16 32767) (vO HT_.out kr_) ?_
        refine jBS (i := 15) (N := none) (ba_ 16 65535) rfl rfl (ql HT_.out kr_) (by decide) (fun K hK => ?_)
        refine jAu (w1 := ?_) (by rfl) rfl ?_ ?_
        rotate_left
        ·
         go_simp
         rfl
        refine hK.out _ _ ?_
        clear hK K
        refine jBZ (jBT HT_.out kr_) ?_
        try go_wp2
        (try simp only [← hl0_1])
        go_roundg k1
        case measure => have := HK1.out; omega
        case rel => exact ⟨(y119), (wrap64 (x2_1 + 1)), (wrap64 (x3_1 - 1)), sd_, sd_, H', ⟨by have := HK1.out; omega⟩, ⟨by (try simp only [hl0_1]); refine pR_ ?_; exact HQ12.out⟩, ⟨by repeat (first | (with_reducible first | exact HK.out | apply Kept.alloc | apply Kept.drewN | apply Kept.drew | refine Kept.setCell ?_ HMgo8.out _ | refine Kept.setCell ?_ HMgo8.out _) | exact HK.out)⟩, ⟨(bb2_ HB GB8 GB8)⟩⟩
       ·
        rw [if_neg c7] at H
        exact absurd H (by simp)
      ·
       rw [if_neg c6] at H
       exact absurd H (by simp)
     ·
      rw [if_neg c5] at H
      exact absurd H (by simp)
    ·
     rw [if_neg c4] at H
     exact absurd H (by simp)
   ·
    rw [if_neg c3] at H
    have c3b0 := decide_eq_false c3
    clear c3
    obtain rfl := Option.some.inj H
    go_wp2
    first | go_end0 | ((try simp only [Exit.inBlock, Exit.then]); refine bodyPost_ret (results_none rfl _ _ _) rfl ?_)
    exact ⟨ew_, (by first | exact (rR_ HO_0) | (simp only [hl0_1]; exact (rR_ HO_0))), (bb_ HB), by repeat (first | (with_reducible first | exact HK.out | apply Kept.alloc | apply Kept.drewN | apply Kept.drew) | exact HK.out)⟩

/-! ### octet_reader_natural: function 67 -/

namespace OctNat
open Oct
def chunks : Nat → ByteArray → List Int
 | 0, _ => []
 | n + 1, t => be (bytesOf (t.extract 0 8)) :: chunks n (t.extract 8 t.size)
theorem jBX : ∀ n t, (chunks n t).length = n
 | 0, _ => rfl
 | n + 1, t => by rw [chunks, List.length_cons, jBX n]
def nat_ (k : Nat) (s : ByteArray) : Option (Int ⊕ (List Int × ByteArray)) := match num s with
 | .inl c => some (.inl c)
 | .inr (n, t) => if 8 < n.toNat then some (.inl 62) else if t.size < 8 * n.toNat then some (.inl 60) else
  (jf.f k (chunks n.toNat (t.extract 0 (8 * n.toNat)))).bind fun l => (zn.f l).bind fun b => some (if b then .inr (l, t.extract (8 * n.toNat) t.size) else .inl 62)
def jJl (g : Nat) (w : World) (v : Int ⊕ (List Int × ByteArray)) (e : Ending) (w' : World) : Prop := match v with
 | .inl c => e = .panicked (pan c) ∧ jAt g w w'
 | .inr (l, t) => ∃ u, e = .returned u ∧ jAt g w w' ∧ w'.heap[g]? = some (.cells #[.string t] 86 (0, 0)) ∧ Kd.R (Kd.int .u64) 22 w' w.heap.size (fun _ => True) u l
def cut (g : Nat) (w : World) : World := { w with heap := w.heap.extract 0 g }
theorem jCM {g : Nat} {w : World} (h : g ≤ w.heap.size) : (cut g w).heap.size = g := by
 show (w.heap.extract 0 g).size = g
 rw [Array.size_extract]; omega
theorem jId {g i : Nat} {w : World} (h : g ≤ w.heap.size) (hi : i < g) : (cut g w).heap[i]? = w.heap[i]? := by
 show (w.heap.extract 0 g)[i]? = _
 rw [Array.getElem?_extract]
 rw [if_pos (by omega), Nat.zero_add]
theorem jGs {g : Nat} {w : World} (h : g ≤ w.heap.size) : Below (cut g w).heap.size (cut g w) w := by
 rw [jCM h]
 exact ⟨rfl, rfl, rfl, by rw [jCM h]; exact h, fun i hi => (jId h hi).symm⟩
theorem jEN {g : Nat} {w w' : World} (hb : Below g (cut g w) w') (hs : w.heap.size ≤ w'.heap.size) (h : g ≤ w.heap.size) : Below g w w' :=
 ⟨hb.os, hb.tape, hb.output, hs, fun i hi => (hb.block i hi).trans (jId h hi)⟩
theorem jDR (s : ByteArray) (k : Nat) : LeO (nat_ k s) (nat_ (k + 1) s) := by
 unfold nat_
 cases num s with
 | inl c => exact LeO.refl _
 | inr p => exact LeO.ite (LeO.refl _) (LeO.ite (LeO.refl _) (LeO.bind (jf.mono _ _) fun _ => LeO.refl _))
theorem jBq (k g : Nat) (s : ByteArray) (w : World) (v : Int ⊕ (List Int × ByteArray)) (hb : w.heap[g]? = some (.cells #[.string s] 86 (0, 0))) (hz : s.size ≤ 140737488351232) (h : nat_ k s = some v) :
  Calls Try.prog 67 #[.pointer (some ⟨g, 0, none⟩)] w (jJl g w v) := by
 have HB := jA.mk hb
 have HG := jA.mk (qK hb)
 clear hb
 unfold nat_ at h
 cases hn : num s with
 | inl c =>
  rw [hn] at h
  cases h
  have HN := jA.mk (jAG (g := g) (w := w) hn)
  clear hn
  go_enter Try.func67, Try.ntmps67
  go_wp2_with fail
  refine (jAf g s w HB.out hz).mono ?_
  rw [HN.out]
  rintro e w1 ⟨rfl, hb⟩
  exact ⟨rfl, rfl, hb⟩
 | inr p =>
  obtain ⟨n, t⟩ := p
  obtain ⟨m, rfl⟩ := Int.eq_ofNat_of_zero_le (jDQ hn)
  have hts := jBE hn
  rw [hn] at h
  simp only [Int.toNat_natCast] at h
  have HN := jA.mk (jAI (g := g) (w := w) hn)
  clear hn
  by_cases h8 : 8 < m
  ·
   rw [if_pos h8] at h
   cases h
   have t2 : decide ((m : Int) ≤ 8) = false := decide_eq_false (by omega)
   have t3 : decide (m ≤ 8) = false := decide_eq_false (by omega)
   go_enter Try.func67, Try.ntmps67
   go_wp2_with fail
   refine (jAf g s w HB.out hz).mono ?_
   rw [HN.out]
   rintro e w1 ⟨rfl, hb, hc⟩
   have HC := jA.mk hb
   clear hb hc
   go_wp2_with fail
   refine (jBu _).mono ?_
   rintro e w1 ⟨rfl, rfl⟩
   exact ⟨rfl, rfl, HC.out⟩
  ·
   rw [if_neg h8] at h
   have t2 : decide ((m : Int) ≤ 8) = true := decide_eq_true (by omega)
   have t3 : decide (m ≤ 8) = true := decide_eq_true (by omega)
   have hw : IntKind.u64.wrap (8 * (m : Int)) = ((8 * m : Nat) : Int) := by rw [IntKind.wrap_u64]; omega
   have HM := jA.mk h8
   clear h8
   by_cases hs : t.size < 8 * m
   ·
    rw [if_pos hs] at h
    cases h
    go_enter Try.func67, Try.ntmps67
    go_wp2_with fail
    refine (jAf g s w HB.out hz).mono ?_
    rw [HN.out]
    rintro e w1 ⟨rfl, hb, hc⟩
    have HC := jA.mk hb
    have HD := jA.mk hc
    clear hb hc
    go_wp2_with fail
    refine (jAk _).mono ?_
    rintro e w2 ⟨rfl, rfl⟩
    go_wp2_with fail
    rw [show 8 * (m : Int) = ((8 * m : Nat) : Int) from (Int.natCast_mul 8 m).symm]
    refine (jCT g (8 * m) t w1 HD.out (by omega) hs).mono ?_
    rintro e w2 ⟨rfl, rfl⟩
    exact ⟨rfl, rfl, HC.out⟩
   ·
    rw [if_neg hs] at h
    obtain ⟨l, hl, h⟩ := Option.bind_eq_some_iff.mp h
    obtain ⟨b, hm, h⟩ := Option.bind_eq_some_iff.mp h
    have hts2 : t.size ≤ 9223372036854775807 := by omega
    have HL := jA.mk hl
    have HMY := jA.mk hm
    have HV := jA.mk h
    have HZ := jA.mk hz
    clear hl hm h hz
    go_enter Try.func67, Try.ntmps67
    go_wp2_with fail
    refine (jAf g s w HB.out HZ.out).mono ?_
    rw [HN.out]
    rintro e w1 ⟨rfl, hb, hc⟩
    have HC := jA.mk hb
    have HD := jA.mk hc
    clear hb hc HN HB
    go_wp2_with fail
    refine (jAk _).mono ?_
    rintro e w2 ⟨rfl, rfl⟩
    go_wp2_with fail
    rw [show 8 * (m : Int) = ((8 * m : Nat) : Int) from (Int.natCast_mul 8 m).symm]
    clear hw
    refine (jAy g (8 * m) t w1 HD.out hts2 (by omega)).mono ?_
    rintro e w2 ⟨rfl, rfl⟩
    have HE := jA.mk (jw (cs' := #[.string (t.extract (8 * m) t.size)]) HD.out 0 (.string (t.extract (8 * m) t.size)) rfl)
    have HF := jA.mk (jDh HC.out (.string (t.extract (8 * m) t.size)))
    generalize w1.setCell ⟨g, 0, none⟩ (.string (t.extract (8 * m) t.size)) = w2 at HE HF ⊢
    clear HC HD w1
    have hx0 : (t.extract 0 (8 * m)).size = 8 * m := by rw [ByteArray.size_extract]; omega
    generalize t.extract 0 (8 * m) = x0 at HL hx0 ⊢
    have HX := jA.mk hx0
    clear hx0
    have HGW := jA.mk HG.out
    go_wp2_with fail
    go_loopw [2, 4] (fun v2 v4 w' => ∃ (done : List Int) (j : Nat) (x : ByteArray), v4 = .string x ∧ jA (x.size = 8 * j) ∧ jA (j ≤ m) ∧ jA (done ++ chunks j x = chunks m x0) ∧ jA (Kd.R (Kd.int .u64) 22 w' w.heap.size (fun _ => True) v2 done) ∧ jA (w'.heap[g]? = some (.cells #[.string (t.extract (8 * m) t.size)] 86 (0, 0))) ∧ jA (jAt g w w')) (fun _ v4 wr => match v4 with | .string x => x.size | _ => 0)
    case atStart => exact ⟨[], m, x0, rfl, HX, ⟨Nat.le_refl _⟩, ⟨rfl⟩, ⟨Kd.jCA _ _ _ _ _⟩, HE, HF⟩
    case round =>
     clear HX HE HF
     obtain ⟨done, j, x, rfl, HX, HJ, HD, HR, HE, HF⟩ := hrel
     cases j with
     | zero =>
      have e0 : (x.toList == ([] : List UInt8)) = true := by rw [beq_iff_eq, ByteArray.toList_eq, ← List.length_eq_zero_iff, qo]; have := HX.out; omega
      have e1 : (x.toList != ([] : List UInt8)) = false := by rw [bne_eq_false_iff_eq, ByteArray.toList_eq, ← List.length_eq_zero_iff, qo]; have := HX.out; omega
      have ed : done = chunks m x0 := by have := HD.out; rw [chunks, List.append_nil] at this; exact this
      rw [← ed] at HL
      clear HD ed HX
      obtain ⟨Ao, co, rfl⟩ := Kd.jm HR.out
      go_wp2_with fail
      have HRG := jA.mk (fun k_ (e_ : (Value.slice Ao done.length co).ownBlock = some k_) => Kd.zf HR.out k_ e_)
      have HFS := jA.mk HF.out.1.size
      refine (jf.calls k (fun k_ => some k_ = (Value.slice Ao done.length co).ownBlock) (.slice Ao done.length co) done l (cut g wr) wr (jGs (by have := HG.out; have := HFS.out; omega)) (by rw [jCM (by have := HG.out; have := HFS.out; omega)]; exact Kd.jU (Kd.jDa rfl HR.out) (Nat.le_of_lt HG.out)) HL.out).mono ?_
      rintro e w3 ⟨rfl, hy, hb, hk⟩
      rw [jCM (by have := HG.out; have := HFS.out; omega)] at hy hb
      have HE3 := jA.mk (jIP HE.out hk (fun e_ => by have := HRG.out g e_.symm; have := HG.out; omega))
      have HF3 := jA.mk (show jAt g w w3 from ⟨HF.out.1.trans (jEN hb hk.1 (by have := HG.out; have := HFS.out; omega)), Nat.le_trans HF.out.2.1 hk.1, fun i hi hg hr => (hk.2 i (Nat.lt_of_lt_of_le hi HFS.out) (fun e_ => by have := HRG.out i e_.symm; omega)).trans (HF.out.2.2 i hi hg hr)⟩)
      have HR3 := jA.mk (Kd.jKz (ok := fun _ => True) rfl (Kd.jJk (d := (Kd.int .u64)) (b := g) (b' := w.heap.size) (fun _ _ _ _ h_ => h_) hy HRG.out) (fun _ _ => trivial))
      clear hy hb hk HE HF HR
      have HQ := jA.mk (Kd.jF HR3.out)
      go_wp2_with fail
      rw [show (done.length : Nat) = l.length from HQ.out.1]
      refine (zn.calls Ao co l b w3 HQ.out.2.2 (HQ.out.1 ▸ HQ.out.2.1) HMY.out).mono ?_
      rintro e w4 ⟨rfl, ⟨nd, rfl⟩⟩
      go_wp2_with fail
      cases b with
      | false =>
       refine (jBu _).mono ?_
       rintro e w5 ⟨rfl, rfl⟩
       have := HV.out
       cases this
       exact ⟨rfl, rfl, ⟨zU HF3.out.1 nd, HF3.out.2⟩⟩
      | true =>
       refine (jAk _).mono ?_
       rintro e w5 ⟨rfl, rfl⟩
       have hv := HV.out
       cases hv
       go_wp2
       go_ret
       exact ⟨_, rfl, ⟨zU HF3.out.1 nd, HF3.out.2⟩, jAZ HE3.out nd, Kd.zN (by rw [HQ.out.1] at HR3; exact HR3.out) nd⟩
     | succ j =>
      have hx8 : 8 ≤ x.size := by have := HX.out; omega
      have e0 : (x.toList == ([] : List UInt8)) = false := by rw [beq_eq_false_iff_ne, ByteArray.toList_eq, Ne, ← List.length_eq_zero_iff, qo]; omega
      have e1 : (x.toList != ([] : List UInt8)) = true := by rw [bne_iff_ne, ByteArray.toList_eq, Ne, ← List.length_eq_zero_iff, qo]; omega
      have c8 : (8 : Int) ≤ (x.size : Int) := by omega
      have hz8 : (x.extract 0 8).size = 8 := by rw [ByteArray.size_extract]; omega
      have hz9 : (x.extract 8 x.size).size = 8 * j := by rw [ByteArray.size_extract]; have := HX.out; omega
      have hlen : done.length ≤ 8 := by
       have := congrArg List.length HD.out
       rw [List.length_append, jBX, jBX] at this
       have := HM.out; omega
      have HD2 : done ++ [be (bytesOf (x.extract 0 8))] ++ chunks j (x.extract 8 x.size) = chunks m x0 := by rw [List.append_assoc]; exact HD.out
      have HZ8 := jA.mk hz8
      have HZ9 := jA.mk hz9
      have HLN := jA.mk hlen
      have HD3 := jA.mk HD2
      have HX8 := jA.mk hx8
      clear HD HD2 hz8 hz9 hlen hx8 HX
      have HGR := jA.mk (show g < wr.heap.size from Nat.lt_of_lt_of_le HG.out HF.out.1.size)
      have HWR := jA.mk HF.out.1.size
      go_wp2_with fail
      refine (jEM (x.extract 0 8) wr (by have := HZ8.out; omega)).mono ?_
      rintro e w3 ⟨rfl, hv⟩
      generalize be (bytesOf (x.extract 0 8)) = cc at HD3 ⊢
      have HE3 := jA.mk (vw HE.out hv)
      have HF3 := jA.mk (jBd HG.out HF.out hv)
      have HR3 := jA.mk (Kd.qd HR.out hv)
      have HW3 := jA.mk (Nat.le_trans HWR.out hv.size)
      clear hv HE HF HR HGR HWR
      go_wp2_with ((with_reducible refine vU (b := .append) (xs := #[.tmp 18, .tmp 22]) rfl ?_); at_builtin; refine Kd.qM (Kd.int .u64) w.heap.size rfl (.tmp 18) (.tmp 22) 36 22 (.int .u64 0) 8 rfl Try.underlying36 zw rfl (by decide) (by omega) u2 done cc [.int .u64 cc] (fun _ => True) (fun _ => False) rfl rfl ?aP (fun _ hk => hk.elim) ?aF ?aO (Below.refl _ _) ?aS ?aL ?_; (case aP => exact rfl); (case aF => exact (fun _ _ => trivial)); (case aO => exact HR3.out); (case aS => exact HW3.out); (case aL => have := HLN.out; omega); intro v4 w4 ho hb hg hat; have HE4 := jA.mk (jAw HE3.out hg (fun e_ => by have := Kd.zf HR3.out g e_.symm; have := HG.out; omega)); have HF4 := jA.mk (jGA HG.out HF3.out hb); have HR4 := jA.mk ho; clear ho hb hg hat HE3 HF3 HR3)
      go_roundw
      case rel => exact ⟨done ++ [cc], j, x.extract 8 x.size, rfl, HZ9, ⟨by have := HJ.out; omega⟩, HD3, HR4, HE4, HF4⟩
      case measure =>
       show (x.extract 8 x.size).size < x.size
       rw [ByteArray.size_extract]; have := HX8.out; omega
end OctNat

/-! ### zC: function 22 -/
namespace zC
open Oct
theorem jFw (p q : Addr) (x y : Value) (w : World) (hp : w.cell? p = some x) (hq : w.cell? q = some y) (fp : w.frozen? p = false) (fq : w.frozen? q = false) (hpq : p.block ≠ q.block) :
  Calls Try.prog 66 #[.pointer (some p), .pointer (some q)] w fun e w' => e = .returned (.tuple #[]) ∧ w' = (w.setCell p (.slice none 0 0)).setCell q (.string { data := #[] }) := by
 have hq' : (w.setCell p (.slice none 0 0)).cell? q = some y := by rw [World.cell?_setCell_other _ _ _ _ (fun e => hpq (by rw [e]))]; exact hq
 go_enter Try.func66, Try.ntmps66
 go_wp2
 go_end0
 exact ⟨rfl, rfl⟩
def jBy (s : ByteArray) (w : World) : World := (((w.alloc (.cells #[.slice none 0 0] 36)).alloc (.cells #[.string { data := #[] }] 9)).alloc (.cells #[.int .i64 0] 28)).alloc (.cells #[.string s] 86)
theorem zi (w : World) (o : Obj) : (w.alloc o).heap.size = w.heap.size + 1 := Array.size_push _
theorem jFt (s : ByteArray) (w : World) : (jBy s w).heap[w.heap.size]? = some (.cells #[.slice none 0 0] 36 (0, 0)) := vP (vP (vP (qE _ _) _) _) _
theorem jFr (s : ByteArray) (w : World) : (jBy s w).heap[w.heap.size + 1]? = some (.cells #[.string { data := #[] }] 9 (0, 0)) := by rw [← zi w (.cells #[.slice none 0 0] 36)]; exact vP (vP (qE _ _) _) _
theorem jFp (s : ByteArray) (w : World) : (jBy s w).heap[w.heap.size + 1 + 1]? = some (.cells #[.int .i64 0] 28 (0, 0)) := by rw [← zi w (.cells #[.slice none 0 0] 36), ← zi _ (.cells #[.string { data := #[] }] 9)]; exact vP (qE _ _) _
theorem jFn (s : ByteArray) (w : World) : (jBy s w).heap[w.heap.size + 1 + 1 + 1]? = some (.cells #[.string s] 86 (0, 0)) := by rw [← zi w (.cells #[.slice none 0 0] 36), ← zi _ (.cells #[.string { data := #[] }] 9), ← zi _ (.cells #[.int .i64 0] 28)]; exact qE _ _
theorem jCq (s : ByteArray) (w : World) : (jBy s w).heap.size = w.heap.size + 1 + 1 + 1 + 1 := by unfold jBy; rw [zi, zi, zi, zi]
theorem jCQ (s : ByteArray) (w : World) : Below w.heap.size w (jBy s w) :=
 jy (jy (jy (jy (Below.refl _ w) _) _) _) _
set_option maxHeartbeats 4000000 in
theorem jGf (k : Nat) (s : ByteArray) (w : World) (c : Int) (hn : OctNat.nat_ k s = some (.inl c)) (hz : s.size ≤ 140737488351232) :
  Calls Try.prog 22 #[.string s] w fun e w' => e = .returned (.tuple #[.slice none 0 0, .string { data := #[] }, .int .i64 c]) ∧ Below w.heap.size w w' := by
 have hmf : ∀ (fn : Fn) (first cap : Array Value) (w : World), (Instr.makeFunc fn first cap).run Try.prog w = .ok (.func fn first cap) w := fun _ _ _ _ => rfl
 have H0 := jA.mk (jFt s w)
 have H1 := jA.mk (jFr s w)
 have H2 := jA.mk (jFp s w)
 have H3 := jA.mk (jFn s w)
 have HW := jA.mk (jCQ s w)
 have HZ := jA.mk (jCq s w)
 have HN := jA.mk hn
 clear hn
 go_enter_defers Try.func22, Try.ntmps22
 go_wp2_with fail
 refine (show Calls Try.prog 67 _ (jBy s w) (OctNat.jJl _ (jBy s w) _) from OctNat.jBq k _ s _ _ H3.out hz HN.out).mono ?_
 generalize jBy s w = W at H0 H1 H2 H3 HW HZ ⊢
 rintro e w1 ⟨rfl, ⟨hb, _⟩⟩
 have C0 := jA.mk ((hb.block _ (by omega)).trans H0.out)
 have C1 := jA.mk ((hb.block _ (by omega)).trans H1.out)
 have C2 := jA.mk ((hb.block _ (by omega)).trans H2.out)
 have CB := jA.mk (HW.out.trans (hb.mono (by omega)))
 clear hb
 show bodyPostD Try.prog Try.f22 _ (Exit.panic _) _ _
 unfold bodyPostD pan
 refine leaves_cons (f := 59) (args := #[.pointer (some ⟨w.heap.size + 1 + 1, 0, none⟩), .func (.func 66) #[] #[.pointer (some ⟨w.heap.size, 0, none⟩), .pointer (some ⟨w.heap.size + 1, 0, none⟩)]]) (by simp) kr_ ?_
 have D0 := jd (p := ⟨w.heap.size + 1 + 1, 0, none⟩) C0.out (by simp; omega) (.int .i64 c)
 have D1 := jd (p := ⟨w.heap.size + 1 + 1, 0, none⟩) C1.out (by simp) (.int .i64 c)
 have DB := (CB.out.setCell (p := ⟨w.heap.size + 1 + 1, 0, none⟩) (by simp; omega) (.int .i64 c))
 have HU := jFw ⟨w.heap.size, 0, none⟩ ⟨w.heap.size + 1, 0, none⟩ _ _ _ ((jJ D0 0).trans rfl) ((jJ D1 0).trans rfl) (jT D0 0) (jT D1 0) (by simp)
 have DU := (DB.setCell (p := ⟨w.heap.size, 0, none⟩) (by simp) (.slice none 0 0)).setCell (p := ⟨w.heap.size + 1, 0, none⟩) (by simp) (.string { data := #[] })
 have E2 := jd (p := ⟨w.heap.size + 1, 0, none⟩) (jd (p := ⟨w.heap.size, 0, none⟩) (jw (cs' := #[.int .i64 c]) C2.out 0 (.int .i64 c) rfl) (by simp; omega) (.slice none 0 0)) (by simp) (.string { data := #[] })
 have E0 := jd (p := ⟨w.heap.size + 1, 0, none⟩) (jw (cs' := #[.slice none 0 0]) D0 0 (.slice none 0 0) rfl) (by simp) (.string { data := #[] })
 have E1 := jw (cs' := #[.string { data := #[] }]) (jd (p := ⟨w.heap.size, 0, none⟩) D1 (by simp) (.slice none 0 0)) 0 (.string { data := #[] }) rfl
 refine (jAY ⟨w.heap.size + 1 + 1, 0, none⟩ 0 c 66 Try.f66 _ [] w1 _ ((jJ C2.out 0).trans rfl) (jT C2.out 0) (fun _ _ => kr_) HU).mono ?_
 rintro e u' w'' ⟨rfl, rfl, rfl⟩
 have F2 := (jJ E2 0).trans (show _ = some (.int .i64 c) from rfl)
 have F0 := (jJ E0 0).trans (show _ = some (.slice none 0 0) from rfl)
 have F1 := (jJ E1 0).trans (show _ = some (.string { data := #[] }) from rfl)
 clear E0 E1 E2 HU D0 D1 DB
 generalize ((w1.setCell ⟨w.heap.size + 1 + 1, 0, none⟩ (.int .i64 c)).setCell ⟨w.heap.size, 0, none⟩ (.slice none 0 0)).setCell ⟨w.heap.size + 1, 0, none⟩ (.string { data := #[] }) = w3 at DU F0 F1 F2 ⊢
 simp [Leaves, settle, results, Try.results22, go_sem, F0, F1, F2]
 exact DU

set_option maxHeartbeats 4000000 in
theorem jFc (s : ByteArray) (w : World) (k : Nat) (r : List Int) (t : ByteArray) (hn : OctNat.nat_ k s = some (.inr (r, t))) (hz : s.size ≤ 140737488351232) :
  Calls Try.prog 22 #[.string s] w fun e w' => ∃ u, e = .returned (.tuple #[u, .string t, .int .i64 0]) ∧ Kd.R (Kd.int .u64) 22 w' w.heap.size (fun _ => True) u r ∧ Below w.heap.size w w' := by
 have hmf : ∀ (fn : Fn) (first cap : Array Value) (w : World), (Instr.makeFunc fn first cap).run Try.prog w = .ok (.func fn first cap) w := fun _ _ _ _ => rfl
 have H0 := jA.mk (jFt s w)
 have H1 := jA.mk (jFr s w)
 have H2 := jA.mk (jFp s w)
 have H3 := jA.mk (jFn s w)
 have HW := jA.mk (jCQ s w)
 have HZ := jA.mk (jCq s w)
 have HN := jA.mk hn
 clear hn
 go_enter_defers Try.func22, Try.ntmps22
 go_wp2_with fail
 refine (show Calls Try.prog 67 _ (jBy s w) (OctNat.jJl _ (jBy s w) _) from OctNat.jBq k _ s _ _ H3.out hz HN.out).mono ?_
 generalize jBy s w = W at H0 H1 H2 H3 HW HZ ⊢
 rintro e w1 ⟨u, rfl, ⟨hb, _⟩, h3, hv⟩
 obtain ⟨A, c, rfl⟩ := Kd.jm hv
 clear HN
 have C0 := (hb.block _ (by omega)).trans H0.out
 have C1 := (hb.block _ (by omega)).trans H1.out
 have C2 := (hb.block _ (by omega)).trans H2.out
 have CB := HW.out.trans (hb.mono (by omega))
 have X3 := (jJ h3 0).trans (show _ = some (.string t) from rfl)
 have X0 := (jJ C0 0).trans (show _ = some (.slice none 0 0) from rfl)
 have Z0 := jT C0 0
 have HZ0 := HZ
 clear hb HW H0 H1 H2 H3 HZ
 have CBB := jA.mk CB
 have D0 := jA.mk (jw (cs' := #[.slice A r.length c]) C0 0 (.slice A r.length c) rfl)
 have D1 := jA.mk (jd (p := ⟨w.heap.size, 0, none⟩) C1 (by simp) (.slice A r.length c))
 have D2 := jA.mk (jd (p := ⟨w.heap.size, 0, none⟩) C2 (by simp; omega) (.slice A r.length c))
 have D3 := jA.mk (jd (p := ⟨w.heap.size, 0, none⟩) h3 (by simp; omega) (.slice A r.length c))
 have DB := jA.mk (CB.setCell (p := ⟨w.heap.size, 0, none⟩) (by simp) (.slice A r.length c))
 have HV0 := Kd.jU (Kd.jk (Kd.qY hv) (fun k_ hk_ => (show w.heap.size + 1 + 1 + 1 + 1 ≤ k_ from HZ0.out ▸ hk_.2.1))) (show w.heap.size ≤ W.heap.size by have := HZ0.out; omega)
 have HV1 := jA.mk (Oct.jEH (p := ⟨w.heap.size, 0, none⟩) HV0 (by show w.heap.size < _; omega) (.slice A r.length c))
 clear hv HV0 HZ0
 clear C0 C1 C2 CB h3
 go_wp2
 generalize w1.setCell ⟨w.heap.size, 0, none⟩ (.slice A r.length c) = v0 at D0 D1 D2 D3 DB HV1 ⊢
 refine jDI ?_
 refine jAc (n := 8) (S := fun w' => w'.heap[w.heap.size]? = some (.cells #[.slice A r.length c] 36 (0, 0)) ∧ w'.heap[w.heap.size + 1]? = some (.cells #[.string { data := #[] }] 9 (0, 0)) ∧ w'.heap[w.heap.size + 1 + 1]? = some (.cells #[.int .i64 0] 28 (0, 0)) ∧ w'.heap[w.heap.size + 1 + 1 + 1]? = some (.cells #[.string t] 86 (0, 0)) ∧ Below w.heap.size w w' ∧ Kd.R (Kd.int .u64) 22 w' w.heap.size (fun k_ => w.heap.size + 1 + 1 + 1 + 1 ≤ k_) (.slice A r.length c) r) (ds := [6, 7]) #[false, false, false, false, false, false, false, false] kr_ rfl rfl ⟨vk D0.out, vk D1.out, vk D2.out, vk D3.out, ze DB.out, Kd.zM HV1.out⟩ (fun hHeld => ?_)
 generalize v0.drew = u0 at hHeld ⊢
 clear D0 D1 D2 D3 DB HV1
 refine jBM (i := 0) (N := some 12) (v := ?_) (a' := ?_) (ba_ 8 1) rfl rfl kr_ (fun _ _ _ h => h) (Or.inl ⟨by rfl, ?_⟩) hHeld ?_ ?_
 rotate_left
 ·
  rintro w' ⟨s0_, s1_, s2_, s3_, s4_, s5_⟩
  have hc := (jJ s0_ 0).trans (show _ = some (.slice A r.length c) from rfl)
  go_simp
  with_reducible rfl
 rotate_left
 ·
  simp only [Act.put, ss_, zF, zW]
  rfl
 refine pu_ 1 (some 13) (ba_ 8 3) kr_ ?_
 refine pu_ 2 (some 14) (ba_ 8 7) kr_ ?_
 refine pu_ 3 (some 15) (ba_ 8 15) kr_ ?_
 refine jBM (i := 4) (N := some 16) (v := ?_) (a' := ?_) (ba_ 8 31) rfl rfl kr_ (fun _ _ _ h => h) (Or.inl ⟨by rfl, ?_⟩) hHeld ?_ ?_
 rotate_left
 ·
  rintro w' ⟨s0_, s1_, s2_, s3_, s4_, s5_⟩
  have hc := (jJ s3_ 0).trans (show _ = some (.string t) from rfl)
  go_simp
  with_reducible rfl
 rotate_left
 ·
  simp only [Act.put, ss_, zF, zW]
  rfl
 obtain ⟨s0_, s1_, s2_, s3_, s4_, s5_⟩ := hHeld
 refine one_ (i := 5) (N := none) (ba_ 8 63) rfl rfl kr_ (by decide) (fun K hK => ?_)
 have hc := (jJ s0_ 0).trans (show _ = some (.slice A r.length c) from rfl)
 have hf := jT s0_ 0
 refine jAu (w1 := ?_) (by rfl) rfl ?_ ?_
 rotate_left
 ·
  go_simp
  rfl
 refine hK.out _ _ ⟨jw s0_ 0 (.slice A r.length c) rfl, jd (p := ⟨w.heap.size, 0, none⟩) s1_ (by simp) (.slice A r.length c), jd (p := ⟨w.heap.size, 0, none⟩) s2_ (by simp; omega) (.slice A r.length c), jd (p := ⟨w.heap.size, 0, none⟩) s3_ (by simp; omega) (.slice A r.length c), s4_.setCell (p := ⟨w.heap.size, 0, none⟩) (by simp) (.slice A r.length c), Oct.jEH (p := ⟨w.heap.size, 0, none⟩) s5_ (by show w.heap.size < _; omega) (.slice A r.length c)⟩ (fun hHeld => ?_)
 clear hK K
 obtain ⟨s0_, s1_, s2_, s3_, s4_, s5_⟩ := hHeld
 refine jBS (i := 6) (N := none) (ba_ 8 127) rfl rfl kr_ (by decide) (fun K hK => ?_)
 have hc := (jJ s1_ 0).trans (show _ = some (.string { data := #[] }) from rfl)
 have hf := jT s1_ 0
 refine jAu (w1 := ?_) (by rfl) rfl ?_ ?_
 rotate_left
 ·
  go_simp
  rfl
 refine hK.out _ _ ?_
 clear hK K
 have e0 := jd (p := ⟨w.heap.size + 1, 0, none⟩) s0_ (by simp) (.string t)
 have e1 := jw (cs' := #[.string t]) s1_ 0 (.string t) rfl
 have e2 := jd (p := ⟨w.heap.size + 1, 0, none⟩) s2_ (by simp) (.string t)
 have e4 := s4_.setCell (p := ⟨w.heap.size + 1, 0, none⟩) (by simp) (.string t)
 have c2 := (jJ s2_ 0).trans (show _ = some (.int .i64 0) from rfl)
 have z2 := jT s2_ 0
 have e5 := Oct.jEH (p := ⟨w.heap.size + 1, 0, none⟩) s5_ (by show w.heap.size + 1 < _; omega) (.string t)
 clear s5_
 clear s0_ s1_ s2_ s3_ s4_
 refine jBS (i := 7) (N := none) (ba_ 8 255) rfl rfl kr_ (by decide) (fun K hK => ?_)
 have hc := (jJ e2 0).trans (show _ = some (.int .i64 0) from rfl)
 have hf := jT e2 0
 refine jAu (w1 := ?_) (by rfl) rfl ?_ ?_
 rotate_left
 ·
  go_simp
  rfl
 refine hK.out _ _ ?_
 clear hK K
 have f0 := (jJ (jd (p := ⟨w.heap.size + 1 + 1, 0, none⟩) e0 (by simp; omega) (.int .i64 0)) 0).trans (show _ = some (.slice A r.length c) from rfl)
 have f1 := (jJ (jd (p := ⟨w.heap.size + 1 + 1, 0, none⟩) e1 (by simp) (.int .i64 0)) 0).trans (show _ = some (.string t) from rfl)
 have f2 := (jJ (jw (cs' := #[.int .i64 0]) e2 0 (.int .i64 0) rfl) 0).trans (show _ = some (.int .i64 0) from rfl)
 have f4 := e4.setCell (p := ⟨w.heap.size + 1 + 1, 0, none⟩) (by simp; omega) (.int .i64 0)
 have f5 := Oct.jEH (p := ⟨w.heap.size + 1 + 1, 0, none⟩) e5 (by show w.heap.size + 1 + 1 < _; omega) (.int .i64 0)
 clear e5
 clear e0 e1 e2 e4
 refine jBZ kr_ ?_
 refine jAU ?_
 refine (‹∀ (a : Act) (w : World), Code.wp Try.prog Code.ret _ a w → _›) _ _ ?_
 clear hc hf c2 z2 X3 X0 Z0 CBB
 go_wp2
 generalize ((u0.setCell ⟨w.heap.size, 0, none⟩ (.slice A r.length c)).setCell ⟨w.heap.size + 1, 0, none⟩ (.string t)).setCell ⟨w.heap.size + 1 + 1, 0, none⟩ (.int .i64 0) = w3 at f0 f1 f2 f4 f5 ⊢
 unfold bodyPostD
 refine leaves_cons (f := 59) (args := #[.pointer (some ⟨w.heap.size + 1 + 1, 0, none⟩), .func (.func 66) #[] #[.pointer (some ⟨w.heap.size, 0, none⟩), .pointer (some ⟨w.heap.size + 1, 0, none⟩)]]) (by simp) kr_ ?_
 refine (jBG _ _ _).mono ?_
 rintro e u' w'' ⟨rfl, rfl, rfl⟩
 simp [Leaves, settle, results, Try.results22, go_sem, f0, f1, f2]
 exact ⟨Kd.jk f5 (fun _ _ => trivial), f4⟩
end zC

def zC.f (k : Nat) (a0 : ByteArray) : Option (List Int × ByteArray × Int) := if a0.size ≤ 140737488351232 then ((OctNat.nat_ k a0).bind fun v_ => some (match v_ with | .inl c => ([], { data := #[] }, c) | .inr (l, t) => (l, t, 0))) else none
theorem zC.mono : ∀ a0 k, LeO (zC.f k a0) (zC.f (k + 1) a0) := by
 intro a0 k
 unfold zC.f
 exact LeO.ite (LeO.bind (OctNat.jDR a0 k) fun _ => LeO.refl _) (LeO.refl _)
theorem zC.calls (k : Nat) (a0 : ByteArray) (r1 : List Int) (r2 : ByteArray) (r3 : Int) (w : World) (h : zC.f k a0 = some (r1, r2, r3)) :
  Calls Try.prog 22 #[.string a0] w fun e w' => ∃ v0_ : Value, e = .returned (.tuple #[v0_, .string r2, .int .i64 r3]) ∧ Kd.R (Kd.int .u64) 22 w' w.heap.size (fun _ => True) v0_ r1 ∧ Below w.heap.size w w' := by
 unfold zC.f at h
 by_cases hz : a0.size ≤ 140737488351232
 ·
  rw [if_pos hz] at h
  obtain ⟨v, hv, h⟩ := Option.bind_eq_some_iff.mp h
  cases v with
  | inl c =>
   cases h
   refine (zC.jGf k a0 w _ hv hz).mono ?_
   rintro e w' ⟨he, hb⟩
   exact ⟨_, he, Kd.jCA _ _ _ _ _, hb⟩
  | inr p =>
   obtain ⟨l, t⟩ := p
   cases h
   exact zC.jFc a0 w k _ _ hv hz
 ·
  rw [if_neg hz] at h; cases h

end Go.Proofs.Ytijgeonhbmgikaa.POOctetGets
