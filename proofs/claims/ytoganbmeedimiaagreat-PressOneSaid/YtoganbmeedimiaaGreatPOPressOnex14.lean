-- printed (pr.py)
import Derived.Test.YtoganbmeedimiaaGreatPOPressOnex2
namespace Go.Proofs.YtoganbmeedimiaaGreat.POPressOne
open Go.RowKit Go.Proofs.YtoganbmeedimiaaGreatN Go.Proofs.YtoganbmeedimiaaGreatW.PrintWords Go.Proofs.YtoganbmeedimiaaGreatW.PrintLast Go.Proofs.YtoganbmeedimiaaGreatW.PrintMore
attribute [local go_sem] zV zR qA zy vZ vY zU zQ
set_option maxHeartbeats 8000000
set_option maxRecDepth 100000
set_option linter.unusedVariables false
set_option linter.unusedSimpArgs false
namespace Oct
def pan (n : Int) : List PanicEntry := [{ v := .iface 27 (.int .i64 n), recovered := false }]
theorem jAb (w : World) : Calls Tryz.prog 112 #[.bool true] w fun e w' => e = .returned (.tuple #[]) ∧ w = w' := by
 go_enter Tryz.func112, Tryz.ntmps112
 go_wp2
 go_end0
 exact ⟨rfl, rfl⟩
theorem jCl (w : World) : Calls Tryz.prog 112 #[.bool false] w fun e w' => e = .panicked (pan 62) ∧ w = w' := by
 go_enter Tryz.func112, Tryz.ntmps112
 go_wp2
 exact ⟨rfl, rfl, rfl⟩
set_option maxHeartbeats 1000000 in
theorem jBT (g n : Nat) (s : ByteArray) (w : World) (hb : w.heap[g]? = some (.cells #[.string s] 135 (0, 0))) (hz : s.size ≤ 9223372036854775807) (hn : n ≤ s.size) :
  Calls Tryz.prog 111 #[.pointer (some ⟨g, 0, none⟩), .int .u64 n] w fun e w' => e = .returned (.string (s.extract 0 n)) ∧ w.setCell ⟨g, 0, none⟩ (.string (s.extract n s.size)) = w' := by
 have hc : w.cell? ⟨g, 0, none⟩ = some (.string s) := (jB hb 0).trans rfl
 have hf := jP hb 0
 have h1 : decide (s.size < n) = false := decide_eq_false (by omega)
 have h2 : decide ((s.size : Int) < (n : Int)) = false := decide_eq_false (by omega)
 clear hb
 go_enter Tryz.func111, Tryz.ntmps111
 go_wp2
 go_ret
 exact ⟨rfl, rfl⟩
theorem jFI (g n : Nat) (s : ByteArray) (w : World) (hb : w.heap[g]? = some (.cells #[.string s] 135 (0, 0))) (hz : s.size ≤ 9223372036854775807) (hn : s.size < n) :
  Calls Tryz.prog 111 #[.pointer (some ⟨g, 0, none⟩), .int .u64 n] w fun e w' => e = .panicked (pan 60) ∧ w = w' := by
 have hc : w.cell? ⟨g, 0, none⟩ = some (.string s) := (jB hb 0).trans rfl
 have h1 : decide (s.size < n) = true := decide_eq_true (by omega)
 clear hb
 go_enter Tryz.func111, Tryz.ntmps111
 go_wp2
 exact ⟨rfl, rfl, rfl⟩
def stp (n c : Int) : Int := Go.bits .or .u64 (IntKind.u64.wrap (n * 256)) (IntKind.u64.wrap c)
def be (l : List Int) : Int := l.foldl stp 0
theorem jOp (l : List Int) (c : Int) : be (l ++ [c]) = stp (be l) c := by unfold be; rw [List.foldl_append]; rfl
theorem jJw (l : List Int) (k : Nat) (h : k < l.length) : l.take (k + 1) = l.take k ++ [l.getD k 0] := by
 rw [List.take_succ_eq_append_getElem h, List.getD_eq_getElem?_getD, List.getElem?_eq_getElem h]; rfl
set_option maxHeartbeats 1000000 in
theorem jHB (s : ByteArray) (w : World) (hz : s.size ≤ 140737488351232) :
  Calls Tryz.prog 113 #[.string s] w fun e w' => e = .returned (.int .u64 (be (bytesOf s))) ∧ Below w.heap.size w w' := by
 have kb := fun W => jHN (P := Tryz.prog) 9 58 5 Tryz.underlying9 Tryz.underlying58 Tryz.underlying5 s W
 have HR := jA.mk (jHi w 5 s (by omega))
 have HD := jA.mk (jHj (Below.refl w.heap.size w) (Nat.le_refl _) 5 s)
 go_enter Tryz.func113, Tryz.ntmps113
 go_wp2
 generalize Lib.bytesWorld w 5 s = w1 at HR HD ⊢
 clear kb
 go_loop [2, 8] (fun n i => ∃ k : Nat, k ≤ s.size ∧ i = .int .i64 k ∧ n = .int .u64 (be ((bytesOf s).take k))) (fun _ i => s.size - (intOf i).toNat)
 case atStart => exact ⟨0, Nat.zero_le _, rfl, rfl⟩
 case round =>
  obtain ⟨k, hk, rfl, rfl⟩ := hrel
  by_cases hlt : k < s.size
  rotate_left
  ·
   go_wp2
   go_ret
   exact ⟨congrArg (fun l => Ending.returned (.int .u64 (be l))) (List.take_of_length_le (by rw [bytesOf_length]; omega)), HD.out⟩
  have hc : w1.cell? ⟨w.heap.size, k, none⟩ = some (.int .u8 ((bytesOf s).getD k 0)) := by
   obtain ⟨ad, e, hc⟩ := HR.out.2.2 (by omega)
   cases e
   have := hc k hlt
   by_cases h0 : k = 0
   ·
    subst h0; simpa [Addr.add] using this
   simpa [Addr.add, h0] using this
  have HS := jA.mk (show be ((bytesOf s).take (k + 1)) = stp (be ((bytesOf s).take k)) ((bytesOf s).getD k 0) by rw [jJw _ _ (by rw [bytesOf_length]; exact hlt), jOp])
  go_wp2
  go_round
  case rel => exact ⟨k + 1, by omega, by go_num, by rw [HS.out]; unfold stp; simp⟩
  case measure => simp [intOf]; omega
theorem jPJ {w w1 : World} {g B : Nat} {o : Obj} (h : w.heap[g]? = some o) (hb : Below B w w1) (hg : g < B) : w1.heap[g]? = some o := (hb.block g hg).trans h
/-- What lies below g stays, and but for g what was there at all. -/
def jAp (g : Nat) (w w' : World) : Prop := Below g w w' ∧ vw w w' g none
theorem jAp.refl (g : Nat) (w : World) : jAp g w w := ⟨Below.refl g w, vw.refl w g none⟩
theorem jJz {g : Nat} {w : World} (v : Value) : jAp g w (w.setCell ⟨g, 0, none⟩ v) := ⟨(Below.refl g w).setCell (Nat.le_refl _) v, (vw.refl w g none).set_ 0 v⟩
theorem jFx {g : Nat} {w w1 : World} (h : jAp g w w1) (v : Value) : jAp g w (w1.setCell ⟨g, 0, none⟩ v) := ⟨h.1.setCell (Nat.le_refl _) v, h.2.set_ 0 v⟩
theorem jBy {g : Nat} {w w1 w2 : World} (hg : g < w.heap.size) (h : jAp g w w1) (k : Below w1.heap.size w1 w2) : jAp g w w2 := ⟨h.1.trans (k.mono (Nat.le_trans (Nat.le_of_lt hg) h.1.size)), h.2.trans (vw.of_below k g none) (.inl rfl)⟩
theorem jKA {g : Nat} {w w1 w2 : World} (hg : g < w.heap.size) (h : jAp g w w1) (k : Below w.heap.size w1 w2) : jAp g w w2 := ⟨h.1.trans (k.mono (Nat.le_of_lt hg)), Nat.le_trans h.2.1 k.size, fun i hi hg hr => (k.block i hi).trans (h.2.2 i hi hg hr)⟩
theorem jOB {g : Nat} {w w1 w2 : World} (h : jAp g w w1) (k : jAp g w1 w2) : jAp g w w2 := ⟨h.1.trans k.1, h.2.trans k.2 (.inl rfl)⟩
/-- number: what it reads, and what is left; or the error. -/
def num (s : ByteArray) : Int ⊕ (Int × ByteArray) :=
 if s.size < 1 then .inl 60 else if 8 < (bt s 0).toNat then .inl 62 else if s.size < 1 + (bt s 0).toNat then .inl 60
 else if (bt s 0).toNat ≠ 0 ∧ bt s 1 = 0 then .inl 62 else .inr (be (bytesOf (s.extract 1 (1 + (bt s 0).toNat))), s.extract (1 + (bt s 0).toNat) s.size)
def jBK (g : Nat) (s : ByteArray) (w : World) (e : Ending) (w' : World) : Prop :=
 match num s with
 | .inl c => e = .panicked (pan c) ∧ jAp g w w'
 | .inr (n, t) => e = .returned (.int .u64 n) ∧ jAp g w w' ∧ w'.heap[g]? = some (.cells #[.string t] 135 (0, 0))
theorem jAC {g : Nat} {s : ByteArray} {w : World} {c : Int} (h : num s = .inl c) : jBK g s w = fun e w' => e = .panicked (pan c) ∧ jAp g w w' := by unfold jBK; rw [h]
theorem jAj {g : Nat} {s t : ByteArray} {w : World} {n : Int} (h : num s = .inr (n, t)) : jBK g s w = fun e w' => e = .returned (.int .u64 n) ∧ jAp g w w' ∧ w'.heap[g]? = some (.cells #[.string t] 135 (0, 0)) := by unfold jBK; rw [h]
theorem jPK {g : Nat} {w w1 w2 : World} (hg : g < w.heap.size) (h : Below g w w1) (k : Below w1.heap.size w1 w2) : Below g w w2 := h.trans (k.mono (Nat.le_trans (Nat.le_of_lt hg) h.size))
theorem jQk {g : Nat} {w : World} (v : Value) (hg : g < w.heap.size) : Below g w (w.setCell ⟨g, 0, none⟩ v) := (Below.refl g w).setCell (Nat.le_refl _) v
set_option maxHeartbeats 4000000 in
theorem jBi (g : Nat) (s : ByteArray) (w : World) (hb : w.heap[g]? = some (.cells #[.string s] 135 (0, 0))) (hz : s.size ≤ 140737488351232) :
  Calls Tryz.prog 91 #[.pointer (some ⟨g, 0, none⟩)] w (jBK g s w) := by
 have HB := jA.mk hb
 have HG := jA.mk (qG hb)
 clear hb
 by_cases h1 : s.size < 1
 ·
  rw [jAC (c := 60) (by unfold num; rw [if_pos h1])]
  go_enter Tryz.func91, Tryz.ntmps91
  go_wp2_with (go_at_call 111; refine (jFI g 1 s _ HB.out (by omega) h1).mono ?_; rintro e w1 ⟨rfl, rfl⟩)
  exact ⟨rfl, rfl, jAp.refl _ _⟩
 obtain ⟨k, hk⟩ := Int.eq_ofNat_of_zero_le (jAl s 0).1
 have hkb : k ≤ 255 := by have := (jAl s 0).2; omega
 have e1 : s.extract 0 1 = s.extract 0 1 := rfl
 have hx1 : (s.extract 0 1).size = 1 := by rw [ByteArray.size_extract]; omega
 have hget : ∀ h : 0 < (s.extract 0 1).size, (((s.extract 0 1)[0]'h).toNat : Int) = (k : Int) := fun h => by
  rw [ByteArray.getElem_extract, ← hk]; exact jOo s 0 (by simp; omega)
 have HB1 := jA.mk (jM (cs' := #[.string (s.extract 1 s.size)]) HB.out 0 (.string (s.extract 1 s.size)) rfl)
 have HD1 := jA.mk (jJz (g := g) (w := w) (.string (s.extract 1 s.size)))
 have HK := jA.mk hk
 clear hk e1
 by_cases h2 : 8 < k
 ·
  have t2 : decide ((k : Int) ≤ 8) = false := decide_eq_false (by omega)
  have t3 : decide (k ≤ 8) = false := decide_eq_false (by omega)
  rw [jAC (c := 62) (by unfold num; rw [if_neg h1, if_pos (by rw [HK.out]; exact h2)])]
  go_enter Tryz.func91, Tryz.ntmps91
  go_wp2_with (go_at_call 111; refine (jBT g 1 s _ HB.out (by omega) (by omega)).mono ?_; rintro e w1 ⟨rfl, rfl⟩)
  refine (jCl _).mono ?_
  rintro e w1 ⟨rfl, rfl⟩
  exact ⟨rfl, rfl, HD1.out⟩
 have t2 : decide ((k : Int) ≤ 8) = true := decide_eq_true (by omega)
 have t3 : decide (k ≤ 8) = true := decide_eq_true (by omega)
 by_cases h3 : s.size < 1 + k
 ·
  rw [jAC (c := 60) (by unfold num; rw [if_neg h1, if_neg (by rw [HK.out]; exact h2), if_pos (by rw [HK.out]; exact h3)])]
  go_enter Tryz.func91, Tryz.ntmps91
  go_wp2_with (go_at_call 111; refine (jBT g 1 s _ HB.out (by omega) (by omega)).mono ?_; rintro e w1 ⟨rfl, rfl⟩)
  refine (jAb _).mono ?_
  rintro e w1 ⟨rfl, rfl⟩
  go_wp2_with (go_at_call 111; refine (jFI g k _ _ HB1.out (by rw [ByteArray.size_extract]; omega) (by rw [ByteArray.size_extract]; omega)).mono ?_; rintro e w1 ⟨rfl, rfl⟩)
  exact ⟨rfl, rfl, HD1.out⟩
 have E1 : (s.extract 1 s.size).extract 0 k = s.extract 1 (1 + k) := by rw [ByteArray.extract_extract]; congr 1; omega
 have E2 : (s.extract 1 s.size).extract k (s.extract 1 s.size).size = s.extract (1 + k) s.size := by rw [ByteArray.extract_extract, ByteArray.size_extract]; congr 1; omega
 have T := jBT g k (s.extract 1 s.size) _ HB1.out (by rw [ByteArray.size_extract]; omega) (by rw [ByteArray.size_extract]; omega)
 rw [E1, E2] at T
 have HT := jA.mk T
 have HB2 := jA.mk (jM (cs' := #[.string (s.extract (1 + k) s.size)]) HB1.out 0 (.string (s.extract (1 + k) s.size)) rfl)
 have HD2 := jA.mk (jFx HD1.out (.string (s.extract (1 + k) s.size)))
 have hsz : (s.extract 1 (1 + k)).size = k := by rw [ByteArray.size_extract]; omega
 have HSZ := jA.mk (show (s.extract 1 (1 + k)).size ≤ 140737488351232 by omega)
 clear T E1 E2
 by_cases h4 : k = 0
 ·
  rw [jAj (n := be (bytesOf (s.extract 1 (1 + k)))) (t := s.extract (1 + k) s.size) (by unfold num; rw [if_neg h1, if_neg (by rw [HK.out]; exact h2), if_neg (by rw [HK.out]; exact h3), if_neg (by rw [HK.out]; intro q; exact q.1 h4), HK.out]; rfl)]
  have t4 : ((k : Int) == 0) = true := by rw [h4]; rfl
  have t5 : (k == 0) = true := by rw [h4]; rfl
  clear h4
  go_enter Tryz.func91, Tryz.ntmps91
  go_wp2_with (go_at_call 111; refine (jBT g 1 s _ HB.out (by omega) (by omega)).mono ?_; rintro e w1 ⟨rfl, rfl⟩)
  refine (jAb _).mono ?_
  rintro e w1 ⟨rfl, rfl⟩
  go_wp2_with fail
  refine HT.out.mono ?_
  rintro e w1 ⟨rfl, rfl⟩
  go_wp2_with fail
  refine (jAb _).mono ?_
  rintro e w1 ⟨rfl, rfl⟩
  go_wp2_with fail
  refine (jHB _ _ HSZ.out).mono ?_
  rintro e w3 ⟨rfl, hv⟩
  have HB3 := jA.mk (jN HB2.out hv)
  have HD3 := jA.mk (jBy HG.out HD2.out hv)
  clear hv
  go_wp2
  go_ret
  exact ⟨rfl, HD3.out, HB3.out⟩
 have hget2 : ∀ h : 0 < (s.extract 1 (1 + k)).size, (((s.extract 1 (1 + k))[0]'h).toNat : Int) = bt s 1 := fun h => by
  rw [ByteArray.getElem_extract]; exact jOo s 1 (by simp; omega)
 have t4 : ((k : Int) == 0) = false := beq_eq_false_iff_ne.mpr (by omega)
 have t5 : (k == 0) = false := beq_eq_false_iff_ne.mpr h4
 have hpos : 0 < (s.extract 1 (1 + k)).size := by omega
 by_cases h5 : bt s 1 = 0
 ·
  rw [jAC (c := 62) (by unfold num; rw [if_neg h1, if_neg (by rw [HK.out]; exact h2), if_neg (by rw [HK.out]; exact h3), if_pos (by rw [HK.out]; exact ⟨h4, h5⟩)])]
  have t6 : (bt s 1 != 0) = false := bne_eq_false_iff_eq.mpr h5
  clear h4 h5
  go_enter Tryz.func91, Tryz.ntmps91
  go_wp2_with (go_at_call 111; refine (jBT g 1 s _ HB.out (by omega) (by omega)).mono ?_; rintro e w1 ⟨rfl, rfl⟩)
  refine (jAb _).mono ?_
  rintro e w1 ⟨rfl, rfl⟩
  go_wp2_with fail
  refine HT.out.mono ?_
  rintro e w1 ⟨rfl, rfl⟩
  go_wp2_with fail
  refine (jCl _).mono ?_
  rintro e w1 ⟨rfl, rfl⟩
  exact ⟨rfl, rfl, HD2.out⟩
 rw [jAj (n := be (bytesOf (s.extract 1 (1 + k)))) (t := s.extract (1 + k) s.size) (by unfold num; rw [if_neg h1, if_neg (by rw [HK.out]; exact h2), if_neg (by rw [HK.out]; exact h3), if_neg (by rw [HK.out]; intro q; exact h5 q.2), HK.out]; rfl)]
 have t6 : (bt s 1 != 0) = true := bne_iff_ne.mpr h5
 clear h4 h5
 go_enter Tryz.func91, Tryz.ntmps91
 go_wp2_with (go_at_call 111; refine (jBT g 1 s _ HB.out (by omega) (by omega)).mono ?_; rintro e w1 ⟨rfl, rfl⟩)
 refine (jAb _).mono ?_
 rintro e w1 ⟨rfl, rfl⟩
 go_wp2_with fail
 refine HT.out.mono ?_
 rintro e w1 ⟨rfl, rfl⟩
 go_wp2_with fail
 refine (jAb _).mono ?_
 rintro e w1 ⟨rfl, rfl⟩
 go_wp2_with fail
 refine (jHB _ _ HSZ.out).mono ?_
 rintro e w3 ⟨rfl, hv⟩
 have HB3 := jA.mk (jN HB2.out hv)
 have HD3 := jA.mk (jBy HG.out HD2.out hv)
 clear hv
 go_wp2
 go_ret
 exact ⟨rfl, HD3.out, HB3.out⟩
theorem jNq {P : Program} {Q : Exit → Act → List Frame → World → Prop} {a a' : Act} {cs : List Frame} {w : World} {c : Code} (h : a = a') (h2 : c.wpS P Q a' cs w) : c.wpS P Q a cs w := h ▸ h2
theorem jNM {P : Program} {Q : Exit → Act → World → Prop} {a : Act} {w : World} {c : Code} (h : ∀ Q' : Exit → Act → World → Prop, (∀ e a' w', Q' e a' w' = Q e a' w') → c.wp P Q' a w) : c.wp P Q a w := h Q (fun _ _ _ => rfl)
theorem jED (pe : Value) (undo : Value) (w : World) :
  CallsD Tryz.prog 89 #[pe, undo] .returning w fun e u' w' => e = .returned (.tuple #[]) ∧ u' = .returning ∧ w' = w := by
 refine callsD_of_wpS Tryz.func89 rfl fun c₀ cs hu => ?_
 apply wpS_seq
 apply wpS_region
 simp [wpOpsS, go_sem, recoverD, hu, Tryz.ntmps89, Exit.thenS]
 refine jNq (a' := { tmps := #[pe, undo, undef, undef, undef, undef, undef, .nilIface, undef, undef, undef, undef, undef, undef, undef, undef, undef, undef], defers := [] }) rfl ?_
 refine wpS_of_wp (jNM fun Q' hQ' => ?_)
 go_wp2
 rw [hQ']
 cases c₀
 simp_all [bodyPostS, results, Tryz.results89]
theorem jPR (a b v : Value) : (#[a, b] ++ (Array.replicate 16 undef).setIfInBounds 5 v) = #[a, b, undef, undef, undef, undef, undef, v, undef, undef, undef, undef, undef, undef, undef, undef, undef, undef] := by kernel_rfl
set_option maxHeartbeats 2000000 in
theorem jDC (p : Addr) (x c : Int) (F : Nat) (fn : Func) (cap : Array Value) (older : List PanicEntry) (w w1 : World) (hc : w.cell? p = some (.int .i64 x)) (hz : w.frozen? p = false) (he : ∀ args W, (callFunc F args).run Tryz.prog W = .ok (.enter F args) W) (hu : Calls Tryz.prog F cap (w.setCell p (.int .i64 c)) fun e w' => e = .returned (.tuple #[]) ∧ w' = w1) :
  CallsD Tryz.prog 89 #[.pointer (some p), .func (.func F) #[] cap] (.panicking ({ v := .iface 27 (.int .i64 c), recovered := false } :: older)) w fun e u' w' =>
   e = .returned (.tuple #[]) ∧ u' = .panicking ({ v := .iface 27 (.int .i64 c), recovered := true } :: older) ∧ w' = w1 := by
 have HU := jA.mk hu
 clear hu
 refine callsD_of_wpS Tryz.func89 rfl fun c₀ cs hu => ?_
 apply wpS_seq
 apply wpS_region
 simp [wpOpsS, go_sem, recoverD, hu, Tryz.ntmps89, Exit.thenS]
 rw [jPR]
 refine wpS_of_wp (jNM fun Q' hQ' => ?_)
 have hta : ∀ (v : Value) (W : World), (Instr.typeAssert (.iface 27 v) 20 27 true).run Tryz.prog W = .ok (.tuple #[v, .bool true]) W := fun v W => by kernel_rfl
 go_wp2_with fail
 refine HU.out.mono ?_
 rintro e w' ⟨rfl, rfl⟩
 go_wp2
 rw [hQ']
 cases c₀
 simp_all [bodyPostS, results, Tryz.results89]
def jKd (Q : Exit → Act → World → Prop) : Exit → Act → World → Prop
 | .panic _, _, _ => False
 | e, a, w => Q e a w
theorem jJl {P : Program} {c : Code} {Q : Exit → Act → World → Prop} {a : Act} {w : World} (h : c.wp P (jKd Q) a w) : c.wp P Q a w :=
 Code.wp_mono (by intro e a w h; cases e <;> first | exact h | exact h.elim) h
theorem jBs {Q : Exit → Act → World → Prop} {a : Act} {w : World} (h : Q .normal a w) : jKd Q .normal a w := h
theorem jQz {α : Type} {d : Kd α} {e base m : Nat} {W : World} {v : Value} {xs : List α} {p : Addr} (h : d.R e W base (fun k_ => m ≤ k_) v xs) (hp : p.block < m) (u : Value) : d.R e (W.setCell p u) base (fun k_ => m ≤ k_) v xs :=
 Kd.qU h (fun k hk => by omega) u
theorem jNC (x y : Int) : 0 ≤ Go.bits .or .u64 x y := by
 unfold Go.bits
 rw [IntKind.wrap_u64]
 exact Int.emod_nonneg _ (by decide)
theorem jQl (l : List Int) : 0 ≤ be l := by
 unfold be
 suffices h : ∀ (l : List Int) (a : Int), 0 ≤ a → 0 ≤ l.foldl stp a from h l 0 (Int.le_refl _)
 intro l
 induction l with
 | nil => exact fun a h => h
 | cons x l ih => exact fun a _ => ih _ (jNC _ _)
theorem jOJ {s t : ByteArray} {n : Int} (h : num s = .inr (n, t)) : 0 ≤ n := by
 unfold num at h
 repeat (split at h; cases h)
 cases h
 exact jQl _
theorem jFR {s t : ByteArray} {n : Int} (h : num s = .inr (n, t)) : t.size ≤ s.size := by
 unfold num at h
 repeat (split at h; cases h)
 cases h
 rw [ByteArray.size_extract]
 omega
end Oct
def jH.l0 : Nat → List Int → Int → Int → Option (List Int)
 | 0, _, _, _ => none
 | k + 1, x0, x2, x3 => if x2 < x3 then (if 0 ≤ x3 then (if x3 < (x0.length : Int) then (if 0 ≤ x2 then (if x2 < (x0.length : Int) then (jH.l0 k ((x0.set (x2 : Int).toNat (rd x0 x3)).set (x3 : Int).toNat (rd x0 x2)) (wrap64 (x2 + 1)) (wrap64 (x3 - 1))) else (none)) else (none)) else (none)) else (none)) else (some x0)
def jH.f (k : Nat) (l0 : List Int) : Option (List Int) := jH.l0 k l0 0 (wrap64 ((l0.length : Int) - 1))
theorem jH.zY : ∀ k, (∀ y0 y1 y2, LeO (jH.l0 k y0 y1 y2) (jH.l0 (k + 1) y0 y1 y2))
 | 0 => fun _ _ _ r h => by simp [jH.l0] at h
 | k + 1 => by
  have ih0 := jH.zY k
  intro y0 y1 y2
  unfold jH.l0
  repeat' first
  | (with_reducible exact ih0 _ _ _)
  | (with_reducible exact LeO.refl _)
  | (with_reducible exact LeO.none _)
  | (with_reducible refine LeO.ite ?_ ?_)
  | (with_reducible refine LeO.bind ?_ (fun _ => ?_))
theorem jH.mono : ∀ a0 k, LeO (jH.f k a0) (jH.f (k + 1) a0) := by
 intro a0 k
 have ih0 := jH.zY k
 unfold jH.f
 repeat' first
   | (with_reducible exact ih0 _ _ _)
   | (with_reducible exact LeO.refl _)
   | (with_reducible exact LeO.none _)
   | (with_reducible refine LeO.ite ?_ ?_)
   | (with_reducible refine LeO.bind ?_ (fun _ => ?_))
def jH.T3 : Bool × List (List Nat × List Nat) := (true, [([], []), ([], []), ([], []), ([], []), ([], []), ([], []), ([4, 5], [4, 5]), ([6], [6]), ([], []), ([], []), ([8, 9], [8, 9]), ([10], [10]), ([0, 1, 0, 1, 4, 5, 6, 7, 11], [0, 1]), ([12, 7, 0, 1, 4, 5, 6, 7, 11], [7, 12]), ([2, 3, 0, 1, 2, 3, 4, 5, 6, 7, 8, 9, 10, 11, 12, 13], [2, 3]), ([14, 11, 13, 0, 1, 2, 3, 4, 5, 6, 7, 8, 9, 10, 11, 12, 13], [11, 14])])
def jH.B3 : List Nat := [0, 0, 0, 0, 0, 0, 48, 112, 0, 0, 768, 1792, 4083, 8179, 16383, 32767]
theorem jH.tab3 : rtab .any (opsOf Tryz.f132 3) = jH.T3 := by kernel_rfl
theorem jH.jRd : jAz jH.T3.2 jH.B3 = true := by kernel_rfl
theorem jH.calls (k : Nat) (P0_ : Nat → Prop) (u9000_ : Value) (l0 : List Int) (r : List Int) (w0 w : World) (hB : Below w0.heap.size w0 w) (ho0 : Kd.R (Kd.int .u64) 56 w w0.heap.size P0_ u9000_ l0) (h : jH.f k l0 = some r) :
  Calls Tryz.prog 132 #[u9000_] w fun e w' => e = .returned (.tuple #[]) ∧ Kd.R (Kd.int .u64) 56 w' w0.heap.size (fun k_ => (P0_ k_ ∨ w.heap.size ≤ k_)) u9000_ r ∧ Below w0.heap.size w0 w' ∧ Kept w w' (fun k_ => P0_ k_) := by
 have HO0 := jA.mk (show Kd.R (Kd.int .u64) 56 w w0.heap.size (fun k_ => (P0_ k_ ∨ w.heap.size ≤ k_)) u9000_ l0 from Kd.vB ho0 (fun k_ hk => (.inl hk)))
 have HK := jA.mk (Kept.refl w (fun k_ => P0_ k_))
 have HW0 := jA.mk hB.size
 have HB := jA.mk hB
 clear hB
 have H : (jH.l0 k l0 0 (wrap64 ((l0.length : Int) - 1))) = some r := h
 clear h
 have H' := jA.mk H
 clear H
 obtain ⟨Ao2, co2, eo2⟩ := Kd.vE HO0.out
 subst eo2
 go_enter Tryz.func132, Tryz.ntmps132
 go_wp2
 go_loopg [2, 3] k (fun kq v2 v3 w' => ∃ (x0_1 : List Int) (x2_1 : Int) (x3_1 : Int), v2 = .int .i64 x2_1 ∧ v3 = .int .i64 x3_1 ∧ jA (jH.l0 kq x0_1 x2_1 x3_1 = some r) ∧ jA (kq ≤ k) ∧ jA (Kd.R (Kd.int .u64) 56 w' w0.heap.size (fun k_ => (P0_ k_ ∨ w.heap.size ≤ k_)) (.slice Ao2 l0.length co2) x0_1) ∧ jA (Kept w w' (fun k_ => P0_ k_)) ∧ jA (Below w0.heap.size w0 w'))
 case atStart => exact ⟨(l0), (0), (wrap64 ((l0.length : Int) - 1)), sd_, sd_, H', ⟨Nat.le_refl _⟩, ⟨(rR_ HO0)⟩, ⟨by repeat (first | (with_reducible first | exact HK.out | apply Kept.alloc | apply Kept.drewN | apply Kept.drew) | exact HK.out)⟩, ⟨(bb_ HB)⟩⟩
 case round =>
  clear H'
  try clear c1
  try clear p2
  obtain ⟨x0_1, x2_1, x3_1, rfl, rfl, HA, HK1, HO_0, HK, HB⟩ := hrel
  have hl0_1 := (Kd.jW HO_0.out).1
  rw [hl0_1] at HO_0
  (try simp only [hl0_1])
  cases gk with
  | zero => exact absurd HA.out (by simp [jH.l0])
  | succ k1 =>
   have H := HA.out
   clear HA
   simp only [jH.l0] at H
   by_cases c3 : x2_1 < x3_1
   rotate_left
   ·
    rw [if_neg c3] at H
    have c3b0 := decide_eq_false c3
    clear c3
    obtain rfl := Option.some.inj H
    go_wp2
    first | go_end0 | ((try simp only [Exit.inBlock, Exit.then]); refine bodyPost_ret (results_none rfl _ _ _) rfl ?_)
    exact ⟨ew_, (by first | exact (rR_ HO_0) | (simp only [hl0_1]; exact (rR_ HO_0))), (bb_ HB), by repeat (first | (with_reducible first | exact HK.out | apply Kept.alloc | apply Kept.drewN | apply Kept.drew) | exact HK.out)⟩
   rw [if_pos c3] at H
   have c3b0 := decide_eq_true c3
   clear c3
   by_cases c4 : 0 ≤ x3_1
   rotate_left
   ·
    rw [if_neg c4] at H
    exact absurd H (by simp)
   rw [if_pos c4] at H
   have c4b0 := decide_eq_true c4
   clear c4
   by_cases c5 : x3_1 < (x0_1.length : Int)
   rotate_left
   ·
    rw [if_neg c5] at H
    exact absurd H (by simp)
   rw [if_pos c5] at H
   have c5b0 := decide_eq_true c5
   (try simp only [hl0_1] at c5b0)
   clear c5
   by_cases c6 : 0 ≤ x2_1
   rotate_left
   ·
    rw [if_neg c6] at H
    exact absurd H (by simp)
   rw [if_pos c6] at H
   have c6b0 := decide_eq_true c6
   clear c6
   by_cases c7 : x2_1 < (x0_1.length : Int)
   rotate_left
   ·
    rw [if_neg c7] at H
    exact absurd H (by simp)
   rw [if_pos c7] at H
   have c7b0 := decide_eq_true c7
   (try simp only [hl0_1] at c7b0)
   clear c7
   obtain ⟨y310, hy310⟩ : ∃ y_ : List Int, y_ = (x0_1.set (x2_1 : Int).toNat (rd x0_1 x3_1)) := ⟨_, rfl⟩
   replace H : (jH.l0 k1 (y310.set (x3_1 : Int).toNat (rd x0_1 x2_1)) (wrap64 (x2_1 + 1)) (wrap64 (x3_1 - 1))) = some r := by first | (rw [hy310]; with_reducible exact H) | (have H2_ := (Option.bind_some _ _).symm.trans H; rw [hy310]; with_reducible exact H2_) | (with_reducible exact hs_ H) | with_reducible exact H | (rw [hy310]; exact H) | exact H
   have Ny310 := jA.mk hy310
   clear hy310
   obtain ⟨y311, hy311⟩ : ∃ y_ : List Int, y_ = (y310.set (x3_1 : Int).toNat (rd x0_1 x2_1)) := ⟨_, rfl⟩
   replace H : (jH.l0 k1 y311 (wrap64 (x2_1 + 1)) (wrap64 (x3_1 - 1))) = some r := by first | (rw [hy311]; with_reducible exact H) | (have H2_ := (Option.bind_some _ _).symm.trans H; rw [hy311]; with_reducible exact H2_) | (with_reducible exact hs_ H) | with_reducible exact H | (rw [hy311]; exact H) | exact H
   have Ny311 := jA.mk hy311
   clear hy311
   have H' := jA.mk H
   clear H
   try go_wp2
   have n0_ := jA.mk (Kd.qL HO_0.out)
   have n1_ := jA.mk (Kept.drew HK.out)
   have n2_ := jA.mk (vk HB.out)
   clear HO_0
   clear HK
   clear HB
   have HO_0 := n0_
   have HK := n1_
   have HB := n2_
   clear n0_ n1_ n2_
   have p308 : 0 ≤ (x3_1 : Int) := of_decide_eq_true am_
   have q308 : x3_1 < (x0_1.length : Int) := of_decide_eq_true am_
   obtain ⟨ad308, e308, hx308_0⟩ := Kd.vS (Kd.jW HO_0.out).2.2 x3_1 p308 q308
   cases e308
   replace p308 := eq_true p308
   replace q308 := eq_true q308
   have p309 : 0 ≤ (x2_1 : Int) := of_decide_eq_true am_
   have q309 : x2_1 < (x0_1.length : Int) := of_decide_eq_true am_
   obtain ⟨ad309, e309, hx309_0⟩ := Kd.vS (Kd.jW HO_0.out).2.2 x2_1 p309 q309
   obtain rfl : ad308 = ad309 := (by injection e309)
   replace p309 := eq_true p309
   replace q309 := eq_true q309
   have p8 : 0 ≤ (x2_1 : Int) := of_decide_eq_true am_
   have q8 : (x2_1 : Int) < ((x0_1.length : Int) : Int) := of_decide_eq_true am_
   obtain ⟨go8, co8, eo8, gb8, gl8, cl8, HG8⟩ := Kd.jAg HO_0.out (by omega)
   (first | cases eo8 | (injection eo8 with ea_ en_ ec_; (first | subst ea_ | (injection ea_ with ea_; subst ea_)); subst ec_; clear en_))
   have GB8 := jA.mk gb8
   have GG8 := jA.mk HG8
   clear gb8 gl8 HG8
   have HMgo8 := jA.mk (show (P0_ go8 ∨ w.heap.size ≤ go8) from (HO_0.out.1 _ rfl))
   (first | simp only [add_plain] at hx308_0 | skip)
   (first | simp only [add_plain] at hx309_0 | skip)
   obtain ⟨hx8_0, hf8_0⟩ := Kd.qI 0 HO_0.out (x2_1 : Int) p8 q8
   replace p8 := eq_true p8
   replace q8 := eq_true q8
   have HP11 := Kd.jMB HO_0.out (x2_1 : Int) (rd x0_1 x3_1)
   rw [← Ny310.out] at HP11
   have HQ11 := jA.mk HP11
   clear HP11
   have p9 : 0 ≤ (x3_1 : Int) := of_decide_eq_true am_
   have q9 : (x3_1 : Int) < ((x0_1.length : Int) : Int) := of_decide_eq_true am_
   obtain ⟨hx9_0, hf9_0⟩ := Kd.qI 0 HQ11.out (x3_1 : Int) p9 q9
   replace p9 := eq_true p9
   replace q9 := eq_true q9
   have HP12 := Kd.jMB HQ11.out (x3_1 : Int) (rd x0_1 x2_1)
   rw [← Ny311.out] at HP12
   have HQ12 := jA.mk HP12
   clear HP12
   refine zw (n := 16) (S := fun w' => w'.cell? ⟨go8, (x3_1).toNat, none⟩ = some (.int .u64 (rd x0_1 x3_1)) ∧ w'.cell? ⟨go8, (x2_1).toNat, none⟩ = some (.int .u64 (rd x0_1 x2_1))) (ds := [13, 15]) #[false, false, false, false, false, false, false, false, false, false, false, false, false, false, false, false] kr_ rfl rfl ⟨hx308_0, hx309_0⟩ (fun hHeld => ?_); refine qd jH.tab3 jH.jRd (fun HT_ HW_ => ?_)
   generalize wr.drew = w10 at HO_0 HK HB GG8 HQ11 HQ12 hf8_0 hf9_0 hx308_0 hx309_0 hx8_0 hx9_0 hHeld ⊢
   refine pu_ 0 (some 14) (ba_ 16 1) (jR HT_.out kr_) ?_
   refine pu_ 1 (some 15) (ba_ 16 3) (jR HT_.out kr_) ?_
   refine pu_ 2 (some 16) (ba_ 16 7) (jR HT_.out kr_) ?_
   refine pu_ 3 (some 17) (ba_ 16 15) (jR HT_.out kr_) ?_
   refine pu_ 4 (some 18) (ba_ 16 31) (jR HT_.out kr_) ?_
   refine pu_ 5 (some 19) (ba_ 16 63) (jR HT_.out kr_) ?_
   refine pu_ 6 (some 20) (ba_ 16 127) (jR HT_.out kr_) ?_
   refine pu_ 8 (some 22) (ba_ 16 383) (jR HT_.out kr_) ?_
   refine pu_ 9 (some 23) (ba_ 16 895) (jR HT_.out kr_) ?_
   refine pu_ 10 (some 24) (ba_ 16 1919) (jR HT_.out kr_) ?_
   refine tk2_ 7 (some 21) (ba_ 16 2047) (ze HT_.out HW_.out kr_) hHeld ?_
   refine tk2_ 11 (some 25) (ba_ 16 4095) (ze HT_.out HW_.out kr_) hHeld ?_
   refine pu_ 12 (some 26) (ba_ 16 8191) (jR HT_.out kr_) ?_
   refine jAh (i := 13) (N := none) (ba_ 16 16383) rfl rfl (qb HT_.out kr_) (by decide) (fun K hK => ?_)
   refine jAq (w1 := ?_) (by rfl) rfl ?_ ?_
   rotate_left
   ·
    go_simp
    rfl
   refine hK.out _ _ ?_
   clear hK K
   refine pu_ 14 (some 27) (ba_ 16 32767) (jR HT_.out kr_) ?_
   refine jAh (i := 15) (N := none) (ba_ 16 65535) rfl rfl (qb HT_.out kr_) (by decide) (fun K hK => ?_)
   refine jAq (w1 := ?_) (by rfl) rfl ?_ ?_
   rotate_left
   ·
    go_simp
    rfl
   refine hK.out _ _ ?_
   clear hK K
   refine jAR (jBG HT_.out kr_) ?_
   try go_wp2
   (try simp only [← hl0_1])
   go_roundg k1
   case measure => have := HK1.out; omega
   case rel => exact ⟨(y311), (wrap64 (x2_1 + 1)), (wrap64 (x3_1 - 1)), sd_, sd_, H', ⟨by have := HK1.out; omega⟩, ⟨by (try simp only [hl0_1]); refine pR_ ?_; exact HQ12.out⟩, ⟨by repeat (first | (with_reducible first | exact HK.out | apply Kept.alloc | apply Kept.drewN | apply Kept.drew | refine Kept.setCell ?_ HMgo8.out _ | refine Kept.setCell ?_ HMgo8.out _) | exact HK.out)⟩, ⟨(bb2_ HB GB8 GB8)⟩⟩
namespace OctNat
open Oct
def chunks : Nat → ByteArray → List Int
 | 0, _ => []
 | n + 1, t => be (bytesOf (t.extract 0 8)) :: chunks n (t.extract 8 t.size)
theorem jBk : ∀ n t, (chunks n t).length = n
 | 0, _ => rfl
 | n + 1, t => by rw [chunks, List.length_cons, jBk n]
def nat_ (k : Nat) (s : ByteArray) : Option (Int ⊕ (List Int × ByteArray)) := match num s with
 | .inl c => some (.inl c)
 | .inr (n, t) => if 8 < n.toNat then some (.inl 62) else if t.size < 8 * n.toNat then some (.inl 60) else
  (jH.f k (chunks n.toNat (t.extract 0 (8 * n.toNat)))).bind fun l => (vU.f l).bind fun b => some (if b then .inr (l, t.extract (8 * n.toNat) t.size) else .inl 62)
def jRh (g : Nat) (w : World) (v : Int ⊕ (List Int × ByteArray)) (e : Ending) (w' : World) : Prop := match v with
 | .inl c => e = .panicked (pan c) ∧ jAp g w w'
 | .inr (l, t) => ∃ u, e = .returned u ∧ jAp g w w' ∧ w'.heap[g]? = some (.cells #[.string t] 135 (0, 0)) ∧ Kd.R (Kd.int .u64) 56 w' w.heap.size (fun _ => True) u l
def cut (g : Nat) (w : World) : World := { w with heap := w.heap.extract 0 g }
theorem jDK {g : Nat} {w : World} (h : g ≤ w.heap.size) : (cut g w).heap.size = g := by
 show (w.heap.extract 0 g).size = g
 rw [Array.size_extract]; omega
theorem jNd {g i : Nat} {w : World} (h : g ≤ w.heap.size) (hi : i < g) : (cut g w).heap[i]? = w.heap[i]? := by
 show (w.heap.extract 0 g)[i]? = _
 rw [Array.getElem?_extract]
 rw [if_pos (by omega), Nat.zero_add]
theorem jLF {g : Nat} {w : World} (h : g ≤ w.heap.size) : Below (cut g w).heap.size (cut g w) w := by
 rw [jDK h]
 exact ⟨rfl, rfl, rfl, by rw [jDK h]; exact h, fun i hi => (jNd h hi).symm⟩
theorem jHD {g : Nat} {w w' : World} (hb : Below g (cut g w) w') (hs : w.heap.size ≤ w'.heap.size) (h : g ≤ w.heap.size) : Below g w w' :=
 ⟨hb.os, hb.tape, hb.output, hs, fun i hi => (hb.block i hi).trans (jNd h hi)⟩
theorem jIU (s : ByteArray) (k : Nat) : LeO (nat_ k s) (nat_ (k + 1) s) := by
 unfold nat_
 cases num s with
 | inl c => exact LeO.refl _
 | inr p => exact LeO.ite (LeO.refl _) (LeO.ite (LeO.refl _) (LeO.bind (jH.mono _ _) fun _ => LeO.refl _))
theorem jGU (k g : Nat) (s : ByteArray) (w : World) (v : Int ⊕ (List Int × ByteArray)) (hb : w.heap[g]? = some (.cells #[.string s] 135 (0, 0))) (hz : s.size ≤ 140737488351232) (h : nat_ k s = some v) :
  Calls Tryz.prog 114 #[.pointer (some ⟨g, 0, none⟩)] w (jRh g w v) := by
 have HB := jA.mk hb
 have HG := jA.mk (qG hb)
 clear hb
 unfold nat_ at h
 cases hn : num s with
 | inl c =>
  rw [hn] at h
  cases h
  have HN := jA.mk (jAC (g := g) (w := w) hn)
  clear hn
  go_enter Tryz.func114, Tryz.ntmps114
  go_wp2_with fail
  refine (jBi g s w HB.out hz).mono ?_
  rw [HN.out]
  rintro e w1 ⟨rfl, hb⟩
  exact ⟨rfl, rfl, hb⟩
 | inr p =>
  obtain ⟨n, t⟩ := p
  obtain ⟨m, rfl⟩ := Int.eq_ofNat_of_zero_le (jOJ hn)
  have hts := jFR hn
  rw [hn] at h
  simp only [Int.toNat_natCast] at h
  have HN := jA.mk (jAj (g := g) (w := w) hn)
  clear hn
  by_cases h8 : 8 < m
  ·
   rw [if_pos h8] at h
   cases h
   have t2 : decide ((m : Int) ≤ 8) = false := decide_eq_false (by omega)
   have t3 : decide (m ≤ 8) = false := decide_eq_false (by omega)
   go_enter Tryz.func114, Tryz.ntmps114
   go_wp2_with fail
   refine (jBi g s w HB.out hz).mono ?_
   rw [HN.out]
   rintro e w1 ⟨rfl, hb, hc⟩
   have HC := jA.mk hb
   clear hb hc
   go_wp2_with fail
   refine (jCl _).mono ?_
   rintro e w1 ⟨rfl, rfl⟩
   exact ⟨rfl, rfl, HC.out⟩
  rw [if_neg h8] at h
  have t2 : decide ((m : Int) ≤ 8) = true := decide_eq_true (by omega)
  have t3 : decide (m ≤ 8) = true := decide_eq_true (by omega)
  have hw : IntKind.u64.wrap (8 * (m : Int)) = ((8 * m : Nat) : Int) := by rw [IntKind.wrap_u64]; omega
  have HM := jA.mk h8
  clear h8
  by_cases hs : t.size < 8 * m
  ·
   rw [if_pos hs] at h
   cases h
   go_enter Tryz.func114, Tryz.ntmps114
   go_wp2_with fail
   refine (jBi g s w HB.out hz).mono ?_
   rw [HN.out]
   rintro e w1 ⟨rfl, hb, hc⟩
   have HC := jA.mk hb
   have HD := jA.mk hc
   clear hb hc
   go_wp2_with fail
   refine (jAb _).mono ?_
   rintro e w2 ⟨rfl, rfl⟩
   go_wp2_with fail
   rw [show 8 * (m : Int) = ((8 * m : Nat) : Int) from (Int.natCast_mul 8 m).symm]
   refine (jFI g (8 * m) t w1 HD.out (by omega) hs).mono ?_
   rintro e w2 ⟨rfl, rfl⟩
   exact ⟨rfl, rfl, HC.out⟩
  rw [if_neg hs] at h
  obtain ⟨l, hl, h⟩ := Option.bind_eq_some_iff.mp h
  obtain ⟨b, hm, h⟩ := Option.bind_eq_some_iff.mp h
  have hts2 : t.size ≤ 9223372036854775807 := by omega
  have HL := jA.mk hl
  have HMY := jA.mk hm
  have HV := jA.mk h
  have HZ := jA.mk hz
  clear hl hm h hz
  go_enter Tryz.func114, Tryz.ntmps114
  go_wp2_with fail
  refine (jBi g s w HB.out HZ.out).mono ?_
  rw [HN.out]
  rintro e w1 ⟨rfl, hb, hc⟩
  have HC := jA.mk hb
  have HD := jA.mk hc
  clear hb hc HN HB
  go_wp2_with fail
  refine (jAb _).mono ?_
  rintro e w2 ⟨rfl, rfl⟩
  go_wp2_with fail
  rw [show 8 * (m : Int) = ((8 * m : Nat) : Int) from (Int.natCast_mul 8 m).symm]
  clear hw
  refine (jBT g (8 * m) t w1 HD.out hts2 (by omega)).mono ?_
  rintro e w2 ⟨rfl, rfl⟩
  have HE := jA.mk (jM (cs' := #[.string (t.extract (8 * m) t.size)]) HD.out 0 (.string (t.extract (8 * m) t.size)) rfl)
  have HF := jA.mk (jFx HC.out (.string (t.extract (8 * m) t.size)))
  generalize w1.setCell ⟨g, 0, none⟩ (.string (t.extract (8 * m) t.size)) = w2 at HE HF ⊢
  clear HC HD w1
  have hx0 : (t.extract 0 (8 * m)).size = 8 * m := by rw [ByteArray.size_extract]; omega
  generalize t.extract 0 (8 * m) = x0 at HL hx0 ⊢
  have HX := jA.mk hx0
  clear hx0
  have HGW := jA.mk HG.out
  go_wp2_with fail
  go_loopw [2, 4] (fun v2 v4 w' => ∃ (done : List Int) (j : Nat) (x : ByteArray), v4 = .string x ∧ jA (x.size = 8 * j) ∧ jA (j ≤ m) ∧ jA (done ++ chunks j x = chunks m x0) ∧ jA (Kd.R (Kd.int .u64) 56 w' w.heap.size (fun _ => True) v2 done) ∧ jA (w'.heap[g]? = some (.cells #[.string (t.extract (8 * m) t.size)] 135 (0, 0))) ∧ jA (jAp g w w')) (fun _ v4 wr => match v4 with | .string x => x.size | _ => 0)
  case atStart => exact ⟨[], m, x0, rfl, HX, ⟨Nat.le_refl _⟩, ⟨rfl⟩, ⟨Kd.jAS _ _ _ _ _⟩, HE, HF⟩
  case round =>
   clear HX HE HF
   obtain ⟨done, j, x, rfl, HX, HJ, HD, HR, HE, HF⟩ := hrel
   cases j with
   | zero =>
    have e0 : (x.toList == ([] : List UInt8)) = true := by rw [beq_iff_eq, ByteArray.toList_eq, ← List.length_eq_zero_iff, qF]; have := HX.out; omega
    have e1 : (x.toList != ([] : List UInt8)) = false := by rw [bne_eq_false_iff_eq, ByteArray.toList_eq, ← List.length_eq_zero_iff, qF]; have := HX.out; omega
    have ed : done = chunks m x0 := by have := HD.out; rw [chunks, List.append_nil] at this; exact this
    rw [← ed] at HL
    clear HD ed HX
    obtain ⟨Ao, co, rfl⟩ := Kd.vE HR.out
    go_wp2_with fail
    have HRG := jA.mk (fun k_ (e_ : (Value.slice Ao done.length co).ownBlock = some k_) => Kd.qM HR.out k_ e_)
    have HFS := jA.mk HF.out.1.size
    refine (jH.calls k (fun k_ => some k_ = (Value.slice Ao done.length co).ownBlock) (.slice Ao done.length co) done l (cut g wr) wr (jLF (by have := HG.out; have := HFS.out; omega)) (by rw [jDK (by have := HG.out; have := HFS.out; omega)]; exact Kd.jk (Kd.jFn rfl HR.out) (Nat.le_of_lt HG.out)) HL.out).mono ?_
    rintro e w3 ⟨rfl, hy, hb, hk⟩
    rw [jDK (by have := HG.out; have := HFS.out; omega)] at hy hb
    have HE3 := jA.mk (jNA HE.out hk (fun e_ => by have := HRG.out g e_.symm; have := HG.out; omega))
    have HF3 := jA.mk (show jAp g w w3 from ⟨HF.out.1.trans (jHD hb hk.1 (by have := HG.out; have := HFS.out; omega)), Nat.le_trans HF.out.2.1 hk.1, fun i hi hg hr => (hk.2 i (Nat.lt_of_lt_of_le hi HFS.out) (fun e_ => by have := HRG.out i e_.symm; omega)).trans (HF.out.2.2 i hi hg hr)⟩)
    have HR3 := jA.mk (Kd.jQv (ok := fun _ => True) rfl (Kd.jPC (d := (Kd.int .u64)) (b := g) (b' := w.heap.size) (fun _ _ _ _ h_ => h_) hy HRG.out) (fun _ _ => trivial))
    clear hy hb hk HE HF HR
    have HQ := jA.mk (Kd.jW HR3.out)
    go_wp2_with fail
    rw [show (done.length : Nat) = l.length from HQ.out.1]
    refine (vU.calls Ao co l b w3 HQ.out.2.2 (HQ.out.1 ▸ HQ.out.2.1) HMY.out).mono ?_
    rintro e w4 ⟨rfl, ⟨nd, rfl⟩⟩
    go_wp2_with fail
    cases b with
    | false =>
     refine (jCl _).mono ?_
     rintro e w5 ⟨rfl, rfl⟩
     have := HV.out
     cases this
     exact ⟨rfl, rfl, ⟨vH HF3.out.1 nd, HF3.out.2⟩⟩
    | true =>
     refine (jAb _).mono ?_
     rintro e w5 ⟨rfl, rfl⟩
     have hv := HV.out
     cases hv
     go_wp2
     go_ret
     exact ⟨_, rfl, ⟨vH HF3.out.1 nd, HF3.out.2⟩, qR HE3.out nd, Kd.qz (by rw [HQ.out.1] at HR3; exact HR3.out) nd⟩
   | succ j =>
    have hx8 : 8 ≤ x.size := by have := HX.out; omega
    have e0 : (x.toList == ([] : List UInt8)) = false := by rw [beq_eq_false_iff_ne, ByteArray.toList_eq, Ne, ← List.length_eq_zero_iff, qF]; omega
    have e1 : (x.toList != ([] : List UInt8)) = true := by rw [bne_iff_ne, ByteArray.toList_eq, Ne, ← List.length_eq_zero_iff, qF]; omega
    have c8 : (8 : Int) ≤ (x.size : Int) := by omega
    have hz8 : (x.extract 0 8).size = 8 := by rw [ByteArray.size_extract]; omega
    have hz9 : (x.extract 8 x.size).size = 8 * j := by rw [ByteArray.size_extract]; have := HX.out; omega
    have hlen : done.length ≤ 8 := by
     have := congrArg List.length HD.out
     rw [List.length_append, jBk, jBk] at this
     have := HM.out; omega
    have HD2 : done ++ [be (bytesOf (x.extract 0 8))] ++ chunks j (x.extract 8 x.size) = chunks m x0 := by rw [List.append_assoc]; exact HD.out
    have HZ8 := jA.mk hz8
    have HZ9 := jA.mk hz9
    have HLN := jA.mk hlen
    have HD3 := jA.mk HD2
    have HX8 := jA.mk hx8
    clear HD HD2 hz8 hz9 hlen hx8 HX
    have HGR := jA.mk (show g < wr.heap.size from Nat.lt_of_lt_of_le HG.out HF.out.1.size)
    have HWR := jA.mk HF.out.1.size
    go_wp2_with fail
    refine (jHB (x.extract 0 8) wr (by have := HZ8.out; omega)).mono ?_
    rintro e w3 ⟨rfl, hv⟩
    generalize be (bytesOf (x.extract 0 8)) = cc at HD3 ⊢
    have HE3 := jA.mk (jN HE.out hv)
    have HF3 := jA.mk (jBy HG.out HF.out hv)
    have HR3 := jA.mk (Kd.jAT HR.out hv)
    have HW3 := jA.mk (Nat.le_trans HWR.out hv.size)
    clear hv HE HF HR HGR HWR
    go_wp2_with ((with_reducible refine zi (b := .append) (xs := #[.tmp 18, .tmp 22]) rfl ?_); at_builtin; refine Kd.jBJ (Kd.int .u64) w.heap.size rfl (.tmp 18) (.tmp 22) 31 56 (.int .u64 0) 8 rfl Tryz.underlying31 jAL rfl (by decide) (by omega) u2 done cc [.int .u64 cc] (fun _ => True) (fun _ => False) rfl rfl ?aP (fun _ hk => hk.elim) ?aF ?aO (Below.refl _ _) ?aS ?aL ?_; (case aP => exact rfl); (case aF => exact (fun _ _ => trivial)); (case aO => exact HR3.out); (case aS => exact HW3.out); (case aL => have := HLN.out; omega); intro v4 w4 ho hb hg hat; have HE4 := jA.mk (jAy HE3.out hg (fun e_ => by have := Kd.qM HR3.out g e_.symm; have := HG.out; omega)); have HF4 := jA.mk (jKA HG.out HF3.out hb); have HR4 := jA.mk ho; clear ho hb hg hat HE3 HF3 HR3)
    go_roundw
    case rel => exact ⟨done ++ [cc], j, x.extract 8 x.size, rfl, HZ9, ⟨by have := HJ.out; omega⟩, HD3, HR4, HE4, HF4⟩
    case measure =>
     show (x.extract 8 x.size).size < x.size
     rw [ByteArray.size_extract]; have := HX8.out; omega
end OctNat
end Go.Proofs.YtoganbmeedimiaaGreat.POPressOne
