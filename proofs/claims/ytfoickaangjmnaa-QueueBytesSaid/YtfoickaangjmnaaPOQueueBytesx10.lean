-- Written by a program of this session (pr.py, over the kit's print.py).
import Derived.Test.YtfoickaangjmnaaPOQueueBytesx0
import Derived.Test.YtfoickaangjmnaaPOQueueBytesx2
namespace Go.Proofs.Ytfoickaangjmnaa.POQueueBytes
open Go.RowKit Go.Proofs.YtfoickaangjmnaaN Go.Proofs.YtfoickaangjmnaaW.PrintWords Go.Proofs.YtfoickaangjmnaaW.PrintLast Go.Proofs.YtfoickaangjmnaaW.PrintMore
attribute [local go_sem] max2_int min2_int max_two min_two max_three min_three max_four min_four   -- for this text's walks alone
set_option linter.unusedVariables false
set_option linter.unusedSimpArgs false

/-! ### octet_sure: function 109 -/

namespace Oct
def pan (n : Int) : List PanicEntry := [{ v := .iface 41 (.int .i64 n), recovered := false }]
theorem sure_ok (w : World) : Calls Try.prog 109 #[.bool true] w fun e w' => e = .returned (.tuple #[]) ∧ w = w' := by
  go_enter Try.func109, Try.ntmps109
  go_wp2
  go_end0
  exact ⟨rfl, rfl⟩
theorem sure_no (w : World) : Calls Try.prog 109 #[.bool false] w fun e w' => e = .panicked (pan 62) ∧ w = w' := by
  go_enter Try.func109, Try.ntmps109
  go_wp2
  exact ⟨rfl, rfl, rfl⟩
set_option maxHeartbeats 1000000 in
theorem take_ok (g n : Nat) (s : ByteArray) (w : World) (hb : w.heap[g]? = some (.cells #[.string s] 106 (0, 0))) (hz : s.size ≤ 9223372036854775807) (hn : n ≤ s.size) :
    Calls Try.prog 108 #[.pointer (some ⟨g, 0, none⟩), .int .u64 n] w fun e w' => e = .returned (.string (s.extract 0 n)) ∧ w.setCell ⟨g, 0, none⟩ (.string (s.extract n s.size)) = w' := by
  have hc : w.cell? ⟨g, 0, none⟩ = some (.string s) := (blk_cell hb 0).trans rfl
  have hf := blk_frozen hb 0
  have h1 : decide (s.size < n) = false := decide_eq_false (by omega)
  have h2 : decide ((s.size : Int) < (n : Int)) = false := decide_eq_false (by omega)
  clear hb
  go_enter Try.func108, Try.ntmps108
  go_wp2
  go_ret
  exact ⟨rfl, rfl⟩
theorem take_no (g n : Nat) (s : ByteArray) (w : World) (hb : w.heap[g]? = some (.cells #[.string s] 106 (0, 0))) (hz : s.size ≤ 9223372036854775807) (hn : s.size < n) :
    Calls Try.prog 108 #[.pointer (some ⟨g, 0, none⟩), .int .u64 n] w fun e w' => e = .panicked (pan 60) ∧ w = w' := by
  have hc : w.cell? ⟨g, 0, none⟩ = some (.string s) := (blk_cell hb 0).trans rfl
  have h1 : decide (s.size < n) = true := decide_eq_true (by omega)
  clear hb
  go_enter Try.func108, Try.ntmps108
  go_wp2
  exact ⟨rfl, rfl, rfl⟩

def stp (n c : Int) : Int := Go.bits .or .u64 (IntKind.u64.wrap (n * 256)) (IntKind.u64.wrap c)
def be (l : List Int) : Int := l.foldl stp 0
theorem be_snoc (l : List Int) (c : Int) : be (l ++ [c]) = stp (be l) c := by unfold be; rw [List.foldl_append]; rfl
theorem take_snoc (l : List Int) (k : Nat) (h : k < l.length) : l.take (k + 1) = l.take k ++ [l.getD k 0] := by
  rw [List.take_succ_eq_append_getElem h, List.getD_eq_getElem?_getD, List.getElem?_eq_getElem h]; rfl
set_option maxHeartbeats 1000000 in
theorem value_c (s : ByteArray) (w : World) (hz : s.size ≤ 140737488351232) :
    Calls Try.prog 110 #[.string s] w fun e w' => e = .returned (.int .u64 (be (bytesOf s))) ∧ Below w.heap.size w w' := by
  have kb := fun W => print_bytes (P := Try.prog) 9 80 5 Try.underlying9 Try.underlying80 Try.underlying5 s W
  have HR := Aside0.mk (bytes_reads w 5 s (by omega))
  have HD := Aside0.mk (bytes_below (Below.refl w.heap.size w) (Nat.le_refl _) 5 s)
  go_enter Try.func110, Try.ntmps110
  go_wp2
  generalize Lib.bytesWorld w 5 s = w1 at HR HD ⊢
  clear kb
  go_loop [2, 8] (fun n i => ∃ k : Nat, k ≤ s.size ∧ i = .int .i64 k ∧ n = .int .u64 (be ((bytesOf s).take k))) (fun _ i => s.size - (intOf i).toNat)
  case atStart => exact ⟨0, Nat.zero_le _, rfl, rfl⟩
  case round =>
    obtain ⟨k, hk, rfl, rfl⟩ := hrel
    by_cases hlt : k < s.size
    · have hc : w1.cell? ⟨w.heap.size, k, none⟩ = some (.int .u8 ((bytesOf s).getD k 0)) := by
        obtain ⟨ad, e, hc⟩ := HR.out.2.2 (by omega)
        cases e
        have := hc k hlt
        by_cases h0 : k = 0
        · subst h0; simpa [Addr.add] using this
        · simpa [Addr.add, h0] using this
      have HS := Aside0.mk (show be ((bytesOf s).take (k + 1)) = stp (be ((bytesOf s).take k)) ((bytesOf s).getD k 0) by rw [take_snoc _ _ (by rw [bytesOf_length]; exact hlt), be_snoc])
      go_wp2
      go_round
      case rel => exact ⟨k + 1, by omega, by go_num, by rw [HS.out]; unfold stp; simp⟩
      case measure => simp [intOf]; omega
    · go_wp2
      go_ret
      exact ⟨congrArg (fun l => Ending.returned (.int .u64 (be l))) (List.take_of_length_le (by rw [bytesOf_length]; omega)), HD.out⟩

theorem blk_below0 {w w1 : World} {g B : Nat} {o : Obj} (h : w.heap[g]? = some o) (hb : Below B w w1) (hg : g < B) : w1.heap[g]? = some o := (hb.block g hg).trans h
/-- What lies below g stays, and but for g what was there at all. -/
def Stays (g : Nat) (w w' : World) : Prop := Below g w w' ∧ KeepBut w w' g none
theorem Stays.refl (g : Nat) (w : World) : Stays g w w := ⟨Below.refl g w, KeepBut.refl w g none⟩
theorem stays_own {g : Nat} {w : World} (v : Value) : Stays g w (w.setCell ⟨g, 0, none⟩ v) := ⟨(Below.refl g w).setCell (Nat.le_refl _) v, (KeepBut.refl w g none).set_ 0 v⟩
theorem stays_set {g : Nat} {w w1 : World} (h : Stays g w w1) (v : Value) : Stays g w (w1.setCell ⟨g, 0, none⟩ v) := ⟨h.1.setCell (Nat.le_refl _) v, h.2.set_ 0 v⟩
theorem stays_below {g : Nat} {w w1 w2 : World} (hg : g < w.heap.size) (h : Stays g w w1) (k : Below w1.heap.size w1 w2) : Stays g w w2 := ⟨h.1.trans (k.mono (Nat.le_trans (Nat.le_of_lt hg) h.1.size)), h.2.trans (KeepBut.of_below k g none) (.inl rfl)⟩
theorem stays_low {g : Nat} {w w1 w2 : World} (hg : g < w.heap.size) (h : Stays g w w1) (k : Below w.heap.size w1 w2) : Stays g w w2 := ⟨h.1.trans (k.mono (Nat.le_of_lt hg)), Nat.le_trans h.2.1 k.size, fun i hi hg hr => (k.block i hi).trans (h.2.2 i hi hg hr)⟩
theorem stays_trans {g : Nat} {w w1 w2 : World} (h : Stays g w w1) (k : Stays g w1 w2) : Stays g w w2 := ⟨h.1.trans k.1, h.2.trans k.2 (.inl rfl)⟩
/-- number: what it reads, and what is left; or the error. -/
def num (s : ByteArray) : Int ⊕ (Int × ByteArray) :=
  if s.size < 1 then .inl 60 else if 8 < (bt s 0).toNat then .inl 62 else if s.size < 1 + (bt s 0).toNat then .inl 60
  else if (bt s 0).toNat ≠ 0 ∧ bt s 1 = 0 then .inl 62 else .inr (be (bytesOf (s.extract 1 (1 + (bt s 0).toNat))), s.extract (1 + (bt s 0).toNat) s.size)
def Numbered (g : Nat) (s : ByteArray) (w : World) (e : Ending) (w' : World) : Prop :=
  match num s with
  | .inl c => e = .panicked (pan c) ∧ Stays g w w'
  | .inr (n, t) => e = .returned (.int .u64 n) ∧ Stays g w w' ∧ w'.heap[g]? = some (.cells #[.string t] 106 (0, 0))
theorem numbered_no {g : Nat} {s : ByteArray} {w : World} {c : Int} (h : num s = .inl c) : Numbered g s w = fun e w' => e = .panicked (pan c) ∧ Stays g w w' := by unfold Numbered; rw [h]
theorem numbered_yes {g : Nat} {s t : ByteArray} {w : World} {n : Int} (h : num s = .inr (n, t)) : Numbered g s w = fun e w' => e = .returned (.int .u64 n) ∧ Stays g w w' ∧ w'.heap[g]? = some (.cells #[.string t] 106 (0, 0)) := by unfold Numbered; rw [h]
theorem below_upto {g : Nat} {w w1 w2 : World} (hg : g < w.heap.size) (h : Below g w w1) (k : Below w1.heap.size w1 w2) : Below g w w2 := h.trans (k.mono (Nat.le_trans (Nat.le_of_lt hg) h.size))
theorem below_own {g : Nat} {w : World} (v : Value) (hg : g < w.heap.size) : Below g w (w.setCell ⟨g, 0, none⟩ v) := (Below.refl g w).setCell (Nat.le_refl _) v
set_option maxHeartbeats 4000000 in
theorem number_c (g : Nat) (s : ByteArray) (w : World) (hb : w.heap[g]? = some (.cells #[.string s] 106 (0, 0))) (hz : s.size ≤ 140737488351232) :
    Calls Try.prog 97 #[.pointer (some ⟨g, 0, none⟩)] w (Numbered g s w) := by
  have HB := Aside0.mk hb
  have HG := Aside0.mk (blk_lt hb)
  clear hb
  by_cases h1 : s.size < 1
  · rw [numbered_no (c := 60) (by unfold num; rw [if_pos h1])]
    go_enter Try.func97, Try.ntmps97
    go_wp2_with (go_at_call 108; refine (take_no g 1 s _ HB.out (by omega) h1).mono ?_; rintro e w1 ⟨rfl, rfl⟩)
    exact ⟨rfl, rfl, Stays.refl _ _⟩
  · obtain ⟨k, hk⟩ := Int.eq_ofNat_of_zero_le (bt_range s 0).1
    have hkb : k ≤ 255 := by have := (bt_range s 0).2; omega
    have e1 : s.extract 0 1 = s.extract 0 1 := rfl
    have hx1 : (s.extract 0 1).size = 1 := by rw [ByteArray.size_extract]; omega
    have hget : ∀ h : 0 < (s.extract 0 1).size, (((s.extract 0 1)[0]'h).toNat : Int) = (k : Int) := fun h => by
      rw [ByteArray.getElem_extract, ← hk]; exact bt_at s 0 (by simp; omega)
    have HB1 := Aside0.mk (blk_put (cs' := #[.string (s.extract 1 s.size)]) HB.out 0 (.string (s.extract 1 s.size)) rfl)
    have HD1 := Aside0.mk (stays_own (g := g) (w := w) (.string (s.extract 1 s.size)))
    have HK := Aside0.mk hk
    clear hk e1
    by_cases h2 : 8 < k
    · have t2 : decide ((k : Int) ≤ 8) = false := decide_eq_false (by omega)
      have t3 : decide (k ≤ 8) = false := decide_eq_false (by omega)
      rw [numbered_no (c := 62) (by unfold num; rw [if_neg h1, if_pos (by rw [HK.out]; exact h2)])]
      go_enter Try.func97, Try.ntmps97
      go_wp2_with (go_at_call 108; refine (take_ok g 1 s _ HB.out (by omega) (by omega)).mono ?_; rintro e w1 ⟨rfl, rfl⟩)
      refine (sure_no _).mono ?_
      rintro e w1 ⟨rfl, rfl⟩
      exact ⟨rfl, rfl, HD1.out⟩
    · have t2 : decide ((k : Int) ≤ 8) = true := decide_eq_true (by omega)
      have t3 : decide (k ≤ 8) = true := decide_eq_true (by omega)
      by_cases h3 : s.size < 1 + k
      · rw [numbered_no (c := 60) (by unfold num; rw [if_neg h1, if_neg (by rw [HK.out]; exact h2), if_pos (by rw [HK.out]; exact h3)])]
        go_enter Try.func97, Try.ntmps97
        go_wp2_with (go_at_call 108; refine (take_ok g 1 s _ HB.out (by omega) (by omega)).mono ?_; rintro e w1 ⟨rfl, rfl⟩)
        refine (sure_ok _).mono ?_
        rintro e w1 ⟨rfl, rfl⟩
        go_wp2_with (go_at_call 108; refine (take_no g k _ _ HB1.out (by rw [ByteArray.size_extract]; omega) (by rw [ByteArray.size_extract]; omega)).mono ?_; rintro e w1 ⟨rfl, rfl⟩)
        exact ⟨rfl, rfl, HD1.out⟩
      · have E1 : (s.extract 1 s.size).extract 0 k = s.extract 1 (1 + k) := by rw [ByteArray.extract_extract]; congr 1; omega
        have E2 : (s.extract 1 s.size).extract k (s.extract 1 s.size).size = s.extract (1 + k) s.size := by rw [ByteArray.extract_extract, ByteArray.size_extract]; congr 1; omega
        have T := take_ok g k (s.extract 1 s.size) _ HB1.out (by rw [ByteArray.size_extract]; omega) (by rw [ByteArray.size_extract]; omega)
        rw [E1, E2] at T
        have HT := Aside0.mk T
        have HB2 := Aside0.mk (blk_put (cs' := #[.string (s.extract (1 + k) s.size)]) HB1.out 0 (.string (s.extract (1 + k) s.size)) rfl)
        have HD2 := Aside0.mk (stays_set HD1.out (.string (s.extract (1 + k) s.size)))
        have hsz : (s.extract 1 (1 + k)).size = k := by rw [ByteArray.size_extract]; omega
        have HSZ := Aside0.mk (show (s.extract 1 (1 + k)).size ≤ 140737488351232 by omega)
        clear T E1 E2
        by_cases h4 : k = 0
        · rw [numbered_yes (n := be (bytesOf (s.extract 1 (1 + k)))) (t := s.extract (1 + k) s.size) (by unfold num; rw [if_neg h1, if_neg (by rw [HK.out]; exact h2), if_neg (by rw [HK.out]; exact h3), if_neg (by rw [HK.out]; intro q; exact q.1 h4), HK.out]; rfl)]
          have t4 : ((k : Int) == 0) = true := by rw [h4]; rfl
          have t5 : (k == 0) = true := by rw [h4]; rfl
          clear h4
          go_enter Try.func97, Try.ntmps97
          go_wp2_with (go_at_call 108; refine (take_ok g 1 s _ HB.out (by omega) (by omega)).mono ?_; rintro e w1 ⟨rfl, rfl⟩)
          refine (sure_ok _).mono ?_
          rintro e w1 ⟨rfl, rfl⟩
          go_wp2_with fail
          refine HT.out.mono ?_
          rintro e w1 ⟨rfl, rfl⟩
          go_wp2_with fail
          refine (sure_ok _).mono ?_
          rintro e w1 ⟨rfl, rfl⟩
          go_wp2_with fail
          refine (value_c _ _ HSZ.out).mono ?_
          rintro e w3 ⟨rfl, hv⟩
          have HB3 := Aside0.mk (blk_below HB2.out hv)
          have HD3 := Aside0.mk (stays_below HG.out HD2.out hv)
          clear hv
          go_wp2
          go_ret
          exact ⟨rfl, HD3.out, HB3.out⟩
        · have hget2 : ∀ h : 0 < (s.extract 1 (1 + k)).size, (((s.extract 1 (1 + k))[0]'h).toNat : Int) = bt s 1 := fun h => by
            rw [ByteArray.getElem_extract]; exact bt_at s 1 (by simp; omega)
          have t4 : ((k : Int) == 0) = false := beq_eq_false_iff_ne.mpr (by omega)
          have t5 : (k == 0) = false := beq_eq_false_iff_ne.mpr h4
          have hpos : 0 < (s.extract 1 (1 + k)).size := by omega
          by_cases h5 : bt s 1 = 0
          · rw [numbered_no (c := 62) (by unfold num; rw [if_neg h1, if_neg (by rw [HK.out]; exact h2), if_neg (by rw [HK.out]; exact h3), if_pos (by rw [HK.out]; exact ⟨h4, h5⟩)])]
            have t6 : (bt s 1 != 0) = false := bne_eq_false_iff_eq.mpr h5
            clear h4 h5
            go_enter Try.func97, Try.ntmps97
            go_wp2_with (go_at_call 108; refine (take_ok g 1 s _ HB.out (by omega) (by omega)).mono ?_; rintro e w1 ⟨rfl, rfl⟩)
            refine (sure_ok _).mono ?_
            rintro e w1 ⟨rfl, rfl⟩
            go_wp2_with fail
            refine HT.out.mono ?_
            rintro e w1 ⟨rfl, rfl⟩
            go_wp2_with fail
            refine (sure_no _).mono ?_
            rintro e w1 ⟨rfl, rfl⟩
            exact ⟨rfl, rfl, HD2.out⟩
          · rw [numbered_yes (n := be (bytesOf (s.extract 1 (1 + k)))) (t := s.extract (1 + k) s.size) (by unfold num; rw [if_neg h1, if_neg (by rw [HK.out]; exact h2), if_neg (by rw [HK.out]; exact h3), if_neg (by rw [HK.out]; intro q; exact h5 q.2), HK.out]; rfl)]
            have t6 : (bt s 1 != 0) = true := bne_iff_ne.mpr h5
            clear h4 h5
            go_enter Try.func97, Try.ntmps97
            go_wp2_with (go_at_call 108; refine (take_ok g 1 s _ HB.out (by omega) (by omega)).mono ?_; rintro e w1 ⟨rfl, rfl⟩)
            refine (sure_ok _).mono ?_
            rintro e w1 ⟨rfl, rfl⟩
            go_wp2_with fail
            refine HT.out.mono ?_
            rintro e w1 ⟨rfl, rfl⟩
            go_wp2_with fail
            refine (sure_ok _).mono ?_
            rintro e w1 ⟨rfl, rfl⟩
            go_wp2_with fail
            refine (value_c _ _ HSZ.out).mono ?_
            rintro e w3 ⟨rfl, hv⟩
            have HB3 := Aside0.mk (blk_below HB2.out hv)
            have HD3 := Aside0.mk (stays_below HG.out HD2.out hv)
            clear hv
            go_wp2
            go_ret
            exact ⟨rfl, HD3.out, HB3.out⟩
theorem wpS_act {P : Program} {Q : Exit → Act → List Frame → World → Prop} {a a' : Act} {cs : List Frame} {w : World} {c : Code} (h : a = a') (h2 : c.wpS P Q a' cs w) : c.wpS P Q a cs w := h ▸ h2
theorem wp_any {P : Program} {Q : Exit → Act → World → Prop} {a : Act} {w : World} {c : Code} (h : ∀ Q' : Exit → Act → World → Prop, (∀ e a' w', Q' e a' w' = Q e a' w') → c.wp P Q' a w) : c.wp P Q a w := h Q (fun _ _ _ => rfl)
theorem caught_idle (pe : Value) (undo : Value) (w : World) :
    CallsD Try.prog 95 #[pe, undo] .returning w fun e u' w' => e = .returned (.tuple #[]) ∧ u' = .returning ∧ w' = w := by
  refine callsD_of_wpS Try.func95 rfl fun c₀ cs hu => ?_
  apply wpS_seq
  apply wpS_region
  simp [wpOpsS, go_sem, recoverD, hu, Try.ntmps95, Exit.thenS]
  refine wpS_act (a' := { tmps := #[pe, undo, undef, undef, undef, undef, undef, .nilIface, undef, undef, undef, undef, undef, undef, undef, undef, undef, undef], defers := [] }) rfl ?_
  refine wpS_of_wp (wp_any fun Q' hQ' => ?_)
  go_wp2
  rw [hQ']
  cases c₀
  simp_all [bodyPostS, results, Try.results95]
theorem tmps18 (a b v : Value) : (#[a, b] ++ (Array.replicate 16 undef).setIfInBounds 5 v) = #[a, b, undef, undef, undef, undef, undef, v, undef, undef, undef, undef, undef, undef, undef, undef, undef, undef] := by kernel_rfl
set_option maxHeartbeats 2000000 in
set_option maxRecDepth 100000 in
theorem caught_panic (p : Addr) (x c : Int) (F : Nat) (fn : Func) (cap : Array Value) (older : List PanicEntry) (w w1 : World) (hc : w.cell? p = some (.int .i64 x)) (hz : w.frozen? p = false) (he : ∀ args W, (callFunc F args).run Try.prog W = .ok (.enter F args) W) (hu : Calls Try.prog F cap (w.setCell p (.int .i64 c)) fun e w' => e = .returned (.tuple #[]) ∧ w' = w1) :
    CallsD Try.prog 95 #[.pointer (some p), .func (.func F) #[] cap] (.panicking ({ v := .iface 41 (.int .i64 c), recovered := false } :: older)) w fun e u' w' =>
      e = .returned (.tuple #[]) ∧ u' = .panicking ({ v := .iface 41 (.int .i64 c), recovered := true } :: older) ∧ w' = w1 := by
  have HU := Aside0.mk hu
  clear hu
  refine callsD_of_wpS Try.func95 rfl fun c₀ cs hu => ?_
  apply wpS_seq
  apply wpS_region
  simp [wpOpsS, go_sem, recoverD, hu, Try.ntmps95, Exit.thenS]
  rw [tmps18]
  refine wpS_of_wp (wp_any fun Q' hQ' => ?_)
  have hta : ∀ (v : Value) (W : World), (Instr.typeAssert (.iface 41 v) 20 41 true).run Try.prog W = .ok (.tuple #[v, .bool true]) W := fun v W => by kernel_rfl
  go_wp2_with fail
  refine HU.out.mono ?_
  rintro e w' ⟨rfl, rfl⟩
  go_wp2
  rw [hQ']
  cases c₀
  simp_all [bodyPostS, results, Try.results95]
def noPanic (Q : Exit → Act → World → Prop) : Exit → Act → World → Prop
  | .panic _, _, _ => False
  | e, a, w => Q e a w
theorem wp_sure {P : Program} {c : Code} {Q : Exit → Act → World → Prop} {a : Act} {w : World} (h : c.wp P (noPanic Q) a w) : c.wp P Q a w :=
  Code.wp_mono (by intro e a w h; cases e <;> first | exact h | exact h.elim) h
theorem noPanic_normal {Q : Exit → Act → World → Prop} {a : Act} {w : World} (h : Q .normal a w) : noPanic Q .normal a w := h
theorem R_far_ {α : Type} {d : Kd α} {e base m : Nat} {W : World} {v : Value} {xs : List α} {p : Addr} (h : d.R e W base (fun k_ => m ≤ k_) v xs) (hp : p.block < m) (u : Value) : d.R e (W.setCell p u) base (fun k_ => m ≤ k_) v xs :=
  Kd.R_far h (fun k hk => by omega) u
theorem bits_pos (x y : Int) : 0 ≤ Go.bits .or .u64 x y := by
  unfold Go.bits
  rw [IntKind.wrap_u64]
  exact Int.emod_nonneg _ (by decide)
theorem be_pos (l : List Int) : 0 ≤ be l := by
  unfold be
  suffices h : ∀ (l : List Int) (a : Int), 0 ≤ a → 0 ≤ l.foldl stp a from h l 0 (Int.le_refl _)
  intro l
  induction l with
  | nil => exact fun a h => h
  | cons x l ih => exact fun a _ => ih _ (bits_pos _ _)
theorem num_pos {s t : ByteArray} {n : Int} (h : num s = .inr (n, t)) : 0 ≤ n := by
  unfold num at h
  repeat (split at h; cases h)
  cases h
  exact be_pos _
theorem num_size {s t : ByteArray} {n : Int} (h : num s = .inr (n, t)) : t.size ≤ s.size := by
  unfold num at h
  repeat (split at h; cases h)
  cases h
  rw [ByteArray.size_extract]
  omega
end Oct

/-! ### octet_value: function 110 -/


/-! ### octet_reader_number: function 97 -/


/-! ### octet_Get: function 60 -/
namespace octet_Get
open Oct
theorem undo_c_60 (p q : Addr) (x y : Value) (w : World) (hp : w.cell? p = some x) (hq : w.cell? q = some y) (fp : w.frozen? p = false) (fq : w.frozen? q = false) (hpq : p.block ≠ q.block) :
    Calls Try.prog 96 #[.pointer (some p), .pointer (some q)] w fun e w' => e = .returned (.tuple #[]) ∧ w' = (w.setCell p (.int .u64 0)).setCell q (.string { data := #[] }) := by
  have hq' : (w.setCell p (.int .u64 0)).cell? q = some y := by rw [World.cell?_setCell_other _ _ _ _ (fun e => hpq (by rw [e]))]; exact hq
  go_enter Try.func96, Try.ntmps96
  go_wp2
  go_end0
  exact ⟨rfl, rfl⟩
def W4_60 (s : ByteArray) (w : World) : World := (((w.alloc (.cells #[.int .u64 0] 50)).alloc (.cells #[.string { data := #[] }] 9)).alloc (.cells #[.int .i64 0] 41)).alloc (.cells #[.string s] 106)
theorem size_alloc0_60 (w : World) (o : Obj) : (w.alloc o).heap.size = w.heap.size + 1 := Array.size_push _
theorem w4_0_60 (s : ByteArray) (w : World) : (W4_60 s w).heap[w.heap.size]? = some (.cells #[.int .u64 0] 50 (0, 0)) := blk_alloc (blk_alloc (blk_alloc (blk_new _ _) _) _) _
theorem w4_1_60 (s : ByteArray) (w : World) : (W4_60 s w).heap[w.heap.size + 1]? = some (.cells #[.string { data := #[] }] 9 (0, 0)) := by rw [← size_alloc0_60 w (.cells #[.int .u64 0] 50)]; exact blk_alloc (blk_alloc (blk_new _ _) _) _
theorem w4_2_60 (s : ByteArray) (w : World) : (W4_60 s w).heap[w.heap.size + 1 + 1]? = some (.cells #[.int .i64 0] 41 (0, 0)) := by rw [← size_alloc0_60 w (.cells #[.int .u64 0] 50), ← size_alloc0_60 _ (.cells #[.string { data := #[] }] 9)]; exact blk_alloc (blk_new _ _) _
theorem w4_3_60 (s : ByteArray) (w : World) : (W4_60 s w).heap[w.heap.size + 1 + 1 + 1]? = some (.cells #[.string s] 106 (0, 0)) := by rw [← size_alloc0_60 w (.cells #[.int .u64 0] 50), ← size_alloc0_60 _ (.cells #[.string { data := #[] }] 9), ← size_alloc0_60 _ (.cells #[.int .i64 0] 41)]; exact blk_new _ _
theorem w4_size_60 (s : ByteArray) (w : World) : (W4_60 s w).heap.size = w.heap.size + 1 + 1 + 1 + 1 := by unfold W4_60; rw [size_alloc0_60, size_alloc0_60, size_alloc0_60, size_alloc0_60]
theorem w4_below_60 (s : ByteArray) (w : World) : Below w.heap.size w (W4_60 s w) :=
  below_alloc (below_alloc (below_alloc (below_alloc (Below.refl _ w) _) _) _) _
set_option maxHeartbeats 4000000 in
set_option maxRecDepth 100000 in
theorem get_no_60 (s : ByteArray) (w : World) (c : Int) (hn : num s = .inl c) (hz : s.size ≤ 140737488351232) :
    Calls Try.prog 60 #[.string s] w fun e w' => e = .returned (.tuple #[.int .u64 0, .string { data := #[] }, .int .i64 c]) ∧ Below w.heap.size w w' := by
  have hmf : ∀ (fn : Fn) (first cap : Array Value) (w : World), (Instr.makeFunc fn first cap).run Try.prog w = .ok (.func fn first cap) w := fun _ _ _ _ => rfl
  have H0 := Aside0.mk (w4_0_60 s w)
  have H1 := Aside0.mk (w4_1_60 s w)
  have H2 := Aside0.mk (w4_2_60 s w)
  have H3 := Aside0.mk (w4_3_60 s w)
  have HW := Aside0.mk (w4_below_60 s w)
  have HZ := Aside0.mk (w4_size_60 s w)
  have HN := Aside0.mk (numbered_no (g := w.heap.size + 1 + 1 + 1) (w := W4_60 s w) hn)
  clear hn
  go_enter_defers Try.func60, Try.ntmps60
  go_wp2_with fail
  refine (show Calls Try.prog 97 _ (W4_60 s w) (Numbered _ s (W4_60 s w)) from number_c _ s _ H3.out hz).mono ?_
  rw [HN.out]
  generalize W4_60 s w = W at H0 H1 H2 H3 HW HN HZ ⊢
  rintro e w1 ⟨rfl, ⟨hb, _⟩⟩
  have C0 := Aside0.mk ((hb.block _ (by omega)).trans H0.out)
  have C1 := Aside0.mk ((hb.block _ (by omega)).trans H1.out)
  have C2 := Aside0.mk ((hb.block _ (by omega)).trans H2.out)
  have CB := Aside0.mk (HW.out.trans (hb.mono (by omega)))
  clear hb
  show bodyPostD Try.prog Try.f60 _ (Exit.panic _) _ _
  unfold bodyPostD pan
  refine leaves_cons (f := 95) (args := #[.pointer (some ⟨w.heap.size + 1 + 1, 0, none⟩), .func (.func 96) #[] #[.pointer (some ⟨w.heap.size, 0, none⟩), .pointer (some ⟨w.heap.size + 1, 0, none⟩)]]) (by simp) (by kernel_rfl) ?_
  have D0 := blk_far (p := ⟨w.heap.size + 1 + 1, 0, none⟩) C0.out (by simp; omega) (.int .i64 c)
  have D1 := blk_far (p := ⟨w.heap.size + 1 + 1, 0, none⟩) C1.out (by simp) (.int .i64 c)
  have DB := (CB.out.setCell (p := ⟨w.heap.size + 1 + 1, 0, none⟩) (by simp; omega) (.int .i64 c))
  have HU := undo_c_60 ⟨w.heap.size, 0, none⟩ ⟨w.heap.size + 1, 0, none⟩ _ _ _ ((blk_cell D0 0).trans rfl) ((blk_cell D1 0).trans rfl) (blk_frozen D0 0) (blk_frozen D1 0) (by simp)
  have DU := (DB.setCell (p := ⟨w.heap.size, 0, none⟩) (by simp) (.int .u64 0)).setCell (p := ⟨w.heap.size + 1, 0, none⟩) (by simp) (.string { data := #[] })
  have E2 := blk_far (p := ⟨w.heap.size + 1, 0, none⟩) (blk_far (p := ⟨w.heap.size, 0, none⟩) (blk_put (cs' := #[.int .i64 c]) C2.out 0 (.int .i64 c) rfl) (by simp; omega) (.int .u64 0)) (by simp) (.string { data := #[] })
  have E0 := blk_far (p := ⟨w.heap.size + 1, 0, none⟩) (blk_put (cs' := #[.int .u64 0]) D0 0 (.int .u64 0) rfl) (by simp) (.string { data := #[] })
  have E1 := blk_put (cs' := #[.string { data := #[] }]) (blk_far (p := ⟨w.heap.size, 0, none⟩) D1 (by simp) (.int .u64 0)) 0 (.string { data := #[] }) rfl
  refine (caught_panic ⟨w.heap.size + 1 + 1, 0, none⟩ 0 c 96 Try.f96 _ [] w1 _ ((blk_cell C2.out 0).trans rfl) (blk_frozen C2.out 0) (fun _ _ => by kernel_rfl) HU).mono ?_
  rintro e u' w'' ⟨rfl, rfl, rfl⟩
  have F2 := (blk_cell E2 0).trans (show _ = some (.int .i64 c) from rfl)
  have F0 := (blk_cell E0 0).trans (show _ = some (.int .u64 0) from rfl)
  have F1 := (blk_cell E1 0).trans (show _ = some (.string { data := #[] }) from rfl)
  clear E0 E1 E2 HU D0 D1 DB
  generalize ((w1.setCell ⟨w.heap.size + 1 + 1, 0, none⟩ (.int .i64 c)).setCell ⟨w.heap.size, 0, none⟩ (.int .u64 0)).setCell ⟨w.heap.size + 1, 0, none⟩ (.string { data := #[] }) = w3 at DU F0 F1 F2 ⊢
  simp [Leaves, settle, results, Try.results60, go_sem, F0, F1, F2]
  exact DU

set_option maxHeartbeats 4000000 in
set_option maxRecDepth 100000 in
theorem get_yes_60 (s : ByteArray) (w : World) (n : Int) (t : ByteArray) (hn : num s = .inr (n, t)) (hz : s.size ≤ 140737488351232) :
    Calls Try.prog 60 #[.string s] w fun e w' => e = .returned (.tuple #[.int .u64 n, .string t, .int .i64 0]) ∧ Below w.heap.size w w' := by
  have hmf : ∀ (fn : Fn) (first cap : Array Value) (w : World), (Instr.makeFunc fn first cap).run Try.prog w = .ok (.func fn first cap) w := fun _ _ _ _ => rfl
  have H0 := Aside0.mk (w4_0_60 s w)
  have H1 := Aside0.mk (w4_1_60 s w)
  have H2 := Aside0.mk (w4_2_60 s w)
  have H3 := Aside0.mk (w4_3_60 s w)
  have HW := Aside0.mk (w4_below_60 s w)
  have HZ := Aside0.mk (w4_size_60 s w)
  have HN := Aside0.mk (numbered_yes (g := w.heap.size + 1 + 1 + 1) (w := W4_60 s w) hn)
  clear hn
  go_enter_defers Try.func60, Try.ntmps60
  go_wp2_with fail
  refine (show Calls Try.prog 97 _ (W4_60 s w) (Numbered _ s (W4_60 s w)) from number_c _ s _ H3.out hz).mono ?_
  rw [HN.out]
  generalize W4_60 s w = W at H0 H1 H2 H3 HW HN HZ ⊢
  rintro e w1 ⟨rfl, ⟨hb, _⟩, h3⟩
  clear HN
  have C0 := (hb.block _ (by omega)).trans H0.out
  have C1 := (hb.block _ (by omega)).trans H1.out
  have C2 := (hb.block _ (by omega)).trans H2.out
  have CB := HW.out.trans (hb.mono (by omega))
  have X3 := (blk_cell h3 0).trans (show _ = some (.string t) from rfl)
  have X0 := (blk_cell C0 0).trans (show _ = some (.int .u64 0) from rfl)
  have Z0 := blk_frozen C0 0
  have HZ0 := HZ
  clear hb HW H0 H1 H2 H3 HZ
  have CBB := Aside0.mk CB
  have D0 := Aside0.mk (blk_put (cs' := #[.int .u64 n]) C0 0 (.int .u64 n) rfl)
  have D1 := Aside0.mk (blk_far (p := ⟨w.heap.size, 0, none⟩) C1 (by simp) (.int .u64 n))
  have D2 := Aside0.mk (blk_far (p := ⟨w.heap.size, 0, none⟩) C2 (by simp; omega) (.int .u64 n))
  have D3 := Aside0.mk (blk_far (p := ⟨w.heap.size, 0, none⟩) h3 (by simp; omega) (.int .u64 n))
  have DB := Aside0.mk (CB.setCell (p := ⟨w.heap.size, 0, none⟩) (by simp) (.int .u64 n))
  clear C0 C1 C2 CB h3
  go_wp2
  generalize w1.setCell ⟨w.heap.size, 0, none⟩ (.int .u64 n) = v0 at D0 D1 D2 D3 DB ⊢
  refine wp_sure ?_
  refine start_ (n := 8) (S := fun w' => w'.heap[w.heap.size]? = some (.cells #[.int .u64 n] 50 (0, 0)) ∧ w'.heap[w.heap.size + 1]? = some (.cells #[.string { data := #[] }] 9 (0, 0)) ∧ w'.heap[w.heap.size + 1 + 1]? = some (.cells #[.int .i64 0] 41 (0, 0)) ∧ w'.heap[w.heap.size + 1 + 1 + 1]? = some (.cells #[.string t] 106 (0, 0)) ∧ Below w.heap.size w w') (ds := [6, 7]) #[false, false, false, false, false, false, false, false] (by kernel_rfl) rfl rfl ⟨blk_drew D0.out, blk_drew D1.out, blk_drew D2.out, blk_drew D3.out, below_drew DB.out⟩ (fun hHeld => ?_)
  generalize v0.drew = u0 at hHeld ⊢
  clear D0 D1 D2 D3 DB
  refine take_ (i := 0) (N := some 12) (v := ?_) (a' := ?_) #[true, false, false, false, false, false, false, false] rfl rfl (by kernel_rfl) (fun _ _ _ h => h) (Or.inl ⟨by rfl, ?_⟩) hHeld ?_ ?_
  rotate_left
  · rintro w' ⟨s0_, s1_, s2_, s3_, s4_⟩
    have hc := (blk_cell s0_ 0).trans (show _ = some (.int .u64 n) from rfl)
    go_simp
    with_reducible rfl
  rotate_left
  · simp only [Act.put, List.setIfInBounds_toArray, List.set_cons_zero, List.set_cons_succ, i64_w, i32_w]
    rfl
  refine pure_ (i := 1) (N := some 13) (v := ?_) (a' := ?_) #[true, true, false, false, false, false, false, false] rfl rfl (by kernel_rfl) (fun _ _ _ h => h) (Or.inl ⟨by rfl, ?_⟩) ?_ ?_
  rotate_left
  · intro w'
    go_simp
    with_reducible rfl
  rotate_left
  · simp only [Act.put, List.setIfInBounds_toArray, List.set_cons_zero, List.set_cons_succ, i64_w, i32_w]
    rfl
  refine pure_ (i := 2) (N := some 14) (v := ?_) (a' := ?_) #[true, true, true, false, false, false, false, false] rfl rfl (by kernel_rfl) (fun _ _ _ h => h) (Or.inl ⟨by rfl, ?_⟩) ?_ ?_
  rotate_left
  · intro w'
    go_simp
    with_reducible rfl
  rotate_left
  · simp only [Act.put, List.setIfInBounds_toArray, List.set_cons_zero, List.set_cons_succ, i64_w, i32_w]
    rfl
  refine pure_ (i := 3) (N := some 15) (v := ?_) (a' := ?_) #[true, true, true, true, false, false, false, false] rfl rfl (by kernel_rfl) (fun _ _ _ h => h) (Or.inl ⟨by rfl, ?_⟩) ?_ ?_
  rotate_left
  · intro w'
    go_simp
    with_reducible rfl
  rotate_left
  · simp only [Act.put, List.setIfInBounds_toArray, List.set_cons_zero, List.set_cons_succ, i64_w, i32_w]
    rfl
  refine take_ (i := 4) (N := some 16) (v := ?_) (a' := ?_) #[true, true, true, true, true, false, false, false] rfl rfl (by kernel_rfl) (fun _ _ _ h => h) (Or.inl ⟨by rfl, ?_⟩) hHeld ?_ ?_
  rotate_left
  · rintro w' ⟨s0_, s1_, s2_, s3_, s4_⟩
    have hc := (blk_cell s3_ 0).trans (show _ = some (.string t) from rfl)
    go_simp
    with_reducible rfl
  rotate_left
  · simp only [Act.put, List.setIfInBounds_toArray, List.set_cons_zero, List.set_cons_succ, i64_w, i32_w]
    rfl
  obtain ⟨s0_, s1_, s2_, s3_, s4_⟩ := hHeld
  refine one_ (i := 5) (N := none) #[true, true, true, true, true, true, false, false] rfl rfl (by kernel_rfl) (by decide) (fun K hK => ?_)
  have hc := (blk_cell s0_ 0).trans (show _ = some (.int .u64 n) from rfl)
  have hf := blk_frozen s0_ 0
  refine skip_ (w1 := ?_) (by rfl) rfl ?_ ?_
  rotate_left
  · go_simp
    rfl
  refine hK.out _ _ ⟨blk_put s0_ 0 (.int .u64 n) rfl, blk_far (p := ⟨w.heap.size, 0, none⟩) s1_ (by simp) (.int .u64 n), blk_far (p := ⟨w.heap.size, 0, none⟩) s2_ (by simp; omega) (.int .u64 n), blk_far (p := ⟨w.heap.size, 0, none⟩) s3_ (by simp; omega) (.int .u64 n), s4_.setCell (p := ⟨w.heap.size, 0, none⟩) (by simp) (.int .u64 n)⟩ (fun hHeld => ?_)
  clear hK K
  obtain ⟨s0_, s1_, s2_, s3_, s4_⟩ := hHeld
  refine last_ (i := 6) (N := none) #[true, true, true, true, true, true, true, false] rfl rfl (by kernel_rfl) (by decide) (fun K hK => ?_)
  have hc := (blk_cell s1_ 0).trans (show _ = some (.string { data := #[] }) from rfl)
  have hf := blk_frozen s1_ 0
  refine skip_ (w1 := ?_) (by rfl) rfl ?_ ?_
  rotate_left
  · go_simp
    rfl
  refine hK.out _ _ ?_
  clear hK K
  have e0 := blk_far (p := ⟨w.heap.size + 1, 0, none⟩) s0_ (by simp) (.string t)
  have e1 := blk_put (cs' := #[.string t]) s1_ 0 (.string t) rfl
  have e2 := blk_far (p := ⟨w.heap.size + 1, 0, none⟩) s2_ (by simp) (.string t)
  have e4 := s4_.setCell (p := ⟨w.heap.size + 1, 0, none⟩) (by simp) (.string t)
  have c2 := (blk_cell s2_ 0).trans (show _ = some (.int .i64 0) from rfl)
  have z2 := blk_frozen s2_ 0
  clear s0_ s1_ s2_ s3_ s4_
  refine last_ (i := 7) (N := none) #[true, true, true, true, true, true, true, true] rfl rfl (by kernel_rfl) (by decide) (fun K hK => ?_)
  have hc := (blk_cell e2 0).trans (show _ = some (.int .i64 0) from rfl)
  have hf := blk_frozen e2 0
  refine skip_ (w1 := ?_) (by rfl) rfl ?_ ?_
  rotate_left
  · go_simp
    rfl
  refine hK.out _ _ ?_
  clear hK K
  have f0 := (blk_cell (blk_far (p := ⟨w.heap.size + 1 + 1, 0, none⟩) e0 (by simp; omega) (.int .i64 0)) 0).trans (show _ = some (.int .u64 n) from rfl)
  have f1 := (blk_cell (blk_far (p := ⟨w.heap.size + 1 + 1, 0, none⟩) e1 (by simp) (.int .i64 0)) 0).trans (show _ = some (.string t) from rfl)
  have f2 := (blk_cell (blk_put (cs' := #[.int .i64 0]) e2 0 (.int .i64 0) rfl) 0).trans (show _ = some (.int .i64 0) from rfl)
  have f4 := e4.setCell (p := ⟨w.heap.size + 1 + 1, 0, none⟩) (by simp; omega) (.int .i64 0)
  clear e0 e1 e2 e4
  refine done_ (by kernel_rfl) ?_
  refine noPanic_normal ?_
  refine (‹∀ (a : Act) (w : World), Code.wp Try.prog Code.ret _ a w → _›) _ _ ?_
  clear hc hf c2 z2 X3 X0 Z0 CBB
  go_wp2
  generalize ((u0.setCell ⟨w.heap.size, 0, none⟩ (.int .u64 n)).setCell ⟨w.heap.size + 1, 0, none⟩ (.string t)).setCell ⟨w.heap.size + 1 + 1, 0, none⟩ (.int .i64 0) = w3 at f0 f1 f2 f4 ⊢
  unfold bodyPostD
  refine leaves_cons (f := 95) (args := #[.pointer (some ⟨w.heap.size + 1 + 1, 0, none⟩), .func (.func 96) #[] #[.pointer (some ⟨w.heap.size, 0, none⟩), .pointer (some ⟨w.heap.size + 1, 0, none⟩)]]) (by simp) (by kernel_rfl) ?_
  refine (caught_idle _ _ _).mono ?_
  rintro e u' w'' ⟨rfl, rfl, rfl⟩
  simp [Leaves, settle, results, Try.results60, go_sem, f0, f1, f2]
  exact f4
end octet_Get

def octet_Get.f (a0 : ByteArray) : Option (Int × ByteArray × Int) := if a0.size ≤ 140737488351232 then some (match Oct.num a0 with | .inl c => (0, { data := #[] }, c) | .inr (n, t) => (n, t, 0)) else none

theorem octet_Get.calls (a0 : ByteArray) (r1 : Int) (r2 : ByteArray) (r3 : Int) (w : World) (h : octet_Get.f a0 = some (r1, r2, r3)) :
    Calls Try.prog 60 #[.string a0] w fun e w' => e = .returned (.tuple #[.int .u64 r1, .string r2, .int .i64 r3]) ∧ Below w.heap.size w w' := by
  unfold octet_Get.f at h
  by_cases hz : a0.size ≤ 140737488351232
  · rw [if_pos hz] at h
    cases hn : Oct.num a0 with
    | inl c =>
      rw [hn] at h
      cases h
      exact octet_Get.get_no_60 a0 w _ hn hz
    | inr p =>
      obtain ⟨n, t⟩ := p
      rw [hn] at h
      cases h
      exact octet_Get.get_yes_60 a0 w _ _ hn hz
  · rw [if_neg hz] at h; cases h

/-! ### queue_Get: function 26 -/
def queue_Get.l0 : Nat → List (S26) → ByteArray → Int → Int → Option ((List (S26)) × ByteArray × Int)
  | 0, _, _, _, _ => none
  | k + 1, x2, x3, x26, x27 => if x27 < x26 then (if 0 < (x3.size : Int) then (if 1 < (x3.size : Int) then (if x2.length < 8796093022208 then (if 2 ≤ (x3.size : Int) then (queue_Get.l0 k (x2 ++ [(⟨wrap64 (bt x3 0), wrap64 (bt x3 1)⟩ : S26)]) (x3.extract 2 x3.size) x26 (IntKind.u64.wrap (x27 + 1))) else (none)) else (none)) else (none)) else (none)) else ((queue_May.f 24 x2).bind fun t172 => (if t172 = true then (some (x2, x3, 0)) else (some (([] : List (S26)), (⟨#[]⟩ : ByteArray), 62))))
def queue_Get.f (k : Nat) (a0 : ByteArray) : Option ((List (S26)) × ByteArray × Int) := (octet_Get.f a0).bind fun bt166 => (if bt166.2.2 = 0 then (if bt166.1 > 300 then (some (([] : List (S26)), (⟨#[]⟩ : ByteArray), 62)) else (if (IntKind.u64.wrap (bt166.2.1.size : Int)) < (IntKind.u64.wrap (2 * bt166.1)) then (some (([] : List (S26)), (⟨#[]⟩ : ByteArray), 60)) else (queue_Get.l0 k ([] : List (S26)) bt166.2.1 bt166.1 0))) else (some (([] : List (S26)), (⟨#[]⟩ : ByteArray), bt166.2.2)))
theorem queue_Get.mono_l : ∀ k, (∀ y0 y1 y2 y3, LeO (queue_Get.l0 k y0 y1 y2 y3) (queue_Get.l0 (k + 1) y0 y1 y2 y3))
  | 0 => fun _ _ _ _ r h => by simp [queue_Get.l0] at h
  | k + 1 => by
    have ih0 := queue_Get.mono_l k
    · intro y0 y1 y2 y3
      unfold queue_Get.l0
      repeat' first
      | (with_reducible exact ih0 _ _ _ _)
      | (with_reducible exact LeO.refl _)
      | (with_reducible exact LeO.none _)
      | (with_reducible refine LeO.ite ?_ ?_)
      | (with_reducible refine LeO.bind ?_ (fun _ => ?_))
      | exact ih0 _ _ _ _
      | exact LeO.none _
      | refine LeO.ite ?_ ?_
      | refine LeO.bind ?_ (fun _ => ?_)
theorem queue_Get.mono : ∀ a0 k, LeO (queue_Get.f k a0) (queue_Get.f (k + 1) a0) := by
  intro a0 k
  have ih0 := queue_Get.mono_l k
  unfold queue_Get.f
  repeat' first
      | (with_reducible exact ih0 _ _ _ _)
      | (with_reducible exact LeO.refl _)
      | (with_reducible exact LeO.none _)
      | (with_reducible refine LeO.ite ?_ ?_)
      | (with_reducible refine LeO.bind ?_ (fun _ => ?_))
      | exact ih0 _ _ _ _
      | exact LeO.none _
      | refine LeO.ite ?_ ?_
      | refine LeO.bind ?_ (fun _ => ?_)
def queue_Get.T10 : Bool × List (List Nat × List Nat) := (true, [([], []), ([], []), ([1], [1]), ([2], [2]), ([], []), ([4], [4]), ([5], [5]), ([3, 6], [3, 6]), ([7], [7]), ([0, 8], [0, 8]), ([], []), ([10], [10]), ([9, 9, 0, 1, 2, 3, 4, 5, 6, 7, 8, 9], [0, 9]), ([11, 12, 0, 1, 2, 3, 4, 5, 6, 7, 8, 9, 10, 11, 12], [1, 4, 10, 11])])
def queue_Get.B10 : List Nat := [0, 0, 2, 6, 0, 16, 48, 126, 254, 511, 0, 1024, 1023, 8191]
theorem queue_Get.tab10 : rtab .any (opsOf Try.f26 10) = queue_Get.T10 := by kernel_rfl
theorem queue_Get.bits10 : waitsOk queue_Get.T10.2 queue_Get.B10 = true := by kernel_rfl
set_option maxHeartbeats 8000000 in
set_option maxRecDepth 100000 in
theorem queue_Get.calls (k : Nat) (a0 : ByteArray) (r1 : List (S26)) (r2 : ByteArray) (r3 : Int) (w : World) (h : queue_Get.f k a0 = some (r1, r2, r3)) :
    Calls Try.prog 26 #[.string a0] w fun e w' => ∃ v0_ : Value, e = .returned (.tuple #[v0_, .string r2, .int .i64 r3]) ∧ Kd.R k26 26 w' w.heap.size (fun _ => True) v0_ r1 ∧ Below w.heap.size w w' := by
  have hu26 := Try.underlying26
  have HB := Aside0.mk (Below.refl w.heap.size w)
  have H : ((octet_Get.f a0).bind fun bt166 => (if bt166.2.2 = 0 then (if bt166.1 > 300 then (some (([] : List (S26)), (⟨#[]⟩ : ByteArray), 62)) else (if (IntKind.u64.wrap (bt166.2.1.size : Int)) < (IntKind.u64.wrap (2 * bt166.1)) then (some (([] : List (S26)), (⟨#[]⟩ : ByteArray), 60)) else (queue_Get.l0 k ([] : List (S26)) bt166.2.1 bt166.1 0))) else (some (([] : List (S26)), (⟨#[]⟩ : ByteArray), bt166.2.2)))) = some (r1, r2, r3) := h
  clear h
  replace H := Option.bind_eq_some_iff.mp H
  obtain ⟨⟨t166, t167, t168⟩, A20, H⟩ := H
  replace H : (if t168 = 0 then (if t166 > 300 then (some (([] : List (S26)), (⟨#[]⟩ : ByteArray), 62)) else (if (IntKind.u64.wrap (t167.size : Int)) < (IntKind.u64.wrap (2 * t166)) then (some (([] : List (S26)), (⟨#[]⟩ : ByteArray), 60)) else (queue_Get.l0 k ([] : List (S26)) t167 t166 0))) else (some (([] : List (S26)), (⟨#[]⟩ : ByteArray), t168))) = some (r1, r2, r3) := H
  have A2 := Aside0.mk A20
  clear A20
  by_cases c3 : t168 = 0
  · rw [if_pos c3] at H
    have c3b0 : (t168 == 0) = true := beq_iff_eq.mpr c3
    have c3b1 : (t168 != 0) = false := bne_eq_false_iff_eq.mpr c3
    clear c3
    by_cases c4 : t166 > 300
    · rw [if_pos c4] at H
      have c4b0 : decide (300 < t166) = true := decide_eq_true c4
      clear c4
      simp only [Option.some.injEq, Prod.mk.injEq] at H
      obtain ⟨rfl, rfl, rfl⟩ := H
      go_enter Try.func26, Try.ntmps26
      go_wp2_with (first | ((with_reducible refine gate_callee (f := 60) rfl ?_); refine goesL_ (some 8) rfl rfl Try.func60 (by kernel_rfl) rfl #[.string a0] rfl (by (try simp only [List.map_toArray, List.map_cons, List.map_nil]); first | done | rfl | (simp only [List.length_drop, List.length_take]; rfl)) ?_; (with_reducible refine (octet_Get.calls a0 t166 t167 t168 _ A2.out).mono ?_); rintro e w5 ⟨rfl, hb⟩; refine ⟨_, rfl, ?_⟩; have n0_ := Aside0.mk (below_step (by repeat (first | (with_reducible first | exact HB.out | apply below_alloc | apply pw_below_drewN | apply below_drew1) | exact HB.out)) hb); clear HB; have HB := n0_; clear n0_; (try clear hb); (try clear hb2); (try clear hk); (try clear hi)))
      go_ret3
      exact ⟨_, by first | rfl | (simp [errW_none, errW_some] <;> rfl) | (simp [*, errW_none, errW_some] <;> rfl), by first | exact Kd.R_nil _ _ _ _ _ | exact Kd.N_nil _ _ _ _ _ | exact Kd.V_nil _ _ _ _ _ | exact Kd.Q_nil _ _ _ _ _ | exact Kd.S_nil _ _ _ _ _, by repeat (first | (with_reducible first | exact HB.out | apply below_alloc | apply pw_below_drewN | apply below_drew1) | exact HB.out)⟩
    · rw [if_neg c4] at H
      have c4b0 : decide (300 < t166) = false := decide_eq_false c4
      clear c4
      by_cases c6 : (IntKind.u64.wrap (t167.size : Int)) < (IntKind.u64.wrap (2 * t166))
      · rw [if_pos c6] at H
        have c6b0 : decide ((IntKind.u64.wrap (t167.size : Int)) < (IntKind.u64.wrap (2 * t166))) = true := decide_eq_true c6
        clear c6
        simp only [Option.some.injEq, Prod.mk.injEq] at H
        obtain ⟨rfl, rfl, rfl⟩ := H
        go_enter Try.func26, Try.ntmps26
        go_wp2_with (first | ((with_reducible refine gate_callee (f := 60) rfl ?_); refine goesL_ (some 8) rfl rfl Try.func60 (by kernel_rfl) rfl #[.string a0] rfl (by (try simp only [List.map_toArray, List.map_cons, List.map_nil]); first | done | rfl | (simp only [List.length_drop, List.length_take]; rfl)) ?_; (with_reducible refine (octet_Get.calls a0 t166 t167 t168 _ A2.out).mono ?_); rintro e w7 ⟨rfl, hb⟩; refine ⟨_, rfl, ?_⟩; have n0_ := Aside0.mk (below_step (by repeat (first | (with_reducible first | exact HB.out | apply below_alloc | apply pw_below_drewN | apply below_drew1) | exact HB.out)) hb); clear HB; have HB := n0_; clear n0_; (try clear hb); (try clear hb2); (try clear hk); (try clear hi)))
        go_ret3
        exact ⟨_, by first | rfl | (simp [errW_none, errW_some] <;> rfl) | (simp [*, errW_none, errW_some] <;> rfl), by first | exact Kd.R_nil _ _ _ _ _ | exact Kd.N_nil _ _ _ _ _ | exact Kd.V_nil _ _ _ _ _ | exact Kd.Q_nil _ _ _ _ _ | exact Kd.S_nil _ _ _ _ _, by repeat (first | (with_reducible first | exact HB.out | apply below_alloc | apply pw_below_drewN | apply below_drew1) | exact HB.out)⟩
      · rw [if_neg c6] at H
        have c6b0 : decide ((IntKind.u64.wrap (t167.size : Int)) < (IntKind.u64.wrap (2 * t166))) = false := decide_eq_false c6
        clear c6
        have H' := Aside0.mk H
        clear H
        go_enter Try.func26, Try.ntmps26
        go_wp2_with (first | ((with_reducible refine gate_callee (f := 60) rfl ?_); refine goesL_ (some 8) rfl rfl Try.func60 (by kernel_rfl) rfl #[.string a0] rfl (by (try simp only [List.map_toArray, List.map_cons, List.map_nil]); first | done | rfl | (simp only [List.length_drop, List.length_take]; rfl)) ?_; (with_reducible refine (octet_Get.calls a0 t166 t167 t168 _ A2.out).mono ?_); rintro e w8 ⟨rfl, hb⟩; refine ⟨_, rfl, ?_⟩; have n0_ := Aside0.mk (below_step (by repeat (first | (with_reducible first | exact HB.out | apply below_alloc | apply pw_below_drewN | apply below_drew1) | exact HB.out)) hb); clear HB; have HB := n0_; clear n0_; (try clear hb); (try clear hb2); (try clear hk); (try clear hi)))
        go_loopg [2, 3, 27] k (fun kq v2 v3 v27 w' => ∃ (x2_1 : List (S26)) (x3_1 : ByteArray) (x27_1 : Int), v3 = .string x3_1 ∧ v27 = .int .u64 x27_1 ∧ Aside0 (queue_Get.l0 kq x2_1 x3_1 t166 x27_1 = some (r1, r2, r3)) ∧ Aside0 (kq ≤ k) ∧ Aside0 (Kd.R k26 26 w' w.heap.size (fun _ => True) v2 x2_1) ∧ Aside0 (Below w.heap.size w w'))
        case atStart => exact ⟨(([] : List (S26))), (t167), (0), (by first | rfl | (simp; done) | (simp [*]; done)), (by first | rfl | (simp; done) | (simp [*]; done)), H', ⟨Nat.le_refl _⟩, ⟨by first | exact Kd.R_nil _ _ _ _ _ | exact Kd.N_nil _ _ _ _ _ | exact Kd.V_nil _ _ _ _ _ | exact Kd.Q_nil _ _ _ _ _ | exact Kd.S_nil _ _ _ _ _⟩, ⟨by repeat (first | (with_reducible first | exact HB.out | apply below_alloc | apply pw_below_drewN | apply below_drew1) | exact HB.out)⟩⟩
        case round =>
          clear H'
          try clear c2
          try clear p2
          try clear c3
          try clear c3b0
          try clear c3b1
          try clear c4
          try clear c4b0
          try clear c6
          try clear c6b0
          obtain ⟨x2_1, x3_1, x27_1, rfl, rfl, HA, HK1, HO_2, HB⟩ := hrel
          cases gk with
          | zero => exact absurd HA.out (by simp [queue_Get.l0])
          | succ k1 =>
            have H := HA.out
            clear HA
            simp only [queue_Get.l0] at H
            by_cases c9 : x27_1 < t166
            · rw [if_pos c9] at H
              have c9b0 : decide (x27_1 < t166) = true := decide_eq_true c9
              clear c9
              by_cases c10 : 0 < (x3_1.size : Int)
              · rw [if_pos c10] at H
                have c10b0 : decide (0 < (x3_1.size : Int)) = true := decide_eq_true c10
                have c10b1 : decide (0 < x3_1.size) = true := decide_eq_true (by omega)
                clear c10
                by_cases c12 : 1 < (x3_1.size : Int)
                · rw [if_pos c12] at H
                  have c12b0 : decide (1 < (x3_1.size : Int)) = true := decide_eq_true c12
                  have c12b1 : decide (1 < x3_1.size) = true := decide_eq_true (by omega)
                  clear c12
                  by_cases c14 : x2_1.length < 8796093022208
                  · rw [if_pos c14] at H
                    have LMc14 := Aside0.mk c14
                    clear c14
                    obtain ⟨y169, hy169⟩ : ∃ y_ : List (S26), y_ = (x2_1 ++ [(⟨wrap64 (bt x3_1 0), wrap64 (bt x3_1 1)⟩ : S26)]) := ⟨_, rfl⟩
                    replace H : (if 2 ≤ (x3_1.size : Int) then (queue_Get.l0 k1 y169 (x3_1.extract 2 x3_1.size) t166 (IntKind.u64.wrap (x27_1 + 1))) else (none)) = some (r1, r2, r3) := by first | (rw [hy169]; with_reducible exact H) | (have H2_ := (Option.bind_some _ _).symm.trans H; rw [hy169]; with_reducible exact H2_) | (have H2_ := (Option.bind_some _ _).symm.trans H; with_reducible exact H2_) | with_reducible exact H | (rw [hy169]; exact H) | exact H
                    have Ny169 := Aside0.mk hy169
                    clear hy169
                    by_cases c15 : 2 ≤ (x3_1.size : Int)
                    · rw [if_pos c15] at H
                      have c15b0 := eq_true c15
                      have c15b1 : decide (2 ≤ (x3_1.size : Int)) = true := decide_eq_true c15
                      clear c15
                      have H' := Aside0.mk H
                      clear H
                      try go_wp2
                      have n0_ := Aside0.mk (Kd.R_drew HO_2.out)
                      have n1_ := Aside0.mk (below_drew1 HB.out)
                      clear HO_2
                      clear HB
                      have HO_2 := n0_
                      have HB := n1_
                      clear n0_ n1_
                      have p11 : 0 ≤ (0 : Int) := (by omega)
                      have q11 : 0 < x3_1.size := (by have : (0 : Int) < (x3_1.size : Int) := of_decide_eq_true (by first | (with_reducible assumption) | assumption); omega)
                      have hx11 : ∀ h : 0 < x3_1.size, ((x3_1[0]'h).toNat : Int) = bt x3_1 0 := bt_at x3_1 0
                      clear p11
                      have qi11 : (0 < (x3_1.size : Int)) = True := eq_true (of_decide_eq_true (by first | (with_reducible assumption) | assumption))
                      replace q11 := eq_true q11
                      have p13 : 0 ≤ (1 : Int) := (by omega)
                      have q13 : 1 < x3_1.size := (by have : (1 : Int) < (x3_1.size : Int) := of_decide_eq_true (by first | (with_reducible assumption) | assumption); omega)
                      have hx13 : ∀ h : 1 < x3_1.size, ((x3_1[1]'h).toNat : Int) = bt x3_1 1 := bt_at x3_1 1
                      clear p13
                      have qi13 : (1 < (x3_1.size : Int)) = True := eq_true (of_decide_eq_true (by first | (with_reducible assumption) | assumption))
                      replace q13 := eq_true q13
                      refine start_ (n := 14) (S := fun w' => True) (ds := []) #[false, false, false, false, false, false, false, false, false, false, false, false, false, false] (by kernel_rfl) rfl rfl trivial (fun hHeld => ?_); refine with_tabW queue_Get.tab10 queue_Get.bits10 (fun HT_ HW_ => ?_)
                      generalize wr.drew = w16 at HO_2 HB hHeld ⊢
                      refine pure_ (i := 0) (N := some 29) (v := ?_) (a' := ?_) #[true, false, false, false, false, false, false, false, false, false, false, false, false, false] rfl rfl (any_of HT_.out (by kernel_rfl)) (fun _ _ _ h => h) (Or.inl ⟨by rfl, ?_⟩) ?_ ?_
                      rotate_left
                      · intro w'
                        go_simp
                        with_reducible rfl
                      rotate_left
                      · simp only [Act.put, List.setIfInBounds_toArray, List.set_cons_zero, List.set_cons_succ, i64_w, i32_w]
                        rfl
                      refine pure_ (i := 1) (N := some 30) (v := ?_) (a' := ?_) #[true, true, false, false, false, false, false, false, false, false, false, false, false, false] rfl rfl (any_of HT_.out (by kernel_rfl)) (fun _ _ _ h => h) (Or.inl ⟨by rfl, ?_⟩) ?_ ?_
                      rotate_left
                      · intro w'
                        go_simp
                        with_reducible rfl
                      rotate_left
                      · simp only [Act.put, List.setIfInBounds_toArray, List.set_cons_zero, List.set_cons_succ, i64_w, i32_w]
                        rfl
                      refine pure_ (i := 4) (N := some 33) (v := ?_) (a' := ?_) #[true, true, false, false, true, false, false, false, false, false, false, false, false, false] rfl rfl (any_of HT_.out (by kernel_rfl)) (fun _ _ _ h => h) (Or.inl ⟨by rfl, ?_⟩) ?_ ?_
                      rotate_left
                      · intro w'
                        go_simp
                        with_reducible rfl
                      rotate_left
                      · simp only [Act.put, List.setIfInBounds_toArray, List.set_cons_zero, List.set_cons_succ, i64_w, i32_w]
                        rfl
                      refine pure_ (i := 10) (N := some 39) (v := ?_) (a' := ?_) #[true, true, false, false, true, false, false, false, false, false, true, false, false, false] rfl rfl (any_of HT_.out (by kernel_rfl)) (fun _ _ _ h => h) (Or.inl ⟨by rfl, ?_⟩) ?_ ?_
                      rotate_left
                      · intro w'
                        go_simp
                        with_reducible rfl
                      rotate_left
                      · simp only [Act.put, List.setIfInBounds_toArray, List.set_cons_zero, List.set_cons_succ, i64_w, i32_w]
                        rfl
                      refine pure_ (i := 11) (N := some 40) (v := ?_) (a' := ?_) #[true, true, false, false, true, false, false, false, false, false, true, true, false, false] rfl rfl (any_of HT_.out (by kernel_rfl)) (fun _ _ _ h => h) (Or.inl ⟨by rfl, ?_⟩) ?_ ?_
                      rotate_left
                      · intro w'
                        go_simp
                        with_reducible rfl
                      rotate_left
                      · simp only [Act.put, List.setIfInBounds_toArray, List.set_cons_zero, List.set_cons_succ, i64_w, i32_w]
                        rfl
                      refine take_ (i := 2) (N := some 31) (v := ?_) (a' := ?_) #[true, true, true, false, true, false, false, false, false, false, true, true, false, false] rfl rfl (take_ofW HT_.out HW_.out (by kernel_rfl)) (fun _ _ _ h => h) (Or.inl ⟨by rfl, ?_⟩) hHeld ?_ ?_
                      rotate_left
                      · intro w' _
                        go_simp
                        with_reducible rfl
                      rotate_left
                      · simp only [Act.put, List.setIfInBounds_toArray, List.set_cons_zero, List.set_cons_succ, i64_w, i32_w]
                        rfl
                      refine pure_ (i := 3) (N := some 32) (v := ?_) (a' := ?_) #[true, true, true, true, true, false, false, false, false, false, true, true, false, false] rfl rfl (any_of HT_.out (by kernel_rfl)) (fun _ _ _ h => h) (Or.inl ⟨by rfl, ?_⟩) ?_ ?_
                      rotate_left
                      · intro w'
                        go_simp
                        with_reducible rfl
                      rotate_left
                      · simp only [Act.put, List.setIfInBounds_toArray, List.set_cons_zero, List.set_cons_succ, i64_w, i32_w]
                        rfl
                      refine take_ (i := 5) (N := some 34) (v := ?_) (a' := ?_) #[true, true, true, true, true, true, false, false, false, false, true, true, false, false] rfl rfl (take_ofW HT_.out HW_.out (by kernel_rfl)) (fun _ _ _ h => h) (Or.inl ⟨by rfl, ?_⟩) hHeld ?_ ?_
                      rotate_left
                      · intro w' _
                        go_simp
                        with_reducible rfl
                      rotate_left
                      · simp only [Act.put, List.setIfInBounds_toArray, List.set_cons_zero, List.set_cons_succ, i64_w, i32_w]
                        rfl
                      refine pure_ (i := 6) (N := some 35) (v := ?_) (a' := ?_) #[true, true, true, true, true, true, true, false, false, false, true, true, false, false] rfl rfl (any_of HT_.out (by kernel_rfl)) (fun _ _ _ h => h) (Or.inl ⟨by rfl, ?_⟩) ?_ ?_
                      rotate_left
                      · intro w'
                        go_simp
                        with_reducible rfl
                      rotate_left
                      · simp only [Act.put, List.setIfInBounds_toArray, List.set_cons_zero, List.set_cons_succ, i64_w, i32_w]
                        rfl
                      refine pure_ (i := 7) (N := some 36) (v := ?_) (a' := ?_) #[true, true, true, true, true, true, true, true, false, false, true, true, false, false] rfl rfl (any_of HT_.out (by kernel_rfl)) (fun _ _ _ h => h) (Or.inl ⟨by rfl, ?_⟩) ?_ ?_
                      rotate_left
                      · intro w'
                        go_simp
                        with_reducible rfl
                      rotate_left
                      · simp only [Act.put, List.setIfInBounds_toArray, List.set_cons_zero, List.set_cons_succ, i64_w, i32_w]
                        rfl
                      refine one_ (i := 8) (N := some 37) #[true, true, true, true, true, true, true, true, true, false, true, true, false, false] rfl rfl (one_of HT_.out (by kernel_rfl)) (by decide) (fun K hK => ?_)
                      refine value_ (w1 := ?_) (v := ?_) (by rfl) rfl ?_ ?_
                      rotate_left 2
                      · go_simp
                        constructor
                        · rfl
                        · rfl
                      refine hK.out _ _ trivial (fun hHeld => ?_)
                      clear hK K
                      refine norm_ (a' := ?_) ?_ ?_
                      rotate_left
                      · show Act.put _ (some 37) _ = _
                        simp only [Act.put, List.setIfInBounds_toArray, List.set_cons_zero, List.set_cons_succ, i64_w, i32_w]
                        rfl
                      refine one_ (i := 9) (N := some 38) #[true, true, true, true, true, true, true, true, true, true, true, true, false, false] rfl rfl (one_of HT_.out (by kernel_rfl)) (by decide) (fun K hK => ?_)
                      refine Kd.R_append_step k26 (w0 := w) w.heap.size (by rfl) (.tmp 29) (.tmp 37) 23 26 (.agg #[(.int .i64 0), (.int .i64 0)]) 16 rfl Try.underlying23 info26 rfl (by decide) (by omega) u2 x2_1 (⟨wrap64 (bt x3_1 0), wrap64 (bt x3_1 1)⟩ : S26) [.int .i64 (wrap64 (bt x3_1 0)), .int .i64 (wrap64 (bt x3_1 1))] (fun _ => True) (fun _ => False) rfl rfl ?aP (fun _ hk => hk.elim) ?aF ?aO ?aB ?aS ?aL ?_
                      (case aP => exact k26_mkM _ _ _ (⟨wrap64 (bt x3_1 0), wrap64 (bt x3_1 1)⟩ : S26))
                      (case aB => exact (by repeat (first | (with_reducible first | exact HB.out | apply below_alloc | apply pw_below_drewN | apply below_drew1) | exact HB.out)))
                      (case aF => exact (fun _ _ => trivial))
                      (case aO => exact (by (with_reducible repeat (first | apply Kd.R_alloc | apply Kd.R_drewN | apply Kd.R_drew)); exact HO_2.out))
                      (case aS => exact (below_size (by repeat (first | (with_reducible first | exact HB.out | apply below_alloc | apply pw_below_drewN | apply below_drew1) | exact HB.out))))
                      (case aL => have := LMc14.out; omega)
                      intro v170 w17 ho hb hg hat
                      rw [← Ny169.out] at ho
                      have n0_ := Aside0.mk (hb)
                      have n1_ := Aside0.mk (ho)
                      clear HB
                      clear HO_2
                      have HB := n0_
                      have HO171 := n1_
                      clear n0_ n1_
                      clear ho hb hg hat
                      refine hK.out _ _ trivial (fun hHeld => ?_)
                      clear hK K
                      refine norm_ (a' := ?_) ?_ ?_
                      rotate_left
                      · show Act.put _ (some 38) _ = _
                        simp only [Act.put, List.setIfInBounds_toArray, List.set_cons_zero, List.set_cons_succ, i64_w, i32_w]
                        rfl
                      refine pure_ (i := 12) (N := some 2) (v := ?_) (a' := ?_) #[true, true, true, true, true, true, true, true, true, true, true, true, true, false] rfl rfl (any_of HT_.out (by kernel_rfl)) (fun _ _ _ h => h) (Or.inl ⟨by rfl, ?_⟩) ?_ ?_
                      rotate_left
                      · intro w'
                        go_simp
                        with_reducible rfl
                      rotate_left
                      · simp only [Act.put, List.setIfInBounds_toArray, List.set_cons_zero, List.set_cons_succ, i64_w, i32_w]
                        rfl
                      refine pure_ (i := 13) (N := some 3) (v := ?_) (a' := ?_) #[true, true, true, true, true, true, true, true, true, true, true, true, true, true] rfl rfl (any_of HT_.out (by kernel_rfl)) (fun _ _ _ h => h) (Or.inl ⟨by rfl, ?_⟩) ?_ ?_
                      rotate_left
                      · intro w'
                        go_simp
                        with_reducible rfl
                      rotate_left
                      · simp only [Act.put, List.setIfInBounds_toArray, List.set_cons_zero, List.set_cons_succ, i64_w, i32_w]
                        rfl
                      refine done_ (done_of HT_.out (by kernel_rfl)) ?_
                      try go_wp2
                      go_roundg k1
                      case measure => have := HK1.out; omega
                      case rel => exact ⟨(y169), (x3_1.extract 2 x3_1.size), (IntKind.u64.wrap (x27_1 + 1)), (by first | rfl | (simp; done) | (simp [*]; done)), (by first | rfl | (simp; done) | (simp [*]; done)), H', ⟨by have := HK1.out; omega⟩, ⟨by (with_reducible repeat (first | apply Kd.R_alloc | apply Kd.R_drewN | apply Kd.R_drew)); exact HO171.out⟩, ⟨by repeat (first | (with_reducible first | exact HB.out | apply below_alloc | apply pw_below_drewN | apply below_drew1) | exact HB.out)⟩⟩
                    · rw [if_neg c15] at H
                      exact absurd H (by simp)
                  · rw [if_neg c14] at H
                    exact absurd H (by simp)
                · rw [if_neg c12] at H
                  exact absurd H (by simp)
              · rw [if_neg c10] at H
                exact absurd H (by simp)
            · rw [if_neg c9] at H
              have c9b0 : decide (x27_1 < t166) = false := decide_eq_false c9
              clear c9
              replace H := Option.bind_eq_some_iff.mp H
              obtain ⟨t172, A180, H⟩ := H
              replace H : (if t172 = true then (some (x2_1, x3_1, 0)) else (some (([] : List (S26)), (⟨#[]⟩ : ByteArray), 62))) = some (r1, r2, r3) := H
              have A18 := Aside0.mk A180
              clear A180
              by_cases c19 : t172 = true
              · subst c19
                have H1 : (some (x2_1, x3_1, 0)) = some (r1, r2, r3) := by rw [if_pos rfl] at H; exact H
                clear H
                have H := H1
                clear H1
                simp only [Option.some.injEq, Prod.mk.injEq] at H
                obtain ⟨rfl, rfl, rfl⟩ := H
                obtain ⟨Ao20, co20, eo20⟩ := Kd.R_slice HO_2.out
                subst eo20
                go_wp2_with (first | ((with_reducible refine gate_callee (f := 17) rfl ?_); refine goesL_ (some 43) rfl rfl Try.func17 (by kernel_rfl) rfl #[.int .i64 24, .slice Ao20 x2_1.length co20] rfl (by (try simp only [List.map_toArray, List.map_cons, List.map_nil]); first | done | rfl | (simp only [List.length_drop, List.length_take]; rfl)) ?_; (with_reducible refine (queue_May.calls 24 _ _ x2_1 true _ ?side1 ?side2 A18.out).mono ?_); (case side1 => repeat (first | exact (Kd.R_reads' HO_2.out).2.2 | (with_reducible refine Kd.C_alloc ?_ _) | (with_reducible refine Kd.C_drewN ?_ _) | (with_reducible refine Kd.C_drew ?_))); (case side2 => exact (Kd.R_reads' HO_2.out).2.1); rintro e w21 ⟨rfl, hb⟩; refine ⟨_, rfl, ?_⟩; have n0_ := Aside0.mk (Kd.R_below (by (with_reducible repeat (first | apply Kd.R_alloc | apply Kd.R_drewN | apply Kd.R_drew)); exact HO_2.out) hb); have n1_ := Aside0.mk (below_step (by repeat (first | (with_reducible first | exact HB.out | apply below_alloc | apply pw_below_drewN | apply below_drew1) | exact HB.out)) hb); clear HO_2; clear HB; have HO_2 := n0_; have HB := n1_; clear n0_ n1_; (try clear hb); (try clear hb2); (try clear hk); (try clear hi)))
                go_ret3
                exact ⟨_, by first | rfl | (simp [errW_none, errW_some] <;> rfl) | (simp [*, errW_none, errW_some] <;> rfl), by (with_reducible repeat (first | apply Kd.R_alloc | apply Kd.R_drewN | apply Kd.R_drew)); exact HO_2.out, by repeat (first | (with_reducible first | exact HB.out | apply below_alloc | apply pw_below_drewN | apply below_drew1) | exact HB.out)⟩
              · replace c19 := Bool.eq_false_iff.mpr c19
                subst c19
                have H1 : (some (([] : List (S26)), (⟨#[]⟩ : ByteArray), 62)) = some (r1, r2, r3) := by rw [if_neg (show ¬ (false = true) by decide)] at H; exact H
                clear H
                have H := H1
                clear H1
                simp only [Option.some.injEq, Prod.mk.injEq] at H
                obtain ⟨rfl, rfl, rfl⟩ := H
                obtain ⟨Ao22, co22, eo22⟩ := Kd.R_slice HO_2.out
                subst eo22
                go_wp2_with (first | ((with_reducible refine gate_callee (f := 17) rfl ?_); refine goesL_ (some 43) rfl rfl Try.func17 (by kernel_rfl) rfl #[.int .i64 24, .slice Ao22 x2_1.length co22] rfl (by (try simp only [List.map_toArray, List.map_cons, List.map_nil]); first | done | rfl | (simp only [List.length_drop, List.length_take]; rfl)) ?_; (with_reducible refine (queue_May.calls 24 _ _ x2_1 false _ ?side1 ?side2 A18.out).mono ?_); (case side1 => repeat (first | exact (Kd.R_reads' HO_2.out).2.2 | (with_reducible refine Kd.C_alloc ?_ _) | (with_reducible refine Kd.C_drewN ?_ _) | (with_reducible refine Kd.C_drew ?_))); (case side2 => exact (Kd.R_reads' HO_2.out).2.1); rintro e w23 ⟨rfl, hb⟩; refine ⟨_, rfl, ?_⟩; have n0_ := Aside0.mk (Kd.R_below (by (with_reducible repeat (first | apply Kd.R_alloc | apply Kd.R_drewN | apply Kd.R_drew)); exact HO_2.out) hb); have n1_ := Aside0.mk (below_step (by repeat (first | (with_reducible first | exact HB.out | apply below_alloc | apply pw_below_drewN | apply below_drew1) | exact HB.out)) hb); clear HO_2; clear HB; have HO_2 := n0_; have HB := n1_; clear n0_ n1_; (try clear hb); (try clear hb2); (try clear hk); (try clear hi)))
                go_ret3
                exact ⟨_, by first | rfl | (simp [errW_none, errW_some] <;> rfl) | (simp [*, errW_none, errW_some] <;> rfl), by first | exact Kd.R_nil _ _ _ _ _ | exact Kd.N_nil _ _ _ _ _ | exact Kd.V_nil _ _ _ _ _ | exact Kd.Q_nil _ _ _ _ _ | exact Kd.S_nil _ _ _ _ _, by repeat (first | (with_reducible first | exact HB.out | apply below_alloc | apply pw_below_drewN | apply below_drew1) | exact HB.out)⟩
  · rw [if_neg c3] at H
    have c3b0 : (t168 == 0) = false := beq_eq_false_iff_ne.mpr c3
    have c3b1 : (t168 != 0) = true := bne_iff_ne.mpr c3
    simp only [Option.some.injEq, Prod.mk.injEq] at H
    obtain ⟨rfl, rfl, rfl⟩ := H
    go_enter Try.func26, Try.ntmps26
    go_wp2_with (first | ((with_reducible refine gate_callee (f := 60) rfl ?_); refine goesL_ (some 8) rfl rfl Try.func60 (by kernel_rfl) rfl #[.string a0] rfl (by (try simp only [List.map_toArray, List.map_cons, List.map_nil]); first | done | rfl | (simp only [List.length_drop, List.length_take]; rfl)) ?_; (with_reducible refine (octet_Get.calls a0 t166 t167 t168 _ A2.out).mono ?_); rintro e w24 ⟨rfl, hb⟩; refine ⟨_, rfl, ?_⟩; have n0_ := Aside0.mk (below_step (by repeat (first | (with_reducible first | exact HB.out | apply below_alloc | apply pw_below_drewN | apply below_drew1) | exact HB.out)) hb); clear HB; have HB := n0_; clear n0_; (try clear hb); (try clear hb2); (try clear hk); (try clear hi)))
    go_ret3
    exact ⟨_, by first | rfl | (simp [errW_none, errW_some] <;> rfl) | (simp [*, errW_none, errW_some] <;> rfl), by first | exact Kd.R_nil _ _ _ _ _ | exact Kd.N_nil _ _ _ _ _ | exact Kd.V_nil _ _ _ _ _ | exact Kd.Q_nil _ _ _ _ _ | exact Kd.S_nil _ _ _ _ _, by repeat (first | (with_reducible first | exact HB.out | apply below_alloc | apply pw_below_drewN | apply below_drew1) | exact HB.out)⟩

end Go.Proofs.Ytfoickaangjmnaa.POQueueBytes
