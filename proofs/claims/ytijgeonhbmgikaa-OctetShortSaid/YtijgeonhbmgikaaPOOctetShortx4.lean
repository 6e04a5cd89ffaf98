-- Written by a program of this session (pr.py, over the kit's print.py).
import Derived.Test.YtijgeonhbmgikaaPOOctetShortx0
import Derived.Test.YtijgeonhbmgikaaPOOctetShortx1
import Derived.Test.YtijgeonhbmgikaaPOOctetShortx2
import Derived.Test.YtijgeonhbmgikaaPOOctetShortx3
namespace Go.Proofs.Ytijgeonhbmgikaa.POOctetShort
open Go.RowKit Go.Proofs.YtijgeonhbmgikaaN Go.Proofs.YtijgeonhbmgikaaW.PrintWords Go.Proofs.YtijgeonhbmgikaaW.PrintLast Go.Proofs.YtijgeonhbmgikaaW.PrintMore
attribute [local go_sem] max2_int min2_int max_two min_two max_three min_three max_four min_four   -- for this text's walks alone
set_option linter.unusedVariables false
set_option linter.unusedSimpArgs false

/-! ### octet_reader_natural: function 67 -/

namespace OctNat
open Oct
def chunks : Nat → ByteArray → List Int
  | 0, _ => []
  | n + 1, t => be (bytesOf (t.extract 0 8)) :: chunks n (t.extract 8 t.size)
theorem chunks_len : ∀ n t, (chunks n t).length = n
  | 0, _ => rfl
  | n + 1, t => by rw [chunks, List.length_cons, chunks_len n]
def nat_ (k : Nat) (s : ByteArray) : Option (Int ⊕ (List Int × ByteArray)) := match num s with
  | .inl c => some (.inl c)
  | .inr (n, t) => if 8 < n.toNat then some (.inl 62) else if t.size < 8 * n.toNat then some (.inl 60) else
    (api_Nat_uint64_95.f k (chunks n.toNat (t.extract 0 (8 * n.toNat)))).bind fun l => (nat_May.f l).bind fun b => some (if b then .inr (l, t.extract (8 * n.toNat) t.size) else .inl 62)
def Nated (g : Nat) (w : World) (v : Int ⊕ (List Int × ByteArray)) (e : Ending) (w' : World) : Prop := match v with
  | .inl c => e = .panicked (pan c) ∧ Below g w w'
  | .inr (l, t) => ∃ u, e = .returned u ∧ Below g w w' ∧ w'.heap[g]? = some (.cells #[.string t] 86 (0, 0)) ∧ Kd.R (Kd.int .u64) 22 w' w.heap.size (fun _ => True) u l
def cut (g : Nat) (w : World) : World := { w with heap := w.heap.extract 0 g }
theorem cut_size {g : Nat} {w : World} (h : g ≤ w.heap.size) : (cut g w).heap.size = g := by
  show (w.heap.extract 0 g).size = g
  rw [Array.size_extract]; omega
theorem cut_at {g i : Nat} {w : World} (h : g ≤ w.heap.size) (hi : i < g) : (cut g w).heap[i]? = w.heap[i]? := by
  show (w.heap.extract 0 g)[i]? = _
  rw [Array.getElem?_extract]
  rw [if_pos (by omega), Nat.zero_add]
theorem cut_below {g : Nat} {w : World} (h : g ≤ w.heap.size) : Below (cut g w).heap.size (cut g w) w := by
  rw [cut_size h]
  exact ⟨rfl, rfl, rfl, by rw [cut_size h]; exact h, fun i hi => (cut_at h hi).symm⟩
theorem uncut_below {g : Nat} {w w' : World} (hb : Below g (cut g w) w') (hs : w.heap.size ≤ w'.heap.size) (h : g ≤ w.heap.size) : Below g w w' :=
  ⟨hb.os, hb.tape, hb.output, hs, fun i hi => (hb.block i hi).trans (cut_at h hi)⟩
theorem nat_mono (s : ByteArray) (k : Nat) : LeO (nat_ k s) (nat_ (k + 1) s) := by
  unfold nat_
  cases num s with
  | inl c => exact LeO.refl _
  | inr p => exact LeO.ite (LeO.refl _) (LeO.ite (LeO.refl _) (LeO.bind (api_Nat_uint64_95.mono _ _) fun _ => LeO.refl _))
set_option maxHeartbeats 8000000 in
set_option maxRecDepth 100000 in
theorem natural_c (k g : Nat) (s : ByteArray) (w : World) (v : Int ⊕ (List Int × ByteArray)) (hb : w.heap[g]? = some (.cells #[.string s] 86 (0, 0))) (hz : s.size ≤ 140737488351232) (h : nat_ k s = some v) :
    Calls Try.prog 67 #[.pointer (some ⟨g, 0, none⟩)] w (Nated g w v) := by
  have HB := Aside0.mk hb
  have HG := Aside0.mk (blk_lt hb)
  clear hb
  unfold nat_ at h
  cases hn : num s with
  | inl c =>
    rw [hn] at h
    cases h
    have HN := Aside0.mk (numbered_no (g := g) (w := w) hn)
    clear hn
    go_enter Try.func67, Try.ntmps67
    go_wp2_with fail
    refine (number_c g s w HB.out hz).mono ?_
    rw [HN.out]
    rintro e w1 ⟨rfl, hb⟩
    exact ⟨rfl, rfl, hb⟩
  | inr p =>
    obtain ⟨n, t⟩ := p
    obtain ⟨m, rfl⟩ := Int.eq_ofNat_of_zero_le (num_pos hn)
    have hts := num_size hn
    rw [hn] at h
    simp only [Int.toNat_natCast] at h
    have HN := Aside0.mk (numbered_yes (g := g) (w := w) hn)
    clear hn
    by_cases h8 : 8 < m
    · rw [if_pos h8] at h
      cases h
      have t2 : decide ((m : Int) ≤ 8) = false := decide_eq_false (by omega)
      have t3 : decide (m ≤ 8) = false := decide_eq_false (by omega)
      go_enter Try.func67, Try.ntmps67
      go_wp2_with fail
      refine (number_c g s w HB.out hz).mono ?_
      rw [HN.out]
      rintro e w1 ⟨rfl, hb, hc⟩
      have HC := Aside0.mk hb
      clear hb hc
      go_wp2_with fail
      refine (sure_no _).mono ?_
      rintro e w1 ⟨rfl, rfl⟩
      exact ⟨rfl, rfl, HC.out⟩
    · rw [if_neg h8] at h
      have t2 : decide ((m : Int) ≤ 8) = true := decide_eq_true (by omega)
      have t3 : decide (m ≤ 8) = true := decide_eq_true (by omega)
      have hw : IntKind.u64.wrap (8 * (m : Int)) = ((8 * m : Nat) : Int) := by rw [IntKind.wrap_u64]; omega
      have HM := Aside0.mk h8
      clear h8
      by_cases hs : t.size < 8 * m
      · rw [if_pos hs] at h
        cases h
        go_enter Try.func67, Try.ntmps67
        go_wp2_with fail
        refine (number_c g s w HB.out hz).mono ?_
        rw [HN.out]
        rintro e w1 ⟨rfl, hb, hc⟩
        have HC := Aside0.mk hb
        have HD := Aside0.mk hc
        clear hb hc
        go_wp2_with fail
        refine (sure_ok _).mono ?_
        rintro e w2 ⟨rfl, rfl⟩
        go_wp2_with fail
        rw [show 8 * (m : Int) = ((8 * m : Nat) : Int) from (Int.natCast_mul 8 m).symm]
        refine (take_no g (8 * m) t w1 HD.out (by omega) hs).mono ?_
        rintro e w2 ⟨rfl, rfl⟩
        exact ⟨rfl, rfl, HC.out⟩
      · rw [if_neg hs] at h
        obtain ⟨l, hl, h⟩ := Option.bind_eq_some_iff.mp h
        obtain ⟨b, hm, h⟩ := Option.bind_eq_some_iff.mp h
        have hts2 : t.size ≤ 9223372036854775807 := by omega
        have HL := Aside0.mk hl
        have HMY := Aside0.mk hm
        have HV := Aside0.mk h
        have HZ := Aside0.mk hz
        clear hl hm h hz
        go_enter Try.func67, Try.ntmps67
        go_wp2_with fail
        refine (number_c g s w HB.out HZ.out).mono ?_
        rw [HN.out]
        rintro e w1 ⟨rfl, hb, hc⟩
        have HC := Aside0.mk hb
        have HD := Aside0.mk hc
        clear hb hc HN HB
        go_wp2_with fail
        refine (sure_ok _).mono ?_
        rintro e w2 ⟨rfl, rfl⟩
        go_wp2_with fail
        rw [show 8 * (m : Int) = ((8 * m : Nat) : Int) from (Int.natCast_mul 8 m).symm]
        clear hw
        refine (take_ok g (8 * m) t w1 HD.out hts2 (by omega)).mono ?_
        rintro e w2 ⟨rfl, rfl⟩
        have HE := Aside0.mk (blk_put (cs' := #[.string (t.extract (8 * m) t.size)]) HD.out 0 (.string (t.extract (8 * m) t.size)) rfl)
        have HF := Aside0.mk (HC.out.setCell (p := ⟨g, 0, none⟩) (Nat.le_refl g) (.string (t.extract (8 * m) t.size)))
        generalize w1.setCell ⟨g, 0, none⟩ (.string (t.extract (8 * m) t.size)) = w2 at HE HF ⊢
        clear HC HD w1
        have hx0 : (t.extract 0 (8 * m)).size = 8 * m := by rw [ByteArray.size_extract]; omega
        generalize t.extract 0 (8 * m) = x0 at HL hx0 ⊢
        have HX := Aside0.mk hx0
        clear hx0
        have HGW := Aside0.mk HG.out
        go_wp2_with fail
        go_loopw [2, 4] (fun v2 v4 w' => ∃ (done : List Int) (j : Nat) (x : ByteArray), v4 = .string x ∧ Aside0 (x.size = 8 * j) ∧ Aside0 (j ≤ m) ∧ Aside0 (done ++ chunks j x = chunks m x0) ∧ Aside0 (Kd.R (Kd.int .u64) 22 w' w.heap.size (fun _ => True) v2 done) ∧ Aside0 (w'.heap[g]? = some (.cells #[.string (t.extract (8 * m) t.size)] 86 (0, 0))) ∧ Aside0 (Below g w w')) (fun _ v4 wr => match v4 with | .string x => x.size | _ => 0)
        case atStart => exact ⟨[], m, x0, rfl, HX, ⟨Nat.le_refl _⟩, ⟨rfl⟩, ⟨Kd.R_nil _ _ _ _ _⟩, HE, HF⟩
        case round =>
          clear HX HE HF
          obtain ⟨done, j, x, rfl, HX, HJ, HD, HR, HE, HF⟩ := hrel
          cases j with
          | zero =>
            have e0 : (x.toList == ([] : List UInt8)) = true := by rw [beq_iff_eq, ByteArray.toList_eq, ← List.length_eq_zero_iff, data_length]; have := HX.out; omega
            have e1 : (x.toList != ([] : List UInt8)) = false := by rw [bne_eq_false_iff_eq, ByteArray.toList_eq, ← List.length_eq_zero_iff, data_length]; have := HX.out; omega
            have ed : done = chunks m x0 := by have := HD.out; rw [chunks, List.append_nil] at this; exact this
            rw [← ed] at HL
            clear HD ed HX
            obtain ⟨Ao, co, rfl⟩ := Kd.R_slice HR.out
            go_wp2_with fail
            have HRG := Aside0.mk (fun k_ (e_ : (Value.slice Ao done.length co).ownBlock = some k_) => Kd.R_base HR.out k_ e_)
            have HFS := Aside0.mk HF.out.size
            refine (api_Nat_uint64_95.calls k (fun k_ => some k_ = (Value.slice Ao done.length co).ownBlock) (.slice Ao done.length co) done l (cut g wr) wr (cut_below (by have := HG.out; have := HFS.out; omega)) (by rw [cut_size (by have := HG.out; have := HFS.out; omega)]; exact Kd.R_lower (Kd.R_tight rfl HR.out) (Nat.le_of_lt HG.out)) HL.out).mono ?_
            rintro e w3 ⟨rfl, hy, hb, hk⟩
            rw [cut_size (by have := HG.out; have := HFS.out; omega)] at hy hb
            have HE3 := Aside0.mk (blk_kept HE.out hk (fun e_ => by have := HRG.out g e_.symm; have := HG.out; omega))
            have HF3 := Aside0.mk (HF.out.trans (uncut_below hb hk.1 (by have := HG.out; have := HFS.out; omega)))
            have HR3 := Aside0.mk (Kd.R_reok (ok := fun _ => True) rfl (Kd.R_raise (d := (Kd.int .u64)) (b := g) (b' := w.heap.size) (fun _ _ _ _ h_ => h_) hy HRG.out) (fun _ _ => trivial))
            clear hy hb hk HE HF HR
            have HQ := Aside0.mk (Kd.R_reads' HR3.out)
            go_wp2_with fail
            rw [show (done.length : Nat) = l.length from HQ.out.1]
            refine (nat_May.calls Ao co l b w3 HQ.out.2.2 (HQ.out.1 ▸ HQ.out.2.1) HMY.out).mono ?_
            rintro e w4 ⟨rfl, ⟨nd, rfl⟩⟩
            go_wp2_with fail
            cases b with
            | false =>
              refine (sure_no _).mono ?_
              rintro e w5 ⟨rfl, rfl⟩
              have := HV.out
              cases this
              exact ⟨rfl, rfl, pw_below_drewN HF3.out nd⟩
            | true =>
              refine (sure_ok _).mono ?_
              rintro e w5 ⟨rfl, rfl⟩
              have hv := HV.out
              cases hv
              go_wp2
              go_ret
              exact ⟨_, rfl, pw_below_drewN HF3.out nd, blk_drewN HE3.out nd, Kd.R_drewN (by rw [HQ.out.1] at HR3; exact HR3.out) nd⟩
          | succ j =>
            have hx8 : 8 ≤ x.size := by have := HX.out; omega
            have e0 : (x.toList == ([] : List UInt8)) = false := by rw [beq_eq_false_iff_ne, ByteArray.toList_eq, Ne, ← List.length_eq_zero_iff, data_length]; omega
            have e1 : (x.toList != ([] : List UInt8)) = true := by rw [bne_iff_ne, ByteArray.toList_eq, Ne, ← List.length_eq_zero_iff, data_length]; omega
            have c8 : (8 : Int) ≤ (x.size : Int) := by omega
            have hz8 : (x.extract 0 8).size = 8 := by rw [ByteArray.size_extract]; omega
            have hz9 : (x.extract 8 x.size).size = 8 * j := by rw [ByteArray.size_extract]; have := HX.out; omega
            have hlen : done.length ≤ 8 := by
              have := congrArg List.length HD.out
              rw [List.length_append, chunks_len, chunks_len] at this
              have := HM.out; omega
            have HD2 : done ++ [be (bytesOf (x.extract 0 8))] ++ chunks j (x.extract 8 x.size) = chunks m x0 := by rw [List.append_assoc]; exact HD.out
            have HZ8 := Aside0.mk hz8
            have HZ9 := Aside0.mk hz9
            have HLN := Aside0.mk hlen
            have HD3 := Aside0.mk HD2
            have HX8 := Aside0.mk hx8
            clear HD HD2 hz8 hz9 hlen hx8 HX
            have HGR := Aside0.mk (show g < wr.heap.size from Nat.lt_of_lt_of_le HG.out HF.out.size)
            have HWR := Aside0.mk HF.out.size
            go_wp2_with fail
            refine (value_c (x.extract 0 8) wr (by have := HZ8.out; omega)).mono ?_
            rintro e w3 ⟨rfl, hv⟩
            generalize be (bytesOf (x.extract 0 8)) = cc at HD3 ⊢
            have HE3 := Aside0.mk (blk_below HE.out hv)
            have HF3 := Aside0.mk (HF.out.trans (hv.mono (Nat.le_of_lt HGR.out)))
            have HR3 := Aside0.mk (Kd.R_below HR.out hv)
            have HW3 := Aside0.mk (Nat.le_trans HWR.out hv.size)
            clear hv HE HF HR HGR HWR
            go_wp2_with ((with_reducible refine gate_builtin (b := .append) (xs := #[.tmp 18, .tmp 22]) rfl ?_); at_builtin; refine Kd.R_append (Kd.int .u64) w.heap.size rfl (.tmp 18) (.tmp 22) 36 22 (.int .u64 0) 8 rfl Try.underlying36 info22 rfl (by decide) (by omega) u2 done cc [.int .u64 cc] (fun _ => True) (fun _ => False) rfl rfl ?aP (fun _ hk => hk.elim) ?aF ?aO (Below.refl _ _) ?aS ?aL ?_; (case aP => exact rfl); (case aF => exact (fun _ _ => trivial)); (case aO => exact HR3.out); (case aS => exact HW3.out); (case aL => have := HLN.out; omega); intro v4 w4 ho hb hg hat; have HE4 := Aside0.mk (blk_grown HE3.out hg (fun e_ => by have := Kd.R_base HR3.out g e_.symm; have := HG.out; omega)); have HF4 := Aside0.mk (HF3.out.trans (hb.mono (Nat.le_of_lt HG.out))); have HR4 := Aside0.mk ho; clear ho hb hg hat HE3 HF3 HR3)
            go_roundw
            case rel => exact ⟨done ++ [cc], j, x.extract 8 x.size, rfl, HZ9, ⟨by have := HJ.out; omega⟩, HD3, HR4, HE4, HF4⟩
            case measure =>
              show (x.extract 8 x.size).size < x.size
              rw [ByteArray.size_extract]; have := HX8.out; omega
end OctNat

/-! ### octet_GetNat: function 22 -/
namespace octet_GetNat
open Oct
theorem undo_c_22 (p q : Addr) (x y : Value) (w : World) (hp : w.cell? p = some x) (hq : w.cell? q = some y) (fp : w.frozen? p = false) (fq : w.frozen? q = false) (hpq : p.block ≠ q.block) :
    Calls Try.prog 66 #[.pointer (some p), .pointer (some q)] w fun e w' => e = .returned (.tuple #[]) ∧ w' = (w.setCell p (.slice none 0 0)).setCell q (.string { data := #[] }) := by
  have hq' : (w.setCell p (.slice none 0 0)).cell? q = some y := by rw [World.cell?_setCell_other _ _ _ _ (fun e => hpq (by rw [e]))]; exact hq
  go_enter Try.func66, Try.ntmps66
  go_wp2
  go_end0
  exact ⟨rfl, rfl⟩
def W4_22 (s : ByteArray) (w : World) : World := (((w.alloc (.cells #[.slice none 0 0] 36)).alloc (.cells #[.string { data := #[] }] 9)).alloc (.cells #[.int .i64 0] 28)).alloc (.cells #[.string s] 86)
theorem size_alloc0_22 (w : World) (o : Obj) : (w.alloc o).heap.size = w.heap.size + 1 := Array.size_push _
theorem w4_0_22 (s : ByteArray) (w : World) : (W4_22 s w).heap[w.heap.size]? = some (.cells #[.slice none 0 0] 36 (0, 0)) := blk_alloc (blk_alloc (blk_alloc (blk_new _ _) _) _) _
theorem w4_1_22 (s : ByteArray) (w : World) : (W4_22 s w).heap[w.heap.size + 1]? = some (.cells #[.string { data := #[] }] 9 (0, 0)) := by rw [← size_alloc0_22 w (.cells #[.slice none 0 0] 36)]; exact blk_alloc (blk_alloc (blk_new _ _) _) _
theorem w4_2_22 (s : ByteArray) (w : World) : (W4_22 s w).heap[w.heap.size + 1 + 1]? = some (.cells #[.int .i64 0] 28 (0, 0)) := by rw [← size_alloc0_22 w (.cells #[.slice none 0 0] 36), ← size_alloc0_22 _ (.cells #[.string { data := #[] }] 9)]; exact blk_alloc (blk_new _ _) _
theorem w4_3_22 (s : ByteArray) (w : World) : (W4_22 s w).heap[w.heap.size + 1 + 1 + 1]? = some (.cells #[.string s] 86 (0, 0)) := by rw [← size_alloc0_22 w (.cells #[.slice none 0 0] 36), ← size_alloc0_22 _ (.cells #[.string { data := #[] }] 9), ← size_alloc0_22 _ (.cells #[.int .i64 0] 28)]; exact blk_new _ _
theorem w4_size_22 (s : ByteArray) (w : World) : (W4_22 s w).heap.size = w.heap.size + 1 + 1 + 1 + 1 := by unfold W4_22; rw [size_alloc0_22, size_alloc0_22, size_alloc0_22, size_alloc0_22]
theorem w4_below_22 (s : ByteArray) (w : World) : Below w.heap.size w (W4_22 s w) :=
  below_alloc (below_alloc (below_alloc (below_alloc (Below.refl _ w) _) _) _) _
set_option maxHeartbeats 4000000 in
set_option maxRecDepth 100000 in
theorem get_no_22 (k : Nat) (s : ByteArray) (w : World) (c : Int) (hn : OctNat.nat_ k s = some (.inl c)) (hz : s.size ≤ 140737488351232) :
    Calls Try.prog 22 #[.string s] w fun e w' => e = .returned (.tuple #[.slice none 0 0, .string { data := #[] }, .int .i64 c]) ∧ Below w.heap.size w w' := by
  have hmf : ∀ (fn : Fn) (first cap : Array Value) (w : World), (Instr.makeFunc fn first cap).run Try.prog w = .ok (.func fn first cap) w := fun _ _ _ _ => rfl
  have H0 := Aside0.mk (w4_0_22 s w)
  have H1 := Aside0.mk (w4_1_22 s w)
  have H2 := Aside0.mk (w4_2_22 s w)
  have H3 := Aside0.mk (w4_3_22 s w)
  have HW := Aside0.mk (w4_below_22 s w)
  have HZ := Aside0.mk (w4_size_22 s w)
  have HN := Aside0.mk hn
  clear hn
  go_enter_defers Try.func22, Try.ntmps22
  go_wp2_with fail
  refine (show Calls Try.prog 67 _ (W4_22 s w) (OctNat.Nated _ (W4_22 s w) _) from OctNat.natural_c k _ s _ _ H3.out hz HN.out).mono ?_
  generalize W4_22 s w = W at H0 H1 H2 H3 HW HZ ⊢
  rintro e w1 ⟨rfl, hb⟩
  have C0 := Aside0.mk ((hb.block _ (by omega)).trans H0.out)
  have C1 := Aside0.mk ((hb.block _ (by omega)).trans H1.out)
  have C2 := Aside0.mk ((hb.block _ (by omega)).trans H2.out)
  have CB := Aside0.mk (HW.out.trans (hb.mono (by omega)))
  clear hb
  show bodyPostD Try.prog Try.f22 _ (Exit.panic _) _ _
  unfold bodyPostD pan
  refine leaves_cons (f := 59) (args := #[.pointer (some ⟨w.heap.size + 1 + 1, 0, none⟩), .func (.func 66) #[] #[.pointer (some ⟨w.heap.size, 0, none⟩), .pointer (some ⟨w.heap.size + 1, 0, none⟩)]]) (by simp) (by kernel_rfl) ?_
  have D0 := blk_far (p := ⟨w.heap.size + 1 + 1, 0, none⟩) C0.out (by simp; omega) (.int .i64 c)
  have D1 := blk_far (p := ⟨w.heap.size + 1 + 1, 0, none⟩) C1.out (by simp) (.int .i64 c)
  have DB := (CB.out.setCell (p := ⟨w.heap.size + 1 + 1, 0, none⟩) (by simp; omega) (.int .i64 c))
  have HU := undo_c_22 ⟨w.heap.size, 0, none⟩ ⟨w.heap.size + 1, 0, none⟩ _ _ _ ((blk_cell D0 0).trans rfl) ((blk_cell D1 0).trans rfl) (blk_frozen D0 0) (blk_frozen D1 0) (by simp)
  have DU := (DB.setCell (p := ⟨w.heap.size, 0, none⟩) (by simp) (.slice none 0 0)).setCell (p := ⟨w.heap.size + 1, 0, none⟩) (by simp) (.string { data := #[] })
  have E2 := blk_far (p := ⟨w.heap.size + 1, 0, none⟩) (blk_far (p := ⟨w.heap.size, 0, none⟩) (blk_put (cs' := #[.int .i64 c]) C2.out 0 (.int .i64 c) rfl) (by simp; omega) (.slice none 0 0)) (by simp) (.string { data := #[] })
  have E0 := blk_far (p := ⟨w.heap.size + 1, 0, none⟩) (blk_put (cs' := #[.slice none 0 0]) D0 0 (.slice none 0 0) rfl) (by simp) (.string { data := #[] })
  have E1 := blk_put (cs' := #[.string { data := #[] }]) (blk_far (p := ⟨w.heap.size, 0, none⟩) D1 (by simp) (.slice none 0 0)) 0 (.string { data := #[] }) rfl
  refine (caught_panic ⟨w.heap.size + 1 + 1, 0, none⟩ 0 c 66 Try.f66 _ [] w1 _ ((blk_cell C2.out 0).trans rfl) (blk_frozen C2.out 0) (fun _ _ => by kernel_rfl) HU).mono ?_
  rintro e u' w'' ⟨rfl, rfl, rfl⟩
  have F2 := (blk_cell E2 0).trans (show _ = some (.int .i64 c) from rfl)
  have F0 := (blk_cell E0 0).trans (show _ = some (.slice none 0 0) from rfl)
  have F1 := (blk_cell E1 0).trans (show _ = some (.string { data := #[] }) from rfl)
  clear E0 E1 E2 HU D0 D1 DB
  generalize ((w1.setCell ⟨w.heap.size + 1 + 1, 0, none⟩ (.int .i64 c)).setCell ⟨w.heap.size, 0, none⟩ (.slice none 0 0)).setCell ⟨w.heap.size + 1, 0, none⟩ (.string { data := #[] }) = w3 at DU F0 F1 F2 ⊢
  simp [Leaves, settle, results, Try.results22, go_sem, F0, F1, F2]
  exact DU

set_option maxHeartbeats 4000000 in
set_option maxRecDepth 100000 in
theorem get_yes_22 (s : ByteArray) (w : World) (k : Nat) (r : List Int) (t : ByteArray) (hn : OctNat.nat_ k s = some (.inr (r, t))) (hz : s.size ≤ 140737488351232) :
    Calls Try.prog 22 #[.string s] w fun e w' => ∃ u, e = .returned (.tuple #[u, .string t, .int .i64 0]) ∧ Kd.R (Kd.int .u64) 22 w' w.heap.size (fun _ => True) u r ∧ Below w.heap.size w w' := by
  have hmf : ∀ (fn : Fn) (first cap : Array Value) (w : World), (Instr.makeFunc fn first cap).run Try.prog w = .ok (.func fn first cap) w := fun _ _ _ _ => rfl
  have H0 := Aside0.mk (w4_0_22 s w)
  have H1 := Aside0.mk (w4_1_22 s w)
  have H2 := Aside0.mk (w4_2_22 s w)
  have H3 := Aside0.mk (w4_3_22 s w)
  have HW := Aside0.mk (w4_below_22 s w)
  have HZ := Aside0.mk (w4_size_22 s w)
  have HN := Aside0.mk hn
  clear hn
  go_enter_defers Try.func22, Try.ntmps22
  go_wp2_with fail
  refine (show Calls Try.prog 67 _ (W4_22 s w) (OctNat.Nated _ (W4_22 s w) _) from OctNat.natural_c k _ s _ _ H3.out hz HN.out).mono ?_
  generalize W4_22 s w = W at H0 H1 H2 H3 HW HZ ⊢
  rintro e w1 ⟨u, rfl, hb, h3, hv⟩
  obtain ⟨A, c, rfl⟩ := Kd.R_slice hv
  clear HN
  have C0 := (hb.block _ (by omega)).trans H0.out
  have C1 := (hb.block _ (by omega)).trans H1.out
  have C2 := (hb.block _ (by omega)).trans H2.out
  have CB := HW.out.trans (hb.mono (by omega))
  have X3 := (blk_cell h3 0).trans (show _ = some (.string t) from rfl)
  have X0 := (blk_cell C0 0).trans (show _ = some (.slice none 0 0) from rfl)
  have Z0 := blk_frozen C0 0
  have HZ0 := HZ
  clear hb HW H0 H1 H2 H3 HZ
  have CBB := Aside0.mk CB
  have D0 := Aside0.mk (blk_put (cs' := #[.slice A r.length c]) C0 0 (.slice A r.length c) rfl)
  have D1 := Aside0.mk (blk_far (p := ⟨w.heap.size, 0, none⟩) C1 (by simp) (.slice A r.length c))
  have D2 := Aside0.mk (blk_far (p := ⟨w.heap.size, 0, none⟩) C2 (by simp; omega) (.slice A r.length c))
  have D3 := Aside0.mk (blk_far (p := ⟨w.heap.size, 0, none⟩) h3 (by simp; omega) (.slice A r.length c))
  have DB := Aside0.mk (CB.setCell (p := ⟨w.heap.size, 0, none⟩) (by simp) (.slice A r.length c))
  have HV0 := Kd.R_lower (Kd.R_mono (Kd.R_bound hv) (fun k_ hk_ => (show w.heap.size + 1 + 1 + 1 + 1 ≤ k_ from HZ0.out ▸ hk_.2.1))) (show w.heap.size ≤ W.heap.size by have := HZ0.out; omega)
  have HV1 := Aside0.mk (Oct.R_far_ (p := ⟨w.heap.size, 0, none⟩) HV0 (by show w.heap.size < _; omega) (.slice A r.length c))
  clear hv HV0 HZ0
  clear C0 C1 C2 CB h3
  go_wp2
  generalize w1.setCell ⟨w.heap.size, 0, none⟩ (.slice A r.length c) = v0 at D0 D1 D2 D3 DB HV1 ⊢
  refine wp_sure ?_
  refine start_ (n := 8) (S := fun w' => w'.heap[w.heap.size]? = some (.cells #[.slice A r.length c] 36 (0, 0)) ∧ w'.heap[w.heap.size + 1]? = some (.cells #[.string { data := #[] }] 9 (0, 0)) ∧ w'.heap[w.heap.size + 1 + 1]? = some (.cells #[.int .i64 0] 28 (0, 0)) ∧ w'.heap[w.heap.size + 1 + 1 + 1]? = some (.cells #[.string t] 86 (0, 0)) ∧ Below w.heap.size w w' ∧ Kd.R (Kd.int .u64) 22 w' w.heap.size (fun k_ => w.heap.size + 1 + 1 + 1 + 1 ≤ k_) (.slice A r.length c) r) (ds := [6, 7]) #[false, false, false, false, false, false, false, false] (by kernel_rfl) rfl rfl ⟨blk_drew D0.out, blk_drew D1.out, blk_drew D2.out, blk_drew D3.out, below_drew DB.out, Kd.R_drew HV1.out⟩ (fun hHeld => ?_)
  generalize v0.drew = u0 at hHeld ⊢
  clear D0 D1 D2 D3 DB HV1
  refine take_ (i := 0) (N := some 12) (v := ?_) (a' := ?_) #[true, false, false, false, false, false, false, false] rfl rfl (by kernel_rfl) (fun _ _ _ h => h) (Or.inl ⟨by rfl, ?_⟩) hHeld ?_ ?_
  rotate_left
  · rintro w' ⟨s0_, s1_, s2_, s3_, s4_, s5_⟩
    have hc := (blk_cell s0_ 0).trans (show _ = some (.slice A r.length c) from rfl)
    go_simp
    with_reducible rfl
  rotate_left
  · simp only [Act.put, List.setIfInBounds_toArray, List.set_cons_zero, List.set_cons_succ, i64_w, i32_w]
    rfl
  refine pure_ (i := 1) (N := some 13) (v := ?_) (a' := ?_) #[true, true, false, false, false, false, false, false] rfl rfl (by kernel_rfl) (fun _ _ _ h => h) (Or.inl ⟨by rfl, ?_⟩) ?_ ?_
  rotate_left
  · intro w'
    go_simp
    with_reducible rfl
  rotate_left
  · simp only [Act.put, List.setIfInBounds_toArray, List.set_cons_zero, List.set_cons_succ, i64_w, i32_w]
    rfl
  refine pure_ (i := 2) (N := some 14) (v := ?_) (a' := ?_) #[true, true, true, false, false, false, false, false] rfl rfl (by kernel_rfl) (fun _ _ _ h => h) (Or.inl ⟨by rfl, ?_⟩) ?_ ?_
  rotate_left
  · intro w'
    go_simp
    with_reducible rfl
  rotate_left
  · simp only [Act.put, List.setIfInBounds_toArray, List.set_cons_zero, List.set_cons_succ, i64_w, i32_w]
    rfl
  refine pure_ (i := 3) (N := some 15) (v := ?_) (a' := ?_) #[true, true, true, true, false, false, false, false] rfl rfl (by kernel_rfl) (fun _ _ _ h => h) (Or.inl ⟨by rfl, ?_⟩) ?_ ?_
  rotate_left
  · intro w'
    go_simp
    with_reducible rfl
  rotate_left
  · simp only [Act.put, List.setIfInBounds_toArray, List.set_cons_zero, List.set_cons_succ, i64_w, i32_w]
    rfl
  refine take_ (i := 4) (N := some 16) (v := ?_) (a' := ?_) #[true, true, true, true, true, false, false, false] rfl rfl (by kernel_rfl) (fun _ _ _ h => h) (Or.inl ⟨by rfl, ?_⟩) hHeld ?_ ?_
  rotate_left
  · rintro w' ⟨s0_, s1_, s2_, s3_, s4_, s5_⟩
    have hc := (blk_cell s3_ 0).trans (show _ = some (.string t) from rfl)
    go_simp
    with_reducible rfl
  rotate_left
  · simp only [Act.put, List.setIfInBounds_toArray, List.set_cons_zero, List.set_cons_succ, i64_w, i32_w]
    rfl
  obtain ⟨s0_, s1_, s2_, s3_, s4_, s5_⟩ := hHeld
  refine one_ (i := 5) (N := none) #[true, true, true, true, true, true, false, false] rfl rfl (by kernel_rfl) (by decide) (fun K hK => ?_)
  have hc := (blk_cell s0_ 0).trans (show _ = some (.slice A r.length c) from rfl)
  have hf := blk_frozen s0_ 0
  refine skip_ (w1 := ?_) (by rfl) rfl ?_ ?_
  rotate_left
  · go_simp
    rfl
  refine hK.out _ _ ⟨blk_put s0_ 0 (.slice A r.length c) rfl, blk_far (p := ⟨w.heap.size, 0, none⟩) s1_ (by simp) (.slice A r.length c), blk_far (p := ⟨w.heap.size, 0, none⟩) s2_ (by simp; omega) (.slice A r.length c), blk_far (p := ⟨w.heap.size, 0, none⟩) s3_ (by simp; omega) (.slice A r.length c), s4_.setCell (p := ⟨w.heap.size, 0, none⟩) (by simp) (.slice A r.length c), Oct.R_far_ (p := ⟨w.heap.size, 0, none⟩) s5_ (by show w.heap.size < _; omega) (.slice A r.length c)⟩ (fun hHeld => ?_)
  clear hK K
  obtain ⟨s0_, s1_, s2_, s3_, s4_, s5_⟩ := hHeld
  refine last_ (i := 6) (N := none) #[true, true, true, true, true, true, true, false] rfl rfl (by kernel_rfl) (by decide) (fun K hK => ?_)
  have hc := (blk_cell s1_ 0).trans (show _ = some (.string { data := #[] }) from rfl)
  have hf := blk_frozen s1_ 0
  refine skip_ (w1 := ?_) (by rfl) rfl ?_ ?_
  rotate_left
  · go_simp
    rfl
  refine hK.out _ _ ?_
  clear hK K
  have e0 := blk_far (p := ⟨w.heap.size + 1, 0, none⟩) s0_ (by simp) (.string t)
  have e1 := blk_put (cs' := #[.string t]) s1_ 0 (.string t) rfl
  have e2 := blk_far (p := ⟨w.heap.size + 1, 0, none⟩) s2_ (by simp) (.string t)
  have e4 := s4_.setCell (p := ⟨w.heap.size + 1, 0, none⟩) (by simp) (.string t)
  have c2 := (blk_cell s2_ 0).trans (show _ = some (.int .i64 0) from rfl)
  have z2 := blk_frozen s2_ 0
  have e5 := Oct.R_far_ (p := ⟨w.heap.size + 1, 0, none⟩) s5_ (by show w.heap.size + 1 < _; omega) (.string t)
  clear s5_
  clear s0_ s1_ s2_ s3_ s4_
  refine last_ (i := 7) (N := none) #[true, true, true, true, true, true, true, true] rfl rfl (by kernel_rfl) (by decide) (fun K hK => ?_)
  have hc := (blk_cell e2 0).trans (show _ = some (.int .i64 0) from rfl)
  have hf := blk_frozen e2 0
  refine skip_ (w1 := ?_) (by rfl) rfl ?_ ?_
  rotate_left
  · go_simp
    rfl
  refine hK.out _ _ ?_
  clear hK K
  have f0 := (blk_cell (blk_far (p := ⟨w.heap.size + 1 + 1, 0, none⟩) e0 (by simp; omega) (.int .i64 0)) 0).trans (show _ = some (.slice A r.length c) from rfl)
  have f1 := (blk_cell (blk_far (p := ⟨w.heap.size + 1 + 1, 0, none⟩) e1 (by simp) (.int .i64 0)) 0).trans (show _ = some (.string t) from rfl)
  have f2 := (blk_cell (blk_put (cs' := #[.int .i64 0]) e2 0 (.int .i64 0) rfl) 0).trans (show _ = some (.int .i64 0) from rfl)
  have f4 := e4.setCell (p := ⟨w.heap.size + 1 + 1, 0, none⟩) (by simp; omega) (.int .i64 0)
  have f5 := Oct.R_far_ (p := ⟨w.heap.size + 1 + 1, 0, none⟩) e5 (by show w.heap.size + 1 + 1 < _; omega) (.int .i64 0)
  clear e5
  clear e0 e1 e2 e4
  refine done_ (by kernel_rfl) ?_
  refine noPanic_normal ?_
  refine (‹∀ (a : Act) (w : World), Code.wp Try.prog Code.ret _ a w → _›) _ _ ?_
  clear hc hf c2 z2 X3 X0 Z0 CBB
  go_wp2
  generalize ((u0.setCell ⟨w.heap.size, 0, none⟩ (.slice A r.length c)).setCell ⟨w.heap.size + 1, 0, none⟩ (.string t)).setCell ⟨w.heap.size + 1 + 1, 0, none⟩ (.int .i64 0) = w3 at f0 f1 f2 f4 f5 ⊢
  unfold bodyPostD
  refine leaves_cons (f := 59) (args := #[.pointer (some ⟨w.heap.size + 1 + 1, 0, none⟩), .func (.func 66) #[] #[.pointer (some ⟨w.heap.size, 0, none⟩), .pointer (some ⟨w.heap.size + 1, 0, none⟩)]]) (by simp) (by kernel_rfl) ?_
  refine (caught_idle _ _ _).mono ?_
  rintro e u' w'' ⟨rfl, rfl, rfl⟩
  simp [Leaves, settle, results, Try.results22, go_sem, f0, f1, f2]
  exact ⟨Kd.R_mono f5 (fun _ _ => trivial), f4⟩
end octet_GetNat

def octet_GetNat.f (k : Nat) (a0 : ByteArray) : Option (List Int × ByteArray × Int) := if a0.size ≤ 140737488351232 then ((OctNat.nat_ k a0).bind fun v_ => some (match v_ with | .inl c => ([], { data := #[] }, c) | .inr (l, t) => (l, t, 0))) else none
theorem octet_GetNat.mono : ∀ a0 k, LeO (octet_GetNat.f k a0) (octet_GetNat.f (k + 1) a0) := by
  intro a0 k
  unfold octet_GetNat.f
  exact LeO.ite (LeO.bind (OctNat.nat_mono a0 k) fun _ => LeO.refl _) (LeO.refl _)
theorem octet_GetNat.calls (k : Nat) (a0 : ByteArray) (r1 : List Int) (r2 : ByteArray) (r3 : Int) (w : World) (h : octet_GetNat.f k a0 = some (r1, r2, r3)) :
    Calls Try.prog 22 #[.string a0] w fun e w' => ∃ v0_ : Value, e = .returned (.tuple #[v0_, .string r2, .int .i64 r3]) ∧ Kd.R (Kd.int .u64) 22 w' w.heap.size (fun _ => True) v0_ r1 ∧ Below w.heap.size w w' := by
  unfold octet_GetNat.f at h
  by_cases hz : a0.size ≤ 140737488351232
  · rw [if_pos hz] at h
    obtain ⟨v, hv, h⟩ := Option.bind_eq_some_iff.mp h
    cases v with
    | inl c =>
      cases h
      refine (octet_GetNat.get_no_22 k a0 w _ hv hz).mono ?_
      rintro e w' ⟨he, hb⟩
      exact ⟨_, he, Kd.R_nil _ _ _ _ _, hb⟩
    | inr p =>
      obtain ⟨l, t⟩ := p
      cases h
      exact octet_GetNat.get_yes_22 a0 w k _ _ hv hz
  · rw [if_neg hz] at h; cases h

/-! ### syzygylaw06_OctetShort: function 4 -/
def syzygylaw06_OctetShort.j0 : Nat → Int → ByteArray → Int → Bool → Option (Bool)
  | 0, _, _, _, _ => none
  | k + 1, x0, x1, x2, x26 => if x26 = true then ((syzygylaw06_shown.f k).bind fun t143 => (some t143)) else ((octet_Put.f k x0).bind fun t144 => ((octet_PutText.f k x1).bind fun t145 => (if (t144.size : Int) = 0 then (none) else (if 0 ≤ (Int.tmod (wrap64 (x2)) (t144.size : Int)) then (if (Int.tmod (wrap64 (x2)) (t144.size : Int)) ≤ (t144.size : Int) then ((octet_Get.f (t144.extract 0 ((Int.tmod (wrap64 (x2)) (t144.size : Int)) : Int).toNat)).bind fun bt146 => (if (t145.size : Int) = 0 then (none) else (if 0 ≤ (Int.tmod (wrap64 (x2)) (t145.size : Int)) then (if (Int.tmod (wrap64 (x2)) (t145.size : Int)) ≤ (t145.size : Int) then ((octet_GetText.f (t145.extract 0 ((Int.tmod (wrap64 (x2)) (t145.size : Int)) : Int).toNat)).bind fun bt149 => ((syzygyref02_Of.f k x0).bind fun t152 => ((octet_PutNat.f k t152).bind fun bt155 => (if (bt155.1.size : Int) = 0 then (none) else (if 0 ≤ (Int.tmod (wrap64 (x2)) (bt155.1.size : Int)) then (if (Int.tmod (wrap64 (x2)) (bt155.1.size : Int)) ≤ (bt155.1.size : Int) then ((octet_GetNat.f k (bt155.1.extract 0 ((Int.tmod (wrap64 (x2)) (bt155.1.size : Int)) : Int).toNat)).bind fun bt157 => (if bt146.2.2 = 60 then (if bt149.2.2 = 60 then (some (bt157.2.2 == 60)) else (some false)) else (some false))) else (none)) else (none)))))) else (none)) else (none)))) else (none)) else (none)))))
def syzygylaw06_OctetShort.f (k : Nat) (a0 : Int) (a1 : ByteArray) (a2 : Int) : Option (Bool) := if (a1.size : Int) > 300 then (syzygylaw06_OctetShort.j0 k a0 a1 a2 true) else ((syzygylaw06_shown.f k).bind fun t142 => (syzygylaw06_OctetShort.j0 k a0 a1 a2 (!t142)))
theorem syzygylaw06_OctetShort.mono_l : ∀ k, (∀ y0 y1 y2 y3, LeO (syzygylaw06_OctetShort.j0 k y0 y1 y2 y3) (syzygylaw06_OctetShort.j0 (k + 1) y0 y1 y2 y3))
  | 0 => fun _ _ _ _ r h => by simp [syzygylaw06_OctetShort.j0] at h
  | k + 1 => by
    have ih0 := syzygylaw06_OctetShort.mono_l k
    · intro y0 y1 y2 y3
      unfold syzygylaw06_OctetShort.j0
      repeat' first
      | (with_reducible exact ih0 _ _ _ _)
      | (with_reducible exact octet_GetNat.mono _ _)
      | (with_reducible exact octet_Put.mono _ _)
      | (with_reducible exact octet_PutNat.mono _ _)
      | (with_reducible exact octet_PutText.mono _ _)
      | (with_reducible exact syzygylaw06_shown.mono _)
      | (with_reducible exact syzygyref02_Of.mono _ _)
      | (with_reducible exact LeO.refl _)
      | (with_reducible exact LeO.none _)
      | (with_reducible refine LeO.ite ?_ ?_)
      | (with_reducible refine LeO.bind ?_ (fun _ => ?_))
      | exact ih0 _ _ _ _
      | exact octet_GetNat.mono _ _
      | exact octet_Put.mono _ _
      | exact octet_PutNat.mono _ _
      | exact octet_PutText.mono _ _
      | exact syzygylaw06_shown.mono _
      | exact syzygyref02_Of.mono _ _
      | exact LeO.none _
      | refine LeO.ite ?_ ?_
      | refine LeO.bind ?_ (fun _ => ?_)
theorem syzygylaw06_OctetShort.mono : ∀ a0 a1 a2 k, LeO (syzygylaw06_OctetShort.f k a0 a1 a2) (syzygylaw06_OctetShort.f (k + 1) a0 a1 a2) := by
  intro a0 a1 a2 k
  have ih0 := syzygylaw06_OctetShort.mono_l k
  unfold syzygylaw06_OctetShort.f
  repeat' first
      | (with_reducible exact ih0 _ _ _ _)
      | (with_reducible exact octet_GetNat.mono _ _)
      | (with_reducible exact octet_Put.mono _ _)
      | (with_reducible exact octet_PutNat.mono _ _)
      | (with_reducible exact octet_PutText.mono _ _)
      | (with_reducible exact syzygylaw06_shown.mono _)
      | (with_reducible exact syzygyref02_Of.mono _ _)
      | (with_reducible exact LeO.refl _)
      | (with_reducible exact LeO.none _)
      | (with_reducible refine LeO.ite ?_ ?_)
      | (with_reducible refine LeO.bind ?_ (fun _ => ?_))
      | exact ih0 _ _ _ _
      | exact octet_GetNat.mono _ _
      | exact octet_Put.mono _ _
      | exact octet_PutNat.mono _ _
      | exact octet_PutText.mono _ _
      | exact syzygylaw06_shown.mono _
      | exact syzygyref02_Of.mono _ _
      | exact LeO.none _
      | refine LeO.ite ?_ ?_
      | refine LeO.bind ?_ (fun _ => ?_)
set_option maxHeartbeats 8000000 in
set_option maxRecDepth 100000 in
theorem syzygylaw06_OctetShort.calls (k : Nat) (a0 : Int) (a1 : ByteArray) (a2 : Int) (w : World) (h : syzygylaw06_OctetShort.f k a0 a1 a2 = some true) :
    Calls Try.prog 4 #[.int .u64 a0, .string a1, .int .u16 a2] w fun e w' => e = .returned (.bool true) ∧ Below w.heap.size w w' := by
  have HB := Aside0.mk (Below.refl w.heap.size w)
  have H : (if (a1.size : Int) > 300 then (syzygylaw06_OctetShort.j0 k a0 a1 a2 true) else ((syzygylaw06_shown.f k).bind fun t142 => (syzygylaw06_OctetShort.j0 k a0 a1 a2 (!t142)))) = some true := h
  clear h
  have HC4 := Aside0.mk H
  clear H
  go_enter Try.func4, Try.ntmps4
  go_upto_region 1 with (fail)
  go_cut [26] (fun v26 wc => ∃ (kq : Nat) (x26_3 : Bool), v26 = .bool x26_3 ∧ Aside0 (syzygylaw06_OctetShort.j0 kq a0 a1 a2 x26_3 = some true) ∧ Aside0 (kq ≤ k) ∧ Aside0 (Below w.heap.size w wc))
  case first =>
    have H := HC4.out
    clear HC4
    by_cases c5 : (a1.size : Int) > 300
    · rw [if_pos c5] at H
      have c5b0 : decide (300 < (a1.size : Int)) = true := decide_eq_true c5
      have c5b1 : decide (300 < a1.size) = true := decide_eq_true (by omega)
      clear c5
      (first | rw [c5b0] | (simp only [i64_w, i32_w]; rw [c5b0]) | skip)
      have H' := Aside0.mk H
      clear H
      go_wp2
      go_meet
      case rel => exact ⟨_, (true), (by first | rfl | (simp; done) | (simp [*]; done)), H', ⟨by first | omega | exact Nat.le_refl _⟩, ⟨by repeat (first | (with_reducible first | exact HB.out | apply below_alloc | apply pw_below_drewN | apply below_drew1) | exact HB.out)⟩⟩
    · rw [if_neg c5] at H
      have c5b0 : decide (300 < (a1.size : Int)) = false := decide_eq_false c5
      have c5b1 : decide (300 < a1.size) = false := decide_eq_false (by omega)
      clear c5
      (first | rw [c5b0] | (simp only [i64_w, i32_w]; rw [c5b0]) | skip)
      replace H := Option.bind_eq_some_iff.mp H
      obtain ⟨t142, A60, H⟩ := H
      replace H : (syzygylaw06_OctetShort.j0 k a0 a1 a2 (!t142)) = some true := H
      have A6 := Aside0.mk A60
      clear A60
      have H' := Aside0.mk H
      clear H
      go_wp2_with (first | ((with_reducible refine gate_dst (N := 24) rfl ?_); refine gate_guard (by first | rfl | kernel_rfl) ?_; dsimp only; (with_reducible refine gate_callee (f := 16) rfl ?_); refine goesL_ (some 24) rfl rfl Try.func16 (by kernel_rfl) rfl #[] rfl (by (try simp only [List.map_toArray, List.map_cons, List.map_nil]); first | done | rfl | (simp only [List.length_drop, List.length_take]; rfl)) ?_; (with_reducible refine (syzygylaw06_shown.calls k  t142 _ A6.out).mono ?_); rintro e w7 ⟨rfl, hb⟩; refine ⟨_, rfl, ?_⟩; have n0_ := Aside0.mk (below_step (by repeat (first | (with_reducible first | exact HB.out | apply below_alloc | apply pw_below_drewN | apply below_drew1) | exact HB.out)) hb); clear HB; have HB := n0_; clear n0_; (try clear hb); (try clear hb2); (try clear hk); (try clear hi)))
      go_meet
      case rel => exact ⟨_, (!t142), (by first | rfl | (simp; done) | (simp [*]; done)), H', ⟨by first | omega | exact Nat.le_refl _⟩, ⟨by repeat (first | (with_reducible first | exact HB.out | apply below_alloc | apply pw_below_drewN | apply below_drew1) | exact HB.out)⟩⟩
  case rest =>
    clear HC4
    try clear c1
    try clear p2
    try clear c4
    try clear c5
    try clear c5b0
    try clear c5b1
    obtain ⟨kq, x26_3, rfl, HA, HJ3, HB⟩ := hcut
    cases kq with
    | zero => exact absurd HA.out (by simp [syzygylaw06_OctetShort.j0])
    | succ kj3 =>
      have H := HA.out
      clear HA
      simp only [syzygylaw06_OctetShort.j0] at H
      by_cases c8 : x26_3 = true
      · subst c8
        have H1 : ((syzygylaw06_shown.f kj3).bind fun t143 => (some t143)) = some true := by rw [if_pos rfl] at H; exact H
        clear H
        have H := H1
        clear H1
        replace H := Option.bind_eq_some_iff.mp H
        obtain ⟨t143, A90, H⟩ := H
        replace H : (some t143) = some true := H
        have A9 := Aside0.mk A90
        clear A90
        have HRT_ := Aside0.mk (Option.some.inj H)
        clear H
        go_wp2_with (first | ((with_reducible refine gate_callee (f := 16) rfl ?_); refine goesL_ (some 27) rfl rfl Try.func16 (by kernel_rfl) rfl #[] rfl (by (try simp only [List.map_toArray, List.map_cons, List.map_nil]); first | done | rfl | (simp only [List.length_drop, List.length_take]; rfl)) ?_; (with_reducible refine (syzygylaw06_shown.calls kj3  t143 _ A9.out).mono ?_); rintro e w10 ⟨rfl, hb⟩; refine ⟨_, rfl, ?_⟩; have n0_ := Aside0.mk (below_step (by repeat (first | (with_reducible first | exact HB.out | apply below_alloc | apply pw_below_drewN | apply below_drew1) | exact HB.out)) hb); clear HB; have HB := n0_; clear n0_; (try clear hb); (try clear hb2); (try clear hk); (try clear hi)))
        go_ret
        exact ⟨by first | rfl | (rw [HRT_.out]; rfl) | (simp only [HRT_.out]; done) | exact of_decide_eq_true HRT_.out | (have h_ := HRT_.out; simp at h_ ⊢; exact h_) | (have h_ := HRT_.out; simp at h_ ⊢; omega) | (have h_ := HRT_.out; simp [h_]; done) | (simp [errW_none, errW_some] <;> rfl) | (simp [*, errW_none, errW_some] <;> rfl), by repeat (first | (with_reducible first | exact HB.out | apply below_alloc | apply pw_below_drewN | apply below_drew1) | exact HB.out)⟩
      · replace c8 := Bool.eq_false_iff.mpr c8
        subst c8
        have H1 : ((octet_Put.f kj3 a0).bind fun t144 => ((octet_PutText.f kj3 a1).bind fun t145 => (if (t144.size : Int) = 0 then (none) else (if 0 ≤ (Int.tmod (wrap64 (a2)) (t144.size : Int)) then (if (Int.tmod (wrap64 (a2)) (t144.size : Int)) ≤ (t144.size : Int) then ((octet_Get.f (t144.extract 0 ((Int.tmod (wrap64 (a2)) (t144.size : Int)) : Int).toNat)).bind fun bt146 => (if (t145.size : Int) = 0 then (none) else (if 0 ≤ (Int.tmod (wrap64 (a2)) (t145.size : Int)) then (if (Int.tmod (wrap64 (a2)) (t145.size : Int)) ≤ (t145.size : Int) then ((octet_GetText.f (t145.extract 0 ((Int.tmod (wrap64 (a2)) (t145.size : Int)) : Int).toNat)).bind fun bt149 => ((syzygyref02_Of.f kj3 a0).bind fun t152 => ((octet_PutNat.f kj3 t152).bind fun bt155 => (if (bt155.1.size : Int) = 0 then (none) else (if 0 ≤ (Int.tmod (wrap64 (a2)) (bt155.1.size : Int)) then (if (Int.tmod (wrap64 (a2)) (bt155.1.size : Int)) ≤ (bt155.1.size : Int) then ((octet_GetNat.f kj3 (bt155.1.extract 0 ((Int.tmod (wrap64 (a2)) (bt155.1.size : Int)) : Int).toNat)).bind fun bt157 => (if bt146.2.2 = 60 then (if bt149.2.2 = 60 then (some (bt157.2.2 == 60)) else (some false)) else (some false))) else (none)) else (none)))))) else (none)) else (none)))) else (none)) else (none))))) = some true := by rw [if_neg (show ¬ (false = true) by decide)] at H; exact H
        clear H
        have H := H1
        clear H1
        replace H := Option.bind_eq_some_iff.mp H
        obtain ⟨t144, A110, H⟩ := H
        replace H : ((octet_PutText.f kj3 a1).bind fun t145 => (if (t144.size : Int) = 0 then (none) else (if 0 ≤ (Int.tmod (wrap64 (a2)) (t144.size : Int)) then (if (Int.tmod (wrap64 (a2)) (t144.size : Int)) ≤ (t144.size : Int) then ((octet_Get.f (t144.extract 0 ((Int.tmod (wrap64 (a2)) (t144.size : Int)) : Int).toNat)).bind fun bt146 => (if (t145.size : Int) = 0 then (none) else (if 0 ≤ (Int.tmod (wrap64 (a2)) (t145.size : Int)) then (if (Int.tmod (wrap64 (a2)) (t145.size : Int)) ≤ (t145.size : Int) then ((octet_GetText.f (t145.extract 0 ((Int.tmod (wrap64 (a2)) (t145.size : Int)) : Int).toNat)).bind fun bt149 => ((syzygyref02_Of.f kj3 a0).bind fun t152 => ((octet_PutNat.f kj3 t152).bind fun bt155 => (if (bt155.1.size : Int) = 0 then (none) else (if 0 ≤ (Int.tmod (wrap64 (a2)) (bt155.1.size : Int)) then (if (Int.tmod (wrap64 (a2)) (bt155.1.size : Int)) ≤ (bt155.1.size : Int) then ((octet_GetNat.f kj3 (bt155.1.extract 0 ((Int.tmod (wrap64 (a2)) (bt155.1.size : Int)) : Int).toNat)).bind fun bt157 => (if bt146.2.2 = 60 then (if bt149.2.2 = 60 then (some (bt157.2.2 == 60)) else (some false)) else (some false))) else (none)) else (none)))))) else (none)) else (none)))) else (none)) else (none)))) = some true := H
        have A11 := Aside0.mk A110
        clear A110
        replace H := Option.bind_eq_some_iff.mp H
        obtain ⟨t145, A120, H⟩ := H
        replace H : (if (t144.size : Int) = 0 then (none) else (if 0 ≤ (Int.tmod (wrap64 (a2)) (t144.size : Int)) then (if (Int.tmod (wrap64 (a2)) (t144.size : Int)) ≤ (t144.size : Int) then ((octet_Get.f (t144.extract 0 ((Int.tmod (wrap64 (a2)) (t144.size : Int)) : Int).toNat)).bind fun bt146 => (if (t145.size : Int) = 0 then (none) else (if 0 ≤ (Int.tmod (wrap64 (a2)) (t145.size : Int)) then (if (Int.tmod (wrap64 (a2)) (t145.size : Int)) ≤ (t145.size : Int) then ((octet_GetText.f (t145.extract 0 ((Int.tmod (wrap64 (a2)) (t145.size : Int)) : Int).toNat)).bind fun bt149 => ((syzygyref02_Of.f kj3 a0).bind fun t152 => ((octet_PutNat.f kj3 t152).bind fun bt155 => (if (bt155.1.size : Int) = 0 then (none) else (if 0 ≤ (Int.tmod (wrap64 (a2)) (bt155.1.size : Int)) then (if (Int.tmod (wrap64 (a2)) (bt155.1.size : Int)) ≤ (bt155.1.size : Int) then ((octet_GetNat.f kj3 (bt155.1.extract 0 ((Int.tmod (wrap64 (a2)) (bt155.1.size : Int)) : Int).toNat)).bind fun bt157 => (if bt146.2.2 = 60 then (if bt149.2.2 = 60 then (some (bt157.2.2 == 60)) else (some false)) else (some false))) else (none)) else (none)))))) else (none)) else (none)))) else (none)) else (none))) = some true := H
        have A12 := Aside0.mk A120
        clear A120
        by_cases c13 : (t144.size : Int) = 0
        · rw [if_pos c13] at H
          exact absurd H (by simp)
        · rw [if_neg c13] at H
          have c13b0 : ((t144.size : Int) == 0) = false := beq_eq_false_iff_ne.mpr c13
          have c13b1 : ((t144.size : Int) != 0) = true := bne_iff_ne.mpr c13
          obtain ⟨ji14, hji14⟩ : ∃ j_ : Int, (Int.tmod (wrap64 (a2)) (t144.size : Int)) = j_ := ⟨_, rfl⟩
          replace H : (if 0 ≤ (ji14) then (if (ji14) ≤ (t144.size : Int) then ((octet_Get.f (t144.extract 0 ((ji14) : Int).toNat)).bind fun bt146 => (if (t145.size : Int) = 0 then (none) else (if 0 ≤ (Int.tmod (wrap64 (a2)) (t145.size : Int)) then (if (Int.tmod (wrap64 (a2)) (t145.size : Int)) ≤ (t145.size : Int) then ((octet_GetText.f (t145.extract 0 ((Int.tmod (wrap64 (a2)) (t145.size : Int)) : Int).toNat)).bind fun bt149 => ((syzygyref02_Of.f kj3 a0).bind fun t152 => ((octet_PutNat.f kj3 t152).bind fun bt155 => (if (bt155.1.size : Int) = 0 then (none) else (if 0 ≤ (Int.tmod (wrap64 (a2)) (bt155.1.size : Int)) then (if (Int.tmod (wrap64 (a2)) (bt155.1.size : Int)) ≤ (bt155.1.size : Int) then ((octet_GetNat.f kj3 (bt155.1.extract 0 ((Int.tmod (wrap64 (a2)) (bt155.1.size : Int)) : Int).toNat)).bind fun bt157 => (if bt146.2.2 = 60 then (if bt149.2.2 = 60 then (some (bt157.2.2 == 60)) else (some false)) else (some false))) else (none)) else (none)))))) else (none)) else (none)))) else (none)) else (none)) = some true := by first | (rw [hji14] at H; exact H) | (simp only [hji14] at H ⊢; exact H)
          (try rw [hji14] at A11)
          (try rw [hji14] at A12)
          by_cases c15 : 0 ≤ (ji14)
          · rw [if_pos c15] at H
            have c15b0 := eq_true c15
            have c15b1 : decide (0 ≤ (ji14)) = true := decide_eq_true c15
            clear c15
            by_cases c16 : (ji14) ≤ (t144.size : Int)
            · rw [if_pos c16] at H
              have c16b0 := eq_true c16
              have c16b1 : decide ((ji14) ≤ (t144.size : Int)) = true := decide_eq_true c16
              clear c16
              replace H := Option.bind_eq_some_iff.mp H
              obtain ⟨⟨t146, t147, t148⟩, A170, H⟩ := H
              replace H : (if (t145.size : Int) = 0 then (none) else (if 0 ≤ (Int.tmod (wrap64 (a2)) (t145.size : Int)) then (if (Int.tmod (wrap64 (a2)) (t145.size : Int)) ≤ (t145.size : Int) then ((octet_GetText.f (t145.extract 0 ((Int.tmod (wrap64 (a2)) (t145.size : Int)) : Int).toNat)).bind fun bt149 => ((syzygyref02_Of.f kj3 a0).bind fun t152 => ((octet_PutNat.f kj3 t152).bind fun bt155 => (if (bt155.1.size : Int) = 0 then (none) else (if 0 ≤ (Int.tmod (wrap64 (a2)) (bt155.1.size : Int)) then (if (Int.tmod (wrap64 (a2)) (bt155.1.size : Int)) ≤ (bt155.1.size : Int) then ((octet_GetNat.f kj3 (bt155.1.extract 0 ((Int.tmod (wrap64 (a2)) (bt155.1.size : Int)) : Int).toNat)).bind fun bt157 => (if t148 = 60 then (if bt149.2.2 = 60 then (some (bt157.2.2 == 60)) else (some false)) else (some false))) else (none)) else (none)))))) else (none)) else (none))) = some true := H
              have A17 := Aside0.mk A170
              clear A170
              by_cases c18 : (t145.size : Int) = 0
              · rw [if_pos c18] at H
                exact absurd H (by simp)
              · rw [if_neg c18] at H
                have c18b0 : ((t145.size : Int) == 0) = false := beq_eq_false_iff_ne.mpr c18
                have c18b1 : ((t145.size : Int) != 0) = true := bne_iff_ne.mpr c18
                obtain ⟨ji19, hji19⟩ : ∃ j_ : Int, (Int.tmod (wrap64 (a2)) (t145.size : Int)) = j_ := ⟨_, rfl⟩
                replace H : (if 0 ≤ (ji19) then (if (ji19) ≤ (t145.size : Int) then ((octet_GetText.f (t145.extract 0 ((ji19) : Int).toNat)).bind fun bt149 => ((syzygyref02_Of.f kj3 a0).bind fun t152 => ((octet_PutNat.f kj3 t152).bind fun bt155 => (if (bt155.1.size : Int) = 0 then (none) else (if 0 ≤ (Int.tmod (wrap64 (a2)) (bt155.1.size : Int)) then (if (Int.tmod (wrap64 (a2)) (bt155.1.size : Int)) ≤ (bt155.1.size : Int) then ((octet_GetNat.f kj3 (bt155.1.extract 0 ((Int.tmod (wrap64 (a2)) (bt155.1.size : Int)) : Int).toNat)).bind fun bt157 => (if t148 = 60 then (if bt149.2.2 = 60 then (some (bt157.2.2 == 60)) else (some false)) else (some false))) else (none)) else (none)))))) else (none)) else (none)) = some true := by first | (rw [hji19] at H; exact H) | (simp only [hji19] at H ⊢; exact H)
                (try rw [hji19] at A11)
                (try rw [hji19] at A12)
                (try rw [hji19] at A17)
                by_cases c20 : 0 ≤ (ji19)
                · rw [if_pos c20] at H
                  have c20b0 := eq_true c20
                  have c20b1 : decide (0 ≤ (ji19)) = true := decide_eq_true c20
                  clear c20
                  by_cases c21 : (ji19) ≤ (t145.size : Int)
                  · rw [if_pos c21] at H
                    have c21b0 := eq_true c21
                    have c21b1 : decide ((ji19) ≤ (t145.size : Int)) = true := decide_eq_true c21
                    clear c21
                    replace H := Option.bind_eq_some_iff.mp H
                    obtain ⟨⟨t149, t150, t151⟩, A220, H⟩ := H
                    replace H : ((syzygyref02_Of.f kj3 a0).bind fun t152 => ((octet_PutNat.f kj3 t152).bind fun bt155 => (if (bt155.1.size : Int) = 0 then (none) else (if 0 ≤ (Int.tmod (wrap64 (a2)) (bt155.1.size : Int)) then (if (Int.tmod (wrap64 (a2)) (bt155.1.size : Int)) ≤ (bt155.1.size : Int) then ((octet_GetNat.f kj3 (bt155.1.extract 0 ((Int.tmod (wrap64 (a2)) (bt155.1.size : Int)) : Int).toNat)).bind fun bt157 => (if t148 = 60 then (if t151 = 60 then (some (bt157.2.2 == 60)) else (some false)) else (some false))) else (none)) else (none))))) = some true := H
                    have A22 := Aside0.mk A220
                    clear A220
                    replace H := Option.bind_eq_some_iff.mp H
                    obtain ⟨t152, A230, H⟩ := H
                    replace H : ((octet_PutNat.f kj3 t152).bind fun bt155 => (if (bt155.1.size : Int) = 0 then (none) else (if 0 ≤ (Int.tmod (wrap64 (a2)) (bt155.1.size : Int)) then (if (Int.tmod (wrap64 (a2)) (bt155.1.size : Int)) ≤ (bt155.1.size : Int) then ((octet_GetNat.f kj3 (bt155.1.extract 0 ((Int.tmod (wrap64 (a2)) (bt155.1.size : Int)) : Int).toNat)).bind fun bt157 => (if t148 = 60 then (if t151 = 60 then (some (bt157.2.2 == 60)) else (some false)) else (some false))) else (none)) else (none)))) = some true := H
                    have A23 := Aside0.mk A230
                    clear A230
                    replace H := Option.bind_eq_some_iff.mp H
                    obtain ⟨⟨t155, t156⟩, A240, H⟩ := H
                    replace H : (if (t155.size : Int) = 0 then (none) else (if 0 ≤ (Int.tmod (wrap64 (a2)) (t155.size : Int)) then (if (Int.tmod (wrap64 (a2)) (t155.size : Int)) ≤ (t155.size : Int) then ((octet_GetNat.f kj3 (t155.extract 0 ((Int.tmod (wrap64 (a2)) (t155.size : Int)) : Int).toNat)).bind fun bt157 => (if t148 = 60 then (if t151 = 60 then (some (bt157.2.2 == 60)) else (some false)) else (some false))) else (none)) else (none))) = some true := H
                    have A24 := Aside0.mk A240
                    clear A240
                    by_cases c25 : (t155.size : Int) = 0
                    · rw [if_pos c25] at H
                      exact absurd H (by simp)
                    · rw [if_neg c25] at H
                      have c25b0 : ((t155.size : Int) == 0) = false := beq_eq_false_iff_ne.mpr c25
                      have c25b1 : ((t155.size : Int) != 0) = true := bne_iff_ne.mpr c25
                      obtain ⟨ji26, hji26⟩ : ∃ j_ : Int, (Int.tmod (wrap64 (a2)) (t155.size : Int)) = j_ := ⟨_, rfl⟩
                      replace H : (if 0 ≤ (ji26) then (if (ji26) ≤ (t155.size : Int) then ((octet_GetNat.f kj3 (t155.extract 0 ((ji26) : Int).toNat)).bind fun bt157 => (if t148 = 60 then (if t151 = 60 then (some (bt157.2.2 == 60)) else (some false)) else (some false))) else (none)) else (none)) = some true := by first | (rw [hji26] at H; exact H) | (simp only [hji26] at H ⊢; exact H)
                      (try rw [hji26] at A11)
                      (try rw [hji26] at A12)
                      (try rw [hji26] at A17)
                      (try rw [hji26] at A22)
                      (try rw [hji26] at A23)
                      (try rw [hji26] at A24)
                      by_cases c27 : 0 ≤ (ji26)
                      · rw [if_pos c27] at H
                        have c27b0 := eq_true c27
                        have c27b1 : decide (0 ≤ (ji26)) = true := decide_eq_true c27
                        clear c27
                        by_cases c28 : (ji26) ≤ (t155.size : Int)
                        · rw [if_pos c28] at H
                          have c28b0 := eq_true c28
                          have c28b1 : decide ((ji26) ≤ (t155.size : Int)) = true := decide_eq_true c28
                          clear c28
                          replace H := Option.bind_eq_some_iff.mp H
                          obtain ⟨⟨t157, t158, t159⟩, A290, H⟩ := H
                          replace H : (if t148 = 60 then (if t151 = 60 then (some (t159 == 60)) else (some false)) else (some false)) = some true := H
                          have A29 := Aside0.mk A290
                          clear A290
                          by_cases c30 : t148 = 60
                          · rw [if_pos c30] at H
                            have c30b0 : (t148 == 60) = true := beq_iff_eq.mpr c30
                            have c30b1 : (t148 != 60) = false := bne_eq_false_iff_eq.mpr c30
                            clear c30
                            by_cases c31 : t151 = 60
                            · rw [if_pos c31] at H
                              have c31b0 : (t151 == 60) = true := beq_iff_eq.mpr c31
                              have c31b1 : (t151 != 60) = false := bne_eq_false_iff_eq.mpr c31
                              clear c31
                              have HRT_ := Aside0.mk (Option.some.inj H)
                              clear H
                              go_wp2_with (first | ((with_reducible refine gate_callee (f := 15) rfl ?_); refine goesL_ (some 29) rfl rfl Try.func15 (by kernel_rfl) rfl #[.int .u64 a0] rfl (by (try simp only [List.map_toArray, List.map_cons, List.map_nil]); first | done | rfl | (simp only [List.length_drop, List.length_take]; rfl)) ?_; (with_reducible refine (octet_Put.calls kj3 a0 t144 _ A11.out).mono ?_); rintro e w32 ⟨rfl, hb⟩; refine ⟨_, rfl, ?_⟩; have n0_ := Aside0.mk (below_step (by repeat (first | (with_reducible first | exact HB.out | apply below_alloc | apply pw_below_drewN | apply below_drew1) | exact HB.out)) hb); clear HB; have HB := n0_; clear n0_; (try clear hb); (try clear hb2); (try clear hk); (try clear hi)) | ((with_reducible refine gate_callee (f := 17) rfl ?_); refine goesL_ (some 31) rfl rfl Try.func17 (by kernel_rfl) rfl #[.string a1] rfl (by (try simp only [List.map_toArray, List.map_cons, List.map_nil]); first | done | rfl | (simp only [List.length_drop, List.length_take]; rfl)) ?_; (with_reducible refine (octet_PutText.calls kj3 a1 t145 _ A12.out).mono ?_); rintro e w33 ⟨rfl, hb⟩; refine ⟨_, rfl, ?_⟩; have n0_ := Aside0.mk (below_step (by repeat (first | (with_reducible first | exact HB.out | apply below_alloc | apply pw_below_drewN | apply below_drew1) | exact HB.out)) hb); clear HB; have HB := n0_; clear n0_; (try clear hb); (try clear hb2); (try clear hk); (try clear hi)) | ((with_reducible refine gate_callee (f := 18) rfl ?_); refine goesL_ (some 40) rfl rfl Try.func18 (by kernel_rfl) rfl #[.string (t144.extract 0 ((ji14) : Int).toNat)] rfl (by (try simp only [List.map_toArray, List.map_cons, List.map_nil]); first | done | (simp only [hji14]; rfl) | rfl | (simp only [List.length_drop, List.length_take]; rfl)) ?_; (with_reducible refine (octet_Get.calls (t144.extract 0 ((ji14) : Int).toNat) t146 t147 t148 _ A17.out).mono ?_); rintro e w34 ⟨rfl, hb⟩; refine ⟨_, rfl, ?_⟩; have n0_ := Aside0.mk (below_step (by repeat (first | (with_reducible first | exact HB.out | apply below_alloc | apply pw_below_drewN | apply below_drew1) | exact HB.out)) hb); clear HB; have HB := n0_; clear n0_; (try clear hb); (try clear hb2); (try clear hk); (try clear hi)) | ((with_reducible refine gate_callee (f := 19) rfl ?_); refine goesL_ (some 52) rfl rfl Try.func19 (by kernel_rfl) rfl #[.string (t145.extract 0 ((ji19) : Int).toNat)] rfl (by (try simp only [List.map_toArray, List.map_cons, List.map_nil]); first | done | (simp only [hji19]; rfl) | rfl | (simp only [List.length_drop, List.length_take]; rfl)) ?_; (with_reducible refine (octet_GetText.calls (t145.extract 0 ((ji19) : Int).toNat) t149 t150 t151 _ A22.out).mono ?_); rintro e w35 ⟨rfl, hb⟩; refine ⟨_, rfl, ?_⟩; have n0_ := Aside0.mk (below_step (by repeat (first | (with_reducible first | exact HB.out | apply below_alloc | apply pw_below_drewN | apply below_drew1) | exact HB.out)) hb); clear HB; have HB := n0_; clear n0_; (try clear hb); (try clear hb2); (try clear hk); (try clear hi)) | ((with_reducible refine gate_callee (f := 21) rfl ?_); refine goesL_ (some 58) rfl rfl Try.func21 (by kernel_rfl) rfl #[.int .u64 a0] rfl (by (try simp only [List.map_toArray, List.map_cons, List.map_nil]); first | done | rfl | (simp only [List.length_drop, List.length_take]; rfl)) ?_; (with_reducible refine (syzygyref02_Of.calls kj3 a0 t152 _ A23.out).mono ?_); rintro e w36 ⟨v153, rfl, ho0, hb⟩; refine ⟨_, rfl, ?_⟩; have n0_ := Aside0.mk (Kd.R_lower ho0 (below_size (by repeat (first | (with_reducible first | exact HB.out | apply below_alloc | apply pw_below_drewN | apply below_drew1) | exact HB.out)))); have n1_ := Aside0.mk (below_step (by repeat (first | (with_reducible first | exact HB.out | apply below_alloc | apply pw_below_drewN | apply below_drew1) | exact HB.out)) hb); clear HB; have HO154 := n0_; have HB := n1_; clear n0_ n1_; (try clear hb); (try clear hb2); (try clear hk); (try clear hi); (try clear ho0); obtain ⟨Ao37, co37, eo37⟩ := Kd.R_slice HO154.out; subst eo37) | ((with_reducible refine gate_callee (f := 20) rfl ?_); refine goesL_ (some 59) rfl rfl Try.func20 (by kernel_rfl) rfl #[.slice Ao37 t152.length co37] rfl (by (try simp only [List.map_toArray, List.map_cons, List.map_nil]); first | done | rfl | (simp only [List.length_drop, List.length_take]; rfl)) ?_; (with_reducible refine (octet_PutNat.calls kj3 _ _ t152 t155 t156 _ ?side1 ?side2 A24.out).mono ?_); (case side1 => repeat (first | exact (Kd.R_reads' HO154.out).2.2 | (with_reducible refine Kd.C_alloc ?_ _) | (with_reducible refine Kd.C_drewN ?_ _) | (with_reducible refine Kd.C_drew ?_))); (case side2 => exact (Kd.R_reads' HO154.out).2.1); rintro e w38 ⟨rfl, hb⟩; refine ⟨_, rfl, ?_⟩; have n0_ := Aside0.mk (Kd.R_below (by (with_reducible repeat (first | apply Kd.R_alloc | apply Kd.R_drewN | apply Kd.R_drew)); exact HO154.out) hb); have n1_ := Aside0.mk (below_step (by repeat (first | (with_reducible first | exact HB.out | apply below_alloc | apply pw_below_drewN | apply below_drew1) | exact HB.out)) hb); clear HO154; clear HB; have HO154 := n0_; have HB := n1_; clear n0_ n1_; (try clear hb); (try clear hb2); (try clear hk); (try clear hi)) | ((with_reducible refine gate_callee (f := 22) rfl ?_); refine goesL_ (some 70) rfl rfl Try.func22 (by kernel_rfl) rfl #[.string (t155.extract 0 ((ji26) : Int).toNat)] rfl (by (try simp only [List.map_toArray, List.map_cons, List.map_nil]); first | done | (simp only [hji26]; rfl) | rfl | (simp only [List.length_drop, List.length_take]; rfl)) ?_; (with_reducible refine (octet_GetNat.calls kj3 (t155.extract 0 ((ji26) : Int).toNat) t157 t158 t159 _ A29.out).mono ?_); rintro e w39 ⟨v160, rfl, ho0, hb⟩; refine ⟨_, rfl, ?_⟩; have n0_ := Aside0.mk (Kd.R_elder' (by (with_reducible repeat (first | apply Kd.R_alloc | apply Kd.R_drewN | apply Kd.R_drew)); exact HO154.out) (Kd.R_base ho0) hb); have n1_ := Aside0.mk (Kd.R_lower (Kd.R_new' ho0 (Kd.R_lt (by (with_reducible repeat (first | apply Kd.R_alloc | apply Kd.R_drewN | apply Kd.R_drew)); exact HO154.out))) (below_size (by repeat (first | (with_reducible first | exact HB.out | apply below_alloc | apply pw_below_drewN | apply below_drew1) | exact HB.out)))); have n2_ := Aside0.mk (below_step (by repeat (first | (with_reducible first | exact HB.out | apply below_alloc | apply pw_below_drewN | apply below_drew1) | exact HB.out)) hb); clear HO154; clear HB; have HO154 := n0_; have HO161 := n1_; have HB := n2_; clear n0_ n1_ n2_; (try clear hb); (try clear hb2); (try clear hk); (try clear hi); (try clear ho0)))
                              go_ret
                              exact ⟨by first | rfl | (rw [HRT_.out]; rfl) | (simp only [HRT_.out]; done) | exact of_decide_eq_true HRT_.out | (have h_ := HRT_.out; simp at h_ ⊢; exact h_) | (have h_ := HRT_.out; simp at h_ ⊢; omega) | (have h_ := HRT_.out; simp [h_]; done) | (simp [errW_none, errW_some] <;> rfl) | (simp only [← hji14, ← hji19, ← hji26]; first | rfl | (simp [errW_none, errW_some] <;> rfl)) | (simp [*, errW_none, errW_some] <;> rfl), by repeat (first | (with_reducible first | exact HB.out | apply below_alloc | apply pw_below_drewN | apply below_drew1) | exact HB.out)⟩
                            · rw [if_neg c31] at H
                              have c31b0 : (t151 == 60) = false := beq_eq_false_iff_ne.mpr c31
                              have c31b1 : (t151 != 60) = true := bne_iff_ne.mpr c31
                              exact absurd H (by simp)
                          · rw [if_neg c30] at H
                            have c30b0 : (t148 == 60) = false := beq_eq_false_iff_ne.mpr c30
                            have c30b1 : (t148 != 60) = true := bne_iff_ne.mpr c30
                            exact absurd H (by simp)
                        · rw [if_neg c28] at H
                          exact absurd H (by simp)
                      · rw [if_neg c27] at H
                        exact absurd H (by simp)
                  · rw [if_neg c21] at H
                    exact absurd H (by simp)
                · rw [if_neg c20] at H
                  exact absurd H (by simp)
            · rw [if_neg c16] at H
              exact absurd H (by simp)
          · rw [if_neg c15] at H
            exact absurd H (by simp)

/-- THE ONE PURE STATEMENT of syzygylaw06_OctetShort: yours. -/
def syzygylaw06_OctetShort.Pure : Prop := ∀ (a0 : Int) (a1 : ByteArray) (a2 : Int), (Lit.int .u64 a0).wf = true → a1.size ≤ 140737488351232 → (Lit.int .u16 a2).wf = true → ∃ k, syzygylaw06_OctetShort.f k a0 a1 a2 = some true
theorem syzygylaw06_OctetShort.walk (P : syzygylaw06_OctetShort.Pure) (a0 : Int) (a1 : ByteArray) (a2 : Int) (w : World) (w0 : (Lit.int .u64 a0).wf = true) (w1 : a1.size ≤ 140737488351232) (w2 : (Lit.int .u16 a2).wf = true) :
    Calls Try.prog 4 #[.int .u64 a0, .string a1, .int .u16 a2] w fun e w' => e = .returned (.bool true) ∧ Below w.heap.size w w' := by
  obtain ⟨k, h⟩ := P a0 a1 a2 w0 w1 w2
  refine (syzygylaw06_OctetShort.calls k a0 a1 a2 w h).mono ?_
  rintro e w' ⟨rfl, hd⟩
  exact ⟨rfl, hd⟩

end Go.Proofs.Ytijgeonhbmgikaa.POOctetShort
