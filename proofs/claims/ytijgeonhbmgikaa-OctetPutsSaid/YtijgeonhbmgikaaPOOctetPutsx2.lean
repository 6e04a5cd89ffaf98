-- printed (pr.py)
import Derived.Test.YtijgeonhbmgikaaPOOctetPutsx0
import Derived.Test.YtijgeonhbmgikaaPOOctetPutsx1
namespace Go.Proofs.Ytijgeonhbmgikaa.POOctetPuts
open Go.RowKit Go.Proofs.YtijgeonhbmgikaaN Go.Proofs.YtijgeonhbmgikaaW.PrintWords Go.Proofs.YtijgeonhbmgikaaW.PrintLast Go.Proofs.YtijgeonhbmgikaaW.PrintMore
attribute [local go_sem] qE qC qP qO ze za qD qA
set_option maxHeartbeats 8000000
set_option maxRecDepth 100000
set_option linter.unusedVariables false
set_option linter.unusedSimpArgs false

/-! ### zw: function 18 -/
namespace zw
open Oct
theorem jFJ (p q : Addr) (x y : Value) (w : World) (hp : w.cell? p = some x) (hq : w.cell? q = some y) (fp : w.frozen? p = false) (fq : w.frozen? q = false) (hpq : p.block ≠ q.block) :
  Calls Try.prog 60 #[.pointer (some p), .pointer (some q)] w fun e w' => e = .returned (.tuple #[]) ∧ w' = (w.setCell p (.int .u64 0)).setCell q (.string { data := #[] }) := by
 have hq' : (w.setCell p (.int .u64 0)).cell? q = some y := by rw [World.cell?_setCell_other _ _ _ _ (fun e => hpq (by rw [e]))]; exact hq
 go_enter Try.func60, Try.ntmps60
 go_wp2
 go_end0
 exact ⟨rfl, rfl⟩
def jBG (s : ByteArray) (w : World) : World := (((w.alloc (.cells #[.int .u64 0] 22)).alloc (.cells #[.string { data := #[] }] 9)).alloc (.cells #[.int .i64 0] 28)).alloc (.cells #[.string s] 86)
theorem zV (w : World) (o : Obj) : (w.alloc o).heap.size = w.heap.size + 1 := Array.size_push _
theorem jFG (s : ByteArray) (w : World) : (jBG s w).heap[w.heap.size]? = some (.cells #[.int .u64 0] 22 (0, 0)) := zZ (zZ (zZ (jAG _ _) _) _) _
theorem jFF (s : ByteArray) (w : World) : (jBG s w).heap[w.heap.size + 1]? = some (.cells #[.string { data := #[] }] 9 (0, 0)) := by rw [← zV w (.cells #[.int .u64 0] 22)]; exact zZ (zZ (jAG _ _) _) _
theorem jFE (s : ByteArray) (w : World) : (jBG s w).heap[w.heap.size + 1 + 1]? = some (.cells #[.int .i64 0] 28 (0, 0)) := by rw [← zV w (.cells #[.int .u64 0] 22), ← zV _ (.cells #[.string { data := #[] }] 9)]; exact zZ (jAG _ _) _
theorem jFD (s : ByteArray) (w : World) : (jBG s w).heap[w.heap.size + 1 + 1 + 1]? = some (.cells #[.string s] 86 (0, 0)) := by rw [← zV w (.cells #[.int .u64 0] 22), ← zV _ (.cells #[.string { data := #[] }] 9), ← zV _ (.cells #[.int .i64 0] 28)]; exact jAG _ _
theorem jCb (s : ByteArray) (w : World) : (jBG s w).heap.size = w.heap.size + 1 + 1 + 1 + 1 := by unfold jBG; rw [zV, zV, zV, zV]
theorem jBv (s : ByteArray) (w : World) : Below w.heap.size w (jBG s w) :=
 vI (vI (vI (vI (Below.refl _ w) _) _) _) _
set_option maxHeartbeats 4000000 in
theorem jFm (s : ByteArray) (w : World) (c : Int) (hn : num s = .inl c) (hz : s.size ≤ 140737488351232) :
  Calls Try.prog 18 #[.string s] w fun e w' => e = .returned (.tuple #[.int .u64 0, .string { data := #[] }, .int .i64 c]) ∧ Below w.heap.size w w' := by
 have hmf : ∀ (fn : Fn) (first cap : Array Value) (w : World), (Instr.makeFunc fn first cap).run Try.prog w = .ok (.func fn first cap) w := fun _ _ _ _ => rfl
 have H0 := jA.mk (jFG s w)
 have H1 := jA.mk (jFF s w)
 have H2 := jA.mk (jFE s w)
 have H3 := jA.mk (jFD s w)
 have HW := jA.mk (jBv s w)
 have HZ := jA.mk (jCb s w)
 have HN := jA.mk (jAa (g := w.heap.size + 1 + 1 + 1) (w := jBG s w) hn)
 clear hn
 go_enter_defers Try.func18, Try.ntmps18
 go_wp2_with fail
 refine (show Calls Try.prog 61 _ (jBG s w) (jAn _ s (jBG s w)) from jEU _ s _ H3.out hz).mono ?_
 rw [HN.out]
 generalize jBG s w = W at H0 H1 H2 H3 HW HN HZ ⊢
 rintro e w1 ⟨rfl, hb⟩
 have C0 := jA.mk ((hb.block _ (by omega)).trans H0.out)
 have C1 := jA.mk ((hb.block _ (by omega)).trans H1.out)
 have C2 := jA.mk ((hb.block _ (by omega)).trans H2.out)
 have CB := jA.mk (HW.out.trans (hb.mono (by omega)))
 clear hb
 show bodyPostD Try.prog Try.f18 _ (Exit.panic _) _ _
 unfold bodyPostD pan
 refine leaves_cons (f := 59) (args := #[.pointer (some ⟨w.heap.size + 1 + 1, 0, none⟩), .func (.func 60) #[] #[.pointer (some ⟨w.heap.size, 0, none⟩), .pointer (some ⟨w.heap.size + 1, 0, none⟩)]]) (by simp) kr_ ?_
 have D0 := zl (p := ⟨w.heap.size + 1 + 1, 0, none⟩) C0.out (by simp; omega) (.int .i64 c)
 have D1 := zl (p := ⟨w.heap.size + 1 + 1, 0, none⟩) C1.out (by simp) (.int .i64 c)
 have DB := (CB.out.setCell (p := ⟨w.heap.size + 1 + 1, 0, none⟩) (by simp; omega) (.int .i64 c))
 have HU := jFJ ⟨w.heap.size, 0, none⟩ ⟨w.heap.size + 1, 0, none⟩ _ _ _ ((ji D0 0).trans rfl) ((ji D1 0).trans rfl) (jo D0 0) (jo D1 0) (by simp)
 have DU := (DB.setCell (p := ⟨w.heap.size, 0, none⟩) (by simp) (.int .u64 0)).setCell (p := ⟨w.heap.size + 1, 0, none⟩) (by simp) (.string { data := #[] })
 have E2 := zl (p := ⟨w.heap.size + 1, 0, none⟩) (zl (p := ⟨w.heap.size, 0, none⟩) (qx (cs' := #[.int .i64 c]) C2.out 0 (.int .i64 c) rfl) (by simp; omega) (.int .u64 0)) (by simp) (.string { data := #[] })
 have E0 := zl (p := ⟨w.heap.size + 1, 0, none⟩) (qx (cs' := #[.int .u64 0]) D0 0 (.int .u64 0) rfl) (by simp) (.string { data := #[] })
 have E1 := qx (cs' := #[.string { data := #[] }]) (zl (p := ⟨w.heap.size, 0, none⟩) D1 (by simp) (.int .u64 0)) 0 (.string { data := #[] }) rfl
 refine (jDj ⟨w.heap.size + 1 + 1, 0, none⟩ 0 c 60 Try.f60 _ [] w1 _ ((ji C2.out 0).trans rfl) (jo C2.out 0) (fun _ _ => kr_) HU).mono ?_
 rintro e u' w'' ⟨rfl, rfl, rfl⟩
 have F2 := (ji E2 0).trans (show _ = some (.int .i64 c) from rfl)
 have F0 := (ji E0 0).trans (show _ = some (.int .u64 0) from rfl)
 have F1 := (ji E1 0).trans (show _ = some (.string { data := #[] }) from rfl)
 clear E0 E1 E2 HU D0 D1 DB
 generalize ((w1.setCell ⟨w.heap.size + 1 + 1, 0, none⟩ (.int .i64 c)).setCell ⟨w.heap.size, 0, none⟩ (.int .u64 0)).setCell ⟨w.heap.size + 1, 0, none⟩ (.string { data := #[] }) = w3 at DU F0 F1 F2 ⊢
 simp [Leaves, settle, results, Try.results18, go_sem, F0, F1, F2]
 exact DU

set_option maxHeartbeats 4000000 in
theorem jEv (s : ByteArray) (w : World) (n : Int) (t : ByteArray) (hn : num s = .inr (n, t)) (hz : s.size ≤ 140737488351232) :
  Calls Try.prog 18 #[.string s] w fun e w' => e = .returned (.tuple #[.int .u64 n, .string t, .int .i64 0]) ∧ Below w.heap.size w w' := by
 have hmf : ∀ (fn : Fn) (first cap : Array Value) (w : World), (Instr.makeFunc fn first cap).run Try.prog w = .ok (.func fn first cap) w := fun _ _ _ _ => rfl
 have H0 := jA.mk (jFG s w)
 have H1 := jA.mk (jFF s w)
 have H2 := jA.mk (jFE s w)
 have H3 := jA.mk (jFD s w)
 have HW := jA.mk (jBv s w)
 have HZ := jA.mk (jCb s w)
 have HN := jA.mk (jAv (g := w.heap.size + 1 + 1 + 1) (w := jBG s w) hn)
 clear hn
 go_enter_defers Try.func18, Try.ntmps18
 go_wp2_with fail
 refine (show Calls Try.prog 61 _ (jBG s w) (jAn _ s (jBG s w)) from jEU _ s _ H3.out hz).mono ?_
 rw [HN.out]
 generalize jBG s w = W at H0 H1 H2 H3 HW HN HZ ⊢
 rintro e w1 ⟨rfl, hb, h3⟩
 clear HN
 have C0 := (hb.block _ (by omega)).trans H0.out
 have C1 := (hb.block _ (by omega)).trans H1.out
 have C2 := (hb.block _ (by omega)).trans H2.out
 have CB := HW.out.trans (hb.mono (by omega))
 have X3 := (ji h3 0).trans (show _ = some (.string t) from rfl)
 have X0 := (ji C0 0).trans (show _ = some (.int .u64 0) from rfl)
 have Z0 := jo C0 0
 have HZ0 := HZ
 clear hb HW H0 H1 H2 H3 HZ
 have CBB := jA.mk CB
 have D0 := jA.mk (qx (cs' := #[.int .u64 n]) C0 0 (.int .u64 n) rfl)
 have D1 := jA.mk (zl (p := ⟨w.heap.size, 0, none⟩) C1 (by simp) (.int .u64 n))
 have D2 := jA.mk (zl (p := ⟨w.heap.size, 0, none⟩) C2 (by simp; omega) (.int .u64 n))
 have D3 := jA.mk (zl (p := ⟨w.heap.size, 0, none⟩) h3 (by simp; omega) (.int .u64 n))
 have DB := jA.mk (CB.setCell (p := ⟨w.heap.size, 0, none⟩) (by simp) (.int .u64 n))
 clear C0 C1 C2 CB h3
 go_wp2
 generalize w1.setCell ⟨w.heap.size, 0, none⟩ (.int .u64 n) = v0 at D0 D1 D2 D3 DB ⊢
 refine jHi ?_
 refine jAi (n := 8) (S := fun w' => w'.heap[w.heap.size]? = some (.cells #[.int .u64 n] 22 (0, 0)) ∧ w'.heap[w.heap.size + 1]? = some (.cells #[.string { data := #[] }] 9 (0, 0)) ∧ w'.heap[w.heap.size + 1 + 1]? = some (.cells #[.int .i64 0] 28 (0, 0)) ∧ w'.heap[w.heap.size + 1 + 1 + 1]? = some (.cells #[.string t] 86 (0, 0)) ∧ Below w.heap.size w w') (ds := [6, 7]) #[false, false, false, false, false, false, false, false] kr_ rfl rfl ⟨zJ D0.out, zJ D1.out, zJ D2.out, zJ D3.out, zh DB.out⟩ (fun hHeld => ?_)
 generalize v0.drew = u0 at hHeld ⊢
 clear D0 D1 D2 D3 DB
 refine jBm (i := 0) (N := some 12) (v := ?_) (a' := ?_) (ba_ 8 1) rfl rfl kr_ (fun _ _ _ h => h) (Or.inl ⟨by rfl, ?_⟩) hHeld ?_ ?_
 rotate_left
 ·
  rintro w' ⟨s0_, s1_, s2_, s3_, s4_⟩
  have hc := (ji s0_ 0).trans (show _ = some (.int .u64 n) from rfl)
  go_simp
  with_reducible rfl
 rotate_left
 ·
  simp only [Act.put, ss_, vY, zQ]
  rfl
 refine pu_ 1 (some 13) (ba_ 8 3) kr_ ?_
 refine pu_ 2 (some 14) (ba_ 8 7) kr_ ?_
 refine pu_ 3 (some 15) (ba_ 8 15) kr_ ?_
 refine jBm (i := 4) (N := some 16) (v := ?_) (a' := ?_) (ba_ 8 31) rfl rfl kr_ (fun _ _ _ h => h) (Or.inl ⟨by rfl, ?_⟩) hHeld ?_ ?_
 rotate_left
 ·
  rintro w' ⟨s0_, s1_, s2_, s3_, s4_⟩
  have hc := (ji s3_ 0).trans (show _ = some (.string t) from rfl)
  go_simp
  with_reducible rfl
 rotate_left
 ·
  simp only [Act.put, ss_, vY, zQ]
  rfl
 obtain ⟨s0_, s1_, s2_, s3_, s4_⟩ := hHeld
 refine one_ (i := 5) (N := none) (ba_ 8 63) rfl rfl kr_ (by decide) (fun K hK => ?_)
 have hc := (ji s0_ 0).trans (show _ = some (.int .u64 n) from rfl)
 have hf := jo s0_ 0
 refine jCu (w1 := ?_) (by rfl) rfl ?_ ?_
 rotate_left
 ·
  go_simp
  rfl
 refine hK.out _ _ ⟨qx s0_ 0 (.int .u64 n) rfl, zl (p := ⟨w.heap.size, 0, none⟩) s1_ (by simp) (.int .u64 n), zl (p := ⟨w.heap.size, 0, none⟩) s2_ (by simp; omega) (.int .u64 n), zl (p := ⟨w.heap.size, 0, none⟩) s3_ (by simp; omega) (.int .u64 n), s4_.setCell (p := ⟨w.heap.size, 0, none⟩) (by simp) (.int .u64 n)⟩ (fun hHeld => ?_)
 clear hK K
 obtain ⟨s0_, s1_, s2_, s3_, s4_⟩ := hHeld
 refine jCy (i := 6) (N := none) (ba_ 8 127) rfl rfl kr_ (by decide) (fun K hK => ?_)
 have hc := (ji s1_ 0).trans (show _ = some (.string { data := #[] }) from rfl)
 have hf := jo s1_ 0
 refine jCu (w1 := ?_) (by rfl) rfl ?_ ?_
 rotate_left
 ·
  go_simp
  rfl
 refine hK.out _ _ ?_
 clear hK K
 have e0 := zl (p := ⟨w.heap.size + 1, 0, none⟩) s0_ (by simp) (.string t)
 have e1 := qx (cs' := #[.string t]) s1_ 0 (.string t) rfl
 have e2 := zl (p := ⟨w.heap.size + 1, 0, none⟩) s2_ (by simp) (.string t)
 have e4 := s4_.setCell (p := ⟨w.heap.size + 1, 0, none⟩) (by simp) (.string t)
 have c2 := (ji s2_ 0).trans (show _ = some (.int .i64 0) from rfl)
 have z2 := jo s2_ 0
 clear s0_ s1_ s2_ s3_ s4_
 refine jCy (i := 7) (N := none) (ba_ 8 255) rfl rfl kr_ (by decide) (fun K hK => ?_)
 have hc := (ji e2 0).trans (show _ = some (.int .i64 0) from rfl)
 have hf := jo e2 0
 refine jCu (w1 := ?_) (by rfl) rfl ?_ ?_
 rotate_left
 ·
  go_simp
  rfl
 refine hK.out _ _ ?_
 clear hK K
 have f0 := (ji (zl (p := ⟨w.heap.size + 1 + 1, 0, none⟩) e0 (by simp; omega) (.int .i64 0)) 0).trans (show _ = some (.int .u64 n) from rfl)
 have f1 := (ji (zl (p := ⟨w.heap.size + 1 + 1, 0, none⟩) e1 (by simp) (.int .i64 0)) 0).trans (show _ = some (.string t) from rfl)
 have f2 := (ji (qx (cs' := #[.int .i64 0]) e2 0 (.int .i64 0) rfl) 0).trans (show _ = some (.int .i64 0) from rfl)
 have f4 := e4.setCell (p := ⟨w.heap.size + 1 + 1, 0, none⟩) (by simp; omega) (.int .i64 0)
 clear e0 e1 e2 e4
 refine jBc kr_ ?_
 refine jCZ ?_
 refine (‹∀ (a : Act) (w : World), Code.wp Try.prog Code.ret _ a w → _›) _ _ ?_
 clear hc hf c2 z2 X3 X0 Z0 CBB
 go_wp2
 generalize ((u0.setCell ⟨w.heap.size, 0, none⟩ (.int .u64 n)).setCell ⟨w.heap.size + 1, 0, none⟩ (.string t)).setCell ⟨w.heap.size + 1 + 1, 0, none⟩ (.int .i64 0) = w3 at f0 f1 f2 f4 ⊢
 unfold bodyPostD
 refine leaves_cons (f := 59) (args := #[.pointer (some ⟨w.heap.size + 1 + 1, 0, none⟩), .func (.func 60) #[] #[.pointer (some ⟨w.heap.size, 0, none⟩), .pointer (some ⟨w.heap.size + 1, 0, none⟩)]]) (by simp) kr_ ?_
 refine (jEG _ _ _).mono ?_
 rintro e u' w'' ⟨rfl, rfl, rfl⟩
 simp [Leaves, settle, results, Try.results18, go_sem, f0, f1, f2]
 exact f4
end zw

def zw.f (a0 : ByteArray) : Option (Int × ByteArray × Int) := if a0.size ≤ 140737488351232 then some (match Oct.num a0 with | .inl c => (0, { data := #[] }, c) | .inr (n, t) => (n, t, 0)) else none

theorem zw.calls (a0 : ByteArray) (r1 : Int) (r2 : ByteArray) (r3 : Int) (w : World) (h : zw.f a0 = some (r1, r2, r3)) :
  Calls Try.prog 18 #[.string a0] w fun e w' => e = .returned (.tuple #[.int .u64 r1, .string r2, .int .i64 r3]) ∧ Below w.heap.size w w' := by
 unfold zw.f at h
 by_cases hz : a0.size ≤ 140737488351232
 ·
  rw [if_pos hz] at h
  cases hn : Oct.num a0 with
  | inl c =>
   rw [hn] at h
   cases h
   exact zw.jFm a0 w _ hn hz
  | inr p =>
   obtain ⟨n, t⟩ := p
   rw [hn] at h
   cases h
   exact zw.jEv a0 w _ _ hn hz
 ·
  rw [if_neg hz] at h; cases h

/-! ### vC: function 16 -/
def vC.f (k : Nat)  : Option (Bool) := (vF.f k 258).bind fun t110 => (if t110.size + 1 ≤ 9223372036854775807 then ((zw.f (t110 ++ (⟨#[122]⟩ : ByteArray))).bind fun bt111 => (if bt111.1 = 258 then (if bt111.2.1.toList = ([122] : List UInt8) then (if bt111.2.2 = 0 then ((vF.f k 258).bind fun t114 => (some (t114.toList == ([2, 1, 2] : List UInt8)))) else (some false)) else (some false)) else (some false))) else (none))
theorem vC.mono : ∀ k, LeO (vC.f k ) (vC.f (k + 1) ) := by
 intro  k
 unfold vC.f
 repeat' first
   | (with_reducible exact vF.mono _ _)
   | (with_reducible exact LeO.refl _)
   | (with_reducible exact LeO.none _)
   | (with_reducible refine LeO.ite ?_ ?_)
   | (with_reducible refine LeO.bind ?_ (fun _ => ?_))
theorem vC.calls (k : Nat)  (r : Bool) (w : World) (h : vC.f k  = some r) :
  Calls Try.prog 16 #[] w fun e w' => e = .returned (.bool r) ∧ Below w.heap.size w w' := by
 have HB := jA.mk (Below.refl w.heap.size w)
 have H : ((vF.f k 258).bind fun t110 => (if t110.size + 1 ≤ 9223372036854775807 then ((zw.f (t110 ++ (⟨#[122]⟩ : ByteArray))).bind fun bt111 => (if bt111.1 = 258 then (if bt111.2.1.toList = ([122] : List UInt8) then (if bt111.2.2 = 0 then ((vF.f k 258).bind fun t114 => (some (t114.toList == ([2, 1, 2] : List UInt8)))) else (some false)) else (some false)) else (some false))) else (none))) = some r := h
 clear h
 replace H := ob_ H
 obtain ⟨t110, A10, H⟩ := H
 try dsimp only at H
 have A1 := jA.mk A10
 clear A10
 by_cases c2 : t110.size + 1 ≤ 9223372036854775807
 ·
  rw [if_pos c2] at H
  have c2b0 := eq_true c2
  have c2b1 := decide_eq_true c2
  try have c2b2 : (9223372036854775807 < t110.size + 1) = False := eq_false (Nat.not_lt.2 c2)
  replace H := ob_ H
  obtain ⟨⟨t111, t112, t113⟩, A30, H⟩ := H
  try dsimp only at H
  have A3 := jA.mk A30
  clear A30
  by_cases c4 : t111 = 258
  ·
   rw [if_pos c4] at H
   have c4b0 := beq_iff_eq.mpr c4
   have c4b1 := bne_eq_false_iff_eq.mpr c4
   clear c4
   by_cases c5 : t112.toList = ([122] : List UInt8)
   ·
    rw [if_pos c5] at H
    have c5b0 := beq_iff_eq.mpr c5
    have c5b1 := bne_eq_false_iff_eq.mpr c5
    clear c5
    by_cases c6 : t113 = 0
    ·
     rw [if_pos c6] at H
     have c6b0 := beq_iff_eq.mpr c6
     have c6b1 := bne_eq_false_iff_eq.mpr c6
     clear c6
     replace H := ob_ H
     obtain ⟨t114, A70, H⟩ := H
     try dsimp only at H
     have A7 := jA.mk A70
     clear A70
     obtain rfl := Option.some.inj H
     go_enter Try.func16, Try.ntmps16
     go_wp2_with (first | ((with_reducible refine jF (f := 15) rfl ?_); refine jg (some 5) rfl rfl Try.func15 kr_ rfl #[.int .u64 258] rfl mt_ ?_; (with_reducible refine (vF.calls k 258 t110 _ A1.out).mono ?_); rintro e w8 ⟨rfl, hb⟩; refine ⟨_, rfl, ?_⟩; replace HB := bs_ HB hb) | ((with_reducible refine jF (f := 18) rfl ?_); refine jg (some 7) rfl rfl Try.func18 kr_ rfl #[.string (t110 ++ (⟨#[122]⟩ : ByteArray))] rfl mt_ ?_; (with_reducible refine (zw.calls (t110 ++ (⟨#[122]⟩ : ByteArray)) t111 t112 t113 _ A3.out).mono ?_); rintro e w9 ⟨rfl, hb⟩; refine ⟨_, rfl, ?_⟩; replace HB := bs_ HB hb) | ((with_reducible refine jq (N := 22) rfl ?_); refine jv (by first | rfl | kernel_rfl) ?_; dsimp only; (with_reducible refine jF (f := 15) rfl ?_); refine jg (some 22) rfl rfl Try.func15 kr_ rfl #[.int .u64 258] rfl mt_ ?_; (with_reducible refine (vF.calls k 258 t114 _ A7.out).mono ?_); rintro e w10 ⟨rfl, hb⟩; refine ⟨_, rfl, ?_⟩; replace HB := bs_ HB hb))
     go_ret
     exact ⟨ew_, (bb_ HB)⟩
    ·
     rw [if_neg c6] at H
     have c6b0 := beq_eq_false_iff_ne.mpr c6
     have c6b1 := bne_iff_ne.mpr c6
     obtain rfl := Option.some.inj H
     go_enter Try.func16, Try.ntmps16
     go_wp2_with (first | ((with_reducible refine jF (f := 15) rfl ?_); refine jg (some 5) rfl rfl Try.func15 kr_ rfl #[.int .u64 258] rfl mt_ ?_; (with_reducible refine (vF.calls k 258 t110 _ A1.out).mono ?_); rintro e w11 ⟨rfl, hb⟩; refine ⟨_, rfl, ?_⟩; replace HB := bs_ HB hb) | ((with_reducible refine jF (f := 18) rfl ?_); refine jg (some 7) rfl rfl Try.func18 kr_ rfl #[.string (t110 ++ (⟨#[122]⟩ : ByteArray))] rfl mt_ ?_; (with_reducible refine (zw.calls (t110 ++ (⟨#[122]⟩ : ByteArray)) t111 t112 t113 _ A3.out).mono ?_); rintro e w12 ⟨rfl, hb⟩; refine ⟨_, rfl, ?_⟩; replace HB := bs_ HB hb))
     go_ret
     exact ⟨ew_, (bb_ HB)⟩
   ·
    rw [if_neg c5] at H
    have c5b0 := beq_eq_false_iff_ne.mpr c5
    have c5b1 := bne_iff_ne.mpr c5
    obtain rfl := Option.some.inj H
    go_enter Try.func16, Try.ntmps16
    go_wp2_with (first | ((with_reducible refine jF (f := 15) rfl ?_); refine jg (some 5) rfl rfl Try.func15 kr_ rfl #[.int .u64 258] rfl mt_ ?_; (with_reducible refine (vF.calls k 258 t110 _ A1.out).mono ?_); rintro e w13 ⟨rfl, hb⟩; refine ⟨_, rfl, ?_⟩; replace HB := bs_ HB hb) | ((with_reducible refine jF (f := 18) rfl ?_); refine jg (some 7) rfl rfl Try.func18 kr_ rfl #[.string (t110 ++ (⟨#[122]⟩ : ByteArray))] rfl mt_ ?_; (with_reducible refine (zw.calls (t110 ++ (⟨#[122]⟩ : ByteArray)) t111 t112 t113 _ A3.out).mono ?_); rintro e w14 ⟨rfl, hb⟩; refine ⟨_, rfl, ?_⟩; replace HB := bs_ HB hb))
    go_ret
    exact ⟨ew_, (bb_ HB)⟩
  ·
   rw [if_neg c4] at H
   have c4b0 := beq_eq_false_iff_ne.mpr c4
   have c4b1 := bne_iff_ne.mpr c4
   obtain rfl := Option.some.inj H
   go_enter Try.func16, Try.ntmps16
   go_wp2_with (first | ((with_reducible refine jF (f := 15) rfl ?_); refine jg (some 5) rfl rfl Try.func15 kr_ rfl #[.int .u64 258] rfl mt_ ?_; (with_reducible refine (vF.calls k 258 t110 _ A1.out).mono ?_); rintro e w15 ⟨rfl, hb⟩; refine ⟨_, rfl, ?_⟩; replace HB := bs_ HB hb) | ((with_reducible refine jF (f := 18) rfl ?_); refine jg (some 7) rfl rfl Try.func18 kr_ rfl #[.string (t110 ++ (⟨#[122]⟩ : ByteArray))] rfl mt_ ?_; (with_reducible refine (zw.calls (t110 ++ (⟨#[122]⟩ : ByteArray)) t111 t112 t113 _ A3.out).mono ?_); rintro e w16 ⟨rfl, hb⟩; refine ⟨_, rfl, ?_⟩; replace HB := bs_ HB hb))
   go_ret
   exact ⟨ew_, (bb_ HB)⟩
 ·
  rw [if_neg c2] at H
  exact absurd H (by simp)

/-! ### vk: function 17 -/
def vk.f (k : Nat) (a0 : ByteArray) : Option (ByteArray) := (vF.f k (a0.size : Int)).bind fun t115 => (if t115.size + a0.size ≤ 9223372036854775807 then (some (t115 ++ a0)) else (none))
theorem vk.mono : ∀ a0 k, LeO (vk.f k a0) (vk.f (k + 1) a0) := by
 intro a0 k
 unfold vk.f
 repeat' first
   | (with_reducible exact vF.mono _ _)
   | (with_reducible exact LeO.refl _)
   | (with_reducible exact LeO.none _)
   | (with_reducible refine LeO.ite ?_ ?_)
   | (with_reducible refine LeO.bind ?_ (fun _ => ?_))
theorem vk.calls (k : Nat) (a0 : ByteArray) (r : ByteArray) (w : World) (h : vk.f k a0 = some r) :
  Calls Try.prog 17 #[.string a0] w fun e w' => e = .returned (.string r) ∧ Below w.heap.size w w' := by
 have HB := jA.mk (Below.refl w.heap.size w)
 have H : ((vF.f k (a0.size : Int)).bind fun t115 => (if t115.size + a0.size ≤ 9223372036854775807 then (some (t115 ++ a0)) else (none))) = some r := h
 clear h
 replace H := ob_ H
 obtain ⟨t115, A20, H⟩ := H
 try dsimp only at H
 have A2 := jA.mk A20
 clear A20
 by_cases c3 : t115.size + a0.size ≤ 9223372036854775807
 ·
  rw [if_pos c3] at H
  have c3b0 := eq_true c3
  have c3b1 := decide_eq_true c3
  try have c3b2 : (9223372036854775807 < t115.size + a0.size) = False := eq_false (Nat.not_lt.2 c3)
  obtain rfl := Option.some.inj H
  go_enter Try.func17, Try.ntmps17
  go_wp2_with (first | ((with_reducible refine jF (f := 15) rfl ?_); refine jg (some 6) rfl rfl Try.func15 kr_ rfl #[.int .u64 (a0.size : Int)] rfl mt_ ?_; (with_reducible refine (vF.calls k (a0.size : Int) t115 _ A2.out).mono ?_); rintro e w4 ⟨rfl, hb⟩; refine ⟨_, rfl, ?_⟩; replace HB := bs_ HB hb))
  go_ret
  exact ⟨ew_, (bb_ HB)⟩
 ·
  rw [if_neg c3] at H
  exact absurd H (by simp)

/-! ### zP: function 64 -/
def zP.f (l0 : List Int) : Option (Bool) := if (l0.length : Int) ≤ 8 then (if (l0.length : Int) = 0 then (some true) else (if 0 ≤ (wrap64 ((l0.length : Int) - 1)) then (if (wrap64 ((l0.length : Int) - 1)) < (l0.length : Int) then (some ((rd l0 (wrap64 ((l0.length : Int) - 1))) != 0)) else (none)) else (none))) else (some false)
theorem zP.calls (A0 : Option Addr) (c0 : Nat) (l0 : List Int) (r : Bool) (w : World) (hr0 : Kd.C (Kd.int .u64) w A0 l0.length l0) (hc0 : l0.length ≤ c0) (h : zP.f l0 = some r) :
  Calls Try.prog 64 #[.slice A0 l0.length c0] w fun e w' => e = .returned (.bool r) ∧ zH w w' := by
 have HR0 := jA.mk hr0
 have HC0 := jA.mk hc0
 clear hr0 hc0
 have H : (if (l0.length : Int) ≤ 8 then (if (l0.length : Int) = 0 then (some true) else (if 0 ≤ (wrap64 ((l0.length : Int) - 1)) then (if (wrap64 ((l0.length : Int) - 1)) < (l0.length : Int) then (some ((rd l0 (wrap64 ((l0.length : Int) - 1))) != 0)) else (none)) else (none))) else (some false)) = some r := h
 clear h
 by_cases c2 : (l0.length : Int) ≤ 8
 ·
  rw [if_pos c2] at H
  have c2b0 := decide_eq_true c2
  have c2b1 : decide (l0.length ≤ 8) = true := decide_eq_true (by omega)
  clear c2
  by_cases c3 : (l0.length : Int) = 0
  ·
   rw [if_pos c3] at H
   have c3b0 := beq_iff_eq.mpr c3
   have c3b1 := bne_eq_false_iff_eq.mpr c3
   clear c3
   obtain rfl := Option.some.inj H
   go_enter Try.func64, Try.ntmps64
   go_wp2
   go_ret
   exact ⟨by first | rfl | (simp; done) | (simp [*]; done), by repeat (first | exact zH.refl _ | apply zH.step)⟩
  ·
   rw [if_neg c3] at H
   have c3b0 := beq_eq_false_iff_ne.mpr c3
   have c3b1 := bne_iff_ne.mpr c3
   have c3b2 : ¬ (l0 = []) := fun h_ => c3 (by rw [h_]; rfl)
   obtain ⟨ji4, hji4⟩ : ∃ j_ : Int, (wrap64 ((l0.length : Int) - 1)) = j_ := ⟨_, rfl⟩
   replace H : (if 0 ≤ (ji4) then (if (ji4) < (l0.length : Int) then (some ((rd l0 (ji4)) != 0)) else (none)) else (none)) = some r := by first | (rw [hji4] at H; exact H) | (simp only [hji4] at H ⊢; exact H)
   have hji4w : (IntKind.i64.wrap ((l0.length : Int) - 1)) = ji4 := (vY _).trans hji4
   by_cases c5 : 0 ≤ (ji4)
   ·
    rw [if_pos c5] at H
    have c5b0 := decide_eq_true c5
    clear c5
    by_cases c6 : (ji4) < (l0.length : Int)
    ·
     rw [if_pos c6] at H
     have c6b0 := decide_eq_true c6
     clear c6
     obtain rfl := Option.some.inj H
     have p116 : 0 ≤ ((ji4) : Int) := of_decide_eq_true am_
     have q116 : (ji4) < (l0.length : Int) := of_decide_eq_true am_
     obtain ⟨ad116, e116, hx116_0⟩ := Kd.vW HR0.out (ji4) p116 q116
     cases e116
     replace p116 := eq_true p116
     replace q116 := eq_true q116
     go_enter Try.func64, Try.ntmps64
     go_wp2
     go_ret
     exact ⟨by first | rfl | (simp; done) | (simp only [← hji4] <;> (first | rfl | simp)) | (simp [*]; done), by repeat (first | exact zH.refl _ | apply zH.step)⟩
    ·
     rw [if_neg c6] at H
     exact absurd H (by simp)
   ·
    rw [if_neg c5] at H
    exact absurd H (by simp)
 ·
  rw [if_neg c2] at H
  have c2b0 := decide_eq_false c2
  have c2b1 : decide (l0.length ≤ 8) = false := decide_eq_false (by omega)
  clear c2
  obtain rfl := Option.some.inj H
  go_enter Try.func64, Try.ntmps64
  go_wp2
  go_ret
  exact ⟨by first | rfl | (simp; done) | (simp [*]; done), by repeat (first | exact zH.refl _ | apply zH.step)⟩

-- NOT PRINTED: function 94 (api_Nat_uint64_1)

/-! ### api_Nat_uint64: function 65 -/


/-! ### jm: function 20 -/

namespace OctPut
open Go.Shelf
attribute [local go_sem] Oper.semAt_some
def upto {α : Type} (f : Nat → α) (k : Nat) : List α := (List.range k).map f
theorem jDK {α : Type} (f : Nat → α) (k : Nat) : upto f (k + 1) = upto f k ++ [f k] := by simp [upto, List.range_succ]
theorem jDo {α : Type} (f : Nat → α) (k : Nat) : (upto f k).length = k := by simp [upto]
/-- What lies below n₀ but block g stays. -/
def KpG (n₀ g : Nat) (W W' : World) : Prop := ∀ i, i < n₀ → i ≠ g → W'.heap[i]? = W.heap[i]?
theorem KpG.refl (n₀ g : Nat) (W : World) : KpG n₀ g W W := fun _ _ _ => rfl
theorem KpG.trans {n₀ g : Nat} {A B C : World} (h : KpG n₀ g A B) (k : KpG n₀ g B C) : KpG n₀ g A C := fun i hi hg => (k i hi hg).trans (h i hi hg)
theorem KpG.cell {n₀ g : Nat} {W W' : World} {p : Addr} (h : KpG n₀ g W W') (hp : p.block < n₀) (hg : p.block ≠ g) : W'.cell? p = W.cell? p := by
 unfold World.cell?; rw [h _ hp hg]
theorem KpG.of_below {n₀ g B : Nat} {W W' : World} (h : Below B W.drew W') (hB : n₀ ≤ B) : KpG n₀ g W W' := fun i hi _ => h.block i (by omega)
theorem KpG.put {n₀ g : Nat} {w : World} (hn : n₀ ≤ w.heap.size) (W : World) (l : Nat) (o o' : Obj) (hl : w.heap.size ≤ l) (h : W.heap[l]? = some o) (_ : o.isCells = false) (_ : o.isWalk = false) : KpG n₀ g W (W.putObj l o') := fun i hi _ =>
 (grownBy_putObj' W l o').block i (by have := (Array.getElem?_eq_some_iff.1 h).1; omega) (by simp; omega)
theorem KpG.set (n₀ g j : Nat) (W : World) (v : Value) : KpG n₀ g W (W.setCell ⟨g, j, none⟩ v) := fun i _ hg => Below.heap_setCell W ⟨g, j, none⟩ v i hg
def bk (zs : List Int) (j : Nat) : Int × Int := ((zs.length : Int) - 1 - j, zs[zs.length - 1 - j]?.getD 0)
set_option maxHeartbeats 2000000 in
theorem jHP (n : Nat) (hn : 1 ≤ n) (l Bs n₀ g b off cap : Nat) (zs : List Int) (hreach : zs.length * 8 ≤ 140737488351232) (hb : b < n₀ ∧ b ≠ g) (J Jx : List (Int × Int) → World → Prop)
  (hY : ∀ pre x W, J pre W → pre.length < zs.length → YieldAt Fence.wide (n - 1) Try.prog l #[.int .i64 x.1, .int .u64 x.2] W fun e W' =>
   (e = .returned (.bool true) ∧ J (pre ++ [x]) W' ∧ KpG n₀ g W W') ∨ (e = .returned (.bool false) ∧ Jx (pre ++ [x]) W'))
  (W : World) (hBsn : Bs < n₀ ∧ Bs ≠ g) (hBs : W.cell? ⟨Bs, 0, none⟩ = some (.slice (some ⟨b, off, none⟩) zs.length cap)) (hc : ∀ j, j < zs.length → W.cell? ⟨b, off + j, none⟩ = some (.int .u64 (zs[j]?.getD 0))) (h0 : J [] W) :
  CallsIn Fence.wide n Try.prog 94 #[.func (.yield l) #[] #[], .pointer (some ⟨Bs, 0, none⟩)] W fun e W' => (∃ v, e = .returned v) ∧
   ((∃ ys, ys = upto (bk zs) zs.length ∧ J ys W') ∨ (∃ pre, (∃ k, k ≤ zs.length ∧ pre = upto (bk zs) k) ∧ Jx pre W')) := by
 refine callsIn_of_wp Try.func94 rfl trivial ?_ rfl
 simp only [Try.ntmps94, List.size_toArray, List.length_cons, List.length_nil, Nat.reduceAdd, Nat.reduceSub, Array.replicate_succ, Array.replicate_zero, List.push_toArray, List.append_toArray, List.nil_append, List.cons_append]
 gi_wp2
 gi_loopw [3] (fun i wr => ∃ k : Nat, k ≤ zs.length ∧ i = .int .i64 ((zs.length : Int) - 1 - k) ∧ J (upto (bk zs) k) wr ∧ KpG n₀ g W wr)
  (fun i _ => (intOf i + 1).toNat)
 case atStart => exact ⟨0, Nat.zero_le _, by congr 1; omega, h0, KpG.refl _ _ _⟩
 case round =>
  obtain ⟨k, hk, hi, hJs, hnx⟩ := hrel
  have hBs' : wr.cell? ⟨Bs, 0, none⟩ = some (.slice (some ⟨b, off, none⟩) zs.length cap) := (hnx.cell (p := ⟨Bs, 0, none⟩) hBsn.1 hBsn.2).trans hBs
  by_cases hlt : k < zs.length
  ·
   obtain ⟨m, hm⟩ : ∃ m : Nat, m = zs.length - 1 - k := ⟨_, rfl⟩
   have hi' : u3 = .int .i64 (m : Int) := by rw [hi]; congr 1; omega
   have hbk : bk zs k = ((m : Int), zs[m]?.getD 0) := by unfold bk; rw [← hm]; congr 1; omega
   subst hi'
   clear hi
   have hcx : wr.cell? ⟨b, off + m, none⟩ = some (.int .u64 (zs[m]?.getD 0)) := (hnx.cell (p := ⟨b, off + m, none⟩) hb.1 hb.2).trans (hc m (by omega))
   have hml : m < zs.length := by omega
   have HM := jA.mk (show m + 1 + k = zs.length by omega)
   clear hm
   generalize zs[m]?.getD 0 = x at hbk hcx
   obtain ⟨fn, tmps, assign, body, hy, hR⟩ := hY _ ((m : Int), x) wr hJs (by rw [jDo]; exact hlt)
   dsimp only at hy
   gi_wp2
   refine hR.mono ?_
   rintro e W3 (⟨rfl, hJ3, hk3⟩ | ⟨rfl, hJx3⟩)
   ·
    gi_wp2
    go_roundw
    case rel => exact ⟨k + 1, by have := HM.out; omega, by have := HM.out; congr 1; omega, by rw [jDK, hbk]; exact hJ3, hnx.trans hk3⟩
    case measure => have := HM.out; simp [intOf] <;> omega
   ·
    gi_wp2
    refine bodyPost_ret (results_none rfl _ _ _) rfl ?_
    exact ⟨⟨_, rfl⟩, .inr ⟨_, ⟨k + 1, by have := HM.out; omega, by rw [jDK, hbk]⟩, hJx3⟩⟩
  ·
   obtain rfl : k = zs.length := by omega
   have hi' : u3 = .int .i64 (-1) := by rw [hi]; congr 1; omega
   subst hi'
   gi_wp2
   go_end0
   exact ⟨⟨_, rfl⟩, .inl ⟨_, rfl, hJs⟩⟩
set_option maxHeartbeats 1000000 in
theorem jGH (n : Nat) (l Bs c : Nat) (A : Option Addr) (J : List (Int × Int) → World → Prop) (W : World) (hBs : W.cell? ⟨Bs, 0, none⟩ = some (.slice A 0 c)) (h0 : J [] W) :
  CallsIn Fence.wide n Try.prog 94 #[.func (.yield l) #[] #[], .pointer (some ⟨Bs, 0, none⟩)] W fun e W' => (∃ v, e = .returned v) ∧ J [] W' := by
 refine callsIn_of_wp Try.func94 rfl trivial ?_ rfl
 simp only [Try.ntmps94, List.size_toArray, List.length_cons, List.length_nil, Nat.reduceAdd, Nat.reduceSub, Array.replicate_succ, Array.replicate_zero, List.push_toArray, List.append_toArray, List.nil_append, List.cons_append]
 gi_wp2
 gi_loopw [3] (fun i wr => i = .int .i64 (-1) ∧ J [] wr) (fun _ _ => 0)
 case atStart => exact ⟨rfl, h0⟩
 case round =>
  obtain ⟨rfl, hJs⟩ := hrel
  gi_wp2
  go_end0
  exact ⟨⟨_, rfl⟩, hJs⟩
set_option maxHeartbeats 1000000 in
theorem jIf (n : Nat) (a : Option Addr) (len cap : Nat) (w : World) :
  CallsIn Fence.wide n Try.prog 65 #[.slice a len cap] w fun e w' => e = .returned (.func (.func 94) #[] #[.pointer (some ⟨w.heap.size, 0, none⟩)]) ∧ w' = w.alloc (.cells #[.slice a len cap] 36) := by
 refine callsIn_of_wp Try.func65 rfl trivial ?_ rfl
 simp only [Try.ntmps65, List.size_toArray, List.length_cons, List.length_nil, Nat.reduceAdd, Nat.reduceSub, Array.replicate_succ, Array.replicate_zero, List.push_toArray, List.append_toArray, List.nil_append, List.cons_append]
 gi_wp2
 go_ret
 exact ⟨rfl, rfl⟩
theorem jEz (n : Nat) (hn : 1 ≤ n) (Bs n₀ g cap : Nat) (A : Option Addr) (zs : List Int) (hreach : zs.length * 8 ≤ 140737488351232) (w : World) (hBs : Bs < n₀ ∧ Bs ≠ g) (hn₀ : n₀ ≤ w.heap.size)
  (hc : w.cell? ⟨Bs, 0, none⟩ = some (.slice A zs.length cap)) (hI : zs = [] ∨ ∃ b off, A = some ⟨b, off, none⟩ ∧ (b < n₀ ∧ b ≠ g) ∧ ∀ j, j < zs.length → w.cell? ⟨b, off + j, none⟩ = some (.int .u64 (zs[j]?.getD 0))) :
  SeqStopsK Fence.wide n Try.prog 94 #[.pointer (some ⟨Bs, 0, none⟩)] (fun x : Int × Int => #[Value.int .i64 x.1, Value.int .u64 x.2]) (KpG n₀ g) (fun ys => ys = upto (bk zs) zs.length)
   (fun pre => ∃ k, k ≤ zs.length ∧ pre = upto (bk zs) k) zs.length w := fun l J Jx W hW _ _ hY h0 => by
 have hc' := (hW.cell (p := ⟨Bs, 0, none⟩) (by have := hBs.1; show Bs < _; omega)).trans hc
 rcases hI with rfl | ⟨b, off, rfl, hb, hcs⟩
 ·
  exact (jGH n l Bs cap A J W hc' h0).mono fun e W' ⟨he, hj⟩ => ⟨he, .inl ⟨_, rfl, hj⟩⟩
 ·
  exact jHP n hn l Bs n₀ g b off cap zs hreach hb J Jx hY W hBs hc' (fun j hj => (hW.cell (p := ⟨b, off + j, none⟩) (by have := hb.1; show b < _; omega)).trans (hcs j hj)) h0
def lows (n : Int) : Nat → List Int
 | 0 => []
 | i + 1 => n / 256 ^ i % 256 :: lows n i
theorem jAU (n : Int) : ∀ w, (lows n w).length = w
 | 0 => rfl
 | w + 1 => by rw [lows, List.length_cons, jAU n w]
theorem jBU (i : Nat) : (256 : Int) ^ i = 2 ^ (8 * i) := by rw [Int.pow_mul]; rfl
theorem jBq (n : Int) {i : Nat} (h : i ≤ 8) : shr .u64 n (8 * (i : Int)) = n / 256 ^ i := by
 unfold shr
 have e : min (Int.toNat (8 * (i : Int))) IntKind.u64.bits = 8 * i := by
  rw [show 8 * (i : Int) = ((8 * i : Nat) : Int) by omega, Int.toNat_natCast]
  exact Nat.min_eq_left (by show 8 * i ≤ 64; omega)
 rw [e, jBU]
theorem jCN {n : Int} {w : Nat} (hw : w ≤ 8) : ∀ (d i k : Nat), i + d = w → d < k → jk.l0 k n w (List.replicate d 0 ++ lows n i) w i = some (strOfNums (lows n w))
 | 0, i, k, hi, hk => by
  obtain ⟨k, rfl⟩ : ∃ j, k = j + 1 := ⟨k - 1, by omega⟩
  have : ¬ ((i : Int) < (w : Int)) := by omega
  rw [jk.l0, if_neg this]
  obtain rfl : i = w := by omega
  rfl
 | d + 1, i, k, hi, hk => by
  obtain ⟨k, rfl⟩ : ∃ j, k = j + 1 := ⟨k - 1, by omega⟩
  have e1 : wrap64 (8 * (i : Int)) = 8 * (i : Int) := by unfold wrap64; omega
  have e2 : wrap64 (wrap64 ((w : Int) - 1) - (i : Int)) = (d : Int) := by unfold wrap64; omega
  have e3 : wrap64 ((i : Int) + 1) = ((i + 1 : Nat) : Int) := by unfold wrap64; omega
  have c1 : (i : Int) < (w : Int) := by omega
  have c4 : (d : Int) < ((List.replicate (d + 1) (0 : Int) ++ lows n i).length : Int) := by
   rw [List.length_append, List.length_replicate]; omega
  have hs : (List.replicate (d + 1) (0 : Int) ++ lows n i).set d (n / 256 ^ i % 256) = List.replicate d 0 ++ lows n (i + 1) := by
   rw [List.replicate_succ', List.append_assoc, List.set_append_right _ _ (by rw [List.length_replicate]; exact Nat.le_refl _), List.length_replicate, Nat.sub_self]
   rfl
  rw [jk.l0, e1, e2, e3, if_pos c1, if_pos (by omega), if_pos (by omega), if_pos c4, jBq n (by omega), Int.toNat_natCast, hs]
  exact jCN hw d (i + 1) k (by omega) (by omega)
theorem jJd (n : Int) : jk.f 9 n 8 = some (strOfNums (lows n 8)) := by
 unfold jk.f
 rw [if_pos (by omega), if_pos (by omega), Option.bind_some]
 exact jCN (n := n) (w := 8) (Nat.le_refl _) 8 0 9 (by omega) (by omega)
/-- s, and the bytes of l's numbers behind it. -/
def puts (s : ByteArray) (l : List Int) : ByteArray := l.foldl (fun s x => s ++ strOfNums (lows x 8)) s
theorem jFW (s : ByteArray) (l : List Int) (x : Int) : puts s (l ++ [x]) = puts s l ++ strOfNums (lows x 8) := by simp [puts]
theorem jCE : ∀ (l : List Int) (s : ByteArray), (puts s l).size = s.size + 8 * l.length
 | [], _ => rfl
 | x :: l, s => by
  show (puts (s ++ strOfNums (lows x 8)) l).size = _
  rw [jCE l, ByteArray.size_append, strOfNums_size, jAU, List.length_cons]; omega
theorem jHn (zs : List Int) : (upto (bk zs) zs.length).map Prod.snd = zs.reverse := by
 apply List.ext_getElem
 ·
  simp [upto]
 ·
  intro i h1 h2
  simp [upto] at h1
  have h3 : zs.length - 1 - i < zs.length := by omega
  simp [upto, bk, h3]
theorem row_of {w : World} {A : Option Addr} {n : Nat} {xs : List Int} (h : Kd.C (Kd.int .u64) w A n xs) (hp : 0 < n) : ∃ b off, A = some ⟨b, off, none⟩ ∧ b < w.heap.size ∧ ∀ j, j < n → w.cell? ⟨b, off + j, none⟩ = some (.int .u64 (xs[j]?.getD 0)) := by
 obtain ⟨ad, e, hc⟩ := h.2.2 hp
 have hl := h.1
 have key : ∀ j, j < n → w.cell? (ad.add j) = some (.int .u64 (xs[j]?.getD 0)) := fun j hj => by
  obtain ⟨c, h1, h2, h3⟩ := hc j (xs[j]'(by omega)) (List.getElem?_eq_getElem (by omega))
  have h2' : c = [.int .u64 (xs[j]'(by omega))] := h2
  have := h3 0 (.int .u64 (xs[j]'(by omega))) (by rw [h2']; rfl)
  rw [List.getElem?_eq_getElem (by omega)]
  have e1 : j * (Kd.int .u64).sz + 0 = j := by show j * 1 + 0 = j; omega
  rw [e1] at this
  exact this
 obtain ⟨b, off, spot⟩ := ad
 have k0 := key 0 hp
 have hs : spot = none := by
  cases spot with
  | none => rfl
  | some x => simp [Addr.add, World.cell?] at k0; split at k0 <;> simp at k0
 subst hs
 refine ⟨b, off, e, World.block_lt_of_cell? w _ k0, fun j hj => ?_⟩
 have := key j hj
 by_cases h0 : j = 0
 ·
  subst h0; exact this
 ·
  simpa [Addr.add, h0] using this
set_option maxHeartbeats 4000000 in
theorem jKS (k : Nat) (A : Option Addr) (c : Nat) (l0 : List Int) (s0 : ByteArray) (w : World) (hr0 : Kd.C (Kd.int .u64) w A l0.length l0) (hc0 : l0.length ≤ c) (hm : zP.f l0 = some true) (hp : vF.f k (l0.length : Int) = some s0) (hs : s0.size ≤ 1000) (hl : l0.length ≤ 8) :
  Calls Try.prog 20 #[.slice A l0.length c] w fun e w' => e = .returned (.tuple #[.string (puts s0 l0.reverse), .int .i64 0]) ∧ Below w.heap.size w w' := by
 have HR := jA.mk hr0
 have HC := jA.mk hc0
 have HM := jA.mk hm
 have HP := jA.mk hp
 have HS := jA.mk hs
 have HL := jA.mk hl
 clear hr0 hc0 hm hp hs
 have hw8 : IntKind.u64.wrap (l0.length : Int) = (l0.length : Int) := by rw [IntKind.wrap_u64]; omega
 refine (callsIn_wide (n := 5)).1 ?_
 refine callsIn_of_wp_marks Try.func20 rfl trivial ?_ rfl
 simp only [Try.ntmps20, List.size_toArray, List.length_cons, List.length_nil, Nat.reduceAdd, Nat.reduceSub, Array.replicate_succ, Array.replicate_zero, List.push_toArray, List.append_toArray, List.nil_append, List.cons_append]
 gi_wp2_with fail
 refine ⟨trivial, callsIn_wide.2 ((zP.calls A c l0 true _ HR.out HC.out HM.out).mono ?_)⟩
 rintro e w1 ⟨rfl, ⟨nd, rfl⟩⟩
 gi_wp2_with fail
 refine ⟨trivial, callsIn_wide.2 ((vF.calls k _ s0 _ HP.out).mono ?_)⟩
 rintro e w1 ⟨rfl, hb⟩
 have HB1 := jA.mk ((zW (Below.refl w.heap.size w) nd).trans hb)
 have HR1 := jA.mk (Kd.jW (Kd.zm HR.out nd) hb)
 clear hb HR
 gi_wp2_with fail
 refine ⟨trivial, (jIf 4 _ _ _ _).mono ?_⟩
 rintro e w2 ⟨rfl, rfl⟩
 have bS := Boxed.new w1 9 (.string s0)
 have bN := Boxed.new (w1.alloc (.cells #[.string s0] 9)) 36 (.slice A l0.length c)
 have hB0 : Below w.heap.size w ((w1.alloc (.cells #[.string s0] 9)).alloc (.cells #[.slice A l0.length c] 36)) := vI (vI HB1.out _) _
 have HR2 := Kd.zU (Kd.zU HR1.out (.cells #[.string s0] 9)) (.cells #[.slice A l0.length c] 36)
 rw [World.size_alloc] at bN
 gi_wp2_with fail
 have hI : l0 = [] ∨ ∃ b off, A = some ⟨b, off, none⟩ ∧ (b < w1.heap.size + 1 + 1 ∧ b ≠ w1.heap.size) ∧ ∀ j, j < l0.length → ((w1.alloc (.cells #[.string s0] 9)).alloc (.cells #[.slice A l0.length c] 36)).cell? ⟨b, off + j, none⟩ = some (.int .u64 (l0[j]?.getD 0)) := by
  by_cases h0 : l0 = []
  ·
   exact .inl h0
  ·
   refine .inr ?_
   obtain ⟨b, off, e, hlt, hcs⟩ := row_of HR1.out (List.length_pos_iff.2 h0)
   obtain ⟨b', off', e', _, hcs'⟩ := row_of HR2 (List.length_pos_iff.2 h0)
   rw [e] at e'
   cases e'
   exact ⟨b, off, e, ⟨by omega, by omega⟩, hcs'⟩
 have hsz : ((w1.alloc (.cells #[.string s0] 9)).alloc (.cells #[.slice A l0.length c] 36)).heap.size = w1.heap.size + 1 + 1 := by rw [World.size_alloc, World.size_alloc]
 have hle := HB1.out.size
 refine wpIn_rangeFunc_ownF (w0 := (w1.alloc (.cells #[.string s0] 9)).alloc (.cells #[.slice A l0.length c] 36)) rfl (by omega) (gf := 94) (lb := #[.pointer (some ⟨w1.heap.size + 1, 0, none⟩)]) rfl trivial (enters_of Try.func94 kr_ rfl)
  (jEz 4 (by omega) (w1.heap.size + 1) (w1.heap.size + 1 + 1) w1.heap.size c A l0 (by omega) _ ⟨by omega, by omega⟩ (by rw [hsz]; exact Nat.le_refl _) bN.cell hI) KpG.trans (KpG.put (by rw [hsz]; exact Nat.le_refl _)) (Below.refl _ _) (fun _ => rfl)
  (fun pre W => (W.cell? ⟨w1.heap.size, 0, none⟩ = some (.string (puts s0 (pre.map Prod.snd))) ∧ W.frozen? ⟨w1.heap.size, 0, none⟩ = false) ∧ Below w.heap.size w W ∧ w1.heap.size + 1 + 1 ≤ W.heap.size)
  (fun _ _ _ => False)
  (OwnFrom.and (Own.from (fun s A B row hs hg hr => ⟨cell_kept hs.1 hg hr, (frozen_kept hs.1 hg hr).trans hs.2⟩) _) (OwnFrom.and (ownFrom_below (Nat.le_refl _) (by rw [hsz]; omega)) (fun _ _ _ _ hs hg _ => Nat.le_trans hs hg.size)))
  (fun _ _ _ _ _ hs _ _ => hs)
  ⟨⟨(bS.alloc _).cell, (bS.alloc _).frozen⟩, hB0, by rw [hsz]; exact Nat.le_refl _⟩
  (fun x => { tmps := #[.slice A l0.length c, undef, .string { data := #[] }, .int .i64 0, .pointer (some ⟨w1.heap.size, 0, none⟩), undef, .int .u64 x.2, .slice A l0.length c, .bool true, .bool false, .slice A l0.length c, .int .i64 l0.length, .int .u64 l0.length, .string s0, .slice A l0.length c, .func (.func 94) #[] #[.pointer (some ⟨w1.heap.size + 1, 0, none⟩)], .int .i64 x.1, .int .u64 x.2, undef, undef, undef, undef, undef], defers := [] }) ?assign ?body ?done ?stop
 case assign =>
  intro l x W K hK
  gi_wp2
  exact hK
 case body =>
  rintro l pre x W ⟨⟨hc, hf⟩, hB, hS2⟩ hlt
  have hmx : Try.prog.follows .mixedOrders = true := by kernel_rfl
  have hsz2 : (puts s0 (pre.map Prod.snd)).size + (strOfNums (lows x.2 8)).size ≤ 9223372036854775807 := by
   rw [jCE, List.length_map, strOfNums_size, jAU]; have := HS.out; omega
  have hd : 1 ≤ 5 - 1 - 1 := by omega
  have hgl : w1.heap.size < W.heap.size := World.block_lt_of_cell? W ⟨w1.heap.size, 0, none⟩ hc
  gi_wp2
  gi_region_with_o (refine ⟨trivial, ?_⟩; gi_at_call 58; refine (CallsIn.inRound l (callsIn_wide.2 (jk.calls 9 x.2 8 _ _ (jJd x.2)))).mono ?_; rintro e w' ⟨rfl, hb⟩; have hc' := jAT (w := W.drew) hb hc; have hf' : w'.frozen? ⟨w1.heap.size, 0, none⟩ = false := by { have := hb.block w1.heap.size hgl; unfold World.frozen? at hf ⊢; rw [this]; exact hf })
  all_goals gi_wp2
  all_goals
   have h7 : W.drew.heap.size = W.heap.size := rfl
   refine ⟨?_, ?_, ⟨?_, ?_⟩, ?_, ?_⟩
   ·
    exact ((KeepsOthers.drew W).trans (KeepsOthers.of_grownBy (ql hb none) (fun _ _ e _ => by cases e))).trans (KeepsOthers.setCell _ _ _)
   ·
    exact (KpG.of_below (W := W) hb (by omega)).trans (KpG.set _ _ 0 _ _)
   ·
    rw [List.map_append, List.map_cons, List.map_nil, jFW]; exact World.cell?_setCell_same' _ _ _ (by rw [hc']; rfl)
   ·
    rw [World.frozen?_setCell]; exact hf'
   ·
    exact ((zh hB).trans (hb.mono (by have := hB.size; omega))).setCell (by show w.heap.size ≤ w1.heap.size; exact hle) _
   ·
    have h5 := (KeepsOthers.setCell w' ⟨w1.heap.size, 0, none⟩ (.string (puts s0 (pre.map Prod.snd) ++ strOfNums (lows x.2 8)))).size; have h6 := hb.size; omega
 case done =>
  rintro D ys W hD rfl ⟨⟨hc, hf⟩, hB, _⟩ hK
  rw [jHn] at hc
  gi_wp2
  refine ⟨by simp, .inl ⟨_, _, rfl, run_takeDeferred hK, ?_⟩⟩
  exact ⟨_, results_tmp2 rfl _ _ _, by rfl, hB.trans (belowK_b (w := w) (Nat.le_refl _) W D _ _ (by rw [hsz] at hD; omega) hK rfl rfl)⟩
 case stop =>
  rintro D c pre W _ _ h _
  exact h.elim
theorem jJG (A : Option Addr) (c : Nat) (l0 : List Int) (w : World) (hr0 : Kd.C (Kd.int .u64) w A l0.length l0) (hc0 : l0.length ≤ c) (hm : zP.f l0 = some false) :
  Calls Try.prog 20 #[.slice A l0.length c] w fun e w' => e = .returned (.tuple #[.string { data := #[] }, .int .i64 1]) ∧ Below w.heap.size w w' := by
 have HR := jA.mk hr0
 have HC := jA.mk hc0
 have HM := jA.mk hm
 clear hr0 hc0 hm
 go_enter Try.func20, Try.ntmps20
 go_wp2_with fail
 refine (zP.calls A c l0 false _ HR.out HC.out HM.out).mono ?_
 rintro e w1 ⟨rfl, ⟨nd, rfl⟩⟩
 go_wp2
 go_ret2
 exact ⟨rfl, zW (Below.refl _ _) nd⟩
end OctPut
def jm.f (k : Nat) (l0 : List Int) : Option (ByteArray × Int) := (zP.f l0).bind fun b => if b = true then (vF.f k (l0.length : Int)).bind fun s0 => (if s0.size ≤ 1000 ∧ l0.length ≤ 8 then some (OctPut.puts s0 l0.reverse, 0) else none) else some ({ data := #[] }, 1)
theorem jm.mono : ∀ a0 k, LeO (jm.f k a0) (jm.f (k + 1) a0) := by
 intro a0 k
 unfold jm.f
 exact LeO.bind (LeO.refl _) fun _ => LeO.ite (LeO.bind (vF.mono _ _) fun _ => LeO.refl _) (LeO.refl _)
theorem jm.calls (k : Nat) (A0 : Option Addr) (c0 : Nat) (l0 : List Int) (r1 : ByteArray) (r2 : Int) (w : World) (hr0 : Kd.C (Kd.int .u64) w A0 l0.length l0) (hc0 : l0.length ≤ c0) (h : jm.f k l0 = some (r1, r2)) :
  Calls Try.prog 20 #[.slice A0 l0.length c0] w fun e w' => e = .returned (.tuple #[.string r1, .int .i64 r2]) ∧ Below w.heap.size w w' := by
 unfold jm.f at h
 obtain ⟨b, hm, h⟩ := Option.bind_eq_some_iff.mp h
 cases b with
 | false =>
  cases h
  exact OctPut.jJG A0 c0 l0 w hr0 hc0 hm
 | true =>
  rw [if_pos rfl] at h
  obtain ⟨s0, hp, h⟩ := Option.bind_eq_some_iff.mp h
  by_cases hs : s0.size ≤ 1000 ∧ l0.length ≤ 8
  ·
   rw [if_pos hs] at h
   cases h
   exact OctPut.jKS k A0 c0 l0 s0 w hr0 hc0 hm hp hs.1 hs.2
  ·
   rw [if_neg hs] at h; cases h

/-! ### zD: function 29 -/
def zD.f (l0 : List Int) (a1_0 : Bool) (l1_1 : List Int) (l1_2 : List Int) (a2 : ByteArray) : Option (Bool) := if (l0.length : Int) > 20 then (some true) else (if (l1_1.length : Int) > 20 then (some true) else (if (l1_2.length : Int) > 20 then (some true) else (some (decide ((a2.size : Int) > 1000)))))
theorem zD.calls (A0 : Option Addr) (c0 : Nat) (l0 : List Int) (a1_0 : Bool) (A1_1 : Option Addr) (c1_1 : Nat) (l1_1 : List Int) (A1_2 : Option Addr) (c1_2 : Nat) (l1_2 : List Int) (a2 : ByteArray) (r : Bool) (w : World) (hr0 : Kd.C (Kd.int .u64) w A0 l0.length l0) (hc0 : l0.length ≤ c0) (hr1_1 : Kd.C (Kd.int .u64) w A1_1 l1_1.length l1_1) (hc1_1 : l1_1.length ≤ c1_1) (hr1_2 : Kd.C (Kd.int .u64) w A1_2 l1_2.length l1_2) (hc1_2 : l1_2.length ≤ c1_2) (h : zD.f l0 a1_0 l1_1 l1_2 a2 = some r) :
  Calls Try.prog 29 #[.slice A0 l0.length c0, .agg #[.bool a1_0, .slice A1_1 l1_1.length c1_1, .slice A1_2 l1_2.length c1_2], .string a2] w fun e w' => e = .returned (.bool r) ∧ Below w.heap.size w w' := by
 have hu44 := Try.underlying44
 have HR0 := jA.mk hr0
 have HC0 := jA.mk hc0
 clear hr0 hc0
 have HR1_1 := jA.mk hr1_1
 have HC1_1 := jA.mk hc1_1
 clear hr1_1 hc1_1
 have HR1_2 := jA.mk hr1_2
 have HC1_2 := jA.mk hc1_2
 clear hr1_2 hc1_2
 have HB := jA.mk (Below.refl w.heap.size w)
 have H : (if (l0.length : Int) > 20 then (some true) else (if (l1_1.length : Int) > 20 then (some true) else (if (l1_2.length : Int) > 20 then (some true) else (some (decide ((a2.size : Int) > 1000)))))) = some r := h
 clear h
 by_cases c4 : (l0.length : Int) > 20
 ·
  rw [if_pos c4] at H
  have c4b0 := decide_eq_true c4
  have c4b1 : decide (20 < l0.length) = true := decide_eq_true (by omega)
  clear c4
  obtain rfl := Option.some.inj H
  go_enter Try.func29, Try.ntmps29
  go_wp2_with (first | ((with_reducible refine jq (N := 4) rfl ?_); (try (refine jv (by rfl) ?_; dsimp only)); refine zf ?hg (N := 4) ?hd (cs := #[.bool a1_0, .slice A1_1 l1_1.length c1_1, .slice A1_2 l1_2.length c1_2]) (t := 44) ?hr ?_; (case hd => rfl); (case hg => rfl); (case hr => exact gs_); intro gb117 hg w5 hbox hb; have BK117 := jA.mk (hbox); have GW117 := jA.mk ((by rw [hg]; exact (jB (bb_ HB)) : w.heap.size ≤ gb117)); have GE117 := jA.mk ((by rw [hg]; exact (jB (bb_ HB)) : w.heap.size ≤ gb117)); replace HB := bs_ HB hb; clear hb hbox hg))
  go_ret
  exact ⟨ew_, (bb1_ HB GE117)⟩
 ·
  rw [if_neg c4] at H
  have c4b0 := decide_eq_false c4
  have c4b1 : decide (20 < l0.length) = false := decide_eq_false (by omega)
  clear c4
  by_cases c6 : (l1_1.length : Int) > 20
  ·
   rw [if_pos c6] at H
   have c6b0 := decide_eq_true c6
   have c6b1 : decide (20 < l1_1.length) = true := decide_eq_true (by omega)
   clear c6
   obtain rfl := Option.some.inj H
   go_enter Try.func29, Try.ntmps29
   go_wp2_with (first | ((with_reducible refine jq (N := 4) rfl ?_); (try (refine jv (by rfl) ?_; dsimp only)); refine zf ?hg (N := 4) ?hd (cs := #[.bool a1_0, .slice A1_1 l1_1.length c1_1, .slice A1_2 l1_2.length c1_2]) (t := 44) ?hr ?_; (case hd => rfl); (case hg => rfl); (case hr => exact gs_); intro gb117 hg w7 hbox hb; have BK117 := jA.mk (hbox); have GW117 := jA.mk ((by rw [hg]; exact (jB (bb_ HB)) : w.heap.size ≤ gb117)); have GE117 := jA.mk ((by rw [hg]; exact (jB (bb_ HB)) : w.heap.size ≤ gb117)); replace HB := bs_ HB hb; clear hb hbox hg; obtain ⟨hcz8_0, hcz8_1, hcz8_2, hfz8_0, hfz8_1, hfz8_2⟩ := bf3_ BK117))
   go_ret
   exact ⟨ew_, (bb1_ HB GE117)⟩
  ·
   rw [if_neg c6] at H
   have c6b0 := decide_eq_false c6
   have c6b1 : decide (20 < l1_1.length) = false := decide_eq_false (by omega)
   clear c6
   by_cases c9 : (l1_2.length : Int) > 20
   ·
    rw [if_pos c9] at H
    have c9b0 := decide_eq_true c9
    have c9b1 : decide (20 < l1_2.length) = true := decide_eq_true (by omega)
    clear c9
    obtain rfl := Option.some.inj H
    go_enter Try.func29, Try.ntmps29
    go_wp2_with (first | ((with_reducible refine jq (N := 4) rfl ?_); (try (refine jv (by rfl) ?_; dsimp only)); refine zf ?hg (N := 4) ?hd (cs := #[.bool a1_0, .slice A1_1 l1_1.length c1_1, .slice A1_2 l1_2.length c1_2]) (t := 44) ?hr ?_; (case hd => rfl); (case hg => rfl); (case hr => exact gs_); intro gb117 hg w10 hbox hb; have BK117 := jA.mk (hbox); have GW117 := jA.mk ((by rw [hg]; exact (jB (bb_ HB)) : w.heap.size ≤ gb117)); have GE117 := jA.mk ((by rw [hg]; exact (jB (bb_ HB)) : w.heap.size ≤ gb117)); replace HB := bs_ HB hb; clear hb hbox hg; obtain ⟨hcz11_0, hcz11_1, hcz11_2, hfz11_0, hfz11_1, hfz11_2⟩ := bf3_ BK117))
    go_ret
    exact ⟨ew_, (bb1_ HB GE117)⟩
   ·
    rw [if_neg c9] at H
    have c9b0 := decide_eq_false c9
    have c9b1 : decide (20 < l1_2.length) = false := decide_eq_false (by omega)
    clear c9
    obtain rfl := Option.some.inj H
    go_enter Try.func29, Try.ntmps29
    go_wp2_with (first | ((with_reducible refine jq (N := 4) rfl ?_); (try (refine jv (by rfl) ?_; dsimp only)); refine zf ?hg (N := 4) ?hd (cs := #[.bool a1_0, .slice A1_1 l1_1.length c1_1, .slice A1_2 l1_2.length c1_2]) (t := 44) ?hr ?_; (case hd => rfl); (case hg => rfl); (case hr => exact gs_); intro gb117 hg w12 hbox hb; have BK117 := jA.mk (hbox); have GW117 := jA.mk ((by rw [hg]; exact (jB (bb_ HB)) : w.heap.size ≤ gb117)); have GE117 := jA.mk ((by rw [hg]; exact (jB (bb_ HB)) : w.heap.size ≤ gb117)); replace HB := bs_ HB hb; clear hb hbox hg; obtain ⟨hcz13_0, hcz13_1, hcz13_2, hfz13_0, hfz13_1, hfz13_2⟩ := bf3_ BK117))
    go_ret
    exact ⟨ew_, (bb1_ HB GE117)⟩

/-! ### jP: function 75 -/
def jP.l0 : Nat → Int → List Int → Int → Option (ByteArray)
 | 0, _, _, _ => none
 | k + 1, x0, x5, x6 => if x6 ≥ 0 then (if 0 ≤ (wrap64 (8 * x6)) then (if x5.length < 140737488355328 then (jP.l0 k x0 (x5 ++ [(shr .u64 x0 (wrap64 (8 * x6))) % 256]) (wrap64 (x6 - 1))) else (none)) else (none)) else (some (strOfNums x5))
def jP.f (k : Nat) (a0 : Int) (a1 : Int) : Option (ByteArray) := jP.l0 k a0 (([] : List Int)) (wrap64 (a1 - 1))
theorem jP.vJ : ∀ k, (∀ y0 y1 y2, LeO (jP.l0 k y0 y1 y2) (jP.l0 (k + 1) y0 y1 y2))
 | 0 => fun _ _ _ r h => by simp [jP.l0] at h
 | k + 1 => by
  have ih0 := jP.vJ k
  ·
   intro y0 y1 y2
   unfold jP.l0
   repeat' first
   | (with_reducible exact ih0 _ _ _)
   | (with_reducible exact LeO.refl _)
   | (with_reducible exact LeO.none _)
   | (with_reducible refine LeO.ite ?_ ?_)
   | (with_reducible refine LeO.bind ?_ (fun _ => ?_))
theorem jP.mono : ∀ a0 a1 k, LeO (jP.f k a0 a1) (jP.f (k + 1) a0 a1) := by
 intro a0 a1 k
 have ih0 := jP.vJ k
 unfold jP.f
 repeat' first
   | (with_reducible exact ih0 _ _ _)
   | (with_reducible exact LeO.refl _)
   | (with_reducible exact LeO.none _)
   | (with_reducible refine LeO.ite ?_ ?_)
   | (with_reducible refine LeO.bind ?_ (fun _ => ?_))
theorem jP.calls (k : Nat) (a0 : Int) (a1 : Int) (r : ByteArray) (w : World) (h : jP.f k a0 a1 = some r) :
  Calls Try.prog 75 #[.int .u64 a0, .int .i64 a1] w fun e w' => e = .returned (.string r) ∧ Below w.heap.size w w' := by
 have HB := jA.mk (Below.refl w.heap.size w)
 have H : (jP.l0 k a0 (([] : List Int)) (wrap64 (a1 - 1))) = some r := h
 clear h
 obtain ⟨y118, hy118⟩ : ∃ y_ : List Int, y_ = (([] : List Int)) := ⟨_, rfl⟩
 replace H : (jP.l0 k a0 y118 (wrap64 (a1 - 1))) = some r := by first | (rw [hy118]; with_reducible exact H) | (have H2_ := (Option.bind_some _ _).symm.trans H; rw [hy118]; with_reducible exact H2_) | (with_reducible exact hs_ H) | with_reducible exact H | (rw [hy118]; exact H) | exact H
 have Ny118 := jA.mk hy118
 clear hy118
 have H' := jA.mk H
 clear H
 go_enter Try.func75, Try.ntmps75
 go_wp2_with (first | ((with_reducible refine jq (N := 7) rfl ?_); refine Kd.jAC (Kd.int .u8) _ 5 ?hg (N := 7) ?hd (xs := ([] : List Int)) (inner := []) (ok := fun _ => True) (okp := fun _ => True) ?hr ?hp (fun _ hk => hk) trivial (Below.refl _ _) (Nat.le_refl _) (by simp) ?_; (case hd => rfl); (case hg => rfl); (case hr => exact gs_); (case hp => exact (Reps.none _ _)); intro v119 w3 ho4 hb hg_ hnew_; clear hg_ hnew_; (first | rw [← Ny118.out] at ho4 | (simp only [Int.reduceToNat] at ho4; rw [← Ny118.out] at ho4)); have HO120 := jA.mk (Kd.jZ ho4 (jB (bb_ HB))); replace HB := bs_ HB hb; clear hb ho4))
 go_loopg [5, 6] k (fun kq v5 v6 w' => ∃ (x5_1 : List Int) (x6_1 : Int), v6 = .int .i64 x6_1 ∧ jA (jP.l0 kq a0 x5_1 x6_1 = some r) ∧ jA (kq ≤ k) ∧ jA (Kd.R (Kd.int .u8) 5 w' w.heap.size (fun _ => True) v5 x5_1) ∧ jA (Below w.heap.size w w'))
 case atStart => exact ⟨(y118), (wrap64 (a1 - 1)), sd_, H', ⟨Nat.le_refl _⟩, ⟨(rR_ HO120)⟩, ⟨(bb_ HB)⟩⟩
 case round =>
  clear H'
  try clear p2
  obtain ⟨x5_1, x6_1, rfl, HA, HK1, HO_5, HB⟩ := hrel
  cases gk with
  | zero => exact absurd HA.out (by simp [jP.l0])
  | succ k1 =>
   have H := HA.out
   clear HA
   simp only [jP.l0] at H
   by_cases c5 : x6_1 ≥ 0
   ·
    rw [if_pos c5] at H
    have c5b0 := decide_eq_true c5
    clear c5
    obtain ⟨ji6, hji6⟩ : ∃ j_ : Int, (wrap64 (8 * x6_1)) = j_ := ⟨_, rfl⟩
    replace H : (if 0 ≤ (ji6) then (if x5_1.length < 140737488355328 then (jP.l0 k1 a0 (x5_1 ++ [(shr .u64 a0 (ji6)) % 256]) (wrap64 (x6_1 - 1))) else (none)) else (none)) = some r := by first | (rw [hji6] at H; exact H) | (simp only [hji6] at H ⊢; exact H)
    have hji6w : (IntKind.i64.wrap (8 * x6_1)) = ji6 := (vY _).trans hji6
    by_cases c7 : 0 ≤ (ji6)
    ·
     rw [if_pos c7] at H
     have c7b0 := eq_true c7
     have c7b1 := decide_eq_true c7
     clear c7
     obtain ⟨ji8, hji8⟩ : ∃ j_ : Int, (shr .u64 a0 (ji6)) = j_ := ⟨_, rfl⟩
     replace H : (if x5_1.length < 140737488355328 then (jP.l0 k1 a0 (x5_1 ++ [(ji8) % 256]) (wrap64 (x6_1 - 1))) else (none)) = some r := by first | (rw [hji8] at H; exact H) | (simp only [hji8] at H ⊢; exact H)
     have hji8_ : (a0 / 2 ^ min (ji6).toNat 64) = ji8 := hji8
     have hji8z : (ji6) ≤ 64 → (a0 / 2 ^ (ji6).toNat) = ji8 := jAZ hji8
     by_cases c9 : x5_1.length < 140737488355328
     ·
      rw [if_pos c9] at H
      have LMc9 := jA.mk c9
      clear c9
      obtain ⟨y121, hy121⟩ : ∃ y_ : List Int, y_ = (x5_1 ++ [(ji8) % 256]) := ⟨_, rfl⟩
      replace H : (jP.l0 k1 a0 y121 (wrap64 (x6_1 - 1))) = some r := by first | (rw [hy121]; with_reducible exact H) | (have H2_ := (Option.bind_some _ _).symm.trans H; rw [hy121]; with_reducible exact H2_) | (with_reducible exact hs_ H) | with_reducible exact H | (rw [hy121]; exact H) | exact H
      have Ny121 := jA.mk hy121
      clear hy121
      have H' := jA.mk H
      clear H
      go_wp2_with (first | ((with_reducible refine vV (b := .append) (xs := #[.tmp 14, .tmp 20]) rfl ?_); at_builtin; refine Kd.qJ (Kd.int .u8) (w0 := w) w.heap.size rfl (.tmp 14) (.tmp 20) 60 5 (.int .u8 0) 1 rfl Try.underlying60 info5 rfl (by decide) (by omega) u5 x5_1 ((ji8) % 256) [.int .u8 ((ji8) % 256)] (fun _ => True) (fun _ => False) rfl rfl ?aP (fun _ hk => hk.elim) ?aF ?aO ?aB ?aS ?aL ?_; (case aP => exact rfl); (case aB => exact (bb_ HB)); (case aF => exact (fun _ _ => trivial)); (case aO => exact (rR_ HO_5)); (case aS => exact (jB (bb_ HB))); (case aL => have := LMc9.out; omega); intro v122 w10 ho hb hg hat; rw [← Ny121.out] at ho; replace HB := jA.mk (hb); have HO123 := jA.mk (ho); clear HO_5 ho hb hg hat))
      go_roundg k1
      case measure => have := HK1.out; omega
      case rel => exact ⟨(y121), (wrap64 (x6_1 - 1)), sd_, H', ⟨by have := HK1.out; omega⟩, ⟨(rR_ HO123)⟩, ⟨(bb_ HB)⟩⟩
     ·
      rw [if_neg c9] at H
      exact absurd H (by simp)
    ·
     rw [if_neg c7] at H
     exact absurd H (by simp)
   ·
    rw [if_neg c5] at H
    have c5b0 := decide_eq_false c5
    clear c5
    obtain rfl := Option.some.inj H
    have hcv11 := qN (P := Try.prog) Try.underlying60 Try.underlying5 Try.underlying9 (Kd.qd HO_5.out)
    go_wp2
    go_ret
    exact ⟨ew_, (bb_ HB)⟩

end Go.Proofs.Ytijgeonhbmgikaa.POOctetPuts
