-- printed (pr.py)
import Derived.Test.YtijgeonhbmgikaaPOOctetGetsx0
import Derived.Test.YtijgeonhbmgikaaPOOctetGetsx1
namespace Go.Proofs.Ytijgeonhbmgikaa.POOctetGets
open Go.RowKit Go.Proofs.YtijgeonhbmgikaaN Go.Proofs.YtijgeonhbmgikaaW.PrintWords Go.Proofs.YtijgeonhbmgikaaW.PrintLast Go.Proofs.YtijgeonhbmgikaaW.PrintMore
attribute [local go_sem] qC zy qR qP za zZ qA zx
set_option maxHeartbeats 8000000
set_option maxRecDepth 100000
set_option linter.unusedVariables false
set_option linter.unusedSimpArgs false

/-! ### zY: function 18 -/
namespace zY
open Oct
theorem jFx (p q : Addr) (x y : Value) (w : World) (hp : w.cell? p = some x) (hq : w.cell? q = some y) (fp : w.frozen? p = false) (fq : w.frozen? q = false) (hpq : p.block ≠ q.block) :
  Calls Try.prog 60 #[.pointer (some p), .pointer (some q)] w fun e w' => e = .returned (.tuple #[]) ∧ w' = (w.setCell p (.int .u64 0)).setCell q (.string { data := #[] }) := by
 have hq' : (w.setCell p (.int .u64 0)).cell? q = some y := by rw [World.cell?_setCell_other _ _ _ _ (fun e => hpq (by rw [e]))]; exact hq
 go_enter Try.func60, Try.ntmps60
 go_wp2
 go_end0
 exact ⟨rfl, rfl⟩
def jBg (s : ByteArray) (w : World) : World := (((w.alloc (.cells #[.int .u64 0] 22)).alloc (.cells #[.string { data := #[] }] 9)).alloc (.cells #[.int .i64 0] 28)).alloc (.cells #[.string s] 86)
theorem zl (w : World) (o : Obj) : (w.alloc o).heap.size = w.heap.size + 1 := Array.size_push _
theorem jFu (s : ByteArray) (w : World) : (jBg s w).heap[w.heap.size]? = some (.cells #[.int .u64 0] 22 (0, 0)) := vP (vP (vP (qE _ _) _) _) _
theorem jFs (s : ByteArray) (w : World) : (jBg s w).heap[w.heap.size + 1]? = some (.cells #[.string { data := #[] }] 9 (0, 0)) := by rw [← zl w (.cells #[.int .u64 0] 22)]; exact vP (vP (qE _ _) _) _
theorem jFq (s : ByteArray) (w : World) : (jBg s w).heap[w.heap.size + 1 + 1]? = some (.cells #[.int .i64 0] 28 (0, 0)) := by rw [← zl w (.cells #[.int .u64 0] 22), ← zl _ (.cells #[.string { data := #[] }] 9)]; exact vP (qE _ _) _
theorem jFo (s : ByteArray) (w : World) : (jBg s w).heap[w.heap.size + 1 + 1 + 1]? = some (.cells #[.string s] 86 (0, 0)) := by rw [← zl w (.cells #[.int .u64 0] 22), ← zl _ (.cells #[.string { data := #[] }] 9), ← zl _ (.cells #[.int .i64 0] 28)]; exact qE _ _
theorem jCr (s : ByteArray) (w : World) : (jBg s w).heap.size = w.heap.size + 1 + 1 + 1 + 1 := by unfold jBg; rw [zl, zl, zl, zl]
theorem jCR (s : ByteArray) (w : World) : Below w.heap.size w (jBg s w) :=
 jy (jy (jy (jy (Below.refl _ w) _) _) _) _
set_option maxHeartbeats 4000000 in
theorem jGh (s : ByteArray) (w : World) (c : Int) (hn : num s = .inl c) (hz : s.size ≤ 140737488351232) :
  Calls Try.prog 18 #[.string s] w fun e w' => e = .returned (.tuple #[.int .u64 0, .string { data := #[] }, .int .i64 c]) ∧ Below w.heap.size w w' := by
 have hmf : ∀ (fn : Fn) (first cap : Array Value) (w : World), (Instr.makeFunc fn first cap).run Try.prog w = .ok (.func fn first cap) w := fun _ _ _ _ => rfl
 have H0 := jA.mk (jFu s w)
 have H1 := jA.mk (jFs s w)
 have H2 := jA.mk (jFq s w)
 have H3 := jA.mk (jFo s w)
 have HW := jA.mk (jCR s w)
 have HZ := jA.mk (jCr s w)
 have HN := jA.mk (jAG (g := w.heap.size + 1 + 1 + 1) (w := jBg s w) hn)
 clear hn
 go_enter_defers Try.func18, Try.ntmps18
 go_wp2_with fail
 refine (show Calls Try.prog 61 _ (jBg s w) (jAW _ s (jBg s w)) from jAf _ s _ H3.out hz).mono ?_
 rw [HN.out]
 generalize jBg s w = W at H0 H1 H2 H3 HW HN HZ ⊢
 rintro e w1 ⟨rfl, ⟨hb, _⟩⟩
 have C0 := jA.mk ((hb.block _ (by omega)).trans H0.out)
 have C1 := jA.mk ((hb.block _ (by omega)).trans H1.out)
 have C2 := jA.mk ((hb.block _ (by omega)).trans H2.out)
 have CB := jA.mk (HW.out.trans (hb.mono (by omega)))
 clear hb
 show bodyPostD Try.prog Try.f18 _ (Exit.panic _) _ _
 unfold bodyPostD pan
 refine leaves_cons (f := 59) (args := #[.pointer (some ⟨w.heap.size + 1 + 1, 0, none⟩), .func (.func 60) #[] #[.pointer (some ⟨w.heap.size, 0, none⟩), .pointer (some ⟨w.heap.size + 1, 0, none⟩)]]) (by simp) kr_ ?_
 have D0 := jd (p := ⟨w.heap.size + 1 + 1, 0, none⟩) C0.out (by simp; omega) (.int .i64 c)
 have D1 := jd (p := ⟨w.heap.size + 1 + 1, 0, none⟩) C1.out (by simp) (.int .i64 c)
 have DB := (CB.out.setCell (p := ⟨w.heap.size + 1 + 1, 0, none⟩) (by simp; omega) (.int .i64 c))
 have HU := jFx ⟨w.heap.size, 0, none⟩ ⟨w.heap.size + 1, 0, none⟩ _ _ _ ((jJ D0 0).trans rfl) ((jJ D1 0).trans rfl) (jT D0 0) (jT D1 0) (by simp)
 have DU := (DB.setCell (p := ⟨w.heap.size, 0, none⟩) (by simp) (.int .u64 0)).setCell (p := ⟨w.heap.size + 1, 0, none⟩) (by simp) (.string { data := #[] })
 have E2 := jd (p := ⟨w.heap.size + 1, 0, none⟩) (jd (p := ⟨w.heap.size, 0, none⟩) (jw (cs' := #[.int .i64 c]) C2.out 0 (.int .i64 c) rfl) (by simp; omega) (.int .u64 0)) (by simp) (.string { data := #[] })
 have E0 := jd (p := ⟨w.heap.size + 1, 0, none⟩) (jw (cs' := #[.int .u64 0]) D0 0 (.int .u64 0) rfl) (by simp) (.string { data := #[] })
 have E1 := jw (cs' := #[.string { data := #[] }]) (jd (p := ⟨w.heap.size, 0, none⟩) D1 (by simp) (.int .u64 0)) 0 (.string { data := #[] }) rfl
 refine (jAY ⟨w.heap.size + 1 + 1, 0, none⟩ 0 c 60 Try.f60 _ [] w1 _ ((jJ C2.out 0).trans rfl) (jT C2.out 0) (fun _ _ => kr_) HU).mono ?_
 rintro e u' w'' ⟨rfl, rfl, rfl⟩
 have F2 := (jJ E2 0).trans (show _ = some (.int .i64 c) from rfl)
 have F0 := (jJ E0 0).trans (show _ = some (.int .u64 0) from rfl)
 have F1 := (jJ E1 0).trans (show _ = some (.string { data := #[] }) from rfl)
 clear E0 E1 E2 HU D0 D1 DB
 generalize ((w1.setCell ⟨w.heap.size + 1 + 1, 0, none⟩ (.int .i64 c)).setCell ⟨w.heap.size, 0, none⟩ (.int .u64 0)).setCell ⟨w.heap.size + 1, 0, none⟩ (.string { data := #[] }) = w3 at DU F0 F1 F2 ⊢
 simp [Leaves, settle, results, Try.results18, go_sem, F0, F1, F2]
 exact DU

set_option maxHeartbeats 4000000 in
theorem jFe (s : ByteArray) (w : World) (n : Int) (t : ByteArray) (hn : num s = .inr (n, t)) (hz : s.size ≤ 140737488351232) :
  Calls Try.prog 18 #[.string s] w fun e w' => e = .returned (.tuple #[.int .u64 n, .string t, .int .i64 0]) ∧ Below w.heap.size w w' := by
 have hmf : ∀ (fn : Fn) (first cap : Array Value) (w : World), (Instr.makeFunc fn first cap).run Try.prog w = .ok (.func fn first cap) w := fun _ _ _ _ => rfl
 have H0 := jA.mk (jFu s w)
 have H1 := jA.mk (jFs s w)
 have H2 := jA.mk (jFq s w)
 have H3 := jA.mk (jFo s w)
 have HW := jA.mk (jCR s w)
 have HZ := jA.mk (jCr s w)
 have HN := jA.mk (jAI (g := w.heap.size + 1 + 1 + 1) (w := jBg s w) hn)
 clear hn
 go_enter_defers Try.func18, Try.ntmps18
 go_wp2_with fail
 refine (show Calls Try.prog 61 _ (jBg s w) (jAW _ s (jBg s w)) from jAf _ s _ H3.out hz).mono ?_
 rw [HN.out]
 generalize jBg s w = W at H0 H1 H2 H3 HW HN HZ ⊢
 rintro e w1 ⟨rfl, ⟨hb, _⟩, h3⟩
 clear HN
 have C0 := (hb.block _ (by omega)).trans H0.out
 have C1 := (hb.block _ (by omega)).trans H1.out
 have C2 := (hb.block _ (by omega)).trans H2.out
 have CB := HW.out.trans (hb.mono (by omega))
 have X3 := (jJ h3 0).trans (show _ = some (.string t) from rfl)
 have X0 := (jJ C0 0).trans (show _ = some (.int .u64 0) from rfl)
 have Z0 := jT C0 0
 have HZ0 := HZ
 clear hb HW H0 H1 H2 H3 HZ
 have CBB := jA.mk CB
 have D0 := jA.mk (jw (cs' := #[.int .u64 n]) C0 0 (.int .u64 n) rfl)
 have D1 := jA.mk (jd (p := ⟨w.heap.size, 0, none⟩) C1 (by simp) (.int .u64 n))
 have D2 := jA.mk (jd (p := ⟨w.heap.size, 0, none⟩) C2 (by simp; omega) (.int .u64 n))
 have D3 := jA.mk (jd (p := ⟨w.heap.size, 0, none⟩) h3 (by simp; omega) (.int .u64 n))
 have DB := jA.mk (CB.setCell (p := ⟨w.heap.size, 0, none⟩) (by simp) (.int .u64 n))
 clear C0 C1 C2 CB h3
 go_wp2
 generalize w1.setCell ⟨w.heap.size, 0, none⟩ (.int .u64 n) = v0 at D0 D1 D2 D3 DB ⊢
 refine jDI ?_
 refine jAc (n := 8) (S := fun w' => w'.heap[w.heap.size]? = some (.cells #[.int .u64 n] 22 (0, 0)) ∧ w'.heap[w.heap.size + 1]? = some (.cells #[.string { data := #[] }] 9 (0, 0)) ∧ w'.heap[w.heap.size + 1 + 1]? = some (.cells #[.int .i64 0] 28 (0, 0)) ∧ w'.heap[w.heap.size + 1 + 1 + 1]? = some (.cells #[.string t] 86 (0, 0)) ∧ Below w.heap.size w w') (ds := [6, 7]) #[false, false, false, false, false, false, false, false] kr_ rfl rfl ⟨vk D0.out, vk D1.out, vk D2.out, vk D3.out, ze DB.out⟩ (fun hHeld => ?_)
 generalize v0.drew = u0 at hHeld ⊢
 clear D0 D1 D2 D3 DB
 refine jBM (i := 0) (N := some 12) (v := ?_) (a' := ?_) (ba_ 8 1) rfl rfl kr_ (fun _ _ _ h => h) (Or.inl ⟨by rfl, ?_⟩) hHeld ?_ ?_
 rotate_left
 ·
  rintro w' ⟨s0_, s1_, s2_, s3_, s4_⟩
  have hc := (jJ s0_ 0).trans (show _ = some (.int .u64 n) from rfl)
  go_simp
  with_reducible rfl
 rotate_left
 ·
  simp only [Act.put, ss_, zF, zW]
  rfl
 refine pu_ 1 (some 13) (ba_ 8 3) kr_ ?_
 refine pu_ 2 (some 14) (ba_ 8 7) kr_ ?_
 refine pu_ 3 (some 15) (ba_ 8 15) kr_ ?_
 refine jBM (i := 4) (N := some 16) (v := ?_) (a' := ?_) (ba_ 8 31) rfl rfl kr_ (fun _ _ _ h => h) (Or.inl ⟨by rfl, ?_⟩) hHeld ?_ ?_
 rotate_left
 ·
  rintro w' ⟨s0_, s1_, s2_, s3_, s4_⟩
  have hc := (jJ s3_ 0).trans (show _ = some (.string t) from rfl)
  go_simp
  with_reducible rfl
 rotate_left
 ·
  simp only [Act.put, ss_, zF, zW]
  rfl
 obtain ⟨s0_, s1_, s2_, s3_, s4_⟩ := hHeld
 refine one_ (i := 5) (N := none) (ba_ 8 63) rfl rfl kr_ (by decide) (fun K hK => ?_)
 have hc := (jJ s0_ 0).trans (show _ = some (.int .u64 n) from rfl)
 have hf := jT s0_ 0
 refine jAu (w1 := ?_) (by rfl) rfl ?_ ?_
 rotate_left
 ·
  go_simp
  rfl
 refine hK.out _ _ ⟨jw s0_ 0 (.int .u64 n) rfl, jd (p := ⟨w.heap.size, 0, none⟩) s1_ (by simp) (.int .u64 n), jd (p := ⟨w.heap.size, 0, none⟩) s2_ (by simp; omega) (.int .u64 n), jd (p := ⟨w.heap.size, 0, none⟩) s3_ (by simp; omega) (.int .u64 n), s4_.setCell (p := ⟨w.heap.size, 0, none⟩) (by simp) (.int .u64 n)⟩ (fun hHeld => ?_)
 clear hK K
 obtain ⟨s0_, s1_, s2_, s3_, s4_⟩ := hHeld
 refine jBS (i := 6) (N := none) (ba_ 8 127) rfl rfl kr_ (by decide) (fun K hK => ?_)
 have hc := (jJ s1_ 0).trans (show _ = some (.string { data := #[] }) from rfl)
 have hf := jT s1_ 0
 refine jAu (w1 := ?_) (by rfl) rfl ?_ ?_
 rotate_left
 ·
  go_simp
  rfl
 refine hK.out _ _ ?_
 clear hK K
 have e0 := jd (p := ⟨w.heap.size + 1, 0, none⟩) s0_ (by simp) (.string t)
 have e1 := jw (cs' := #[.string t]) s1_ 0 (.string t) rfl
 have e2 := jd (p := ⟨w.heap.size + 1, 0, none⟩) s2_ (by simp) (.string t)
 have e4 := s4_.setCell (p := ⟨w.heap.size + 1, 0, none⟩) (by simp) (.string t)
 have c2 := (jJ s2_ 0).trans (show _ = some (.int .i64 0) from rfl)
 have z2 := jT s2_ 0
 clear s0_ s1_ s2_ s3_ s4_
 refine jBS (i := 7) (N := none) (ba_ 8 255) rfl rfl kr_ (by decide) (fun K hK => ?_)
 have hc := (jJ e2 0).trans (show _ = some (.int .i64 0) from rfl)
 have hf := jT e2 0
 refine jAu (w1 := ?_) (by rfl) rfl ?_ ?_
 rotate_left
 ·
  go_simp
  rfl
 refine hK.out _ _ ?_
 clear hK K
 have f0 := (jJ (jd (p := ⟨w.heap.size + 1 + 1, 0, none⟩) e0 (by simp; omega) (.int .i64 0)) 0).trans (show _ = some (.int .u64 n) from rfl)
 have f1 := (jJ (jd (p := ⟨w.heap.size + 1 + 1, 0, none⟩) e1 (by simp) (.int .i64 0)) 0).trans (show _ = some (.string t) from rfl)
 have f2 := (jJ (jw (cs' := #[.int .i64 0]) e2 0 (.int .i64 0) rfl) 0).trans (show _ = some (.int .i64 0) from rfl)
 have f4 := e4.setCell (p := ⟨w.heap.size + 1 + 1, 0, none⟩) (by simp; omega) (.int .i64 0)
 clear e0 e1 e2 e4
 refine jBZ kr_ ?_
 refine jAU ?_
 refine (‹∀ (a : Act) (w : World), Code.wp Try.prog Code.ret _ a w → _›) _ _ ?_
 clear hc hf c2 z2 X3 X0 Z0 CBB
 go_wp2
 generalize ((u0.setCell ⟨w.heap.size, 0, none⟩ (.int .u64 n)).setCell ⟨w.heap.size + 1, 0, none⟩ (.string t)).setCell ⟨w.heap.size + 1 + 1, 0, none⟩ (.int .i64 0) = w3 at f0 f1 f2 f4 ⊢
 unfold bodyPostD
 refine leaves_cons (f := 59) (args := #[.pointer (some ⟨w.heap.size + 1 + 1, 0, none⟩), .func (.func 60) #[] #[.pointer (some ⟨w.heap.size, 0, none⟩), .pointer (some ⟨w.heap.size + 1, 0, none⟩)]]) (by simp) kr_ ?_
 refine (jBG _ _ _).mono ?_
 rintro e u' w'' ⟨rfl, rfl, rfl⟩
 simp [Leaves, settle, results, Try.results18, go_sem, f0, f1, f2]
 exact f4
end zY

def zY.f (a0 : ByteArray) : Option (Int × ByteArray × Int) := if a0.size ≤ 140737488351232 then some (match Oct.num a0 with | .inl c => (0, { data := #[] }, c) | .inr (n, t) => (n, t, 0)) else none

theorem zY.calls (a0 : ByteArray) (r1 : Int) (r2 : ByteArray) (r3 : Int) (w : World) (h : zY.f a0 = some (r1, r2, r3)) :
  Calls Try.prog 18 #[.string a0] w fun e w' => e = .returned (.tuple #[.int .u64 r1, .string r2, .int .i64 r3]) ∧ Below w.heap.size w w' := by
 unfold zY.f at h
 by_cases hz : a0.size ≤ 140737488351232
 ·
  rw [if_pos hz] at h
  cases hn : Oct.num a0 with
  | inl c =>
   rw [hn] at h
   cases h
   exact zY.jGh a0 w _ hn hz
  | inr p =>
   obtain ⟨n, t⟩ := p
   rw [hn] at h
   cases h
   exact zY.jFe a0 w _ _ hn hz
 ·
  rw [if_neg hz] at h; cases h

/-! ### vG: function 16 -/
def vG.f (k : Nat)  : Option (Bool) := (zG.f k 258).bind fun t110 => (if t110.size + 1 ≤ 9223372036854775807 then ((zY.f (t110 ++ (⟨#[122]⟩ : ByteArray))).bind fun bt111 => (if bt111.1 = 258 then (if bt111.2.1.toList = ([122] : List UInt8) then (if bt111.2.2 = 0 then ((zG.f k 258).bind fun t114 => (some (t114.toList == ([2, 1, 2] : List UInt8)))) else (some false)) else (some false)) else (some false))) else (none))
theorem vG.mono : ∀ k, LeO (vG.f k ) (vG.f (k + 1) ) := by
 intro  k
 unfold vG.f
 repeat' first
   | (with_reducible exact zG.mono _ _)
   | (with_reducible exact LeO.refl _)
   | (with_reducible exact LeO.none _)
   | (with_reducible refine LeO.ite ?_ ?_)
   | (with_reducible refine LeO.bind ?_ (fun _ => ?_))
theorem vG.calls (k : Nat)  (r : Bool) (w : World) (h : vG.f k  = some r) :
  Calls Try.prog 16 #[] w fun e w' => e = .returned (.bool r) ∧ Below w.heap.size w w' := by
 have HB := jA.mk (Below.refl w.heap.size w)
 have H : ((zG.f k 258).bind fun t110 => (if t110.size + 1 ≤ 9223372036854775807 then ((zY.f (t110 ++ (⟨#[122]⟩ : ByteArray))).bind fun bt111 => (if bt111.1 = 258 then (if bt111.2.1.toList = ([122] : List UInt8) then (if bt111.2.2 = 0 then ((zG.f k 258).bind fun t114 => (some (t114.toList == ([2, 1, 2] : List UInt8)))) else (some false)) else (some false)) else (some false))) else (none))) = some r := h
 clear h
 replace H := ob_ H
 obtain ⟨t110, A10, H⟩ := H
 try dsimp only at H
 have A1 := jA.mk A10
 clear A10
 by_cases c2 : t110.size + 1 ≤ 9223372036854775807
 ·
  rw [if_pos c2] at H
  have c2b0 := eq_true c2
  have c2b1 := decide_eq_true c2
  try have c2b2 : (9223372036854775807 < t110.size + 1) = False := eq_false (Nat.not_lt.2 c2)
  replace H := ob_ H
  obtain ⟨⟨t111, t112, t113⟩, A30, H⟩ := H
  try dsimp only at H
  have A3 := jA.mk A30
  clear A30
  by_cases c4 : t111 = 258
  ·
   rw [if_pos c4] at H
   have c4b0 := beq_iff_eq.mpr c4
   have c4b1 := bne_eq_false_iff_eq.mpr c4
   clear c4
   by_cases c5 : t112.toList = ([122] : List UInt8)
   ·
    rw [if_pos c5] at H
    have c5b0 := beq_iff_eq.mpr c5
    have c5b1 := bne_eq_false_iff_eq.mpr c5
    clear c5
    by_cases c6 : t113 = 0
    ·
     rw [if_pos c6] at H
     have c6b0 := beq_iff_eq.mpr c6
     have c6b1 := bne_eq_false_iff_eq.mpr c6
     clear c6
     replace H := ob_ H
     obtain ⟨t114, A70, H⟩ := H
     try dsimp only at H
     have A7 := jA.mk A70
     clear A70
     obtain rfl := Option.some.inj H
     go_enter Try.func16, Try.ntmps16
     go_wp2_with (first | ((with_reducible refine jG (f := 15) rfl ?_); refine jo (some 5) rfl rfl Try.func15 kr_ rfl #[.int .u64 258] rfl mt_ ?_; (with_reducible refine (zG.calls k 258 t110 _ A1.out).mono ?_); rintro e w8 ⟨rfl, hb⟩; refine ⟨_, rfl, ?_⟩; replace HB := bs_ HB hb) | ((with_reducible refine jG (f := 18) rfl ?_); refine jo (some 7) rfl rfl Try.func18 kr_ rfl #[.string (t110 ++ (⟨#[122]⟩ : ByteArray))] rfl mt_ ?_; (with_reducible refine (zY.calls (t110 ++ (⟨#[122]⟩ : ByteArray)) t111 t112 t113 _ A3.out).mono ?_); rintro e w9 ⟨rfl, hb⟩; refine ⟨_, rfl, ?_⟩; replace HB := bs_ HB hb) | ((with_reducible refine jr (N := 22) rfl ?_); refine vE (by first | rfl | kernel_rfl) ?_; dsimp only; (with_reducible refine jG (f := 15) rfl ?_); refine jo (some 22) rfl rfl Try.func15 kr_ rfl #[.int .u64 258] rfl mt_ ?_; (with_reducible refine (zG.calls k 258 t114 _ A7.out).mono ?_); rintro e w10 ⟨rfl, hb⟩; refine ⟨_, rfl, ?_⟩; replace HB := bs_ HB hb))
     go_ret
     exact ⟨ew_, (bb_ HB)⟩
    ·
     rw [if_neg c6] at H
     have c6b0 := beq_eq_false_iff_ne.mpr c6
     have c6b1 := bne_iff_ne.mpr c6
     obtain rfl := Option.some.inj H
     go_enter Try.func16, Try.ntmps16
     go_wp2_with (first | ((with_reducible refine jG (f := 15) rfl ?_); refine jo (some 5) rfl rfl Try.func15 kr_ rfl #[.int .u64 258] rfl mt_ ?_; (with_reducible refine (zG.calls k 258 t110 _ A1.out).mono ?_); rintro e w11 ⟨rfl, hb⟩; refine ⟨_, rfl, ?_⟩; replace HB := bs_ HB hb) | ((with_reducible refine jG (f := 18) rfl ?_); refine jo (some 7) rfl rfl Try.func18 kr_ rfl #[.string (t110 ++ (⟨#[122]⟩ : ByteArray))] rfl mt_ ?_; (with_reducible refine (zY.calls (t110 ++ (⟨#[122]⟩ : ByteArray)) t111 t112 t113 _ A3.out).mono ?_); rintro e w12 ⟨rfl, hb⟩; refine ⟨_, rfl, ?_⟩; replace HB := bs_ HB hb))
     go_ret
     exact ⟨ew_, (bb_ HB)⟩
   ·
    rw [if_neg c5] at H
    have c5b0 := beq_eq_false_iff_ne.mpr c5
    have c5b1 := bne_iff_ne.mpr c5
    obtain rfl := Option.some.inj H
    go_enter Try.func16, Try.ntmps16
    go_wp2_with (first | ((with_reducible refine jG (f := 15) rfl ?_); refine jo (some 5) rfl rfl Try.func15 kr_ rfl #[.int .u64 258] rfl mt_ ?_; (with_reducible refine (zG.calls k 258 t110 _ A1.out).mono ?_); rintro e w13 ⟨rfl, hb⟩; refine ⟨_, rfl, ?_⟩; replace HB := bs_ HB hb) | ((with_reducible refine jG (f := 18) rfl ?_); refine jo (some 7) rfl rfl Try.func18 kr_ rfl #[.string (t110 ++ (⟨#[122]⟩ : ByteArray))] rfl mt_ ?_; (with_reducible refine (zY.calls (t110 ++ (⟨#[122]⟩ : ByteArray)) t111 t112 t113 _ A3.out).mono ?_); rintro e w14 ⟨rfl, hb⟩; refine ⟨_, rfl, ?_⟩; replace HB := bs_ HB hb))
    go_ret
    exact ⟨ew_, (bb_ HB)⟩
  ·
   rw [if_neg c4] at H
   have c4b0 := beq_eq_false_iff_ne.mpr c4
   have c4b1 := bne_iff_ne.mpr c4
   obtain rfl := Option.some.inj H
   go_enter Try.func16, Try.ntmps16
   go_wp2_with (first | ((with_reducible refine jG (f := 15) rfl ?_); refine jo (some 5) rfl rfl Try.func15 kr_ rfl #[.int .u64 258] rfl mt_ ?_; (with_reducible refine (zG.calls k 258 t110 _ A1.out).mono ?_); rintro e w15 ⟨rfl, hb⟩; refine ⟨_, rfl, ?_⟩; replace HB := bs_ HB hb) | ((with_reducible refine jG (f := 18) rfl ?_); refine jo (some 7) rfl rfl Try.func18 kr_ rfl #[.string (t110 ++ (⟨#[122]⟩ : ByteArray))] rfl mt_ ?_; (with_reducible refine (zY.calls (t110 ++ (⟨#[122]⟩ : ByteArray)) t111 t112 t113 _ A3.out).mono ?_); rintro e w16 ⟨rfl, hb⟩; refine ⟨_, rfl, ?_⟩; replace HB := bs_ HB hb))
   go_ret
   exact ⟨ew_, (bb_ HB)⟩
 ·
  rw [if_neg c2] at H
  exact absurd H (by simp)

-- NOT PRINTED: function 62 (octet_GetText_1)

/-! ### vT: function 19 -/

def vT.txt (s : ByteArray) : Int ⊕ (ByteArray × ByteArray) := match Oct.num s with
 | .inl c => .inl c
 | .inr (n, t) => if t.size < n.toNat then .inl 60 else .inr (t.extract 0 n.toNat, t.extract n.toNat t.size)
namespace vT
open Oct
theorem jDe (p q : Addr) (x y : Value) (w : World) (hp : w.cell? p = some x) (hq : w.cell? q = some y) (fp : w.frozen? p = false) (fq : w.frozen? q = false) (hpq : p.block ≠ q.block) :
  Calls Try.prog 62 #[.pointer (some p), .pointer (some q)] w fun e w' => e = .returned (.tuple #[]) ∧ w' = (w.setCell p (.string { data := #[] })).setCell q (.string { data := #[] }) := by
 have hq' : (w.setCell p (.string { data := #[] })).cell? q = some y := by rw [World.cell?_setCell_other _ _ _ _ (fun e => hpq (by rw [e]))]; exact hq
 go_enter Try.func62, Try.ntmps62
 go_wp2
 go_end0
 exact ⟨rfl, rfl⟩
def jBI (s : ByteArray) (w : World) : World := (((w.alloc (.cells #[.string { data := #[] }] 9)).alloc (.cells #[.string { data := #[] }] 9)).alloc (.cells #[.int .i64 0] 28)).alloc (.cells #[.string s] 86)
theorem zk (w : World) (o : Obj) : (w.alloc o).heap.size = w.heap.size + 1 := Array.size_push _
theorem jEL (s : ByteArray) (w : World) : (jBI s w).heap[w.heap.size]? = some (.cells #[.string { data := #[] }] 9 (0, 0)) := vP (vP (vP (qE _ _) _) _) _
theorem jEK (s : ByteArray) (w : World) : (jBI s w).heap[w.heap.size + 1]? = some (.cells #[.string { data := #[] }] 9 (0, 0)) := by rw [← zk w (.cells #[.string { data := #[] }] 9)]; exact vP (vP (qE _ _) _) _
theorem jEJ (s : ByteArray) (w : World) : (jBI s w).heap[w.heap.size + 1 + 1]? = some (.cells #[.int .i64 0] 28 (0, 0)) := by rw [← zk w (.cells #[.string { data := #[] }] 9), ← zk _ (.cells #[.string { data := #[] }] 9)]; exact vP (qE _ _) _
theorem jEI (s : ByteArray) (w : World) : (jBI s w).heap[w.heap.size + 1 + 1 + 1]? = some (.cells #[.string s] 86 (0, 0)) := by rw [← zk w (.cells #[.string { data := #[] }] 9), ← zk _ (.cells #[.string { data := #[] }] 9), ← zk _ (.cells #[.int .i64 0] 28)]; exact qE _ _
theorem jBt (s : ByteArray) (w : World) : (jBI s w).heap.size = w.heap.size + 1 + 1 + 1 + 1 := by unfold jBI; rw [zk, zk, zk, zk]
theorem jBb (s : ByteArray) (w : World) : Below w.heap.size w (jBI s w) :=
 jy (jy (jy (jy (Below.refl _ w) _) _) _) _
set_option maxHeartbeats 4000000 in
theorem jGg (s : ByteArray) (w : World) (c : Int) (hn : num s = .inl c) (hz : s.size ≤ 140737488351232) :
  Calls Try.prog 19 #[.string s] w fun e w' => e = .returned (.tuple #[.string { data := #[] }, .string { data := #[] }, .int .i64 c]) ∧ Below w.heap.size w w' := by
 have hmf : ∀ (fn : Fn) (first cap : Array Value) (w : World), (Instr.makeFunc fn first cap).run Try.prog w = .ok (.func fn first cap) w := fun _ _ _ _ => rfl
 have H0 := jA.mk (jEL s w)
 have H1 := jA.mk (jEK s w)
 have H2 := jA.mk (jEJ s w)
 have H3 := jA.mk (jEI s w)
 have HW := jA.mk (jBb s w)
 have HZ := jA.mk (jBt s w)
 have HN := jA.mk (jAG (g := w.heap.size + 1 + 1 + 1) (w := jBI s w) hn)
 clear hn
 go_enter_defers Try.func19, Try.ntmps19
 go_wp2_with fail
 refine (show Calls Try.prog 61 _ (jBI s w) (jAW _ s (jBI s w)) from jAf _ s _ H3.out hz).mono ?_
 rw [HN.out]
 generalize jBI s w = W at H0 H1 H2 H3 HW HN HZ ⊢
 rintro e w1 ⟨rfl, ⟨hb, _⟩⟩
 have C0 := jA.mk ((hb.block _ (by omega)).trans H0.out)
 have C1 := jA.mk ((hb.block _ (by omega)).trans H1.out)
 have C2 := jA.mk ((hb.block _ (by omega)).trans H2.out)
 have CB := jA.mk (HW.out.trans (hb.mono (by omega)))
 clear hb
 show bodyPostD Try.prog Try.f19 _ (Exit.panic _) _ _
 unfold bodyPostD pan
 refine leaves_cons (f := 59) (args := #[.pointer (some ⟨w.heap.size + 1 + 1, 0, none⟩), .func (.func 62) #[] #[.pointer (some ⟨w.heap.size, 0, none⟩), .pointer (some ⟨w.heap.size + 1, 0, none⟩)]]) (by simp) kr_ ?_
 have D0 := jd (p := ⟨w.heap.size + 1 + 1, 0, none⟩) C0.out (by simp; omega) (.int .i64 c)
 have D1 := jd (p := ⟨w.heap.size + 1 + 1, 0, none⟩) C1.out (by simp) (.int .i64 c)
 have DB := (CB.out.setCell (p := ⟨w.heap.size + 1 + 1, 0, none⟩) (by simp; omega) (.int .i64 c))
 have HU := jDe ⟨w.heap.size, 0, none⟩ ⟨w.heap.size + 1, 0, none⟩ _ _ _ ((jJ D0 0).trans rfl) ((jJ D1 0).trans rfl) (jT D0 0) (jT D1 0) (by simp)
 have DU := (DB.setCell (p := ⟨w.heap.size, 0, none⟩) (by simp) (.string { data := #[] })).setCell (p := ⟨w.heap.size + 1, 0, none⟩) (by simp) (.string { data := #[] })
 have E2 := jd (p := ⟨w.heap.size + 1, 0, none⟩) (jd (p := ⟨w.heap.size, 0, none⟩) (jw (cs' := #[.int .i64 c]) C2.out 0 (.int .i64 c) rfl) (by simp; omega) (.string { data := #[] })) (by simp) (.string { data := #[] })
 have E0 := jd (p := ⟨w.heap.size + 1, 0, none⟩) (jw (cs' := #[.string { data := #[] }]) D0 0 (.string { data := #[] }) rfl) (by simp) (.string { data := #[] })
 have E1 := jw (cs' := #[.string { data := #[] }]) (jd (p := ⟨w.heap.size, 0, none⟩) D1 (by simp) (.string { data := #[] })) 0 (.string { data := #[] }) rfl
 refine (jAY ⟨w.heap.size + 1 + 1, 0, none⟩ 0 c 62 Try.f62 _ [] w1 _ ((jJ C2.out 0).trans rfl) (jT C2.out 0) (fun _ _ => kr_) HU).mono ?_
 rintro e u' w'' ⟨rfl, rfl, rfl⟩
 have F2 := (jJ E2 0).trans (show _ = some (.int .i64 c) from rfl)
 have F0 := (jJ E0 0).trans (show _ = some (.string { data := #[] }) from rfl)
 have F1 := (jJ E1 0).trans (show _ = some (.string { data := #[] }) from rfl)
 clear E0 E1 E2 HU D0 D1 DB
 generalize ((w1.setCell ⟨w.heap.size + 1 + 1, 0, none⟩ (.int .i64 c)).setCell ⟨w.heap.size, 0, none⟩ (.string { data := #[] })).setCell ⟨w.heap.size + 1, 0, none⟩ (.string { data := #[] }) = w3 at DU F0 F1 F2 ⊢
 simp [Leaves, settle, results, Try.results19, go_sem, F0, F1, F2]
 exact DU

set_option maxHeartbeats 4000000 in
theorem jDx (m : Nat) (x : ByteArray) (s : ByteArray) (w : World) (c : Int) (hn : num s = .inr ((m : Int), x) ∧ x.size < m ∧ c = 60) (hz : s.size ≤ 140737488351232) :
  Calls Try.prog 19 #[.string s] w fun e w' => e = .returned (.tuple #[.string { data := #[] }, .string { data := #[] }, .int .i64 c]) ∧ Below w.heap.size w w' := by
 have hmf : ∀ (fn : Fn) (first cap : Array Value) (w : World), (Instr.makeFunc fn first cap).run Try.prog w = .ok (.func fn first cap) w := fun _ _ _ _ => rfl
 have H0 := jA.mk (jEL s w)
 have H1 := jA.mk (jEK s w)
 have H2 := jA.mk (jEJ s w)
 have H3 := jA.mk (jEI s w)
 have HW := jA.mk (jBb s w)
 have HZ := jA.mk (jBt s w)
 obtain ⟨hn, hm, ht⟩ := hn
 have HX := jA.mk (jBE hn)
 have HN := jA.mk (jAI (g := w.heap.size + 1 + 1 + 1) (w := jBI s w) hn)
 clear hn
 go_enter_defers Try.func19, Try.ntmps19
 go_wp2_with fail
 refine (show Calls Try.prog 61 _ (jBI s w) (jAW _ s (jBI s w)) from jAf _ s _ H3.out hz).mono ?_
 rw [HN.out]
 generalize jBI s w = W at H0 H1 H2 H3 HW HN HZ ⊢
 rintro e w1 ⟨rfl, ⟨hb2, _⟩, h2⟩
 clear HN
 go_wp2_with fail
 have HG := jA.mk hb2
 refine (jCT (w.heap.size + 1 + 1 + 1) m x w1 h2 (by have := HX.out; omega) hm).mono ?_
 rintro e w2 ⟨rfl, rfl⟩
 rw [← ht]
 have hb := HG.out
 have C0 := jA.mk ((hb.block _ (by omega)).trans H0.out)
 have C1 := jA.mk ((hb.block _ (by omega)).trans H1.out)
 have C2 := jA.mk ((hb.block _ (by omega)).trans H2.out)
 have CB := jA.mk (HW.out.trans (hb.mono (by omega)))
 clear hb
 show bodyPostD Try.prog Try.f19 _ (Exit.panic _) _ _
 unfold bodyPostD pan
 refine leaves_cons (f := 59) (args := #[.pointer (some ⟨w.heap.size + 1 + 1, 0, none⟩), .func (.func 62) #[] #[.pointer (some ⟨w.heap.size, 0, none⟩), .pointer (some ⟨w.heap.size + 1, 0, none⟩)]]) (by simp) kr_ ?_
 have D0 := jd (p := ⟨w.heap.size + 1 + 1, 0, none⟩) C0.out (by simp; omega) (.int .i64 c)
 have D1 := jd (p := ⟨w.heap.size + 1 + 1, 0, none⟩) C1.out (by simp) (.int .i64 c)
 have DB := (CB.out.setCell (p := ⟨w.heap.size + 1 + 1, 0, none⟩) (by simp; omega) (.int .i64 c))
 have HU := jDe ⟨w.heap.size, 0, none⟩ ⟨w.heap.size + 1, 0, none⟩ _ _ _ ((jJ D0 0).trans rfl) ((jJ D1 0).trans rfl) (jT D0 0) (jT D1 0) (by simp)
 have DU := (DB.setCell (p := ⟨w.heap.size, 0, none⟩) (by simp) (.string { data := #[] })).setCell (p := ⟨w.heap.size + 1, 0, none⟩) (by simp) (.string { data := #[] })
 have E2 := jd (p := ⟨w.heap.size + 1, 0, none⟩) (jd (p := ⟨w.heap.size, 0, none⟩) (jw (cs' := #[.int .i64 c]) C2.out 0 (.int .i64 c) rfl) (by simp; omega) (.string { data := #[] })) (by simp) (.string { data := #[] })
 have E0 := jd (p := ⟨w.heap.size + 1, 0, none⟩) (jw (cs' := #[.string { data := #[] }]) D0 0 (.string { data := #[] }) rfl) (by simp) (.string { data := #[] })
 have E1 := jw (cs' := #[.string { data := #[] }]) (jd (p := ⟨w.heap.size, 0, none⟩) D1 (by simp) (.string { data := #[] })) 0 (.string { data := #[] }) rfl
 refine (jAY ⟨w.heap.size + 1 + 1, 0, none⟩ 0 c 62 Try.f62 _ [] w1 _ ((jJ C2.out 0).trans rfl) (jT C2.out 0) (fun _ _ => kr_) HU).mono ?_
 rintro e u' w'' ⟨rfl, rfl, rfl⟩
 have F2 := (jJ E2 0).trans (show _ = some (.int .i64 c) from rfl)
 have F0 := (jJ E0 0).trans (show _ = some (.string { data := #[] }) from rfl)
 have F1 := (jJ E1 0).trans (show _ = some (.string { data := #[] }) from rfl)
 clear E0 E1 E2 HU D0 D1 DB
 generalize ((w1.setCell ⟨w.heap.size + 1 + 1, 0, none⟩ (.int .i64 c)).setCell ⟨w.heap.size, 0, none⟩ (.string { data := #[] })).setCell ⟨w.heap.size + 1, 0, none⟩ (.string { data := #[] }) = w3 at DU F0 F1 F2 ⊢
 simp [Leaves, settle, results, Try.results19, go_sem, F0, F1, F2]
 exact DU

set_option maxHeartbeats 4000000 in
theorem jFd (s : ByteArray) (w : World) (m : Nat) (x : ByteArray) (t : ByteArray) (hn : num s = .inr ((m : Int), x) ∧ m ≤ x.size ∧ x.extract m x.size = t) (hz : s.size ≤ 140737488351232) :
  Calls Try.prog 19 #[.string s] w fun e w' => e = .returned (.tuple #[.string (x.extract 0 m), .string t, .int .i64 0]) ∧ Below w.heap.size w w' := by
 have hmf : ∀ (fn : Fn) (first cap : Array Value) (w : World), (Instr.makeFunc fn first cap).run Try.prog w = .ok (.func fn first cap) w := fun _ _ _ _ => rfl
 have H0 := jA.mk (jEL s w)
 have H1 := jA.mk (jEK s w)
 have H2 := jA.mk (jEJ s w)
 have H3 := jA.mk (jEI s w)
 have HW := jA.mk (jBb s w)
 have HZ := jA.mk (jBt s w)
 obtain ⟨hn, hm, ht⟩ := hn
 have HX := jA.mk (jBE hn)
 have HN := jA.mk (jAI (g := w.heap.size + 1 + 1 + 1) (w := jBI s w) hn)
 clear hn
 go_enter_defers Try.func19, Try.ntmps19
 go_wp2_with fail
 refine (show Calls Try.prog 61 _ (jBI s w) (jAW _ s (jBI s w)) from jAf _ s _ H3.out hz).mono ?_
 rw [HN.out]
 generalize jBI s w = W at H0 H1 H2 H3 HW HN HZ ⊢
 rintro e w2 ⟨rfl, ⟨hb2, _⟩, h2⟩
 clear HN
 go_wp2_with fail
 have HG := jA.mk hb2
 refine (jAy (w.heap.size + 1 + 1 + 1) m x w2 h2 (by have := HX.out; omega) hm).mono ?_
 rintro e w1 ⟨rfl, rfl⟩
 rw [ht]
 have hb : Below (w.heap.size + 1 + 1 + 1) W (w2.setCell ⟨w.heap.size + 1 + 1 + 1, 0, none⟩ (.string t)) := HG.out.setCell (Nat.le_refl _) _
 have h3 := jw (cs' := #[.string t]) h2 0 (.string t) rfl
 clear HG hb2 h2 HX
 generalize w2.setCell ⟨w.heap.size + 1 + 1 + 1, 0, none⟩ (.string t) = w1 at hb h3 ⊢
 have C0 := (hb.block _ (by omega)).trans H0.out
 have C1 := (hb.block _ (by omega)).trans H1.out
 have C2 := (hb.block _ (by omega)).trans H2.out
 have CB := HW.out.trans (hb.mono (by omega))
 have X3 := (jJ h3 0).trans (show _ = some (.string t) from rfl)
 have X0 := (jJ C0 0).trans (show _ = some (.string { data := #[] }) from rfl)
 have Z0 := jT C0 0
 have HZ0 := HZ
 clear hb HW H0 H1 H2 H3 HZ
 have CBB := jA.mk CB
 have D0 := jA.mk (jw (cs' := #[.string (x.extract 0 m)]) C0 0 (.string (x.extract 0 m)) rfl)
 have D1 := jA.mk (jd (p := ⟨w.heap.size, 0, none⟩) C1 (by simp) (.string (x.extract 0 m)))
 have D2 := jA.mk (jd (p := ⟨w.heap.size, 0, none⟩) C2 (by simp; omega) (.string (x.extract 0 m)))
 have D3 := jA.mk (jd (p := ⟨w.heap.size, 0, none⟩) h3 (by simp; omega) (.string (x.extract 0 m)))
 have DB := jA.mk (CB.setCell (p := ⟨w.heap.size, 0, none⟩) (by simp) (.string (x.extract 0 m)))
 clear C0 C1 C2 CB h3
 go_wp2
 generalize w1.setCell ⟨w.heap.size, 0, none⟩ (.string (x.extract 0 m)) = v0 at D0 D1 D2 D3 DB ⊢
 refine jDI ?_
 refine jAc (n := 8) (S := fun w' => w'.heap[w.heap.size]? = some (.cells #[.string (x.extract 0 m)] 9 (0, 0)) ∧ w'.heap[w.heap.size + 1]? = some (.cells #[.string { data := #[] }] 9 (0, 0)) ∧ w'.heap[w.heap.size + 1 + 1]? = some (.cells #[.int .i64 0] 28 (0, 0)) ∧ w'.heap[w.heap.size + 1 + 1 + 1]? = some (.cells #[.string t] 86 (0, 0)) ∧ Below w.heap.size w w') (ds := [6, 7]) #[false, false, false, false, false, false, false, false] kr_ rfl rfl ⟨vk D0.out, vk D1.out, vk D2.out, vk D3.out, ze DB.out⟩ (fun hHeld => ?_)
 generalize v0.drew = u0 at hHeld ⊢
 clear D0 D1 D2 D3 DB
 refine jBM (i := 0) (N := some 14) (v := ?_) (a' := ?_) (ba_ 8 1) rfl rfl kr_ (fun _ _ _ h => h) (Or.inl ⟨by rfl, ?_⟩) hHeld ?_ ?_
 rotate_left
 ·
  rintro w' ⟨s0_, s1_, s2_, s3_, s4_⟩
  have hc := (jJ s0_ 0).trans (show _ = some (.string (x.extract 0 m)) from rfl)
  go_simp
  with_reducible rfl
 rotate_left
 ·
  simp only [Act.put, ss_, zF, zW]
  rfl
 refine pu_ 1 (some 15) (ba_ 8 3) kr_ ?_
 refine pu_ 2 (some 16) (ba_ 8 7) kr_ ?_
 refine pu_ 3 (some 17) (ba_ 8 15) kr_ ?_
 refine jBM (i := 4) (N := some 18) (v := ?_) (a' := ?_) (ba_ 8 31) rfl rfl kr_ (fun _ _ _ h => h) (Or.inl ⟨by rfl, ?_⟩) hHeld ?_ ?_
 rotate_left
 ·
  rintro w' ⟨s0_, s1_, s2_, s3_, s4_⟩
  have hc := (jJ s3_ 0).trans (show _ = some (.string t) from rfl)
  go_simp
  with_reducible rfl
 rotate_left
 ·
  simp only [Act.put, ss_, zF, zW]
  rfl
 obtain ⟨s0_, s1_, s2_, s3_, s4_⟩ := hHeld
 refine one_ (i := 5) (N := none) (ba_ 8 63) rfl rfl kr_ (by decide) (fun K hK => ?_)
 have hc := (jJ s0_ 0).trans (show _ = some (.string (x.extract 0 m)) from rfl)
 have hf := jT s0_ 0
 refine jAu (w1 := ?_) (by rfl) rfl ?_ ?_
 rotate_left
 ·
  go_simp
  rfl
 refine hK.out _ _ ⟨jw s0_ 0 (.string (x.extract 0 m)) rfl, jd (p := ⟨w.heap.size, 0, none⟩) s1_ (by simp) (.string (x.extract 0 m)), jd (p := ⟨w.heap.size, 0, none⟩) s2_ (by simp; omega) (.string (x.extract 0 m)), jd (p := ⟨w.heap.size, 0, none⟩) s3_ (by simp; omega) (.string (x.extract 0 m)), s4_.setCell (p := ⟨w.heap.size, 0, none⟩) (by simp) (.string (x.extract 0 m))⟩ (fun hHeld => ?_)
 clear hK K
 obtain ⟨s0_, s1_, s2_, s3_, s4_⟩ := hHeld
 refine jBS (i := 6) (N := none) (ba_ 8 127) rfl rfl kr_ (by decide) (fun K hK => ?_)
 have hc := (jJ s1_ 0).trans (show _ = some (.string { data := #[] }) from rfl)
 have hf := jT s1_ 0
 refine jAu (w1 := ?_) (by rfl) rfl ?_ ?_
 rotate_left
 ·
  go_simp
  rfl
 refine hK.out _ _ ?_
 clear hK K
 have e0 := jd (p := ⟨w.heap.size + 1, 0, none⟩) s0_ (by simp) (.string t)
 have e1 := jw (cs' := #[.string t]) s1_ 0 (.string t) rfl
 have e2 := jd (p := ⟨w.heap.size + 1, 0, none⟩) s2_ (by simp) (.string t)
 have e4 := s4_.setCell (p := ⟨w.heap.size + 1, 0, none⟩) (by simp) (.string t)
 have c2 := (jJ s2_ 0).trans (show _ = some (.int .i64 0) from rfl)
 have z2 := jT s2_ 0
 clear s0_ s1_ s2_ s3_ s4_
 refine jBS (i := 7) (N := none) (ba_ 8 255) rfl rfl kr_ (by decide) (fun K hK => ?_)
 have hc := (jJ e2 0).trans (show _ = some (.int .i64 0) from rfl)
 have hf := jT e2 0
 refine jAu (w1 := ?_) (by rfl) rfl ?_ ?_
 rotate_left
 ·
  go_simp
  rfl
 refine hK.out _ _ ?_
 clear hK K
 have f0 := (jJ (jd (p := ⟨w.heap.size + 1 + 1, 0, none⟩) e0 (by simp; omega) (.int .i64 0)) 0).trans (show _ = some (.string (x.extract 0 m)) from rfl)
 have f1 := (jJ (jd (p := ⟨w.heap.size + 1 + 1, 0, none⟩) e1 (by simp) (.int .i64 0)) 0).trans (show _ = some (.string t) from rfl)
 have f2 := (jJ (jw (cs' := #[.int .i64 0]) e2 0 (.int .i64 0) rfl) 0).trans (show _ = some (.int .i64 0) from rfl)
 have f4 := e4.setCell (p := ⟨w.heap.size + 1 + 1, 0, none⟩) (by simp; omega) (.int .i64 0)
 clear e0 e1 e2 e4
 refine jBZ kr_ ?_
 refine jAU ?_
 refine (‹∀ (a : Act) (w : World), Code.wp Try.prog Code.ret _ a w → _›) _ _ ?_
 clear hc hf c2 z2 X3 X0 Z0 CBB
 go_wp2
 generalize ((u0.setCell ⟨w.heap.size, 0, none⟩ (.string (x.extract 0 m))).setCell ⟨w.heap.size + 1, 0, none⟩ (.string t)).setCell ⟨w.heap.size + 1 + 1, 0, none⟩ (.int .i64 0) = w3 at f0 f1 f2 f4 ⊢
 unfold bodyPostD
 refine leaves_cons (f := 59) (args := #[.pointer (some ⟨w.heap.size + 1 + 1, 0, none⟩), .func (.func 62) #[] #[.pointer (some ⟨w.heap.size, 0, none⟩), .pointer (some ⟨w.heap.size + 1, 0, none⟩)]]) (by simp) kr_ ?_
 refine (jBG _ _ _).mono ?_
 rintro e u' w'' ⟨rfl, rfl, rfl⟩
 simp [Leaves, settle, results, Try.results19, go_sem, f0, f1, f2]
 exact f4
end vT

def vT.f (a0 : ByteArray) : Option (ByteArray × ByteArray × Int) := if a0.size ≤ 140737488351232 then some (match vT.txt a0 with | .inl c => ({ data := #[] }, { data := #[] }, c) | .inr (n, t) => (n, t, 0)) else none

theorem vT.calls (a0 : ByteArray) (r1 : ByteArray) (r2 : ByteArray) (r3 : Int) (w : World) (h : vT.f a0 = some (r1, r2, r3)) :
  Calls Try.prog 19 #[.string a0] w fun e w' => e = .returned (.tuple #[.string r1, .string r2, .int .i64 r3]) ∧ Below w.heap.size w w' := by
 unfold vT.f at h
 by_cases hz : a0.size ≤ 140737488351232
 ·
  rw [if_pos hz] at h
  unfold vT.txt at h
  cases hn : Oct.num a0 with
  | inl c =>
   rw [hn] at h
   cases h
   exact vT.jGg a0 w _ hn hz
  | inr p =>
   obtain ⟨n, t⟩ := p
   obtain ⟨m, rfl⟩ := Int.eq_ofNat_of_zero_le (Oct.jDQ hn)
   rw [hn] at h
   simp only [Int.toNat_natCast] at h
   by_cases hm : t.size < m
   ·
    rw [if_pos hm] at h
    cases h
    exact vT.jDx m t a0 w _ ⟨hn, hm, rfl⟩ hz
   ·
    rw [if_neg hm] at h
    cases h
    exact vT.jFd a0 w _ _ _ ⟨hn, by omega, rfl⟩ hz
 ·
  rw [if_neg hz] at h; cases h

-- NOT PRINTED: function 66 (octet_GetNat_1)

/-! ### zn: function 64 -/
def zn.f (l0 : List Int) : Option (Bool) := if (l0.length : Int) ≤ 8 then (if (l0.length : Int) = 0 then (some true) else (if 0 ≤ (wrap64 ((l0.length : Int) - 1)) then (if (wrap64 ((l0.length : Int) - 1)) < (l0.length : Int) then (some ((rd l0 (wrap64 ((l0.length : Int) - 1))) != 0)) else (none)) else (none))) else (some false)
theorem zn.calls (A0 : Option Addr) (c0 : Nat) (l0 : List Int) (r : Bool) (w : World) (hr0 : Kd.C (Kd.int .u64) w A0 l0.length l0) (hc0 : l0.length ≤ c0) (h : zn.f l0 = some r) :
  Calls Try.prog 64 #[.slice A0 l0.length c0] w fun e w' => e = .returned (.bool r) ∧ vR w w' := by
 have HR0 := jA.mk hr0
 have HC0 := jA.mk hc0
 clear hr0 hc0
 have H : (if (l0.length : Int) ≤ 8 then (if (l0.length : Int) = 0 then (some true) else (if 0 ≤ (wrap64 ((l0.length : Int) - 1)) then (if (wrap64 ((l0.length : Int) - 1)) < (l0.length : Int) then (some ((rd l0 (wrap64 ((l0.length : Int) - 1))) != 0)) else (none)) else (none))) else (some false)) = some r := h
 clear h
 by_cases c2 : (l0.length : Int) ≤ 8
 ·
  rw [if_pos c2] at H
  have c2b0 := decide_eq_true c2
  have c2b1 : decide (l0.length ≤ 8) = true := decide_eq_true (by omega)
  clear c2
  by_cases c3 : (l0.length : Int) = 0
  ·
   rw [if_pos c3] at H
   have c3b0 := beq_iff_eq.mpr c3
   have c3b1 := bne_eq_false_iff_eq.mpr c3
   clear c3
   obtain rfl := Option.some.inj H
   go_enter Try.func64, Try.ntmps64
   go_wp2
   go_ret
   exact ⟨by first | rfl | (simp; done) | (simp [*]; done), by repeat (first | exact vR.refl _ | apply vR.step)⟩
  ·
   rw [if_neg c3] at H
   have c3b0 := beq_eq_false_iff_ne.mpr c3
   have c3b1 := bne_iff_ne.mpr c3
   have c3b2 : ¬ (l0 = []) := fun h_ => c3 (by rw [h_]; rfl)
   obtain ⟨ji4, hji4⟩ : ∃ j_ : Int, (wrap64 ((l0.length : Int) - 1)) = j_ := ⟨_, rfl⟩
   replace H : (if 0 ≤ (ji4) then (if (ji4) < (l0.length : Int) then (some ((rd l0 (ji4)) != 0)) else (none)) else (none)) = some r := by first | (rw [hji4] at H; exact H) | (simp only [hji4] at H ⊢; exact H)
   have hji4w : (IntKind.i64.wrap ((l0.length : Int) - 1)) = ji4 := (zF _).trans hji4
   by_cases c5 : 0 ≤ (ji4)
   ·
    rw [if_pos c5] at H
    have c5b0 := decide_eq_true c5
    clear c5
    by_cases c6 : (ji4) < (l0.length : Int)
    ·
     rw [if_pos c6] at H
     have c6b0 := decide_eq_true c6
     clear c6
     obtain rfl := Option.some.inj H
     have p115 : 0 ≤ ((ji4) : Int) := of_decide_eq_true am_
     have q115 : (ji4) < (l0.length : Int) := of_decide_eq_true am_
     obtain ⟨ad115, e115, hx115_0⟩ := Kd.zD HR0.out (ji4) p115 q115
     cases e115
     replace p115 := eq_true p115
     replace q115 := eq_true q115
     go_enter Try.func64, Try.ntmps64
     go_wp2
     go_ret
     exact ⟨by first | rfl | (simp; done) | (simp only [← hji4] <;> (first | rfl | simp)) | (simp [*]; done), by repeat (first | exact vR.refl _ | apply vR.step)⟩
    ·
     rw [if_neg c6] at H
     exact absurd H (by simp)
   ·
    rw [if_neg c5] at H
    exact absurd H (by simp)
 ·
  rw [if_neg c2] at H
  have c2b0 := decide_eq_false c2
  have c2b1 : decide (l0.length ≤ 8) = false := decide_eq_false (by omega)
  clear c2
  obtain rfl := Option.some.inj H
  go_enter Try.func64, Try.ntmps64
  go_wp2
  go_ret
  exact ⟨by first | rfl | (simp; done) | (simp [*]; done), by repeat (first | exact vR.refl _ | apply vR.step)⟩

end Go.Proofs.Ytijgeonhbmgikaa.POOctetGets
