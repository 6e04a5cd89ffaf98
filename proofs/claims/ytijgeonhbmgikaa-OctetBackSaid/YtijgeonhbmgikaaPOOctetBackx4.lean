-- printed (pr.py)
import Derived.Test.YtijgeonhbmgikaaPOOctetBackx0
import Derived.Test.YtijgeonhbmgikaaPOOctetBackx1
import Derived.Test.YtijgeonhbmgikaaPOOctetBackx3
namespace Go.Proofs.Ytijgeonhbmgikaa.POOctetBack
open Go.RowKit Go.Proofs.YtijgeonhbmgikaaN Go.Proofs.YtijgeonhbmgikaaW.PrintWords Go.Proofs.YtijgeonhbmgikaaW.PrintLast Go.Proofs.YtijgeonhbmgikaaW.PrintMore
attribute [local go_sem] zW zU qC qA zF zD zV zT
set_option maxHeartbeats 8000000
set_option maxRecDepth 100000
set_option linter.unusedVariables false
set_option linter.unusedSimpArgs false

/-! ### jy: function 22 -/
namespace jy
open Oct
theorem jFJ (p q : Addr) (x y : Value) (w : World) (hp : w.cell? p = some x) (hq : w.cell? q = some y) (fp : w.frozen? p = false) (fq : w.frozen? q = false) (hpq : p.block ≠ q.block) :
  Calls Try.prog 66 #[.pointer (some p), .pointer (some q)] w fun e w' => e = .returned (.tuple #[]) ∧ w' = (w.setCell p (.slice none 0 0)).setCell q (.string { data := #[] }) := by
 have hq' : (w.setCell p (.slice none 0 0)).cell? q = some y := by rw [World.cell?_setCell_other _ _ _ _ (fun e => hpq (by rw [e]))]; exact hq
 go_enter Try.func66, Try.ntmps66
 go_wp2
 go_end0
 exact ⟨rfl, rfl⟩
def jBQ (s : ByteArray) (w : World) : World := (((w.alloc (.cells #[.slice none 0 0] 36)).alloc (.cells #[.string { data := #[] }] 9)).alloc (.cells #[.int .i64 0] 28)).alloc (.cells #[.string s] 86)
theorem vU (w : World) (o : Obj) : (w.alloc o).heap.size = w.heap.size + 1 := Array.size_push _
theorem jFG (s : ByteArray) (w : World) : (jBQ s w).heap[w.heap.size]? = some (.cells #[.slice none 0 0] 36 (0, 0)) := jY (jY (jY (zA _ _) _) _) _
theorem jFE (s : ByteArray) (w : World) : (jBQ s w).heap[w.heap.size + 1]? = some (.cells #[.string { data := #[] }] 9 (0, 0)) := by rw [← vU w (.cells #[.slice none 0 0] 36)]; exact jY (jY (zA _ _) _) _
theorem jFC (s : ByteArray) (w : World) : (jBQ s w).heap[w.heap.size + 1 + 1]? = some (.cells #[.int .i64 0] 28 (0, 0)) := by rw [← vU w (.cells #[.slice none 0 0] 36), ← vU _ (.cells #[.string { data := #[] }] 9)]; exact jY (zA _ _) _
theorem jFA (s : ByteArray) (w : World) : (jBQ s w).heap[w.heap.size + 1 + 1 + 1]? = some (.cells #[.string s] 86 (0, 0)) := by rw [← vU w (.cells #[.slice none 0 0] 36), ← vU _ (.cells #[.string { data := #[] }] 9), ← vU _ (.cells #[.int .i64 0] 28)]; exact zA _ _
theorem jCJ (s : ByteArray) (w : World) : (jBQ s w).heap.size = w.heap.size + 1 + 1 + 1 + 1 := by unfold jBQ; rw [vU, vU, vU, vU]
theorem jBi (s : ByteArray) (w : World) : Below w.heap.size w (jBQ s w) :=
 jR (jR (jR (jR (Below.refl _ w) _) _) _) _
set_option maxHeartbeats 4000000 in
theorem jFr (k : Nat) (s : ByteArray) (w : World) (c : Int) (hn : OctNat.nat_ k s = some (.inl c)) (hz : s.size ≤ 140737488351232) :
  Calls Try.prog 22 #[.string s] w fun e w' => e = .returned (.tuple #[.slice none 0 0, .string { data := #[] }, .int .i64 c]) ∧ Below w.heap.size w w' := by
 have hmf : ∀ (fn : Fn) (first cap : Array Value) (w : World), (Instr.makeFunc fn first cap).run Try.prog w = .ok (.func fn first cap) w := fun _ _ _ _ => rfl
 have H0 := jA.mk (jFG s w)
 have H1 := jA.mk (jFE s w)
 have H2 := jA.mk (jFC s w)
 have H3 := jA.mk (jFA s w)
 have HW := jA.mk (jBi s w)
 have HZ := jA.mk (jCJ s w)
 have HN := jA.mk hn
 clear hn
 go_enter_defers Try.func22, Try.ntmps22
 go_wp2_with fail
 refine (show Calls Try.prog 67 _ (jBQ s w) (OctNat.jIu _ (jBQ s w) _) from OctNat.jBF k _ s _ _ H3.out hz HN.out).mono ?_
 generalize jBQ s w = W at H0 H1 H2 H3 HW HZ ⊢
 rintro e w1 ⟨rfl, ⟨hb, _⟩⟩
 have C0 := jA.mk ((hb.block _ (by omega)).trans H0.out)
 have C1 := jA.mk ((hb.block _ (by omega)).trans H1.out)
 have C2 := jA.mk ((hb.block _ (by omega)).trans H2.out)
 have CB := jA.mk (HW.out.trans (hb.mono (by omega)))
 clear hb
 show bodyPostD Try.prog Try.f22 _ (Exit.panic _) _ _
 unfold bodyPostD pan
 refine leaves_cons (f := 59) (args := #[.pointer (some ⟨w.heap.size + 1 + 1, 0, none⟩), .func (.func 66) #[] #[.pointer (some ⟨w.heap.size, 0, none⟩), .pointer (some ⟨w.heap.size + 1, 0, none⟩)]]) (by simp) kr_ ?_
 have D0 := jL (p := ⟨w.heap.size + 1 + 1, 0, none⟩) C0.out (by simp; omega) (.int .i64 c)
 have D1 := jL (p := ⟨w.heap.size + 1 + 1, 0, none⟩) C1.out (by simp) (.int .i64 c)
 have DB := (CB.out.setCell (p := ⟨w.heap.size + 1 + 1, 0, none⟩) (by simp; omega) (.int .i64 c))
 have HU := jFJ ⟨w.heap.size, 0, none⟩ ⟨w.heap.size + 1, 0, none⟩ _ _ _ ((jD D0 0).trans rfl) ((jD D1 0).trans rfl) (jJ D0 0) (jJ D1 0) (by simp)
 have DU := (DB.setCell (p := ⟨w.heap.size, 0, none⟩) (by simp) (.slice none 0 0)).setCell (p := ⟨w.heap.size + 1, 0, none⟩) (by simp) (.string { data := #[] })
 have E2 := jL (p := ⟨w.heap.size + 1, 0, none⟩) (jL (p := ⟨w.heap.size, 0, none⟩) (jh (cs' := #[.int .i64 c]) C2.out 0 (.int .i64 c) rfl) (by simp; omega) (.slice none 0 0)) (by simp) (.string { data := #[] })
 have E0 := jL (p := ⟨w.heap.size + 1, 0, none⟩) (jh (cs' := #[.slice none 0 0]) D0 0 (.slice none 0 0) rfl) (by simp) (.string { data := #[] })
 have E1 := jh (cs' := #[.string { data := #[] }]) (jL (p := ⟨w.heap.size, 0, none⟩) D1 (by simp) (.slice none 0 0)) 0 (.string { data := #[] }) rfl
 refine (qm ⟨w.heap.size + 1 + 1, 0, none⟩ 0 c 66 Try.f66 _ [] w1 _ ((jD C2.out 0).trans rfl) (jJ C2.out 0) (fun _ _ => kr_) HU).mono ?_
 rintro e u' w'' ⟨rfl, rfl, rfl⟩
 have F2 := (jD E2 0).trans (show _ = some (.int .i64 c) from rfl)
 have F0 := (jD E0 0).trans (show _ = some (.slice none 0 0) from rfl)
 have F1 := (jD E1 0).trans (show _ = some (.string { data := #[] }) from rfl)
 clear E0 E1 E2 HU D0 D1 DB
 generalize ((w1.setCell ⟨w.heap.size + 1 + 1, 0, none⟩ (.int .i64 c)).setCell ⟨w.heap.size, 0, none⟩ (.slice none 0 0)).setCell ⟨w.heap.size + 1, 0, none⟩ (.string { data := #[] }) = w3 at DU F0 F1 F2 ⊢
 simp [Leaves, settle, results, Try.results22, go_sem, F0, F1, F2]
 exact DU

set_option maxHeartbeats 4000000 in
theorem jEn (s : ByteArray) (w : World) (k : Nat) (r : List Int) (t : ByteArray) (hn : OctNat.nat_ k s = some (.inr (r, t))) (hz : s.size ≤ 140737488351232) :
  Calls Try.prog 22 #[.string s] w fun e w' => ∃ u, e = .returned (.tuple #[u, .string t, .int .i64 0]) ∧ Kd.R (Kd.int .u64) 22 w' w.heap.size (fun _ => True) u r ∧ Below w.heap.size w w' := by
 have hmf : ∀ (fn : Fn) (first cap : Array Value) (w : World), (Instr.makeFunc fn first cap).run Try.prog w = .ok (.func fn first cap) w := fun _ _ _ _ => rfl
 have H0 := jA.mk (jFG s w)
 have H1 := jA.mk (jFE s w)
 have H2 := jA.mk (jFC s w)
 have H3 := jA.mk (jFA s w)
 have HW := jA.mk (jBi s w)
 have HZ := jA.mk (jCJ s w)
 have HN := jA.mk hn
 clear hn
 go_enter_defers Try.func22, Try.ntmps22
 go_wp2_with fail
 refine (show Calls Try.prog 67 _ (jBQ s w) (OctNat.jIu _ (jBQ s w) _) from OctNat.jBF k _ s _ _ H3.out hz HN.out).mono ?_
 generalize jBQ s w = W at H0 H1 H2 H3 HW HZ ⊢
 rintro e w1 ⟨u, rfl, ⟨hb, _⟩, h3, hv⟩
 obtain ⟨A, c, rfl⟩ := Kd.vC hv
 clear HN
 have C0 := (hb.block _ (by omega)).trans H0.out
 have C1 := (hb.block _ (by omega)).trans H1.out
 have C2 := (hb.block _ (by omega)).trans H2.out
 have CB := HW.out.trans (hb.mono (by omega))
 have X3 := (jD h3 0).trans (show _ = some (.string t) from rfl)
 have X0 := (jD C0 0).trans (show _ = some (.slice none 0 0) from rfl)
 have Z0 := jJ C0 0
 have HZ0 := HZ
 clear hb HW H0 H1 H2 H3 HZ
 have CBB := jA.mk CB
 have D0 := jA.mk (jh (cs' := #[.slice A r.length c]) C0 0 (.slice A r.length c) rfl)
 have D1 := jA.mk (jL (p := ⟨w.heap.size, 0, none⟩) C1 (by simp) (.slice A r.length c))
 have D2 := jA.mk (jL (p := ⟨w.heap.size, 0, none⟩) C2 (by simp; omega) (.slice A r.length c))
 have D3 := jA.mk (jL (p := ⟨w.heap.size, 0, none⟩) h3 (by simp; omega) (.slice A r.length c))
 have DB := jA.mk (CB.setCell (p := ⟨w.heap.size, 0, none⟩) (by simp) (.slice A r.length c))
 have HV0 := Kd.jr (Kd.vD (Kd.zf hv) (fun k_ hk_ => (show w.heap.size + 1 + 1 + 1 + 1 ≤ k_ from HZ0.out ▸ hk_.2.1))) (show w.heap.size ≤ W.heap.size by have := HZ0.out; omega)
 have HV1 := jA.mk (Oct.jDZ (p := ⟨w.heap.size, 0, none⟩) HV0 (by show w.heap.size < _; omega) (.slice A r.length c))
 clear hv HV0 HZ0
 clear C0 C1 C2 CB h3
 go_wp2
 generalize w1.setCell ⟨w.heap.size, 0, none⟩ (.slice A r.length c) = v0 at D0 D1 D2 D3 DB HV1 ⊢
 refine jCZ ?_
 refine jAT (n := 8) (S := fun w' => w'.heap[w.heap.size]? = some (.cells #[.slice A r.length c] 36 (0, 0)) ∧ w'.heap[w.heap.size + 1]? = some (.cells #[.string { data := #[] }] 9 (0, 0)) ∧ w'.heap[w.heap.size + 1 + 1]? = some (.cells #[.int .i64 0] 28 (0, 0)) ∧ w'.heap[w.heap.size + 1 + 1 + 1]? = some (.cells #[.string t] 86 (0, 0)) ∧ Below w.heap.size w w' ∧ Kd.R (Kd.int .u64) 22 w' w.heap.size (fun k_ => w.heap.size + 1 + 1 + 1 + 1 ≤ k_) (.slice A r.length c) r) (ds := [6, 7]) #[false, false, false, false, false, false, false, false] kr_ rfl rfl ⟨jk D0.out, jk D1.out, jk D2.out, jk D3.out, vP DB.out, Kd.zx HV1.out⟩ (fun hHeld => ?_)
 generalize v0.drew = u0 at hHeld ⊢
 clear D0 D1 D2 D3 DB HV1
 refine jAn (i := 0) (N := some 12) (v := ?_) (a' := ?_) (ba_ 8 1) rfl rfl kr_ (fun _ _ _ h => h) (Or.inl ⟨by rfl, ?_⟩) hHeld ?_ ?_
 rotate_left
 ·
  rintro w' ⟨s0_, s1_, s2_, s3_, s4_, s5_⟩
  have hc := (jD s0_ 0).trans (show _ = some (.slice A r.length c) from rfl)
  go_simp
  with_reducible rfl
 rotate_left
 ·
  simp only [Act.put, ss_, vw, ze]
  rfl
 refine pu_ 1 (some 13) (ba_ 8 3) kr_ ?_
 refine pu_ 2 (some 14) (ba_ 8 7) kr_ ?_
 refine pu_ 3 (some 15) (ba_ 8 15) kr_ ?_
 refine jAn (i := 4) (N := some 16) (v := ?_) (a' := ?_) (ba_ 8 31) rfl rfl kr_ (fun _ _ _ h => h) (Or.inl ⟨by rfl, ?_⟩) hHeld ?_ ?_
 rotate_left
 ·
  rintro w' ⟨s0_, s1_, s2_, s3_, s4_, s5_⟩
  have hc := (jD s3_ 0).trans (show _ = some (.string t) from rfl)
  go_simp
  with_reducible rfl
 rotate_left
 ·
  simp only [Act.put, ss_, vw, ze]
  rfl
 obtain ⟨s0_, s1_, s2_, s3_, s4_, s5_⟩ := hHeld
 refine one_ (i := 5) (N := none) (ba_ 8 63) rfl rfl kr_ (by decide) (fun K hK => ?_)
 have hc := (jD s0_ 0).trans (show _ = some (.slice A r.length c) from rfl)
 have hf := jJ s0_ 0
 refine jAJ (w1 := ?_) (by rfl) rfl ?_ ?_
 rotate_left
 ·
  go_simp
  rfl
 refine hK.out _ _ ⟨jh s0_ 0 (.slice A r.length c) rfl, jL (p := ⟨w.heap.size, 0, none⟩) s1_ (by simp) (.slice A r.length c), jL (p := ⟨w.heap.size, 0, none⟩) s2_ (by simp; omega) (.slice A r.length c), jL (p := ⟨w.heap.size, 0, none⟩) s3_ (by simp; omega) (.slice A r.length c), s4_.setCell (p := ⟨w.heap.size, 0, none⟩) (by simp) (.slice A r.length c), Oct.jDZ (p := ⟨w.heap.size, 0, none⟩) s5_ (by show w.heap.size < _; omega) (.slice A r.length c)⟩ (fun hHeld => ?_)
 clear hK K
 obtain ⟨s0_, s1_, s2_, s3_, s4_, s5_⟩ := hHeld
 refine jAf (i := 6) (N := none) (ba_ 8 127) rfl rfl kr_ (by decide) (fun K hK => ?_)
 have hc := (jD s1_ 0).trans (show _ = some (.string { data := #[] }) from rfl)
 have hf := jJ s1_ 0
 refine jAJ (w1 := ?_) (by rfl) rfl ?_ ?_
 rotate_left
 ·
  go_simp
  rfl
 refine hK.out _ _ ?_
 clear hK K
 have e0 := jL (p := ⟨w.heap.size + 1, 0, none⟩) s0_ (by simp) (.string t)
 have e1 := jh (cs' := #[.string t]) s1_ 0 (.string t) rfl
 have e2 := jL (p := ⟨w.heap.size + 1, 0, none⟩) s2_ (by simp) (.string t)
 have e4 := s4_.setCell (p := ⟨w.heap.size + 1, 0, none⟩) (by simp) (.string t)
 have c2 := (jD s2_ 0).trans (show _ = some (.int .i64 0) from rfl)
 have z2 := jJ s2_ 0
 have e5 := Oct.jDZ (p := ⟨w.heap.size + 1, 0, none⟩) s5_ (by show w.heap.size + 1 < _; omega) (.string t)
 clear s5_
 clear s0_ s1_ s2_ s3_ s4_
 refine jAf (i := 7) (N := none) (ba_ 8 255) rfl rfl kr_ (by decide) (fun K hK => ?_)
 have hc := (jD e2 0).trans (show _ = some (.int .i64 0) from rfl)
 have hf := jJ e2 0
 refine jAJ (w1 := ?_) (by rfl) rfl ?_ ?_
 rotate_left
 ·
  go_simp
  rfl
 refine hK.out _ _ ?_
 clear hK K
 have f0 := (jD (jL (p := ⟨w.heap.size + 1 + 1, 0, none⟩) e0 (by simp; omega) (.int .i64 0)) 0).trans (show _ = some (.slice A r.length c) from rfl)
 have f1 := (jD (jL (p := ⟨w.heap.size + 1 + 1, 0, none⟩) e1 (by simp) (.int .i64 0)) 0).trans (show _ = some (.string t) from rfl)
 have f2 := (jD (jh (cs' := #[.int .i64 0]) e2 0 (.int .i64 0) rfl) 0).trans (show _ = some (.int .i64 0) from rfl)
 have f4 := e4.setCell (p := ⟨w.heap.size + 1 + 1, 0, none⟩) (by simp; omega) (.int .i64 0)
 have f5 := Oct.jDZ (p := ⟨w.heap.size + 1 + 1, 0, none⟩) e5 (by show w.heap.size + 1 + 1 < _; omega) (.int .i64 0)
 clear e5
 clear e0 e1 e2 e4
 refine jBY kr_ ?_
 refine qd ?_
 refine (‹∀ (a : Act) (w : World), Code.wp Try.prog Code.ret _ a w → _›) _ _ ?_
 clear hc hf c2 z2 X3 X0 Z0 CBB
 go_wp2
 generalize ((u0.setCell ⟨w.heap.size, 0, none⟩ (.slice A r.length c)).setCell ⟨w.heap.size + 1, 0, none⟩ (.string t)).setCell ⟨w.heap.size + 1 + 1, 0, none⟩ (.int .i64 0) = w3 at f0 f1 f2 f4 f5 ⊢
 unfold bodyPostD
 refine leaves_cons (f := 59) (args := #[.pointer (some ⟨w.heap.size + 1 + 1, 0, none⟩), .func (.func 66) #[] #[.pointer (some ⟨w.heap.size, 0, none⟩), .pointer (some ⟨w.heap.size + 1, 0, none⟩)]]) (by simp) kr_ ?_
 refine (jAQ _ _ _).mono ?_
 rintro e u' w'' ⟨rfl, rfl, rfl⟩
 simp [Leaves, settle, results, Try.results22, go_sem, f0, f1, f2]
 exact ⟨Kd.vD f5 (fun _ _ => trivial), f4⟩
end jy

def jy.f (k : Nat) (a0 : ByteArray) : Option (List Int × ByteArray × Int) := if a0.size ≤ 140737488351232 then ((OctNat.nat_ k a0).bind fun v_ => some (match v_ with | .inl c => ([], { data := #[] }, c) | .inr (l, t) => (l, t, 0))) else none
theorem jy.mono : ∀ a0 k, LeO (jy.f k a0) (jy.f (k + 1) a0) := by
 intro a0 k
 unfold jy.f
 exact LeO.ite (LeO.bind (OctNat.jCl a0 k) fun _ => LeO.refl _) (LeO.refl _)
theorem jy.calls (k : Nat) (a0 : ByteArray) (r1 : List Int) (r2 : ByteArray) (r3 : Int) (w : World) (h : jy.f k a0 = some (r1, r2, r3)) :
  Calls Try.prog 22 #[.string a0] w fun e w' => ∃ v0_ : Value, e = .returned (.tuple #[v0_, .string r2, .int .i64 r3]) ∧ Kd.R (Kd.int .u64) 22 w' w.heap.size (fun _ => True) v0_ r1 ∧ Below w.heap.size w w' := by
 unfold jy.f at h
 by_cases hz : a0.size ≤ 140737488351232
 ·
  rw [if_pos hz] at h
  obtain ⟨v, hv, h⟩ := Option.bind_eq_some_iff.mp h
  cases v with
  | inl c =>
   cases h
   refine (jy.jFr k a0 w _ hv hz).mono ?_
   rintro e w' ⟨he, hb⟩
   exact ⟨_, he, Kd.jBS _ _ _ _ _, hb⟩
  | inr p =>
   obtain ⟨l, t⟩ := p
   cases h
   exact jy.jEn a0 w k _ _ hv hz
 ·
  rw [if_neg hz] at h; cases h

/-! ### jN: function 85 -/
def jN.l0 : Nat → List Int → List Int → Int → Option (Bool)
 | 0, _, _, _ => none
 | k + 1, x0, x1, x5 => if x5 < (x0.length : Int) then (if 0 ≤ x5 then (if x5 < (x1.length : Int) then (if (rd x0 x5) = (rd x1 x5) then (jN.l0 k x0 x1 (wrap64 (x5 + 1))) else (some false)) else (none)) else (none)) else (some true)
def jN.f (k : Nat) (l0 : List Int) (l1 : List Int) : Option (Bool) := if (l0.length : Int) = (l1.length : Int) then (jN.l0 k l0 l1 0) else (some false)
theorem jN.vX : ∀ k, (∀ y0 y1 y2, LeO (jN.l0 k y0 y1 y2) (jN.l0 (k + 1) y0 y1 y2))
 | 0 => fun _ _ _ r h => by simp [jN.l0] at h
 | k + 1 => by
  have ih0 := jN.vX k
  ·
   intro y0 y1 y2
   unfold jN.l0
   repeat' first
   | (with_reducible exact ih0 _ _ _)
   | (with_reducible exact LeO.refl _)
   | (with_reducible exact LeO.none _)
   | (with_reducible refine LeO.ite ?_ ?_)
   | (with_reducible refine LeO.bind ?_ (fun _ => ?_))
theorem jN.mono : ∀ a0 a1 k, LeO (jN.f k a0 a1) (jN.f (k + 1) a0 a1) := by
 intro a0 a1 k
 have ih0 := jN.vX k
 unfold jN.f
 repeat' first
   | (with_reducible exact ih0 _ _ _)
   | (with_reducible exact LeO.refl _)
   | (with_reducible exact LeO.none _)
   | (with_reducible refine LeO.ite ?_ ?_)
   | (with_reducible refine LeO.bind ?_ (fun _ => ?_))
theorem jN.calls (k : Nat) (A0 : Option Addr) (c0 : Nat) (l0 : List Int) (A1 : Option Addr) (c1 : Nat) (l1 : List Int) (r : Bool) (w : World) (hr0 : Kd.C (Kd.int .u64) w A0 l0.length l0) (hc0 : l0.length ≤ c0) (hr1 : Kd.C (Kd.int .u64) w A1 l1.length l1) (hc1 : l1.length ≤ c1) (h : jN.f k l0 l1 = some r) :
  Calls Try.prog 85 #[.slice A0 l0.length c0, .slice A1 l1.length c1] w fun e w' => e = .returned (.bool r) ∧ zI w w' := by
 have HR0 := jA.mk hr0
 have HC0 := jA.mk hc0
 clear hr0 hc0
 have HR1 := jA.mk hr1
 have HC1 := jA.mk hc1
 clear hr1 hc1
 have H : (if (l0.length : Int) = (l1.length : Int) then (jN.l0 k l0 l1 0) else (some false)) = some r := h
 clear h
 by_cases c3 : (l0.length : Int) = (l1.length : Int)
 ·
  rw [if_pos c3] at H
  have c3b0 := beq_iff_eq.mpr c3
  have c3b1 := bne_eq_false_iff_eq.mpr c3
  have c3b2 : (l0.length == l1.length) = true := by first | simpa using c3 | (simp at c3 ⊢; omega)
  clear c3
  have H' := jA.mk H
  clear H
  go_enter Try.func85, Try.ntmps85
  go_wp2
  repeat (go_quiet (fail); try go_wp2)
  go_loopg [5] k (fun kq v5 w' => ∃ (x5_1 : Int), v5 = .int .i64 x5_1 ∧ jA (jN.l0 kq l0 l1 x5_1 = some r) ∧ jA (kq ≤ k) ∧ zI w w')
  case atStart => exact ⟨(0), sd_, H', ⟨Nat.le_refl _⟩, by repeat (first | exact zI.refl _ | apply zI.step)⟩
  case round =>
   clear H'
   try clear c1
   try clear p2
   try clear c3
   try clear c3b0
   try clear c3b1
   try clear c3b2
   obtain ⟨x5_1, rfl, HA, HK1, ⟨m1, rfl⟩⟩ := hrel
   cases gk with
   | zero => exact absurd HA.out (by simp [jN.l0])
   | succ k1 =>
    have H := HA.out
    clear HA
    simp only [jN.l0] at H
    by_cases c4 : x5_1 < (l0.length : Int)
    ·
     rw [if_pos c4] at H
     have c4b0 := decide_eq_true c4
     clear c4
     by_cases c5 : 0 ≤ x5_1
     ·
      rw [if_pos c5] at H
      have c5b0 := decide_eq_true c5
      clear c5
      by_cases c6 : x5_1 < (l1.length : Int)
      ·
       rw [if_pos c6] at H
       have c6b0 := decide_eq_true c6
       clear c6
       by_cases c7 : (rd l0 x5_1) = (rd l1 x5_1)
       ·
        rw [if_pos c7] at H
        have c7b0 := beq_iff_eq.mpr c7
        have c7b1 := bne_eq_false_iff_eq.mpr c7
        clear c7
        have H' := jA.mk H
        clear H
        have p121 : 0 ≤ (x5_1 : Int) := of_decide_eq_true am_
        have q121 : x5_1 < (l0.length : Int) := of_decide_eq_true am_
        obtain ⟨ad121, e121, hx121_0⟩ := Kd.vY HR0.out x5_1 p121 q121
        cases e121
        replace p121 := eq_true p121
        replace q121 := eq_true q121
        have p122 : 0 ≤ (x5_1 : Int) := of_decide_eq_true am_
        have q122 : x5_1 < (l1.length : Int) := of_decide_eq_true am_
        obtain ⟨ad122, e122, hx122_0⟩ := Kd.vY HR1.out x5_1 p122 q122
        cases e122
        replace p122 := eq_true p122
        replace q122 := eq_true q122
        go_wp2
        repeat (go_quiet (fail); try go_wp2)
        go_roundg k1
        case measure => have := HK1.out; omega
        case rel => exact ⟨(wrap64 (x5_1 + 1)), sd_, H', ⟨by have := HK1.out; omega⟩, by repeat (first | exact zI.refl _ | apply zI.step)⟩
       ·
        rw [if_neg c7] at H
        have c7b0 := beq_eq_false_iff_ne.mpr c7
        have c7b1 := bne_iff_ne.mpr c7
        obtain rfl := Option.some.inj H
        have p121 : 0 ≤ (x5_1 : Int) := of_decide_eq_true am_
        have q121 : x5_1 < (l0.length : Int) := of_decide_eq_true am_
        obtain ⟨ad121, e121, hx121_0⟩ := Kd.vY HR0.out x5_1 p121 q121
        cases e121
        replace p121 := eq_true p121
        replace q121 := eq_true q121
        have p122 : 0 ≤ (x5_1 : Int) := of_decide_eq_true am_
        have q122 : x5_1 < (l1.length : Int) := of_decide_eq_true am_
        obtain ⟨ad122, e122, hx122_0⟩ := Kd.vY HR1.out x5_1 p122 q122
        cases e122
        replace p122 := eq_true p122
        replace q122 := eq_true q122
        go_wp2
        repeat (go_quiet (fail); try go_wp2)
        go_ret
        exact ⟨by first | rfl | (simp; done) | (simp [*]; done), by repeat (first | exact zI.refl _ | apply zI.step)⟩
      ·
       rw [if_neg c6] at H
       exact absurd H (by simp)
     ·
      rw [if_neg c5] at H
      exact absurd H (by simp)
    ·
     rw [if_neg c4] at H
     have c4b0 := decide_eq_false c4
     clear c4
     obtain rfl := Option.some.inj H
     go_wp2
     repeat (go_quiet (fail); try go_wp2)
     go_ret
     exact ⟨by first | rfl | (simp; done) | (simp [*]; done), by repeat (first | exact zI.refl _ | apply zI.step)⟩
 ·
  rw [if_neg c3] at H
  have c3b0 := beq_eq_false_iff_ne.mpr c3
  have c3b1 := bne_iff_ne.mpr c3
  have c3b2 : (l0.length == l1.length) = false := by first | simpa using c3 | (simp at c3 ⊢; omega)
  obtain rfl := Option.some.inj H
  go_enter Try.func85, Try.ntmps85
  go_wp2
  repeat (go_quiet (fail); try go_wp2)
  go_ret
  exact ⟨by first | rfl | (simp; done) | (simp [*]; done), by repeat (first | exact zI.refl _ | apply zI.step)⟩

/-! ### jU: function 47 -/
def jU.f (k : Nat) (l0 : List Int) (l1 : List Int) : Option (Bool) := (jN.f k l0 l1).bind fun t123 => (some t123)
theorem jU.mono : ∀ a0 a1 k, LeO (jU.f k a0 a1) (jU.f (k + 1) a0 a1) := by
 intro a0 a1 k
 unfold jU.f
 repeat' first
   | (with_reducible exact jN.mono _ _ _)
   | (with_reducible exact LeO.refl _)
   | (with_reducible exact LeO.none _)
   | (with_reducible refine LeO.ite ?_ ?_)
   | (with_reducible refine LeO.bind ?_ (fun _ => ?_))
theorem jU.calls (k : Nat) (A0 : Option Addr) (c0 : Nat) (l0 : List Int) (A1 : Option Addr) (c1 : Nat) (l1 : List Int) (r : Bool) (w : World) (hr0 : Kd.C (Kd.int .u64) w A0 l0.length l0) (hc0 : l0.length ≤ c0) (hr1 : Kd.C (Kd.int .u64) w A1 l1.length l1) (hc1 : l1.length ≤ c1) (h : jU.f k l0 l1 = some r) :
  Calls Try.prog 47 #[.slice A0 l0.length c0, .slice A1 l1.length c1] w fun e w' => e = .returned (.bool r) ∧ zI w w' := by
 have HR0 := jA.mk hr0
 have HC0 := jA.mk hc0
 clear hr0 hc0
 have HR1 := jA.mk hr1
 have HC1 := jA.mk hc1
 clear hr1 hc1
 have H : ((jN.f k l0 l1).bind fun t123 => (some t123)) = some r := h
 clear h
 replace H := ob_ H
 obtain ⟨t123, A30, H⟩ := H
 replace H : (some t123) = some r := H
 have A3 := jA.mk A30
 clear A30
 obtain rfl := Option.some.inj H
 go_enter Try.func47, Try.ntmps47
 go_wp2_with (first | ((with_reducible refine jF (f := 85) rfl ?_); refine jf (some 7) rfl rfl Try.func85 kr_ rfl #[.slice A0 l0.length c0, .slice A1 l1.length c1] rfl mt_ ?_; (with_reducible refine (jN.calls k _ _ l0 _ _ l1 t123 _ ?side1 ?side2 ?side3 ?side4 A3.out).mono ?_); (case side1 => exact cc_ HR0.out); (case side2 => exact HC0.out); (case side3 => exact cc_ HR1.out); (case side4 => exact HC1.out); rintro e w' ⟨rfl, ⟨nd, rfl⟩⟩; refine ⟨_, rfl, ?_⟩))
 go_ret
 exact ⟨by first | rfl | (simp; done) | (simp [*]; done), by repeat (first | exact zI.refl _ | apply zI.step)⟩

/-! ### jv: function 26 -/
def jv.f (k : Nat) (a0_0 : Bool) (l0_1 : List Int) (l0_2 : List Int) (a1_0 : Bool) (l1_1 : List Int) (l1_2 : List Int) : Option (Bool) := if (a0_0 == a1_0) = true then ((jU.f k l0_1 l1_1).bind fun t126 => (if t126 = true then ((jU.f k l0_2 l1_2).bind fun t127 => (some t127)) else (some false))) else (some false)
theorem jv.mono : ∀ a0 a1 a2 a3 a4 a5 k, LeO (jv.f k a0 a1 a2 a3 a4 a5) (jv.f (k + 1) a0 a1 a2 a3 a4 a5) := by
 intro a0 a1 a2 a3 a4 a5 k
 unfold jv.f
 repeat' first
   | (with_reducible exact jU.mono _ _ _)
   | (with_reducible exact LeO.refl _)
   | (with_reducible exact LeO.none _)
   | (with_reducible refine LeO.ite ?_ ?_)
   | (with_reducible refine LeO.bind ?_ (fun _ => ?_))
theorem jv.calls (k : Nat) (a0_0 : Bool) (A0_1 : Option Addr) (c0_1 : Nat) (l0_1 : List Int) (A0_2 : Option Addr) (c0_2 : Nat) (l0_2 : List Int) (a1_0 : Bool) (A1_1 : Option Addr) (c1_1 : Nat) (l1_1 : List Int) (A1_2 : Option Addr) (c1_2 : Nat) (l1_2 : List Int) (r : Bool) (w : World) (hr0_1 : Kd.C (Kd.int .u64) w A0_1 l0_1.length l0_1) (hc0_1 : l0_1.length ≤ c0_1) (hr0_2 : Kd.C (Kd.int .u64) w A0_2 l0_2.length l0_2) (hc0_2 : l0_2.length ≤ c0_2) (hr1_1 : Kd.C (Kd.int .u64) w A1_1 l1_1.length l1_1) (hc1_1 : l1_1.length ≤ c1_1) (hr1_2 : Kd.C (Kd.int .u64) w A1_2 l1_2.length l1_2) (hc1_2 : l1_2.length ≤ c1_2) (h : jv.f k a0_0 l0_1 l0_2 a1_0 l1_1 l1_2 = some r) :
  Calls Try.prog 26 #[.agg #[.bool a0_0, .slice A0_1 l0_1.length c0_1, .slice A0_2 l0_2.length c0_2], .agg #[.bool a1_0, .slice A1_1 l1_1.length c1_1, .slice A1_2 l1_2.length c1_2]] w fun e w' => e = .returned (.bool r) ∧ Below w.heap.size w w' := by
 have hu44 := Try.underlying44
 have HR0_1 := jA.mk hr0_1
 have HC0_1 := jA.mk hc0_1
 clear hr0_1 hc0_1
 have HR0_2 := jA.mk hr0_2
 have HC0_2 := jA.mk hc0_2
 clear hr0_2 hc0_2
 have HR1_1 := jA.mk hr1_1
 have HC1_1 := jA.mk hc1_1
 clear hr1_1 hc1_1
 have HR1_2 := jA.mk hr1_2
 have HC1_2 := jA.mk hc1_2
 clear hr1_2 hc1_2
 have HB := jA.mk (Below.refl w.heap.size w)
 have H : (if (a0_0 == a1_0) = true then ((jU.f k l0_1 l1_1).bind fun t126 => (if t126 = true then ((jU.f k l0_2 l1_2).bind fun t127 => (some t127)) else (some false))) else (some false)) = some r := h
 clear h
 by_cases c3 : (a0_0 == a1_0) = true
 ·
  rw [if_pos c3] at H
  have c3b0 : (a0_0 == a1_0) = true := c3
  (try (have c3b1 : decide (a0_0 = a1_0) = true := by simpa using c3))
  (try (have c3b2 : (a0_0 == a1_0) = true := by simpa using c3))
  clear c3
  replace H := ob_ H
  obtain ⟨t126, A40, H⟩ := H
  try dsimp only at H
  have A4 := jA.mk A40
  clear A40
  by_cases c5 : t126 = true
  ·
   subst c5
   have H1 : ((jU.f k l0_2 l1_2).bind fun t127 => (some t127)) = some r := by rw [if_pos rfl] at H; exact H
   clear H
   have H := H1
   clear H1
   replace H := ob_ H
   obtain ⟨t127, A60, H⟩ := H
   replace H : (some t127) = some r := H
   have A6 := jA.mk A60
   clear A60
   obtain rfl := Option.some.inj H
   go_enter Try.func26, Try.ntmps26
   go_wp2_with (first | ((with_reducible refine jl (N := 2) rfl ?_); refine vQ ?hg (N := 2) ?hd (cs := #[.bool a0_0, .slice A0_1 l0_1.length c0_1, .slice A0_2 l0_2.length c0_2]) (t := 44) ?hr ?_; (case hd => rfl); (case hg => rfl); (case hr => exact gs_); intro gb124 hg w7 hbox hb; have BK124 := jA.mk (hbox); have GW124 := jA.mk ((by rw [hg]; exact (jB (bb_ HB)) : w.heap.size ≤ gb124)); have GE124 := jA.mk ((by rw [hg]; exact (jB (bb_ HB)) : w.heap.size ≤ gb124)); replace HB := bs_ HB hb; clear hb hbox hg) | ((with_reducible refine jl (N := 3) rfl ?_); refine vQ ?hg (N := 3) ?hd (cs := #[.bool a1_0, .slice A1_1 l1_1.length c1_1, .slice A1_2 l1_2.length c1_2]) (t := 44) ?hr ?_; (case hd => rfl); (case hg => rfl); (case hr => exact gs_); intro gb125 hg w8 hbox hb; have BK125 := jA.mk (hbox); have GW125 := jA.mk ((by rw [hg]; exact (jB (bb1_ HB GE124)) : w.heap.size ≤ gb125)); have GE125 := jA.mk ((by rw [hg]; exact (jB (bb1_ HB GE124)) : w.heap.size ≤ gb125)); replace HB := jA.mk (jO (bb1_ HB GE124) hb); have NB124_125 := jA.mk ((by rw [hg]; exact Nat.ne_of_lt (za (g := gb124) (o := .cells #[.bool a0_0, .slice A0_1 l0_1.length c0_1, .slice A0_2 l0_2.length c0_2] 44 (0, 0)) (kb_ BK124)) : gb124 ≠ gb125)); have NB125_124 := jA.mk ((by rw [hg]; exact Nat.ne_of_gt (za (g := gb124) (o := .cells #[.bool a0_0, .slice A0_1 l0_1.length c0_1, .slice A0_2 l0_2.length c0_2] 44 (0, 0)) (kb_ BK124)) : gb125 ≠ gb124)); replace BK124 := bk_ BK124 hb; clear hb hbox hg; have hnb9 := NB124_125.out; have hnc9 := NB125_124.out; obtain ⟨hcz10_0, hcz10_1, hcz10_2, hfz10_0, hfz10_1, hfz10_2⟩ := bf3_ BK124; obtain ⟨hcz11_0, hcz11_1, hcz11_2, hfz11_0, hfz11_1, hfz11_2⟩ := bf3_ BK125) | ((with_reducible refine jl (N := 15) rfl ?_); refine ji (by first | rfl | kernel_rfl) ?_; dsimp only; (with_reducible refine jF (f := 47) rfl ?_); refine jf (some 15) rfl rfl Try.func47 kr_ rfl #[.slice A0_1 l0_1.length c0_1, .slice A1_1 l1_1.length c1_1] rfl mt_ ?_; (with_reducible refine (jU.calls k _ _ l0_1 _ _ l1_1 true _ ?side1 ?side2 ?side3 ?side4 A4.out).mono ?_); (case side1 => exact cc_ (Kd.jT HR0_1.out HB.out)); (case side2 => exact HC0_1.out); (case side3 => exact cc_ (Kd.jT HR1_1.out HB.out)); (case side4 => exact HC1_1.out); rintro e w' ⟨rfl, ⟨nd, rfl⟩⟩; refine ⟨_, rfl, ?_⟩) | ((with_reducible refine jl (N := 22) rfl ?_); refine ji (by first | rfl | kernel_rfl) ?_; dsimp only; (with_reducible refine jF (f := 47) rfl ?_); refine jf (some 22) rfl rfl Try.func47 kr_ rfl #[.slice A0_2 l0_2.length c0_2, .slice A1_2 l1_2.length c1_2] rfl mt_ ?_; (with_reducible refine (jU.calls k _ _ l0_2 _ _ l1_2 t127 _ ?side1 ?side2 ?side3 ?side4 A6.out).mono ?_); (case side1 => repeat (first | exact (Kd.jT HR0_2.out (bb2_ HB GE124 GE125)) | (with_reducible refine Kd.qZ ?_ _) | (with_reducible refine Kd.jAI ?_ _) | (with_reducible refine Kd.jBK ?_))); (case side2 => exact HC0_2.out); (case side3 => repeat (first | exact (Kd.jT HR1_2.out (bb2_ HB GE124 GE125)) | (with_reducible refine Kd.qZ ?_ _) | (with_reducible refine Kd.jAI ?_ _) | (with_reducible refine Kd.jBK ?_))); (case side4 => exact HC1_2.out); rintro e w' ⟨rfl, ⟨nd, rfl⟩⟩; refine ⟨_, rfl, ?_⟩))
   go_ret
   exact ⟨ew_, (bb2_ HB GE124 GE125)⟩
  ·
   replace c5 := Bool.eq_false_iff.mpr c5
   subst c5
   have H1 : (some false) = some r := by rw [if_neg (show ¬ (false = true) by decide)] at H; exact H
   clear H
   have H := H1
   clear H1
   obtain rfl := Option.some.inj H
   go_enter Try.func26, Try.ntmps26
   go_wp2_with (first | ((with_reducible refine jl (N := 2) rfl ?_); refine vQ ?hg (N := 2) ?hd (cs := #[.bool a0_0, .slice A0_1 l0_1.length c0_1, .slice A0_2 l0_2.length c0_2]) (t := 44) ?hr ?_; (case hd => rfl); (case hg => rfl); (case hr => exact gs_); intro gb124 hg w12 hbox hb; have BK124 := jA.mk (hbox); have GW124 := jA.mk ((by rw [hg]; exact (jB (bb_ HB)) : w.heap.size ≤ gb124)); have GE124 := jA.mk ((by rw [hg]; exact (jB (bb_ HB)) : w.heap.size ≤ gb124)); replace HB := bs_ HB hb; clear hb hbox hg) | ((with_reducible refine jl (N := 3) rfl ?_); refine vQ ?hg (N := 3) ?hd (cs := #[.bool a1_0, .slice A1_1 l1_1.length c1_1, .slice A1_2 l1_2.length c1_2]) (t := 44) ?hr ?_; (case hd => rfl); (case hg => rfl); (case hr => exact gs_); intro gb125 hg w13 hbox hb; have BK125 := jA.mk (hbox); have GW125 := jA.mk ((by rw [hg]; exact (jB (bb1_ HB GE124)) : w.heap.size ≤ gb125)); have GE125 := jA.mk ((by rw [hg]; exact (jB (bb1_ HB GE124)) : w.heap.size ≤ gb125)); replace HB := jA.mk (jO (bb1_ HB GE124) hb); have NB124_125 := jA.mk ((by rw [hg]; exact Nat.ne_of_lt (za (g := gb124) (o := .cells #[.bool a0_0, .slice A0_1 l0_1.length c0_1, .slice A0_2 l0_2.length c0_2] 44 (0, 0)) (kb_ BK124)) : gb124 ≠ gb125)); have NB125_124 := jA.mk ((by rw [hg]; exact Nat.ne_of_gt (za (g := gb124) (o := .cells #[.bool a0_0, .slice A0_1 l0_1.length c0_1, .slice A0_2 l0_2.length c0_2] 44 (0, 0)) (kb_ BK124)) : gb125 ≠ gb124)); replace BK124 := bk_ BK124 hb; clear hb hbox hg; have hnb14 := NB124_125.out; have hnc14 := NB125_124.out; obtain ⟨hcz15_0, hcz15_1, hcz15_2, hfz15_0, hfz15_1, hfz15_2⟩ := bf3_ BK124; obtain ⟨hcz16_0, hcz16_1, hcz16_2, hfz16_0, hfz16_1, hfz16_2⟩ := bf3_ BK125) | ((with_reducible refine jl (N := 15) rfl ?_); refine ji (by first | rfl | kernel_rfl) ?_; dsimp only; (with_reducible refine jF (f := 47) rfl ?_); refine jf (some 15) rfl rfl Try.func47 kr_ rfl #[.slice A0_1 l0_1.length c0_1, .slice A1_1 l1_1.length c1_1] rfl mt_ ?_; (with_reducible refine (jU.calls k _ _ l0_1 _ _ l1_1 false _ ?side1 ?side2 ?side3 ?side4 A4.out).mono ?_); (case side1 => exact cc_ (Kd.jT HR0_1.out HB.out)); (case side2 => exact HC0_1.out); (case side3 => exact cc_ (Kd.jT HR1_1.out HB.out)); (case side4 => exact HC1_1.out); rintro e w' ⟨rfl, ⟨nd, rfl⟩⟩; refine ⟨_, rfl, ?_⟩))
   go_ret
   exact ⟨ew_, (bb2_ HB GE124 GE125)⟩
 ·
  rw [if_neg c3] at H
  have c3b0 : (a0_0 == a1_0) = false := by simpa using c3
  (try (have c3b1 : decide (a0_0 = a1_0) = false := by simpa using c3))
  (try (have c3b2 : (a0_0 == a1_0) = false := by simpa using c3))
  (try (have c3b3 : ¬ (a0_0 = a1_0) := by simpa using c3))
  clear c3
  obtain rfl := Option.some.inj H
  go_enter Try.func26, Try.ntmps26
  go_wp2_with (first | ((with_reducible refine jl (N := 2) rfl ?_); refine vQ ?hg (N := 2) ?hd (cs := #[.bool a0_0, .slice A0_1 l0_1.length c0_1, .slice A0_2 l0_2.length c0_2]) (t := 44) ?hr ?_; (case hd => rfl); (case hg => rfl); (case hr => exact gs_); intro gb124 hg w17 hbox hb; have BK124 := jA.mk (hbox); have GW124 := jA.mk ((by rw [hg]; exact (jB (bb_ HB)) : w.heap.size ≤ gb124)); have GE124 := jA.mk ((by rw [hg]; exact (jB (bb_ HB)) : w.heap.size ≤ gb124)); replace HB := bs_ HB hb; clear hb hbox hg) | ((with_reducible refine jl (N := 3) rfl ?_); refine vQ ?hg (N := 3) ?hd (cs := #[.bool a1_0, .slice A1_1 l1_1.length c1_1, .slice A1_2 l1_2.length c1_2]) (t := 44) ?hr ?_; (case hd => rfl); (case hg => rfl); (case hr => exact gs_); intro gb125 hg w18 hbox hb; have BK125 := jA.mk (hbox); have GW125 := jA.mk ((by rw [hg]; exact (jB (bb1_ HB GE124)) : w.heap.size ≤ gb125)); have GE125 := jA.mk ((by rw [hg]; exact (jB (bb1_ HB GE124)) : w.heap.size ≤ gb125)); replace HB := jA.mk (jO (bb1_ HB GE124) hb); have NB124_125 := jA.mk ((by rw [hg]; exact Nat.ne_of_lt (za (g := gb124) (o := .cells #[.bool a0_0, .slice A0_1 l0_1.length c0_1, .slice A0_2 l0_2.length c0_2] 44 (0, 0)) (kb_ BK124)) : gb124 ≠ gb125)); have NB125_124 := jA.mk ((by rw [hg]; exact Nat.ne_of_gt (za (g := gb124) (o := .cells #[.bool a0_0, .slice A0_1 l0_1.length c0_1, .slice A0_2 l0_2.length c0_2] 44 (0, 0)) (kb_ BK124)) : gb125 ≠ gb124)); replace BK124 := bk_ BK124 hb; clear hb hbox hg; have hnb19 := NB124_125.out; have hnc19 := NB125_124.out; obtain ⟨hcz20_0, hcz20_1, hcz20_2, hfz20_0, hfz20_1, hfz20_2⟩ := bf3_ BK124; obtain ⟨hcz21_0, hcz21_1, hcz21_2, hfz21_0, hfz21_1, hfz21_2⟩ := bf3_ BK125))
  go_ret
  exact ⟨ew_, (bb2_ HB GE124 GE125)⟩

/-! ### vI: function 29 -/
def vI.f (l0 : List Int) (a1_0 : Bool) (l1_1 : List Int) (l1_2 : List Int) (a2 : ByteArray) : Option (Bool) := if (l0.length : Int) > 20 then (some true) else (if (l1_1.length : Int) > 20 then (some true) else (if (l1_2.length : Int) > 20 then (some true) else (some (decide ((a2.size : Int) > 1000)))))
theorem vI.calls (A0 : Option Addr) (c0 : Nat) (l0 : List Int) (a1_0 : Bool) (A1_1 : Option Addr) (c1_1 : Nat) (l1_1 : List Int) (A1_2 : Option Addr) (c1_2 : Nat) (l1_2 : List Int) (a2 : ByteArray) (r : Bool) (w : World) (hr0 : Kd.C (Kd.int .u64) w A0 l0.length l0) (hc0 : l0.length ≤ c0) (hr1_1 : Kd.C (Kd.int .u64) w A1_1 l1_1.length l1_1) (hc1_1 : l1_1.length ≤ c1_1) (hr1_2 : Kd.C (Kd.int .u64) w A1_2 l1_2.length l1_2) (hc1_2 : l1_2.length ≤ c1_2) (h : vI.f l0 a1_0 l1_1 l1_2 a2 = some r) :
  Calls Try.prog 29 #[.slice A0 l0.length c0, .agg #[.bool a1_0, .slice A1_1 l1_1.length c1_1, .slice A1_2 l1_2.length c1_2], .string a2] w fun e w' => e = .returned (.bool r) ∧ Below w.heap.size w w' := by
 have hu44 := Try.underlying44
 have HR0 := jA.mk hr0
 have HC0 := jA.mk hc0
 clear hr0 hc0
 have HR1_1 := jA.mk hr1_1
 have HC1_1 := jA.mk hc1_1
 clear hr1_1 hc1_1
 have HR1_2 := jA.mk hr1_2
 have HC1_2 := jA.mk hc1_2
 clear hr1_2 hc1_2
 have HB := jA.mk (Below.refl w.heap.size w)
 have H : (if (l0.length : Int) > 20 then (some true) else (if (l1_1.length : Int) > 20 then (some true) else (if (l1_2.length : Int) > 20 then (some true) else (some (decide ((a2.size : Int) > 1000)))))) = some r := h
 clear h
 by_cases c4 : (l0.length : Int) > 20
 ·
  rw [if_pos c4] at H
  have c4b0 := decide_eq_true c4
  have c4b1 : decide (20 < l0.length) = true := decide_eq_true (by omega)
  clear c4
  obtain rfl := Option.some.inj H
  go_enter Try.func29, Try.ntmps29
  go_wp2_with (first | ((with_reducible refine jl (N := 4) rfl ?_); (try (refine ji (by rfl) ?_; dsimp only)); refine vQ ?hg (N := 4) ?hd (cs := #[.bool a1_0, .slice A1_1 l1_1.length c1_1, .slice A1_2 l1_2.length c1_2]) (t := 44) ?hr ?_; (case hd => rfl); (case hg => rfl); (case hr => exact gs_); intro gb128 hg w5 hbox hb; have BK128 := jA.mk (hbox); have GW128 := jA.mk ((by rw [hg]; exact (jB (bb_ HB)) : w.heap.size ≤ gb128)); have GE128 := jA.mk ((by rw [hg]; exact (jB (bb_ HB)) : w.heap.size ≤ gb128)); replace HB := bs_ HB hb; clear hb hbox hg))
  go_ret
  exact ⟨ew_, (bb1_ HB GE128)⟩
 ·
  rw [if_neg c4] at H
  have c4b0 := decide_eq_false c4
  have c4b1 : decide (20 < l0.length) = false := decide_eq_false (by omega)
  clear c4
  by_cases c6 : (l1_1.length : Int) > 20
  ·
   rw [if_pos c6] at H
   have c6b0 := decide_eq_true c6
   have c6b1 : decide (20 < l1_1.length) = true := decide_eq_true (by omega)
   clear c6
   obtain rfl := Option.some.inj H
   go_enter Try.func29, Try.ntmps29
   go_wp2_with (first | ((with_reducible refine jl (N := 4) rfl ?_); (try (refine ji (by rfl) ?_; dsimp only)); refine vQ ?hg (N := 4) ?hd (cs := #[.bool a1_0, .slice A1_1 l1_1.length c1_1, .slice A1_2 l1_2.length c1_2]) (t := 44) ?hr ?_; (case hd => rfl); (case hg => rfl); (case hr => exact gs_); intro gb128 hg w7 hbox hb; have BK128 := jA.mk (hbox); have GW128 := jA.mk ((by rw [hg]; exact (jB (bb_ HB)) : w.heap.size ≤ gb128)); have GE128 := jA.mk ((by rw [hg]; exact (jB (bb_ HB)) : w.heap.size ≤ gb128)); replace HB := bs_ HB hb; clear hb hbox hg; obtain ⟨hcz8_0, hcz8_1, hcz8_2, hfz8_0, hfz8_1, hfz8_2⟩ := bf3_ BK128))
   go_ret
   exact ⟨ew_, (bb1_ HB GE128)⟩
  ·
   rw [if_neg c6] at H
   have c6b0 := decide_eq_false c6
   have c6b1 : decide (20 < l1_1.length) = false := decide_eq_false (by omega)
   clear c6
   by_cases c9 : (l1_2.length : Int) > 20
   ·
    rw [if_pos c9] at H
    have c9b0 := decide_eq_true c9
    have c9b1 : decide (20 < l1_2.length) = true := decide_eq_true (by omega)
    clear c9
    obtain rfl := Option.some.inj H
    go_enter Try.func29, Try.ntmps29
    go_wp2_with (first | ((with_reducible refine jl (N := 4) rfl ?_); (try (refine ji (by rfl) ?_; dsimp only)); refine vQ ?hg (N := 4) ?hd (cs := #[.bool a1_0, .slice A1_1 l1_1.length c1_1, .slice A1_2 l1_2.length c1_2]) (t := 44) ?hr ?_; (case hd => rfl); (case hg => rfl); (case hr => exact gs_); intro gb128 hg w10 hbox hb; have BK128 := jA.mk (hbox); have GW128 := jA.mk ((by rw [hg]; exact (jB (bb_ HB)) : w.heap.size ≤ gb128)); have GE128 := jA.mk ((by rw [hg]; exact (jB (bb_ HB)) : w.heap.size ≤ gb128)); replace HB := bs_ HB hb; clear hb hbox hg; obtain ⟨hcz11_0, hcz11_1, hcz11_2, hfz11_0, hfz11_1, hfz11_2⟩ := bf3_ BK128))
    go_ret
    exact ⟨ew_, (bb1_ HB GE128)⟩
   ·
    rw [if_neg c9] at H
    have c9b0 := decide_eq_false c9
    have c9b1 : decide (20 < l1_2.length) = false := decide_eq_false (by omega)
    clear c9
    obtain rfl := Option.some.inj H
    go_enter Try.func29, Try.ntmps29
    go_wp2_with (first | ((with_reducible refine jl (N := 4) rfl ?_); (try (refine ji (by rfl) ?_; dsimp only)); refine vQ ?hg (N := 4) ?hd (cs := #[.bool a1_0, .slice A1_1 l1_1.length c1_1, .slice A1_2 l1_2.length c1_2]) (t := 44) ?hr ?_; (case hd => rfl); (case hg => rfl); (case hr => exact gs_); intro gb128 hg w12 hbox hb; have BK128 := jA.mk (hbox); have GW128 := jA.mk ((by rw [hg]; exact (jB (bb_ HB)) : w.heap.size ≤ gb128)); have GE128 := jA.mk ((by rw [hg]; exact (jB (bb_ HB)) : w.heap.size ≤ gb128)); replace HB := bs_ HB hb; clear hb hbox hg; obtain ⟨hcz13_0, hcz13_1, hcz13_2, hfz13_0, hfz13_1, hfz13_2⟩ := bf3_ BK128))
    go_ret
    exact ⟨ew_, (bb1_ HB GE128)⟩

/-! ### zu: function 54 -/
def zu.f (a0_0 : Bool) (l0_1 : List Int) (l0_2 : List Int) : Option (Bool) := some ((l0_1.length : Int) == 0)
theorem zu.calls (a0_0 : Bool) (A0_1 : Option Addr) (c0_1 : Nat) (l0_1 : List Int) (A0_2 : Option Addr) (c0_2 : Nat) (l0_2 : List Int) (r : Bool) (w : World) (hr0_1 : Kd.C (Kd.int .u64) w A0_1 l0_1.length l0_1) (hc0_1 : l0_1.length ≤ c0_1) (hr0_2 : Kd.C (Kd.int .u64) w A0_2 l0_2.length l0_2) (hc0_2 : l0_2.length ≤ c0_2) (h : zu.f a0_0 l0_1 l0_2 = some r) :
  Calls Try.prog 54 #[.agg #[.bool a0_0, .slice A0_1 l0_1.length c0_1, .slice A0_2 l0_2.length c0_2]] w fun e w' => e = .returned (.bool r) ∧ Below w.heap.size w w' := by
 have hu44 := Try.underlying44
 have HR0_1 := jA.mk hr0_1
 have HC0_1 := jA.mk hc0_1
 clear hr0_1 hc0_1
 have HR0_2 := jA.mk hr0_2
 have HC0_2 := jA.mk hc0_2
 clear hr0_2 hc0_2
 have HB := jA.mk (Below.refl w.heap.size w)
 have H : (some ((l0_1.length : Int) == 0)) = some r := h
 clear h
 obtain rfl := Option.some.inj H
 go_enter Try.func54, Try.ntmps54
 go_wp2_with (first | ((with_reducible refine jl (N := 1) rfl ?_); refine vQ ?hg (N := 1) ?hd (cs := #[.bool a0_0, .slice A0_1 l0_1.length c0_1, .slice A0_2 l0_2.length c0_2]) (t := 44) ?hr ?_; (case hd => rfl); (case hg => rfl); (case hr => exact gs_); intro gb129 hg w2 hbox hb; have BK129 := jA.mk (hbox); have GW129 := jA.mk ((by rw [hg]; exact (jB (bb_ HB)) : w.heap.size ≤ gb129)); have GE129 := jA.mk ((by rw [hg]; exact (jB (bb_ HB)) : w.heap.size ≤ gb129)); replace HB := bs_ HB hb; clear hb hbox hg; obtain ⟨hcz3_0, hcz3_1, hcz3_2, hfz3_0, hfz3_1, hfz3_2⟩ := bf3_ BK129))
 go_ret
 exact ⟨ew_, (bb1_ HB GE129)⟩

/-! ### jBW: function 81 -/
def jBW.f (a0 : Int) : Option (List Int) := if a0 = 0 then (some ([] : List Int)) else (some (([a0] : List Int)))
theorem jBW.calls (a0 : Int) (r : List Int) (w : World) (h : jBW.f a0 = some r) :
  Calls Try.prog 81 #[.int .u64 a0] w fun e w' => ∃ v0_ : Value, e = .returned (v0_) ∧ Kd.R (Kd.int .u64) 22 w' w.heap.size (fun _ => True) v0_ r ∧ Below w.heap.size w w' := by
 have HB := jA.mk (Below.refl w.heap.size w)
 have H : (if a0 = 0 then (some ([] : List Int)) else (some (([a0] : List Int)))) = some r := h
 clear h
 by_cases c2 : a0 = 0
 ·
  rw [if_pos c2] at H
  have c2b0 := beq_iff_eq.mpr c2
  have c2b1 := bne_eq_false_iff_eq.mpr c2
  clear c2
  obtain rfl := Option.some.inj H
  go_enter Try.func81, Try.ntmps81
  go_wp2
  go_ret
  exact ⟨_, ew_, nl_, (bb_ HB)⟩
 ·
  rw [if_neg c2] at H
  have c2b0 := beq_eq_false_iff_ne.mpr c2
  have c2b1 := bne_iff_ne.mpr c2
  obtain ⟨y130, hy130⟩ : ∃ y_ : List Int, y_ = (([a0] : List Int)) := ⟨_, rfl⟩
  replace H : (some y130) = some r := by first | (rw [hy130]; with_reducible exact H) | (have H2_ := (Option.bind_some _ _).symm.trans H; rw [hy130]; with_reducible exact H2_) | (with_reducible exact hs_ H) | with_reducible exact H | (rw [hy130]; exact H) | exact H
  have Ny130 := jA.mk hy130
  clear hy130
  obtain rfl := Option.some.inj H
  go_enter Try.func81, Try.ntmps81
  go_wp2_with (first | ((with_reducible refine jl (N := 6) rfl ?_); refine Kd.jDY (Kd.int .u64) _ 22 ?hg (N := 6) ?hd (xs := ([a0] : List Int)) (inner := [.int .u64 a0]) (ok := fun _ => True) (okp := fun _ => True) ?hr ?hp (fun _ hk => hk) trivial (Below.refl _ _) (Nat.le_refl _) (by simp) ?_; (case hd => rfl); (case hg => rfl); (case hr => exact gs_); (case hp => exact (Reps.one (show Kd.M (Kd.int .u64) _ _ _ a0 [.int .u64 a0] from rfl) (Reps.none _ _))); intro v131 w3 ho4 hb hg_ hnew_; clear hg_ hnew_; (first | rw [← Ny130.out] at ho4 | (simp only [Int.reduceToNat] at ho4; rw [← Ny130.out] at ho4)); have HO132 := jA.mk (Kd.jr ho4 (jB (bb_ HB))); replace HB := bs_ HB hb; clear hb ho4))
  go_ret
  exact ⟨_, ew_, (rR_ HO132), (bb_ HB)⟩

end Go.Proofs.Ytijgeonhbmgikaa.POOctetBack
