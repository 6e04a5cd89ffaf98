-- printed (pr.py)
import Derived.Test.YtijgeonhbmgikaaPOOctetOnex0
import Derived.Test.YtijgeonhbmgikaaPOOctetOnex1
import Derived.Test.YtijgeonhbmgikaaPOOctetOnex3
namespace Go.Proofs.Ytijgeonhbmgikaa.POOctetOne
open Go.RowKit Go.Proofs.YtijgeonhbmgikaaN Go.Proofs.YtijgeonhbmgikaaW.PrintWords Go.Proofs.YtijgeonhbmgikaaW.PrintLast Go.Proofs.YtijgeonhbmgikaaW.PrintMore
attribute [local go_sem] zQ zN qA zy zC zA zP zM
set_option maxHeartbeats 8000000
set_option maxRecDepth 100000
set_option linter.unusedVariables false
set_option linter.unusedSimpArgs false

/-! ### jo: function 22 -/
namespace jo
open Oct
theorem jFA (p q : Addr) (x y : Value) (w : World) (hp : w.cell? p = some x) (hq : w.cell? q = some y) (fp : w.frozen? p = false) (fq : w.frozen? q = false) (hpq : p.block ≠ q.block) :
  Calls Try.prog 66 #[.pointer (some p), .pointer (some q)] w fun e w' => e = .returned (.tuple #[]) ∧ w' = (w.setCell p (.slice none 0 0)).setCell q (.string { data := #[] }) := by
 have hq' : (w.setCell p (.slice none 0 0)).cell? q = some y := by rw [World.cell?_setCell_other _ _ _ _ (fun e => hpq (by rw [e]))]; exact hq
 go_enter Try.func66, Try.ntmps66
 go_wp2
 go_end0
 exact ⟨rfl, rfl⟩
def jBI (s : ByteArray) (w : World) : World := (((w.alloc (.cells #[.slice none 0 0] 36)).alloc (.cells #[.string { data := #[] }] 9)).alloc (.cells #[.int .i64 0] 28)).alloc (.cells #[.string s] 86)
theorem vO (w : World) (o : Obj) : (w.alloc o).heap.size = w.heap.size + 1 := Array.size_push _
theorem jEx (s : ByteArray) (w : World) : (jBI s w).heap[w.heap.size]? = some (.cells #[.slice none 0 0] 36 (0, 0)) := jg (jg (jg (vY _ _) _) _) _
theorem jEv (s : ByteArray) (w : World) : (jBI s w).heap[w.heap.size + 1]? = some (.cells #[.string { data := #[] }] 9 (0, 0)) := by rw [← vO w (.cells #[.slice none 0 0] 36)]; exact jg (jg (vY _ _) _) _
theorem jEt (s : ByteArray) (w : World) : (jBI s w).heap[w.heap.size + 1 + 1]? = some (.cells #[.int .i64 0] 28 (0, 0)) := by rw [← vO w (.cells #[.slice none 0 0] 36), ← vO _ (.cells #[.string { data := #[] }] 9)]; exact jg (vY _ _) _
theorem jEr (s : ByteArray) (w : World) : (jBI s w).heap[w.heap.size + 1 + 1 + 1]? = some (.cells #[.string s] 86 (0, 0)) := by rw [← vO w (.cells #[.slice none 0 0] 36), ← vO _ (.cells #[.string { data := #[] }] 9), ← vO _ (.cells #[.int .i64 0] 28)]; exact vY _ _
theorem jCE (s : ByteArray) (w : World) : (jBI s w).heap.size = w.heap.size + 1 + 1 + 1 + 1 := by unfold jBI; rw [vO, vO, vO, vO]
theorem jBa (s : ByteArray) (w : World) : Below w.heap.size w (jBI s w) :=
 jP (jP (jP (jP (Below.refl _ w) _) _) _) _
set_option maxHeartbeats 4000000 in
theorem jFf (k : Nat) (s : ByteArray) (w : World) (c : Int) (hn : OctNat.nat_ k s = some (.inl c)) (hz : s.size ≤ 140737488351232) :
  Calls Try.prog 22 #[.string s] w fun e w' => e = .returned (.tuple #[.slice none 0 0, .string { data := #[] }, .int .i64 c]) ∧ Below w.heap.size w w' := by
 have hmf : ∀ (fn : Fn) (first cap : Array Value) (w : World), (Instr.makeFunc fn first cap).run Try.prog w = .ok (.func fn first cap) w := fun _ _ _ _ => rfl
 have H0 := jA.mk (jEx s w)
 have H1 := jA.mk (jEv s w)
 have H2 := jA.mk (jEt s w)
 have H3 := jA.mk (jEr s w)
 have HW := jA.mk (jBa s w)
 have HZ := jA.mk (jCE s w)
 have HN := jA.mk hn
 clear hn
 go_enter_defers Try.func22, Try.ntmps22
 go_wp2_with fail
 refine (show Calls Try.prog 67 _ (jBI s w) (OctNat.jIc _ (jBI s w) _) from OctNat.jAw k _ s _ _ H3.out hz HN.out).mono ?_
 generalize jBI s w = W at H0 H1 H2 H3 HW HZ ⊢
 rintro e w1 ⟨rfl, ⟨hb, _⟩⟩
 have C0 := jA.mk ((hb.block _ (by omega)).trans H0.out)
 have C1 := jA.mk ((hb.block _ (by omega)).trans H1.out)
 have C2 := jA.mk ((hb.block _ (by omega)).trans H2.out)
 have CB := jA.mk (HW.out.trans (hb.mono (by omega)))
 clear hb
 show bodyPostD Try.prog Try.f22 _ (Exit.panic _) _ _
 unfold bodyPostD pan
 refine leaves_cons (f := 59) (args := #[.pointer (some ⟨w.heap.size + 1 + 1, 0, none⟩), .func (.func 66) #[] #[.pointer (some ⟨w.heap.size, 0, none⟩), .pointer (some ⟨w.heap.size + 1, 0, none⟩)]]) (by simp) kr_ ?_
 have D0 := jM (p := ⟨w.heap.size + 1 + 1, 0, none⟩) C0.out (by simp; omega) (.int .i64 c)
 have D1 := jM (p := ⟨w.heap.size + 1 + 1, 0, none⟩) C1.out (by simp) (.int .i64 c)
 have DB := (CB.out.setCell (p := ⟨w.heap.size + 1 + 1, 0, none⟩) (by simp; omega) (.int .i64 c))
 have HU := jFA ⟨w.heap.size, 0, none⟩ ⟨w.heap.size + 1, 0, none⟩ _ _ _ ((jE D0 0).trans rfl) ((jE D1 0).trans rfl) (jL D0 0) (jL D1 0) (by simp)
 have DU := (DB.setCell (p := ⟨w.heap.size, 0, none⟩) (by simp) (.slice none 0 0)).setCell (p := ⟨w.heap.size + 1, 0, none⟩) (by simp) (.string { data := #[] })
 have E2 := jM (p := ⟨w.heap.size + 1, 0, none⟩) (jM (p := ⟨w.heap.size, 0, none⟩) (jc (cs' := #[.int .i64 c]) C2.out 0 (.int .i64 c) rfl) (by simp; omega) (.slice none 0 0)) (by simp) (.string { data := #[] })
 have E0 := jM (p := ⟨w.heap.size + 1, 0, none⟩) (jc (cs' := #[.slice none 0 0]) D0 0 (.slice none 0 0) rfl) (by simp) (.string { data := #[] })
 have E1 := jc (cs' := #[.string { data := #[] }]) (jM (p := ⟨w.heap.size, 0, none⟩) D1 (by simp) (.slice none 0 0)) 0 (.string { data := #[] }) rfl
 refine (qZ ⟨w.heap.size + 1 + 1, 0, none⟩ 0 c 66 Try.f66 _ [] w1 _ ((jE C2.out 0).trans rfl) (jL C2.out 0) (fun _ _ => kr_) HU).mono ?_
 rintro e u' w'' ⟨rfl, rfl, rfl⟩
 have F2 := (jE E2 0).trans (show _ = some (.int .i64 c) from rfl)
 have F0 := (jE E0 0).trans (show _ = some (.slice none 0 0) from rfl)
 have F1 := (jE E1 0).trans (show _ = some (.string { data := #[] }) from rfl)
 clear E0 E1 E2 HU D0 D1 DB
 generalize ((w1.setCell ⟨w.heap.size + 1 + 1, 0, none⟩ (.int .i64 c)).setCell ⟨w.heap.size, 0, none⟩ (.slice none 0 0)).setCell ⟨w.heap.size + 1, 0, none⟩ (.string { data := #[] }) = w3 at DU F0 F1 F2 ⊢
 simp [Leaves, settle, results, Try.results22, go_sem, F0, F1, F2]
 exact DU

set_option maxHeartbeats 4000000 in
theorem jEd (s : ByteArray) (w : World) (k : Nat) (r : List Int) (t : ByteArray) (hn : OctNat.nat_ k s = some (.inr (r, t))) (hz : s.size ≤ 140737488351232) :
  Calls Try.prog 22 #[.string s] w fun e w' => ∃ u, e = .returned (.tuple #[u, .string t, .int .i64 0]) ∧ Kd.R (Kd.int .u64) 22 w' w.heap.size (fun _ => True) u r ∧ Below w.heap.size w w' := by
 have hmf : ∀ (fn : Fn) (first cap : Array Value) (w : World), (Instr.makeFunc fn first cap).run Try.prog w = .ok (.func fn first cap) w := fun _ _ _ _ => rfl
 have H0 := jA.mk (jEx s w)
 have H1 := jA.mk (jEv s w)
 have H2 := jA.mk (jEt s w)
 have H3 := jA.mk (jEr s w)
 have HW := jA.mk (jBa s w)
 have HZ := jA.mk (jCE s w)
 have HN := jA.mk hn
 clear hn
 go_enter_defers Try.func22, Try.ntmps22
 go_wp2_with fail
 refine (show Calls Try.prog 67 _ (jBI s w) (OctNat.jIc _ (jBI s w) _) from OctNat.jAw k _ s _ _ H3.out hz HN.out).mono ?_
 generalize jBI s w = W at H0 H1 H2 H3 HW HZ ⊢
 rintro e w1 ⟨u, rfl, ⟨hb, _⟩, h3, hv⟩
 obtain ⟨A, c, rfl⟩ := Kd.jq hv
 clear HN
 have C0 := (hb.block _ (by omega)).trans H0.out
 have C1 := (hb.block _ (by omega)).trans H1.out
 have C2 := (hb.block _ (by omega)).trans H2.out
 have CB := HW.out.trans (hb.mono (by omega))
 have X3 := (jE h3 0).trans (show _ = some (.string t) from rfl)
 have X0 := (jE C0 0).trans (show _ = some (.slice none 0 0) from rfl)
 have Z0 := jL C0 0
 have HZ0 := HZ
 clear hb HW H0 H1 H2 H3 HZ
 have CBB := jA.mk CB
 have D0 := jA.mk (jc (cs' := #[.slice A r.length c]) C0 0 (.slice A r.length c) rfl)
 have D1 := jA.mk (jM (p := ⟨w.heap.size, 0, none⟩) C1 (by simp) (.slice A r.length c))
 have D2 := jA.mk (jM (p := ⟨w.heap.size, 0, none⟩) C2 (by simp; omega) (.slice A r.length c))
 have D3 := jA.mk (jM (p := ⟨w.heap.size, 0, none⟩) h3 (by simp; omega) (.slice A r.length c))
 have DB := jA.mk (CB.setCell (p := ⟨w.heap.size, 0, none⟩) (by simp) (.slice A r.length c))
 have HV0 := Kd.ji (Kd.jw (Kd.zR hv) (fun k_ hk_ => (show w.heap.size + 1 + 1 + 1 + 1 ≤ k_ from HZ0.out ▸ hk_.2.1))) (show w.heap.size ≤ W.heap.size by have := HZ0.out; omega)
 have HV1 := jA.mk (Oct.jDR (p := ⟨w.heap.size, 0, none⟩) HV0 (by show w.heap.size < _; omega) (.slice A r.length c))
 clear hv HV0 HZ0
 clear C0 C1 C2 CB h3
 go_wp2
 generalize w1.setCell ⟨w.heap.size, 0, none⟩ (.slice A r.length c) = v0 at D0 D1 D2 D3 DB HV1 ⊢
 refine jCS ?_
 refine jAN (n := 8) (S := fun w' => w'.heap[w.heap.size]? = some (.cells #[.slice A r.length c] 36 (0, 0)) ∧ w'.heap[w.heap.size + 1]? = some (.cells #[.string { data := #[] }] 9 (0, 0)) ∧ w'.heap[w.heap.size + 1 + 1]? = some (.cells #[.int .i64 0] 28 (0, 0)) ∧ w'.heap[w.heap.size + 1 + 1 + 1]? = some (.cells #[.string t] 86 (0, 0)) ∧ Below w.heap.size w w' ∧ Kd.R (Kd.int .u64) 22 w' w.heap.size (fun k_ => w.heap.size + 1 + 1 + 1 + 1 ≤ k_) (.slice A r.length c) r) (ds := [6, 7]) #[false, false, false, false, false, false, false, false] kr_ rfl rfl ⟨jr D0.out, jr D1.out, jr D2.out, jr D3.out, vL DB.out, Kd.zi HV1.out⟩ (fun hHeld => ?_)
 generalize v0.drew = u0 at hHeld ⊢
 clear D0 D1 D2 D3 DB HV1
 refine jAj (i := 0) (N := some 12) (v := ?_) (a' := ?_) (ba_ 8 1) rfl rfl kr_ (fun _ _ _ h => h) (Or.inl ⟨by rfl, ?_⟩) hHeld ?_ ?_
 rotate_left
 ·
  rintro w' ⟨s0_, s1_, s2_, s3_, s4_, s5_⟩
  have hc := (jE s0_ 0).trans (show _ = some (.slice A r.length c) from rfl)
  go_simp
  with_reducible rfl
 rotate_left
 ·
  simp only [Act.put, ss_, vU, zI]
  rfl
 refine pu_ 1 (some 13) (ba_ 8 3) kr_ ?_
 refine pu_ 2 (some 14) (ba_ 8 7) kr_ ?_
 refine pu_ 3 (some 15) (ba_ 8 15) kr_ ?_
 refine jAj (i := 4) (N := some 16) (v := ?_) (a' := ?_) (ba_ 8 31) rfl rfl kr_ (fun _ _ _ h => h) (Or.inl ⟨by rfl, ?_⟩) hHeld ?_ ?_
 rotate_left
 ·
  rintro w' ⟨s0_, s1_, s2_, s3_, s4_, s5_⟩
  have hc := (jE s3_ 0).trans (show _ = some (.string t) from rfl)
  go_simp
  with_reducible rfl
 rotate_left
 ·
  simp only [Act.put, ss_, vU, zI]
  rfl
 obtain ⟨s0_, s1_, s2_, s3_, s4_, s5_⟩ := hHeld
 refine one_ (i := 5) (N := none) (ba_ 8 63) rfl rfl kr_ (by decide) (fun K hK => ?_)
 have hc := (jE s0_ 0).trans (show _ = some (.slice A r.length c) from rfl)
 have hf := jL s0_ 0
 refine jAB (w1 := ?_) (by rfl) rfl ?_ ?_
 rotate_left
 ·
  go_simp
  rfl
 refine hK.out _ _ ⟨jc s0_ 0 (.slice A r.length c) rfl, jM (p := ⟨w.heap.size, 0, none⟩) s1_ (by simp) (.slice A r.length c), jM (p := ⟨w.heap.size, 0, none⟩) s2_ (by simp; omega) (.slice A r.length c), jM (p := ⟨w.heap.size, 0, none⟩) s3_ (by simp; omega) (.slice A r.length c), s4_.setCell (p := ⟨w.heap.size, 0, none⟩) (by simp) (.slice A r.length c), Oct.jDR (p := ⟨w.heap.size, 0, none⟩) s5_ (by show w.heap.size < _; omega) (.slice A r.length c)⟩ (fun hHeld => ?_)
 clear hK K
 obtain ⟨s0_, s1_, s2_, s3_, s4_, s5_⟩ := hHeld
 refine jAX (i := 6) (N := none) (ba_ 8 127) rfl rfl kr_ (by decide) (fun K hK => ?_)
 have hc := (jE s1_ 0).trans (show _ = some (.string { data := #[] }) from rfl)
 have hf := jL s1_ 0
 refine jAB (w1 := ?_) (by rfl) rfl ?_ ?_
 rotate_left
 ·
  go_simp
  rfl
 refine hK.out _ _ ?_
 clear hK K
 have e0 := jM (p := ⟨w.heap.size + 1, 0, none⟩) s0_ (by simp) (.string t)
 have e1 := jc (cs' := #[.string t]) s1_ 0 (.string t) rfl
 have e2 := jM (p := ⟨w.heap.size + 1, 0, none⟩) s2_ (by simp) (.string t)
 have e4 := s4_.setCell (p := ⟨w.heap.size + 1, 0, none⟩) (by simp) (.string t)
 have c2 := (jE s2_ 0).trans (show _ = some (.int .i64 0) from rfl)
 have z2 := jL s2_ 0
 have e5 := Oct.jDR (p := ⟨w.heap.size + 1, 0, none⟩) s5_ (by show w.heap.size + 1 < _; omega) (.string t)
 clear s5_
 clear s0_ s1_ s2_ s3_ s4_
 refine jAX (i := 7) (N := none) (ba_ 8 255) rfl rfl kr_ (by decide) (fun K hK => ?_)
 have hc := (jE e2 0).trans (show _ = some (.int .i64 0) from rfl)
 have hf := jL e2 0
 refine jAB (w1 := ?_) (by rfl) rfl ?_ ?_
 rotate_left
 ·
  go_simp
  rfl
 refine hK.out _ _ ?_
 clear hK K
 have f0 := (jE (jM (p := ⟨w.heap.size + 1 + 1, 0, none⟩) e0 (by simp; omega) (.int .i64 0)) 0).trans (show _ = some (.slice A r.length c) from rfl)
 have f1 := (jE (jM (p := ⟨w.heap.size + 1 + 1, 0, none⟩) e1 (by simp) (.int .i64 0)) 0).trans (show _ = some (.string t) from rfl)
 have f2 := (jE (jc (cs' := #[.int .i64 0]) e2 0 (.int .i64 0) rfl) 0).trans (show _ = some (.int .i64 0) from rfl)
 have f4 := e4.setCell (p := ⟨w.heap.size + 1 + 1, 0, none⟩) (by simp; omega) (.int .i64 0)
 have f5 := Oct.jDR (p := ⟨w.heap.size + 1 + 1, 0, none⟩) e5 (by show w.heap.size + 1 + 1 < _; omega) (.int .i64 0)
 clear e5
 clear e0 e1 e2 e4
 refine jBQ kr_ ?_
 refine qU ?_
 refine (‹∀ (a : Act) (w : World), Code.wp Try.prog Code.ret _ a w → _›) _ _ ?_
 clear hc hf c2 z2 X3 X0 Z0 CBB
 go_wp2
 generalize ((u0.setCell ⟨w.heap.size, 0, none⟩ (.slice A r.length c)).setCell ⟨w.heap.size + 1, 0, none⟩ (.string t)).setCell ⟨w.heap.size + 1 + 1, 0, none⟩ (.int .i64 0) = w3 at f0 f1 f2 f4 f5 ⊢
 unfold bodyPostD
 refine leaves_cons (f := 59) (args := #[.pointer (some ⟨w.heap.size + 1 + 1, 0, none⟩), .func (.func 66) #[] #[.pointer (some ⟨w.heap.size, 0, none⟩), .pointer (some ⟨w.heap.size + 1, 0, none⟩)]]) (by simp) kr_ ?_
 refine (jAK _ _ _).mono ?_
 rintro e u' w'' ⟨rfl, rfl, rfl⟩
 simp [Leaves, settle, results, Try.results22, go_sem, f0, f1, f2]
 exact ⟨Kd.jw f5 (fun _ _ => trivial), f4⟩
end jo

def jo.f (k : Nat) (a0 : ByteArray) : Option (List Int × ByteArray × Int) := if a0.size ≤ 140737488351232 then ((OctNat.nat_ k a0).bind fun v_ => some (match v_ with | .inl c => ([], { data := #[] }, c) | .inr (l, t) => (l, t, 0))) else none
theorem jo.mono : ∀ a0 k, LeO (jo.f k a0) (jo.f (k + 1) a0) := by
 intro a0 k
 unfold jo.f
 exact LeO.ite (LeO.bind (OctNat.jCc a0 k) fun _ => LeO.refl _) (LeO.refl _)
theorem jo.calls (k : Nat) (a0 : ByteArray) (r1 : List Int) (r2 : ByteArray) (r3 : Int) (w : World) (h : jo.f k a0 = some (r1, r2, r3)) :
  Calls Try.prog 22 #[.string a0] w fun e w' => ∃ v0_ : Value, e = .returned (.tuple #[v0_, .string r2, .int .i64 r3]) ∧ Kd.R (Kd.int .u64) 22 w' w.heap.size (fun _ => True) v0_ r1 ∧ Below w.heap.size w w' := by
 unfold jo.f at h
 by_cases hz : a0.size ≤ 140737488351232
 ·
  rw [if_pos hz] at h
  obtain ⟨v, hv, h⟩ := Option.bind_eq_some_iff.mp h
  cases v with
  | inl c =>
   cases h
   refine (jo.jFf k a0 w _ hv hz).mono ?_
   rintro e w' ⟨he, hb⟩
   exact ⟨_, he, Kd.jBK _ _ _ _ _, hb⟩
  | inr p =>
   obtain ⟨l, t⟩ := p
   cases h
   exact jo.jEd a0 w k _ _ hv hz
 ·
  rw [if_neg hz] at h; cases h

/-! ### zh: function 54 -/
def zh.f (a0_0 : Bool) (l0_1 : List Int) (l0_2 : List Int) : Option (Bool) := some ((l0_1.length : Int) == 0)
theorem zh.calls (a0_0 : Bool) (A0_1 : Option Addr) (c0_1 : Nat) (l0_1 : List Int) (A0_2 : Option Addr) (c0_2 : Nat) (l0_2 : List Int) (r : Bool) (w : World) (hr0_1 : Kd.C (Kd.int .u64) w A0_1 l0_1.length l0_1) (hc0_1 : l0_1.length ≤ c0_1) (hr0_2 : Kd.C (Kd.int .u64) w A0_2 l0_2.length l0_2) (hc0_2 : l0_2.length ≤ c0_2) (h : zh.f a0_0 l0_1 l0_2 = some r) :
  Calls Try.prog 54 #[.agg #[.bool a0_0, .slice A0_1 l0_1.length c0_1, .slice A0_2 l0_2.length c0_2]] w fun e w' => e = .returned (.bool r) ∧ Below w.heap.size w w' := by
 have hu44 := Try.underlying44
 have HR0_1 := jA.mk hr0_1
 have HC0_1 := jA.mk hc0_1
 clear hr0_1 hc0_1
 have HR0_2 := jA.mk hr0_2
 have HC0_2 := jA.mk hc0_2
 clear hr0_2 hc0_2
 have HB := jA.mk (Below.refl w.heap.size w)
 have H : (some ((l0_1.length : Int) == 0)) = some r := h
 clear h
 obtain rfl := Option.some.inj H
 go_enter Try.func54, Try.ntmps54
 go_wp2_with (first | ((with_reducible refine jv (N := 1) rfl ?_); refine zY ?hg (N := 1) ?hd (cs := #[.bool a0_0, .slice A0_1 l0_1.length c0_1, .slice A0_2 l0_2.length c0_2]) (t := 44) ?hr ?_; (case hd => rfl); (case hg => rfl); (case hr => exact gs_); intro gb121 hg w2 hbox hb; have BK121 := jA.mk (hbox); have GW121 := jA.mk ((by rw [hg]; exact (jC (bb_ HB)) : w.heap.size ≤ gb121)); have GE121 := jA.mk ((by rw [hg]; exact (jC (bb_ HB)) : w.heap.size ≤ gb121)); replace HB := bs_ HB hb; clear hb hbox hg; obtain ⟨hcz3_0, hcz3_1, hcz3_2, hfz3_0, hfz3_1, hfz3_2⟩ := bf3_ BK121))
 go_ret
 exact ⟨ew_, (bb1_ HB GE121)⟩

/-! ### jBO: function 81 -/
def jBO.f (a0 : Int) : Option (List Int) := if a0 = 0 then (some ([] : List Int)) else (some (([a0] : List Int)))
theorem jBO.calls (a0 : Int) (r : List Int) (w : World) (h : jBO.f a0 = some r) :
  Calls Try.prog 81 #[.int .u64 a0] w fun e w' => ∃ v0_ : Value, e = .returned (v0_) ∧ Kd.R (Kd.int .u64) 22 w' w.heap.size (fun _ => True) v0_ r ∧ Below w.heap.size w w' := by
 have HB := jA.mk (Below.refl w.heap.size w)
 have H : (if a0 = 0 then (some ([] : List Int)) else (some (([a0] : List Int)))) = some r := h
 clear h
 by_cases c2 : a0 = 0
 ·
  rw [if_pos c2] at H
  have c2b0 := beq_iff_eq.mpr c2
  have c2b1 := bne_eq_false_iff_eq.mpr c2
  clear c2
  obtain rfl := Option.some.inj H
  go_enter Try.func81, Try.ntmps81
  go_wp2
  go_ret
  exact ⟨_, ew_, nl_, (bb_ HB)⟩
 ·
  rw [if_neg c2] at H
  have c2b0 := beq_eq_false_iff_ne.mpr c2
  have c2b1 := bne_iff_ne.mpr c2
  obtain ⟨y122, hy122⟩ : ∃ y_ : List Int, y_ = (([a0] : List Int)) := ⟨_, rfl⟩
  replace H : (some y122) = some r := by first | (rw [hy122]; with_reducible exact H) | (have H2_ := (Option.bind_some _ _).symm.trans H; rw [hy122]; with_reducible exact H2_) | (with_reducible exact hs_ H) | with_reducible exact H | (rw [hy122]; exact H) | exact H
  have Ny122 := jA.mk hy122
  clear hy122
  obtain rfl := Option.some.inj H
  go_enter Try.func81, Try.ntmps81
  go_wp2_with (first | ((with_reducible refine jv (N := 6) rfl ?_); refine Kd.jDQ (Kd.int .u64) _ 22 ?hg (N := 6) ?hd (xs := ([a0] : List Int)) (inner := [.int .u64 a0]) (ok := fun _ => True) (okp := fun _ => True) ?hr ?hp (fun _ hk => hk) trivial (Below.refl _ _) (Nat.le_refl _) (by simp) ?_; (case hd => rfl); (case hg => rfl); (case hr => exact gs_); (case hp => exact (Reps.one (show Kd.M (Kd.int .u64) _ _ _ a0 [.int .u64 a0] from rfl) (Reps.none _ _))); intro v123 w3 ho4 hb hg_ hnew_; clear hg_ hnew_; (first | rw [← Ny122.out] at ho4 | (simp only [Int.reduceToNat] at ho4; rw [← Ny122.out] at ho4)); have HO124 := jA.mk (Kd.ji ho4 (jC (bb_ HB))); replace HB := bs_ HB hb; clear hb ho4))
  go_ret
  exact ⟨_, ew_, (rR_ HO124), (bb_ HB)⟩

/-! ### jG: function 110 -/
def jG.l0 : Nat → List Int → Option (List Int)
 | 0, _ => none
 | k + 1, x0 => if (x0.length : Int) > 0 then (if 0 ≤ (wrap64 ((x0.length : Int) - 1)) then (if (wrap64 ((x0.length : Int) - 1)) < (x0.length : Int) then (if (rd x0 (wrap64 ((x0.length : Int) - 1))) = 0 then (if (wrap64 ((x0.length : Int) - 1)) ≤ (x0.length : Int) then (jG.l0 k (x0.take ((wrap64 ((x0.length : Int) - 1)) : Int).toNat)) else (none)) else (some x0)) else (none)) else (none)) else (some x0)
def jG.f (k : Nat) (l0 : List Int) : Option (List Int) := jG.l0 k l0
theorem jG.vW : ∀ k, (∀ y0, LeO (jG.l0 k y0) (jG.l0 (k + 1) y0))
 | 0 => fun _ r h => by simp [jG.l0] at h
 | k + 1 => by
  have ih0 := jG.vW k
  ·
   intro y0
   unfold jG.l0
   repeat' first
   | (with_reducible exact ih0 _)
   | (with_reducible exact LeO.refl _)
   | (with_reducible exact LeO.none _)
   | (with_reducible refine LeO.ite ?_ ?_)
   | (with_reducible refine LeO.bind ?_ (fun _ => ?_))
theorem jG.mono : ∀ a0 k, LeO (jG.f k a0) (jG.f (k + 1) a0) := by
 intro a0 k
 have ih0 := jG.vW k
 unfold jG.f
 repeat' first
   | (with_reducible exact ih0 _)
   | (with_reducible exact LeO.refl _)
   | (with_reducible exact LeO.none _)
   | (with_reducible refine LeO.ite ?_ ?_)
   | (with_reducible refine LeO.bind ?_ (fun _ => ?_))
theorem jG.calls (k : Nat) (P0_ : Nat → Prop) (A0 : Option Addr) (c0 : Nat) (l0 : List Int) (r : List Int) (w : World) (hs0 : Kd.V (Kd.int .u64) 22 w w.heap.size (fun k_ => P0_ k_) (.slice A0 l0.length c0) l0) (h : jG.f k l0 = some r) :
  Calls Try.prog 110 #[.slice A0 l0.length c0] w fun e w' => ∃ v0_ : Value, e = .returned (v0_) ∧ Kd.V (Kd.int .u64) 22 w' w.heap.size (fun k_ => (P0_ k_ ∨ w.heap.size ≤ k_)) v0_ r ∧ Below w.heap.size w w' := by
 have HO0 := jA.mk (show Kd.V (Kd.int .u64) 22 w w.heap.size (fun k_ => (P0_ k_ ∨ w.heap.size ≤ k_)) (.slice A0 l0.length c0) l0 from Kd.vk hs0 (fun k_ hk => .inl hk))
 have HB := jA.mk (Below.refl w.heap.size w)
 have H : (jG.l0 k l0) = some r := h
 clear h
 have H' := jA.mk H
 clear H
 go_enter Try.func110, Try.ntmps110
 go_wp2
 go_loopg [0] k (fun kq v0 w' => ∃ (x0_1 : List Int), jA (jG.l0 kq x0_1 = some r) ∧ jA (kq ≤ k) ∧ jA (Kd.V (Kd.int .u64) 22 w' w.heap.size (fun k_ => (P0_ k_ ∨ w.heap.size ≤ k_)) v0 x0_1) ∧ jA (Below w.heap.size w w'))
 case atStart => exact ⟨(l0), H', ⟨Nat.le_refl _⟩, ⟨(rV_ HO0)⟩, ⟨(bb_ HB)⟩⟩
 case round =>
  clear H'
  try clear c1
  obtain ⟨x0_1, HA, HK1, HO_0, HB⟩ := hrel
  cases gk with
  | zero => exact absurd HA.out (by simp [jG.l0])
  | succ k1 =>
   have H := HA.out
   clear HA
   simp only [jG.l0] at H
   by_cases c2 : (x0_1.length : Int) > 0
   ·
    rw [if_pos c2] at H
    have c2b0 := decide_eq_true c2
    have c2b1 : decide (0 < x0_1.length) = true := decide_eq_true (by omega)
    clear c2
    obtain ⟨ji3, hji3⟩ : ∃ j_ : Int, (wrap64 ((x0_1.length : Int) - 1)) = j_ := ⟨_, rfl⟩
    replace H : (if 0 ≤ (ji3) then (if (ji3) < (x0_1.length : Int) then (if (rd x0_1 (ji3)) = 0 then (if (ji3) ≤ (x0_1.length : Int) then (jG.l0 k1 (x0_1.take ((ji3) : Int).toNat)) else (none)) else (some x0_1)) else (none)) else (none)) = some r := by first | (rw [hji3] at H; exact H) | (simp only [hji3] at H ⊢; exact H)
    have hji3w : (IntKind.i64.wrap ((x0_1.length : Int) - 1)) = ji3 := (vU _).trans hji3
    by_cases c4 : 0 ≤ (ji3)
    ·
     rw [if_pos c4] at H
     have c4b0 := decide_eq_true c4
     clear c4
     by_cases c5 : (ji3) < (x0_1.length : Int)
     ·
      rw [if_pos c5] at H
      have c5b0 := decide_eq_true c5
      clear c5
      by_cases c6 : (rd x0_1 (ji3)) = 0
      ·
       rw [if_pos c6] at H
       have c6b0 := beq_iff_eq.mpr c6
       have c6b1 := bne_eq_false_iff_eq.mpr c6
       clear c6
       have c7b0 := eq_true (of_decide_eq_true am_ : 0 ≤ (ji3))
       by_cases c8 : (ji3) ≤ (x0_1.length : Int)
       ·
        rw [if_pos c8] at H
        have c8b0 := eq_true c8
        have c8b1 := decide_eq_true c8
        clear c8
        obtain ⟨y126, hy126⟩ : ∃ y_ : List Int, y_ = (x0_1.take ((ji3) : Int).toNat) := ⟨_, rfl⟩
        replace H : (jG.l0 k1 y126) = some r := by first | (rw [hy126]; with_reducible exact H) | (have H2_ := (Option.bind_some _ _).symm.trans H; rw [hy126]; with_reducible exact H2_) | (with_reducible exact hs_ H) | with_reducible exact H | (rw [hy126]; exact H) | exact H
        have Ny126 := jA.mk hy126
        clear hy126
        have H' := jA.mk H
        clear H
        obtain ⟨Ao9, co9, eo9⟩ := Kd.vR HO_0.out
        subst eo9
        have p125 : 0 ≤ ((ji3) : Int) := of_decide_eq_true am_
        have q125 : (ji3) < (x0_1.length : Int) := of_decide_eq_true am_
        obtain ⟨ad125, e125, hx125_0⟩ := Kd.vX (Kd.vN HO_0.out).2.2 (ji3) p125 q125
        cases e125
        replace p125 := eq_true p125
        replace q125 := eq_true q125
        have q10 : ((ji3) : Int) ≤ ((x0_1.length : Int) : Int) := of_decide_eq_true am_
        obtain ⟨i010, hi010, _, hsz10, _⟩ := info_parts qY
        have hroom10 : x0_1.length ≤ co9 := (Kd.vN HO_0.out).2.1
        have hC10 : Kd.F (Kd.int .u64) _ _ (some ad125) x0_1.length x0_1 := (Kd.V_at (base := w.heap.size) HO_0.out).2.2
        have hcut10 := jFp (P := Try.prog) 35 22 .i64 Try.underlying35 hi010 (some ad125) x0_1.length co9 (ji3) (of_decide_eq_true am_) q10 hroom10
        have hr10 := Kd.jJy (m := ((ji3) : Int).toNat) hC10 (by omega)
        have hy10 : y126.length = ((ji3) : Int).toNat := (by rw [Ny126.out, List.length_take]; omega)
        rw [← Ny126.out] at hr10
        rw [← hy10] at hcut10
        have HO130 := jA.mk (show Kd.V (Kd.int .u64) 22 _ w.heap.size _ (.slice (some ad125) y126.length co9) y126 from Kd.V_mk (by omega) hr10)
        have HC130 := jA.mk (show y126.length ≤ co9 from by omega)
        clear hr10 hC10 hroom10 hi010 hsz10
        have KY10 := jA.mk hy10
        clear hy10
        replace q10 := eq_true q10
        go_wp2
        go_roundg k1
        case measure => have := HK1.out; omega
        case rel => exact ⟨(y126), H', ⟨by have := HK1.out; omega⟩, ⟨(rV_ HO130)⟩, ⟨(bb_ HB)⟩⟩
       ·
        rw [if_neg c8] at H
        exact absurd H (by simp)
      ·
       rw [if_neg c6] at H
       have c6b0 := beq_eq_false_iff_ne.mpr c6
       have c6b1 := bne_iff_ne.mpr c6
       obtain rfl := Option.some.inj H
       obtain ⟨Ao11, co11, eo11⟩ := Kd.vR HO_0.out
       subst eo11
       have p125 : 0 ≤ ((ji3) : Int) := of_decide_eq_true am_
       have q125 : (ji3) < (x0_1.length : Int) := of_decide_eq_true am_
       obtain ⟨ad125, e125, hx125_0⟩ := Kd.vX (Kd.vN HO_0.out).2.2 (ji3) p125 q125
       cases e125
       replace p125 := eq_true p125
       replace q125 := eq_true q125
       go_wp2
       go_ret
       exact ⟨_, by first | rfl | (simp [vB, jy] <;> rfl) | (simp only [← hji3]; first | rfl | (simp [vB, jy] <;> rfl)) | (simp [*, vB, jy] <;> rfl), (rV_ HO_0), (bb_ HB)⟩
     ·
      rw [if_neg c5] at H
      exact absurd H (by simp)
    ·
     rw [if_neg c4] at H
     exact absurd H (by simp)
   ·
    rw [if_neg c2] at H
    have c2b0 := decide_eq_false c2
    have c2b1 : decide (0 < x0_1.length) = false := decide_eq_false (by omega)
    clear c2
    obtain rfl := Option.some.inj H
    obtain ⟨Ao12, co12, eo12⟩ := Kd.vR HO_0.out
    subst eo12
    go_wp2
    go_ret
    exact ⟨_, ew_, (rV_ HO_0), (bb_ HB)⟩

/-- What two stores, into the row and into the carry's block, leave. -/
theorem jAW {w wr : World} {gx gc ga i n cx base : Nat} {vx : Value} {xs : List Int} {c s c' : Int} {ok : Nat → Prop} (h1 : wr.heap[gx]? = some (.cells #[vx] 35 (0, 0))) (h2 : wr.heap[gc]? = some (.cells #[.int .u64 c] 22 (0, 0)))
  (h3 : Kd.R (Kd.int .u64) 22 wr base ok (.slice (some ⟨ga, 0, none⟩) n cx) xs) (h4 : Below w.heap.size w wr) (n1 : gx ≠ ga) (n2 : gc ≠ ga) (n3 : gx ≠ gc) (n4 : w.heap.size ≤ ga) (n5 : w.heap.size ≤ gc) (hok : ∀ k, ok k → k ≠ gc) :
  ((wr.setCell ⟨ga, i, none⟩ (.int .u64 s)).setCell ⟨gc, 0, none⟩ (.int .u64 c')).drew.heap[gx]? = some (.cells #[vx] 35 (0, 0)) ∧ ((wr.setCell ⟨ga, i, none⟩ (.int .u64 s)).setCell ⟨gc, 0, none⟩ (.int .u64 c')).drew.heap[gc]? = some (.cells #[.int .u64 c'] 22 (0, 0)) ∧
  Kd.R (Kd.int .u64) 22 ((wr.setCell ⟨ga, i, none⟩ (.int .u64 s)).setCell ⟨gc, 0, none⟩ (.int .u64 c')).drew base ok (.slice (some ⟨ga, 0, none⟩) n cx) (xs.set i s) ∧ Below w.heap.size w ((wr.setCell ⟨ga, i, none⟩ (.int .u64 s)).setCell ⟨gc, 0, none⟩ (.int .u64 c')).drew := by
 refine ⟨jr (jM (jM h1 n1 _) n3 _), jr (jc (jM h2 n2 _) 0 _ rfl), ?_, vL (vV (vV h4 n4) n5)⟩
 have hp := (Kd.jAz h3 (i : Int) s).1
 rw [Int.toNat_natCast] at hp
 exact Kd.zi (Kd.zl hp hok _)
/-- trim of a row of the caller's own: it stays one. -/
theorem jG.own (k : Nat) (base : Nat) (ok : Nat → Prop) (A0 : Option Addr) (c0 : Nat) (l0 : List Int) (r : List Int) (w : World) (ho : Kd.R (Kd.int .u64) 22 w base ok (.slice A0 l0.length c0) l0) (h : jG.f k l0 = some r) :
  Calls Try.prog 110 #[.slice A0 l0.length c0] w fun e w' => ∃ v0_ : Value, e = .returned (v0_) ∧ Kd.R (Kd.int .u64) 22 w' base ok v0_ r ∧ Below w.heap.size w w' := by
 have HO0 := jA.mk ho
 clear ho
 have HB := jA.mk (Below.refl w.heap.size w)
 have H' := jA.mk (show (jG.l0 k l0) = some r from h)
 clear h
 go_enter Try.func110, Try.ntmps110
 go_wp2
 go_loopg [0] k (fun kq v0 w' => ∃ (x0_1 : List Int), jA (jG.l0 kq x0_1 = some r) ∧ jA (Kd.R (Kd.int .u64) 22 w' base ok v0 x0_1) ∧ jA (Below w.heap.size w w'))
 case atStart => exact ⟨l0, H', HO0, HB⟩
 case round =>
  clear H'
  obtain ⟨x0_1, HA, HO_0, HB⟩ := hrel
  obtain ⟨Ao9, co9, eo9⟩ := Kd.jq HO_0.out
  subst eo9
  cases gk with
  | zero => exact absurd HA.out (by simp [jG.l0])
  | succ k1 =>
   have H := HA.out
   clear HA
   simp only [jG.l0] at H
   by_cases c2 : (x0_1.length : Int) > 0
   ·
    rw [if_pos c2] at H
    have c2b0 := decide_eq_true c2
    have c2b1 : decide (0 < x0_1.length) = true := decide_eq_true (by omega)
    clear c2
    obtain ⟨ji3, hji3⟩ : ∃ j_ : Int, (wrap64 ((x0_1.length : Int) - 1)) = j_ := ⟨_, rfl⟩
    rw [hji3] at H
    have hji3w : (IntKind.i64.wrap ((x0_1.length : Int) - 1)) = ji3 := (vU _).trans hji3
    by_cases c4 : 0 ≤ (ji3)
    ·
     rw [if_pos c4] at H
     have c4b0 := decide_eq_true c4
     clear c4
     by_cases c5 : (ji3) < (x0_1.length : Int)
     ·
      rw [if_pos c5] at H
      have c5b0 := decide_eq_true c5
      clear c5
      have p103 : 0 ≤ ((ji3) : Int) := of_decide_eq_true am_
      have q103 : (ji3) < (x0_1.length : Int) := of_decide_eq_true am_
      obtain ⟨ad103, e103, hx103_0⟩ := Kd.vX (Kd.jN HO_0.out).2.2 (ji3) p103 q103
      cases e103
      replace p103 := eq_true p103
      replace q103 := eq_true q103
      by_cases c6 : (rd x0_1 (ji3)) = 0
      ·
       rw [if_pos c6] at H
       have c6b0 := beq_iff_eq.mpr c6
       have c6b1 := bne_eq_false_iff_eq.mpr c6
       clear c6
       have c7b0 := eq_true (of_decide_eq_true am_ : 0 ≤ (ji3))
       by_cases c8 : (ji3) ≤ (x0_1.length : Int)
       ·
        rw [if_pos c8] at H
        have c8b0 := eq_true c8
        have c8b1 := decide_eq_true c8
        clear c8
        obtain ⟨y104, hy104⟩ : ∃ y_ : List Int, y_ = (x0_1.take ((ji3) : Int).toNat) := ⟨_, rfl⟩
        rw [← hy104] at H
        have H' := jA.mk H
        clear H
        have q10 : ((ji3) : Int) ≤ ((x0_1.length : Int) : Int) := of_decide_eq_true am_
        obtain ⟨i010, hi010, _, hsz10, _⟩ := info_parts qY
        have hroom10 : x0_1.length ≤ co9 := (Kd.jN HO_0.out).2.1
        have hcut10 := jFp (P := Try.prog) 35 22 .i64 Try.underlying35 hi010 (some ad103) x0_1.length co9 (ji3) (of_decide_eq_true am_) q10 hroom10
        have hr10 := Kd.jHe (m := ((ji3) : Int).toNat) HO_0.out (by omega)
        have hy10 : y104.length = ((ji3) : Int).toNat := (by rw [hy104, List.length_take]; omega)
        rw [← hy104, ← hy10] at hr10
        rw [← hy10] at hcut10
        have HO108 := jA.mk hr10
        clear hr10 hroom10 hi010 hsz10 hy104
        have KY10 := jA.mk hy10
        clear hy10
        replace q10 := eq_true q10
        go_wp2
        go_roundg k1
        case measure => omega
        case rel => exact ⟨(y104), H', HO108, HB⟩
       ·
        rw [if_neg c8] at H
        exact absurd H (by simp)
      ·
       rw [if_neg c6] at H
       have c6b0 := beq_eq_false_iff_ne.mpr c6
       have c6b1 := bne_iff_ne.mpr c6
       obtain rfl := Option.some.inj H
       go_wp2
       go_ret
       exact ⟨_, rfl, HO_0.out, HB.out⟩
     ·
      rw [if_neg c5] at H
      exact absurd H (by simp)
    ·
     rw [if_neg c4] at H
     exact absurd H (by simp)
   ·
    rw [if_neg c2] at H
    have c2b0 := decide_eq_false c2
    have c2b1 : decide (0 < x0_1.length) = false := decide_eq_false (by omega)
    clear c2
    obtain rfl := Option.some.inj H
    go_wp2
    go_ret
    exact ⟨_, rfl, HO_0.out, HB.out⟩

/-- trim of a row that is only read: its beginning. -/
theorem jG.read (k : Nat) (A0 : Option Addr) (c0 : Nat) (l0 : List Int) (r : List Int) (w : World) (hr : Kd.C (Kd.int .u64) w A0 l0.length l0) (hc : l0.length ≤ c0) (h : jG.f k l0 = some r) :
  Calls Try.prog 110 #[.slice A0 l0.length c0] w fun e w' => e = .returned (.slice A0 r.length c0) ∧ r = l0.take r.length ∧ w' = w := by
 have HR0 := jA.mk hr
 have HC0 := jA.mk hc
 clear hr hc
 have H' := jA.mk (show (jG.l0 k (l0.take l0.length)) = some r from by rw [List.take_length]; exact h)
 clear h
 go_enter Try.func110, Try.ntmps110
 go_wp2
 go_loopg [0] k (fun kq v0 w' => ∃ (m : Nat), v0 = .slice A0 m c0 ∧ m ≤ l0.length ∧ jA (jG.l0 kq (l0.take m) = some r) ∧ w = w')
 case atStart => exact ⟨_, rfl, Nat.le_refl _, H', rfl⟩
 case round =>
  clear H'
  obtain ⟨m, rfl, hm, HA, rfl⟩ := hrel
  have hlen : (l0.take m).length = m := by rw [List.length_take]; omega
  cases gk with
  | zero => exact absurd HA.out (by simp [jG.l0])
  | succ k1 =>
   have H := HA.out
   clear HA
   simp only [jG.l0, hlen] at H
   have HM := jA.mk hm
   have HL := jA.mk hlen
   clear hlen
   by_cases c2 : (m : Int) > 0
   ·
    rw [if_pos c2] at H
    have c2b0 := decide_eq_true c2
    have c2b1 : decide (0 < m) = true := decide_eq_true (by omega)
    have hmb : (m : Int) ≤ 9223372036854775807 := by have := HR0.out.2.1; omega
    obtain ⟨ji3, hji3⟩ : ∃ j_ : Int, (wrap64 ((m : Int) - 1)) = j_ := ⟨_, rfl⟩
    rw [hji3] at H
    have hjm : ji3 = (m : Int) - 1 := by rw [← hji3]; unfold wrap64; omega
    have hji3w : (IntKind.i64.wrap ((m : Int) - 1)) = ji3 := (vU _).trans hji3
    rw [if_pos (by omega), if_pos (by omega)] at H
    have hrd : rd (l0.take m) ji3 = rd l0 ji3 := by
     unfold rd
     rw [List.getD_eq_getElem?_getD, List.getD_eq_getElem?_getD, List.getElem?_take_of_lt (by omega)]
    rw [hrd] at H
    have p103 : 0 ≤ ji3 := by omega
    have q103 : ji3 < (m : Int) := by omega
    obtain ⟨ad103, e103, hx103_0⟩ := Kd.vX HR0.out ji3 p103 (by omega)
    cases e103
    have HJ := jA.mk hjm
    clear hjm hrd hm c2
    by_cases c6 : (rd l0 ji3) = 0
    ·
     rw [if_pos c6, if_pos (by omega)] at H
     have c6b0 := beq_iff_eq.mpr c6
     have c6b1 := bne_eq_false_iff_eq.mpr c6
     clear c6
     obtain ⟨i010, hi010, _, hsz10, _⟩ := info_parts qY
     have hcut10 := jFp (P := Try.prog) 35 22 .i64 Try.underlying35 hi010 (some ad103) m c0 ji3 p103 (by omega) (by have := HM.out; have := HC0.out; omega)
     have H' := jA.mk (show jG.l0 k1 (l0.take ji3.toNat) = some r from by rw [List.take_take, Nat.min_eq_left (by omega)] at H; exact H)
     clear H hi010 hsz10 hmb
     replace p103 := eq_true p103
     replace q103 := eq_true q103
     go_wp2
     go_roundg k1
     case measure => omega
     case rel => exact ⟨ji3.toNat, rfl, by have := HJ.out; have := HM.out; omega, H', rfl⟩
    ·
     rw [if_neg c6] at H
     have c6b0 := beq_eq_false_iff_ne.mpr c6
     have c6b1 := bne_iff_ne.mpr c6
     have HE := jA.mk (Option.some.inj H)
     clear H hmb
     replace p103 := eq_true p103
     replace q103 := eq_true q103
     go_wp2
     go_ret
     refine ⟨?_, ?_, rfl⟩
     ·
      rw [← HE.out, HL.out]; rfl
     ·
      rw [← HE.out, HL.out]
   ·
    rw [if_neg c2] at H
    have c2b0 := decide_eq_false c2
    have c2b1 : decide (0 < m) = false := decide_eq_false (by omega)
    have HE := jA.mk (Option.some.inj H)
    clear c2 H hm
    go_wp2
    go_ret
    refine ⟨?_, ?_, rfl⟩
    ·
     rw [← HE.out, HL.out]; rfl
    ·
     rw [← HE.out, HL.out]

/-! ### jJ: function 116 -/

def jJ.f (l0 : List Int) : Option (List Int) := if l0.length < 17592186044416 then some l0 else none
theorem jJ.calls (A0 : Option Addr) (c0 : Nat) (l0 : List Int) (r : List Int) (w : World) (hr0 : Kd.C (Kd.int .u64) w A0 l0.length l0) (hc0 : l0.length ≤ c0) (h : jJ.f l0 = some r) :
  Calls Try.prog 116 #[.slice A0 l0.length c0] w fun e w' => ∃ v0_ : Value, e = .returned (v0_) ∧ Kd.R (Kd.int .u64) 22 w' w.heap.size (fun _ => True) v0_ r ∧ Below w.heap.size w w' := by
 have HR0 := jA.mk hr0
 have HC0 := jA.mk hc0
 clear hr0 hc0
 unfold jJ.f at h
 by_cases hl : l0.length < 17592186044416
 ·
  rw [if_pos hl] at h
  obtain rfl := Option.some.inj h
  clear h
  have HL := jA.mk hl
  clear hl
  have qq : ∀ (w : World) (a : Option Addr) (n c n' c' : Nat), (binOp .eql 35 (.slice a n c) (.slice none n' c')).run Try.prog w = .ok (.bool a.isNone) w := fun w a n c n' c' => Lib.run_eql_slice_nil w _ _ a n c n' c' Try.underlying35
  cases A0 with
  | none =>
   have hlen : l0 = [] := by
    by_cases hp : 0 < l0.length
    ·
     obtain ⟨ad, e, _⟩ := HR0.out.2.2 hp
     cases e
    ·
     exact List.eq_nil_of_length_eq_zero (by omega)
   subst hlen
   go_enter Try.func116, Try.ntmps116
   go_wp2
   go_ret
   exact ⟨_, rfl, Kd.jBK _ _ _ _ _, Below.refl _ _⟩
  | some ad =>
   have HO : jA (∀ W : World, Kd.R (Kd.int .u64) 22 (W.alloc (.cells #[] 22)) W.heap.size (fun _ => True) (.slice (some ⟨W.heap.size, 0, none⟩) 0 0) []) := ⟨fun W => Kd.jBY (World.ownsRow_made W #[] 0 (Nat.le_refl _) (Nat.zero_le _) rfl) (fun _ _ => trivial)⟩
   go_enter Try.func116, Try.ntmps116
   go_wp2_with ((with_reducible refine zW (b := .append) (xs := #[.tmp 5, .tmp 6]) rfl ?_); at_builtin; refine Kd.jBA (Kd.int .u64) (w0 := w) w.heap.size rfl (.tmp 5) (.tmp 6) 35 22 (.int .u64 0) 8 rfl Try.underlying35 qY rfl (by decide) (by omega) _ [] l0 _ _ _ (fun _ => True) (fun _ => False) rfl rfl ?aO ?aR (fun _ _ h => h) (fun _ h => h.elim) ?aF ?aB ?aS ?aL ?_)
   case aO => exact HO.out w
   case aR => exact Kd.qg HR0.out _
   case aF => exact fun _ _ => trivial
   case aB => exact jP (Below.refl _ _) _
   case aS => simp
   case aL => have := HL.out; simp; omega
   intro v1 w1 ho hb hg hat
   clear hg hat
   have HO1 := jA.mk ho
   have HB := jA.mk hb
   clear ho hb
   go_wp2
   go_ret
   exact ⟨_, rfl, by simpa using HO1.out, HB.out⟩
 ·
  rw [if_neg hl] at h
  exact absurd h (by simp)

/-! ### jk: function 96 -/
def jk.f (k : Nat) (l0 : List Int) : Option (List Int) := (jG.f k l0).bind fun t131 => ((jJ.f t131).bind fun t134 => (some t134))
theorem jk.mono : ∀ a0 k, LeO (jk.f k a0) (jk.f (k + 1) a0) := by
 intro a0 k
 unfold jk.f
 repeat' first
   | (with_reducible exact jG.mono _ _)
   | (with_reducible exact LeO.refl _)
   | (with_reducible exact LeO.none _)
   | (with_reducible refine LeO.ite ?_ ?_)
   | (with_reducible refine LeO.bind ?_ (fun _ => ?_))
theorem jk.calls (k : Nat) (A0 : Option Addr) (c0 : Nat) (l0 : List Int) (r : List Int) (w : World) (hr0 : Kd.C (Kd.int .u64) w A0 l0.length l0) (hc0 : l0.length ≤ c0) (h : jk.f k l0 = some r) :
  Calls Try.prog 96 #[.slice A0 l0.length c0] w fun e w' => ∃ v0_ : Value, e = .returned (v0_) ∧ Kd.R (Kd.int .u64) 22 w' w.heap.size (fun _ => True) v0_ r ∧ Below w.heap.size w w' := by
 have HR0 := jA.mk hr0
 have HC0 := jA.mk hc0
 clear hr0 hc0
 have HB := jA.mk (Below.refl w.heap.size w)
 have H : ((jG.f k l0).bind fun t131 => ((jJ.f t131).bind fun t134 => (some t134))) = some r := h
 clear h
 replace H := ob_ H
 obtain ⟨t131, A20, H⟩ := H
 try dsimp only at H
 have A2 := jA.mk A20
 clear A20
 replace H := ob_ H
 obtain ⟨t134, A30, H⟩ := H
 replace H : (some t134) = some r := H
 have A3 := jA.mk A30
 clear A30
 obtain rfl := Option.some.inj H
 go_enter Try.func96, Try.ntmps96
 go_wp2_with (first | ((with_reducible refine jF (f := 110) rfl ?_); refine je (some 4) rfl rfl Try.func110 kr_ rfl #[.slice A0 l0.length c0] rfl mt_ ?_; (with_reducible refine (jG.calls k (fun k_ => k_ < w.heap.size) _ _ l0 t131 _ ?side1 A2.out).mono ?_); (case side1 => exact Kd.V_mk HC0.out (Kd.vZ (Kd.C_F (Kd.vS .u64) HR0.out) (bb_ HB))); rintro e w4 ⟨v132, rfl, ho0, hb⟩; refine ⟨_, rfl, ?_⟩; have HO133 := jA.mk (Kd.vw (Kd.vk (ok' := fun k_ => True) ho0 (fun k_ hk_ => trivial)) (jC (bb_ HB))); replace HB := bs_ HB hb; obtain ⟨Ao5, co5, eo5⟩ := Kd.vR HO133.out; subst eo5) | ((with_reducible refine jF (f := 116) rfl ?_); refine je (some 5) rfl rfl Try.func116 kr_ rfl #[.slice Ao5 t131.length co5] rfl mt_ ?_; (with_reducible refine (jJ.calls _ _ t131 t134 _ ?side1 ?side2 A3.out).mono ?_); (case side1 => repeat (first | exact (Kd.vN HO133.out).2.2 | (with_reducible refine Kd.qg ?_ _) | (with_reducible refine Kd.jAa ?_ _) | (with_reducible refine Kd.jBy ?_))); (case side2 => exact (Kd.vN HO133.out).2.1); rintro e w6 ⟨v135, rfl, ho0, hb⟩; refine ⟨_, rfl, ?_⟩; replace HO133 := jA.mk (Kd.qK (rV_ HO133) (Kd.zk ho0) hb); have HO136 := jA.mk (Kd.ji ho0 (jC (bb_ HB))); replace HB := bs_ HB hb))
 go_ret
 exact ⟨_, ew_, (rR_ HO136), (bb_ HB)⟩

/-! ### bits_LeadingZeros64: function 99 -/
def bits_LeadingZeros64.f (a0 : Int) : Option (Int) := (bits_Len64.f a0).bind fun t137 => (some (wrap64 (64 - t137)))
theorem bits_LeadingZeros64.calls (a0 : Int) (r : Int) (w : World) (h : bits_LeadingZeros64.f a0 = some r) :
  Calls Try.prog 99 #[.int .u64 a0] w fun e w' => e = .returned (.int .i64 r) ∧ Below w.heap.size w w' := by
 have HB := jA.mk (Below.refl w.heap.size w)
 have H : ((bits_Len64.f a0).bind fun t137 => (some (wrap64 (64 - t137)))) = some r := h
 clear h
 replace H := ob_ H
 obtain ⟨t137, A20, H⟩ := H
 try dsimp only at H
 have A2 := jA.mk A20
 clear A20
 obtain rfl := Option.some.inj H
 go_enter Try.func99, Try.ntmps99
 go_wp2_with (first | ((with_reducible refine jF (f := 57) rfl ?_); refine je (some 4) rfl rfl Try.func57 kr_ rfl #[.int .u64 a0] rfl mt_ ?_; (with_reducible refine (bits_Len64.calls a0 t137 _ A2.out).mono ?_); rintro e w3 ⟨rfl, hb⟩; refine ⟨_, rfl, ?_⟩; replace HB := bs_ HB hb))
 go_ret
 exact ⟨ew_, (bb_ HB)⟩

end Go.Proofs.Ytijgeonhbmgikaa.POOctetOne
