-- printed (pr.py)
import Derived.Test.YtoganbmeedimiaaGreatPOPressOnex13
import Derived.Test.YtoganbmeedimiaaGreatPOPressOnex15
namespace Go.Proofs.YtoganbmeedimiaaGreat.POPressOne
open Go.RowKit Go.Proofs.YtoganbmeedimiaaGreatN Go.Proofs.YtoganbmeedimiaaGreatW.PrintWords Go.Proofs.YtoganbmeedimiaaGreatW.PrintLast Go.Proofs.YtoganbmeedimiaaGreatW.PrintMore
attribute [local go_sem] zV zR qA zy vZ vY zU zQ
set_option maxHeartbeats 8000000
set_option maxRecDepth 100000
set_option linter.unusedVariables false
set_option linter.unusedSimpArgs false
namespace zn
open Oct
theorem jJt (p q : Addr) (x y : Value) (w : World) (hp : w.cell? p = some x) (hq : w.cell? q = some y) (fp : w.frozen? p = false) (fq : w.frozen? q = false) (hpq : p.block ≠ q.block) :
  Calls Tryz.prog 90 #[.pointer (some p), .pointer (some q)] w fun e w' => e = .returned (.tuple #[]) ∧ w' = (w.setCell p (.int .u64 0)).setCell q (.string { data := #[] }) := by
 have hq' : (w.setCell p (.int .u64 0)).cell? q = some y := by rw [World.cell?_setCell_other _ _ _ _ (fun e => hpq (by rw [e]))]; exact hq
 go_enter Tryz.func90, Tryz.ntmps90
 go_wp2
 go_end0
 exact ⟨rfl, rfl⟩
def jCI (s : ByteArray) (w : World) : World := (((w.alloc (.cells #[.int .u64 0] 56)).alloc (.cells #[.string { data := #[] }] 9)).alloc (.cells #[.int .i64 0] 27)).alloc (.cells #[.string s] 135)
theorem vV (w : World) (o : Obj) : (w.alloc o).heap.size = w.heap.size + 1 := Array.size_push _
theorem jJr (s : ByteArray) (w : World) : (jCI s w).heap[w.heap.size]? = some (.cells #[.int .u64 0] 56 (0, 0)) := jO (jO (jO (vD _ _) _) _) _
theorem jJq (s : ByteArray) (w : World) : (jCI s w).heap[w.heap.size + 1]? = some (.cells #[.string { data := #[] }] 9 (0, 0)) := by rw [← vV w (.cells #[.int .u64 0] 56)]; exact jO (jO (vD _ _) _) _
theorem jJp (s : ByteArray) (w : World) : (jCI s w).heap[w.heap.size + 1 + 1]? = some (.cells #[.int .i64 0] 27 (0, 0)) := by rw [← vV w (.cells #[.int .u64 0] 56), ← vV _ (.cells #[.string { data := #[] }] 9)]; exact jO (vD _ _) _
theorem jJo (s : ByteArray) (w : World) : (jCI s w).heap[w.heap.size + 1 + 1 + 1]? = some (.cells #[.string s] 135 (0, 0)) := by rw [← vV w (.cells #[.int .u64 0] 56), ← vV _ (.cells #[.string { data := #[] }] 9), ← vV _ (.cells #[.int .i64 0] 27)]; exact vD _ _
theorem jEZ (s : ByteArray) (w : World) : (jCI s w).heap.size = w.heap.size + 1 + 1 + 1 + 1 := by unfold jCI; rw [vV, vV, vV, vV]
theorem jDR (s : ByteArray) (w : World) : Below w.heap.size w (jCI s w) :=
 jQ (jQ (jQ (jQ (Below.refl _ w) _) _) _) _
set_option maxHeartbeats 4000000 in
theorem jKr (s : ByteArray) (w : World) (c : Int) (hn : num s = .inl c) (hz : s.size ≤ 140737488351232) :
  Calls Tryz.prog 54 #[.string s] w fun e w' => e = .returned (.tuple #[.int .u64 0, .string { data := #[] }, .int .i64 c]) ∧ Below w.heap.size w w' := by
 have hmf : ∀ (fn : Fn) (first cap : Array Value) (w : World), (Instr.makeFunc fn first cap).run Tryz.prog w = .ok (.func fn first cap) w := fun _ _ _ _ => rfl
 have H0 := jA.mk (jJr s w)
 have H1 := jA.mk (jJq s w)
 have H2 := jA.mk (jJp s w)
 have H3 := jA.mk (jJo s w)
 have HW := jA.mk (jDR s w)
 have HZ := jA.mk (jEZ s w)
 have HN := jA.mk (jAC (g := w.heap.size + 1 + 1 + 1) (w := jCI s w) hn)
 clear hn
 go_enter_defers Tryz.func54, Tryz.ntmps54
 go_wp2_with fail
 refine (show Calls Tryz.prog 91 _ (jCI s w) (jBK _ s (jCI s w)) from jBi _ s _ H3.out hz).mono ?_
 rw [HN.out]
 generalize jCI s w = W at H0 H1 H2 H3 HW HN HZ ⊢
 rintro e w1 ⟨rfl, ⟨hb, _⟩⟩
 have C0 := jA.mk ((hb.block _ (by omega)).trans H0.out)
 have C1 := jA.mk ((hb.block _ (by omega)).trans H1.out)
 have C2 := jA.mk ((hb.block _ (by omega)).trans H2.out)
 have CB := jA.mk (HW.out.trans (hb.mono (by omega)))
 clear hb
 show bodyPostD Tryz.prog Tryz.f54 _ (Exit.panic _) _ _
 unfold bodyPostD pan
 refine leaves_cons (f := 89) (args := #[.pointer (some ⟨w.heap.size + 1 + 1, 0, none⟩), .func (.func 90) #[] #[.pointer (some ⟨w.heap.size, 0, none⟩), .pointer (some ⟨w.heap.size + 1, 0, none⟩)]]) (by simp) kr_ ?_
 have D0 := jV (p := ⟨w.heap.size + 1 + 1, 0, none⟩) C0.out (by simp; omega) (.int .i64 c)
 have D1 := jV (p := ⟨w.heap.size + 1 + 1, 0, none⟩) C1.out (by simp) (.int .i64 c)
 have DB := (CB.out.setCell (p := ⟨w.heap.size + 1 + 1, 0, none⟩) (by simp; omega) (.int .i64 c))
 have HU := jJt ⟨w.heap.size, 0, none⟩ ⟨w.heap.size + 1, 0, none⟩ _ _ _ ((jB D0 0).trans rfl) ((jB D1 0).trans rfl) (jP D0 0) (jP D1 0) (by simp)
 have DU := (DB.setCell (p := ⟨w.heap.size, 0, none⟩) (by simp) (.int .u64 0)).setCell (p := ⟨w.heap.size + 1, 0, none⟩) (by simp) (.string { data := #[] })
 have E2 := jV (p := ⟨w.heap.size + 1, 0, none⟩) (jV (p := ⟨w.heap.size, 0, none⟩) (jM (cs' := #[.int .i64 c]) C2.out 0 (.int .i64 c) rfl) (by simp; omega) (.int .u64 0)) (by simp) (.string { data := #[] })
 have E0 := jV (p := ⟨w.heap.size + 1, 0, none⟩) (jM (cs' := #[.int .u64 0]) D0 0 (.int .u64 0) rfl) (by simp) (.string { data := #[] })
 have E1 := jM (cs' := #[.string { data := #[] }]) (jV (p := ⟨w.heap.size, 0, none⟩) D1 (by simp) (.int .u64 0)) 0 (.string { data := #[] }) rfl
 refine (jDC ⟨w.heap.size + 1 + 1, 0, none⟩ 0 c 90 Tryz.f90 _ [] w1 _ ((jB C2.out 0).trans rfl) (jP C2.out 0) (fun _ _ => kr_) HU).mono ?_
 rintro e u' w'' ⟨rfl, rfl, rfl⟩
 have F2 := (jB E2 0).trans (show _ = some (.int .i64 c) from rfl)
 have F0 := (jB E0 0).trans (show _ = some (.int .u64 0) from rfl)
 have F1 := (jB E1 0).trans (show _ = some (.string { data := #[] }) from rfl)
 clear E0 E1 E2 HU D0 D1 DB
 generalize ((w1.setCell ⟨w.heap.size + 1 + 1, 0, none⟩ (.int .i64 c)).setCell ⟨w.heap.size, 0, none⟩ (.int .u64 0)).setCell ⟨w.heap.size + 1, 0, none⟩ (.string { data := #[] }) = w3 at DU F0 F1 F2 ⊢
 simp [Leaves, settle, results, Tryz.results54, go_sem, F0, F1, F2]
 exact DU
set_option maxHeartbeats 4000000 in
theorem jJK (s : ByteArray) (w : World) (n : Int) (t : ByteArray) (hn : num s = .inr (n, t)) (hz : s.size ≤ 140737488351232) :
  Calls Tryz.prog 54 #[.string s] w fun e w' => e = .returned (.tuple #[.int .u64 n, .string t, .int .i64 0]) ∧ Below w.heap.size w w' := by
 have hmf : ∀ (fn : Fn) (first cap : Array Value) (w : World), (Instr.makeFunc fn first cap).run Tryz.prog w = .ok (.func fn first cap) w := fun _ _ _ _ => rfl
 have H0 := jA.mk (jJr s w)
 have H1 := jA.mk (jJq s w)
 have H2 := jA.mk (jJp s w)
 have H3 := jA.mk (jJo s w)
 have HW := jA.mk (jDR s w)
 have HZ := jA.mk (jEZ s w)
 have HN := jA.mk (jAj (g := w.heap.size + 1 + 1 + 1) (w := jCI s w) hn)
 clear hn
 go_enter_defers Tryz.func54, Tryz.ntmps54
 go_wp2_with fail
 refine (show Calls Tryz.prog 91 _ (jCI s w) (jBK _ s (jCI s w)) from jBi _ s _ H3.out hz).mono ?_
 rw [HN.out]
 generalize jCI s w = W at H0 H1 H2 H3 HW HN HZ ⊢
 rintro e w1 ⟨rfl, ⟨hb, _⟩, h3⟩
 clear HN
 have C0 := (hb.block _ (by omega)).trans H0.out
 have C1 := (hb.block _ (by omega)).trans H1.out
 have C2 := (hb.block _ (by omega)).trans H2.out
 have CB := HW.out.trans (hb.mono (by omega))
 have X3 := (jB h3 0).trans (show _ = some (.string t) from rfl)
 have X0 := (jB C0 0).trans (show _ = some (.int .u64 0) from rfl)
 have Z0 := jP C0 0
 have HZ0 := HZ
 clear hb HW H0 H1 H2 H3 HZ
 have CBB := jA.mk CB
 have D0 := jA.mk (jM (cs' := #[.int .u64 n]) C0 0 (.int .u64 n) rfl)
 have D1 := jA.mk (jV (p := ⟨w.heap.size, 0, none⟩) C1 (by simp) (.int .u64 n))
 have D2 := jA.mk (jV (p := ⟨w.heap.size, 0, none⟩) C2 (by simp; omega) (.int .u64 n))
 have D3 := jA.mk (jV (p := ⟨w.heap.size, 0, none⟩) h3 (by simp; omega) (.int .u64 n))
 have DB := jA.mk (CB.setCell (p := ⟨w.heap.size, 0, none⟩) (by simp) (.int .u64 n))
 clear C0 C1 C2 CB h3
 go_wp2
 generalize w1.setCell ⟨w.heap.size, 0, none⟩ (.int .u64 n) = v0 at D0 D1 D2 D3 DB ⊢
 refine jJl ?_
 refine zw (n := 8) (S := fun w' => w'.heap[w.heap.size]? = some (.cells #[.int .u64 n] 56 (0, 0)) ∧ w'.heap[w.heap.size + 1]? = some (.cells #[.string { data := #[] }] 9 (0, 0)) ∧ w'.heap[w.heap.size + 1 + 1]? = some (.cells #[.int .i64 0] 27 (0, 0)) ∧ w'.heap[w.heap.size + 1 + 1 + 1]? = some (.cells #[.string t] 135 (0, 0)) ∧ Below w.heap.size w w') (ds := [6, 7]) #[false, false, false, false, false, false, false, false] kr_ rfl rfl ⟨jI D0.out, jI D1.out, jI D2.out, jI D3.out, jv DB.out⟩ (fun hHeld => ?_)
 generalize v0.drew = u0 at hHeld ⊢
 clear D0 D1 D2 D3 DB
 refine jBx (i := 0) (N := some 12) (v := ?_) (a' := ?_) (ba_ 8 1) rfl rfl kr_ (fun _ _ _ h => h) (Or.inl ⟨by rfl, ?_⟩) hHeld ?_ ?_
 rotate_left
 ·
  rintro w' ⟨s0_, s1_, s2_, s3_, s4_⟩
  have hc := (jB s0_ 0).trans (show _ = some (.int .u64 n) from rfl)
  go_simp
  with_reducible rfl
 rotate_left
 ·
  simp only [Act.put, ss_, vF, vN]
  rfl
 refine pu_ 1 (some 13) (ba_ 8 3) kr_ ?_
 refine pu_ 2 (some 14) (ba_ 8 7) kr_ ?_
 refine pu_ 3 (some 15) (ba_ 8 15) kr_ ?_
 refine jBx (i := 4) (N := some 16) (v := ?_) (a' := ?_) (ba_ 8 31) rfl rfl kr_ (fun _ _ _ h => h) (Or.inl ⟨by rfl, ?_⟩) hHeld ?_ ?_
 rotate_left
 ·
  rintro w' ⟨s0_, s1_, s2_, s3_, s4_⟩
  have hc := (jB s3_ 0).trans (show _ = some (.string t) from rfl)
  go_simp
  with_reducible rfl
 rotate_left
 ·
  simp only [Act.put, ss_, vF, vN]
  rfl
 obtain ⟨s0_, s1_, s2_, s3_, s4_⟩ := hHeld
 refine one_ (i := 5) (N := none) (ba_ 8 63) rfl rfl kr_ (by decide) (fun K hK => ?_)
 have hc := (jB s0_ 0).trans (show _ = some (.int .u64 n) from rfl)
 have hf := jP s0_ 0
 refine jAq (w1 := ?_) (by rfl) rfl ?_ ?_
 rotate_left
 ·
  go_simp
  rfl
 refine hK.out _ _ ⟨jM s0_ 0 (.int .u64 n) rfl, jV (p := ⟨w.heap.size, 0, none⟩) s1_ (by simp) (.int .u64 n), jV (p := ⟨w.heap.size, 0, none⟩) s2_ (by simp; omega) (.int .u64 n), jV (p := ⟨w.heap.size, 0, none⟩) s3_ (by simp; omega) (.int .u64 n), s4_.setCell (p := ⟨w.heap.size, 0, none⟩) (by simp) (.int .u64 n)⟩ (fun hHeld => ?_)
 clear hK K
 obtain ⟨s0_, s1_, s2_, s3_, s4_⟩ := hHeld
 refine jAh (i := 6) (N := none) (ba_ 8 127) rfl rfl kr_ (by decide) (fun K hK => ?_)
 have hc := (jB s1_ 0).trans (show _ = some (.string { data := #[] }) from rfl)
 have hf := jP s1_ 0
 refine jAq (w1 := ?_) (by rfl) rfl ?_ ?_
 rotate_left
 ·
  go_simp
  rfl
 refine hK.out _ _ ?_
 clear hK K
 have e0 := jV (p := ⟨w.heap.size + 1, 0, none⟩) s0_ (by simp) (.string t)
 have e1 := jM (cs' := #[.string t]) s1_ 0 (.string t) rfl
 have e2 := jV (p := ⟨w.heap.size + 1, 0, none⟩) s2_ (by simp) (.string t)
 have e4 := s4_.setCell (p := ⟨w.heap.size + 1, 0, none⟩) (by simp) (.string t)
 have c2 := (jB s2_ 0).trans (show _ = some (.int .i64 0) from rfl)
 have z2 := jP s2_ 0
 clear s0_ s1_ s2_ s3_ s4_
 refine jAh (i := 7) (N := none) (ba_ 8 255) rfl rfl kr_ (by decide) (fun K hK => ?_)
 have hc := (jB e2 0).trans (show _ = some (.int .i64 0) from rfl)
 have hf := jP e2 0
 refine jAq (w1 := ?_) (by rfl) rfl ?_ ?_
 rotate_left
 ·
  go_simp
  rfl
 refine hK.out _ _ ?_
 clear hK K
 have f0 := (jB (jV (p := ⟨w.heap.size + 1 + 1, 0, none⟩) e0 (by simp; omega) (.int .i64 0)) 0).trans (show _ = some (.int .u64 n) from rfl)
 have f1 := (jB (jV (p := ⟨w.heap.size + 1 + 1, 0, none⟩) e1 (by simp) (.int .i64 0)) 0).trans (show _ = some (.string t) from rfl)
 have f2 := (jB (jM (cs' := #[.int .i64 0]) e2 0 (.int .i64 0) rfl) 0).trans (show _ = some (.int .i64 0) from rfl)
 have f4 := e4.setCell (p := ⟨w.heap.size + 1 + 1, 0, none⟩) (by simp; omega) (.int .i64 0)
 clear e0 e1 e2 e4
 refine jAR kr_ ?_
 refine jBs ?_
 refine (‹∀ (a : Act) (w : World), Code.wp Tryz.prog Code.ret _ a w → _›) _ _ ?_
 clear hc hf c2 z2 X3 X0 Z0 CBB
 go_wp2
 generalize ((u0.setCell ⟨w.heap.size, 0, none⟩ (.int .u64 n)).setCell ⟨w.heap.size + 1, 0, none⟩ (.string t)).setCell ⟨w.heap.size + 1 + 1, 0, none⟩ (.int .i64 0) = w3 at f0 f1 f2 f4 ⊢
 unfold bodyPostD
 refine leaves_cons (f := 89) (args := #[.pointer (some ⟨w.heap.size + 1 + 1, 0, none⟩), .func (.func 90) #[] #[.pointer (some ⟨w.heap.size, 0, none⟩), .pointer (some ⟨w.heap.size + 1, 0, none⟩)]]) (by simp) kr_ ?_
 refine (jED _ _ _).mono ?_
 rintro e u' w'' ⟨rfl, rfl, rfl⟩
 simp [Leaves, settle, results, Tryz.results54, go_sem, f0, f1, f2]
 exact f4
end zn
def zn.f (a0 : ByteArray) : Option (Int × ByteArray × Int) := if a0.size ≤ 140737488351232 then some (match Oct.num a0 with | .inl c => (0, { data := #[] }, c) | .inr (n, t) => (n, t, 0)) else none
theorem zn.calls (a0 : ByteArray) (r1 : Int) (r2 : ByteArray) (r3 : Int) (w : World) (h : zn.f a0 = some (r1, r2, r3)) :
  Calls Tryz.prog 54 #[.string a0] w fun e w' => e = .returned (.tuple #[.int .u64 r1, .string r2, .int .i64 r3]) ∧ Below w.heap.size w w' := by
 unfold zn.f at h
 by_cases hz : a0.size ≤ 140737488351232
 rotate_left
 ·
  rw [if_neg hz] at h; cases h
 rw [if_pos hz] at h
 cases hn : Oct.num a0 with
 | inl c =>
  rw [hn] at h
  cases h
  exact zn.jKr a0 w _ hn hz
 | inr p =>
  obtain ⟨n, t⟩ := p
  rw [hn] at h
  cases h
  exact zn.jJK a0 w _ _ hn hz
namespace EachT
def jDA (k : Nat) : Nat → List S37 → ByteArray → Option (List S37 × ByteArray × Int)
 | 0, l, s => some (l, s, 0)
 | n + 1, l, s => (GetT.getT k s).bind fun r => if r.2.2 ≠ 0 then some ([], { data := #[] }, r.2.2) else jDA k n (l ++ [r.1]) r.2.1
def jKy (k : Nat) (s : ByteArray) (most : Int) : Option (List S37 × ByteArray × Int) := (zn.f s).bind fun r => if r.2.2 ≠ 0 then some ([], { data := #[] }, r.2.2) else if most < r.1 then some ([], { data := #[] }, 62) else if 0 ≤ r.1 ∧ most ≤ 1000 then jDA k r.1.toNat [] r.2.1 else none
theorem jQK : (Tryz.prog.info? 37).map (fun i => (i.zero, i.size, i.bytes)) = some (some (.agg #[.bool false, .slice none 0 0, .slice none 0 0, .int .i64 0, .int .i64 0, .int .i64 0, .int .i64 0]), k37.sz, 88) := by kernel_rfl
theorem z37E : (Value.agg #[.bool false, .slice none 0 0, .slice none 0 0, .int .i64 0, .int .i64 0, .int .i64 0, .int .i64 0]).cells.size = k37.sz := by kernel_rfl
theorem p37E : 0 < k37.sz := by decide
theorem jPM {i : Int} (h : 0 ≤ i ∧ i ≤ 1000) : IntKind.u64.wrap (i + 1) = i + 1 := by rw [IntKind.wrap_u64]; omega
theorem sizT (w : World) (p : Addr) (u : Value) : (w.setCell p u).heap.size = w.heap.size := by simp [World.setCell]
theorem farL {w : World} {base N g : Nat} {v : Value} {l : List S37} (h : Kd.R k37 37 w base (fun k => k < N) v l) (hg : g = N) (j : Nat) (u : Value) : Kd.R k37 37 (w.setCell ⟨g, j, none⟩ u) base (fun k => k < N) v l := Kd.qU h (fun k hk e => by have : k = g := e; omega) u
set_option maxHeartbeats 4000000 in
theorem jOe (k : Nat) (s : ByteArray) (most : Int) (l : List S37) (t : ByteArray) (ec : Int) (w : World) (h : jKy k s most = some (l, t, ec)) :
  Calls Tryz.prog 29 #[.string s, .int .u64 most, .func (.func 30) #[] #[]] w fun e w' => ∃ v1_ : Value, e = .returned (.tuple #[v1_, .string t, .int .i64 ec]) ∧ Kd.R k37 37 w' w.heap.size (fun _ => True) v1_ l ∧ Below w.heap.size w w' := by
 unfold jKy at h
 obtain ⟨r, hp, h2⟩ := Option.bind_eq_some_iff.1 h
 clear h
 obtain ⟨n, u, c⟩ := r
 dsimp only at h2
 have hH := jA.mk (fun W => zn.calls s n u c W hp)
 have HH := jA.mk h2
 clear hp h2
 go_enter Tryz.func29, Tryz.ntmps29
 go_wp2_with fail
 refine (hH.out _).mono ?_
 rintro e w1 ⟨rfl, hb⟩
 have HB := jA.mk hb
 clear hb hH
 have hh := HH.out
 clear HH
 by_cases h0 : c ≠ 0
 ·
  have t3 : (c != 0) = true := bne_iff_ne.mpr h0
  rw [if_pos h0] at hh
  cases hh
  clear h0
  go_wp2
  go_ret3
  exact ⟨_, rfl, Kd.jAS _ _ _ _ _, HB.out⟩
 have hc : c = 0 := Decidable.of_not_not h0
 subst hc
 clear h0
 rw [if_neg (fun q => q rfl)] at hh
 by_cases h1 : most < n
 ·
  rw [if_pos h1] at hh
  cases hh
  have t1 : decide (most < n) = true := decide_eq_true h1
  clear h1
  go_wp2
  go_ret3
  exact ⟨_, rfl, Kd.jAS _ _ _ _ _, HB.out⟩
 rw [if_neg h1] at hh
 split at hh
 rotate_left
 ·
  cases hh
 rename_i h2
 have HN := jA.mk (show 0 ≤ n ∧ n ≤ 1000 by omega)
 have HA := jA.mk hh
 have t1 : decide (most < n) = false := decide_eq_false h1
 clear h1 h2 hh
 go_wp2
 clear t1
 go_loopg [6, 7, 26] n.toNat (fun q v6 v7 v26 w' => ∃ (i : Int) (l' : List S37) (t' : ByteArray), v26 = .int .u64 i ∧ v7 = .string t' ∧ jA (0 ≤ i ∧ i + q = n ∧ (l'.length : Int) = i) ∧ jA (jDA k q l' t' = some (l, t, ec)) ∧ jA (Below w.heap.size w w') ∧ jA (Kd.R k37 37 w' w.heap.size (fun _ => True) v6 l'))
 case atStart => exact ⟨0, [], u, rfl, rfl, ⟨by omega, by have := HN.out; omega, rfl⟩, HA, HB, ⟨Kd.jAS _ _ _ _ _⟩⟩
 case round =>
  clear HA HB
  obtain ⟨i, l', t', rfl, rfl, HQ, HA, HB, HR⟩ := hrel
  cases gk with
  | zero =>
   have hd : decide (i < n) = false := decide_eq_false (by have := HQ.out; omega)
   have hA := HA.out
   rw [jDA] at hA
   cases hA
   go_wp2
   go_ret3
   exact ⟨_, rfl, HR.out, HB.out⟩
  | succ q =>
   have hd : decide (i < n) = true := decide_eq_true (by have := HQ.out; omega)
   have h1 := HA.out
   rw [jDA] at h1
   obtain ⟨r, hp, h2⟩ := Option.bind_eq_some_iff.1 h1
   obtain ⟨x, s1, e1⟩ := r
   dsimp only at h2
   have HP := jA.mk (fun W => GetT.jQP k t' x s1 e1 W hp)
   have HA1 := jA.mk h2
   have HV := jA.mk (fun k (hk : u6.ownBlock = some k) => (Kd.zC HR.out).1 k hk)
   clear h1 h2 hp HA
   go_wp2_with ((with_reducible refine jl (N := 10) rfl ?_); (try (refine jg (by rfl) ?_; dsimp only)); refine bx_ 10 #[.bool false, .slice none 0 0, .slice none 0 0, .int .i64 0, .int .i64 0, .int .i64 0, .int .i64 0] 37 ?_; intro g hg w5 hbox hb; have HBK := jA.mk hbox; have HGE := jA.mk hg; have HB5 := jA.mk (jG HB.out hb); have HL5 := jA.mk (Kd.jAT (Kd.vB (Kd.zC HR.out) (fun k hk => (show k < wr.heap.size from hk.2.2.1))) hb); have HG := jA.mk (show w.heap.size ≤ g by rw [hg]; exact HB.out.size); have HG5 := jA.mk (show g < w5.heap.size from qG hbox); have HW5 := jA.mk hb.size; clear hbox hb hg HB HR)
   refine (HP.out _).mono ?_
   rintro e w6 ⟨v1, v2, rfl, hr1, hr2, hb⟩
   have HBK6 := jA.mk (jN HBK.out hb)
   have HB6 := jA.mk (jG HB5.out hb)
   have HL6 := jA.mk (Kd.jAT HL5.out hb)
   have hle : w.heap.size ≤ w5.heap.size := HB5.out.size
   have HR1 := jA.mk (Kd.vB (Kd.jk (Kd.zC hr1) hle) (fun k hk => (show w5.heap.size ≤ k from hk.2.1)))
   have HR2 := jA.mk (Kd.vB (Kd.jk (Kd.zC hr2) hle) (fun k hk => (show w5.heap.size ≤ k from hk.2.1)))
   obtain ⟨A1, c1, rfl⟩ := Kd.vE hr1
   obtain ⟨A2, c2, rfl⟩ := Kd.vE hr2
   clear hr1 hr2 hb hle HL5 HBK HB5 HP
   have HX := jA.mk (jM (cs' := #[.bool x.f0.f0, .slice A1 x.f0.f1.length c1, .slice A2 x.f0.f2.length c2, .int .i64 x.f1.f0, .int .i64 x.f1.f1, .int .i64 x.f1.f2, .int .i64 x.f1.f3]) (jM (jM (jM (jM (jM (jM HBK6.out 0 (.bool x.f0.f0) rfl) 1 (.slice A1 x.f0.f1.length c1) rfl) 2 (.slice A2 x.f0.f2.length c2) rfl) 3 (.int .i64 x.f1.f0) rfl) 4 (.int .i64 x.f1.f1) rfl) 5 (.int .i64 x.f1.f2) rfl) 6 (.int .i64 x.f1.f3) (by simp only [ss_]))
   have HY := jA.mk (GetT.belT (GetT.belT (GetT.belT (GetT.belT (GetT.belT (GetT.belT (GetT.belT HB6.out HG.out 0 (.bool x.f0.f0)) HG.out 1 (.slice A1 x.f0.f1.length c1)) HG.out 2 (.slice A2 x.f0.f2.length c2)) HG.out 3 (.int .i64 x.f1.f0)) HG.out 4 (.int .i64 x.f1.f1)) HG.out 5 (.int .i64 x.f1.f2)) HG.out 6 (.int .i64 x.f1.f3))
   have HS1 := jA.mk (GetT.farT (GetT.farT (GetT.farT (GetT.farT (GetT.farT (GetT.farT (GetT.farT HR1.out HG5.out 0 (.bool x.f0.f0)) HG5.out 1 (.slice A1 x.f0.f1.length c1)) HG5.out 2 (.slice A2 x.f0.f2.length c2)) HG5.out 3 (.int .i64 x.f1.f0)) HG5.out 4 (.int .i64 x.f1.f1)) HG5.out 5 (.int .i64 x.f1.f2)) HG5.out 6 (.int .i64 x.f1.f3))
   have HS2 := jA.mk (GetT.farT (GetT.farT (GetT.farT (GetT.farT (GetT.farT (GetT.farT (GetT.farT HR2.out HG5.out 0 (.bool x.f0.f0)) HG5.out 1 (.slice A1 x.f0.f1.length c1)) HG5.out 2 (.slice A2 x.f0.f2.length c2)) HG5.out 3 (.int .i64 x.f1.f0)) HG5.out 4 (.int .i64 x.f1.f1)) HG5.out 5 (.int .i64 x.f1.f2)) HG5.out 6 (.int .i64 x.f1.f3))
   have HL := jA.mk (farL (farL (farL (farL (farL (farL (farL HL6.out HGE.out 0 (.bool x.f0.f0)) HGE.out 1 (.slice A1 x.f0.f1.length c1)) HGE.out 2 (.slice A2 x.f0.f2.length c2)) HGE.out 3 (.int .i64 x.f1.f0)) HGE.out 4 (.int .i64 x.f1.f1)) HGE.out 5 (.int .i64 x.f1.f2)) HGE.out 6 (.int .i64 x.f1.f3))
   have y0 := (jB HBK6.out 0).trans (show _ = some (.bool false) from rfl)
   have y1 := (jB HBK6.out 1).trans (show _ = some (.slice none 0 0) from rfl)
   have y2 := (jB HBK6.out 2).trans (show _ = some (.slice none 0 0) from rfl)
   have y3 := (jB HBK6.out 3).trans (show _ = some (.int .i64 0) from rfl)
   have y4 := (jB HBK6.out 4).trans (show _ = some (.int .i64 0) from rfl)
   have y5 := (jB HBK6.out 5).trans (show _ = some (.int .i64 0) from rfl)
   have y6 := (jB HBK6.out 6).trans (show _ = some (.int .i64 0) from rfl)
   have z : ∀ i, w6.frozen? ⟨g, i, none⟩ = false := fun i => jP HBK6.out i
   clear HBK6 HB6 HL6 HR1 HR2
   by_cases c3 : e1 ≠ 0
   ·
    have t3 : (e1 != 0) = true := bne_iff_ne.mpr c3
    have hA := HA1.out
    rw [if_pos c3] at hA
    cases hA
    clear c3 HA1
    go_wp2
    go_ret3
    exact ⟨_, rfl, Kd.jAS _ _ _ _ _, HY.out⟩
   have hc : e1 = 0 := Decidable.of_not_not c3
   subst hc
   clear c3
   have hA := HA1.out
   rw [if_neg (fun q => q rfl)] at hA
   have HA := jA.mk hA
   clear hA HA1
   go_wp2_with ((with_reducible refine zi (b := .append) (xs := #[.tmp 38, .tmp 40]) rfl ?_); (try (refine jg (by rfl) ?_; dsimp only)); at_builtin; rw [show w6.heap.size = (((((((w6.setCell ⟨g, 0, none⟩ (.bool x.f0.f0)).setCell ⟨g, 1, none⟩ (.slice A1 x.f0.f1.length c1)).setCell ⟨g, 2, none⟩ (.slice A2 x.f0.f2.length c2)).setCell ⟨g, 3, none⟩ (.int .i64 x.f1.f0)).setCell ⟨g, 4, none⟩ (.int .i64 x.f1.f1)).setCell ⟨g, 5, none⟩ (.int .i64 x.f1.f2)).setCell ⟨g, 6, none⟩ (.int .i64 x.f1.f3)).heap.size from (by simp only [sizT])]; generalize hW : (((((((w6.setCell ⟨g, 0, none⟩ (.bool x.f0.f0)).setCell ⟨g, 1, none⟩ (.slice A1 x.f0.f1.length c1)).setCell ⟨g, 2, none⟩ (.slice A2 x.f0.f2.length c2)).setCell ⟨g, 3, none⟩ (.int .i64 x.f1.f0)).setCell ⟨g, 4, none⟩ (.int .i64 x.f1.f1)).setCell ⟨g, 5, none⟩ (.int .i64 x.f1.f2)).setCell ⟨g, 6, none⟩ (.int .i64 x.f1.f3)) = w7 at HX HY HS1 HS2 HL ⊢; clear hW y0 y1 y2 y3 y4 y5 y6 z; refine Kd.jBJ k37 (w0 := w) (W := w7) w.heap.size rfl (.tmp 38) (.tmp 40) 22 37 (.agg #[.bool false, .slice none 0 0, .slice none 0 0, .int .i64 0, .int .i64 0, .int .i64 0, .int .i64 0]) 88 rfl Tryz.underlying22 jQK z37E p37E (by decide) u6 l' x [.bool x.f0.f0, .slice A1 x.f0.f1.length c1, .slice A2 x.f0.f2.length c2, .int .i64 x.f1.f0, .int .i64 x.f1.f1, .int .i64 x.f1.f2, .int .i64 x.f1.f3] (fun _ => True) (fun k_ => w5.heap.size ≤ k_) rfl rfl ?aP ?aK (fun _ _ => trivial) ?aO ?aB ?aS ?aL ?_; (case aP => exact jOR _ _ _ x HS1.out HS2.out); (case aK => exact fun k_ hk => ⟨trivial, fun e => by have h1 := (HV.out k_ e.symm).2.2.1; have h2 := HW5.out; omega⟩); (case aO => exact Kd.vB HL.out (fun _ _ => trivial)); (case aB => exact HY.out); (case aS => exact HY.out.size); (case aL => have h1 := HQ.out; have h2 := HN.out; omega); intro v8 w8 ho hb hg hat; have HO8 := jA.mk ho; have HB8 := jA.mk hb; clear ho hb hg hat HX HY HS1 HS2 HL)
   go_roundg q
   case measure => omega
   case rel => exact ⟨_, l' ++ [x], s1, rfl, rfl, ⟨by have h1 := HQ.out; have h2 := HN.out; rw [EachT.jPM (by omega)]; refine ⟨?_, ?_, ?_⟩ <;> (try rw [List.length_append, List.length_singleton]) <;> omega⟩, HA, HB8, HO8⟩
end EachT
namespace GetP
def getP (k : Nat) (o : Int) (s : ByteArray) : Option (List S37 × ByteArray × Int) := (EachT.jKy k s 60).bind fun r => if r.2.2 = 0 then (jh.f k o r.1).bind fun b => if b = true then some r else some ([], { data := #[] }, 62) else some r
set_option maxHeartbeats 4000000 in
theorem jQQ (k : Nat) (o : Int) (s : ByteArray) (l : List S37) (t : ByteArray) (ec : Int) (w : World) (h : getP k o s = some (l, t, ec)) :
  Calls Tryz.prog 14 #[.int .i64 o, .string s] w fun e w' => ∃ v1_ : Value, e = .returned (.tuple #[v1_, .string t, .int .i64 ec]) ∧ Kd.R k37 37 w' w.heap.size (fun _ => True) v1_ l ∧ Below w.heap.size w w' := by
 unfold getP at h
 obtain ⟨r, hp, h2⟩ := Option.bind_eq_some_iff.1 h
 clear h
 obtain ⟨l1, t1, e1⟩ := r
 dsimp only at h2
 have HP := jA.mk (fun W => EachT.jOe k s 60 l1 t1 e1 W hp)
 have HH := jA.mk h2
 clear hp h2
 go_enter Tryz.func14, Tryz.ntmps14
 go_wp2_with fail
 refine (HP.out _).mono ?_
 rintro e w1 ⟨v, rfl, hr, hb⟩
 have HR := jA.mk hr
 have HB := jA.mk hb
 obtain ⟨A, c, rfl, hlc, hC⟩ := Kd.jEJ hr
 have HL := jA.mk hlc
 have HC := jA.mk hC
 clear hr hb hlc hC HP
 have hh := HH.out
 clear HH
 by_cases h0 : e1 = 0
 rotate_left
 ·
  have t3 : (e1 == 0) = false := beq_eq_false_iff_ne.mpr h0
  rw [if_neg h0] at hh
  cases hh
  clear h0
  go_wp2
  go_ret3
  exact ⟨_, rfl, HR.out, HB.out⟩
 subst h0
 rw [if_pos rfl] at hh
 obtain ⟨b, hm, hh⟩ := Option.bind_eq_some_iff.1 hh
 have HM := jA.mk (fun W hW => jh.calls k o A c l1 b W hW HL.out hm)
 have HE := jA.mk hh
 clear hm hh
 go_wp2_with fail
 refine (HM.out _ HC.out).mono ?_
 rintro e w2 ⟨rfl, hb⟩
 have HB2 := jA.mk (jG HB.out hb)
 have HR2 := jA.mk (Kd.jAT HR.out hb)
 clear hb HC HR HM
 have hnot : ∀ (x : Bool) (w : World), (Op.unary .not (.bool x)).run Tryz.prog w = .ok (.bool (!x)) w := fun _ _ => rfl
 have hE := HE.out
 clear HE
 cases b with
 | true =>
  rw [if_pos rfl] at hE
  cases hE
  go_wp2
  go_ret3
  exact ⟨_, rfl, HR2.out, HB2.out⟩
 | false =>
  rw [if_neg (by decide)] at hE
  cases hE
  go_wp2
  go_ret3
  exact ⟨_, rfl, Kd.jAS _ _ _ _ _, HB2.out⟩
end GetP
-- NOT PRINTED: function 34 (press_GetList_1)
namespace EachP
def jDB (k : Nat) (o : Int) : Nat → List (List S37) → ByteArray → Option (List (List S37) × ByteArray × Int)
 | 0, l, s => some (l, s, 0)
 | n + 1, l, s => (GetP.getP k o s).bind fun r => if r.2.2 ≠ 0 then some ([], { data := #[] }, r.2.2) else jDB k o n (l ++ [r.1]) r.2.1
def jJQ (k : Nat) (o : Int) (s : ByteArray) (most : Int) : Option (List (List S37) × ByteArray × Int) := (zn.f s).bind fun r => if r.2.2 ≠ 0 then some ([], { data := #[] }, r.2.2) else if most < r.1 then some ([], { data := #[] }, 62) else if 0 ≤ r.1 ∧ most ≤ 1000 then jDB k o r.1.toNat [] r.2.1 else none
theorem jQL : (Tryz.prog.info? 23).map (fun i => (i.zero, i.size, i.bytes)) = some (some (.slice none 0 0), (Kd.slice 37 k37).sz, 24) := by kernel_rfl
set_option maxHeartbeats 1000000 in
theorem jRU (k b : Nat) (o : Int) (s : ByteArray) (l : List S37) (t : ByteArray) (ec : Int) (w : World) (hx : w.cell? ⟨b, 0, none⟩ = some (.int .i64 o)) (h : GetP.getP k o s = some (l, t, ec)) :
  Calls Tryz.prog 34 #[.string s, .pointer (some ⟨b, 0, none⟩)] w fun e w' => ∃ v1_ : Value, e = .returned (.tuple #[v1_, .string t, .int .i64 ec]) ∧ Kd.R k37 37 w' w.heap.size (fun _ => True) v1_ l ∧ Below w.heap.size w w' := by
 have HP := jA.mk (fun W => GetP.jQQ k o s l t ec W h)
 clear h
 go_enter Tryz.func34, Tryz.ntmps34
 go_wp2_with fail
 refine (HP.out _).mono ?_
 rintro e w1 ⟨v, rfl, hr, hb⟩
 have HR := jA.mk hr
 have HB := jA.mk hb
 clear hr hb HP
 go_wp2
 go_ret3
 exact ⟨_, rfl, HR.out, HB.out⟩
set_option maxHeartbeats 4000000 in
theorem jOf (k b : Nat) (o : Int) (s : ByteArray) (most : Int) (l : List (List S37)) (t : ByteArray) (ec : Int) (w : World) (hx : w.cell? ⟨b, 0, none⟩ = some (.int .i64 o)) (h : jJQ k o s most = some (l, t, ec)) :
  Calls Tryz.prog 33 #[.string s, .int .u64 most, .func (.func 34) #[] #[.pointer (some ⟨b, 0, none⟩)]] w fun e w' => ∃ v1_ : Value, e = .returned (.tuple #[v1_, .string t, .int .i64 ec]) ∧ Kd.R (Kd.slice 37 k37) 23 w' w.heap.size (fun _ => True) v1_ l ∧ Below w.heap.size w w' := by
 have HBX := jA.mk (fun (W : World) (hb : Below w.heap.size w W) => (hb.cell (World.block_lt_of_cell? w _ hx)).trans hx)
 clear hx
 unfold jJQ at h
 obtain ⟨r, hp, h2⟩ := Option.bind_eq_some_iff.1 h
 clear h
 obtain ⟨n, u, c⟩ := r
 dsimp only at h2
 have hH := jA.mk (fun W => zn.calls s n u c W hp)
 have HH := jA.mk h2
 clear hp h2
 go_enter Tryz.func33, Tryz.ntmps33
 go_wp2_with fail
 refine (hH.out _).mono ?_
 rintro e w1 ⟨rfl, hb⟩
 have HB := jA.mk hb
 clear hb hH
 have hh := HH.out
 clear HH
 by_cases h0 : c ≠ 0
 ·
  have t3 : (c != 0) = true := bne_iff_ne.mpr h0
  rw [if_pos h0] at hh
  cases hh
  clear h0
  go_wp2
  go_ret3
  exact ⟨_, rfl, Kd.jAS _ _ _ _ _, HB.out⟩
 have hc : c = 0 := Decidable.of_not_not h0
 subst hc
 clear h0
 rw [if_neg (fun q => q rfl)] at hh
 by_cases h1 : most < n
 ·
  rw [if_pos h1] at hh
  cases hh
  have t1 : decide (most < n) = true := decide_eq_true h1
  clear h1
  go_wp2
  go_ret3
  exact ⟨_, rfl, Kd.jAS _ _ _ _ _, HB.out⟩
 rw [if_neg h1] at hh
 split at hh
 rotate_left
 ·
  cases hh
 rename_i h2
 have HN := jA.mk (show 0 ≤ n ∧ n ≤ 1000 by omega)
 have HA := jA.mk hh
 have t1 : decide (most < n) = false := decide_eq_false h1
 clear h1 h2 hh
 go_wp2
 clear t1
 go_loopg [6, 7, 26] n.toNat (fun q v6 v7 v26 w' => ∃ (i : Int) (l' : List (List S37)) (t' : ByteArray), v26 = .int .u64 i ∧ v7 = .string t' ∧ jA (0 ≤ i ∧ i + q = n ∧ (l'.length : Int) = i) ∧ jA (jDB k o q l' t' = some (l, t, ec)) ∧ jA (Below w.heap.size w w') ∧ jA (Kd.R (Kd.slice 37 k37) 23 w' w.heap.size (fun _ => True) v6 l'))
 case atStart => exact ⟨0, [], u, rfl, rfl, ⟨by omega, by have := HN.out; omega, rfl⟩, HA, HB, ⟨Kd.jAS _ _ _ _ _⟩⟩
 case round =>
  clear HA HB
  obtain ⟨i, l', t', rfl, rfl, HQ, HA, HB, HR⟩ := hrel
  cases gk with
  | zero =>
   have hd : decide (i < n) = false := decide_eq_false (by have := HQ.out; omega)
   have hA := HA.out
   rw [jDB] at hA
   cases hA
   go_wp2
   go_ret3
   exact ⟨_, rfl, HR.out, HB.out⟩
  | succ q =>
   have hd : decide (i < n) = true := decide_eq_true (by have := HQ.out; omega)
   have h1 := HA.out
   rw [jDB] at h1
   obtain ⟨r, hp, h2⟩ := Option.bind_eq_some_iff.1 h1
   obtain ⟨x, s1, e1⟩ := r
   dsimp only at h2
   have HP := jA.mk (fun W hW => jRU k b o t' x s1 e1 W hW hp)
   have HA1 := jA.mk h2
   have HV := jA.mk (fun k (hk : u6.ownBlock = some k) => (Kd.zC HR.out).1 k hk)
   clear h1 h2 hp HA
   go_wp2_with fail
   refine (HP.out _ (HBX.out _ HB.out)).mono ?_
   rintro e w6 ⟨v, rfl, hr, hb⟩
   have HB6 := jA.mk (jG HB.out hb)
   have HL6 := jA.mk (Kd.jAT HR.out hb)
   have HR1 := jA.mk (Kd.vB (Kd.jk (Kd.zC hr) HB.out.size) (fun k hk => (show wr.heap.size ≤ k from hk.2.1)))
   obtain ⟨A1, c1, rfl⟩ := Kd.vE hr
   clear hr hb HP HR HB
   by_cases c3 : e1 ≠ 0
   ·
    have t3 : (e1 != 0) = true := bne_iff_ne.mpr c3
    have hA := HA1.out
    rw [if_pos c3] at hA
    cases hA
    clear c3 HA1
    go_wp2
    go_ret3
    exact ⟨_, rfl, Kd.jAS _ _ _ _ _, HB6.out⟩
   have hc : e1 = 0 := Decidable.of_not_not c3
   subst hc
   clear c3
   have hA := HA1.out
   rw [if_neg (fun q => q rfl)] at hA
   have HA := jA.mk hA
   clear hA HA1
   go_wp2_with ((with_reducible refine zi (b := .append) (xs := #[.tmp 38, .tmp 40]) rfl ?_); (try (refine jg (by rfl) ?_; dsimp only)); at_builtin; refine Kd.jBJ (Kd.slice 37 k37) (w0 := w) (W := w6) w.heap.size rfl (.tmp 38) (.tmp 40) 25 23 (.slice none 0 0) 24 rfl Tryz.underlying25 jQL (by rfl) (by decide) (by decide) u6 l' x [.slice A1 x.length c1] (fun _ => True) (fun k_ => wr.heap.size ≤ k_) rfl rfl ?aP ?aK (fun _ _ => trivial) ?aO ?aB ?aS ?aL ?_; (case aP => exact ⟨_, rfl, HR1.out⟩); (case aK => exact fun k_ hk => ⟨trivial, fun e => by have h1 := (HV.out k_ e.symm).2.2.1; omega⟩); (case aO => exact HL6.out); (case aB => exact HB6.out); (case aS => exact HB6.out.size); (case aL => have h1 := HQ.out; have h2 := HN.out; omega); intro v8 w8 ho hb hg hat; have HO8 := jA.mk ho; have HB8 := jA.mk hb; clear ho hb hg hat HB6 HL6 HR1)
   go_roundg q
   case measure => omega
   case rel => exact ⟨_, l' ++ [x], s1, rfl, rfl, ⟨by have h1 := HQ.out; have h2 := HN.out; rw [EachT.jPM (by omega)]; refine ⟨?_, ?_, ?_⟩ <;> (try rw [List.length_append, List.length_singleton]) <;> omega⟩, HA, HB8, HO8⟩
set_option maxHeartbeats 1000000 in
theorem jKs (k : Nat) (o : Int) (s : ByteArray) (l : List (List S37)) (t : ByteArray) (ec : Int) (w : World) (h : jJQ k o s 24 = some (l, t, ec)) :
  Calls Tryz.prog 16 #[.int .i64 o, .string s] w fun e w' => ∃ v1_ : Value, e = .returned (.tuple #[v1_, .string t, .int .i64 ec]) ∧ Kd.R (Kd.slice 37 k37) 23 w' w.heap.size (fun _ => True) v1_ l ∧ Below w.heap.size w w' := by
 have HA0 := jA.mk (vD w (.cells #[.int .i64 o] 3))
 have HD0 := jA.mk (jQ (Below.refl _ w) (.cells #[.int .i64 o] 3))
 have HP := jA.mk (fun W hW => jOf k w.heap.size o s 24 l t ec W hW h)
 clear h
 go_enter Tryz.func16, Tryz.ntmps16
 go_wp2_with fail
 refine (HP.out _ ((jB HA0.out 0).trans rfl)).mono ?_
 rintro e w1 ⟨v, rfl, hr, hb⟩
 have HR := jA.mk (Kd.jk hr HD0.out.size)
 have HB := jA.mk (jG HD0.out hb)
 clear hr hb HP HA0 HD0
 go_wp2
 go_ret3
 exact ⟨_, rfl, HR.out, HB.out⟩
end EachP
namespace One
def oneL (k : Nat) (o : Int) (s : ByteArray) : Option Bool := if 3000 < (s.size : Int) then some true else (EachP.jJQ k o s 24).bind fun r => if r.2.2 ≠ 0 then some (((r.1.length : Int) == 0) && r.2.1.toList.isEmpty) else (AllP.allP k r.1 24).bind fun q => if q.2 = 0 then (if q.1.size + r.2.1.size ≤ 9223372036854775807 then some ((q.1 ++ r.2.1).toList == s.toList) else none) else some false
theorem jRT (k : Nat) (o : Int) (s : ByteArray) (r : Bool) (w : World) (h : oneL k o s = some r) :
  Calls Tryz.prog 7 #[.int .i64 o, .string s] w fun e w' => e = .returned (.bool r) ∧ Below w.heap.size w w' := by
 unfold oneL at h
 have hnot : ∀ (x : Bool) (w : World), (Op.unary .not (.bool x)).run Tryz.prog w = .ok (.bool (!x)) w := fun _ _ => rfl
 by_cases c0 : 3000 < (s.size : Int)
 ·
  rw [if_pos c0] at h
  cases h
  have c0b : decide (3000 < (s.size : Int)) = true := decide_eq_true c0
  clear c0
  go_enter Tryz.func7, Tryz.ntmps7
  go_wp2_with fail
  refine (qK.calls true _ rfl).mono ?_
  rintro e w1 ⟨rfl, hb⟩
  have HB := jA.mk hb
  clear hb
  go_wp2
  go_ret
  exact ⟨rfl, HB.out⟩
 rw [if_neg c0] at h
 have c0b : decide (3000 < (s.size : Int)) = false := decide_eq_false c0
 clear c0
 obtain ⟨r1, hp, h2⟩ := Option.bind_eq_some_iff.1 h
 clear h
 obtain ⟨l, t, e1⟩ := r1
 dsimp only at h2
 have HP := jA.mk (fun W => EachP.jKs k o s l t e1 W hp)
 have HH := jA.mk h2
 clear hp h2
 go_enter Tryz.func7, Tryz.ntmps7
 go_wp2_with fail
 refine (qK.calls true _ rfl).mono ?_
 rintro e w1 ⟨rfl, hb⟩
 have HB := jA.mk hb
 clear hb
 go_wp2_with fail
 refine (HP.out _).mono ?_
 rintro e w2 ⟨v, rfl, hr, hb⟩
 have HB2 := jA.mk (jG HB.out hb)
 obtain ⟨A, c, rfl, hlc, hC⟩ := Kd.jEJ hr
 have HL := jA.mk hlc
 have HC := jA.mk hC
 clear hr hb hlc hC HP HB
 have hh := HH.out
 clear HH
 by_cases h0 : e1 ≠ 0
 ·
  rw [if_pos h0] at hh
  have HRR := jA.mk (Option.some.inj hh)
  have t3 : (e1 != 0) = true := bne_iff_ne.mpr h0
  clear h0 hh
  cases t5 : ((l.length : Int) == 0) with
  | false =>
   go_wp2
   go_ret
   exact ⟨by rw [← HRR.out, t5]; rfl, HB2.out⟩
  | true =>
   cases t6 : t.toList.isEmpty with
   | true =>
    go_wp2
    go_ret
    exact ⟨by rw [← HRR.out, t5, t6]; rfl, HB2.out⟩
   | false =>
    go_wp2
    go_ret
    exact ⟨by rw [← HRR.out, t5, t6]; rfl, HB2.out⟩
 have hc : e1 = 0 := Decidable.of_not_not h0
 subst hc
 clear h0
 rw [if_neg (fun q => q rfl)] at hh
 obtain ⟨q, hq, h3⟩ := Option.bind_eq_some_iff.1 hh
 obtain ⟨p, e2⟩ := q
 dsimp only at h3
 have HQ := jA.mk (fun W hW => AllP.jKN k A c l (p, e2) W hW HL.out hq)
 have HH := jA.mk h3
 clear hh hq h3
 go_wp2_with fail
 refine (HQ.out _ HC.out).mono ?_
 rintro e w3 ⟨rfl, hb⟩
 have HB3 := jA.mk (jG HB2.out hb)
 clear hb HQ HC HB2
 have hh := HH.out
 clear HH
 by_cases h4 : e2 = 0
 rotate_left
 ·
  rw [if_neg h4] at hh
  have HRR := jA.mk (Option.some.inj hh)
  have t4 : (e2 == 0) = false := beq_eq_false_iff_ne.mpr h4
  clear hh h4
  go_wp2
  go_ret
  exact ⟨by rw [← HRR.out]; rfl, HB3.out⟩
 subst h4
 rw [if_pos rfl] at hh
 split at hh
 rotate_left
 ·
  cases hh
 rename_i hsz
 have HRR := jA.mk (Option.some.inj hh)
 have HSZ := jA.mk hsz
 clear hh
 go_wp2
 go_ret
 exact ⟨by rw [← HRR.out]; rfl, HB3.out⟩
end One
def syzygylaw11_PressOne.Pure : Prop := ∀ (a0 : Int) (a1 : ByteArray), (Lit.int .i64 a0).wf = true → a1.size ≤ 140737488351232 → ∃ k, One.oneL k a0 a1 = some true
theorem syzygylaw11_PressOne.walk (P : syzygylaw11_PressOne.Pure) (a0 : Int) (a1 : ByteArray) (w : World) (w0 : (Lit.int .i64 a0).wf = true) (w1 : a1.size ≤ 140737488351232) :
  Calls Tryz.prog 7 #[.int .i64 a0, .string a1] w fun e w' => e = .returned (.bool true) ∧ Below w.heap.size w w' := by
 obtain ⟨k, h⟩ := P a0 a1 w0 w1
 exact One.jRT k a0 a1 true w h
end Go.Proofs.YtoganbmeedimiaaGreat.POPressOne
