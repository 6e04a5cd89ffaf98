-- printed (pr.py)
import Derived.Test.YtoganbmeedimiaaGreatPOPressOnex1
namespace Go.Proofs.YtoganbmeedimiaaGreat.POPressOne
open Go.RowKit Go.Proofs.YtoganbmeedimiaaGreatN Go.Proofs.YtoganbmeedimiaaGreatW.PrintWords Go.Proofs.YtoganbmeedimiaaGreatW.PrintLast Go.Proofs.YtoganbmeedimiaaGreatW.PrintMore
attribute [local go_sem] zV zR qA zy vZ vY zU zQ
set_option maxHeartbeats 8000000
set_option maxRecDepth 100000
set_option linter.unusedVariables false
set_option linter.unusedSimpArgs false
namespace Shown
open Go.Ev
def ints : List SV → Option (List Int)
 | [] => some []
 | .int .u64 n :: t => match ints t with
  | some l => some (n :: l)
  | none => none
 | _ => none
noncomputable def ext (f : FuncId) (args : List AV) (st : AS) : Option (TV × AS) :=
 bif Nat.beq f 108 then
  match args with
  | [.sc (.ptr b o)] => some (.av (.sc (.ptr b o)), st)
  | _ => none
 else bif Nat.beq f 88 then
  match args with
  | [.sc (.sl b off n c op)] =>
   match rowOf st 1 (.sl b off n c op), jID st 1 b off n c op with
   | some (m, l), some r => match ints l with
    | some L => match jy.f 100 L with
     | some (r1, r2) => bif Nat.ble n r && Nat.ble n 1000000 && Nat.beq m n then some (.tup [.sc (.str r1), .sc (.int .i64 r2)], st) else none
     | none => none
    | none => none
   | _, _ => none
  | _ => none
 else none
def dcall (f : FuncId) (args : List AV) (st : AS) : Option AS := bif Nat.beq f 89 && Nat.beq args.length 2 then some st else none
theorem jCr (π : Pi) : ∀ {l : List SV} {L : List Int}, ints l = some L → l.map (SV.conc π) = L.map (Value.int .u64)
 | [], L, h => by simp only [ints, Option.some.injEq] at h; subst h; rfl
 | s :: t, L, h => by
  unfold ints at h
  split at h
  ·
   rename_i heq; simp at heq
  rotate_left
  ·
   simp at h
  rename_i n t' heq
  simp only [List.cons.injEq] at heq
  obtain ⟨rfl, rfl⟩ := heq
  split at h
  rotate_left
  ·
   simp at h
  rename_i l hl
  simp only [Option.some.injEq] at h; subst h
  rw [List.map_cons, List.map_cons, jCr π hl]; rfl
theorem Tr.below {π π' : Pi} {st st' : AS} {w w' : World} (h : Tr π st w π' st' w') (h0 : ∀ b k, hget st.heap b = some k → False) : Below w.heap.size w w' :=
 ⟨h.os, h.tape, h.output, h.size, fun r hr => h.frame r hr fun b k hb => (h0 b k hb).elim⟩
theorem HRel.below {π : Pi} {st : AS} {w w' : World} (h : HRel π st w) (hb : Below w.heap.size w w') : HRel π st w' ∧ Tr π st w π st w' := by
 have h' := h.world (w' := w') fun b k hk => hb.block _ (h.lt hk)
 exact ⟨h', { Tr.refl h with os := hb.os, tape := hb.tape, output := hb.output, size := hb.size, frame := fun r hr _ => hb.block r hr, fresh := fun b k hk hge => absurd (h.blk b k hk).1 (Nat.not_lt.2 hge) }⟩
theorem jQV : jBe Tryz.prog ext := by
 intro f args st v st' h π w hH hargs
 unfold ext at h
 rw [Bool.cond_eq_ite] at h
 split at h
 ·
  rename_i hf
  rw [Nat.beq_eq] at hf; subst hf
  split at h
  rotate_left
  ·
   simp at h
  rename_i b o
  simp only [Option.some.injEq, Prod.mk.injEq] at h
  obtain ⟨rfl, rfl⟩ := h
  exact .inr ⟨π, w, kr_, hH, Tr.refl hH⟩
 rw [Bool.cond_eq_ite] at h
 split at h
 rotate_left
 ·
  simp at h
 rename_i hf
 rw [Nat.beq_eq] at hf; subst hf
 split at h
 rotate_left
 ·
  simp at h
 rename_i b off n c op
 split at h
 rotate_left
 ·
  simp at h
 rename_i m l r hrow hroom
 split at h
 rotate_left
 ·
  simp at h
 rename_i L hL
 split at h
 rotate_left
 ·
  simp at h
 rename_i r1 r2 hput
 simp only [Bool.cond_eq_ite, Bool.and_eq_true, Nat.beq_eq, Nat.ble_eq] at h
 split at h
 rotate_left
 ·
  simp at h
 rename_i hc
 obtain ⟨⟨hnr, hn6⟩, rfl⟩ := hc
 simp only [Option.some.injEq, Prod.mk.injEq] at h
 obtain ⟨rfl, rfl⟩ := h
 obtain ⟨a, c', hx, hl, hcell, -⟩ := jBz hH hrow
 have hcap := jCw hH hroom
 have hLl : L.length = m := by
  have := congrArg List.length (jCr π hL)
  simp only [List.length_map] at this
  omega
 have hcc : c' = if op then π.room b else c := by
  have := hx.symm
  simp only [SV.conc, Value.slice.injEq, Option.some.injEq] at this
  exact this.2.2
 have := jy.calls 100 (some a) c' L r1 r2 w ⟨rfl, by omega, fun _ => ⟨a, rfl, fun j p hj => ⟨[.int .u64 p], rfl, rfl, fun i u hu => by
   have hi : i = 0 := by cases i with | zero => rfl | succ i => simp at hu
   subst hi
   simp only [List.getElem?_cons_zero, Option.some.injEq] at hu; subst hu
   refine hcell (j * 1 + 0) _ ?_
   rw [jCr π hL, List.getElem?_map, Nat.mul_one, Nat.add_zero, hj]; rfl⟩⟩⟩ (by omega) hput
 refine .inl ⟨⟨_, _, Tryz.func88, rfl, kr_⟩, ?_⟩
 have e1 : ([AV.sc (.sl b off m c op)].map (AV.conc π)).toArray = #[.slice (some a) L.length c'] := by
  rw [hLl]; show #[(SV.sl b off m c op).conc π] = _; rw [hx]
 rw [e1]
 refine Calls.mono this fun e w' he => ?_
 obtain ⟨rfl, hb⟩ := he
 have := HRel.below hH hb
 exact ⟨π, rfl, this.1, this.2⟩
theorem jPZ {P : Program} {Q : Exit → Act → List Frame → World → Prop} {a a' : Act} {cs : List Frame} {w : World} {c : Code} (h : a = a') (h2 : c.wpS P Q a' cs w) : c.wpS P Q a cs w := h ▸ h2
theorem jPY {P : Program} {Q : Exit → Act → World → Prop} {a : Act} {w : World} {c : Code} (h : ∀ Q' : Exit → Act → World → Prop, (∀ e a' w', Q' e a' w' = Q e a' w') → c.wp P Q' a w) : c.wp P Q a w := h Q (fun _ _ _ => rfl)
theorem jOC (pe : Value) (undo : Value) (w : World) :
  CallsD Tryz.prog 89 #[pe, undo] .returning w fun e u' w' => e = .returned (.tuple #[]) ∧ u' = .returning ∧ w' = w := by
 refine callsD_of_wpS Tryz.func89 rfl fun c₀ cs hu => ?_
 apply wpS_seq
 apply wpS_region
 simp [wpOpsS, go_sem, recoverD, hu, Tryz.ntmps89, Exit.thenS]
 refine jPZ (a' := { tmps := #[pe, undo, undef, undef, undef, undef, undef, .nilIface, undef, undef, undef, undef, undef, undef, undef, undef, undef, undef], defers := [] }) rfl ?_
 refine wpS_of_wp (jPY fun Q' hQ' => ?_)
 go_wp2
 rw [hQ']
 cases c₀
 simp_all [bodyPostS, results, Tryz.results89]
theorem jMx : jHz Tryz.prog dcall := by
 intro f args st st' h π w hH hargs
 unfold dcall at h
 simp only [Bool.cond_eq_ite, Bool.and_eq_true, Nat.beq_eq] at h
 split at h
 rotate_left
 ·
  simp at h
 rename_i hc
 obtain ⟨rfl, hl⟩ := hc
 simp only [Option.some.injEq] at h; subst h
 match args, hl with
 | [x, y], _ =>
  refine ⟨⟨_, _, Tryz.func89, rfl, kr_⟩, ?_⟩
  refine CallsD.mono (jOC (x.conc π) (y.conc π) w) fun e u' w' he => ?_
  obtain ⟨rfl, rfl, rfl⟩ := he
  exact ⟨⟨_, rfl⟩, rfl, π, hH, Tr.refl hH⟩
def good : Option (TV × AS) → Bool
 | some (.av (.sc (.bool true)), _) => true
 | _ => false
theorem jOY {r : Option (TV × AS)} (h : good r = true) : ∃ st, r = some (.av (.sc (.bool true)), st) := by
 unfold good at h
 split at h
 ·
  exact ⟨_, rfl⟩
 simp at h
theorem run : good (jLq Tryz.prog 100 ext dcall 50 9 [] ⟨[], 0, []⟩) = true := by kernel_rfl
theorem jHH (w : World) : Calls Tryz.prog 9 #[] w fun e w' => e = .returned (.bool true) ∧ Below w.heap.size w w' := by
 have hm : Tryz.prog.follows .mixedOrders = true := by kernel_rfl
 have hH : HRel ⟨fun _ => 0, fun _ => 0⟩ ⟨[], 0, []⟩ w := ⟨fun b k h => by simp [hget] at h, fun b b' k k' h => by simp [hget] at h⟩
 obtain ⟨st, hrun⟩ := jOY run
 rcases jNF hm 100 jQV jMx 50 9 [] _ _ _ hrun _ w hH rfl with ⟨-, h⟩ | ⟨π', w', h, -⟩
 ·
  refine Calls.mono h fun e w' he => ?_
  obtain ⟨π', rfl, h1, h2⟩ := he
  exact ⟨rfl, Tr.below h2 fun b k hb => by simp [hget] at hb⟩
 rw [show ((callFunc 9 (([] : List AV).map (AV.conc ⟨fun _ => 0, fun _ => 0⟩)).toArray).run Tryz.prog w) = _ from Tryz.call9 _ w] at h
 cases h
end Shown
def qK.f : Option Bool := some true
theorem qK.calls (r1 : Bool) (w : World) (h : qK.f = some r1) : Calls Tryz.prog 9 #[] w fun e w' => e = .returned (.bool r1) ∧ Below w.heap.size w w' := by
 obtain rfl := Option.some.inj h
 exact Shown.jHH w
def zJ.f (a0_0 : Bool) (l0_1 : List Int) (l0_2 : List Int) : Option (Bool) := some ((l0_1.length : Int) == 0)
theorem zJ.calls (a0_0 : Bool) (A0_1 : Option Addr) (c0_1 : Nat) (l0_1 : List Int) (A0_2 : Option Addr) (c0_2 : Nat) (l0_2 : List Int) (r : Bool) (w : World) (hr0_1 : Kd.C (Kd.int .u64) w A0_1 l0_1.length l0_1) (hc0_1 : l0_1.length ≤ c0_1) (hr0_2 : Kd.C (Kd.int .u64) w A0_2 l0_2.length l0_2) (hc0_2 : l0_2.length ≤ c0_2) (h : zJ.f a0_0 l0_1 l0_2 = some r) :
  Calls Tryz.prog 45 #[.agg #[.bool a0_0, .slice A0_1 l0_1.length c0_1, .slice A0_2 l0_2.length c0_2]] w fun e w' => e = .returned (.bool r) ∧ Below w.heap.size w w' := by
 have hu33 := Tryz.underlying33
 have HR0_1 := jA.mk hr0_1
 have HC0_1 := jA.mk hc0_1
 clear hr0_1 hc0_1
 have HR0_2 := jA.mk hr0_2
 have HC0_2 := jA.mk hc0_2
 clear hr0_2 hc0_2
 have HB := jA.mk (Below.refl w.heap.size w)
 have H : (some ((l0_1.length : Int) == 0)) = some r := h
 clear h
 obtain rfl := Option.some.inj H
 go_enter Tryz.func45, Tryz.ntmps45
 go_wp2_with (first | ((with_reducible refine jl (N := 1) rfl ?_); refine bx_ 1 #[.bool a0_0, .slice A0_1 l0_1.length c0_1, .slice A0_2 l0_2.length c0_2] 33 ?_; intro gb111 hg w2 hbox hb; have BK111 := jA.mk (hbox); have GW111 := jA.mk ((by rw [hg]; exact (jE (bb_ HB)) : w.heap.size ≤ gb111)); have GE111 := GW111; replace HB := bs_ HB hb; clear hb hbox hg; obtain ⟨hcz3_0, hcz3_1, hcz3_2, hfz3_0, hfz3_1, hfz3_2⟩ := bf3_ BK111))
 go_ret
 exact ⟨ew_, (bb1_ HB GE111)⟩
def jT.f (l0 : List Int) : Option (List Int) := if l0.length < 17592186044416 then some l0 else none
theorem jT.calls (A0 : Option Addr) (c0 : Nat) (l0 : List Int) (r : List Int) (w : World) (hr0 : Kd.C (Kd.int .u64) w A0 l0.length l0) (hc0 : l0.length ≤ c0) (h : jT.f l0 = some r) :
  Calls Tryz.prog 135 #[.slice A0 l0.length c0] w fun e w' => ∃ v0_ : Value, e = .returned (v0_) ∧ Kd.R (Kd.int .u64) 56 w' w.heap.size (fun _ => True) v0_ r ∧ Below w.heap.size w w' := by
 have HR0 := jA.mk hr0
 have HC0 := jA.mk hc0
 clear hr0 hc0
 unfold jT.f at h
 by_cases hl : l0.length < 17592186044416
 rotate_left
 ·
  rw [if_neg hl] at h
  exact absurd h (by simp)
 rw [if_pos hl] at h
 obtain rfl := Option.some.inj h
 clear h
 have HL := jA.mk hl
 clear hl
 have qq : ∀ (w : World) (a : Option Addr) (n c n' c' : Nat), (binOp .eql 30 (.slice a n c) (.slice none n' c')).run Tryz.prog w = .ok (.bool a.isNone) w := fun w a n c n' c' => Lib.run_eql_slice_nil w _ _ a n c n' c' Tryz.underlying30
 cases A0 with
 | none =>
  have hlen : l0 = [] := by
   by_cases hp : 0 < l0.length
   ·
    obtain ⟨ad, e, _⟩ := HR0.out.2.2 hp
    cases e
   exact List.eq_nil_of_length_eq_zero (by omega)
  subst hlen
  go_enter Tryz.func135, Tryz.ntmps135
  go_wp2
  go_ret
  exact ⟨_, rfl, Kd.jAS _ _ _ _ _, Below.refl _ _⟩
 | some ad =>
  have HO : jA (∀ W : World, Kd.R (Kd.int .u64) 56 (W.alloc (.cells #[] 56)) W.heap.size (fun _ => True) (.slice (some ⟨W.heap.size, 0, none⟩) 0 0) []) := ⟨fun W => Kd.jDO (World.ownsRow_made W #[] 0 (Nat.le_refl _) (Nat.zero_le _) rfl) (fun _ _ => trivial)⟩
  go_enter Tryz.func135, Tryz.ntmps135
  go_wp2_with ((with_reducible refine zi (b := .append) (xs := #[.tmp 5, .tmp 6]) rfl ?_); at_builtin; refine Kd.jCi (Kd.int .u64) (w0 := w) w.heap.size rfl (.tmp 5) (.tmp 6) 30 56 (.int .u64 0) 8 rfl Tryz.underlying30 jAL rfl (by decide) (by omega) _ [] l0 _ _ _ (fun _ => True) (fun _ => False) rfl rfl ?aO ?aR (fun _ _ h => h) (fun _ h => h.elim) ?aF ?aB ?aS ?aL ?_)
  case aO => exact HO.out w
  case aR => exact Kd.jAH HR0.out _
  case aF => exact fun _ _ => trivial
  case aB => exact jQ (Below.refl _ _) _
  case aS => simp
  case aL => have := HL.out; simp; omega
  intro v1 w1 ho hb hg hat
  clear hg hat
  have HO1 := jA.mk ho
  have HB := jA.mk hb
  clear ho hb
  go_wp2
  go_ret
  exact ⟨_, rfl, by simpa using HO1.out, HB.out⟩
def jJ.l0 : Nat → List Int → Option (List Int)
 | 0, _ => none
 | k + 1, x0 => if (x0.length : Int) > 0 then (if 0 ≤ (wrap64 ((x0.length : Int) - 1)) then (if (wrap64 ((x0.length : Int) - 1)) < (x0.length : Int) then (if (rd x0 (wrap64 ((x0.length : Int) - 1))) = 0 then (if (wrap64 ((x0.length : Int) - 1)) ≤ (x0.length : Int) then (jJ.l0 k (x0.take ((wrap64 ((x0.length : Int) - 1)) : Int).toNat)) else (none)) else (some x0)) else (none)) else (none)) else (some x0)
def jJ.f (k : Nat) (l0 : List Int) : Option (List Int) := jJ.l0 k l0
theorem jJ.zY : ∀ k, (∀ y0, LeO (jJ.l0 k y0) (jJ.l0 (k + 1) y0))
 | 0 => fun _ r h => by simp [jJ.l0] at h
 | k + 1 => by
  have ih0 := jJ.zY k
  intro y0
  unfold jJ.l0
  repeat' first
  | (with_reducible exact ih0 _)
  | (with_reducible exact LeO.refl _)
  | (with_reducible exact LeO.none _)
  | (with_reducible refine LeO.ite ?_ ?_)
  | (with_reducible refine LeO.bind ?_ (fun _ => ?_))
theorem jJ.mono : ∀ a0 k, LeO (jJ.f k a0) (jJ.f (k + 1) a0) := by
 intro a0 k
 have ih0 := jJ.zY k
 unfold jJ.f
 repeat' first
   | (with_reducible exact ih0 _)
   | (with_reducible exact LeO.refl _)
   | (with_reducible exact LeO.none _)
   | (with_reducible refine LeO.ite ?_ ?_)
   | (with_reducible refine LeO.bind ?_ (fun _ => ?_))
theorem jJ.calls (k : Nat) (P0_ : Nat → Prop) (A0 : Option Addr) (c0 : Nat) (l0 : List Int) (r : List Int) (w : World) (hs0 : Kd.V (Kd.int .u64) 56 w w.heap.size (fun k_ => P0_ k_) (.slice A0 l0.length c0) l0) (h : jJ.f k l0 = some r) :
  Calls Tryz.prog 136 #[.slice A0 l0.length c0] w fun e w' => ∃ v0_ : Value, e = .returned (v0_) ∧ Kd.V (Kd.int .u64) 56 w' w.heap.size (fun k_ => (P0_ k_ ∨ w.heap.size ≤ k_)) v0_ r ∧ Below w.heap.size w w' := by
 have HO0 := jA.mk (show Kd.V (Kd.int .u64) 56 w w.heap.size (fun k_ => (P0_ k_ ∨ w.heap.size ≤ k_)) (.slice A0 l0.length c0) l0 from Kd.zF hs0 (fun k_ hk => .inl hk))
 have HB := jA.mk (Below.refl w.heap.size w)
 have H : (jJ.l0 k l0) = some r := h
 clear h
 have H' := jA.mk H
 clear H
 go_enter Tryz.func136, Tryz.ntmps136
 go_wp2
 go_loopg [0] k (fun kq v0 w' => ∃ (x0_1 : List Int), jA (jJ.l0 kq x0_1 = some r) ∧ jA (kq ≤ k) ∧ jA (Kd.V (Kd.int .u64) 56 w' w.heap.size (fun k_ => (P0_ k_ ∨ w.heap.size ≤ k_)) v0 x0_1) ∧ jA (Below w.heap.size w w'))
 case atStart => exact ⟨(l0), H', ⟨Nat.le_refl _⟩, ⟨(rV_ HO0)⟩, ⟨(bb_ HB)⟩⟩
 case round =>
  clear H'
  try clear c1
  obtain ⟨x0_1, HA, HK1, HO_0, HB⟩ := hrel
  cases gk with
  | zero => exact absurd HA.out (by simp [jJ.l0])
  | succ k1 =>
   have H := HA.out
   clear HA
   simp only [jJ.l0] at H
   by_cases c2 : (x0_1.length : Int) > 0
   rotate_left
   ·
    rw [if_neg c2] at H
    have c2b0 := decide_eq_false c2
    have c2b1 : decide (0 < x0_1.length) = false := decide_eq_false (by omega)
    clear c2
    obtain rfl := Option.some.inj H
    obtain ⟨Ao12, co12, eo12⟩ := Kd.vX HO_0.out
    subst eo12
    go_wp2
    go_ret
    exact ⟨_, ew_, (rV_ HO_0), (bb_ HB)⟩
   rw [if_pos c2] at H
   have c2b0 := decide_eq_true c2
   have c2b1 : decide (0 < x0_1.length) = true := decide_eq_true (by omega)
   clear c2
   obtain ⟨ji3, hji3⟩ : ∃ j_ : Int, (wrap64 ((x0_1.length : Int) - 1)) = j_ := ⟨_, rfl⟩
   replace H : (if 0 ≤ (ji3) then (if (ji3) < (x0_1.length : Int) then (if (rd x0_1 (ji3)) = 0 then (if (ji3) ≤ (x0_1.length : Int) then (jJ.l0 k1 (x0_1.take ((ji3) : Int).toNat)) else (none)) else (some x0_1)) else (none)) else (none)) = some r := by first | (rw [hji3] at H; exact H) | (simp only [hji3] at H ⊢; exact H)
   have hji3w : (IntKind.i64.wrap ((x0_1.length : Int) - 1)) = ji3 := (vF _).trans hji3
   by_cases c4 : 0 ≤ (ji3)
   rotate_left
   ·
    rw [if_neg c4] at H
    exact absurd H (by simp)
   rw [if_pos c4] at H
   have c4b0 := decide_eq_true c4
   clear c4
   by_cases c5 : (ji3) < (x0_1.length : Int)
   rotate_left
   ·
    rw [if_neg c5] at H
    exact absurd H (by simp)
   rw [if_pos c5] at H
   have c5b0 := decide_eq_true c5
   clear c5
   by_cases c6 : (rd x0_1 (ji3)) = 0
   rotate_left
   ·
    rw [if_neg c6] at H
    have c6b0 := beq_eq_false_iff_ne.mpr c6
    have c6b1 := bne_iff_ne.mpr c6
    obtain rfl := Option.some.inj H
    obtain ⟨Ao11, co11, eo11⟩ := Kd.vX HO_0.out
    subst eo11
    have p112 : 0 ≤ ((ji3) : Int) := of_decide_eq_true am_
    have q112 : (ji3) < (x0_1.length : Int) := of_decide_eq_true am_
    obtain ⟨ad112, e112, hx112_0⟩ := Kd.vS (Kd.vT HO_0.out).2.2 (ji3) p112 q112
    cases e112
    replace p112 := eq_true p112
    replace q112 := eq_true q112
    go_wp2
    go_ret
    exact ⟨_, by first | rfl | (simp [vM, vL] <;> rfl) | (simp only [← hji3]; first | rfl | (simp [vM, vL] <;> rfl)) | (simp [*, vM, vL] <;> rfl), (rV_ HO_0), (bb_ HB)⟩
   rw [if_pos c6] at H
   have c6b0 := beq_iff_eq.mpr c6
   have c6b1 := bne_eq_false_iff_eq.mpr c6
   clear c6
   have c7b0 := eq_true (of_decide_eq_true am_ : 0 ≤ (ji3))
   by_cases c8 : (ji3) ≤ (x0_1.length : Int)
   rotate_left
   ·
    rw [if_neg c8] at H
    exact absurd H (by simp)
   rw [if_pos c8] at H
   have c8b0 := eq_true c8
   have c8b1 := decide_eq_true c8
   clear c8
   obtain ⟨y113, hy113⟩ : ∃ y_ : List Int, y_ = (x0_1.take ((ji3) : Int).toNat) := ⟨_, rfl⟩
   replace H : (jJ.l0 k1 y113) = some r := by first | (rw [hy113]; with_reducible exact H) | (have H2_ := (Option.bind_some _ _).symm.trans H; rw [hy113]; with_reducible exact H2_) | (with_reducible exact hs_ H) | with_reducible exact H | (rw [hy113]; exact H) | exact H
   have Ny113 := jA.mk hy113
   clear hy113
   have H' := jA.mk H
   clear H
   obtain ⟨Ao9, co9, eo9⟩ := Kd.vX HO_0.out
   subst eo9
   have p112 : 0 ≤ ((ji3) : Int) := of_decide_eq_true am_
   have q112 : (ji3) < (x0_1.length : Int) := of_decide_eq_true am_
   obtain ⟨ad112, e112, hx112_0⟩ := Kd.vS (Kd.vT HO_0.out).2.2 (ji3) p112 q112
   cases e112
   replace p112 := eq_true p112
   replace q112 := eq_true q112
   have q10 : ((ji3) : Int) ≤ ((x0_1.length : Int) : Int) := of_decide_eq_true am_
   obtain ⟨i010, hi010, _, hsz10, _⟩ := info_parts jAL
   have hroom10 : x0_1.length ≤ co9 := (Kd.vT HO_0.out).2.1
   have hC10 : Kd.F (Kd.int .u64) _ _ (some ad112) x0_1.length x0_1 := (Kd.V_at (base := w.heap.size) HO_0.out).2.2
   have hcut10 := jLE (P := Tryz.prog) 30 56 .i64 Tryz.underlying30 hi010 (some ad112) x0_1.length co9 (ji3) (of_decide_eq_true am_) q10 hroom10
   have hr10 := Kd.jRE (m := ((ji3) : Int).toNat) hC10 (by omega)
   have hy10 : y113.length = ((ji3) : Int).toNat := (by rw [Ny113.out, List.length_take]; omega)
   rw [← Ny113.out] at hr10
   rw [← hy10] at hcut10
   have HO117 := jA.mk (show Kd.V (Kd.int .u64) 56 _ w.heap.size _ (.slice (some ad112) y113.length co9) y113 from Kd.V_mk (by omega) hr10)
   have HC117 := jA.mk (show y113.length ≤ co9 from by omega)
   clear hr10 hC10 hroom10 hi010 hsz10
   have KY10 := jA.mk hy10
   clear hy10
   replace q10 := eq_true q10
   go_wp2
   go_roundg k1
   case measure => have := HK1.out; omega
   case rel => exact ⟨(y113), H', ⟨by have := HK1.out; omega⟩, ⟨(rV_ HO117)⟩, ⟨(bb_ HB)⟩⟩
/-- What two stores, into the row and into the carry's block, leave. -/
theorem jBa {w wr : World} {gx gc ga i n cx base : Nat} {vx : Value} {xs : List Int} {c s c' : Int} {ok : Nat → Prop} (h1 : wr.heap[gx]? = some (.cells #[vx] 30 (0, 0))) (h2 : wr.heap[gc]? = some (.cells #[.int .u64 c] 56 (0, 0)))
  (h3 : Kd.R (Kd.int .u64) 56 wr base ok (.slice (some ⟨ga, 0, none⟩) n cx) xs) (h4 : Below w.heap.size w wr) (n1 : gx ≠ ga) (n2 : gc ≠ ga) (n3 : gx ≠ gc) (n4 : w.heap.size ≤ ga) (n5 : w.heap.size ≤ gc) (hok : ∀ k, ok k → k ≠ gc) :
  ((wr.setCell ⟨ga, i, none⟩ (.int .u64 s)).setCell ⟨gc, 0, none⟩ (.int .u64 c')).drew.heap[gx]? = some (.cells #[vx] 30 (0, 0)) ∧ ((wr.setCell ⟨ga, i, none⟩ (.int .u64 s)).setCell ⟨gc, 0, none⟩ (.int .u64 c')).drew.heap[gc]? = some (.cells #[.int .u64 c'] 56 (0, 0)) ∧
  Kd.R (Kd.int .u64) 56 ((wr.setCell ⟨ga, i, none⟩ (.int .u64 s)).setCell ⟨gc, 0, none⟩ (.int .u64 c')).drew base ok (.slice (some ⟨ga, 0, none⟩) n cx) (xs.set i s) ∧ Below w.heap.size w ((wr.setCell ⟨ga, i, none⟩ (.int .u64 s)).setCell ⟨gc, 0, none⟩ (.int .u64 c')).drew := by
 refine ⟨jI (jV (jV h1 n1 _) n3 _), jI (jM (jV h2 n2 _) 0 _ rfl), ?_, jv (vP (vP h4 n4) n5)⟩
 have hp := (Kd.jCh h3 (i : Int) s).1
 rw [Int.toNat_natCast] at hp
 exact Kd.qL (Kd.qU hp hok _)
/-- trim of a row of the caller's own: it stays one. -/
theorem jJ.own (k : Nat) (base : Nat) (ok : Nat → Prop) (A0 : Option Addr) (c0 : Nat) (l0 : List Int) (r : List Int) (w : World) (ho : Kd.R (Kd.int .u64) 56 w base ok (.slice A0 l0.length c0) l0) (h : jJ.f k l0 = some r) :
  Calls Tryz.prog 136 #[.slice A0 l0.length c0] w fun e w' => ∃ v0_ : Value, e = .returned (v0_) ∧ Kd.R (Kd.int .u64) 56 w' base ok v0_ r ∧ Below w.heap.size w w' := by
 have HO0 := jA.mk ho
 clear ho
 have HB := jA.mk (Below.refl w.heap.size w)
 have H' := jA.mk (show (jJ.l0 k l0) = some r from h)
 clear h
 go_enter Tryz.func136, Tryz.ntmps136
 go_wp2
 go_loopg [0] k (fun kq v0 w' => ∃ (x0_1 : List Int), jA (jJ.l0 kq x0_1 = some r) ∧ jA (Kd.R (Kd.int .u64) 56 w' base ok v0 x0_1) ∧ jA (Below w.heap.size w w'))
 case atStart => exact ⟨l0, H', HO0, HB⟩
 case round =>
  clear H'
  obtain ⟨x0_1, HA, HO_0, HB⟩ := hrel
  obtain ⟨Ao9, co9, eo9⟩ := Kd.vE HO_0.out
  subst eo9
  cases gk with
  | zero => exact absurd HA.out (by simp [jJ.l0])
  | succ k1 =>
   have H := HA.out
   clear HA
   simp only [jJ.l0] at H
   by_cases c2 : (x0_1.length : Int) > 0
   rotate_left
   ·
    rw [if_neg c2] at H
    have c2b0 := decide_eq_false c2
    have c2b1 : decide (0 < x0_1.length) = false := decide_eq_false (by omega)
    clear c2
    obtain rfl := Option.some.inj H
    go_wp2
    go_ret
    exact ⟨_, rfl, HO_0.out, HB.out⟩
   rw [if_pos c2] at H
   have c2b0 := decide_eq_true c2
   have c2b1 : decide (0 < x0_1.length) = true := decide_eq_true (by omega)
   clear c2
   obtain ⟨ji3, hji3⟩ : ∃ j_ : Int, (wrap64 ((x0_1.length : Int) - 1)) = j_ := ⟨_, rfl⟩
   rw [hji3] at H
   have hji3w : (IntKind.i64.wrap ((x0_1.length : Int) - 1)) = ji3 := (vF _).trans hji3
   by_cases c4 : 0 ≤ (ji3)
   rotate_left
   ·
    rw [if_neg c4] at H
    exact absurd H (by simp)
   rw [if_pos c4] at H
   have c4b0 := decide_eq_true c4
   clear c4
   by_cases c5 : (ji3) < (x0_1.length : Int)
   rotate_left
   ·
    rw [if_neg c5] at H
    exact absurd H (by simp)
   rw [if_pos c5] at H
   have c5b0 := decide_eq_true c5
   clear c5
   have p103 : 0 ≤ ((ji3) : Int) := of_decide_eq_true am_
   have q103 : (ji3) < (x0_1.length : Int) := of_decide_eq_true am_
   obtain ⟨ad103, e103, hx103_0⟩ := Kd.vS (Kd.jW HO_0.out).2.2 (ji3) p103 q103
   cases e103
   replace p103 := eq_true p103
   replace q103 := eq_true q103
   by_cases c6 : (rd x0_1 (ji3)) = 0
   rotate_left
   ·
    rw [if_neg c6] at H
    have c6b0 := beq_eq_false_iff_ne.mpr c6
    have c6b1 := bne_iff_ne.mpr c6
    obtain rfl := Option.some.inj H
    go_wp2
    go_ret
    exact ⟨_, rfl, HO_0.out, HB.out⟩
   rw [if_pos c6] at H
   have c6b0 := beq_iff_eq.mpr c6
   have c6b1 := bne_eq_false_iff_eq.mpr c6
   clear c6
   have c7b0 := eq_true (of_decide_eq_true am_ : 0 ≤ (ji3))
   by_cases c8 : (ji3) ≤ (x0_1.length : Int)
   rotate_left
   ·
    rw [if_neg c8] at H
    exact absurd H (by simp)
   rw [if_pos c8] at H
   have c8b0 := eq_true c8
   have c8b1 := decide_eq_true c8
   clear c8
   obtain ⟨y104, hy104⟩ : ∃ y_ : List Int, y_ = (x0_1.take ((ji3) : Int).toNat) := ⟨_, rfl⟩
   rw [← hy104] at H
   have H' := jA.mk H
   clear H
   have q10 : ((ji3) : Int) ≤ ((x0_1.length : Int) : Int) := of_decide_eq_true am_
   obtain ⟨i010, hi010, _, hsz10, _⟩ := info_parts jAL
   have hroom10 : x0_1.length ≤ co9 := (Kd.jW HO_0.out).2.1
   have hcut10 := jLE (P := Tryz.prog) 30 56 .i64 Tryz.underlying30 hi010 (some ad103) x0_1.length co9 (ji3) (of_decide_eq_true am_) q10 hroom10
   have hr10 := Kd.jNm (m := ((ji3) : Int).toNat) HO_0.out (by omega)
   have hy10 : y104.length = ((ji3) : Int).toNat := (by rw [hy104, List.length_take]; omega)
   rw [← hy104, ← hy10] at hr10
   rw [← hy10] at hcut10
   have HO108 := jA.mk hr10
   clear hr10 hroom10 hi010 hsz10 hy104
   have KY10 := jA.mk hy10
   clear hy10
   replace q10 := eq_true q10
   go_wp2
   go_roundg k1
   case measure => omega
   case rel => exact ⟨(y104), H', HO108, HB⟩
/-- trim of a row that is only read: its beginning. -/
theorem jJ.read (k : Nat) (A0 : Option Addr) (c0 : Nat) (l0 : List Int) (r : List Int) (w : World) (hr : Kd.C (Kd.int .u64) w A0 l0.length l0) (hc : l0.length ≤ c0) (h : jJ.f k l0 = some r) :
  Calls Tryz.prog 136 #[.slice A0 l0.length c0] w fun e w' => e = .returned (.slice A0 r.length c0) ∧ r = l0.take r.length ∧ w' = w := by
 have HR0 := jA.mk hr
 have HC0 := jA.mk hc
 clear hr hc
 have H' := jA.mk (show (jJ.l0 k (l0.take l0.length)) = some r from by rw [List.take_length]; exact h)
 clear h
 go_enter Tryz.func136, Tryz.ntmps136
 go_wp2
 go_loopg [0] k (fun kq v0 w' => ∃ (m : Nat), v0 = .slice A0 m c0 ∧ m ≤ l0.length ∧ jA (jJ.l0 kq (l0.take m) = some r) ∧ w = w')
 case atStart => exact ⟨_, rfl, Nat.le_refl _, H', rfl⟩
 case round =>
  clear H'
  obtain ⟨m, rfl, hm, HA, rfl⟩ := hrel
  have hlen : (l0.take m).length = m := by rw [List.length_take]; omega
  cases gk with
  | zero => exact absurd HA.out (by simp [jJ.l0])
  | succ k1 =>
   have H := HA.out
   clear HA
   simp only [jJ.l0, hlen] at H
   have HM := jA.mk hm
   have HL := jA.mk hlen
   clear hlen
   by_cases c2 : (m : Int) > 0
   rotate_left
   ·
    rw [if_neg c2] at H
    have c2b0 := decide_eq_false c2
    have c2b1 : decide (0 < m) = false := decide_eq_false (by omega)
    have HE := jA.mk (Option.some.inj H)
    clear c2 H hm
    go_wp2
    go_ret
    refine ⟨?_, ?_, rfl⟩
    ·
     rw [← HE.out, HL.out]; rfl
    rw [← HE.out, HL.out]
   rw [if_pos c2] at H
   have c2b0 := decide_eq_true c2
   have c2b1 : decide (0 < m) = true := decide_eq_true (by omega)
   have hmb : (m : Int) ≤ 9223372036854775807 := by have := HR0.out.2.1; omega
   obtain ⟨ji3, hji3⟩ : ∃ j_ : Int, (wrap64 ((m : Int) - 1)) = j_ := ⟨_, rfl⟩
   rw [hji3] at H
   have hjm : ji3 = (m : Int) - 1 := by rw [← hji3]; unfold wrap64; omega
   have hji3w : (IntKind.i64.wrap ((m : Int) - 1)) = ji3 := (vF _).trans hji3
   rw [if_pos (by omega), if_pos (by omega)] at H
   have hrd : rd (l0.take m) ji3 = rd l0 ji3 := by
    unfold rd
    rw [List.getD_eq_getElem?_getD, List.getD_eq_getElem?_getD, List.getElem?_take_of_lt (by omega)]
   rw [hrd] at H
   have p103 : 0 ≤ ji3 := by omega
   have q103 : ji3 < (m : Int) := by omega
   obtain ⟨ad103, e103, hx103_0⟩ := Kd.vS HR0.out ji3 p103 (by omega)
   cases e103
   have HJ := jA.mk hjm
   clear hjm hrd hm c2
   by_cases c6 : (rd l0 ji3) = 0
   ·
    rw [if_pos c6, if_pos (by omega)] at H
    have c6b0 := beq_iff_eq.mpr c6
    have c6b1 := bne_eq_false_iff_eq.mpr c6
    clear c6
    obtain ⟨i010, hi010, _, hsz10, _⟩ := info_parts jAL
    have hcut10 := jLE (P := Tryz.prog) 30 56 .i64 Tryz.underlying30 hi010 (some ad103) m c0 ji3 p103 (by omega) (by have := HM.out; have := HC0.out; omega)
    have H' := jA.mk (show jJ.l0 k1 (l0.take ji3.toNat) = some r from by rw [List.take_take, Nat.min_eq_left (by omega)] at H; exact H)
    clear H hi010 hsz10 hmb
    replace p103 := eq_true p103
    replace q103 := eq_true q103
    go_wp2
    go_roundg k1
    case measure => omega
    case rel => exact ⟨ji3.toNat, rfl, by have := HJ.out; have := HM.out; omega, H', rfl⟩
   rw [if_neg c6] at H
   have c6b0 := beq_eq_false_iff_ne.mpr c6
   have c6b1 := bne_iff_ne.mpr c6
   have HE := jA.mk (Option.some.inj H)
   clear H hmb
   replace p103 := eq_true p103
   replace q103 := eq_true q103
   go_wp2
   go_ret
   refine ⟨?_, ?_, rfl⟩
   ·
    rw [← HE.out, HL.out]; rfl
   rw [← HE.out, HL.out]
def vC.f (k : Nat) (l0 : List Int) : Option (List Int) := (jJ.f k l0).bind fun t118 => ((jT.f t118).bind fun t121 => (some t121))
theorem vC.mono : ∀ a0 k, LeO (vC.f k a0) (vC.f (k + 1) a0) := by
 intro a0 k
 unfold vC.f
 repeat' first
   | (with_reducible exact jJ.mono _ _)
   | (with_reducible exact LeO.refl _)
   | (with_reducible exact LeO.none _)
   | (with_reducible refine LeO.ite ?_ ?_)
   | (with_reducible refine LeO.bind ?_ (fun _ => ?_))
theorem vC.calls (k : Nat) (A0 : Option Addr) (c0 : Nat) (l0 : List Int) (r : List Int) (w : World) (hr0 : Kd.C (Kd.int .u64) w A0 l0.length l0) (hc0 : l0.length ≤ c0) (h : vC.f k l0 = some r) :
  Calls Tryz.prog 127 #[.slice A0 l0.length c0] w fun e w' => ∃ v0_ : Value, e = .returned (v0_) ∧ Kd.R (Kd.int .u64) 56 w' w.heap.size (fun _ => True) v0_ r ∧ Below w.heap.size w w' := by
 have HR0 := jA.mk hr0
 have HC0 := jA.mk hc0
 clear hr0 hc0
 have HB := jA.mk (Below.refl w.heap.size w)
 have H : ((jJ.f k l0).bind fun t118 => ((jT.f t118).bind fun t121 => (some t121))) = some r := h
 clear h
 obtain ⟨t118, A2, H⟩ := oc_ H
 try dsimp only at H
 replace H := ob_ H
 obtain ⟨t121, A30, H⟩ := H
 replace H : (some t121) = some r := H
 have A3 := jA.mk A30
 clear A30
 obtain rfl := Option.some.inj H
 go_enter Tryz.func127, Tryz.ntmps127
 go_wp2_with (first | ((with_reducible refine jL (f := 136) rfl ?_); refine gl_ (some 4) Tryz.func136 #[.slice A0 l0.length c0] ?_; (with_reducible refine (jJ.calls k (fun k_ => k_ < w.heap.size) _ _ l0 t118 _ ?side1 A2.out).mono ?_); (case side1 => exact Kd.V_mk HC0.out (Kd.zD (Kd.C_F (Kd.vJ .u64) HR0.out) (bb_ HB))); rintro e w4 ⟨v119, rfl, ho0, hb⟩; refine ⟨_, rfl, ?_⟩; have HO120 := jA.mk (Kd.zI (Kd.zF (ok' := fun k_ => True) ho0 (fun k_ hk_ => trivial)) (jE (bb_ HB))); replace HB := bs_ HB hb; obtain ⟨Ao5, co5, rfl⟩ := Kd.vX HO120.out) | ((with_reducible refine jL (f := 135) rfl ?_); refine gl_ (some 5) Tryz.func135 #[.slice Ao5 t118.length co5] ?_; (with_reducible refine (jT.calls _ _ t118 t121 _ ?side1 ?side2 A3.out).mono ?_); (case side1 => repeat (first | exact (Kd.vT HO120.out).2.2 | (with_reducible refine Kd.jAH ?_ _) | (with_reducible refine Kd.jBM ?_ _) | (with_reducible refine Kd.jDF ?_))); (case side2 => exact (Kd.vT HO120.out).2.1); rintro e w6 ⟨v122, rfl, ho0, hb⟩; refine ⟨_, rfl, ?_⟩; replace HO120 := jA.mk (Kd.qx (rV_ HO120) (Kd.qM ho0) hb); have HO123 := jA.mk (Kd.jk ho0 (jE (bb_ HB))); replace HB := bs_ HB hb))
 go_ret
 exact ⟨_, ew_, (rR_ HO123), (bb_ HB)⟩
def jo.l0 : Nat → List Int → List Int → Int → Option (Int)
 | 0, _, _, _ => none
 | k + 1, x0, x1, x5 => if x5 ≥ 0 then (if 0 ≤ x5 then (if x5 < (x0.length : Int) then (if x5 < (x1.length : Int) then (if (rd x0 x5) < (rd x1 x5) then (some (-1)) else (if (rd x0 x5) > (rd x1 x5) then (some 1) else (jo.l0 k x0 x1 (wrap64 (x5 - 1))))) else (none)) else (none)) else (none)) else (some 0)
def jo.f (k : Nat) (l0 : List Int) (l1 : List Int) : Option (Int) := (jJ.f k l0).bind fun t124 => ((jJ.f k l1).bind fun t127 => (if (t124.length : Int) = (t127.length : Int) then (jo.l0 k t124 t127 (wrap64 ((t124.length : Int) - 1))) else (if (t124.length : Int) < (t127.length : Int) then (some (-1)) else (some 1))))
theorem jo.zY : ∀ k, (∀ y0 y1 y2, LeO (jo.l0 k y0 y1 y2) (jo.l0 (k + 1) y0 y1 y2))
 | 0 => fun _ _ _ r h => by simp [jo.l0] at h
 | k + 1 => by
  have ih0 := jo.zY k
  intro y0 y1 y2
  unfold jo.l0
  repeat' first
  | (with_reducible exact ih0 _ _ _)
  | (with_reducible exact jJ.mono _ _)
  | (with_reducible exact LeO.refl _)
  | (with_reducible exact LeO.none _)
  | (with_reducible refine LeO.ite ?_ ?_)
  | (with_reducible refine LeO.bind ?_ (fun _ => ?_))
theorem jo.mono : ∀ a0 a1 k, LeO (jo.f k a0 a1) (jo.f (k + 1) a0 a1) := by
 intro a0 a1 k
 have ih0 := jo.zY k
 unfold jo.f
 repeat' first
   | (with_reducible exact ih0 _ _ _)
   | (with_reducible exact jJ.mono _ _)
   | (with_reducible exact LeO.refl _)
   | (with_reducible exact LeO.none _)
   | (with_reducible refine LeO.ite ?_ ?_)
   | (with_reducible refine LeO.bind ?_ (fun _ => ?_))
theorem jo.calls (k : Nat) (A0 : Option Addr) (c0 : Nat) (l0 : List Int) (A1 : Option Addr) (c1 : Nat) (l1 : List Int) (r : Int) (w : World) (hr0 : Kd.C (Kd.int .u64) w A0 l0.length l0) (hc0 : l0.length ≤ c0) (hr1 : Kd.C (Kd.int .u64) w A1 l1.length l1) (hc1 : l1.length ≤ c1) (h : jo.f k l0 l1 = some r) :
  Calls Tryz.prog 129 #[.slice A0 l0.length c0, .slice A1 l1.length c1] w fun e w' => e = .returned (.int .i64 r) ∧ Below w.heap.size w w' := by
 have HR0 := jA.mk hr0
 have HC0 := jA.mk hc0
 clear hr0 hc0
 have HR1 := jA.mk hr1
 have HC1 := jA.mk hc1
 clear hr1 hc1
 have HB := jA.mk (Below.refl w.heap.size w)
 have H : ((jJ.f k l0).bind fun t124 => ((jJ.f k l1).bind fun t127 => (if (t124.length : Int) = (t127.length : Int) then (jo.l0 k t124 t127 (wrap64 ((t124.length : Int) - 1))) else (if (t124.length : Int) < (t127.length : Int) then (some (-1)) else (some 1))))) = some r := h
 clear h
 obtain ⟨t124, A3, H⟩ := oc_ H
 try dsimp only at H
 obtain ⟨t127, A4, H⟩ := oc_ H
 try dsimp only at H
 by_cases c5 : (t124.length : Int) = (t127.length : Int)
 rotate_left
 ·
  rw [if_neg c5] at H
  have c5b0 := beq_eq_false_iff_ne.mpr c5
  have c5b1 := bne_iff_ne.mpr c5
  have c5b2 : (t124.length == t127.length) = false := by first | simpa using c5 | (simp at c5 ⊢; omega)
  by_cases c16 : (t124.length : Int) < (t127.length : Int)
  ·
   rw [if_pos c16] at H
   have c16b0 := decide_eq_true c16
   have c16b1 : decide (t124.length < t127.length) = true := decide_eq_true (Int.ofNat_lt.mp c16)
   clear c16
   obtain rfl := Option.some.inj H
   go_enter Tryz.func129, Tryz.ntmps129
   go_wp2_with (first | (go_at_call 136; (with_reducible refine (jJ.calls k (fun k_ => k_ < w.heap.size) _ _ l0 t124 _ ?side1 A3.out).mono ?_); (case side1 => exact Kd.V_mk HC0.out (Kd.zD (Kd.C_F (Kd.vJ .u64) HR0.out) (bb_ HB))); rintro e w17 ⟨v125, rfl, ho0, hb⟩; have HO126 := jA.mk (Kd.zI (Kd.zF (ok' := fun k_ => True) ho0 (fun k_ hk_ => trivial)) (jE (bb_ HB))); replace HB := bs_ HB hb) | (go_at_call 136; (with_reducible refine (jJ.calls k (fun k_ => k_ < w.heap.size) _ _ l1 t127 _ ?side1 A4.out).mono ?_); (case side1 => exact Kd.V_mk HC1.out (Kd.zD (Kd.C_F (Kd.vJ .u64) HR1.out) (bb_ HB))); rintro e w18 ⟨v128, rfl, ho0, hb⟩; replace HO126 := jA.mk (Kd.jAG (rV_ HO126) hb); have HO129 := jA.mk (Kd.zI (Kd.zF (ok' := fun k_ => True) ho0 (fun k_ hk_ => trivial)) (jE (bb_ HB))); replace HB := bs_ HB hb; obtain ⟨Ao19, co19, rfl⟩ := Kd.vX HO126.out; obtain ⟨Ao20, co20, rfl⟩ := Kd.vX HO129.out))
   repeat (go_quiet (first | (go_at_call 136; (with_reducible refine (jJ.calls k (fun k_ => k_ < w.heap.size) _ _ l0 t124 _ ?side1 A3.out).mono ?_); (case side1 => exact Kd.V_mk HC0.out (Kd.zD (Kd.C_F (Kd.vJ .u64) HR0.out) (bb_ HB))); rintro e w17 ⟨v125, rfl, ho0, hb⟩; have HO126 := jA.mk (Kd.zI (Kd.zF (ok' := fun k_ => True) ho0 (fun k_ hk_ => trivial)) (jE (bb_ HB))); replace HB := bs_ HB hb) | (go_at_call 136; (with_reducible refine (jJ.calls k (fun k_ => k_ < w.heap.size) _ _ l1 t127 _ ?side1 A4.out).mono ?_); (case side1 => exact Kd.V_mk HC1.out (Kd.zD (Kd.C_F (Kd.vJ .u64) HR1.out) (bb_ HB))); rintro e w18 ⟨v128, rfl, ho0, hb⟩; replace HO126 := jA.mk (Kd.jAG (rV_ HO126) hb); have HO129 := jA.mk (Kd.zI (Kd.zF (ok' := fun k_ => True) ho0 (fun k_ hk_ => trivial)) (jE (bb_ HB))); replace HB := bs_ HB hb; obtain ⟨Ao19, co19, rfl⟩ := Kd.vX HO126.out; obtain ⟨Ao20, co20, rfl⟩ := Kd.vX HO129.out)); try go_wp2_with (first | (go_at_call 136; (with_reducible refine (jJ.calls k (fun k_ => k_ < w.heap.size) _ _ l0 t124 _ ?side1 A3.out).mono ?_); (case side1 => exact Kd.V_mk HC0.out (Kd.zD (Kd.C_F (Kd.vJ .u64) HR0.out) (bb_ HB))); rintro e w17 ⟨v125, rfl, ho0, hb⟩; have HO126 := jA.mk (Kd.zI (Kd.zF (ok' := fun k_ => True) ho0 (fun k_ hk_ => trivial)) (jE (bb_ HB))); replace HB := bs_ HB hb) | (go_at_call 136; (with_reducible refine (jJ.calls k (fun k_ => k_ < w.heap.size) _ _ l1 t127 _ ?side1 A4.out).mono ?_); (case side1 => exact Kd.V_mk HC1.out (Kd.zD (Kd.C_F (Kd.vJ .u64) HR1.out) (bb_ HB))); rintro e w18 ⟨v128, rfl, ho0, hb⟩; replace HO126 := jA.mk (Kd.jAG (rV_ HO126) hb); have HO129 := jA.mk (Kd.zI (Kd.zF (ok' := fun k_ => True) ho0 (fun k_ hk_ => trivial)) (jE (bb_ HB))); replace HB := bs_ HB hb; obtain ⟨Ao19, co19, rfl⟩ := Kd.vX HO126.out; obtain ⟨Ao20, co20, rfl⟩ := Kd.vX HO129.out)))
   go_ret
   exact ⟨ew_, (bb_ HB)⟩
  rw [if_neg c16] at H
  have c16b0 := decide_eq_false c16
  have c16b1 : decide (t124.length < t127.length) = false := decide_eq_false (fun h => c16 (Int.ofNat_lt.mpr h))
  clear c16
  obtain rfl := Option.some.inj H
  go_enter Tryz.func129, Tryz.ntmps129
  go_wp2_with (first | (go_at_call 136; (with_reducible refine (jJ.calls k (fun k_ => k_ < w.heap.size) _ _ l0 t124 _ ?side1 A3.out).mono ?_); (case side1 => exact Kd.V_mk HC0.out (Kd.zD (Kd.C_F (Kd.vJ .u64) HR0.out) (bb_ HB))); rintro e w21 ⟨v125, rfl, ho0, hb⟩; have HO126 := jA.mk (Kd.zI (Kd.zF (ok' := fun k_ => True) ho0 (fun k_ hk_ => trivial)) (jE (bb_ HB))); replace HB := bs_ HB hb) | (go_at_call 136; (with_reducible refine (jJ.calls k (fun k_ => k_ < w.heap.size) _ _ l1 t127 _ ?side1 A4.out).mono ?_); (case side1 => exact Kd.V_mk HC1.out (Kd.zD (Kd.C_F (Kd.vJ .u64) HR1.out) (bb_ HB))); rintro e w22 ⟨v128, rfl, ho0, hb⟩; replace HO126 := jA.mk (Kd.jAG (rV_ HO126) hb); have HO129 := jA.mk (Kd.zI (Kd.zF (ok' := fun k_ => True) ho0 (fun k_ hk_ => trivial)) (jE (bb_ HB))); replace HB := bs_ HB hb; obtain ⟨Ao23, co23, rfl⟩ := Kd.vX HO126.out; obtain ⟨Ao24, co24, rfl⟩ := Kd.vX HO129.out))
  repeat (go_quiet (first | (go_at_call 136; (with_reducible refine (jJ.calls k (fun k_ => k_ < w.heap.size) _ _ l0 t124 _ ?side1 A3.out).mono ?_); (case side1 => exact Kd.V_mk HC0.out (Kd.zD (Kd.C_F (Kd.vJ .u64) HR0.out) (bb_ HB))); rintro e w21 ⟨v125, rfl, ho0, hb⟩; have HO126 := jA.mk (Kd.zI (Kd.zF (ok' := fun k_ => True) ho0 (fun k_ hk_ => trivial)) (jE (bb_ HB))); replace HB := bs_ HB hb) | (go_at_call 136; (with_reducible refine (jJ.calls k (fun k_ => k_ < w.heap.size) _ _ l1 t127 _ ?side1 A4.out).mono ?_); (case side1 => exact Kd.V_mk HC1.out (Kd.zD (Kd.C_F (Kd.vJ .u64) HR1.out) (bb_ HB))); rintro e w22 ⟨v128, rfl, ho0, hb⟩; replace HO126 := jA.mk (Kd.jAG (rV_ HO126) hb); have HO129 := jA.mk (Kd.zI (Kd.zF (ok' := fun k_ => True) ho0 (fun k_ hk_ => trivial)) (jE (bb_ HB))); replace HB := bs_ HB hb; obtain ⟨Ao23, co23, rfl⟩ := Kd.vX HO126.out; obtain ⟨Ao24, co24, rfl⟩ := Kd.vX HO129.out)); try go_wp2_with (first | (go_at_call 136; (with_reducible refine (jJ.calls k (fun k_ => k_ < w.heap.size) _ _ l0 t124 _ ?side1 A3.out).mono ?_); (case side1 => exact Kd.V_mk HC0.out (Kd.zD (Kd.C_F (Kd.vJ .u64) HR0.out) (bb_ HB))); rintro e w21 ⟨v125, rfl, ho0, hb⟩; have HO126 := jA.mk (Kd.zI (Kd.zF (ok' := fun k_ => True) ho0 (fun k_ hk_ => trivial)) (jE (bb_ HB))); replace HB := bs_ HB hb) | (go_at_call 136; (with_reducible refine (jJ.calls k (fun k_ => k_ < w.heap.size) _ _ l1 t127 _ ?side1 A4.out).mono ?_); (case side1 => exact Kd.V_mk HC1.out (Kd.zD (Kd.C_F (Kd.vJ .u64) HR1.out) (bb_ HB))); rintro e w22 ⟨v128, rfl, ho0, hb⟩; replace HO126 := jA.mk (Kd.jAG (rV_ HO126) hb); have HO129 := jA.mk (Kd.zI (Kd.zF (ok' := fun k_ => True) ho0 (fun k_ hk_ => trivial)) (jE (bb_ HB))); replace HB := bs_ HB hb; obtain ⟨Ao23, co23, rfl⟩ := Kd.vX HO126.out; obtain ⟨Ao24, co24, rfl⟩ := Kd.vX HO129.out)))
  go_ret
  exact ⟨ew_, (bb_ HB)⟩
 rw [if_pos c5] at H
 have c5b0 := beq_iff_eq.mpr c5
 have c5b1 := bne_eq_false_iff_eq.mpr c5
 have c5b2 : (t124.length == t127.length) = true := by first | simpa using c5 | (simp at c5 ⊢; omega)
 clear c5
 have H' := jA.mk H
 clear H
 go_enter Tryz.func129, Tryz.ntmps129
 go_wp2_with (first | (go_at_call 136; (with_reducible refine (jJ.calls k (fun k_ => k_ < w.heap.size) _ _ l0 t124 _ ?side1 A3.out).mono ?_); (case side1 => exact Kd.V_mk HC0.out (Kd.zD (Kd.C_F (Kd.vJ .u64) HR0.out) (bb_ HB))); rintro e w6 ⟨v125, rfl, ho0, hb⟩; have HO126 := jA.mk (Kd.zI (Kd.zF (ok' := fun k_ => True) ho0 (fun k_ hk_ => trivial)) (jE (bb_ HB))); replace HB := bs_ HB hb) | (go_at_call 136; (with_reducible refine (jJ.calls k (fun k_ => k_ < w.heap.size) _ _ l1 t127 _ ?side1 A4.out).mono ?_); (case side1 => exact Kd.V_mk HC1.out (Kd.zD (Kd.C_F (Kd.vJ .u64) HR1.out) (bb_ HB))); rintro e w7 ⟨v128, rfl, ho0, hb⟩; replace HO126 := jA.mk (Kd.jAG (rV_ HO126) hb); have HO129 := jA.mk (Kd.zI (Kd.zF (ok' := fun k_ => True) ho0 (fun k_ hk_ => trivial)) (jE (bb_ HB))); replace HB := bs_ HB hb; obtain ⟨Ao8, co8, rfl⟩ := Kd.vX HO126.out; obtain ⟨Ao9, co9, rfl⟩ := Kd.vX HO129.out))
 repeat (go_quiet (first | (go_at_call 136; (with_reducible refine (jJ.calls k (fun k_ => k_ < w.heap.size) _ _ l0 t124 _ ?side1 A3.out).mono ?_); (case side1 => exact Kd.V_mk HC0.out (Kd.zD (Kd.C_F (Kd.vJ .u64) HR0.out) (bb_ HB))); rintro e w6 ⟨v125, rfl, ho0, hb⟩; have HO126 := jA.mk (Kd.zI (Kd.zF (ok' := fun k_ => True) ho0 (fun k_ hk_ => trivial)) (jE (bb_ HB))); replace HB := bs_ HB hb) | (go_at_call 136; (with_reducible refine (jJ.calls k (fun k_ => k_ < w.heap.size) _ _ l1 t127 _ ?side1 A4.out).mono ?_); (case side1 => exact Kd.V_mk HC1.out (Kd.zD (Kd.C_F (Kd.vJ .u64) HR1.out) (bb_ HB))); rintro e w7 ⟨v128, rfl, ho0, hb⟩; replace HO126 := jA.mk (Kd.jAG (rV_ HO126) hb); have HO129 := jA.mk (Kd.zI (Kd.zF (ok' := fun k_ => True) ho0 (fun k_ hk_ => trivial)) (jE (bb_ HB))); replace HB := bs_ HB hb; obtain ⟨Ao8, co8, rfl⟩ := Kd.vX HO126.out; obtain ⟨Ao9, co9, rfl⟩ := Kd.vX HO129.out)); try go_wp2_with (first | (go_at_call 136; (with_reducible refine (jJ.calls k (fun k_ => k_ < w.heap.size) _ _ l0 t124 _ ?side1 A3.out).mono ?_); (case side1 => exact Kd.V_mk HC0.out (Kd.zD (Kd.C_F (Kd.vJ .u64) HR0.out) (bb_ HB))); rintro e w6 ⟨v125, rfl, ho0, hb⟩; have HO126 := jA.mk (Kd.zI (Kd.zF (ok' := fun k_ => True) ho0 (fun k_ hk_ => trivial)) (jE (bb_ HB))); replace HB := bs_ HB hb) | (go_at_call 136; (with_reducible refine (jJ.calls k (fun k_ => k_ < w.heap.size) _ _ l1 t127 _ ?side1 A4.out).mono ?_); (case side1 => exact Kd.V_mk HC1.out (Kd.zD (Kd.C_F (Kd.vJ .u64) HR1.out) (bb_ HB))); rintro e w7 ⟨v128, rfl, ho0, hb⟩; replace HO126 := jA.mk (Kd.jAG (rV_ HO126) hb); have HO129 := jA.mk (Kd.zI (Kd.zF (ok' := fun k_ => True) ho0 (fun k_ hk_ => trivial)) (jE (bb_ HB))); replace HB := bs_ HB hb; obtain ⟨Ao8, co8, rfl⟩ := Kd.vX HO126.out; obtain ⟨Ao9, co9, rfl⟩ := Kd.vX HO129.out)))
 go_loopg [5] k (fun kq v5 w' => ∃ (x5_1 : Int), v5 = .int .i64 x5_1 ∧ jA (jo.l0 kq t124 t127 x5_1 = some r) ∧ jA (kq ≤ k) ∧ jA (Kd.V (Kd.int .u64) 56 w' w.heap.size (fun _ => True) (.slice Ao8 t124.length co8) t124) ∧ jA (Kd.V (Kd.int .u64) 56 w' w.heap.size (fun _ => True) (.slice Ao9 t127.length co9) t127) ∧ jA (Below w.heap.size w w'))
 case atStart => exact ⟨(wrap64 ((t124.length : Int) - 1)), sd_, H', ⟨Nat.le_refl _⟩, ⟨(rV_ HO126)⟩, ⟨(rV_ HO129)⟩, ⟨(bb_ HB)⟩⟩
 case round =>
  clear H'
  try clear c1
  try clear p2
  try clear c5
  try clear c5b0
  try clear c5b1
  try clear c5b2
  try clear p6
  obtain ⟨x5_1, rfl, HA, HK1, HO_0, HO_1, HB⟩ := hrel
  cases gk with
  | zero => exact absurd HA.out (by simp [jo.l0])
  | succ k1 =>
   have H := HA.out
   clear HA
   simp only [jo.l0] at H
   by_cases c10 : x5_1 ≥ 0
   rotate_left
   ·
    rw [if_neg c10] at H
    have c10b0 := decide_eq_false c10
    clear c10
    obtain rfl := Option.some.inj H
    go_wp2
    repeat (go_quiet (fail); try go_wp2)
    go_ret
    exact ⟨ew_, (bb_ HB)⟩
   rw [if_pos c10] at H
   have c10b0 := decide_eq_true c10
   clear c10
   by_cases c11 : 0 ≤ x5_1
   rotate_left
   ·
    rw [if_neg c11] at H
    exact absurd H (by simp)
   rw [if_pos c11] at H
   have c11b0 := decide_eq_true c11
   clear c11
   by_cases c12 : x5_1 < (t124.length : Int)
   rotate_left
   ·
    rw [if_neg c12] at H
    exact absurd H (by simp)
   rw [if_pos c12] at H
   have c12b0 := decide_eq_true c12
   clear c12
   by_cases c13 : x5_1 < (t127.length : Int)
   rotate_left
   ·
    rw [if_neg c13] at H
    exact absurd H (by simp)
   rw [if_pos c13] at H
   have c13b0 := decide_eq_true c13
   clear c13
   by_cases c14 : (rd t124 x5_1) < (rd t127 x5_1)
   ·
    rw [if_pos c14] at H
    have c14b0 := decide_eq_true c14
    clear c14
    obtain rfl := Option.some.inj H
    have p130 : 0 ≤ (x5_1 : Int) := of_decide_eq_true am_
    have q130 : x5_1 < (t124.length : Int) := of_decide_eq_true am_
    obtain ⟨ad130, e130, hx130_0⟩ := Kd.vS (Kd.vT HO_0.out).2.2 x5_1 p130 q130
    cases e130
    replace p130 := eq_true p130
    replace q130 := eq_true q130
    have p131 : 0 ≤ (x5_1 : Int) := of_decide_eq_true am_
    have q131 : x5_1 < (t127.length : Int) := of_decide_eq_true am_
    obtain ⟨ad131, e131, hx131_0⟩ := Kd.vS (Kd.vT HO_1.out).2.2 x5_1 p131 q131
    cases e131
    replace p131 := eq_true p131
    replace q131 := eq_true q131
    go_wp2
    repeat (go_quiet (fail); try go_wp2)
    go_ret
    exact ⟨ew_, (bb_ HB)⟩
   rw [if_neg c14] at H
   have c14b0 := decide_eq_false c14
   clear c14
   by_cases c15 : (rd t124 x5_1) > (rd t127 x5_1)
   ·
    rw [if_pos c15] at H
    have c15b0 := decide_eq_true c15
    clear c15
    obtain rfl := Option.some.inj H
    have p130 : 0 ≤ (x5_1 : Int) := of_decide_eq_true am_
    have q130 : x5_1 < (t124.length : Int) := of_decide_eq_true am_
    obtain ⟨ad130, e130, hx130_0⟩ := Kd.vS (Kd.vT HO_0.out).2.2 x5_1 p130 q130
    cases e130
    replace p130 := eq_true p130
    replace q130 := eq_true q130
    have p131 : 0 ≤ (x5_1 : Int) := of_decide_eq_true am_
    have q131 : x5_1 < (t127.length : Int) := of_decide_eq_true am_
    obtain ⟨ad131, e131, hx131_0⟩ := Kd.vS (Kd.vT HO_1.out).2.2 x5_1 p131 q131
    cases e131
    replace p131 := eq_true p131
    replace q131 := eq_true q131
    have p132 : 0 ≤ (x5_1 : Int) := of_decide_eq_true am_
    have q132 : x5_1 < (t124.length : Int) := of_decide_eq_true am_
    obtain ⟨ad132, e132, hx132_0⟩ := Kd.vS (Kd.vT HO_0.out).2.2 x5_1 p132 q132
    obtain rfl : ad130 = ad132 := (by injection e132)
    replace p132 := eq_true p132
    replace q132 := eq_true q132
    have p133 : 0 ≤ (x5_1 : Int) := of_decide_eq_true am_
    have q133 : x5_1 < (t127.length : Int) := of_decide_eq_true am_
    obtain ⟨ad133, e133, hx133_0⟩ := Kd.vS (Kd.vT HO_1.out).2.2 x5_1 p133 q133
    obtain rfl : ad131 = ad133 := (by injection e133)
    replace p133 := eq_true p133
    replace q133 := eq_true q133
    go_wp2
    repeat (go_quiet (fail); try go_wp2)
    go_ret
    exact ⟨ew_, (bb_ HB)⟩
   rw [if_neg c15] at H
   have c15b0 := decide_eq_false c15
   clear c15
   have H' := jA.mk H
   clear H
   have p130 : 0 ≤ (x5_1 : Int) := of_decide_eq_true am_
   have q130 : x5_1 < (t124.length : Int) := of_decide_eq_true am_
   obtain ⟨ad130, e130, hx130_0⟩ := Kd.vS (Kd.vT HO_0.out).2.2 x5_1 p130 q130
   cases e130
   replace p130 := eq_true p130
   replace q130 := eq_true q130
   have p131 : 0 ≤ (x5_1 : Int) := of_decide_eq_true am_
   have q131 : x5_1 < (t127.length : Int) := of_decide_eq_true am_
   obtain ⟨ad131, e131, hx131_0⟩ := Kd.vS (Kd.vT HO_1.out).2.2 x5_1 p131 q131
   cases e131
   replace p131 := eq_true p131
   replace q131 := eq_true q131
   have p132 : 0 ≤ (x5_1 : Int) := of_decide_eq_true am_
   have q132 : x5_1 < (t124.length : Int) := of_decide_eq_true am_
   obtain ⟨ad132, e132, hx132_0⟩ := Kd.vS (Kd.vT HO_0.out).2.2 x5_1 p132 q132
   obtain rfl : ad130 = ad132 := (by injection e132)
   replace p132 := eq_true p132
   replace q132 := eq_true q132
   have p133 : 0 ≤ (x5_1 : Int) := of_decide_eq_true am_
   have q133 : x5_1 < (t127.length : Int) := of_decide_eq_true am_
   obtain ⟨ad133, e133, hx133_0⟩ := Kd.vS (Kd.vT HO_1.out).2.2 x5_1 p133 q133
   obtain rfl : ad131 = ad133 := (by injection e133)
   replace p133 := eq_true p133
   replace q133 := eq_true q133
   go_wp2
   repeat (go_quiet (fail); try go_wp2)
   go_roundg k1
   case measure => have := HK1.out; omega
   case rel => exact ⟨(wrap64 (x5_1 - 1)), sd_, H', ⟨by have := HK1.out; omega⟩, ⟨(rV_ HO_0)⟩, ⟨(rV_ HO_1)⟩, ⟨(bb_ HB)⟩⟩
def bits_LeadingZeros64.f (a0 : Int) : Option (Int) := (bits_Len64.f a0).bind fun t134 => (some (wrap64 (64 - t134)))
theorem bits_LeadingZeros64.calls (a0 : Int) (r : Int) (w : World) (h : bits_LeadingZeros64.f a0 = some r) :
  Calls Tryz.prog 139 #[.int .u64 a0] w fun e w' => e = .returned (.int .i64 r) ∧ Below w.heap.size w w' := by
 have HB := jA.mk (Below.refl w.heap.size w)
 have H : ((bits_Len64.f a0).bind fun t134 => (some (wrap64 (64 - t134)))) = some r := h
 clear h
 obtain ⟨t134, A2, H⟩ := oc_ H
 try dsimp only at H
 obtain rfl := Option.some.inj H
 go_enter Tryz.func139, Tryz.ntmps139
 go_wp2_with (first | ((with_reducible refine jL (f := 86) rfl ?_); refine gl_ (some 4) Tryz.func86 #[.int .u64 a0] ?_; (with_reducible refine (bits_Len64.calls a0 t134 _ A2.out).mono ?_); rintro e w3 ⟨rfl, hb⟩; refine ⟨_, rfl, ?_⟩; replace HB := bs_ HB hb))
 go_ret
 exact ⟨ew_, (bb_ HB)⟩
end Go.Proofs.YtoganbmeedimiaaGreat.POPressOne
