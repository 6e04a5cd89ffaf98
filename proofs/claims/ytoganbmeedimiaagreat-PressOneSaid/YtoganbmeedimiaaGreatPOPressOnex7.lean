-- printed (pr.py)
import Derived.Test.YtoganbmeedimiaaGreatPOPressOnex3
import Derived.Test.YtoganbmeedimiaaGreatPOPressOnex5
import Derived.Test.YtoganbmeedimiaaGreatPOPressOnex6
namespace Go.Proofs.YtoganbmeedimiaaGreat.POPressOne
open Go.RowKit Go.Proofs.YtoganbmeedimiaaGreatN Go.Proofs.YtoganbmeedimiaaGreatW.PrintWords Go.Proofs.YtoganbmeedimiaaGreatW.PrintLast Go.Proofs.YtoganbmeedimiaaGreatW.PrintMore
attribute [local go_sem] zV zR qA zy vZ vY zU zQ
set_option maxHeartbeats 8000000
set_option maxRecDepth 100000
set_option linter.unusedVariables false
set_option linter.unusedSimpArgs false
theorem jFJ {P : Program} {ops : Array Oper} {o : Oper} {a : Act} {w : World} {K : Act → World → Prop} {Q : Exit → Act → World → Prop} {E : Prop} (hw : Region.wanted o (yielded ops a.tmps) = true) (d s : Operand) (dT sT : TypeId)
  (ho : o.op = .call { callee := .builtin .copy, args := #[d, s], argTypes := #[dT, sT] }) (elem : TypeId) (hu : P.underlying dT = some (.slice elem)) (hsz : (P.info? elem).map (·.size) = some 1)
  (g off dLen dCap : Nat) (ad : Addr) (sLen sCap : Nat) (hd : a.eval d = .slice (some ⟨g, off, none⟩) dLen dCap) (hs : a.eval s = .slice (some ad) sLen sCap)
  (cur : List Value) (t : TypeId) (hg : w.heap[g]? = some (.cells cur.toArray t (0, 0))) (cs : List Value) (hn : cs.length = Nat.min sLen dLen)
  (hsrc : ∀ j v, cs[j]? = some v → w.cell? (ad.add j) = some v) (hfit : off + cs.length ≤ cur.length) (h1 : ∀ v ∈ cs, v.oneCell' = true)
  (h : K (a.put o.dst (goInt cs.length)) (w.setRow g (splice cur off cs).toArray)) : if Region.wanted o (yielded ops a.tmps) = true then Oper.wp P o a w K Q else E := by
 rw [if_pos hw]
 have hrun := run_copy_row (P := P) w dT sT o.type elem g off dLen dCap ad sLen sCap cur.toArray t cs hu hsz hg hn hsrc (by simpa using hfit) h1
 unfold Oper.wp
 simp [execOp, ho, resolve, invoke, builtin, hd, hs, hrun, Result.andThen]
 exact h
theorem jOu (g i j : Nat) : (⟨g, i, none⟩ : Addr).add j = ⟨g, i + j, none⟩ := by unfold Addr.add; split <;> simp_all
theorem jGe {w : World} {g : Nat} (cs : Array Value) : w.grownBy (w.setRow g cs) (some g) := ⟨rfl, rfl, rfl, by simp [World.setRow], fun k _ hne => setRow_other w g k cs (fun e => hne (by rw [e]))⟩
theorem jQA (w : World) (q : Int) : Kd.C (Kd.int .u64) (w.alloc (.cells #[.int .u64 q] 56)) (some ⟨w.heap.size, 0, none⟩) [q].length [q] := (Kd.jW (Kd.jDO (ok := fun _ => True) (jOH w w.heap.size 56 .u64 [q] (Nat.le_refl _) (by simp)) (fun _ _ => trivial))).2.2
theorem jGO {w : World} {ad : Addr} {l : List Int} (h : Kd.C (Kd.int .u64) w (some ad) l.length l) : ∀ j v, (l.map (Value.int .u64))[j]? = some v → w.cell? (ad.add j) = some v := by
 intro j v hj
 rw [List.getElem?_map] at hj
 obtain ⟨x, hx, rfl⟩ := Option.map_eq_some_iff.1 hj
 have hlt := (List.getElem?_eq_some_iff.1 hx).1
 obtain ⟨ad', e, hc⟩ := Kd.vS h (j : Int) (by omega) (by omega)
 cases e
 rw [Int.toNat_natCast] at hc
 rw [hc, rd, Int.toNat_natCast, List.getD_eq_getElem?_getD, hx]
 rfl
theorem jMA {w : World} {base e g n cap i : Nat} {ok : Nat → Prop} {k : IntKind} {xs : List Int} (h : Kd.R (Kd.int k) e w base ok (.slice (some ⟨g, 0, none⟩) n cap) xs) :
  ∃ cur : List Value, w.heap[g]? = some (.cells cur.toArray e (0, 0)) ∧ n ≤ cur.length ∧ ∀ (w' : World) (ys : List Int), i + ys.length ≤ n → w'.heap[g]? = some (.cells (splice cur i (ys.map (Value.int k))).toArray e (0, 0)) → Kd.R (Kd.int k) e w' base ok (.slice (some ⟨g, 0, none⟩) n cap) (splice xs i ys) := by
 obtain ⟨rfl, hn, _⟩ := Kd.jW h
 have ho := Kd.jAW h
 obtain ⟨h1, h2⟩ := ho
 rcases h2 with ⟨h3, _⟩ | ⟨g', cap', cur, h3, hb, hh, hnc, hcm, hsz, htk⟩
 ·
  cases h3
 injection h3 with h4 h5 h6
 injection h4 with h4
 injection h4 with h4
 subst h4
 subst h6
 have hlz : cur.toList.length = cur.size := Array.length_toList
 have hlc : xs.length ≤ cur.toList.length := by omega
 refine ⟨cur.toList, by simpa using hh, hlc, fun w' ys hi hc => ?_⟩
 have hsl : (splice xs i ys).length = xs.length := length_splice xs i ys hi
 have hlm : (ys.map (Value.int k)).length = ys.length := List.length_map _
 have hcl : (splice cur.toList i (ys.map (Value.int k))).length = cur.toList.length := length_splice _ _ _ (by rw [hlm]; omega)
 have hR := Kd.jDO (w := w') (base := base) (e := e) (ok := ok) (enc := Value.int k) (h1 := fun _ => rfl) (v := .slice (some ⟨g, 0, none⟩) xs.length cap) (xs := splice xs i ys) ?_ h.1
 ·
  exact hR
 refine ⟨by simp [encs], .inr ⟨g, cap, _, by rw [hsl], hb, hc, by rw [hsl]; exact hnc, hcm, ?_, ?_⟩⟩
 ·
  rw [List.size_toArray, hcl, hlz]; exact hsz
 rw [Nat.mul_one, hsl]
 have htk' : cur.toList.take xs.length = xs.map (Value.int k) := by rw [Nat.mul_one] at htk; exact htk
 show (splice cur.toList i (ys.map (Value.int k))).take xs.length = (splice xs i ys).map (Value.int k)
 unfold splice
 rw [List.map_append, List.map_append, List.map_take, List.map_drop, ← htk', hlm]
 rw [List.take_append, List.take_append, List.take_take, List.take_take, List.length_take, hlm, List.drop_take]
 rw [Nat.min_eq_left (by omega : i ≤ cur.toList.length), Nat.min_eq_right (by omega : i ≤ xs.length), Nat.min_eq_left (by omega : i ≤ xs.length), List.take_of_length_le (l := ys.map (Value.int k)) (by rw [hlm]; omega)]
 congr 3
 omega
theorem jHW {w W W' : World} {ga : Nat} (h : Below w.heap.size w W) (hg : W.grownBy W' (some ga)) (hb : w.heap.size ≤ ga) : Below w.heap.size w W' := h.grown hg (jE h) (fun k hk => by injection hk with hk; omega)
theorem jS.jKi (k gv gq gu ga i c1 cu : Nat) (A1 : Option Addr) (v u r x : List Int) (q : Int) (w : World) (hv : w.heap[gv]? = some (.cells #[.slice A1 v.length c1] 30 (0, 0))) (hq : w.heap[gq]? = some (.cells #[.int .u64 q] 56 (0, 0))) (hu : w.heap[gu]? = some (.cells #[.slice (some ⟨ga, i, none⟩) u.length cu] 30 (0, 0))) (hV : Kd.C (Kd.int .u64) w A1 v.length v) (hvc : v.length ≤ c1) (hU : Kd.C (Kd.int .u64) w (some ⟨ga, i, none⟩) u.length u) (huc : u.length ≤ cu) (hm : jZ.f k v [q] = some r) (hs : jr.f k u r = some (x, false)) :
  Calls Tryz.prog 143 #[.pointer (some ⟨gv, 0, none⟩), .pointer (some ⟨gq, 0, none⟩), .pointer (some ⟨gu, 0, none⟩)] w fun e w' => e = .returned (.bool false) ∧ Below w.heap.size w w' := by
 have HU := jA.mk hu
 have HV := jA.mk hV
 have HM := jA.mk hm
 have HS := jA.mk hs
 have HUW := jA.mk hU
 have HVC := jA.mk hvc
 have HUC := jA.mk huc
 have hcv : w.cell? ⟨gv, 0, none⟩ = some (.slice A1 v.length c1) := (jB hv 0).trans rfl
 have hcq : w.cell? ⟨gq, 0, none⟩ = some (.int .u64 q) := (jB hq 0).trans rfl
 clear hv hq hu hV hm hs hU hvc huc
 go_enter Tryz.func143, Tryz.ntmps143
 go_wp2_with fail
 refine (jZ.calls k _ _ v _ _ [q] r _ (Kd.jAH HV.out _) HVC.out (jQA w q) (Nat.le_refl _) HM.out).mono ?_
 rintro e w1 ⟨vr, rfl, ho, hb⟩
 obtain ⟨Ar, cr, er⟩ := Kd.vE ho
 subst er
 have HB1 := jA.mk (jG (jQ (Below.refl _ w) _) hb)
 have HR := jA.mk ho
 have HU1 := jA.mk (jN HU.out HB1.out)
 have hcu : w1.cell? ⟨gu, 0, none⟩ = some (.slice (some ⟨ga, i, none⟩) u.length cu) := (jB HU1.out 0).trans rfl
 clear ho hb hcv hcq
 go_wp2_with fail
 refine (jr.calls k _ _ u _ _ r x false w1 (Kd.vQ HUW.out HB1.out) HUC.out (Kd.jW HR.out).2.2 (Kd.jW HR.out).2.1 HS.out).mono ?_
 rintro e w2 ⟨vx, rfl, ho, hb⟩
 obtain ⟨Ax, cx, ex⟩ := Kd.vE ho
 subst ex
 have HX := jA.mk ho
 have HB2 := jA.mk (jG HB1.out hb)
 have HU2 := jA.mk (jN HU1.out hb)
 have HW1 := jA.mk (jE HB1.out)
 clear ho hb hcu
 go_wp2
 go_ret
 exact ⟨rfl, HB2.out⟩
theorem jS.jIZ (k gv gq gu ga i c1 cu : Nat) (A1 : Option Addr) (v u r x : List Int) (q : Int) (cur : List Value) (w : World) (hv : w.heap[gv]? = some (.cells #[.slice A1 v.length c1] 30 (0, 0))) (hq : w.heap[gq]? = some (.cells #[.int .u64 q] 56 (0, 0))) (hu : w.heap[gu]? = some (.cells #[.slice (some ⟨ga, i, none⟩) u.length cu] 30 (0, 0))) (hV : Kd.C (Kd.int .u64) w A1 v.length v) (hvc : v.length ≤ c1) (hU : Kd.C (Kd.int .u64) w (some ⟨ga, i, none⟩) u.length u) (huc : u.length ≤ cu) (hA : w.heap[ga]? = some (.cells cur.toArray 56 (0, 0))) (hfit : i + u.length ≤ cur.length) (hlen : x.length ≤ u.length) (hul : u.length < 17592186044416) (hu0 : 0 < u.length) (hm : jZ.f k v [q] = some r) (hs : jr.f k u r = some (x, true)) :
  Calls Tryz.prog 143 #[.pointer (some ⟨gv, 0, none⟩), .pointer (some ⟨gq, 0, none⟩), .pointer (some ⟨gu, 0, none⟩)] w fun e w' => e = .returned (.bool true) ∧ w.grownBy w' (some ga) ∧ w'.heap[ga]? = some (.cells (splice cur i ((x ++ List.replicate (u.length - x.length) 0).map (Value.int .u64))).toArray 56 (0, 0)) := by
 have HU := jA.mk hu
 have HV := jA.mk hV
 have HM := jA.mk hm
 have HS := jA.mk hs
 have HUW := jA.mk hU
 have HVC := jA.mk hvc
 have HUC := jA.mk huc
 have hcv : w.cell? ⟨gv, 0, none⟩ = some (.slice A1 v.length c1) := (jB hv 0).trans rfl
 have hcq : w.cell? ⟨gq, 0, none⟩ = some (.int .u64 q) := (jB hq 0).trans rfl
 clear hv hq hu hV hm hs hU hvc huc
 have HA := jA.mk hA
 have HF := jA.mk (And.intro hfit (And.intro hlen (And.intro hul hu0)))
 clear hA hfit hu0
 go_enter Tryz.func143, Tryz.ntmps143
 go_wp2_with fail
 refine (jZ.calls k _ _ v _ _ [q] r _ (Kd.jAH HV.out _) HVC.out (jQA w q) (Nat.le_refl _) HM.out).mono ?_
 rintro e w1 ⟨vr, rfl, ho, hb⟩
 obtain ⟨Ar, cr, er⟩ := Kd.vE ho
 subst er
 have HB1 := jA.mk (jG (jQ (Below.refl _ w) _) hb)
 have HR := jA.mk ho
 have HU1 := jA.mk (jN HU.out HB1.out)
 have hcu : w1.cell? ⟨gu, 0, none⟩ = some (.slice (some ⟨ga, i, none⟩) u.length cu) := (jB HU1.out 0).trans rfl
 clear ho hb hcv hcq
 go_wp2_with fail
 refine (jr.calls k _ _ u _ _ r x true w1 (Kd.vQ HUW.out HB1.out) HUC.out (Kd.jW HR.out).2.2 (Kd.jW HR.out).2.1 HS.out).mono ?_
 rintro e w2 ⟨vx, rfl, ho, hb⟩
 obtain ⟨Ax, cx, ex⟩ := Kd.vE ho
 subst ex
 have HX := jA.mk ho
 have HB2 := jA.mk (jG HB1.out hb)
 have HU2 := jA.mk (jN HU1.out hb)
 have HW1 := jA.mk (jE HB1.out)
 clear ho hb hcu
 have HSUB := jA.mk (show wrap64 ((u.length : Int) - (x.length : Int)) = ((u.length - x.length : Nat) : Int) from by unfold wrap64; omega)
 clear hlen hul
 go_wp2_with fail
 have HX3 := jA.mk (Kd.qL HX.out)
 have HB3 := jA.mk (jv HB2.out)
 have HA3 := jA.mk (jI (jN HA.out HB2.out))
 refine zw (n := 9) (S := fun w' => w'.heap[gu]? = some (.cells #[.slice (some ⟨ga, i, none⟩) u.length cu] 30 (0, 0))) (ds := [8]) #[false, false, false, false, false, false, false, false, false] kr_ rfl rfl (jI HU2.out) (fun hHeld => ?_)
 generalize w2.drew = w3 at HX3 HB3 HA3 hHeld ⊢
 refine jBx (i := 0) (N := some 18) (v := ?_) (a' := ?_) (ba_ 9 1) rfl rfl kr_ (fun _ _ _ h => h) (Or.inl ⟨by rfl, ?_⟩) hHeld ?_ ?_
 rotate_left
 ·
  rintro w' s0_
  have hc := (jB s0_ 0).trans (show _ = some (.slice (some ⟨ga, i, none⟩) u.length cu) from rfl)
  go_simp
  with_reducible rfl
 rotate_left
 ·
  simp only [Act.put, ss_, vF, vN]
  rfl
 refine pu_ 1 (some 19) (ba_ 9 3) kr_ ?_
 refine jBx (i := 2) (N := some 20) (v := ?_) (a' := ?_) (ba_ 9 7) rfl rfl kr_ (fun _ _ _ h => h) (Or.inl ⟨by rfl, ?_⟩) hHeld ?_ ?_
 rotate_left
 ·
  rintro w' s0_
  have hc := (jB s0_ 0).trans (show _ = some (.slice (some ⟨ga, i, none⟩) u.length cu) from rfl)
  go_simp
  with_reducible rfl
 rotate_left
 ·
  simp only [Act.put, ss_, vF, vN]
  rfl
 refine pu_ 3 (some 21) (ba_ 9 15) kr_ ?_
 refine pu_ 4 (some 22) (ba_ 9 31) kr_ ?_
 refine pu_ 5 (some 23) (ba_ 9 63) kr_ ?_
 refine pu_ 6 (some 24) (ba_ 9 127) kr_ ?_
 rw [HSUB.out]
 refine one_ (i := 7) (N := some 25) (ba_ 9 255) rfl rfl kr_ (by decide) (fun K hK => ?_)
 refine Kd.jCJ (Kd.int .u64) (w0 := w) w.heap.size (by rfl) (.tmp 19) (.tmp 24) 30 3 56 (.int .u64 0) 8 rfl Tryz.underlying30 Tryz.underlying3 jAL rfl (by decide) (by omega) (.slice Ax x.length cx) x 0 ((u.length - x.length : Nat) : Int) (fun _ => True) rfl rfl ?zz (fun _ _ => trivial) ?zO (by omega) ?zB ?zS ?zL ?_
 case zz => exact rfl
 case zO => exact Kd.jk HX3.out HW1.out
 case zB => exact HB3.out
 case zS => exact jE HB3.out
 case zL => have := HF.out; rw [Int.toNat_natCast]; omega
 intro v7 w7 ho hb hg hat
 clear hat
 rw [Int.toNat_natCast] at ho
 obtain ⟨y, hy⟩ : ∃ y, y = x ++ List.replicate (u.length - x.length) 0 := ⟨_, rfl⟩
 rw [← hy] at ho
 have hyl : y.length = u.length := by have := HF.out; rw [hy, List.length_append, List.length_replicate]; omega
 obtain ⟨gz, cz, ez, _, _, _⟩ := Kd.jAg ho (by have := HF.out; omega)
 subst ez
 have hbk := Kd.qM HX3.out
 have hW1 := HW1.out
 have hlu := qG HU.out
 have hla := qG HA.out
 have hU7 := jAy hHeld hg (fun e_ => by have h1 := hbk gu e_.symm; omega)
 have HA7 := jA.mk (jAy HA3.out hg (fun e_ => by have h1 := hbk ga e_.symm; omega))
 have HY := jA.mk (And.intro hy hyl)
 have HR7 := jA.mk ho
 have HB7 := jA.mk hb
 clear ho hb hg hbk hW1 hlu hla hy hyl
 refine hK.out _ _ hU7 (fun hHeld => ?_)
 clear hK K
 clear hHeld HSUB
 refine ns_ 25 ?_
 refine jAh (i := 8) (N := some 26) (ba_ 9 511) rfl rfl kr_ (by decide) (fun K hK => ?_)
 refine jFJ (by rfl) (.tmp 18) (.tmp 25) 30 30 rfl 56 Tryz.underlying30 kr_ ga i u.length cu ⟨gz, 0, none⟩ y.length cz rfl rfl cur 56 HA7.out (y.map (Value.int .u64)) ?cn (jGO (Kd.jW HR7.out).2.2) ?cf ?c1 ?_
 case cn => rw [List.length_map, HY.out.2]; exact (Nat.min_self _).symm
 case cf => rw [List.length_map, HY.out.2]; exact HF.out.1
 case c1 => intro v_ hv_; obtain ⟨_, _, rfl⟩ := List.mem_map.1 hv_; rfl
 refine hK.out _ _ ?_
 clear hK K
 refine ns_ 26 ?_
 refine jAR kr_ ?_
 go_wp2
 go_ret
 exact ⟨rfl, World.grownBy.trans (qP HB7.out (some ga)) (jGe _), by rw [← HY.out.1]; exact setRow_heap _ _ _ _ _ _ HA7.out⟩
/-- Guesses of a digit, from q on downwards. -/
def jS.l (v : List Int) : Nat → List Int → Int → Option (Int × List Int)
 | 0, _, _ => none
 | k + 1, u, q => (jZ.f k v [q]).bind fun row => (jr.f k u row).bind fun p => if p.2 = true then (if p.1.length ≤ u.length ∧ u.length < 17592186044416 then some (q, p.1 ++ List.replicate (u.length - p.1.length) 0) else none) else jS.l v k u (IntKind.u64.wrap (q - 1))
def jS.f (k : Nat) (u v : List Int) : Option (Int × List Int) := if 0 < v.length ∧ v.length < u.length then (if u.getD v.length 0 < v.getD (v.length - 1) 0 then (jF.f k (u.getD v.length 0) (u.getD (v.length - 1) 0) (v.getD (v.length - 1) 0)).bind fun p => jS.l v k u p.1 else jS.l v k u 18446744073709551615) else none
theorem jS.zY (v : List Int) : ∀ k u q, LeO (jS.l v k u q) (jS.l v (k + 1) u q)
 | 0, _, _ => fun r h => by simp [jS.l] at h
 | k + 1, u, q => by
  rw [jS.l, jS.l]
  exact LeO.bind (jZ.mono _ _ _) fun _ => LeO.bind (jr.mono _ _ _) fun _ => LeO.ite (LeO.refl _) (jS.zY v k _ _)
theorem jS.len {k : Nat} {u v : List Int} {r : Int × List Int} (h : jS.f k u v = some r) : 0 < v.length ∧ v.length < u.length := by
 unfold jS.f at h
 by_cases hc : 0 < v.length ∧ v.length < u.length
 ·
  exact hc
 rw [if_neg hc] at h; cases h
theorem jS.jOO (v : List Int) : ∀ (k : Nat) (u : List Int) (q : Int) (r : Int × List Int), jS.l v k u q = some r → r.2.length = u.length
 | 0, _, _, _, h => by simp [jS.l] at h
 | k + 1, u, q, r, h => by
  rw [jS.l] at h
  obtain ⟨row, _, h⟩ := Option.bind_eq_some_iff.mp h
  obtain ⟨p, _, h⟩ := Option.bind_eq_some_iff.mp h
  split at h
  rotate_left
  ·
   exact jS.jOO v k u _ r h
  split at h
  rotate_left
  ·
   cases h
  obtain rfl := Option.some.inj h
  rename_i hl
  simp only [List.length_append, List.length_replicate]
  omega
theorem jS.len2 {k : Nat} {u v : List Int} {r : Int × List Int} (h : jS.f k u v = some r) : r.2.length = u.length := by
 unfold jS.f at h
 split at h
 rotate_left
 ·
  cases h
 split at h
 ·
  obtain ⟨p, _, h⟩ := Option.bind_eq_some_iff.mp h
  exact jS.jOO _ _ _ _ _ h
 exact jS.jOO _ _ _ _ _ h
theorem jS.mono : ∀ a0 a1 k, LeO (jS.f k a0 a1) (jS.f (k + 1) a0 a1) := by
 intro a0 a1 k
 unfold jS.f
 exact LeO.ite (LeO.ite (LeO.bind (jF.mono _ _ _ _) fun _ => jS.zY _ _ _ _) (jS.zY _ _ _ _)) (LeO.refl _)
theorem jS.calls (k : Nat) (ga i cu c1 : Nat) (A1 : Option Addr) (u v u' : List Int) (q : Int) (cur : List Value) (w : World) (hU : Kd.C (Kd.int .u64) w (some ⟨ga, i, none⟩) u.length u) (huc : u.length ≤ cu) (hA : w.heap[ga]? = some (.cells cur.toArray 56 (0, 0))) (hfit : i + u.length ≤ cur.length) (hV : Kd.C (Kd.int .u64) w A1 v.length v) (hvc : v.length ≤ c1) (h : jS.f k u v = some (q, u')) :
  Calls Tryz.prog 141 #[.slice (some ⟨ga, i, none⟩) u.length cu, .slice A1 v.length c1] w fun e w' => e = .returned (.int .u64 q) ∧ w.grownBy w' (some ga) ∧ w'.heap[ga]? = some (.cells (splice cur i (u'.map (Value.int .u64))).toArray 56 (0, 0)) := by
 have hl := jS.len h
 have HU := jA.mk hU
 have HUC := jA.mk huc
 have HA := jA.mk hA
 have HF := jA.mk hfit
 have HV := jA.mk hV
 have HVC := jA.mk hvc
 have HL := jA.mk hl
 unfold jS.f at h
 rw [if_pos hl] at h
 have hmu : (u.length : Int) ≤ 9223372036854775807 := by have := hU.2.1; omega
 have hmv : (v.length : Int) ≤ 9223372036854775807 := by have := hV.2.1; omega
 have hw1 : IntKind.i64.wrap ((v.length : Int) - 1) = ((v.length - 1 : Nat) : Int) := by rw [vF]; unfold wrap64; omega
 have hW1 := jA.mk hw1
 obtain ⟨ad, e1, hc0⟩ := Kd.vS hU (v.length : Int) (by omega) (by omega)
 cases e1
 obtain ⟨ad, e1, hc1⟩ := Kd.vS hU ((v.length - 1 : Nat) : Int) (by omega) (by omega)
 cases e1
 obtain ⟨ad1, e1, hc2⟩ := Kd.vS hV ((v.length - 1 : Nat) : Int) (by omega) (by omega)
 cases e1
 rw [Int.toNat_natCast] at hc0 hc1 hc2
 rw [jOu] at hc0 hc1
 have HC0 := jA.mk hc0
 have HC1 := jA.mk hc1
 have HC2 := jA.mk hc2
 have HH := jA.mk h
 obtain ⟨X, hX⟩ : ∃ X : Obj, X = .cells #[.slice (some ⟨ga, i, none⟩) u.length cu] 30 := ⟨_, rfl⟩
 obtain ⟨Y, hY⟩ : ∃ Y : Obj, Y = .cells #[.slice (some ad1) v.length c1] 30 := ⟨_, rfl⟩
 have HX := jO (vD w X) Y
 have HY := vD (w.alloc X) Y
 have HD := jQ (jQ (Below.refl _ w) X) Y
 have HZ := jA.mk (show ((w.alloc X).alloc Y).heap.size = w.heap.size + 2 from by simp)
 simp only [World.size_alloc] at HY
 rw [hX, hY] at HX HY HD HZ
 replace HX := jA.mk HX
 replace HY := jA.mk HY
 replace HD := jA.mk HD
 clear hU huc hA hfit hV hvc h hw1 hc0 hc1 hc2 hX hY
 go_enter Tryz.func141, Tryz.ntmps141
 go_wp2_with fail
 generalize (w.alloc (.cells #[.slice (some ⟨ga, i, none⟩) u.length cu] 30)).alloc (.cells #[.slice (some ad1) v.length c1] 30) = v0 at HX HY HD HZ ⊢
 have hcv : v0.cell? ⟨w.heap.size + 1, 0, none⟩ = some (.slice (some ad1) v.length c1) := (jB HY.out 0).trans rfl
 go_step3
 go_wp2_with fail
 have HQ1 := jA.mk (vD v0 (.cells #[.int .u64 18446744073709551615] 56))
 have HX1 := jA.mk (jO HX.out (.cells #[.int .u64 18446744073709551615] 56))
 have HY1 := jA.mk (jO HY.out (.cells #[.int .u64 18446744073709551615] 56))
 have HD1 := jA.mk (jQ HD.out (.cells #[.int .u64 18446744073709551615] 56))
 generalize v0.alloc (.cells #[.int .u64 18446744073709551615] 56) = v1 at HQ1 HX1 HY1 HD1 ⊢
 rw [HZ.out] at HQ1 ⊢
 clear HX HY HD HZ hcv
 have HL1 := jA.mk (show wrap64 ((v.length : Int) - 1) = ((v.length - 1 : Nat) : Int) from by have := HL.out.1; unfold wrap64; omega)
 obtain ⟨hl0, hl1⟩ := hl
 have hl2 : v.length - 1 < v.length := by omega
 have hl3 : v.length - 1 < u.length := by omega
 have hm0 : v.length ≤ 9223372036854775807 := by omega
 have hm1 : u.length ≤ 9223372036854775807 := by omega
 have c0 : v1.drew.cell? ⟨w.heap.size, 0, none⟩ = some (.slice (some ⟨ga, i, none⟩) u.length cu) := (jB (jI HX1.out) 0).trans rfl
 have c1_ : v1.drew.cell? ⟨w.heap.size + 1, 0, none⟩ = some (.slice (some ad1) v.length c1) := (jB (jI HY1.out) 0).trans rfl
 have c2 : v1.drew.cell? ⟨ga, i + v.length, none⟩ = some (.int .u64 (rd u v.length)) := ((jv HD1.out).cell (World.block_lt_of_cell? w _ HC0.out)).trans HC0.out
 have c3 : v1.drew.cell? (ad1.add (v.length - 1)) = some (.int .u64 (rd v ((v.length - 1 : Nat) : Int))) := ((jv HD1.out).cell (World.block_lt_of_cell? w _ HC2.out)).trans HC2.out
 have KX := jA.mk (jI HX1.out)
 have KY := jA.mk (jI HY1.out)
 have KQ := jA.mk (jI HQ1.out)
 have KD := jA.mk (jv HD1.out)
 have hw64 := HL1.out
 refine wp_region_still_tail 9 kr_ kr_ ?_
 change wpStill Tryz.prog _ v1.drew (fun a' => wpList Tryz.prog _ _ _ a' v1.drew) _ _
 generalize v1.drew = v2 at KX KY KQ KD c0 c1_ c2 c3 ⊢
 clear HX1 HY1 HQ1 HD1
 simp only [List.take_succ_cons, List.take_zero, List.drop_succ_cons, List.drop_zero]
 repeat still_step
 rw [hW1.out]
 repeat still_step
 refine wpStill_nil ?_
 have h := HH.out
 clear HH
 by_cases hc : rd u (v.length : Int) < rd v ((v.length - 1 : Nat) : Int)
 rotate_left
 ·
  rw [if_neg (show ¬ u.getD v.length 0 < v.getD (v.length - 1) 0 from hc)] at h
  have HS0 := jA.mk h
  have hcb := decide_eq_false hc
  clear h hc c0 c1_ c2 c3
  go_wp2_with fail
  go_step3
  go_wp2_with fail
  go_loopg [] k (fun kq wr => ∃ (q1 : Int), jA (jS.l v kq u q1 = some (q, u')) ∧ jA (wr.heap[w.heap.size]? = some (.cells #[.slice (some ⟨ga, i, none⟩) u.length cu] 30 (0, 0))) ∧ jA (wr.heap[w.heap.size + 1]? = some (.cells #[.slice (some ad1) v.length c1] 30 (0, 0))) ∧ jA (wr.heap[w.heap.size + 2]? = some (.cells #[.int .u64 q1] 56 (0, 0))) ∧ jA (Below w.heap.size w wr))
  case atStart => exact ⟨_, HS0, KX, KY, KQ, KD⟩
  case round =>
   clear KX KY KQ KD HS0
   obtain ⟨q1, HS, KX, KY, KQ, KD⟩ := hrel
   cases gk with
   | zero => exact absurd HS.out (by simp [jS.l])
   | succ k1 =>
    have hs := HS.out
    rw [jS.l] at hs
    obtain ⟨row, hm, hs⟩ := Option.bind_eq_some_iff.mp hs
    obtain ⟨⟨x, is⟩, hsub, hs⟩ := Option.bind_eq_some_iff.mp hs
    have HM := jA.mk hm
    have HSU := jA.mk hsub
    clear HS hm hsub
    cases is with
    | false =>
     rw [if_neg (by simp)] at hs
     have HS := jA.mk hs
     clear hs
     go_wp2_with fail
     refine (jS.jKi k1 (w.heap.size + 1) (w.heap.size + 2) w.heap.size ga i c1 cu (some ad1) v u row x q1 _ KY.out KQ.out KX.out (Kd.vQ HV.out KD.out) HVC.out (Kd.vQ HU.out KD.out) HUC.out HM.out HSU.out).mono ?_
     rintro e w4 ⟨rfl, hb⟩
     have n0 := jA.mk (jN KX.out hb)
     have n1 := jA.mk (jN KY.out hb)
     have n2 := jA.mk (jN KQ.out hb)
     have n3 := jA.mk (jG KD.out hb)
     clear KX KY KQ KD hb
     have hcq : w4.cell? ⟨w.heap.size + 2, 0, none⟩ = some (.int .u64 q1) := (jB n2.out 0).trans rfl
     have hfq : w4.frozen? ⟨w.heap.size + 2, 0, none⟩ = false := jP n2.out 0
     go_wp2
     go_roundg k1
     case measure => omega
     case rel => exact ⟨_, HS, ⟨jV n0.out (by simp) _⟩, ⟨jV n1.out (by simp) _⟩, ⟨jM n2.out 0 _ rfl⟩, ⟨vP n3.out (by simp)⟩⟩
    | true =>
     rw [if_pos rfl] at hs
     by_cases hlen : x.length ≤ u.length ∧ u.length < 17592186044416
     rotate_left
     ·
      rw [if_neg hlen] at hs; cases hs
     rw [if_pos hlen] at hs
     simp only [Option.some.injEq, Prod.mk.injEq] at hs
     obtain ⟨rfl, rfl⟩ := hs
     have hga := qG HA.out
     go_wp2_with fail
     refine (jS.jIZ k1 (w.heap.size + 1) (w.heap.size + 2) w.heap.size ga i c1 cu (some ad1) v u row x q1 cur _ KY.out KQ.out KX.out (Kd.vQ HV.out KD.out) HVC.out (Kd.vQ HU.out KD.out) HUC.out (jN HA.out KD.out) HF.out hlen.1 hlen.2 (by omega) HM.out HSU.out).mono ?_
     rintro e w4 ⟨rfl, hg, hb⟩
     have hq4 := (hg.block _ (qG KQ.out) (fun e_ => by injection e_ with e_; omega)).trans KQ.out
     have hcq : w4.cell? ⟨w.heap.size + 2, 0, none⟩ = some (.int .u64 q1) := (jB hq4 0).trans rfl
     have HB4 := jA.mk hb
     have HG4 := jA.mk (World.grownBy.trans (qP KD.out (some ga)) hg)
     clear hb hg hq4
     go_wp2
     rw [Exit.noGoto_ret]
     go_ret
     exact ⟨rfl, HG4.out, HB4.out⟩
 rw [if_pos (show u.getD v.length 0 < v.getD (v.length - 1) 0 from hc)] at h
 obtain ⟨⟨p1, p2⟩, hp, h⟩ := Option.bind_eq_some_iff.mp h
 have HP := jA.mk hp
 have HS0 := jA.mk h
 have hcb := decide_eq_true hc
 clear h hp hc c0 c1_ c2 c3
 go_wp2_with fail
 refine zw (n := 19) (S := fun w' => w'.cell? ⟨w.heap.size, 0, none⟩ = some (.slice (some ⟨ga, i, none⟩) u.length cu) ∧ w'.cell? ⟨w.heap.size + 1, 0, none⟩ = some (.slice (some ad1) v.length c1) ∧ w'.cell? ⟨ga, i + v.length, none⟩ = some (.int .u64 (rd u v.length)) ∧ w'.cell? ⟨ga, i + (v.length - 1), none⟩ = some (.int .u64 (rd u ((v.length - 1 : Nat) : Int))) ∧ w'.cell? (ad1.add (v.length - 1)) = some (.int .u64 (rd v ((v.length - 1 : Nat) : Int)))) (ds := [18]) #[false, false, false, false, false, false, false, false, false, false, false, false, false, false, false, false, false, false, false] kr_ rfl rfl ⟨(jB (jI KX.out) 0).trans rfl, (jB (jI KY.out) 0).trans rfl, ((jv KD.out).cell (World.block_lt_of_cell? w _ HC0.out)).trans HC0.out, ((jv KD.out).cell (World.block_lt_of_cell? w _ HC1.out)).trans HC1.out, ((jv KD.out).cell (World.block_lt_of_cell? w _ HC2.out)).trans HC2.out⟩ (fun hHeld => ?_)
 replace KX := jA.mk (jI KX.out)
 replace KY := jA.mk (jI KY.out)
 replace KQ := jA.mk (jI KQ.out)
 replace KD := jA.mk (jv KD.out)
 generalize v2.drew = v3 at KX KY KQ KD hHeld ⊢
 refine tk5_ 0 (some 21) (ba_ 19 1) kr_ hHeld ?_
 refine pu_ 1 (some 22) (ba_ 19 3) kr_ ?_
 refine pu_ 2 (some 23) (ba_ 19 7) kr_ ?_
 refine tk5_ 3 (some 24) (ba_ 19 15) kr_ hHeld ?_
 refine tk5_ 4 (some 25) (ba_ 19 31) kr_ hHeld ?_
 refine pu_ 5 (some 26) (ba_ 19 63) kr_ ?_
 refine pu_ 6 (some 27) (ba_ 19 127) kr_ ?_
 rw [HL1.out]
 refine pu_ 7 (some 28) (ba_ 19 255) kr_ ?_
 refine tk5_ 8 (some 29) (ba_ 19 511) kr_ hHeld ?_
 refine tk5_ 9 (some 30) (ba_ 19 1023) kr_ hHeld ?_
 refine pu_ 10 (some 31) (ba_ 19 2047) kr_ ?_
 refine pu_ 11 (some 32) (ba_ 19 4095) kr_ ?_
 rw [HL1.out]
 refine pu_ 12 (some 33) (ba_ 19 8191) kr_ ?_
 refine tk5_ 13 (some 34) (ba_ 19 16383) kr_ hHeld ?_
 refine one_ (i := 14) (N := some 35) (ba_ 19 32767) rfl rfl kr_ (by decide) (fun K hK => ?_)
 refine jAX Tryz.func142 kr_ rfl #[.int .u64 (rd u v.length), .int .u64 (rd u ((v.length - 1 : Nat) : Int)), .int .u64 (rd v ((v.length - 1 : Nat) : Int))] (by rfl) rfl rfl (by (try simp only [List.map_toArray, List.map_cons, List.map_nil]); first | done | rfl) ?_
 refine (jF.calls k _ _ _ p1 p2 _ HP.out).mono ?_
 rintro e v4 ⟨rfl, hb⟩
 refine ⟨_, rfl, ?_⟩
 have n0 := jA.mk (jN KX.out hb)
 have n1 := jA.mk (jN KY.out hb)
 have n2 := jA.mk (jN KQ.out hb)
 have n3 := jA.mk (jG KD.out hb)
 clear KX KY KQ KD hb
 have KX := n0
 have KY := n1
 have KQ := n2
 have KD := n3
 clear n0 n1 n2 n3
 refine hK.out _ _ ⟨(jB (KX.out) 0).trans rfl, (jB (KY.out) 0).trans rfl, ((KD.out).cell (World.block_lt_of_cell? w _ HC0.out)).trans HC0.out, ((KD.out).cell (World.block_lt_of_cell? w _ HC1.out)).trans HC1.out, ((KD.out).cell (World.block_lt_of_cell? w _ HC2.out)).trans HC2.out⟩ (fun hHeld => ?_)
 clear hK K
 refine ns_ 35 ?_
 refine pu_ 15 (some 20) (ba_ 19 65535) kr_ ?_
 refine pu_ 16 (some 36) (ba_ 19 131071) kr_ ?_
 refine pu_ 17 (some 37) (ba_ 19 262143) kr_ ?_
 refine jAh (i := 18) (N := none) (ba_ 19 524287) rfl rfl kr_ (by decide) (fun K hK => ?_)
 have hc_ := (jB KQ.out 0).trans (show _ = some (.int .u64 18446744073709551615) from rfl)
 have hf_ := jP KQ.out 0
 refine jAq (w1 := ?_) (by rfl) rfl ?_ ?_
 rotate_left
 ·
  go_simp
  rfl
 refine hK.out _ _ ?_
 clear hK K
 have n0 := jA.mk (jV (p := ⟨w.heap.size + 2, 0, none⟩) KX.out (by simp) (.int .u64 p1))
 have n1 := jA.mk (jV (p := ⟨w.heap.size + 2, 0, none⟩) KY.out (by simp) (.int .u64 p1))
 have n2 := jA.mk (jM (cs' := #[.int .u64 p1]) KQ.out 0 (.int .u64 p1) rfl)
 have n3 := jA.mk (vP (g := w.heap.size + 2) (j := 0) (v := .int .u64 p1) KD.out (by simp))
 generalize v4.setCell ⟨w.heap.size + 2, 0, none⟩ (.int .u64 p1) = v5 at n0 n1 n2 n3 ⊢
 clear hc_ hf_ KX KY KQ KD hHeld
 have KX := n0
 have KY := n1
 have KQ := n2
 have KD := n3
 clear n0 n1 n2 n3
 refine jAR kr_ ?_
 go_wp2_with fail
 go_step3
 go_wp2_with fail
 go_loopg [] k (fun kq wr => ∃ (q1 : Int), jA (jS.l v kq u q1 = some (q, u')) ∧ jA (wr.heap[w.heap.size]? = some (.cells #[.slice (some ⟨ga, i, none⟩) u.length cu] 30 (0, 0))) ∧ jA (wr.heap[w.heap.size + 1]? = some (.cells #[.slice (some ad1) v.length c1] 30 (0, 0))) ∧ jA (wr.heap[w.heap.size + 2]? = some (.cells #[.int .u64 q1] 56 (0, 0))) ∧ jA (Below w.heap.size w wr))
 case atStart => exact ⟨_, HS0, KX, KY, KQ, KD⟩
 case round =>
  clear KX KY KQ KD HS0
  obtain ⟨q1, HS, KX, KY, KQ, KD⟩ := hrel
  cases gk with
  | zero => exact absurd HS.out (by simp [jS.l])
  | succ k1 =>
   have hs := HS.out
   rw [jS.l] at hs
   obtain ⟨row, hm, hs⟩ := Option.bind_eq_some_iff.mp hs
   obtain ⟨⟨x, is⟩, hsub, hs⟩ := Option.bind_eq_some_iff.mp hs
   have HM := jA.mk hm
   have HSU := jA.mk hsub
   clear HS hm hsub
   cases is with
   | false =>
    rw [if_neg (by simp)] at hs
    have HS := jA.mk hs
    clear hs
    go_wp2_with fail
    refine (jS.jKi k1 (w.heap.size + 1) (w.heap.size + 2) w.heap.size ga i c1 cu (some ad1) v u row x q1 _ KY.out KQ.out KX.out (Kd.vQ HV.out KD.out) HVC.out (Kd.vQ HU.out KD.out) HUC.out HM.out HSU.out).mono ?_
    rintro e w4 ⟨rfl, hb⟩
    have n0 := jA.mk (jN KX.out hb)
    have n1 := jA.mk (jN KY.out hb)
    have n2 := jA.mk (jN KQ.out hb)
    have n3 := jA.mk (jG KD.out hb)
    clear KX KY KQ KD hb
    have hcq : w4.cell? ⟨w.heap.size + 2, 0, none⟩ = some (.int .u64 q1) := (jB n2.out 0).trans rfl
    have hfq : w4.frozen? ⟨w.heap.size + 2, 0, none⟩ = false := jP n2.out 0
    go_wp2
    go_roundg k1
    case measure => omega
    case rel => exact ⟨_, HS, ⟨jV n0.out (by simp) _⟩, ⟨jV n1.out (by simp) _⟩, ⟨jM n2.out 0 _ rfl⟩, ⟨vP n3.out (by simp)⟩⟩
   | true =>
    rw [if_pos rfl] at hs
    by_cases hlen : x.length ≤ u.length ∧ u.length < 17592186044416
    rotate_left
    ·
     rw [if_neg hlen] at hs; cases hs
    rw [if_pos hlen] at hs
    simp only [Option.some.injEq, Prod.mk.injEq] at hs
    obtain ⟨rfl, rfl⟩ := hs
    have hga := qG HA.out
    go_wp2_with fail
    refine (jS.jIZ k1 (w.heap.size + 1) (w.heap.size + 2) w.heap.size ga i c1 cu (some ad1) v u row x q1 cur _ KY.out KQ.out KX.out (Kd.vQ HV.out KD.out) HVC.out (Kd.vQ HU.out KD.out) HUC.out (jN HA.out KD.out) HF.out hlen.1 hlen.2 (by omega) HM.out HSU.out).mono ?_
    rintro e w4 ⟨rfl, hg, hb⟩
    have hq4 := (hg.block _ (qG KQ.out) (fun e_ => by injection e_ with e_; omega)).trans KQ.out
    have hcq : w4.cell? ⟨w.heap.size + 2, 0, none⟩ = some (.int .u64 q1) := (jB hq4 0).trans rfl
    have HB4 := jA.mk hb
    have HG4 := jA.mk (World.grownBy.trans (qP KD.out (some ga)) hg)
    clear hb hg hq4
    go_wp2
    rw [Exit.noGoto_ret]
    go_ret
    exact ⟨rfl, HG4.out, HB4.out⟩
end Go.Proofs.YtoganbmeedimiaaGreat.POPressOne
