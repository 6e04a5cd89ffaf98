-- printed (pr.py)
import Derived.Test.YtijgeonhbmgikaaPORatioSignsx0
import Derived.Test.YtijgeonhbmgikaaPORatioSignsx1
import Derived.Test.YtijgeonhbmgikaaPORatioSignsx9
import Derived.Test.YtijgeonhbmgikaaPORatioSignsx10
import Derived.Test.YtijgeonhbmgikaaPORatioSignsx11
import Derived.Test.YtijgeonhbmgikaaPORatioSignsx12
namespace Go.Proofs.Ytijgeonhbmgikaa.PORatioSigns
open Go.RowKit Go.Proofs.YtijgeonhbmgikaaN Go.Proofs.YtijgeonhbmgikaaW.PrintWords Go.Proofs.YtijgeonhbmgikaaW.PrintLast Go.Proofs.YtijgeonhbmgikaaW.PrintMore
attribute [local go_sem] qG qE qg qd zl zk qF qD
set_option maxHeartbeats 8000000
set_option maxRecDepth 100000
set_option linter.unusedVariables false
set_option linter.unusedSimpArgs false

/-! ### syzygylaw05_RatioSigns: function 12 -/
mutual
def syzygylaw05_RatioSigns.j0 : Nat → Int → Int → Bool → List Int → List Int → Bool → List Int → List Int → Bool → List Int → List Int → Option (Bool)
 | 0, _, _, _, _, _, _, _, _, _, _, _ => none
 | k + 1, x0, x6, x468000, x468001, x468002, x476000, x476001, x476002, x484000, x484001, x484002 => if x0 < 0 then (syzygylaw05_RatioSigns.j1 k x0 (-1) x468000 x468001 x468002 x476000 x476001 x476002 x484000 x484001 x484002) else (syzygylaw05_RatioSigns.j1 k x0 x6 x468000 x468001 x468002 x476000 x476001 x476002 x484000 x484001 x484002)
def syzygylaw05_RatioSigns.j1 : Nat → Int → Int → Bool → List Int → List Int → Bool → List Int → List Int → Bool → List Int → List Int → Option (Bool)
 | 0, _, _, _, _, _, _, _, _, _, _, _ => none
 | k + 1, x0, x6, x468000, x468001, x468002, x476000, x476001, x476002, x484000, x484001, x484002 => (vM.f k x468000 x468001 x468002 x484000 x484001 x484002).bind fun t484 => (if t484 = x6 then ((vM.f k x476000 x476001 x476002 x484000 x484001 x484002).bind fun t485 => (if t485 = (wrap64 (-x6)) then ((zJ.f x476000 x476001 x476002).bind fun bt486 => ((zN.f k bt486.1 bt486.2.1 bt486.2.2 x468000 x468001 x468002).bind fun t493 => (if t493 = true then ((jm.f k x468000 x468001 x468002).bind fun t494 => (if t494 = true then ((jm.f k x476000 x476001 x476002).bind fun t495 => (if t495 = true then ((jy.f x468000 x468001 x468002).bind fun t496 => (if (t496 == (x0 == 0)) = true then ((vB.f k x0).bind fun bt497 => ((jQ.f k x468000 x468001 x468002 bt497.1 bt497.2.1 bt497.2.2).bind fun t504 => (if t504 = true then ((je.f k).bind fun t505 => (some t505)) else (some false)))) else (some false))) else (some false))) else (some false))) else (some false)))) else (some false))) else (some false))
end
def syzygylaw05_RatioSigns.f (k : Nat) (a0 : Int) : Option (Bool) := (vV.f a0).bind fun bt460 => ((zJ.f bt460.1 bt460.2.1 bt460.2.2).bind fun bt468 => ((vV.f 0).bind fun bt476 => (if a0 > 0 then (syzygylaw05_RatioSigns.j0 k a0 1 bt460.1 bt460.2.1 bt460.2.2 bt468.1 bt468.2.1 bt468.2.2 bt476.1 bt476.2.1 bt476.2.2) else (syzygylaw05_RatioSigns.j0 k a0 0 bt460.1 bt460.2.1 bt460.2.2 bt468.1 bt468.2.1 bt468.2.2 bt476.1 bt476.2.1 bt476.2.2))))
theorem syzygylaw05_RatioSigns.zF : ∀ k, (∀ y0 y1 y2 y3 y4 y5 y6 y7 y8 y9 y10, LeO (syzygylaw05_RatioSigns.j0 k y0 y1 y2 y3 y4 y5 y6 y7 y8 y9 y10) (syzygylaw05_RatioSigns.j0 (k + 1) y0 y1 y2 y3 y4 y5 y6 y7 y8 y9 y10)) ∧ (∀ y0 y1 y2 y3 y4 y5 y6 y7 y8 y9 y10, LeO (syzygylaw05_RatioSigns.j1 k y0 y1 y2 y3 y4 y5 y6 y7 y8 y9 y10) (syzygylaw05_RatioSigns.j1 (k + 1) y0 y1 y2 y3 y4 y5 y6 y7 y8 y9 y10))
 | 0 => ⟨fun _ _ _ _ _ _ _ _ _ _ _ r h => by simp [syzygylaw05_RatioSigns.j0] at h, fun _ _ _ _ _ _ _ _ _ _ _ r h => by simp [syzygylaw05_RatioSigns.j1] at h⟩
 | k + 1 => by
  obtain ⟨ih0, ih1⟩ := syzygylaw05_RatioSigns.zF k
  refine ⟨?_, ?_⟩ <;> (intros; first | unfold syzygylaw05_RatioSigns.j0 | unfold syzygylaw05_RatioSigns.j1) <;> repeat' first
   | (with_reducible exact ih0 _ _ _ _ _ _ _ _ _ _ _)
   | (with_reducible exact ih1 _ _ _ _ _ _ _ _ _ _ _)
   | (with_reducible exact vM.mono _ _ _ _ _ _ _)
   | (with_reducible exact jm.mono _ _ _ _)
   | (with_reducible exact zN.mono _ _ _ _ _ _ _)
   | (with_reducible exact je.mono _)
   | (with_reducible exact vB.mono _ _)
   | (with_reducible exact jQ.mono _ _ _ _ _ _ _)
   | (with_reducible exact LeO.refl _)
   | (with_reducible exact LeO.none _)
   | (with_reducible refine LeO.ite ?_ ?_)
   | (with_reducible refine LeO.bind ?_ (fun _ => ?_))
theorem syzygylaw05_RatioSigns.mono : ∀ a0 k, LeO (syzygylaw05_RatioSigns.f k a0) (syzygylaw05_RatioSigns.f (k + 1) a0) := by
 intro a0 k
 obtain ⟨ih0, ih1⟩ := syzygylaw05_RatioSigns.zF k
 unfold syzygylaw05_RatioSigns.f
 repeat' first
   | (with_reducible exact ih0 _ _ _ _ _ _ _ _ _ _ _)
   | (with_reducible exact ih1 _ _ _ _ _ _ _ _ _ _ _)
   | (with_reducible exact vM.mono _ _ _ _ _ _ _)
   | (with_reducible exact jm.mono _ _ _ _)
   | (with_reducible exact zN.mono _ _ _ _ _ _ _)
   | (with_reducible exact je.mono _)
   | (with_reducible exact vB.mono _ _)
   | (with_reducible exact jQ.mono _ _ _ _ _ _ _)
   | (with_reducible exact LeO.refl _)
   | (with_reducible exact LeO.none _)
   | (with_reducible refine LeO.ite ?_ ?_)
   | (with_reducible refine LeO.bind ?_ (fun _ => ?_))
def syzygylaw05_RatioSigns.T9 : Bool × List (List Nat × List Nat) := (true, [([], []), ([], []), ([0, 1], [0, 1]), ([], []), ([2, 3], [2, 3]), ([4, 2], [4]), ([5], [5]), ([5], [5]), ([6, 7, 5, 5], [5, 6, 7]), ([5], [5]), ([9, 5], [5, 9]), ([8, 10, 5], [5, 8, 10]), ([5, 11], [5, 11]), ([12, 8], [12]), ([13], [13]), ([14, 13, 13], [13, 14]), ([13], [13]), ([15, 16, 15, 13], [13, 15, 16]), ([13, 17], [13, 17]), ([18, 17], [18]), ([19], [19]), ([20, 19, 19], [19, 20]), ([19, 21], [19, 21]), ([22, 21], [22]), ([23], [23]), ([24, 23, 23], [23, 24]), ([23, 25], [23, 25]), ([26, 25], [26]), ([27], [27]), ([28, 27, 27], [27, 28]), ([27], [27]), ([30, 27], [27, 30]), ([29, 31, 27], [27, 29, 31]), ([27, 32], [27, 32]), ([33, 29], [33]), ([34], [34]), ([34], [34]), ([36, 34, 34], [34, 36]), ([35, 37, 37, 34], [34, 35, 37]), ([34, 38], [34, 38]), ([39, 38], [39]), ([40, 40], [40]), ([40, 41], [40, 41]), ([42, 41, 0, 1, 2, 3, 4, 5, 6, 7, 8, 9, 10, 11, 12, 13, 14, 15, 16, 17, 18, 19, 20, 21, 22, 23, 24, 25, 26, 27, 28, 29, 30, 31, 32, 33, 34, 35, 36, 37, 38, 39, 40, 41, 42], [42])])
def syzygylaw05_RatioSigns.B9 : List Nat := [0, 0, 3, 0, 15, 31, 63, 63, 255, 63, 575, 2047, 4095, 8191, 16383, 32767, 16383, 131071, 262143, 524287, 1048575, 2097151, 4194303, 8388607, 16777215, 33554431, 67108863, 134217727, 268435455, 536870911, 268435455, 1342177279, 4294967295, 8589934591, 17179869183, 34359738367, 34359738367, 103079215103, 274877906943, 549755813887, 1099511627775, 2199023255551, 4398046511103, 8796093022207]
theorem syzygylaw05_RatioSigns.tab9 : rtab .any (opsOf Try.f12 9) = syzygylaw05_RatioSigns.T9 := by kernel_rfl
theorem syzygylaw05_RatioSigns.jIG : jAN syzygylaw05_RatioSigns.T9.2 syzygylaw05_RatioSigns.B9 = true := by kernel_rfl
theorem syzygylaw05_RatioSigns.calls (k : Nat) (a0 : Int) (w : World) (h : syzygylaw05_RatioSigns.f k a0 = some true) :
  Calls Try.prog 12 #[.int .i64 a0] w fun e w' => e = .returned (.bool true) ∧ Below w.heap.size w w' := by
 have hu44 := Try.underlying44
 have HB := jA.mk (Below.refl w.heap.size w)
 have H : ((vV.f a0).bind fun bt460 => ((zJ.f bt460.1 bt460.2.1 bt460.2.2).bind fun bt468 => ((vV.f 0).bind fun bt476 => (if a0 > 0 then (syzygylaw05_RatioSigns.j0 k a0 1 bt460.1 bt460.2.1 bt460.2.2 bt468.1 bt468.2.1 bt468.2.2 bt476.1 bt476.2.1 bt476.2.2) else (syzygylaw05_RatioSigns.j0 k a0 0 bt460.1 bt460.2.1 bt460.2.2 bt468.1 bt468.2.1 bt468.2.2 bt476.1 bt476.2.1 bt476.2.2))))) = some true := h
 clear h
 replace H := Option.bind_eq_some_iff.mp H
 obtain ⟨⟨t460, t461, t464⟩, A20, H⟩ := H
 replace H : ((zJ.f t460 t461 t464).bind fun bt468 => ((vV.f 0).bind fun bt476 => (if a0 > 0 then (syzygylaw05_RatioSigns.j0 k a0 1 t460 t461 t464 bt468.1 bt468.2.1 bt468.2.2 bt476.1 bt476.2.1 bt476.2.2) else (syzygylaw05_RatioSigns.j0 k a0 0 t460 t461 t464 bt468.1 bt468.2.1 bt468.2.2 bt476.1 bt476.2.1 bt476.2.2)))) = some true := H
 have A2 := jA.mk A20
 clear A20
 replace H := Option.bind_eq_some_iff.mp H
 obtain ⟨⟨t468, t469, t472⟩, A30, H⟩ := H
 replace H : ((vV.f 0).bind fun bt476 => (if a0 > 0 then (syzygylaw05_RatioSigns.j0 k a0 1 t460 t461 t464 t468 t469 t472 bt476.1 bt476.2.1 bt476.2.2) else (syzygylaw05_RatioSigns.j0 k a0 0 t460 t461 t464 t468 t469 t472 bt476.1 bt476.2.1 bt476.2.2))) = some true := H
 have A3 := jA.mk A30
 clear A30
 replace H := Option.bind_eq_some_iff.mp H
 obtain ⟨⟨t476, t477, t480⟩, A40, H⟩ := H
 replace H : (if a0 > 0 then (syzygylaw05_RatioSigns.j0 k a0 1 t460 t461 t464 t468 t469 t472 t476 t477 t480) else (syzygylaw05_RatioSigns.j0 k a0 0 t460 t461 t464 t468 t469 t472 t476 t477 t480)) = some true := H
 have A4 := jA.mk A40
 clear A40
 have HC5 := jA.mk H
 clear H
 go_enter Try.func12, Try.ntmps12
 go_upto_if 13 with (first | ((with_reducible refine jH (f := 39) rfl ?_); refine jq (some 8) rfl rfl Try.func39 kr_ rfl #[.int .i64 a0] rfl mt_ ?_; (with_reducible refine (vV.calls a0 t460 t461 t464 _ A2.out).mono ?_); rintro e w6 ⟨v462, v465, rfl, ho0, ho1, hb⟩; refine ⟨_, rfl, ?_⟩; have n0_ := jA.mk (Kd.jV ho0 (jC (bb_ HB))); have n1_ := jA.mk (Kd.jV ho1 (jC (bb_ HB))); have n2_ := jA.mk (jE (bb_ HB) hb); clear HB; have HO463 := n0_; have HO466 := n1_; have HB := n2_; clear n0_ n1_ n2_) | ((with_reducible refine jd (N := 3) rfl ?_); refine vK ?hg (N := 3) ?hd (cs := #[.bool false, .slice none 0 0, .slice none 0 0]) (t := 44) ?hr ?_; (case hd => rfl); (case hg => rfl); (case hr => exact gs_); intro gb467 hg w7 hbox hb; have n0_ := jA.mk (Kd.jO (rR_ HO463) hb); have n1_ := jA.mk (Kd.jO (rR_ HO466) hb); have n2_ := jA.mk (jE (bb_ HB) hb); have n3_ := jA.mk (hbox); have n4_ := jA.mk ((by rw [hg]; exact (jC (bb_ HB)) : w.heap.size ≤ gb467)); have n5_ := jA.mk ((by rw [hg]; exact (jC (bb_ HB)) : w.heap.size ≤ gb467)); clear HO463 HO466 HB; have HO463 := n0_; have HO466 := n1_; have HB := n2_; have BK467 := n3_; have GW467 := n4_; have GE467 := n5_; clear n0_ n1_ n2_ n3_ n4_ n5_ hb hbox hg; have hcz8_0 : w7.cell? ⟨gb467, 0, none⟩ = some (.bool false) := (jB BK467.out 0).trans rfl; have hcz8_1 : w7.cell? ⟨gb467, 1, none⟩ = some (.slice none 0 0) := (jB BK467.out 1).trans rfl; have hcz8_2 : w7.cell? ⟨gb467, 2, none⟩ = some (.slice none 0 0) := (jB BK467.out 2).trans rfl; have hfz8_0 := jD BK467.out 0; have hfz8_1 := jD BK467.out 1; have hfz8_2 := jD BK467.out 2; obtain ⟨Ao9, co9, eo9⟩ := Kd.jf HO463.out; subst eo9; obtain ⟨Ao10, co10, eo10⟩ := Kd.jf HO466.out; subst eo10) | ((with_reducible refine jH (f := 52) rfl ?_); refine jq (some 10) rfl rfl Try.func52 kr_ rfl #[.agg #[.bool t460, .slice Ao9 t461.length co9, .slice Ao10 t464.length co10]] rfl mt_ ?_; (with_reducible refine (zJ.calls t460 _ _ t461 _ _ t464 t468 t469 t472 _ ?side1 ?side2 ?side3 ?side4 A3.out).mono ?_); (case side1 => refine (Kd.jG (e := 22) (base := w.heap.size) (ok := fun k_ => some k_ ≠ (.slice Ao10 t464.length co10 : Value).ownBlock) (n := t461.length) (c := co9) ?_).2.2; exact (by refine pR_ ?_; exact (Kd.jM (Kd.jU (p := ⟨gb467, 2, none⟩) (Kd.jU (p := ⟨gb467, 1, none⟩) (Kd.jU (p := ⟨gb467, 0, none⟩) (Kd.jI HO463.out BK467.out (by decide)) (fun _ hk => hk.2) (.bool t460)) (fun _ hk => hk.2) (.slice Ao9 t461.length co9)) (fun _ hk => hk.2) (.slice Ao10 t464.length co10)) (fun _ h_ => h_.1)))); (case side2 => exact (Kd.jG HO463.out).2.1); (case side3 => refine (Kd.jG (e := 22) (base := w.heap.size) (ok := fun k_ => some k_ ≠ (.slice Ao9 t461.length co9 : Value).ownBlock) (n := t464.length) (c := co10) ?_).2.2; exact (by refine pR_ ?_; exact (Kd.jM (Kd.jU (p := ⟨gb467, 2, none⟩) (Kd.jU (p := ⟨gb467, 1, none⟩) (Kd.jU (p := ⟨gb467, 0, none⟩) (Kd.jI HO466.out BK467.out (by decide)) (fun _ hk => hk.2) (.bool t460)) (fun _ hk => hk.2) (.slice Ao9 t461.length co9)) (fun _ hk => hk.2) (.slice Ao10 t464.length co10)) (fun _ h_ => h_.1)))); (case side4 => exact (Kd.jG HO466.out).2.1); rintro e w11 ⟨v470, v473, rfl, ho0, ho1, hb⟩; refine ⟨_, rfl, ?_⟩; have n0_ := jA.mk (Kd.jM (Kd.vL (Kd.vL (Kd.qK (by refine pR_ ?_; exact (Kd.jM (Kd.jU (p := ⟨gb467, 2, none⟩) (Kd.jU (p := ⟨gb467, 1, none⟩) (Kd.jU (p := ⟨gb467, 0, none⟩) (Kd.jI HO463.out BK467.out (by decide)) (fun _ hk => hk.2) (.bool t460)) (fun _ hk => hk.2) (.slice Ao9 t461.length co9)) (fun _ hk => hk.2) (.slice Ao10 t464.length co10)) (fun _ h_ => h_.1))) hb) (Kd.jS ho0)) (Kd.jS ho1)) (fun _ h_ => h_.1)); have n1_ := jA.mk (Kd.jM (Kd.vL (Kd.vL (Kd.qK (by refine pR_ ?_; exact (Kd.jM (Kd.jU (p := ⟨gb467, 2, none⟩) (Kd.jU (p := ⟨gb467, 1, none⟩) (Kd.jU (p := ⟨gb467, 0, none⟩) (Kd.jI HO466.out BK467.out (by decide)) (fun _ hk => hk.2) (.bool t460)) (fun _ hk => hk.2) (.slice Ao9 t461.length co9)) (fun _ hk => hk.2) (.slice Ao10 t464.length co10)) (fun _ h_ => h_.1))) hb) (Kd.jS ho0)) (Kd.jS ho1)) (fun _ h_ => h_.1)); have n2_ := jA.mk (Kd.jV (Kd.jY (Kd.jY ho0 (Kd.R_lt (by refine pR_ ?_; exact (Kd.jM (Kd.jU (p := ⟨gb467, 2, none⟩) (Kd.jU (p := ⟨gb467, 1, none⟩) (Kd.jU (p := ⟨gb467, 0, none⟩) (Kd.jI HO463.out BK467.out (by decide)) (fun _ hk => hk.2) (.bool t460)) (fun _ hk => hk.2) (.slice Ao9 t461.length co9)) (fun _ hk => hk.2) (.slice Ao10 t464.length co10)) (fun _ h_ => h_.1))))) (Kd.R_lt (by refine pR_ ?_; exact (Kd.jM (Kd.jU (p := ⟨gb467, 2, none⟩) (Kd.jU (p := ⟨gb467, 1, none⟩) (Kd.jU (p := ⟨gb467, 0, none⟩) (Kd.jI HO466.out BK467.out (by decide)) (fun _ hk => hk.2) (.bool t460)) (fun _ hk => hk.2) (.slice Ao9 t461.length co9)) (fun _ hk => hk.2) (.slice Ao10 t464.length co10)) (fun _ h_ => h_.1))))) (jC (bb1_ HB GE467))); have n3_ := jA.mk (Kd.jV (Kd.jY (Kd.jY ho1 (Kd.R_lt (by refine pR_ ?_; exact (Kd.jM (Kd.jU (p := ⟨gb467, 2, none⟩) (Kd.jU (p := ⟨gb467, 1, none⟩) (Kd.jU (p := ⟨gb467, 0, none⟩) (Kd.jI HO463.out BK467.out (by decide)) (fun _ hk => hk.2) (.bool t460)) (fun _ hk => hk.2) (.slice Ao9 t461.length co9)) (fun _ hk => hk.2) (.slice Ao10 t464.length co10)) (fun _ h_ => h_.1))))) (Kd.R_lt (by refine pR_ ?_; exact (Kd.jM (Kd.jU (p := ⟨gb467, 2, none⟩) (Kd.jU (p := ⟨gb467, 1, none⟩) (Kd.jU (p := ⟨gb467, 0, none⟩) (Kd.jI HO466.out BK467.out (by decide)) (fun _ hk => hk.2) (.bool t460)) (fun _ hk => hk.2) (.slice Ao9 t461.length co9)) (fun _ hk => hk.2) (.slice Ao10 t464.length co10)) (fun _ h_ => h_.1))))) (jC (bb1_ HB GE467))); have n4_ := jA.mk (vU (g := gb467) (o := .cells #[.bool t460, .slice Ao9 t461.length co9, .slice Ao10 t464.length co10] 44 (0, 0)) (by refine pk_ ?_; refine jw (cs := #[.bool t460, .slice Ao9 t461.length co9, .slice none 0 0]) ?_ 2 _ rs_; refine pk_ ?_; refine jw (cs := #[.bool t460, .slice none 0 0, .slice none 0 0]) ?_ 1 _ rs_; refine pk_ ?_; refine jw (cs := #[.bool false, .slice none 0 0, .slice none 0 0]) ?_ 0 _ rs_; refine pk_ ?_; exact BK467.out) hb); have n5_ := jA.mk (jE (bb1_ HB GE467) hb); clear HO463 HO466 BK467 HB; have HO463 := n0_; have HO466 := n1_; have HO471 := n2_; have HO474 := n3_; have BK467 := n4_; have HB := n5_; clear n0_ n1_ n2_ n3_ n4_ n5_) | ((with_reducible refine jd (N := 4) rfl ?_); refine vK ?hg (N := 4) ?hd (cs := #[.bool false, .slice none 0 0, .slice none 0 0]) (t := 44) ?hr ?_; (case hd => rfl); (case hg => rfl); (case hr => exact gs_); intro gb475 hg w12 hbox hb; have n0_ := jA.mk (Kd.jO (rR_ HO463) hb); have n1_ := jA.mk (Kd.jO (rR_ HO466) hb); have n2_ := jA.mk (Kd.jO (rR_ HO471) hb); have n3_ := jA.mk (Kd.jO (rR_ HO474) hb); have n4_ := jA.mk (bl_ BK467 hb); have n5_ := jA.mk (jE (bb1_ HB GE467) hb); have n6_ := jA.mk (hbox); have n7_ := jA.mk ((by rw [hg]; exact (jC (bb1_ HB GE467)) : w.heap.size ≤ gb475)); have n8_ := jA.mk ((by rw [hg]; exact (jC (bb1_ HB GE467)) : w.heap.size ≤ gb475)); have n9_ := jA.mk ((by rw [hg]; exact Nat.ne_of_lt (zK (g := gb467) (o := .cells #[.bool t460, .slice Ao9 t461.length co9, .slice Ao10 t464.length co10] 44 (0, 0)) (kb_ BK467)) : gb467 ≠ gb475)); have n10_ := jA.mk ((by rw [hg]; exact Nat.ne_of_gt (zK (g := gb467) (o := .cells #[.bool t460, .slice Ao9 t461.length co9, .slice Ao10 t464.length co10] 44 (0, 0)) (kb_ BK467)) : gb475 ≠ gb467)); clear HO463 HO466 HO471 HO474 BK467 HB; have HO463 := n0_; have HO466 := n1_; have HO471 := n2_; have HO474 := n3_; have BK467 := n4_; have HB := n5_; have BK475 := n6_; have GW475 := n7_; have GE475 := n8_; have NB467_475 := n9_; have NB475_467 := n10_; clear n0_ n1_ n2_ n3_ n4_ n5_ n6_ n7_ n8_ n9_ n10_ hb hbox hg; have hnb13 := NB475_467.out; have hnc13 := NB467_475.out; have hcz14_0 : w12.cell? ⟨gb475, 0, none⟩ = some (.bool false) := (jB BK475.out 0).trans rfl; have hcz14_1 : w12.cell? ⟨gb475, 1, none⟩ = some (.slice none 0 0) := (jB BK475.out 1).trans rfl; have hcz14_2 : w12.cell? ⟨gb475, 2, none⟩ = some (.slice none 0 0) := (jB BK475.out 2).trans rfl; have hfz14_0 := jD BK475.out 0; have hfz14_1 := jD BK475.out 1; have hfz14_2 := jD BK475.out 2; obtain ⟨Ao15, co15, eo15⟩ := Kd.jf HO471.out; subst eo15; obtain ⟨Ao16, co16, eo16⟩ := Kd.jf HO474.out; subst eo16) | ((with_reducible refine jH (f := 39) rfl ?_); refine jq (some 11) rfl rfl Try.func39 kr_ rfl #[.int .i64 0] rfl mt_ ?_; (with_reducible refine (vV.calls 0 t476 t477 t480 _ A4.out).mono ?_); rintro e w17 ⟨v478, v481, rfl, ho0, ho1, hb⟩; refine ⟨_, rfl, ?_⟩; have n0_ := jA.mk (Kd.jM (Kd.vL (Kd.vL (Kd.qK (by refine pR_ ?_; exact (Kd.jM (Kd.jU (p := ⟨gb475, 2, none⟩) (Kd.jU (p := ⟨gb475, 1, none⟩) (Kd.jU (p := ⟨gb475, 0, none⟩) (Kd.jI HO463.out BK475.out (by decide)) (fun _ hk => hk.2) (.bool t468)) (fun _ hk => hk.2) (.slice Ao15 t469.length co15)) (fun _ hk => hk.2) (.slice Ao16 t472.length co16)) (fun _ h_ => h_.1))) hb) (Kd.jS ho0)) (Kd.jS ho1)) (fun _ h_ => h_.1)); have n1_ := jA.mk (Kd.jM (Kd.vL (Kd.vL (Kd.qK (by refine pR_ ?_; exact (Kd.jM (Kd.jU (p := ⟨gb475, 2, none⟩) (Kd.jU (p := ⟨gb475, 1, none⟩) (Kd.jU (p := ⟨gb475, 0, none⟩) (Kd.jI HO466.out BK475.out (by decide)) (fun _ hk => hk.2) (.bool t468)) (fun _ hk => hk.2) (.slice Ao15 t469.length co15)) (fun _ hk => hk.2) (.slice Ao16 t472.length co16)) (fun _ h_ => h_.1))) hb) (Kd.jS ho0)) (Kd.jS ho1)) (fun _ h_ => h_.1)); have n2_ := jA.mk (Kd.jM (Kd.vL (Kd.vL (Kd.qK (by refine pR_ ?_; exact (Kd.jM (Kd.jU (p := ⟨gb475, 2, none⟩) (Kd.jU (p := ⟨gb475, 1, none⟩) (Kd.jU (p := ⟨gb475, 0, none⟩) (Kd.jI HO471.out BK475.out (by decide)) (fun _ hk => hk.2) (.bool t468)) (fun _ hk => hk.2) (.slice Ao15 t469.length co15)) (fun _ hk => hk.2) (.slice Ao16 t472.length co16)) (fun _ h_ => h_.1))) hb) (Kd.jS ho0)) (Kd.jS ho1)) (fun _ h_ => h_.1)); have n3_ := jA.mk (Kd.jM (Kd.vL (Kd.vL (Kd.qK (by refine pR_ ?_; exact (Kd.jM (Kd.jU (p := ⟨gb475, 2, none⟩) (Kd.jU (p := ⟨gb475, 1, none⟩) (Kd.jU (p := ⟨gb475, 0, none⟩) (Kd.jI HO474.out BK475.out (by decide)) (fun _ hk => hk.2) (.bool t468)) (fun _ hk => hk.2) (.slice Ao15 t469.length co15)) (fun _ hk => hk.2) (.slice Ao16 t472.length co16)) (fun _ h_ => h_.1))) hb) (Kd.jS ho0)) (Kd.jS ho1)) (fun _ h_ => h_.1)); have n4_ := jA.mk (Kd.jV (Kd.jY (Kd.jY (Kd.jY (Kd.jY ho0 (Kd.R_lt (by refine pR_ ?_; exact (Kd.jM (Kd.jU (p := ⟨gb475, 2, none⟩) (Kd.jU (p := ⟨gb475, 1, none⟩) (Kd.jU (p := ⟨gb475, 0, none⟩) (Kd.jI HO463.out BK475.out (by decide)) (fun _ hk => hk.2) (.bool t468)) (fun _ hk => hk.2) (.slice Ao15 t469.length co15)) (fun _ hk => hk.2) (.slice Ao16 t472.length co16)) (fun _ h_ => h_.1))))) (Kd.R_lt (by refine pR_ ?_; exact (Kd.jM (Kd.jU (p := ⟨gb475, 2, none⟩) (Kd.jU (p := ⟨gb475, 1, none⟩) (Kd.jU (p := ⟨gb475, 0, none⟩) (Kd.jI HO466.out BK475.out (by decide)) (fun _ hk => hk.2) (.bool t468)) (fun _ hk => hk.2) (.slice Ao15 t469.length co15)) (fun _ hk => hk.2) (.slice Ao16 t472.length co16)) (fun _ h_ => h_.1))))) (Kd.R_lt (by refine pR_ ?_; exact (Kd.jM (Kd.jU (p := ⟨gb475, 2, none⟩) (Kd.jU (p := ⟨gb475, 1, none⟩) (Kd.jU (p := ⟨gb475, 0, none⟩) (Kd.jI HO471.out BK475.out (by decide)) (fun _ hk => hk.2) (.bool t468)) (fun _ hk => hk.2) (.slice Ao15 t469.length co15)) (fun _ hk => hk.2) (.slice Ao16 t472.length co16)) (fun _ h_ => h_.1))))) (Kd.R_lt (by refine pR_ ?_; exact (Kd.jM (Kd.jU (p := ⟨gb475, 2, none⟩) (Kd.jU (p := ⟨gb475, 1, none⟩) (Kd.jU (p := ⟨gb475, 0, none⟩) (Kd.jI HO474.out BK475.out (by decide)) (fun _ hk => hk.2) (.bool t468)) (fun _ hk => hk.2) (.slice Ao15 t469.length co15)) (fun _ hk => hk.2) (.slice Ao16 t472.length co16)) (fun _ h_ => h_.1))))) (jC (bb2_ HB GE467 GE475))); have n5_ := jA.mk (Kd.jV (Kd.jY (Kd.jY (Kd.jY (Kd.jY ho1 (Kd.R_lt (by refine pR_ ?_; exact (Kd.jM (Kd.jU (p := ⟨gb475, 2, none⟩) (Kd.jU (p := ⟨gb475, 1, none⟩) (Kd.jU (p := ⟨gb475, 0, none⟩) (Kd.jI HO463.out BK475.out (by decide)) (fun _ hk => hk.2) (.bool t468)) (fun _ hk => hk.2) (.slice Ao15 t469.length co15)) (fun _ hk => hk.2) (.slice Ao16 t472.length co16)) (fun _ h_ => h_.1))))) (Kd.R_lt (by refine pR_ ?_; exact (Kd.jM (Kd.jU (p := ⟨gb475, 2, none⟩) (Kd.jU (p := ⟨gb475, 1, none⟩) (Kd.jU (p := ⟨gb475, 0, none⟩) (Kd.jI HO466.out BK475.out (by decide)) (fun _ hk => hk.2) (.bool t468)) (fun _ hk => hk.2) (.slice Ao15 t469.length co15)) (fun _ hk => hk.2) (.slice Ao16 t472.length co16)) (fun _ h_ => h_.1))))) (Kd.R_lt (by refine pR_ ?_; exact (Kd.jM (Kd.jU (p := ⟨gb475, 2, none⟩) (Kd.jU (p := ⟨gb475, 1, none⟩) (Kd.jU (p := ⟨gb475, 0, none⟩) (Kd.jI HO471.out BK475.out (by decide)) (fun _ hk => hk.2) (.bool t468)) (fun _ hk => hk.2) (.slice Ao15 t469.length co15)) (fun _ hk => hk.2) (.slice Ao16 t472.length co16)) (fun _ h_ => h_.1))))) (Kd.R_lt (by refine pR_ ?_; exact (Kd.jM (Kd.jU (p := ⟨gb475, 2, none⟩) (Kd.jU (p := ⟨gb475, 1, none⟩) (Kd.jU (p := ⟨gb475, 0, none⟩) (Kd.jI HO474.out BK475.out (by decide)) (fun _ hk => hk.2) (.bool t468)) (fun _ hk => hk.2) (.slice Ao15 t469.length co15)) (fun _ hk => hk.2) (.slice Ao16 t472.length co16)) (fun _ h_ => h_.1))))) (jC (bb2_ HB GE467 GE475))); have n6_ := jA.mk (vU (g := gb467) (o := .cells #[.bool t460, .slice Ao9 t461.length co9, .slice Ao10 t464.length co10] 44 (0, 0)) (by refine pk_ ?_; refine zZ ?_ NB467_475.out _; refine pk_ ?_; refine zZ ?_ NB467_475.out _; refine pk_ ?_; refine zZ ?_ NB467_475.out _; refine pk_ ?_; exact BK467.out) hb); have n7_ := jA.mk (vU (g := gb475) (o := .cells #[.bool t468, .slice Ao15 t469.length co15, .slice Ao16 t472.length co16] 44 (0, 0)) (by refine pk_ ?_; refine jw (cs := #[.bool t468, .slice Ao15 t469.length co15, .slice none 0 0]) ?_ 2 _ rs_; refine pk_ ?_; refine jw (cs := #[.bool t468, .slice none 0 0, .slice none 0 0]) ?_ 1 _ rs_; refine pk_ ?_; refine jw (cs := #[.bool false, .slice none 0 0, .slice none 0 0]) ?_ 0 _ rs_; refine pk_ ?_; exact BK475.out) hb); have n8_ := jA.mk (jE (bb2_ HB GE467 GE475) hb); clear HO463 HO466 HO471 HO474 BK467 BK475 HB; have HO463 := n0_; have HO466 := n1_; have HO471 := n2_; have HO474 := n3_; have HO479 := n4_; have HO482 := n5_; have BK467 := n6_; have BK475 := n7_; have HB := n8_; clear n0_ n1_ n2_ n3_ n4_ n5_ n6_ n7_ n8_) | ((with_reducible refine jd (N := 5) rfl ?_); refine vK ?hg (N := 5) ?hd (cs := #[.bool false, .slice none 0 0, .slice none 0 0]) (t := 44) ?hr ?_; (case hd => rfl); (case hg => rfl); (case hr => exact gs_); intro gb483 hg w18 hbox hb; have n0_ := jA.mk (Kd.jO (rR_ HO463) hb); have n1_ := jA.mk (Kd.jO (rR_ HO466) hb); have n2_ := jA.mk (Kd.jO (rR_ HO471) hb); have n3_ := jA.mk (Kd.jO (rR_ HO474) hb); have n4_ := jA.mk (Kd.jO (rR_ HO479) hb); have n5_ := jA.mk (Kd.jO (rR_ HO482) hb); have n6_ := jA.mk (bl_ BK467 hb); have n7_ := jA.mk (bl_ BK475 hb); have n8_ := jA.mk (jE (bb2_ HB GE467 GE475) hb); have n9_ := jA.mk (hbox); have n10_ := jA.mk ((by rw [hg]; exact (jC (bb2_ HB GE467 GE475)) : w.heap.size ≤ gb483)); have n11_ := jA.mk ((by rw [hg]; exact (jC (bb2_ HB GE467 GE475)) : w.heap.size ≤ gb483)); have n12_ := jA.mk ((by rw [hg]; exact Nat.ne_of_lt (zK (g := gb467) (o := .cells #[.bool t460, .slice Ao9 t461.length co9, .slice Ao10 t464.length co10] 44 (0, 0)) (kb_ BK467)) : gb467 ≠ gb483)); have n13_ := jA.mk ((by rw [hg]; exact Nat.ne_of_gt (zK (g := gb467) (o := .cells #[.bool t460, .slice Ao9 t461.length co9, .slice Ao10 t464.length co10] 44 (0, 0)) (kb_ BK467)) : gb483 ≠ gb467)); have n14_ := jA.mk ((by rw [hg]; exact Nat.ne_of_lt (zK (g := gb475) (o := .cells #[.bool t468, .slice Ao15 t469.length co15, .slice Ao16 t472.length co16] 44 (0, 0)) (kb_ BK475)) : gb475 ≠ gb483)); have n15_ := jA.mk ((by rw [hg]; exact Nat.ne_of_gt (zK (g := gb475) (o := .cells #[.bool t468, .slice Ao15 t469.length co15, .slice Ao16 t472.length co16] 44 (0, 0)) (kb_ BK475)) : gb483 ≠ gb475)); clear HO463 HO466 HO471 HO474 HO479 HO482 BK467 BK475 HB; have HO463 := n0_; have HO466 := n1_; have HO471 := n2_; have HO474 := n3_; have HO479 := n4_; have HO482 := n5_; have BK467 := n6_; have BK475 := n7_; have HB := n8_; have BK483 := n9_; have GW483 := n10_; have GE483 := n11_; have NB467_483 := n12_; have NB483_467 := n13_; have NB475_483 := n14_; have NB483_475 := n15_; clear n0_ n1_ n2_ n3_ n4_ n5_ n6_ n7_ n8_ n9_ n10_ n11_ n12_ n13_ n14_ n15_ hb hbox hg; have hnb19 := NB483_467.out; have hnc19 := NB467_483.out; have hnb20 := NB483_475.out; have hnc20 := NB475_483.out; have hcz21_0 : w18.cell? ⟨gb483, 0, none⟩ = some (.bool false) := (jB BK483.out 0).trans rfl; have hcz21_1 : w18.cell? ⟨gb483, 1, none⟩ = some (.slice none 0 0) := (jB BK483.out 1).trans rfl; have hcz21_2 : w18.cell? ⟨gb483, 2, none⟩ = some (.slice none 0 0) := (jB BK483.out 2).trans rfl; have hfz21_0 := jD BK483.out 0; have hfz21_1 := jD BK483.out 1; have hfz21_2 := jD BK483.out 2; obtain ⟨Ao22, co22, eo22⟩ := Kd.jf HO479.out; subst eo22; obtain ⟨Ao23, co23, eo23⟩ := Kd.jf HO482.out; subst eo23))
 (try simp only [Act.put, ss_])
 go_cut [6] (fun v6 wc => ∃ (kq : Nat) (x6_4 : Int), v6 = .int .i64 x6_4 ∧ jA (syzygylaw05_RatioSigns.j0 kq a0 x6_4 t460 t461 t464 t468 t469 t472 t476 t477 t480 = some true) ∧ jA (kq ≤ k) ∧ jA (Kd.R (Kd.int .u64) 22 wc w.heap.size (fun k_ => some k_ ≠ ((.slice Ao10 t464.length co10) : Value).ownBlock ∧ some k_ ≠ ((.slice Ao15 t469.length co15) : Value).ownBlock ∧ some k_ ≠ ((.slice Ao16 t472.length co16) : Value).ownBlock ∧ some k_ ≠ ((.slice Ao22 t477.length co22) : Value).ownBlock ∧ some k_ ≠ ((.slice Ao23 t480.length co23) : Value).ownBlock) (.slice Ao9 t461.length co9) t461) ∧ jA (Kd.R (Kd.int .u64) 22 wc w.heap.size (fun k_ => some k_ ≠ ((.slice Ao9 t461.length co9) : Value).ownBlock ∧ some k_ ≠ ((.slice Ao15 t469.length co15) : Value).ownBlock ∧ some k_ ≠ ((.slice Ao16 t472.length co16) : Value).ownBlock ∧ some k_ ≠ ((.slice Ao22 t477.length co22) : Value).ownBlock ∧ some k_ ≠ ((.slice Ao23 t480.length co23) : Value).ownBlock) (.slice Ao10 t464.length co10) t464) ∧ jA (Kd.R (Kd.int .u64) 22 wc w.heap.size (fun k_ => some k_ ≠ ((.slice Ao9 t461.length co9) : Value).ownBlock ∧ some k_ ≠ ((.slice Ao10 t464.length co10) : Value).ownBlock ∧ some k_ ≠ ((.slice Ao16 t472.length co16) : Value).ownBlock ∧ some k_ ≠ ((.slice Ao22 t477.length co22) : Value).ownBlock ∧ some k_ ≠ ((.slice Ao23 t480.length co23) : Value).ownBlock) (.slice Ao15 t469.length co15) t469) ∧ jA (Kd.R (Kd.int .u64) 22 wc w.heap.size (fun k_ => some k_ ≠ ((.slice Ao9 t461.length co9) : Value).ownBlock ∧ some k_ ≠ ((.slice Ao10 t464.length co10) : Value).ownBlock ∧ some k_ ≠ ((.slice Ao15 t469.length co15) : Value).ownBlock ∧ some k_ ≠ ((.slice Ao22 t477.length co22) : Value).ownBlock ∧ some k_ ≠ ((.slice Ao23 t480.length co23) : Value).ownBlock) (.slice Ao16 t472.length co16) t472) ∧ jA (Kd.R (Kd.int .u64) 22 wc w.heap.size (fun k_ => some k_ ≠ ((.slice Ao9 t461.length co9) : Value).ownBlock ∧ some k_ ≠ ((.slice Ao10 t464.length co10) : Value).ownBlock ∧ some k_ ≠ ((.slice Ao15 t469.length co15) : Value).ownBlock ∧ some k_ ≠ ((.slice Ao16 t472.length co16) : Value).ownBlock ∧ some k_ ≠ ((.slice Ao23 t480.length co23) : Value).ownBlock) (.slice Ao22 t477.length co22) t477) ∧ jA (Kd.R (Kd.int .u64) 22 wc w.heap.size (fun k_ => some k_ ≠ ((.slice Ao9 t461.length co9) : Value).ownBlock ∧ some k_ ≠ ((.slice Ao10 t464.length co10) : Value).ownBlock ∧ some k_ ≠ ((.slice Ao15 t469.length co15) : Value).ownBlock ∧ some k_ ≠ ((.slice Ao16 t472.length co16) : Value).ownBlock ∧ some k_ ≠ ((.slice Ao22 t477.length co22) : Value).ownBlock) (.slice Ao23 t480.length co23) t480) ∧ jA (wc.heap[gb467]? = some (.cells #[.bool t460, (.slice Ao9 t461.length co9), (.slice Ao10 t464.length co10)] 44 (0, 0))) ∧ jA (wc.heap[gb475]? = some (.cells #[.bool t468, (.slice Ao15 t469.length co15), (.slice Ao16 t472.length co16)] 44 (0, 0))) ∧ jA (wc.heap[gb483]? = some (.cells #[.bool t476, (.slice Ao22 t477.length co22), (.slice Ao23 t480.length co23)] 44 (0, 0))) ∧ jA (Below w.heap.size w wc))
 case first =>
  have H := HC5.out
  clear HC5
  by_cases c24 : a0 > 0
  ·
   rw [if_pos c24] at H
   have c24b0 : decide (0 < a0) = true := decide_eq_true c24
   clear c24
   (first | rw [c24b0] | (simp only [jc, ji]; rw [c24b0]) | skip)
   have H' := jA.mk H
   clear H
   go_wp2
   go_meet
   case rel => exact ⟨_, (1), sd_, H', ⟨by first | omega | exact Nat.le_refl _⟩, ⟨by (with_reducible repeat (first | apply Kd.zQ | apply Kd.zh | apply Kd.zY)); exact Kd.jM (Kd.jU (p := ⟨gb483, 2, none⟩) (Kd.jU (p := ⟨gb483, 1, none⟩) (Kd.jU (p := ⟨gb483, 0, none⟩) (Kd.jI HO463.out BK483.out (by decide)) (fun _ hk => hk.2) (.bool t476)) (fun _ hk => hk.2) (.slice Ao22 t477.length co22)) (fun _ hk => hk.2) (.slice Ao23 t480.length co23)) (fun _ hk => ⟨hk.1.1.1.1.1, ⟨hk.1.1.1.1.2, ⟨hk.1.1.1.2, ⟨hk.1.1.2, hk.1.2⟩⟩⟩⟩)⟩, ⟨by (with_reducible repeat (first | apply Kd.zQ | apply Kd.zh | apply Kd.zY)); exact Kd.jM (Kd.jU (p := ⟨gb483, 2, none⟩) (Kd.jU (p := ⟨gb483, 1, none⟩) (Kd.jU (p := ⟨gb483, 0, none⟩) (Kd.jI HO466.out BK483.out (by decide)) (fun _ hk => hk.2) (.bool t476)) (fun _ hk => hk.2) (.slice Ao22 t477.length co22)) (fun _ hk => hk.2) (.slice Ao23 t480.length co23)) (fun _ hk => ⟨hk.1.1.1.1.1, ⟨hk.1.1.1.1.2, ⟨hk.1.1.1.2, ⟨hk.1.1.2, hk.1.2⟩⟩⟩⟩)⟩, ⟨by (with_reducible repeat (first | apply Kd.zQ | apply Kd.zh | apply Kd.zY)); exact Kd.jM (Kd.jU (p := ⟨gb483, 2, none⟩) (Kd.jU (p := ⟨gb483, 1, none⟩) (Kd.jU (p := ⟨gb483, 0, none⟩) (Kd.jI HO471.out BK483.out (by decide)) (fun _ hk => hk.2) (.bool t476)) (fun _ hk => hk.2) (.slice Ao22 t477.length co22)) (fun _ hk => hk.2) (.slice Ao23 t480.length co23)) (fun _ hk => ⟨hk.1.1.1.1.2, ⟨hk.1.1.1.2, ⟨hk.1.1.1.1.1, ⟨hk.1.1.2, hk.1.2⟩⟩⟩⟩)⟩, ⟨by (with_reducible repeat (first | apply Kd.zQ | apply Kd.zh | apply Kd.zY)); exact Kd.jM (Kd.jU (p := ⟨gb483, 2, none⟩) (Kd.jU (p := ⟨gb483, 1, none⟩) (Kd.jU (p := ⟨gb483, 0, none⟩) (Kd.jI HO474.out BK483.out (by decide)) (fun _ hk => hk.2) (.bool t476)) (fun _ hk => hk.2) (.slice Ao22 t477.length co22)) (fun _ hk => hk.2) (.slice Ao23 t480.length co23)) (fun _ hk => ⟨hk.1.1.1.1.2, ⟨hk.1.1.1.2, ⟨hk.1.1.1.1.1, ⟨hk.1.1.2, hk.1.2⟩⟩⟩⟩)⟩, ⟨by (with_reducible repeat (first | apply Kd.zQ | apply Kd.zh | apply Kd.zY)); exact Kd.jM (Kd.jU (p := ⟨gb483, 2, none⟩) (Kd.jU (p := ⟨gb483, 1, none⟩) (Kd.jU (p := ⟨gb483, 0, none⟩) (Kd.jI HO479.out BK483.out (by decide)) (fun _ hk => hk.2) (.bool t476)) (fun _ hk => hk.2) (.slice Ao22 t477.length co22)) (fun _ hk => hk.2) (.slice Ao23 t480.length co23)) (fun _ hk => ⟨hk.1.1.1.1.2, ⟨hk.1.1.1.2, ⟨hk.1.1.2, ⟨hk.1.2, hk.1.1.1.1.1⟩⟩⟩⟩)⟩, ⟨by (with_reducible repeat (first | apply Kd.zQ | apply Kd.zh | apply Kd.zY)); exact Kd.jM (Kd.jU (p := ⟨gb483, 2, none⟩) (Kd.jU (p := ⟨gb483, 1, none⟩) (Kd.jU (p := ⟨gb483, 0, none⟩) (Kd.jI HO482.out BK483.out (by decide)) (fun _ hk => hk.2) (.bool t476)) (fun _ hk => hk.2) (.slice Ao22 t477.length co22)) (fun _ hk => hk.2) (.slice Ao23 t480.length co23)) (fun _ hk => ⟨hk.1.1.1.1.2, ⟨hk.1.1.1.2, ⟨hk.1.1.2, ⟨hk.1.2, hk.1.1.1.1.1⟩⟩⟩⟩)⟩, ⟨by (with_reducible repeat (first | refine zC ?_ _ | refine vH ?_ | refine vN ?_ _)); refine zZ ?_ NB467_483.out _; refine pk_ ?_; refine zZ ?_ NB467_483.out _; refine pk_ ?_; refine zZ ?_ NB467_483.out _; refine pk_ ?_; exact BK467.out⟩, ⟨by (with_reducible repeat (first | refine zC ?_ _ | refine vH ?_ | refine vN ?_ _)); refine zZ ?_ NB475_483.out _; refine pk_ ?_; refine zZ ?_ NB475_483.out _; refine pk_ ?_; refine zZ ?_ NB475_483.out _; refine pk_ ?_; exact BK475.out⟩, ⟨by (with_reducible repeat (first | refine zC ?_ _ | refine vH ?_ | refine vN ?_ _)); refine jw (cs := #[.bool t476, .slice Ao22 t477.length co22, .slice none 0 0]) ?_ 2 _ rs_; refine pk_ ?_; refine jw (cs := #[.bool t476, .slice none 0 0, .slice none 0 0]) ?_ 1 _ rs_; refine pk_ ?_; refine jw (cs := #[.bool false, .slice none 0 0, .slice none 0 0]) ?_ 0 _ rs_; refine pk_ ?_; exact BK483.out⟩, ⟨(bb3_ HB GE467 GE475 GE483)⟩⟩
  ·
   rw [if_neg c24] at H
   have c24b0 : decide (0 < a0) = false := decide_eq_false c24
   clear c24
   (first | rw [c24b0] | (simp only [jc, ji]; rw [c24b0]) | skip)
   have H' := jA.mk H
   clear H
   go_wp2
   go_meet
   case rel => exact ⟨_, (0), sd_, H', ⟨by first | omega | exact Nat.le_refl _⟩, ⟨by (with_reducible repeat (first | apply Kd.zQ | apply Kd.zh | apply Kd.zY)); exact Kd.jM (Kd.jU (p := ⟨gb483, 2, none⟩) (Kd.jU (p := ⟨gb483, 1, none⟩) (Kd.jU (p := ⟨gb483, 0, none⟩) (Kd.jI HO463.out BK483.out (by decide)) (fun _ hk => hk.2) (.bool t476)) (fun _ hk => hk.2) (.slice Ao22 t477.length co22)) (fun _ hk => hk.2) (.slice Ao23 t480.length co23)) (fun _ hk => ⟨hk.1.1.1.1.1, ⟨hk.1.1.1.1.2, ⟨hk.1.1.1.2, ⟨hk.1.1.2, hk.1.2⟩⟩⟩⟩)⟩, ⟨by (with_reducible repeat (first | apply Kd.zQ | apply Kd.zh | apply Kd.zY)); exact Kd.jM (Kd.jU (p := ⟨gb483, 2, none⟩) (Kd.jU (p := ⟨gb483, 1, none⟩) (Kd.jU (p := ⟨gb483, 0, none⟩) (Kd.jI HO466.out BK483.out (by decide)) (fun _ hk => hk.2) (.bool t476)) (fun _ hk => hk.2) (.slice Ao22 t477.length co22)) (fun _ hk => hk.2) (.slice Ao23 t480.length co23)) (fun _ hk => ⟨hk.1.1.1.1.1, ⟨hk.1.1.1.1.2, ⟨hk.1.1.1.2, ⟨hk.1.1.2, hk.1.2⟩⟩⟩⟩)⟩, ⟨by (with_reducible repeat (first | apply Kd.zQ | apply Kd.zh | apply Kd.zY)); exact Kd.jM (Kd.jU (p := ⟨gb483, 2, none⟩) (Kd.jU (p := ⟨gb483, 1, none⟩) (Kd.jU (p := ⟨gb483, 0, none⟩) (Kd.jI HO471.out BK483.out (by decide)) (fun _ hk => hk.2) (.bool t476)) (fun _ hk => hk.2) (.slice Ao22 t477.length co22)) (fun _ hk => hk.2) (.slice Ao23 t480.length co23)) (fun _ hk => ⟨hk.1.1.1.1.2, ⟨hk.1.1.1.2, ⟨hk.1.1.1.1.1, ⟨hk.1.1.2, hk.1.2⟩⟩⟩⟩)⟩, ⟨by (with_reducible repeat (first | apply Kd.zQ | apply Kd.zh | apply Kd.zY)); exact Kd.jM (Kd.jU (p := ⟨gb483, 2, none⟩) (Kd.jU (p := ⟨gb483, 1, none⟩) (Kd.jU (p := ⟨gb483, 0, none⟩) (Kd.jI HO474.out BK483.out (by decide)) (fun _ hk => hk.2) (.bool t476)) (fun _ hk => hk.2) (.slice Ao22 t477.length co22)) (fun _ hk => hk.2) (.slice Ao23 t480.length co23)) (fun _ hk => ⟨hk.1.1.1.1.2, ⟨hk.1.1.1.2, ⟨hk.1.1.1.1.1, ⟨hk.1.1.2, hk.1.2⟩⟩⟩⟩)⟩, ⟨by (with_reducible repeat (first | apply Kd.zQ | apply Kd.zh | apply Kd.zY)); exact Kd.jM (Kd.jU (p := ⟨gb483, 2, none⟩) (Kd.jU (p := ⟨gb483, 1, none⟩) (Kd.jU (p := ⟨gb483, 0, none⟩) (Kd.jI HO479.out BK483.out (by decide)) (fun _ hk => hk.2) (.bool t476)) (fun _ hk => hk.2) (.slice Ao22 t477.length co22)) (fun _ hk => hk.2) (.slice Ao23 t480.length co23)) (fun _ hk => ⟨hk.1.1.1.1.2, ⟨hk.1.1.1.2, ⟨hk.1.1.2, ⟨hk.1.2, hk.1.1.1.1.1⟩⟩⟩⟩)⟩, ⟨by (with_reducible repeat (first | apply Kd.zQ | apply Kd.zh | apply Kd.zY)); exact Kd.jM (Kd.jU (p := ⟨gb483, 2, none⟩) (Kd.jU (p := ⟨gb483, 1, none⟩) (Kd.jU (p := ⟨gb483, 0, none⟩) (Kd.jI HO482.out BK483.out (by decide)) (fun _ hk => hk.2) (.bool t476)) (fun _ hk => hk.2) (.slice Ao22 t477.length co22)) (fun _ hk => hk.2) (.slice Ao23 t480.length co23)) (fun _ hk => ⟨hk.1.1.1.1.2, ⟨hk.1.1.1.2, ⟨hk.1.1.2, ⟨hk.1.2, hk.1.1.1.1.1⟩⟩⟩⟩)⟩, ⟨by (with_reducible repeat (first | refine zC ?_ _ | refine vH ?_ | refine vN ?_ _)); refine zZ ?_ NB467_483.out _; refine pk_ ?_; refine zZ ?_ NB467_483.out _; refine pk_ ?_; refine zZ ?_ NB467_483.out _; refine pk_ ?_; exact BK467.out⟩, ⟨by (with_reducible repeat (first | refine zC ?_ _ | refine vH ?_ | refine vN ?_ _)); refine zZ ?_ NB475_483.out _; refine pk_ ?_; refine zZ ?_ NB475_483.out _; refine pk_ ?_; refine zZ ?_ NB475_483.out _; refine pk_ ?_; exact BK475.out⟩, ⟨by (with_reducible repeat (first | refine zC ?_ _ | refine vH ?_ | refine vN ?_ _)); refine jw (cs := #[.bool t476, .slice Ao22 t477.length co22, .slice none 0 0]) ?_ 2 _ rs_; refine pk_ ?_; refine jw (cs := #[.bool t476, .slice none 0 0, .slice none 0 0]) ?_ 1 _ rs_; refine pk_ ?_; refine jw (cs := #[.bool false, .slice none 0 0, .slice none 0 0]) ?_ 0 _ rs_; refine pk_ ?_; exact BK483.out⟩, ⟨(bb3_ HB GE467 GE475 GE483)⟩⟩
 case rest =>
  clear HC5
  try clear c1
  try clear c2
  try clear p2
  try clear c3
  try clear c5
  try clear c12
  try clear c13
  try clear c19
  try clear c20
  try clear c24
  try clear c24b0
  try clear hcz14_0
  try clear hcz14_1
  try clear hcz14_2
  try clear hcz21_0
  try clear hcz21_1
  try clear hcz21_2
  try clear hcz8_0
  try clear hcz8_1
  try clear hcz8_2
  try clear hfz14_0
  try clear hfz14_1
  try clear hfz14_2
  try clear hfz21_0
  try clear hfz21_1
  try clear hfz21_2
  try clear hfz8_0
  try clear hfz8_1
  try clear hfz8_2
  obtain ⟨kq, x6_4, rfl, HA, HJ4, HO_468001, HO_468002, HO_476001, HO_476002, HO_484001, HO_484002, BK467, BK475, BK483, HB⟩ := hcut
  cases kq with
  | zero => exact absurd HA.out (by simp [syzygylaw05_RatioSigns.j0])
  | succ kj4 =>
   have H := HA.out
   clear HA
   simp only [syzygylaw05_RatioSigns.j0] at H
   have HC25 := jA.mk H
   clear H
   go_upto_if 15 with (fail)
   go_cut [6] (fun v6 wc => ∃ (kq : Nat) (x6_24 : Int), v6 = .int .i64 x6_24 ∧ jA (syzygylaw05_RatioSigns.j1 kq a0 x6_24 t460 t461 t464 t468 t469 t472 t476 t477 t480 = some true) ∧ jA (kq ≤ kj4) ∧ jA (Kd.R (Kd.int .u64) 22 wc w.heap.size (fun k_ => some k_ ≠ ((.slice Ao10 t464.length co10) : Value).ownBlock ∧ some k_ ≠ ((.slice Ao15 t469.length co15) : Value).ownBlock ∧ some k_ ≠ ((.slice Ao16 t472.length co16) : Value).ownBlock ∧ some k_ ≠ ((.slice Ao22 t477.length co22) : Value).ownBlock ∧ some k_ ≠ ((.slice Ao23 t480.length co23) : Value).ownBlock) (.slice Ao9 t461.length co9) t461) ∧ jA (Kd.R (Kd.int .u64) 22 wc w.heap.size (fun k_ => some k_ ≠ ((.slice Ao9 t461.length co9) : Value).ownBlock ∧ some k_ ≠ ((.slice Ao15 t469.length co15) : Value).ownBlock ∧ some k_ ≠ ((.slice Ao16 t472.length co16) : Value).ownBlock ∧ some k_ ≠ ((.slice Ao22 t477.length co22) : Value).ownBlock ∧ some k_ ≠ ((.slice Ao23 t480.length co23) : Value).ownBlock) (.slice Ao10 t464.length co10) t464) ∧ jA (Kd.R (Kd.int .u64) 22 wc w.heap.size (fun k_ => some k_ ≠ ((.slice Ao9 t461.length co9) : Value).ownBlock ∧ some k_ ≠ ((.slice Ao10 t464.length co10) : Value).ownBlock ∧ some k_ ≠ ((.slice Ao16 t472.length co16) : Value).ownBlock ∧ some k_ ≠ ((.slice Ao22 t477.length co22) : Value).ownBlock ∧ some k_ ≠ ((.slice Ao23 t480.length co23) : Value).ownBlock) (.slice Ao15 t469.length co15) t469) ∧ jA (Kd.R (Kd.int .u64) 22 wc w.heap.size (fun k_ => some k_ ≠ ((.slice Ao9 t461.length co9) : Value).ownBlock ∧ some k_ ≠ ((.slice Ao10 t464.length co10) : Value).ownBlock ∧ some k_ ≠ ((.slice Ao15 t469.length co15) : Value).ownBlock ∧ some k_ ≠ ((.slice Ao22 t477.length co22) : Value).ownBlock ∧ some k_ ≠ ((.slice Ao23 t480.length co23) : Value).ownBlock) (.slice Ao16 t472.length co16) t472) ∧ jA (Kd.R (Kd.int .u64) 22 wc w.heap.size (fun k_ => some k_ ≠ ((.slice Ao9 t461.length co9) : Value).ownBlock ∧ some k_ ≠ ((.slice Ao10 t464.length co10) : Value).ownBlock ∧ some k_ ≠ ((.slice Ao15 t469.length co15) : Value).ownBlock ∧ some k_ ≠ ((.slice Ao16 t472.length co16) : Value).ownBlock ∧ some k_ ≠ ((.slice Ao23 t480.length co23) : Value).ownBlock) (.slice Ao22 t477.length co22) t477) ∧ jA (Kd.R (Kd.int .u64) 22 wc w.heap.size (fun k_ => some k_ ≠ ((.slice Ao9 t461.length co9) : Value).ownBlock ∧ some k_ ≠ ((.slice Ao10 t464.length co10) : Value).ownBlock ∧ some k_ ≠ ((.slice Ao15 t469.length co15) : Value).ownBlock ∧ some k_ ≠ ((.slice Ao16 t472.length co16) : Value).ownBlock ∧ some k_ ≠ ((.slice Ao22 t477.length co22) : Value).ownBlock) (.slice Ao23 t480.length co23) t480) ∧ jA (wc.heap[gb467]? = some (.cells #[.bool t460, (.slice Ao9 t461.length co9), (.slice Ao10 t464.length co10)] 44 (0, 0))) ∧ jA (wc.heap[gb475]? = some (.cells #[.bool t468, (.slice Ao15 t469.length co15), (.slice Ao16 t472.length co16)] 44 (0, 0))) ∧ jA (wc.heap[gb483]? = some (.cells #[.bool t476, (.slice Ao22 t477.length co22), (.slice Ao23 t480.length co23)] 44 (0, 0))) ∧ jA (Below w.heap.size w wc))
   case first =>
    have H := HC25.out
    clear HC25
    by_cases c26 : a0 < 0
    ·
     rw [if_pos c26] at H
     have c26b0 : decide (a0 < 0) = true := decide_eq_true c26
     clear c26
     (first | rw [c26b0] | (simp only [jc, ji]; rw [c26b0]) | skip)
     have H' := jA.mk H
     clear H
     go_wp2
     go_meet
     case rel => exact ⟨_, ((-1)), sd_, H', ⟨by have := HJ4.out; first | omega | exact Nat.le_refl _⟩, ⟨(rR_ HO_468001)⟩, ⟨(rR_ HO_468002)⟩, ⟨(rR_ HO_476001)⟩, ⟨(rR_ HO_476002)⟩, ⟨(rR_ HO_484001)⟩, ⟨(rR_ HO_484002)⟩, ⟨by (with_reducible repeat (first | refine zC ?_ _ | refine vH ?_ | refine vN ?_ _)); exact BK467.out⟩, ⟨by (with_reducible repeat (first | refine zC ?_ _ | refine vH ?_ | refine vN ?_ _)); exact BK475.out⟩, ⟨by (with_reducible repeat (first | refine zC ?_ _ | refine vH ?_ | refine vN ?_ _)); exact BK483.out⟩, ⟨(bb3_ HB GE467 GE475 GE483)⟩⟩
    ·
     rw [if_neg c26] at H
     have c26b0 : decide (a0 < 0) = false := decide_eq_false c26
     clear c26
     (first | rw [c26b0] | (simp only [jc, ji]; rw [c26b0]) | skip)
     have H' := jA.mk H
     clear H
     go_wp2
     go_meet
     case rel => exact ⟨_, (x6_4), sd_, H', ⟨by have := HJ4.out; first | omega | exact Nat.le_refl _⟩, ⟨(rR_ HO_468001)⟩, ⟨(rR_ HO_468002)⟩, ⟨(rR_ HO_476001)⟩, ⟨(rR_ HO_476002)⟩, ⟨(rR_ HO_484001)⟩, ⟨(rR_ HO_484002)⟩, ⟨by (with_reducible repeat (first | refine zC ?_ _ | refine vH ?_ | refine vN ?_ _)); exact BK467.out⟩, ⟨by (with_reducible repeat (first | refine zC ?_ _ | refine vH ?_ | refine vN ?_ _)); exact BK475.out⟩, ⟨by (with_reducible repeat (first | refine zC ?_ _ | refine vH ?_ | refine vN ?_ _)); exact BK483.out⟩, ⟨(bb3_ HB GE467 GE475 GE483)⟩⟩
   case rest =>
    clear HC25
    try clear c1
    try clear c2
    try clear p2
    try clear c3
    try clear c5
    try clear c12
    try clear c13
    try clear c19
    try clear c20
    try clear c24
    try clear c24b0
    try clear c26
    try clear c26b0
    try clear hcz14_0
    try clear hcz14_1
    try clear hcz14_2
    try clear hcz21_0
    try clear hcz21_1
    try clear hcz21_2
    try clear hcz8_0
    try clear hcz8_1
    try clear hcz8_2
    try clear hfz14_0
    try clear hfz14_1
    try clear hfz14_2
    try clear hfz21_0
    try clear hfz21_1
    try clear hfz21_2
    try clear hfz8_0
    try clear hfz8_1
    try clear hfz8_2
    try clear p2
    obtain ⟨kq, x6_24, rfl, HA, HJ24, HO_468001, HO_468002, HO_476001, HO_476002, HO_484001, HO_484002, BK467, BK475, BK483, HB⟩ := hcut
    cases kq with
    | zero => exact absurd HA.out (by simp [syzygylaw05_RatioSigns.j1])
    | succ kj24 =>
     have H := HA.out
     clear HA
     simp only [syzygylaw05_RatioSigns.j1] at H
     replace H := Option.bind_eq_some_iff.mp H
     obtain ⟨t484, A270, H⟩ := H
     replace H : (if t484 = x6_24 then ((vM.f kj24 t468 t469 t472 t476 t477 t480).bind fun t485 => (if t485 = (wrap64 (-x6_24)) then ((zJ.f t468 t469 t472).bind fun bt486 => ((zN.f kj24 bt486.1 bt486.2.1 bt486.2.2 t460 t461 t464).bind fun t493 => (if t493 = true then ((jm.f kj24 t460 t461 t464).bind fun t494 => (if t494 = true then ((jm.f kj24 t468 t469 t472).bind fun t495 => (if t495 = true then ((jy.f t460 t461 t464).bind fun t496 => (if (t496 == (a0 == 0)) = true then ((vB.f kj24 a0).bind fun bt497 => ((jQ.f kj24 t460 t461 t464 bt497.1 bt497.2.1 bt497.2.2).bind fun t504 => (if t504 = true then ((je.f kj24).bind fun t505 => (some t505)) else (some false)))) else (some false))) else (some false))) else (some false))) else (some false)))) else (some false))) else (some false)) = some true := H
     have A27 := jA.mk A270
     clear A270
     by_cases c28 : t484 = x6_24
     ·
      rw [if_pos c28] at H
      have c28b0 : (t484 == x6_24) = true := beq_iff_eq.mpr c28
      have c28b1 : (t484 != x6_24) = false := bne_eq_false_iff_eq.mpr c28
      clear c28
      replace H := Option.bind_eq_some_iff.mp H
      obtain ⟨t485, A290, H⟩ := H
      replace H : (if t485 = (wrap64 (-x6_24)) then ((zJ.f t468 t469 t472).bind fun bt486 => ((zN.f kj24 bt486.1 bt486.2.1 bt486.2.2 t460 t461 t464).bind fun t493 => (if t493 = true then ((jm.f kj24 t460 t461 t464).bind fun t494 => (if t494 = true then ((jm.f kj24 t468 t469 t472).bind fun t495 => (if t495 = true then ((jy.f t460 t461 t464).bind fun t496 => (if (t496 == (a0 == 0)) = true then ((vB.f kj24 a0).bind fun bt497 => ((jQ.f kj24 t460 t461 t464 bt497.1 bt497.2.1 bt497.2.2).bind fun t504 => (if t504 = true then ((je.f kj24).bind fun t505 => (some t505)) else (some false)))) else (some false))) else (some false))) else (some false))) else (some false)))) else (some false)) = some true := H
      have A29 := jA.mk A290
      clear A290
      by_cases c30 : t485 = (wrap64 (-x6_24))
      ·
       rw [if_pos c30] at H
       have c30b0 : (t485 == (wrap64 (-x6_24))) = true := beq_iff_eq.mpr c30
       have c30b1 : (t485 != (wrap64 (-x6_24))) = false := bne_eq_false_iff_eq.mpr c30
       clear c30
       replace H := Option.bind_eq_some_iff.mp H
       obtain ⟨⟨t486, t487, t490⟩, A310, H⟩ := H
       replace H : ((zN.f kj24 t486 t487 t490 t460 t461 t464).bind fun t493 => (if t493 = true then ((jm.f kj24 t460 t461 t464).bind fun t494 => (if t494 = true then ((jm.f kj24 t468 t469 t472).bind fun t495 => (if t495 = true then ((jy.f t460 t461 t464).bind fun t496 => (if (t496 == (a0 == 0)) = true then ((vB.f kj24 a0).bind fun bt497 => ((jQ.f kj24 t460 t461 t464 bt497.1 bt497.2.1 bt497.2.2).bind fun t504 => (if t504 = true then ((je.f kj24).bind fun t505 => (some t505)) else (some false)))) else (some false))) else (some false))) else (some false))) else (some false))) = some true := H
       have A31 := jA.mk A310
       clear A310
       replace H := Option.bind_eq_some_iff.mp H
       obtain ⟨t493, A320, H⟩ := H
       replace H : (if t493 = true then ((jm.f kj24 t460 t461 t464).bind fun t494 => (if t494 = true then ((jm.f kj24 t468 t469 t472).bind fun t495 => (if t495 = true then ((jy.f t460 t461 t464).bind fun t496 => (if (t496 == (a0 == 0)) = true then ((vB.f kj24 a0).bind fun bt497 => ((jQ.f kj24 t460 t461 t464 bt497.1 bt497.2.1 bt497.2.2).bind fun t504 => (if t504 = true then ((je.f kj24).bind fun t505 => (some t505)) else (some false)))) else (some false))) else (some false))) else (some false))) else (some false)) = some true := H
       have A32 := jA.mk A320
       clear A320
       by_cases c33 : t493 = true
       ·
        subst c33
        have H1 : ((jm.f kj24 t460 t461 t464).bind fun t494 => (if t494 = true then ((jm.f kj24 t468 t469 t472).bind fun t495 => (if t495 = true then ((jy.f t460 t461 t464).bind fun t496 => (if (t496 == (a0 == 0)) = true then ((vB.f kj24 a0).bind fun bt497 => ((jQ.f kj24 t460 t461 t464 bt497.1 bt497.2.1 bt497.2.2).bind fun t504 => (if t504 = true then ((je.f kj24).bind fun t505 => (some t505)) else (some false)))) else (some false))) else (some false))) else (some false))) = some true := by rw [if_pos rfl] at H; exact H
        clear H
        have H := H1
        clear H1
        replace H := Option.bind_eq_some_iff.mp H
        obtain ⟨t494, A340, H⟩ := H
        replace H : (if t494 = true then ((jm.f kj24 t468 t469 t472).bind fun t495 => (if t495 = true then ((jy.f t460 t461 t464).bind fun t496 => (if (t496 == (a0 == 0)) = true then ((vB.f kj24 a0).bind fun bt497 => ((jQ.f kj24 t460 t461 t464 bt497.1 bt497.2.1 bt497.2.2).bind fun t504 => (if t504 = true then ((je.f kj24).bind fun t505 => (some t505)) else (some false)))) else (some false))) else (some false))) else (some false)) = some true := H
        have A34 := jA.mk A340
        clear A340
        by_cases c35 : t494 = true
        ·
         subst c35
         have H1 : ((jm.f kj24 t468 t469 t472).bind fun t495 => (if t495 = true then ((jy.f t460 t461 t464).bind fun t496 => (if (t496 == (a0 == 0)) = true then ((vB.f kj24 a0).bind fun bt497 => ((jQ.f kj24 t460 t461 t464 bt497.1 bt497.2.1 bt497.2.2).bind fun t504 => (if t504 = true then ((je.f kj24).bind fun t505 => (some t505)) else (some false)))) else (some false))) else (some false))) = some true := by rw [if_pos rfl] at H; exact H
         clear H
         have H := H1
         clear H1
         replace H := Option.bind_eq_some_iff.mp H
         obtain ⟨t495, A360, H⟩ := H
         replace H : (if t495 = true then ((jy.f t460 t461 t464).bind fun t496 => (if (t496 == (a0 == 0)) = true then ((vB.f kj24 a0).bind fun bt497 => ((jQ.f kj24 t460 t461 t464 bt497.1 bt497.2.1 bt497.2.2).bind fun t504 => (if t504 = true then ((je.f kj24).bind fun t505 => (some t505)) else (some false)))) else (some false))) else (some false)) = some true := H
         have A36 := jA.mk A360
         clear A360
         by_cases c37 : t495 = true
         ·
          subst c37
          have H1 : ((jy.f t460 t461 t464).bind fun t496 => (if (t496 == (a0 == 0)) = true then ((vB.f kj24 a0).bind fun bt497 => ((jQ.f kj24 t460 t461 t464 bt497.1 bt497.2.1 bt497.2.2).bind fun t504 => (if t504 = true then ((je.f kj24).bind fun t505 => (some t505)) else (some false)))) else (some false))) = some true := by rw [if_pos rfl] at H; exact H
          clear H
          have H := H1
          clear H1
          replace H := Option.bind_eq_some_iff.mp H
          obtain ⟨t496, A380, H⟩ := H
          replace H : (if (t496 == (a0 == 0)) = true then ((vB.f kj24 a0).bind fun bt497 => ((jQ.f kj24 t460 t461 t464 bt497.1 bt497.2.1 bt497.2.2).bind fun t504 => (if t504 = true then ((je.f kj24).bind fun t505 => (some t505)) else (some false)))) else (some false)) = some true := H
          have A38 := jA.mk A380
          clear A380
          by_cases c39 : (t496 == (a0 == 0)) = true
          ·
           rw [if_pos c39] at H
           have c39b0 : (t496 == (a0 == 0)) = true := c39
           (try (have c39b1 : decide (t496 = (a0 == 0)) = true := by simpa using c39))
           (try (have c39b2 : (t496 == (a0 == 0)) = true := by simpa using c39))
           clear c39
           replace H := Option.bind_eq_some_iff.mp H
           obtain ⟨⟨t497, t498, t501⟩, A400, H⟩ := H
           replace H : ((jQ.f kj24 t460 t461 t464 t497 t498 t501).bind fun t504 => (if t504 = true then ((je.f kj24).bind fun t505 => (some t505)) else (some false))) = some true := H
           have A40 := jA.mk A400
           clear A400
           replace H := Option.bind_eq_some_iff.mp H
           obtain ⟨t504, A410, H⟩ := H
           replace H : (if t504 = true then ((je.f kj24).bind fun t505 => (some t505)) else (some false)) = some true := H
           have A41 := jA.mk A410
           clear A410
           by_cases c42 : t504 = true
           ·
            subst c42
            have H1 : ((je.f kj24).bind fun t505 => (some t505)) = some true := by rw [if_pos rfl] at H; exact H
            clear H
            have H := H1
            clear H1
            replace H := Option.bind_eq_some_iff.mp H
            obtain ⟨t505, A430, H⟩ := H
            replace H : (some t505) = some true := H
            have A43 := jA.mk A430
            clear A430
            have HRT_ := jA.mk (Option.some.inj H)
            clear H
            try go_wp2
            have n0_ := jA.mk (Kd.zY HO_468001.out)
            have n1_ := jA.mk (Kd.zY HO_468002.out)
            have n2_ := jA.mk (Kd.zY HO_476001.out)
            have n3_ := jA.mk (Kd.zY HO_476002.out)
            have n4_ := jA.mk (Kd.zY HO_484001.out)
            have n5_ := jA.mk (Kd.zY HO_484002.out)
            have n6_ := jA.mk (vH BK467.out)
            have n7_ := jA.mk (vH BK475.out)
            have n8_ := jA.mk (vH BK483.out)
            have n9_ := jA.mk (qH HB.out)
            clear HO_468001
            clear HO_468002
            clear HO_476001
            clear HO_476002
            clear HO_484001
            clear HO_484002
            clear BK467
            clear BK475
            clear BK483
            clear HB
            have HO_468001 := n0_
            have HO_468002 := n1_
            have HO_476001 := n2_
            have HO_476002 := n3_
            have HO_484001 := n4_
            have HO_484002 := n5_
            have BK467 := n6_
            have BK475 := n7_
            have BK483 := n8_
            have HB := n9_
            clear n0_ n1_ n2_ n3_ n4_ n5_ n6_ n7_ n8_ n9_
            refine jAj (n := 44) (S := fun w' => w'.cell? ⟨gb467, 0, none⟩ = some (.bool t460) ∧ w'.cell? ⟨gb467, 1, none⟩ = some (.slice Ao9 t461.length co9) ∧ w'.cell? ⟨gb467, 2, none⟩ = some (.slice Ao10 t464.length co10) ∧ w'.cell? ⟨gb483, 0, none⟩ = some (.bool t476) ∧ w'.cell? ⟨gb483, 1, none⟩ = some (.slice Ao22 t477.length co22) ∧ w'.cell? ⟨gb483, 2, none⟩ = some (.slice Ao23 t480.length co23) ∧ w'.cell? ⟨gb475, 0, none⟩ = some (.bool t468) ∧ w'.cell? ⟨gb475, 1, none⟩ = some (.slice Ao15 t469.length co15) ∧ w'.cell? ⟨gb475, 2, none⟩ = some (.slice Ao16 t472.length co16)) (ds := []) #[false, false, false, false, false, false, false, false, false, false, false, false, false, false, false, false, false, false, false, false, false, false, false, false, false, false, false, false, false, false, false, false, false, false, false, false, false, false, false, false, false, false, false, false] kr_ rfl rfl ⟨(jB BK467.out 0).trans rfl, (jB BK467.out 1).trans rfl, (jB BK467.out 2).trans rfl, (jB BK483.out 0).trans rfl, (jB BK483.out 1).trans rfl, (jB BK483.out 2).trans rfl, (jB BK475.out 0).trans rfl, (jB BK475.out 1).trans rfl, (jB BK475.out 2).trans rfl⟩ (fun hHeld => ?_); refine jAX syzygylaw05_RatioSigns.tab9 syzygylaw05_RatioSigns.jIG (fun HT_ HW_ => ?_)
            generalize wc.drew = w44 at HO_468001 HO_468002 HO_476001 HO_476002 HO_484001 HO_484002 BK467 BK475 BK483 HB hHeld ⊢
            refine vQ (i := 3) (N := some 19) (v := ?_) (a' := ?_) #[false, false, false, true, false, false, false, false, false, false, false, false, false, false, false, false, false, false, false, false, false, false, false, false, false, false, false, false, false, false, false, false, false, false, false, false, false, false, false, false, false, false, false, false] rfl rfl (vT HT_.out kr_) (fun _ _ _ h => h) (Or.inl ⟨by rfl, ?_⟩) ?_ ?_
            rotate_left
            ·
             intro w'
             go_simp
             with_reducible rfl
            rotate_left
            ·
             simp only [Act.put, ss_, jc, ji]
             rfl
            refine qA (i := 0) (N := some 16) (v := ?_) (a' := ?_) #[true, false, false, true, false, false, false, false, false, false, false, false, false, false, false, false, false, false, false, false, false, false, false, false, false, false, false, false, false, false, false, false, false, false, false, false, false, false, false, false, false, false, false, false] rfl rfl (zX HT_.out HW_.out kr_) (fun _ _ _ h => h) (Or.inl ⟨by rfl, ?_⟩) hHeld ?_ ?_
            rotate_left
            ·
             rintro w' ⟨s0, s1, s2, s3, s4, s5, s6, s7, s8⟩
             go_simp
             with_reducible rfl
            rotate_left
            ·
             simp only [Act.put, ss_, jc, ji]
             rfl
            refine qA (i := 1) (N := some 17) (v := ?_) (a' := ?_) #[true, true, false, true, false, false, false, false, false, false, false, false, false, false, false, false, false, false, false, false, false, false, false, false, false, false, false, false, false, false, false, false, false, false, false, false, false, false, false, false, false, false, false, false] rfl rfl (zX HT_.out HW_.out kr_) (fun _ _ _ h => h) (Or.inl ⟨by rfl, ?_⟩) hHeld ?_ ?_
            rotate_left
            ·
             rintro w' ⟨s0, s1, s2, s3, s4, s5, s6, s7, s8⟩
             go_simp
             with_reducible rfl
            rotate_left
            ·
             simp only [Act.put, ss_, jc, ji]
             rfl
            refine one_ (i := 2) (N := some 18) #[true, true, true, true, false, false, false, false, false, false, false, false, false, false, false, false, false, false, false, false, false, false, false, false, false, false, false, false, false, false, false, false, false, false, false, false, false, false, false, false, false, false, false, false] rfl rfl (qm HT_.out kr_) (by decide) (fun K hK => ?_)
            refine jAR Try.func55 kr_ rfl #[.agg #[.bool t460, .slice Ao9 t461.length co9, .slice Ao10 t464.length co10], .agg #[.bool t476, .slice Ao22 t477.length co22, .slice Ao23 t480.length co23]] (by rfl) rfl rfl (by (try simp only [List.map_toArray, List.map_cons, List.map_nil]); first | done | rfl | (simp only [List.length_drop, List.length_take]; rfl)) ?_
            with_reducible refine (vM.calls kj24 t460 _ _ t461 _ _ t464 t476 _ _ t477 _ _ t480 t484 _ ?side1 ?side2 ?side3 ?side4 ?side5 ?side6 ?side7 ?side8 A27.out).mono ?_
            (case side1 => exact cc_ (Kd.jG HO_468001.out).2.2)
            (case side2 => exact (Kd.jG HO_468001.out).2.1)
            (case side3 => exact cc_ (Kd.jG HO_468002.out).2.2)
            (case side4 => exact (Kd.jG HO_468002.out).2.1)
            (case side5 => exact cc_ (Kd.jG HO_484001.out).2.2)
            (case side6 => exact (Kd.jG HO_484001.out).2.1)
            (case side7 => exact cc_ (Kd.jG HO_484002.out).2.2)
            (case side8 => exact (Kd.jG HO_484002.out).2.1)
            rintro e w45 ⟨rfl, hb⟩
            refine ⟨_, rfl, ?_⟩
            have n0_ := jA.mk (Kd.jO (rR_ HO_468001) hb)
            have n1_ := jA.mk (Kd.jO (rR_ HO_468002) hb)
            have n2_ := jA.mk (Kd.jO (rR_ HO_476001) hb)
            have n3_ := jA.mk (Kd.jO (rR_ HO_476002) hb)
            have n4_ := jA.mk (Kd.jO (rR_ HO_484001) hb)
            have n5_ := jA.mk (Kd.jO (rR_ HO_484002) hb)
            have n6_ := jA.mk (bl_ BK467 hb)
            have n7_ := jA.mk (bl_ BK475 hb)
            have n8_ := jA.mk (bl_ BK483 hb)
            have n9_ := jA.mk (jE (bb3_ HB GE467 GE475 GE483) hb)
            clear HO_468001
            clear HO_468002
            clear HO_476001
            clear HO_476002
            clear HO_484001
            clear HO_484002
            clear BK467
            clear BK475
            clear BK483
            clear HB
            have HO_468001 := n0_
            have HO_468002 := n1_
            have HO_476001 := n2_
            have HO_476002 := n3_
            have HO_484001 := n4_
            have HO_484002 := n5_
            have BK467 := n6_
            have BK475 := n7_
            have BK483 := n8_
            have HB := n9_
            clear n0_ n1_ n2_ n3_ n4_ n5_ n6_ n7_ n8_ n9_
            (try clear hb)
            (try clear hb2)
            (try clear hk)
            (try clear hi)
            refine hK.out _ _ ⟨(jB BK467.out 0).trans rfl, (jB BK467.out 1).trans rfl, (jB BK467.out 2).trans rfl, (jB BK483.out 0).trans rfl, (jB BK483.out 1).trans rfl, (jB BK483.out 2).trans rfl, (jB BK475.out 0).trans rfl, (jB BK475.out 1).trans rfl, (jB BK475.out 2).trans rfl⟩ (fun hHeld => ?_)
            clear hK K
            refine qx (a' := ?_) ?_ ?_
            rotate_left
            ·
             show Act.put _ (some 18) _ = _
             simp only [Act.put, ss_, jc, ji]
             rfl
            refine vQ (i := 4) (N := some 20) (v := ?_) (a' := ?_) #[true, true, true, true, true, false, false, false, false, false, false, false, false, false, false, false, false, false, false, false, false, false, false, false, false, false, false, false, false, false, false, false, false, false, false, false, false, false, false, false, false, false, false, false] rfl rfl (vT HT_.out kr_) (fun _ _ _ h => h) (Or.inl ⟨by rfl, ?_⟩) ?_ ?_
            rotate_left
            ·
             intro w'
             go_simp
             with_reducible rfl
            rotate_left
            ·
             simp only [Act.put, ss_, jc, ji]
             rfl
            refine vQ (i := 5) (N := some 21) (v := ?_) (a' := ?_) #[true, true, true, true, true, true, false, false, false, false, false, false, false, false, false, false, false, false, false, false, false, false, false, false, false, false, false, false, false, false, false, false, false, false, false, false, false, false, false, false, false, false, false, false] rfl rfl (vT HT_.out kr_) (fun _ _ _ h => h) (Or.inl ⟨by rfl, ?_⟩) ?_ ?_
            rotate_left
            ·
             intro w'
             go_simp
             with_reducible rfl
            rotate_left
            ·
             simp only [Act.put, ss_, jc, ji]
             rfl
            refine vQ (i := 9) (N := some 25) (v := ?_) (a' := ?_) #[true, true, true, true, true, true, false, false, false, true, false, false, false, false, false, false, false, false, false, false, false, false, false, false, false, false, false, false, false, false, false, false, false, false, false, false, false, false, false, false, false, false, false, false] rfl rfl (vT HT_.out kr_) (fun _ _ _ h => h) (Or.inl ⟨by rfl, ?_⟩) ?_ ?_
            rotate_left
            ·
             intro w'
             go_simp
             with_reducible rfl
            rotate_left
            ·
             simp only [Act.put, ss_, jc, ji]
             rfl
            refine vQ (i := 10) (N := some 26) (v := ?_) (a' := ?_) #[true, true, true, true, true, true, false, false, false, true, true, false, false, false, false, false, false, false, false, false, false, false, false, false, false, false, false, false, false, false, false, false, false, false, false, false, false, false, false, false, false, false, false, false] rfl rfl (vT HT_.out kr_) (fun _ _ _ h => h) (Or.inl ⟨by rfl, ?_⟩) ?_ ?_
            rotate_left
            ·
             intro w'
             go_simp
             with_reducible rfl
            rotate_left
            ·
             simp only [Act.put, ss_, jc, ji]
             rfl
            refine qA (i := 6) (N := some 22) (v := ?_) (a' := ?_) #[true, true, true, true, true, true, true, false, false, true, true, false, false, false, false, false, false, false, false, false, false, false, false, false, false, false, false, false, false, false, false, false, false, false, false, false, false, false, false, false, false, false, false, false] rfl rfl (zX HT_.out HW_.out kr_) (fun _ _ _ h => h) (Or.inl ⟨by rfl, ?_⟩) hHeld ?_ ?_
            rotate_left
            ·
             rintro w' ⟨s0, s1, s2, s3, s4, s5, s6, s7, s8⟩
             go_simp
             with_reducible rfl
            rotate_left
            ·
             simp only [Act.put, ss_, jc, ji]
             rfl
            refine qA (i := 7) (N := some 23) (v := ?_) (a' := ?_) #[true, true, true, true, true, true, true, true, false, true, true, false, false, false, false, false, false, false, false, false, false, false, false, false, false, false, false, false, false, false, false, false, false, false, false, false, false, false, false, false, false, false, false, false] rfl rfl (zX HT_.out HW_.out kr_) (fun _ _ _ h => h) (Or.inl ⟨by rfl, ?_⟩) hHeld ?_ ?_
            rotate_left
            ·
             rintro w' ⟨s0, s1, s2, s3, s4, s5, s6, s7, s8⟩
             go_simp
             with_reducible rfl
            rotate_left
            ·
             simp only [Act.put, ss_, jc, ji]
             rfl
            refine one_ (i := 8) (N := some 24) #[true, true, true, true, true, true, true, true, true, true, true, false, false, false, false, false, false, false, false, false, false, false, false, false, false, false, false, false, false, false, false, false, false, false, false, false, false, false, false, false, false, false, false, false] rfl rfl (qm HT_.out kr_) (by decide) (fun K hK => ?_)
            refine jAR Try.func55 kr_ rfl #[.agg #[.bool t468, .slice Ao15 t469.length co15, .slice Ao16 t472.length co16], .agg #[.bool t476, .slice Ao22 t477.length co22, .slice Ao23 t480.length co23]] (by rfl) rfl rfl (by (try simp only [List.map_toArray, List.map_cons, List.map_nil]); first | done | rfl | (simp only [List.length_drop, List.length_take]; rfl)) ?_
            with_reducible refine (vM.calls kj24 t468 _ _ t469 _ _ t472 t476 _ _ t477 _ _ t480 t485 _ ?side1 ?side2 ?side3 ?side4 ?side5 ?side6 ?side7 ?side8 A29.out).mono ?_
            (case side1 => exact cc_ (Kd.jG HO_476001.out).2.2)
            (case side2 => exact (Kd.jG HO_476001.out).2.1)
            (case side3 => exact cc_ (Kd.jG HO_476002.out).2.2)
            (case side4 => exact (Kd.jG HO_476002.out).2.1)
            (case side5 => exact cc_ (Kd.jG HO_484001.out).2.2)
            (case side6 => exact (Kd.jG HO_484001.out).2.1)
            (case side7 => exact cc_ (Kd.jG HO_484002.out).2.2)
            (case side8 => exact (Kd.jG HO_484002.out).2.1)
            rintro e w46 ⟨rfl, hb⟩
            refine ⟨_, rfl, ?_⟩
            have n0_ := jA.mk (Kd.jO (rR_ HO_468001) hb)
            have n1_ := jA.mk (Kd.jO (rR_ HO_468002) hb)
            have n2_ := jA.mk (Kd.jO (rR_ HO_476001) hb)
            have n3_ := jA.mk (Kd.jO (rR_ HO_476002) hb)
            have n4_ := jA.mk (Kd.jO (rR_ HO_484001) hb)
            have n5_ := jA.mk (Kd.jO (rR_ HO_484002) hb)
            have n6_ := jA.mk (bl_ BK467 hb)
            have n7_ := jA.mk (bl_ BK475 hb)
            have n8_ := jA.mk (bl_ BK483 hb)
            have n9_ := jA.mk (jE (bb3_ HB GE467 GE475 GE483) hb)
            clear HO_468001
            clear HO_468002
            clear HO_476001
            clear HO_476002
            clear HO_484001
            clear HO_484002
            clear BK467
            clear BK475
            clear BK483
            clear HB
            have HO_468001 := n0_
            have HO_468002 := n1_
            have HO_476001 := n2_
            have HO_476002 := n3_
            have HO_484001 := n4_
            have HO_484002 := n5_
            have BK467 := n6_
            have BK475 := n7_
            have BK483 := n8_
            have HB := n9_
            clear n0_ n1_ n2_ n3_ n4_ n5_ n6_ n7_ n8_ n9_
            (try clear hb)
            (try clear hb2)
            (try clear hk)
            (try clear hi)
            refine hK.out _ _ ⟨(jB BK467.out 0).trans rfl, (jB BK467.out 1).trans rfl, (jB BK467.out 2).trans rfl, (jB BK483.out 0).trans rfl, (jB BK483.out 1).trans rfl, (jB BK483.out 2).trans rfl, (jB BK475.out 0).trans rfl, (jB BK475.out 1).trans rfl, (jB BK475.out 2).trans rfl⟩ (fun hHeld => ?_)
            clear hK K
            refine qx (a' := ?_) ?_ ?_
            rotate_left
            ·
             show Act.put _ (some 24) _ = _
             simp only [Act.put, ss_, jc, ji]
             rfl
            refine vQ (i := 11) (N := some 27) (v := ?_) (a' := ?_) #[true, true, true, true, true, true, true, true, true, true, true, true, false, false, false, false, false, false, false, false, false, false, false, false, false, false, false, false, false, false, false, false, false, false, false, false, false, false, false, false, false, false, false, false] rfl rfl (vT HT_.out kr_) (fun _ _ _ h => h) (Or.inl ⟨by rfl, ?_⟩) ?_ ?_
            rotate_left
            ·
             intro w'
             go_simp
             with_reducible rfl
            rotate_left
            ·
             simp only [Act.put, ss_, jc, ji]
             rfl
            refine vQ (i := 12) (N := some 28) (v := ?_) (a' := ?_) #[true, true, true, true, true, true, true, true, true, true, true, true, true, false, false, false, false, false, false, false, false, false, false, false, false, false, false, false, false, false, false, false, false, false, false, false, false, false, false, false, false, false, false, false] rfl rfl (vT HT_.out kr_) (fun _ _ _ h => h) (Or.inl ⟨by rfl, ?_⟩) ?_ ?_
            rotate_left
            ·
             intro w'
             go_simp
             with_reducible rfl
            rotate_left
            ·
             simp only [Act.put, ss_, jc, ji]
             rfl
            refine vQ (i := 13) (N := some 29) (v := ?_) (a' := ?_) #[true, true, true, true, true, true, true, true, true, true, true, true, true, true, false, false, false, false, false, false, false, false, false, false, false, false, false, false, false, false, false, false, false, false, false, false, false, false, false, false, false, false, false, false] rfl rfl (vT HT_.out kr_) (fun _ _ _ h => h) (Or.inl ⟨by rfl, ?_⟩) ?_ ?_
            rotate_left
            ·
             intro w'
             go_simp
             with_reducible rfl
            rotate_left
            ·
             simp only [Act.put, ss_, jc, ji]
             rfl
            refine qA (i := 14) (N := some 30) (v := ?_) (a' := ?_) #[true, true, true, true, true, true, true, true, true, true, true, true, true, true, true, false, false, false, false, false, false, false, false, false, false, false, false, false, false, false, false, false, false, false, false, false, false, false, false, false, false, false, false, false] rfl rfl (zX HT_.out HW_.out kr_) (fun _ _ _ h => h) (Or.inl ⟨by rfl, ?_⟩) hHeld ?_ ?_
            rotate_left
            ·
             rintro w' ⟨s0, s1, s2, s3, s4, s5, s6, s7, s8⟩
             go_simp
             with_reducible rfl
            rotate_left
            ·
             simp only [Act.put, ss_, jc, ji]
             rfl
            refine qA (i := 16) (N := some 32) (v := ?_) (a' := ?_) #[true, true, true, true, true, true, true, true, true, true, true, true, true, true, true, false, true, false, false, false, false, false, false, false, false, false, false, false, false, false, false, false, false, false, false, false, false, false, false, false, false, false, false, false] rfl rfl (zX HT_.out HW_.out kr_) (fun _ _ _ h => h) (Or.inl ⟨by rfl, ?_⟩) hHeld ?_ ?_
            rotate_left
            ·
             rintro w' ⟨s0, s1, s2, s3, s4, s5, s6, s7, s8⟩
             go_simp
             with_reducible rfl
            rotate_left
            ·
             simp only [Act.put, ss_, jc, ji]
             rfl
            refine one_ (i := 15) (N := some 31) #[true, true, true, true, true, true, true, true, true, true, true, true, true, true, true, true, true, false, false, false, false, false, false, false, false, false, false, false, false, false, false, false, false, false, false, false, false, false, false, false, false, false, false, false] rfl rfl (qm HT_.out kr_) (by decide) (fun K hK => ?_)
            refine jAR Try.func52 kr_ rfl #[.agg #[.bool t468, .slice Ao15 t469.length co15, .slice Ao16 t472.length co16]] (by rfl) rfl rfl (by (try simp only [List.map_toArray, List.map_cons, List.map_nil]); first | done | rfl | (simp only [List.length_drop, List.length_take]; rfl)) ?_
            with_reducible refine (zJ.calls t468 _ _ t469 _ _ t472 t486 t487 t490 _ ?side1 ?side2 ?side3 ?side4 A31.out).mono ?_
            (case side1 => exact cc_ (Kd.jG HO_476001.out).2.2)
            (case side2 => exact (Kd.jG HO_476001.out).2.1)
            (case side3 => exact cc_ (Kd.jG HO_476002.out).2.2)
            (case side4 => exact (Kd.jG HO_476002.out).2.1)
            rintro e w47 ⟨v488, v491, rfl, ho0, ho1, hb⟩
            refine ⟨_, rfl, ?_⟩
            have n0_ := jA.mk (Kd.jM (Kd.vL (Kd.vL (Kd.qK (rR_ HO_468001) hb) (Kd.jS ho0)) (Kd.jS ho1)) (fun _ h_ => h_.1))
            have n1_ := jA.mk (Kd.jM (Kd.vL (Kd.vL (Kd.qK (rR_ HO_468002) hb) (Kd.jS ho0)) (Kd.jS ho1)) (fun _ h_ => h_.1))
            have n2_ := jA.mk (Kd.jM (Kd.vL (Kd.vL (Kd.qK (rR_ HO_476001) hb) (Kd.jS ho0)) (Kd.jS ho1)) (fun _ h_ => h_.1))
            have n3_ := jA.mk (Kd.jM (Kd.vL (Kd.vL (Kd.qK (rR_ HO_476002) hb) (Kd.jS ho0)) (Kd.jS ho1)) (fun _ h_ => h_.1))
            have n4_ := jA.mk (Kd.jM (Kd.vL (Kd.vL (Kd.qK (rR_ HO_484001) hb) (Kd.jS ho0)) (Kd.jS ho1)) (fun _ h_ => h_.1))
            have n5_ := jA.mk (Kd.jM (Kd.vL (Kd.vL (Kd.qK (rR_ HO_484002) hb) (Kd.jS ho0)) (Kd.jS ho1)) (fun _ h_ => h_.1))
            have n6_ := jA.mk (Kd.jV (Kd.jY (Kd.jY (Kd.jY (Kd.jY (Kd.jY (Kd.jY ho0 (Kd.R_lt (rR_ HO_468001))) (Kd.R_lt (rR_ HO_468002))) (Kd.R_lt (rR_ HO_476001))) (Kd.R_lt (rR_ HO_476002))) (Kd.R_lt (rR_ HO_484001))) (Kd.R_lt (rR_ HO_484002))) (jC (bb3_ HB GE467 GE475 GE483)))
            have n7_ := jA.mk (Kd.jV (Kd.jY (Kd.jY (Kd.jY (Kd.jY (Kd.jY (Kd.jY ho1 (Kd.R_lt (rR_ HO_468001))) (Kd.R_lt (rR_ HO_468002))) (Kd.R_lt (rR_ HO_476001))) (Kd.R_lt (rR_ HO_476002))) (Kd.R_lt (rR_ HO_484001))) (Kd.R_lt (rR_ HO_484002))) (jC (bb3_ HB GE467 GE475 GE483)))
            have n8_ := jA.mk (bl_ BK467 hb)
            have n9_ := jA.mk (bl_ BK475 hb)
            have n10_ := jA.mk (bl_ BK483 hb)
            have n11_ := jA.mk (jE (bb3_ HB GE467 GE475 GE483) hb)
            clear HO_468001
            clear HO_468002
            clear HO_476001
            clear HO_476002
            clear HO_484001
            clear HO_484002
            clear BK467
            clear BK475
            clear BK483
            clear HB
            have HO_468001 := n0_
            have HO_468002 := n1_
            have HO_476001 := n2_
            have HO_476002 := n3_
            have HO_484001 := n4_
            have HO_484002 := n5_
            have HO489 := n6_
            have HO492 := n7_
            have BK467 := n8_
            have BK475 := n9_
            have BK483 := n10_
            have HB := n11_
            clear n0_ n1_ n2_ n3_ n4_ n5_ n6_ n7_ n8_ n9_ n10_ n11_
            (try clear hb)
            (try clear hb2)
            (try clear hk)
            (try clear hi)
            (try clear ho0)
            (try clear ho1)
            obtain ⟨Ao48, co48, eo48⟩ := Kd.jf HO489.out
            (first | subst eo48 | (injection eo48 with f1_ f2_ f3_; have f4_ := f1_.symm; have f5_ := f3_.symm; clear f1_ f2_ f3_; subst f4_; subst f5_))
            obtain ⟨Ao49, co49, eo49⟩ := Kd.jf HO492.out
            (first | subst eo49 | (injection eo49 with f1_ f2_ f3_; have f4_ := f1_.symm; have f5_ := f3_.symm; clear f1_ f2_ f3_; subst f4_; subst f5_))
            refine hK.out _ _ ⟨(jB BK467.out 0).trans rfl, (jB BK467.out 1).trans rfl, (jB BK467.out 2).trans rfl, (jB BK483.out 0).trans rfl, (jB BK483.out 1).trans rfl, (jB BK483.out 2).trans rfl, (jB BK475.out 0).trans rfl, (jB BK475.out 1).trans rfl, (jB BK475.out 2).trans rfl⟩ (fun hHeld => ?_)
            clear hK K
            refine qx (a' := ?_) ?_ ?_
            rotate_left
            ·
             show Act.put _ (some 31) _ = _
             simp only [Act.put, ss_, jc, ji]
             rfl
            refine one_ (i := 17) (N := some 33) #[true, true, true, true, true, true, true, true, true, true, true, true, true, true, true, true, true, true, false, false, false, false, false, false, false, false, false, false, false, false, false, false, false, false, false, false, false, false, false, false, false, false, false, false] rfl rfl (qm HT_.out kr_) (by decide) (fun K hK => ?_)
            refine jAR Try.func56 kr_ rfl #[.agg #[.bool t486, .slice Ao48 t487.length co48, .slice Ao49 t490.length co49], .agg #[.bool t460, .slice Ao9 t461.length co9, .slice Ao10 t464.length co10]] (by rfl) rfl rfl (by (try simp only [List.map_toArray, List.map_cons, List.map_nil]); first | done | rfl | (simp only [List.length_drop, List.length_take]; rfl)) ?_
            with_reducible refine (zN.calls kj24 t486 _ _ t487 _ _ t490 t460 _ _ t461 _ _ t464 true _ ?side1 ?side2 ?side3 ?side4 ?side5 ?side6 ?side7 ?side8 A32.out).mono ?_
            (case side1 => exact cc_ (Kd.jG HO489.out).2.2)
            (case side2 => exact (Kd.jG HO489.out).2.1)
            (case side3 => exact cc_ (Kd.jG HO492.out).2.2)
            (case side4 => exact (Kd.jG HO492.out).2.1)
            (case side5 => exact cc_ (Kd.jG HO_468001.out).2.2)
            (case side6 => exact (Kd.jG HO_468001.out).2.1)
            (case side7 => exact cc_ (Kd.jG HO_468002.out).2.2)
            (case side8 => exact (Kd.jG HO_468002.out).2.1)
            rintro e w50 ⟨rfl, hb⟩
            refine ⟨_, rfl, ?_⟩
            have n0_ := jA.mk (Kd.jO (rR_ HO_468001) hb)
            have n1_ := jA.mk (Kd.jO (rR_ HO_468002) hb)
            have n2_ := jA.mk (Kd.jO (rR_ HO_476001) hb)
            have n3_ := jA.mk (Kd.jO (rR_ HO_476002) hb)
            have n4_ := jA.mk (Kd.jO (rR_ HO_484001) hb)
            have n5_ := jA.mk (Kd.jO (rR_ HO_484002) hb)
            have n6_ := jA.mk (Kd.jO (rR_ HO489) hb)
            have n7_ := jA.mk (Kd.jO (rR_ HO492) hb)
            have n8_ := jA.mk (bl_ BK467 hb)
            have n9_ := jA.mk (bl_ BK475 hb)
            have n10_ := jA.mk (bl_ BK483 hb)
            have n11_ := jA.mk (jE (bb3_ HB GE467 GE475 GE483) hb)
            clear HO_468001
            clear HO_468002
            clear HO_476001
            clear HO_476002
            clear HO_484001
            clear HO_484002
            clear HO489
            clear HO492
            clear BK467
            clear BK475
            clear BK483
            clear HB
            have HO_468001 := n0_
            have HO_468002 := n1_
            have HO_476001 := n2_
            have HO_476002 := n3_
            have HO_484001 := n4_
            have HO_484002 := n5_
            have HO489 := n6_
            have HO492 := n7_
            have BK467 := n8_
            have BK475 := n9_
            have BK483 := n10_
            have HB := n11_
            clear n0_ n1_ n2_ n3_ n4_ n5_ n6_ n7_ n8_ n9_ n10_ n11_
            (try clear hb)
            (try clear hb2)
            (try clear hk)
            (try clear hi)
            refine hK.out _ _ ⟨(jB BK467.out 0).trans rfl, (jB BK467.out 1).trans rfl, (jB BK467.out 2).trans rfl, (jB BK483.out 0).trans rfl, (jB BK483.out 1).trans rfl, (jB BK483.out 2).trans rfl, (jB BK475.out 0).trans rfl, (jB BK475.out 1).trans rfl, (jB BK475.out 2).trans rfl⟩ (fun hHeld => ?_)
            clear hK K
            refine qx (a' := ?_) ?_ ?_
            rotate_left
            ·
             show Act.put _ (some 33) _ = _
             simp only [Act.put, ss_, jc, ji]
             rfl
            refine vQ (i := 18) (N := some 34) (v := ?_) (a' := ?_) #[true, true, true, true, true, true, true, true, true, true, true, true, true, true, true, true, true, true, true, false, false, false, false, false, false, false, false, false, false, false, false, false, false, false, false, false, false, false, false, false, false, false, false, false] rfl rfl (vT HT_.out kr_) (fun _ _ _ h => h) (Or.inl ⟨by rfl, ?_⟩) ?_ ?_
            rotate_left
            ·
             intro w'
             go_simp
             with_reducible rfl
            rotate_left
            ·
             simp only [Act.put, ss_, jc, ji]
             rfl
            refine vQ (i := 19) (N := some 35) (v := ?_) (a' := ?_) #[true, true, true, true, true, true, true, true, true, true, true, true, true, true, true, true, true, true, true, true, false, false, false, false, false, false, false, false, false, false, false, false, false, false, false, false, false, false, false, false, false, false, false, false] rfl rfl (vT HT_.out kr_) (fun _ _ _ h => h) (Or.inl ⟨by rfl, ?_⟩) ?_ ?_
            rotate_left
            ·
             intro w'
             go_simp
             with_reducible rfl
            rotate_left
            ·
             simp only [Act.put, ss_, jc, ji]
             rfl
            refine qA (i := 20) (N := some 36) (v := ?_) (a' := ?_) #[true, true, true, true, true, true, true, true, true, true, true, true, true, true, true, true, true, true, true, true, true, false, false, false, false, false, false, false, false, false, false, false, false, false, false, false, false, false, false, false, false, false, false, false] rfl rfl (zX HT_.out HW_.out kr_) (fun _ _ _ h => h) (Or.inl ⟨by rfl, ?_⟩) hHeld ?_ ?_
            rotate_left
            ·
             rintro w' ⟨s0, s1, s2, s3, s4, s5, s6, s7, s8⟩
             go_simp
             with_reducible rfl
            rotate_left
            ·
             simp only [Act.put, ss_, jc, ji]
             rfl
            refine one_ (i := 21) (N := some 37) #[true, true, true, true, true, true, true, true, true, true, true, true, true, true, true, true, true, true, true, true, true, true, false, false, false, false, false, false, false, false, false, false, false, false, false, false, false, false, false, false, false, false, false, false] rfl rfl (qm HT_.out kr_) (by decide) (fun K hK => ?_)
            refine jAR Try.func27 kr_ rfl #[.agg #[.bool t460, .slice Ao9 t461.length co9, .slice Ao10 t464.length co10]] (by rfl) rfl rfl (by (try simp only [List.map_toArray, List.map_cons, List.map_nil]); first | done | rfl | (simp only [List.length_drop, List.length_take]; rfl)) ?_
            with_reducible refine (jm.calls kj24 t460 _ _ t461 _ _ t464 true _ ?side1 ?side2 ?side3 ?side4 A34.out).mono ?_
            (case side1 => exact cc_ (Kd.jG HO_468001.out).2.2)
            (case side2 => exact (Kd.jG HO_468001.out).2.1)
            (case side3 => exact cc_ (Kd.jG HO_468002.out).2.2)
            (case side4 => exact (Kd.jG HO_468002.out).2.1)
            rintro e w51 ⟨rfl, hb⟩
            refine ⟨_, rfl, ?_⟩
            have n0_ := jA.mk (Kd.jO (rR_ HO_468001) hb)
            have n1_ := jA.mk (Kd.jO (rR_ HO_468002) hb)
            have n2_ := jA.mk (Kd.jO (rR_ HO_476001) hb)
            have n3_ := jA.mk (Kd.jO (rR_ HO_476002) hb)
            have n4_ := jA.mk (Kd.jO (rR_ HO_484001) hb)
            have n5_ := jA.mk (Kd.jO (rR_ HO_484002) hb)
            have n6_ := jA.mk (Kd.jO (rR_ HO489) hb)
            have n7_ := jA.mk (Kd.jO (rR_ HO492) hb)
            have n8_ := jA.mk (bl_ BK467 hb)
            have n9_ := jA.mk (bl_ BK475 hb)
            have n10_ := jA.mk (bl_ BK483 hb)
            have n11_ := jA.mk (jE (bb3_ HB GE467 GE475 GE483) hb)
            clear HO_468001
            clear HO_468002
            clear HO_476001
            clear HO_476002
            clear HO_484001
            clear HO_484002
            clear HO489
            clear HO492
            clear BK467
            clear BK475
            clear BK483
            clear HB
            have HO_468001 := n0_
            have HO_468002 := n1_
            have HO_476001 := n2_
            have HO_476002 := n3_
            have HO_484001 := n4_
            have HO_484002 := n5_
            have HO489 := n6_
            have HO492 := n7_
            have BK467 := n8_
            have BK475 := n9_
            have BK483 := n10_
            have HB := n11_
            clear n0_ n1_ n2_ n3_ n4_ n5_ n6_ n7_ n8_ n9_ n10_ n11_
            (try clear hb)
            (try clear hb2)
            (try clear hk)
            (try clear hi)
            refine hK.out _ _ ⟨(jB BK467.out 0).trans rfl, (jB BK467.out 1).trans rfl, (jB BK467.out 2).trans rfl, (jB BK483.out 0).trans rfl, (jB BK483.out 1).trans rfl, (jB BK483.out 2).trans rfl, (jB BK475.out 0).trans rfl, (jB BK475.out 1).trans rfl, (jB BK475.out 2).trans rfl⟩ (fun hHeld => ?_)
            clear hK K
            refine qx (a' := ?_) ?_ ?_
            rotate_left
            ·
             show Act.put _ (some 37) _ = _
             simp only [Act.put, ss_, jc, ji]
             rfl
            refine vQ (i := 22) (N := some 38) (v := ?_) (a' := ?_) #[true, true, true, true, true, true, true, true, true, true, true, true, true, true, true, true, true, true, true, true, true, true, true, false, false, false, false, false, false, false, false, false, false, false, false, false, false, false, false, false, false, false, false, false] rfl rfl (vT HT_.out kr_) (fun _ _ _ h => h) (Or.inl ⟨by rfl, ?_⟩) ?_ ?_
            rotate_left
            ·
             intro w'
             go_simp
             with_reducible rfl
            rotate_left
            ·
             simp only [Act.put, ss_, jc, ji]
             rfl
            refine vQ (i := 23) (N := some 39) (v := ?_) (a' := ?_) #[true, true, true, true, true, true, true, true, true, true, true, true, true, true, true, true, true, true, true, true, true, true, true, true, false, false, false, false, false, false, false, false, false, false, false, false, false, false, false, false, false, false, false, false] rfl rfl (vT HT_.out kr_) (fun _ _ _ h => h) (Or.inl ⟨by rfl, ?_⟩) ?_ ?_
            rotate_left
            ·
             intro w'
             go_simp
             with_reducible rfl
            rotate_left
            ·
             simp only [Act.put, ss_, jc, ji]
             rfl
            refine qA (i := 24) (N := some 40) (v := ?_) (a' := ?_) #[true, true, true, true, true, true, true, true, true, true, true, true, true, true, true, true, true, true, true, true, true, true, true, true, true, false, false, false, false, false, false, false, false, false, false, false, false, false, false, false, false, false, false, false] rfl rfl (zX HT_.out HW_.out kr_) (fun _ _ _ h => h) (Or.inl ⟨by rfl, ?_⟩) hHeld ?_ ?_
            rotate_left
            ·
             rintro w' ⟨s0, s1, s2, s3, s4, s5, s6, s7, s8⟩
             go_simp
             with_reducible rfl
            rotate_left
            ·
             simp only [Act.put, ss_, jc, ji]
             rfl
            refine one_ (i := 25) (N := some 41) #[true, true, true, true, true, true, true, true, true, true, true, true, true, true, true, true, true, true, true, true, true, true, true, true, true, true, false, false, false, false, false, false, false, false, false, false, false, false, false, false, false, false, false, false] rfl rfl (qm HT_.out kr_) (by decide) (fun K hK => ?_)
            refine jAR Try.func27 kr_ rfl #[.agg #[.bool t468, .slice Ao15 t469.length co15, .slice Ao16 t472.length co16]] (by rfl) rfl rfl (by (try simp only [List.map_toArray, List.map_cons, List.map_nil]); first | done | rfl | (simp only [List.length_drop, List.length_take]; rfl)) ?_
            with_reducible refine (jm.calls kj24 t468 _ _ t469 _ _ t472 true _ ?side1 ?side2 ?side3 ?side4 A36.out).mono ?_
            (case side1 => exact cc_ (Kd.jG HO_476001.out).2.2)
            (case side2 => exact (Kd.jG HO_476001.out).2.1)
            (case side3 => exact cc_ (Kd.jG HO_476002.out).2.2)
            (case side4 => exact (Kd.jG HO_476002.out).2.1)
            rintro e w52 ⟨rfl, hb⟩
            refine ⟨_, rfl, ?_⟩
            have n0_ := jA.mk (Kd.jO (rR_ HO_468001) hb)
            have n1_ := jA.mk (Kd.jO (rR_ HO_468002) hb)
            have n2_ := jA.mk (Kd.jO (rR_ HO_476001) hb)
            have n3_ := jA.mk (Kd.jO (rR_ HO_476002) hb)
            have n4_ := jA.mk (Kd.jO (rR_ HO_484001) hb)
            have n5_ := jA.mk (Kd.jO (rR_ HO_484002) hb)
            have n6_ := jA.mk (Kd.jO (rR_ HO489) hb)
            have n7_ := jA.mk (Kd.jO (rR_ HO492) hb)
            have n8_ := jA.mk (bl_ BK467 hb)
            have n9_ := jA.mk (bl_ BK475 hb)
            have n10_ := jA.mk (bl_ BK483 hb)
            have n11_ := jA.mk (jE (bb3_ HB GE467 GE475 GE483) hb)
            clear HO_468001
            clear HO_468002
            clear HO_476001
            clear HO_476002
            clear HO_484001
            clear HO_484002
            clear HO489
            clear HO492
            clear BK467
            clear BK475
            clear BK483
            clear HB
            have HO_468001 := n0_
            have HO_468002 := n1_
            have HO_476001 := n2_
            have HO_476002 := n3_
            have HO_484001 := n4_
            have HO_484002 := n5_
            have HO489 := n6_
            have HO492 := n7_
            have BK467 := n8_
            have BK475 := n9_
            have BK483 := n10_
            have HB := n11_
            clear n0_ n1_ n2_ n3_ n4_ n5_ n6_ n7_ n8_ n9_ n10_ n11_
            (try clear hb)
            (try clear hb2)
            (try clear hk)
            (try clear hi)
            refine hK.out _ _ ⟨(jB BK467.out 0).trans rfl, (jB BK467.out 1).trans rfl, (jB BK467.out 2).trans rfl, (jB BK483.out 0).trans rfl, (jB BK483.out 1).trans rfl, (jB BK483.out 2).trans rfl, (jB BK475.out 0).trans rfl, (jB BK475.out 1).trans rfl, (jB BK475.out 2).trans rfl⟩ (fun hHeld => ?_)
            clear hK K
            refine qx (a' := ?_) ?_ ?_
            rotate_left
            ·
             show Act.put _ (some 41) _ = _
             simp only [Act.put, ss_, jc, ji]
             rfl
            refine vQ (i := 26) (N := some 42) (v := ?_) (a' := ?_) #[true, true, true, true, true, true, true, true, true, true, true, true, true, true, true, true, true, true, true, true, true, true, true, true, true, true, true, false, false, false, false, false, false, false, false, false, false, false, false, false, false, false, false, false] rfl rfl (vT HT_.out kr_) (fun _ _ _ h => h) (Or.inl ⟨by rfl, ?_⟩) ?_ ?_
            rotate_left
            ·
             intro w'
             go_simp
             with_reducible rfl
            rotate_left
            ·
             simp only [Act.put, ss_, jc, ji]
             rfl
            refine vQ (i := 27) (N := some 43) (v := ?_) (a' := ?_) #[true, true, true, true, true, true, true, true, true, true, true, true, true, true, true, true, true, true, true, true, true, true, true, true, true, true, true, true, false, false, false, false, false, false, false, false, false, false, false, false, false, false, false, false] rfl rfl (vT HT_.out kr_) (fun _ _ _ h => h) (Or.inl ⟨by rfl, ?_⟩) ?_ ?_
            rotate_left
            ·
             intro w'
             go_simp
             with_reducible rfl
            rotate_left
            ·
             simp only [Act.put, ss_, jc, ji]
             rfl
            refine vQ (i := 30) (N := some 46) (v := ?_) (a' := ?_) #[true, true, true, true, true, true, true, true, true, true, true, true, true, true, true, true, true, true, true, true, true, true, true, true, true, true, true, true, false, false, true, false, false, false, false, false, false, false, false, false, false, false, false, false] rfl rfl (vT HT_.out kr_) (fun _ _ _ h => h) (Or.inl ⟨by rfl, ?_⟩) ?_ ?_
            rotate_left
            ·
             intro w'
             go_simp
             with_reducible rfl
            rotate_left
            ·
             simp only [Act.put, ss_, jc, ji]
             rfl
            refine vQ (i := 31) (N := some 47) (v := ?_) (a' := ?_) #[true, true, true, true, true, true, true, true, true, true, true, true, true, true, true, true, true, true, true, true, true, true, true, true, true, true, true, true, false, false, true, true, false, false, false, false, false, false, false, false, false, false, false, false] rfl rfl (vT HT_.out kr_) (fun _ _ _ h => h) (Or.inl ⟨by rfl, ?_⟩) ?_ ?_
            rotate_left
            ·
             intro w'
             go_simp
             with_reducible rfl
            rotate_left
            ·
             simp only [Act.put, ss_, jc, ji]
             rfl
            refine qA (i := 28) (N := some 44) (v := ?_) (a' := ?_) #[true, true, true, true, true, true, true, true, true, true, true, true, true, true, true, true, true, true, true, true, true, true, true, true, true, true, true, true, true, false, true, true, false, false, false, false, false, false, false, false, false, false, false, false] rfl rfl (zX HT_.out HW_.out kr_) (fun _ _ _ h => h) (Or.inl ⟨by rfl, ?_⟩) hHeld ?_ ?_
            rotate_left
            ·
             rintro w' ⟨s0, s1, s2, s3, s4, s5, s6, s7, s8⟩
             go_simp
             with_reducible rfl
            rotate_left
            ·
             simp only [Act.put, ss_, jc, ji]
             rfl
            refine one_ (i := 29) (N := some 45) #[true, true, true, true, true, true, true, true, true, true, true, true, true, true, true, true, true, true, true, true, true, true, true, true, true, true, true, true, true, true, true, true, false, false, false, false, false, false, false, false, false, false, false, false] rfl rfl (qm HT_.out kr_) (by decide) (fun K hK => ?_)
            refine jAR Try.func54 kr_ rfl #[.agg #[.bool t460, .slice Ao9 t461.length co9, .slice Ao10 t464.length co10]] (by rfl) rfl rfl (by (try simp only [List.map_toArray, List.map_cons, List.map_nil]); first | done | rfl | (simp only [List.length_drop, List.length_take]; rfl)) ?_
            with_reducible refine (jy.calls t460 _ _ t461 _ _ t464 t496 _ ?side1 ?side2 ?side3 ?side4 A38.out).mono ?_
            (case side1 => exact cc_ (Kd.jG HO_468001.out).2.2)
            (case side2 => exact (Kd.jG HO_468001.out).2.1)
            (case side3 => exact cc_ (Kd.jG HO_468002.out).2.2)
            (case side4 => exact (Kd.jG HO_468002.out).2.1)
            rintro e w53 ⟨rfl, hb⟩
            refine ⟨_, rfl, ?_⟩
            have n0_ := jA.mk (Kd.jO (rR_ HO_468001) hb)
            have n1_ := jA.mk (Kd.jO (rR_ HO_468002) hb)
            have n2_ := jA.mk (Kd.jO (rR_ HO_476001) hb)
            have n3_ := jA.mk (Kd.jO (rR_ HO_476002) hb)
            have n4_ := jA.mk (Kd.jO (rR_ HO_484001) hb)
            have n5_ := jA.mk (Kd.jO (rR_ HO_484002) hb)
            have n6_ := jA.mk (Kd.jO (rR_ HO489) hb)
            have n7_ := jA.mk (Kd.jO (rR_ HO492) hb)
            have n8_ := jA.mk (bl_ BK467 hb)
            have n9_ := jA.mk (bl_ BK475 hb)
            have n10_ := jA.mk (bl_ BK483 hb)
            have n11_ := jA.mk (jE (bb3_ HB GE467 GE475 GE483) hb)
            clear HO_468001
            clear HO_468002
            clear HO_476001
            clear HO_476002
            clear HO_484001
            clear HO_484002
            clear HO489
            clear HO492
            clear BK467
            clear BK475
            clear BK483
            clear HB
            have HO_468001 := n0_
            have HO_468002 := n1_
            have HO_476001 := n2_
            have HO_476002 := n3_
            have HO_484001 := n4_
            have HO_484002 := n5_
            have HO489 := n6_
            have HO492 := n7_
            have BK467 := n8_
            have BK475 := n9_
            have BK483 := n10_
            have HB := n11_
            clear n0_ n1_ n2_ n3_ n4_ n5_ n6_ n7_ n8_ n9_ n10_ n11_
            (try clear hb)
            (try clear hb2)
            (try clear hk)
            (try clear hi)
            refine hK.out _ _ ⟨(jB BK467.out 0).trans rfl, (jB BK467.out 1).trans rfl, (jB BK467.out 2).trans rfl, (jB BK483.out 0).trans rfl, (jB BK483.out 1).trans rfl, (jB BK483.out 2).trans rfl, (jB BK475.out 0).trans rfl, (jB BK475.out 1).trans rfl, (jB BK475.out 2).trans rfl⟩ (fun hHeld => ?_)
            clear hK K
            refine qx (a' := ?_) ?_ ?_
            rotate_left
            ·
             show Act.put _ (some 45) _ = _
             simp only [Act.put, ss_, jc, ji]
             rfl
            refine vQ (i := 32) (N := some 48) (v := ?_) (a' := ?_) #[true, true, true, true, true, true, true, true, true, true, true, true, true, true, true, true, true, true, true, true, true, true, true, true, true, true, true, true, true, true, true, true, true, false, false, false, false, false, false, false, false, false, false, false] rfl rfl (vT HT_.out kr_) (fun _ _ _ h => h) (Or.inl ⟨by rfl, ?_⟩) ?_ ?_
            rotate_left
            ·
             intro w'
             go_simp
             with_reducible rfl
            rotate_left
            ·
             simp only [Act.put, ss_, jc, ji]
             rfl
            refine vQ (i := 33) (N := some 49) (v := ?_) (a' := ?_) #[true, true, true, true, true, true, true, true, true, true, true, true, true, true, true, true, true, true, true, true, true, true, true, true, true, true, true, true, true, true, true, true, true, true, false, false, false, false, false, false, false, false, false, false] rfl rfl (vT HT_.out kr_) (fun _ _ _ h => h) (Or.inl ⟨by rfl, ?_⟩) ?_ ?_
            rotate_left
            ·
             intro w'
             go_simp
             with_reducible rfl
            rotate_left
            ·
             simp only [Act.put, ss_, jc, ji]
             rfl
            refine vQ (i := 34) (N := some 50) (v := ?_) (a' := ?_) #[true, true, true, true, true, true, true, true, true, true, true, true, true, true, true, true, true, true, true, true, true, true, true, true, true, true, true, true, true, true, true, true, true, true, true, false, false, false, false, false, false, false, false, false] rfl rfl (vT HT_.out kr_) (fun _ _ _ h => h) (Or.inl ⟨by rfl, ?_⟩) ?_ ?_
            rotate_left
            ·
             intro w'
             go_simp
             with_reducible rfl
            rotate_left
            ·
             simp only [Act.put, ss_, jc, ji]
             rfl
            refine vQ (i := 36) (N := some 52) (v := ?_) (a' := ?_) #[true, true, true, true, true, true, true, true, true, true, true, true, true, true, true, true, true, true, true, true, true, true, true, true, true, true, true, true, true, true, true, true, true, true, true, false, true, false, false, false, false, false, false, false] rfl rfl (vT HT_.out kr_) (fun _ _ _ h => h) (Or.inl ⟨by rfl, ?_⟩) ?_ ?_
            rotate_left
            ·
             intro w'
             go_simp
             with_reducible rfl
            rotate_left
            ·
             simp only [Act.put, ss_, jc, ji]
             rfl
            refine qA (i := 35) (N := some 51) (v := ?_) (a' := ?_) #[true, true, true, true, true, true, true, true, true, true, true, true, true, true, true, true, true, true, true, true, true, true, true, true, true, true, true, true, true, true, true, true, true, true, true, true, true, false, false, false, false, false, false, false] rfl rfl (zX HT_.out HW_.out kr_) (fun _ _ _ h => h) (Or.inl ⟨by rfl, ?_⟩) hHeld ?_ ?_
            rotate_left
            ·
             rintro w' ⟨s0, s1, s2, s3, s4, s5, s6, s7, s8⟩
             go_simp
             with_reducible rfl
            rotate_left
            ·
             simp only [Act.put, ss_, jc, ji]
             rfl
            refine one_ (i := 37) (N := some 53) #[true, true, true, true, true, true, true, true, true, true, true, true, true, true, true, true, true, true, true, true, true, true, true, true, true, true, true, true, true, true, true, true, true, true, true, true, true, true, false, false, false, false, false, false] rfl rfl (qm HT_.out kr_) (by decide) (fun K hK => ?_)
            refine jAR Try.func40 kr_ rfl #[.int .i64 a0] (by rfl) rfl rfl (by (try simp only [List.map_toArray, List.map_cons, List.map_nil]); first | done | rfl | (simp only [List.length_drop, List.length_take]; rfl)) ?_
            with_reducible refine (vB.calls kj24 a0 t497 t498 t501 _ A40.out).mono ?_
            rintro e w54 ⟨v499, v502, rfl, ho0, ho1, hb⟩
            refine ⟨_, rfl, ?_⟩
            have n0_ := jA.mk (Kd.jM (Kd.vL (Kd.vL (Kd.qK (rR_ HO_468001) hb) (Kd.jS ho0)) (Kd.jS ho1)) (fun _ h_ => h_.1))
            have n1_ := jA.mk (Kd.jM (Kd.vL (Kd.vL (Kd.qK (rR_ HO_468002) hb) (Kd.jS ho0)) (Kd.jS ho1)) (fun _ h_ => h_.1))
            have n2_ := jA.mk (Kd.jM (Kd.vL (Kd.vL (Kd.qK (rR_ HO_476001) hb) (Kd.jS ho0)) (Kd.jS ho1)) (fun _ h_ => h_.1))
            have n3_ := jA.mk (Kd.jM (Kd.vL (Kd.vL (Kd.qK (rR_ HO_476002) hb) (Kd.jS ho0)) (Kd.jS ho1)) (fun _ h_ => h_.1))
            have n4_ := jA.mk (Kd.jM (Kd.vL (Kd.vL (Kd.qK (rR_ HO_484001) hb) (Kd.jS ho0)) (Kd.jS ho1)) (fun _ h_ => h_.1))
            have n5_ := jA.mk (Kd.jM (Kd.vL (Kd.vL (Kd.qK (rR_ HO_484002) hb) (Kd.jS ho0)) (Kd.jS ho1)) (fun _ h_ => h_.1))
            have n6_ := jA.mk (Kd.jM (Kd.vL (Kd.vL (Kd.qK (rR_ HO489) hb) (Kd.jS ho0)) (Kd.jS ho1)) (fun _ h_ => h_.1))
            have n7_ := jA.mk (Kd.jM (Kd.vL (Kd.vL (Kd.qK (rR_ HO492) hb) (Kd.jS ho0)) (Kd.jS ho1)) (fun _ h_ => h_.1))
            have n8_ := jA.mk (Kd.jV (Kd.jY (Kd.jY (Kd.jY (Kd.jY (Kd.jY (Kd.jY (Kd.jY (Kd.jY ho0 (Kd.R_lt (rR_ HO_468001))) (Kd.R_lt (rR_ HO_468002))) (Kd.R_lt (rR_ HO_476001))) (Kd.R_lt (rR_ HO_476002))) (Kd.R_lt (rR_ HO_484001))) (Kd.R_lt (rR_ HO_484002))) (Kd.R_lt (rR_ HO489))) (Kd.R_lt (rR_ HO492))) (jC (bb3_ HB GE467 GE475 GE483)))
            have n9_ := jA.mk (Kd.jV (Kd.jY (Kd.jY (Kd.jY (Kd.jY (Kd.jY (Kd.jY (Kd.jY (Kd.jY ho1 (Kd.R_lt (rR_ HO_468001))) (Kd.R_lt (rR_ HO_468002))) (Kd.R_lt (rR_ HO_476001))) (Kd.R_lt (rR_ HO_476002))) (Kd.R_lt (rR_ HO_484001))) (Kd.R_lt (rR_ HO_484002))) (Kd.R_lt (rR_ HO489))) (Kd.R_lt (rR_ HO492))) (jC (bb3_ HB GE467 GE475 GE483)))
            have n10_ := jA.mk (bl_ BK467 hb)
            have n11_ := jA.mk (bl_ BK475 hb)
            have n12_ := jA.mk (bl_ BK483 hb)
            have n13_ := jA.mk (jE (bb3_ HB GE467 GE475 GE483) hb)
            clear HO_468001
            clear HO_468002
            clear HO_476001
            clear HO_476002
            clear HO_484001
            clear HO_484002
            clear HO489
            clear HO492
            clear BK467
            clear BK475
            clear BK483
            clear HB
            have HO_468001 := n0_
            have HO_468002 := n1_
            have HO_476001 := n2_
            have HO_476002 := n3_
            have HO_484001 := n4_
            have HO_484002 := n5_
            have HO489 := n6_
            have HO492 := n7_
            have HO500 := n8_
            have HO503 := n9_
            have BK467 := n10_
            have BK475 := n11_
            have BK483 := n12_
            have HB := n13_
            clear n0_ n1_ n2_ n3_ n4_ n5_ n6_ n7_ n8_ n9_ n10_ n11_ n12_ n13_
            (try clear hb)
            (try clear hb2)
            (try clear hk)
            (try clear hi)
            (try clear ho0)
            (try clear ho1)
            obtain ⟨Ao55, co55, eo55⟩ := Kd.jf HO500.out
            (first | subst eo55 | (injection eo55 with f1_ f2_ f3_; have f4_ := f1_.symm; have f5_ := f3_.symm; clear f1_ f2_ f3_; subst f4_; subst f5_))
            obtain ⟨Ao56, co56, eo56⟩ := Kd.jf HO503.out
            (first | subst eo56 | (injection eo56 with f1_ f2_ f3_; have f4_ := f1_.symm; have f5_ := f3_.symm; clear f1_ f2_ f3_; subst f4_; subst f5_))
            refine hK.out _ _ ⟨(jB BK467.out 0).trans rfl, (jB BK467.out 1).trans rfl, (jB BK467.out 2).trans rfl, (jB BK483.out 0).trans rfl, (jB BK483.out 1).trans rfl, (jB BK483.out 2).trans rfl, (jB BK475.out 0).trans rfl, (jB BK475.out 1).trans rfl, (jB BK475.out 2).trans rfl⟩ (fun hHeld => ?_)
            clear hK K
            refine qx (a' := ?_) ?_ ?_
            rotate_left
            ·
             show Act.put _ (some 53) _ = _
             simp only [Act.put, ss_, jc, ji]
             rfl
            refine one_ (i := 38) (N := some 54) #[true, true, true, true, true, true, true, true, true, true, true, true, true, true, true, true, true, true, true, true, true, true, true, true, true, true, true, true, true, true, true, true, true, true, true, true, true, true, true, false, false, false, false, false] rfl rfl (qm HT_.out kr_) (by decide) (fun K hK => ?_)
            refine jAR Try.func26 kr_ rfl #[.agg #[.bool t460, .slice Ao9 t461.length co9, .slice Ao10 t464.length co10], .agg #[.bool t497, .slice Ao55 t498.length co55, .slice Ao56 t501.length co56]] (by rfl) rfl rfl (by (try simp only [List.map_toArray, List.map_cons, List.map_nil]); first | done | rfl | (simp only [List.length_drop, List.length_take]; rfl)) ?_
            with_reducible refine (jQ.calls kj24 t460 _ _ t461 _ _ t464 t497 _ _ t498 _ _ t501 true _ ?side1 ?side2 ?side3 ?side4 ?side5 ?side6 ?side7 ?side8 A41.out).mono ?_
            (case side1 => exact cc_ (Kd.jG HO_468001.out).2.2)
            (case side2 => exact (Kd.jG HO_468001.out).2.1)
            (case side3 => exact cc_ (Kd.jG HO_468002.out).2.2)
            (case side4 => exact (Kd.jG HO_468002.out).2.1)
            (case side5 => exact cc_ (Kd.jG HO500.out).2.2)
            (case side6 => exact (Kd.jG HO500.out).2.1)
            (case side7 => exact cc_ (Kd.jG HO503.out).2.2)
            (case side8 => exact (Kd.jG HO503.out).2.1)
            rintro e w57 ⟨rfl, hb⟩
            refine ⟨_, rfl, ?_⟩
            have n0_ := jA.mk (Kd.jO (rR_ HO_468001) hb)
            have n1_ := jA.mk (Kd.jO (rR_ HO_468002) hb)
            have n2_ := jA.mk (Kd.jO (rR_ HO_476001) hb)
            have n3_ := jA.mk (Kd.jO (rR_ HO_476002) hb)
            have n4_ := jA.mk (Kd.jO (rR_ HO_484001) hb)
            have n5_ := jA.mk (Kd.jO (rR_ HO_484002) hb)
            have n6_ := jA.mk (Kd.jO (rR_ HO489) hb)
            have n7_ := jA.mk (Kd.jO (rR_ HO492) hb)
            have n8_ := jA.mk (Kd.jO (rR_ HO500) hb)
            have n9_ := jA.mk (Kd.jO (rR_ HO503) hb)
            have n10_ := jA.mk (bl_ BK467 hb)
            have n11_ := jA.mk (bl_ BK475 hb)
            have n12_ := jA.mk (bl_ BK483 hb)
            have n13_ := jA.mk (jE (bb3_ HB GE467 GE475 GE483) hb)
            clear HO_468001
            clear HO_468002
            clear HO_476001
            clear HO_476002
            clear HO_484001
            clear HO_484002
            clear HO489
            clear HO492
            clear HO500
            clear HO503
            clear BK467
            clear BK475
            clear BK483
            clear HB
            have HO_468001 := n0_
            have HO_468002 := n1_
            have HO_476001 := n2_
            have HO_476002 := n3_
            have HO_484001 := n4_
            have HO_484002 := n5_
            have HO489 := n6_
            have HO492 := n7_
            have HO500 := n8_
            have HO503 := n9_
            have BK467 := n10_
            have BK475 := n11_
            have BK483 := n12_
            have HB := n13_
            clear n0_ n1_ n2_ n3_ n4_ n5_ n6_ n7_ n8_ n9_ n10_ n11_ n12_ n13_
            (try clear hb)
            (try clear hb2)
            (try clear hk)
            (try clear hi)
            refine hK.out _ _ ⟨(jB BK467.out 0).trans rfl, (jB BK467.out 1).trans rfl, (jB BK467.out 2).trans rfl, (jB BK483.out 0).trans rfl, (jB BK483.out 1).trans rfl, (jB BK483.out 2).trans rfl, (jB BK475.out 0).trans rfl, (jB BK475.out 1).trans rfl, (jB BK475.out 2).trans rfl⟩ (fun hHeld => ?_)
            clear hK K
            refine qx (a' := ?_) ?_ ?_
            rotate_left
            ·
             show Act.put _ (some 54) _ = _
             simp only [Act.put, ss_, jc, ji]
             rfl
            refine vQ (i := 39) (N := some 55) (v := ?_) (a' := ?_) #[true, true, true, true, true, true, true, true, true, true, true, true, true, true, true, true, true, true, true, true, true, true, true, true, true, true, true, true, true, true, true, true, true, true, true, true, true, true, true, true, false, false, false, false] rfl rfl (vT HT_.out kr_) (fun _ _ _ h => h) (Or.inl ⟨by rfl, ?_⟩) ?_ ?_
            rotate_left
            ·
             intro w'
             go_simp
             with_reducible rfl
            rotate_left
            ·
             simp only [Act.put, ss_, jc, ji]
             rfl
            refine vQ (i := 40) (N := some 56) (v := ?_) (a' := ?_) #[true, true, true, true, true, true, true, true, true, true, true, true, true, true, true, true, true, true, true, true, true, true, true, true, true, true, true, true, true, true, true, true, true, true, true, true, true, true, true, true, true, false, false, false] rfl rfl (vT HT_.out kr_) (fun _ _ _ h => h) (Or.inl ⟨by rfl, ?_⟩) ?_ ?_
            rotate_left
            ·
             intro w'
             go_simp
             with_reducible rfl
            rotate_left
            ·
             simp only [Act.put, ss_, jc, ji]
             rfl
            refine one_ (i := 41) (N := some 57) #[true, true, true, true, true, true, true, true, true, true, true, true, true, true, true, true, true, true, true, true, true, true, true, true, true, true, true, true, true, true, true, true, true, true, true, true, true, true, true, true, true, true, false, false] rfl rfl (qm HT_.out kr_) (by decide) (fun K hK => ?_)
            refine jAR Try.func28 kr_ rfl #[] (by rfl) rfl rfl (by (try simp only [List.map_toArray, List.map_cons, List.map_nil]); first | done | rfl | (simp only [List.length_drop, List.length_take]; rfl)) ?_
            with_reducible refine (je.calls kj24  t505 _ A43.out).mono ?_
            rintro e w58 ⟨rfl, hb⟩
            refine ⟨_, rfl, ?_⟩
            have n0_ := jA.mk (Kd.jO (rR_ HO_468001) hb)
            have n1_ := jA.mk (Kd.jO (rR_ HO_468002) hb)
            have n2_ := jA.mk (Kd.jO (rR_ HO_476001) hb)
            have n3_ := jA.mk (Kd.jO (rR_ HO_476002) hb)
            have n4_ := jA.mk (Kd.jO (rR_ HO_484001) hb)
            have n5_ := jA.mk (Kd.jO (rR_ HO_484002) hb)
            have n6_ := jA.mk (Kd.jO (rR_ HO489) hb)
            have n7_ := jA.mk (Kd.jO (rR_ HO492) hb)
            have n8_ := jA.mk (Kd.jO (rR_ HO500) hb)
            have n9_ := jA.mk (Kd.jO (rR_ HO503) hb)
            have n10_ := jA.mk (bl_ BK467 hb)
            have n11_ := jA.mk (bl_ BK475 hb)
            have n12_ := jA.mk (bl_ BK483 hb)
            have n13_ := jA.mk (jE (bb3_ HB GE467 GE475 GE483) hb)
            clear HO_468001
            clear HO_468002
            clear HO_476001
            clear HO_476002
            clear HO_484001
            clear HO_484002
            clear HO489
            clear HO492
            clear HO500
            clear HO503
            clear BK467
            clear BK475
            clear BK483
            clear HB
            have HO_468001 := n0_
            have HO_468002 := n1_
            have HO_476001 := n2_
            have HO_476002 := n3_
            have HO_484001 := n4_
            have HO_484002 := n5_
            have HO489 := n6_
            have HO492 := n7_
            have HO500 := n8_
            have HO503 := n9_
            have BK467 := n10_
            have BK475 := n11_
            have BK483 := n12_
            have HB := n13_
            clear n0_ n1_ n2_ n3_ n4_ n5_ n6_ n7_ n8_ n9_ n10_ n11_ n12_ n13_
            (try clear hb)
            (try clear hb2)
            (try clear hk)
            (try clear hi)
            refine hK.out _ _ ⟨(jB BK467.out 0).trans rfl, (jB BK467.out 1).trans rfl, (jB BK467.out 2).trans rfl, (jB BK483.out 0).trans rfl, (jB BK483.out 1).trans rfl, (jB BK483.out 2).trans rfl, (jB BK475.out 0).trans rfl, (jB BK475.out 1).trans rfl, (jB BK475.out 2).trans rfl⟩ (fun hHeld => ?_)
            clear hK K
            refine qx (a' := ?_) ?_ ?_
            rotate_left
            ·
             show Act.put _ (some 57) _ = _
             simp only [Act.put, ss_, jc, ji]
             rfl
            refine vQ (i := 42) (N := some 58) (v := ?_) (a' := ?_) #[true, true, true, true, true, true, true, true, true, true, true, true, true, true, true, true, true, true, true, true, true, true, true, true, true, true, true, true, true, true, true, true, true, true, true, true, true, true, true, true, true, true, true, false] rfl rfl (vT HT_.out kr_) (fun _ _ _ h => h) (Or.inl ⟨by rfl, ?_⟩) ?_ ?_
            rotate_left
            ·
             intro w'
             go_simp
             with_reducible rfl
            rotate_left
            ·
             simp only [Act.put, ss_, jc, ji]
             rfl
            refine vQ (i := 43) (N := some 2) (v := ?_) (a' := ?_) #[true, true, true, true, true, true, true, true, true, true, true, true, true, true, true, true, true, true, true, true, true, true, true, true, true, true, true, true, true, true, true, true, true, true, true, true, true, true, true, true, true, true, true, true] rfl rfl (vT HT_.out kr_) (fun _ _ _ h => h) (Or.inl ⟨by rfl, ?_⟩) ?_ ?_
            rotate_left
            ·
             intro w'
             go_simp
             with_reducible rfl
            rotate_left
            ·
             simp only [Act.put, ss_, jc, ji]
             rfl
            refine jBI (jBc HT_.out kr_) ?_
            try go_wp2
            go_ret
            exact ⟨by first | rfl | (rw [HRT_.out]; rfl) | (simp only [HRT_.out]; done) | exact of_decide_eq_true HRT_.out | (have h_ := HRT_.out; simp at h_ ⊢; exact h_) | (have h_ := HRT_.out; simp at h_ ⊢; omega) | (have h_ := HRT_.out; simp [h_]; done) | (simp [zA, vw] <;> rfl) | (simp [*, zA, vw] <;> rfl), (bb3_ HB GE467 GE475 GE483)⟩
           ·
            replace c42 := Bool.eq_false_iff.mpr c42
            subst c42
            have H1 : (some false) = some true := by rw [if_neg (show ¬ (false = true) by decide)] at H; exact H
            clear H
            have H := H1
            clear H1
            exact absurd H (by simp)
          ·
           rw [if_neg c39] at H
           have c39b0 : (t496 == (a0 == 0)) = false := by simpa using c39
           (try (have c39b1 : decide (t496 = (a0 == 0)) = false := by simpa using c39))
           (try (have c39b2 : (t496 == (a0 == 0)) = false := by simpa using c39))
           (try (have c39b3 : ¬ (t496 = (a0 == 0)) := by simpa using c39))
           clear c39
           exact absurd H (by simp)
         ·
          replace c37 := Bool.eq_false_iff.mpr c37
          subst c37
          have H1 : (some false) = some true := by rw [if_neg (show ¬ (false = true) by decide)] at H; exact H
          clear H
          have H := H1
          clear H1
          exact absurd H (by simp)
        ·
         replace c35 := Bool.eq_false_iff.mpr c35
         subst c35
         have H1 : (some false) = some true := by rw [if_neg (show ¬ (false = true) by decide)] at H; exact H
         clear H
         have H := H1
         clear H1
         exact absurd H (by simp)
       ·
        replace c33 := Bool.eq_false_iff.mpr c33
        subst c33
        have H1 : (some false) = some true := by rw [if_neg (show ¬ (false = true) by decide)] at H; exact H
        clear H
        have H := H1
        clear H1
        exact absurd H (by simp)
      ·
       rw [if_neg c30] at H
       have c30b0 : (t485 == (wrap64 (-x6_24))) = false := beq_eq_false_iff_ne.mpr c30
       have c30b1 : (t485 != (wrap64 (-x6_24))) = true := bne_iff_ne.mpr c30
       exact absurd H (by simp)
     ·
      rw [if_neg c28] at H
      have c28b0 : (t484 == x6_24) = false := beq_eq_false_iff_ne.mpr c28
      have c28b1 : (t484 != x6_24) = true := bne_iff_ne.mpr c28
      exact absurd H (by simp)

/-- THE ONE PURE STATEMENT of syzygylaw05_RatioSigns: yours. -/
def syzygylaw05_RatioSigns.Pure : Prop := ∀ (a0 : Int), (Lit.int .i64 a0).wf = true → ∃ k, syzygylaw05_RatioSigns.f k a0 = some true
theorem syzygylaw05_RatioSigns.walk (P : syzygylaw05_RatioSigns.Pure) (a0 : Int) (w : World) (w0 : (Lit.int .i64 a0).wf = true) :
  Calls Try.prog 12 #[.int .i64 a0] w fun e w' => e = .returned (.bool true) ∧ Below w.heap.size w w' := by
 obtain ⟨k, h⟩ := P a0 w0
 refine (syzygylaw05_RatioSigns.calls k a0 w h).mono ?_
 rintro e w' ⟨rfl, hd⟩
 exact ⟨rfl, hd⟩

end Go.Proofs.Ytijgeonhbmgikaa.PORatioSigns
