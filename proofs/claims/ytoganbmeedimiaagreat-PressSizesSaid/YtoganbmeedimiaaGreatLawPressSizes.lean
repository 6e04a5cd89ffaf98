-- Written by a program of this session (pr.py, over the kit's print.py).
import Derived.Test.YtoganbmeedimiaaGreatRows
import Derived.Test.YtoganbmeedimiaaGreatPOPressSizesx15
import Derived.Test.YtoganbmeedimiaaGreatPurePressSizes
import Derived.Test.YtoganbmeedimiaaGreatOPressSizesL
import Derived.WalkKit
import Derived.ProofKit
import Derived.OpenShut
import Derived.ShutString
import Derived.ChangeOld
import Derived.Below
import Derived.SizedLaws
namespace Go.Proofs.YtoganbmeedimiaaGreat.pressSizes
open Go.Proofs.YtoganbmeedimiaaGreatN Go.Proofs.YtoganbmeedimiaaGreat.POPressSizes
open Go.ChangeShapes Go.WideShapes Go.ChangeAt Go.RowKit Go.Proofs.YtoganbmeedimiaaGreatW.PrintWords Go.Proofs.YtoganbmeedimiaaGreatW.PrintLast
open Go.ChangeMaps (open_string shut_string)
set_option linter.unusedVariables false
theorem own : ownKnob Tryz.prog.godebug = none := by kernel_rfl
theorem laidOut : laidOutB Tryz.prog = true := by kernel_rfl
theorem o33 : Opens Tryz.prog 33 k33 syzygylaw11_PressSizes.wf33 := Opens.imp (Opens.struct3 (fun (x : S33) => (x.f0, (x.f1, x.f2))) (fun a b c => (⟨a, b, c⟩ : S33)) (fun _ _ _ => rfl) Tryz.underlying33 rfl rfl rfl (by kernel_rfl) (by kernel_rfl) (by kernel_rfl) (by kernel_rfl) (Opens.bool Tryz.underlying4) (Opens.slice Tryz.underlying31 (by kernel_rfl) (Opens.int Tryz.underlying56)) (Opens.slice Tryz.underlying31 (by kernel_rfl) (Opens.int Tryz.underlying56))) (fun _ h => h)
theorem o35 : Opens Tryz.prog 35 k35 syzygylaw11_PressSizes.wf35 := Opens.imp (Opens.array4 (fun (x : S35) => (x.f0, (x.f1, (x.f2, x.f3)))) (fun a b c d => (⟨a, b, c, d⟩ : S35)) (fun _ _ _ _ => rfl) Tryz.underlying35 (by kernel_rfl) (by kernel_rfl) (Opens.int Tryz.underlying3)) (fun _ h => h)
theorem o37 : Opens Tryz.prog 37 k37 syzygylaw11_PressSizes.wf37 := Opens.imp (Opens.struct2 (fun (x : S37) => (x.f0, x.f1)) (fun a b => (⟨a, b⟩ : S37)) (fun _ _ => rfl) Tryz.underlying37 rfl rfl (by kernel_rfl) (by kernel_rfl) (by kernel_rfl) o33 o35) (fun _ h => h)
set_option maxRecDepth 100000 in
theorem lifted (os : Os) (started : os.Started) (H : Type) (enc : TypeId × Value → H) :
    ReturnsInHanded {} Tryz.checked os 3 .any (Rows.pressSizesSpec.pre6 enc Tryz.prog Tryz.f3 Rows.pressSizesRow.domain false) (Rows.pressSizesSpec.post enc Tryz.prog Tryz.f3 false true false false) := by
  refine returnsInHanded_of_change_sized (C := Tryz.checked) own started (by kernel_rfl) Tryz.func3
    (ChangeSpec.witness6 (enc := enc) (C := Tryz.checked) false ⟨#[], #[.slice none 0 0], []⟩ 8 (by kernel_rfl) (by kernel_rfl) (by kernel_rfl) (by kernel_rfl)) ?_
  intro W base args ds gs before hval0 hW hcnd hsz0 _
  have hval : ∀ (j : Nat) t v, Tryz.f3.params[j]? = some t → args[j]? = some v → Value.okWide Tryz.prog W .any base t v := hval0
  have hW' := hW
  obtain ⟨p, q, hA0, hV, rfl, hfz, hnd⟩ := hW
  have hA : DataW.TrodAll enc Tryz.prog W 0 (fun _ => true) true Tryz.f3.params.toList args.toList ds p := hA0
  rw [Tryz.params3] at hA hval
  obtain ⟨v0, vs0, d0, ds0, p0, q0, hargs, rfl, rfl, h0, r0⟩ := trodAll_cons hA
  obtain ⟨rfl, rfl, rfl⟩ := trodAll_nil r0
  obtain rfl : args = #[v0] := by cases args; simp_all
  obtain ⟨rfl, rfl⟩ := trodVars_none hV
  have k0 := h0
  have lt0 : ∀ x ∈ p0, x.block < W.heap.size := by obtain ⟨m, hm⟩ := k0; exact DataW.trod_lt m _ _ _ hm
  obtain ⟨A0, c0, l0, rfl, hc0, hr0, hm0, hw0⟩ := Opens.arg_row Tryz.underlying23 (by kernel_rfl) o37 (hval 0 23 v0 rfl rfl) h0
  clear hA0 hval0 hsz0
  refine (POPressSizes.syzygylaw11_PressSizes.walk Pure.PressSizes A0 c0 l0 W hr0 hc0 hm0 hw0).mono fun e W' ⟨he, bel⟩ => ?_
  subst he
  exact ⟨_, rfl, _, _, _, [], _, [], hW', trodAll_mk1 (shut_bool Tryz.underlying4 _), (trodAll_cons_mk (Below.trod laidOut (by kernel_rfl) (of_decide_eq_true (by kernel_rfl)) k0 bel lt0) trodAll_mk0), rfl, bel.frame _, fun h => by cases h⟩
theorem over : Rows.pressSizesRow.holds Tryz.pinned (OpenSpec.ofChange Rows.pressSizesSpec) :=
  OpenClaim.holds_of_wide 3 Tryz.f3 rfl rfl rfl rfl rfl rfl rfl ⟨rfl, rfl, rfl, rfl, rfl⟩ rfl rfl rfl rfl rfl (by kernel_rfl) Tryz.func3 (by kernel_rfl)
    (of_decide_eq_true (by kernel_rfl)) (by unfold Func.isWrapper; first | (rw [if_pos (by decide +kernel)]; kernel_rfl) | (rw [if_neg (by decide +kernel)]; exact ⟨rfl, rfl⟩))
    (fun os started H enc _ => lifted os started H enc)
theorem proved : Rows.PressSizesSaid := over
#print axioms proved
end Go.Proofs.YtoganbmeedimiaaGreat.pressSizes
namespace Go.Proofs.YtoganbmeedimiaaGreat
/-- The row, under a short name, for the claim. -/
theorem pressSizes_holds : Rows.PressSizesSaid := pressSizes.proved
end Go.Proofs.YtoganbmeedimiaaGreat
