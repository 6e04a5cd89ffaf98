-- Written by a program of this session (pr.py, over the kit's print.py).
import Derived.Test.YtijgeonhbmgikaaRows
import Derived.Test.YtijgeonhbmgikaaPORatioFieldx18
import Derived.Test.YtijgeonhbmgikaaPureRatioField
import Derived.Test.YtijgeonhbmgikaaORatioFieldL
import Derived.WalkKit
import Derived.ProofKit
import Derived.OpenShut
import Derived.ShutString
import Derived.ChangeOld
import Derived.Below
import Derived.SizedLaws
namespace Go.Proofs.Ytijgeonhbmgikaa.ratioField
open Go.Proofs.YtijgeonhbmgikaaN Go.Proofs.Ytijgeonhbmgikaa.PORatioField
open Go.ChangeShapes Go.WideShapes Go.ChangeAt Go.RowKit Go.Proofs.YtijgeonhbmgikaaW.PrintWords Go.Proofs.YtijgeonhbmgikaaW.PrintLast
open Go.ChangeMaps (open_string shut_string)
set_option linter.unusedVariables false
theorem own : ownKnob Try.prog.godebug = none := by kernel_rfl
theorem laidOut : laidOutB Try.prog = true := by kernel_rfl
theorem o68 : Opens Try.prog 68 k68 syzygylaw05_RatioField.wf68 := Opens.imp (Opens.array3 (fun (x : S68) => (x.f0, (x.f1, x.f2))) (fun a b c => (⟨a, b, c⟩ : S68)) (fun _ _ _ => rfl) Try.underlying68 (by kernel_rfl) (by kernel_rfl) (Opens.bool Try.underlying4)) (fun _ h => h)
theorem o69 : Opens Try.prog 69 k69 syzygylaw05_RatioField.wf69 := Opens.imp (Opens.array3 (fun (x : S69) => (x.f0, (x.f1, x.f2))) (fun a b c => (⟨a, b, c⟩ : S69)) (fun _ _ _ => rfl) Try.underlying69 (by kernel_rfl) (by kernel_rfl) (Opens.int Try.underlying41)) (fun _ h => h)
theorem o71 : Opens Try.prog 71 k71 syzygylaw05_RatioField.wf71 := Opens.imp (Opens.struct3 (fun (x : S71) => (x.f0, (x.f1, x.f2))) (fun a b c => (⟨a, b, c⟩ : S71)) (fun _ _ _ => rfl) Try.underlying71 rfl rfl rfl (by kernel_rfl) (by kernel_rfl) (by kernel_rfl) (by kernel_rfl) o68 o69 o69) (fun _ h => h)
set_option maxRecDepth 100000 in
theorem lifted (os : Os) (started : os.Started) (H : Type) (enc : TypeId × Value → H) :
    ReturnsInHanded {} Try.checked os 10 .any (Rows.ratioFieldSpec.pre6 enc Try.prog Try.f10 Rows.ratioFieldRow.domain false) (Rows.ratioFieldSpec.post enc Try.prog Try.f10 false true false false) := by
  refine returnsInHanded_of_change_sized (C := Try.checked) own started (by kernel_rfl) Try.func10
    (ChangeSpec.witness6 (enc := enc) (C := Try.checked) false ⟨#[], #[.agg #[(.bool false), (.bool false), (.bool false), (.int .u32 0), (.int .u32 0), (.int .u32 0), (.int .u32 0), (.int .u32 0), (.int .u32 0)]], []⟩ 8 (by kernel_rfl) (by kernel_rfl) (by kernel_rfl) (by kernel_rfl)) ?_
  intro W base args ds gs before hval0 hW hcnd hsz0 _
  have hval : ∀ (j : Nat) t v, Try.f10.params[j]? = some t → args[j]? = some v → Value.okWide Try.prog W .any base t v := hval0
  have hW' := hW
  obtain ⟨p, q, hA0, hV, rfl, hfz, hnd⟩ := hW
  have hA : DataW.TrodAll enc Try.prog W 0 (fun _ => true) true Try.f10.params.toList args.toList ds p := hA0
  rw [Try.params10] at hA hval
  obtain ⟨v0, vs0, d0, ds0, p0, q0, hargs, rfl, rfl, h0, r0⟩ := trodAll_cons hA
  obtain ⟨rfl, rfl, rfl⟩ := trodAll_nil r0
  obtain rfl : args = #[v0] := by cases args; simp_all
  obtain ⟨rfl, rfl⟩ := trodVars_none hV
  have k0 := h0
  have lt0 : ∀ x ∈ p0, x.block < W.heap.size := by obtain ⟨m, hm⟩ := k0; exact DataW.trod_lt m _ _ _ hm
  obtain ⟨cs0, x0, rfl, hk0, hw0⟩ := Opens.arg_struct Try.underlying71 o71 (hval 0 71 v0 rfl rfl) h0
  obtain rfl := k71_open hk0
  clear hA0 hval0 hsz0
  refine (PORatioField.syzygylaw05_RatioField.walk Pure.RatioField x0.f0.f0 x0.f0.f1 x0.f0.f2 x0.f1.f0 x0.f1.f1 x0.f1.f2 x0.f2.f0 x0.f2.f1 x0.f2.f2 W  hw0).mono fun e W' ⟨he, bel⟩ => ?_
  subst he
  exact ⟨_, rfl, _, _, _, [], _, [], hW', trodAll_mk1 (shut_bool Try.underlying4 _), (trodAll_cons_mk (Below.trod laidOut (by kernel_rfl) (of_decide_eq_true (by kernel_rfl)) k0 bel lt0) trodAll_mk0), rfl, bel.frame _, fun h => by cases h⟩
theorem over : Rows.ratioFieldRow.holds Try.pinned (OpenSpec.ofChange Rows.ratioFieldSpec) :=
  OpenClaim.holds_of_wide 10 Try.f10 rfl rfl rfl rfl rfl rfl rfl ⟨rfl, rfl, rfl, rfl, rfl⟩ rfl rfl rfl rfl rfl (by kernel_rfl) Try.func10 (by kernel_rfl)
    (of_decide_eq_true (by kernel_rfl)) (by unfold Func.isWrapper; first | (rw [if_pos (by decide +kernel)]; kernel_rfl) | (rw [if_neg (by decide +kernel)]; exact ⟨rfl, rfl⟩))
    (fun os started H enc _ => lifted os started H enc)
theorem proved : Rows.RatioFieldSaid := over
#print axioms proved
end Go.Proofs.Ytijgeonhbmgikaa.ratioField
namespace Go.Proofs.Ytijgeonhbmgikaa
/-- The row, under a short name, for the claim. -/
theorem ratioField_holds : Rows.RatioFieldSaid := ratioField.proved
end Go.Proofs.Ytijgeonhbmgikaa
