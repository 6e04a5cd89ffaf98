/-
  No cell of these rows narrows 'for every input' (looked for: loops, veiled, ifaces, maps, wideKeys, modest, calm, conditions, laid).
  DERIVED. THE GIVEN ROWS OF THIS SEAT. 12 by the template 'for every input the law returns true; each argument reads behind the call as it read before'; 0 by the template 'total and deterministic' (their statements: YtmknpclfanblfaaTotals.lean).
  GIVEN WITH THE SEED: the statements are not yours to turn. If you find one false, say at which input.
  Laid BY PROGRAM, IN A SANDBOX (cutbox-rows.mjs): the forced cells as the released guide's own fill.sh prints them over the translation a836bee6672b081d… (all of the seat's roots in one cut). By AI agents, Wed Nov 11 2026. No macro, syntax, notation, axiom, sorry.
-/
import Derived.Test.YtmknpclfanblfaaChecked
import GoSem.Claim
import GoSem.ClaimJoined
import GoSem.ClaimMapViews
import Derived.JoinedTies
import Derived.KernelRfl
namespace Go.Proofs.Ytmknpclfanblfaa
/- THE CELL 'sum', in the pinned program and in every row, IS THE sha256 OF THE DUMP (.gsa) THAT YtmknpclfanblfaaProg.lean LOADS. Nothing in Lean hashes anything: it is a label: what it is worth is what the hold of that sum in a sandbox is worth. -/
noncomputable def Try.pinned : Pinned := { name := "ytmknpclfanblfaa", sum := "a836bee6672b081d1e21b0d1f1b79a2e87d71d3fb54249aec8dc7c9869ca1bc2", checked := Try.checked }
namespace Rows
def none {H : Type} : Left H := { results := [], args := [] }

/-- 'syzygylaw08.MonoOrder': WHATEVER THE INPUT: true; the input reads as it did. -/
def monoOrderSpec : ChangeSpec := { name := "monoOrder", fn := fun _ => fun
  | [d1, d2, d3, d4] => { results := [.lit (.bool true)], args := [d1, d2, d3, d4] }
  | _ => none }
def monoOrderRow : OpenClaim := { program := "ytmknpclfanblfaa", sum := "a836bee6672b081d1e21b0d1f1b79a2e87d71d3fb54249aec8dc7c9869ca1bc2", func := "syzygy/syzygylaw08.MonoOrder", spec := "monoOrder", unfollowed := true, recurses := true, apart := false }
def MonoOrderSaid : Prop := monoOrderRow.holds Try.pinned (OpenSpec.ofChange monoOrderSpec)

/-- ITS FALSE NEIGHBOUR: 'it returns false'. Refute it at one input. -/
def monoOrderWrong : ChangeSpec := { name := "monoOrder", fn := fun _ => fun
  | [d1, d2, d3, d4] => { results := [.lit (.bool false)], args := [d1, d2, d3, d4] }
  | _ => none }
def MonoOrderWrongFalsely : Prop := monoOrderRow.holds Try.pinned (OpenSpec.ofChange monoOrderWrong)

/-- 'syzygylaw08.MonoKept': WHATEVER THE INPUT: true; the input reads as it did. -/
def monoKeptSpec : ChangeSpec := { name := "monoKept", fn := fun _ => fun
  | [d1, d2, d3, d4] => { results := [.lit (.bool true)], args := [d1, d2, d3, d4] }
  | _ => none }
def monoKeptRow : OpenClaim := { program := "ytmknpclfanblfaa", sum := "a836bee6672b081d1e21b0d1f1b79a2e87d71d3fb54249aec8dc7c9869ca1bc2", func := "syzygy/syzygylaw08.MonoKept", spec := "monoKept", unfollowed := true, recurses := true, apart := false }
def MonoKeptSaid : Prop := monoKeptRow.holds Try.pinned (OpenSpec.ofChange monoKeptSpec)

/-- ITS FALSE NEIGHBOUR: 'it returns false'. Refute it at one input. -/
def monoKeptWrong : ChangeSpec := { name := "monoKept", fn := fun _ => fun
  | [d1, d2, d3, d4] => { results := [.lit (.bool false)], args := [d1, d2, d3, d4] }
  | _ => none }
def MonoKeptWrongFalsely : Prop := monoKeptRow.holds Try.pinned (OpenSpec.ofChange monoKeptWrong)

/-- 'syzygylaw08.MonoDivides': WHATEVER THE INPUT: true; the input reads as it did. -/
def monoDividesSpec : ChangeSpec := { name := "monoDivides", fn := fun _ => fun
  | [d1, d2] => { results := [.lit (.bool true)], args := [d1, d2] }
  | _ => none }
def monoDividesRow : OpenClaim := { program := "ytmknpclfanblfaa", sum := "a836bee6672b081d1e21b0d1f1b79a2e87d71d3fb54249aec8dc7c9869ca1bc2", func := "syzygy/syzygylaw08.MonoDivides", spec := "monoDivides", unfollowed := true, recurses := true, apart := false }
def MonoDividesSaid : Prop := monoDividesRow.holds Try.pinned (OpenSpec.ofChange monoDividesSpec)

/-- ITS FALSE NEIGHBOUR: 'it returns false'. Refute it at one input. -/
def monoDividesWrong : ChangeSpec := { name := "monoDivides", fn := fun _ => fun
  | [d1, d2] => { results := [.lit (.bool false)], args := [d1, d2] }
  | _ => none }
def MonoDividesWrongFalsely : Prop := monoDividesRow.holds Try.pinned (OpenSpec.ofChange monoDividesWrong)

/-- 'syzygylaw02.NatHeld': WHATEVER THE INPUT: true; the input reads as it did. -/
def natHeldSpec : ChangeSpec := { name := "natHeld", fn := fun _ => fun
  | [d1, d2] => { results := [.lit (.bool true)], args := [d1, d2] }
  | _ => none }
def natHeldRow : OpenClaim := { program := "ytmknpclfanblfaa", sum := "a836bee6672b081d1e21b0d1f1b79a2e87d71d3fb54249aec8dc7c9869ca1bc2", func := "syzygy/syzygylaw02.NatHeld", spec := "natHeld", inPlace := ["math/bits.Add64"], unfollowed := true, recurses := true, apart := false }
def NatHeldSaid : Prop := natHeldRow.holds Try.pinned (OpenSpec.ofChange natHeldSpec)

/-- ITS FALSE NEIGHBOUR: 'it returns false'. Refute it at one input. -/
def natHeldWrong : ChangeSpec := { name := "natHeld", fn := fun _ => fun
  | [d1, d2] => { results := [.lit (.bool false)], args := [d1, d2] }
  | _ => none }
def NatHeldWrongFalsely : Prop := natHeldRow.holds Try.pinned (OpenSpec.ofChange natHeldWrong)

/-- 'syzygylaw02.NatMinus': WHATEVER THE INPUT: true; the input reads as it did. -/
def natMinusSpec : ChangeSpec := { name := "natMinus", fn := fun _ => fun
  | [d1, d2] => { results := [.lit (.bool true)], args := [d1, d2] }
  | _ => none }
def natMinusRow : OpenClaim := { program := "ytmknpclfanblfaa", sum := "a836bee6672b081d1e21b0d1f1b79a2e87d71d3fb54249aec8dc7c9869ca1bc2", func := "syzygy/syzygylaw02.NatMinus", spec := "natMinus", inPlace := ["math/bits.Add64", "math/bits.Sub64"], unfollowed := true, recurses := true, apart := false }
def NatMinusSaid : Prop := natMinusRow.holds Try.pinned (OpenSpec.ofChange natMinusSpec)

/-- ITS FALSE NEIGHBOUR: 'it returns false'. Refute it at one input. -/
def natMinusWrong : ChangeSpec := { name := "natMinus", fn := fun _ => fun
  | [d1, d2] => { results := [.lit (.bool false)], args := [d1, d2] }
  | _ => none }
def NatMinusWrongFalsely : Prop := natMinusRow.holds Try.pinned (OpenSpec.ofChange natMinusWrong)

/-- 'syzygylaw08.MonoTells': WHATEVER THE INPUT: true; the input reads as it did. -/
def monoTellsSpec : ChangeSpec := { name := "monoTells", fn := fun _ => fun
  | [d1, d2, d3] => { results := [.lit (.bool true)], args := [d1, d2, d3] }
  | _ => none }
def monoTellsRow : OpenClaim := { program := "ytmknpclfanblfaa", sum := "a836bee6672b081d1e21b0d1f1b79a2e87d71d3fb54249aec8dc7c9869ca1bc2", func := "syzygy/syzygylaw08.MonoTells", spec := "monoTells", unfollowed := true, recurses := true, apart := false }
def MonoTellsSaid : Prop := monoTellsRow.holds Try.pinned (OpenSpec.ofChange monoTellsSpec)

/-- ITS FALSE NEIGHBOUR: 'it returns false'. Refute it at one input. -/
def monoTellsWrong : ChangeSpec := { name := "monoTells", fn := fun _ => fun
  | [d1, d2, d3] => { results := [.lit (.bool false)], args := [d1, d2, d3] }
  | _ => none }
def MonoTellsWrongFalsely : Prop := monoTellsRow.holds Try.pinned (OpenSpec.ofChange monoTellsWrong)

/-- 'syzygylaw08.MonoBack': WHATEVER THE INPUT: true; the input reads as it did. -/
def monoBackSpec : ChangeSpec := { name := "monoBack", fn := fun _ => fun
  | [d1, d2] => { results := [.lit (.bool true)], args := [d1, d2] }
  | _ => none }
def monoBackRow : OpenClaim := { program := "ytmknpclfanblfaa", sum := "a836bee6672b081d1e21b0d1f1b79a2e87d71d3fb54249aec8dc7c9869ca1bc2", func := "syzygy/syzygylaw08.MonoBack", spec := "monoBack", unfollowed := true, recurses := true, apart := false }
def MonoBackSaid : Prop := monoBackRow.holds Try.pinned (OpenSpec.ofChange monoBackSpec)

/-- ITS FALSE NEIGHBOUR: 'it returns false'. Refute it at one input. -/
def monoBackWrong : ChangeSpec := { name := "monoBack", fn := fun _ => fun
  | [d1, d2] => { results := [.lit (.bool false)], args := [d1, d2] }
  | _ => none }
def MonoBackWrongFalsely : Prop := monoBackRow.holds Try.pinned (OpenSpec.ofChange monoBackWrong)

/-- 'syzygylaw08.MonoArgs': WHATEVER THE INPUT: true; the input reads as it did. -/
def monoArgsSpec : ChangeSpec := { name := "monoArgs", fn := fun _ => fun
  | [d1, d2, d3] => { results := [.lit (.bool true)], args := [d1, d2, d3] }
  | _ => none }
def monoArgsRow : OpenClaim := { program := "ytmknpclfanblfaa", sum := "a836bee6672b081d1e21b0d1f1b79a2e87d71d3fb54249aec8dc7c9869ca1bc2", func := "syzygy/syzygylaw08.MonoArgs", spec := "monoArgs", unfollowed := true, recurses := true, apart := false }
def MonoArgsSaid : Prop := monoArgsRow.holds Try.pinned (OpenSpec.ofChange monoArgsSpec)

/-- ITS FALSE NEIGHBOUR: 'it returns false'. Refute it at one input. -/
def monoArgsWrong : ChangeSpec := { name := "monoArgs", fn := fun _ => fun
  | [d1, d2, d3] => { results := [.lit (.bool false)], args := [d1, d2, d3] }
  | _ => none }
def MonoArgsWrongFalsely : Prop := monoArgsRow.holds Try.pinned (OpenSpec.ofChange monoArgsWrong)

/-- 'syzygylaw02.NatOrder': WHATEVER THE INPUT: true; the input reads as it did. -/
def natOrderSpec : ChangeSpec := { name := "natOrder", fn := fun _ => fun
  | [d1, d2] => { results := [.lit (.bool true)], args := [d1, d2] }
  | _ => none }
def natOrderRow : OpenClaim := { program := "ytmknpclfanblfaa", sum := "a836bee6672b081d1e21b0d1f1b79a2e87d71d3fb54249aec8dc7c9869ca1bc2", func := "syzygy/syzygylaw02.NatOrder", spec := "natOrder", inPlace := ["math/bits.Add64"], unfollowed := true, recurses := true, apart := false }
def NatOrderSaid : Prop := natOrderRow.holds Try.pinned (OpenSpec.ofChange natOrderSpec)

/-- ITS FALSE NEIGHBOUR: 'it returns false'. Refute it at one input. -/
def natOrderWrong : ChangeSpec := { name := "natOrder", fn := fun _ => fun
  | [d1, d2] => { results := [.lit (.bool false)], args := [d1, d2] }
  | _ => none }
def NatOrderWrongFalsely : Prop := natOrderRow.holds Try.pinned (OpenSpec.ofChange natOrderWrong)

/-- 'syzygylaw02.NatPowers': WHATEVER THE INPUT: true; the input reads as it did. -/
def natPowersSpec : ChangeSpec := { name := "natPowers", fn := fun _ => fun
  | [d1, d2] => { results := [.lit (.bool true)], args := [d1, d2] }
  | _ => none }
def natPowersRow : OpenClaim := { program := "ytmknpclfanblfaa", sum := "a836bee6672b081d1e21b0d1f1b79a2e87d71d3fb54249aec8dc7c9869ca1bc2", func := "syzygy/syzygylaw02.NatPowers", spec := "natPowers", inPlace := ["math/bits.Add64"], unfollowed := true, recurses := true, apart := false }
def NatPowersSaid : Prop := natPowersRow.holds Try.pinned (OpenSpec.ofChange natPowersSpec)

/-- ITS FALSE NEIGHBOUR: 'it returns false'. Refute it at one input. -/
def natPowersWrong : ChangeSpec := { name := "natPowers", fn := fun _ => fun
  | [d1, d2] => { results := [.lit (.bool false)], args := [d1, d2] }
  | _ => none }
def NatPowersWrongFalsely : Prop := natPowersRow.holds Try.pinned (OpenSpec.ofChange natPowersWrong)

/-- 'syzygylaw02.NatSums': WHATEVER THE INPUT: true; the input reads as it did. -/
def natSumsSpec : ChangeSpec := { name := "natSums", fn := fun _ => fun
  | [d1, d2, d3] => { results := [.lit (.bool true)], args := [d1, d2, d3] }
  | _ => none }
def natSumsRow : OpenClaim := { program := "ytmknpclfanblfaa", sum := "a836bee6672b081d1e21b0d1f1b79a2e87d71d3fb54249aec8dc7c9869ca1bc2", func := "syzygy/syzygylaw02.NatSums", spec := "natSums", inPlace := ["math/bits.Add64"], unfollowed := true, recurses := true, apart := false }
def NatSumsSaid : Prop := natSumsRow.holds Try.pinned (OpenSpec.ofChange natSumsSpec)

/-- ITS FALSE NEIGHBOUR: 'it returns false'. Refute it at one input. -/
def natSumsWrong : ChangeSpec := { name := "natSums", fn := fun _ => fun
  | [d1, d2, d3] => { results := [.lit (.bool false)], args := [d1, d2, d3] }
  | _ => none }
def NatSumsWrongFalsely : Prop := natSumsRow.holds Try.pinned (OpenSpec.ofChange natSumsWrong)

/-- 'syzygylaw02.NatTells': WHATEVER THE INPUT: true; the input reads as it did. -/
def natTellsSpec : ChangeSpec := { name := "natTells", fn := fun _ => fun
  | [d1, d2, d3] => { results := [.lit (.bool true)], args := [d1, d2, d3] }
  | _ => none }
def natTellsRow : OpenClaim := { program := "ytmknpclfanblfaa", sum := "a836bee6672b081d1e21b0d1f1b79a2e87d71d3fb54249aec8dc7c9869ca1bc2", func := "syzygy/syzygylaw02.NatTells", spec := "natTells", inPlace := ["math/bits.Add64", "math/bits.Sub64"], unfollowed := true, recurses := true, apart := false }
def NatTellsSaid : Prop := natTellsRow.holds Try.pinned (OpenSpec.ofChange natTellsSpec)

/-- ITS FALSE NEIGHBOUR: 'it returns false'. Refute it at one input. -/
def natTellsWrong : ChangeSpec := { name := "natTells", fn := fun _ => fun
  | [d1, d2, d3] => { results := [.lit (.bool false)], args := [d1, d2, d3] }
  | _ => none }
def NatTellsWrongFalsely : Prop := natTellsRow.holds Try.pinned (OpenSpec.ofChange natTellsWrong)

/- THE SECOND FORM. 'bulk': how many values and letters a reading holds, each counted each time it is reached (what is shared counts as often as it is met; a slice's spare places count too). A statement '..UptoSaid' is the law's where the arguments, and the package variables that the reading takes, are together of bulk at most 1048576: NARROWER than '..Said'. Prove '..Said' where nothing that the law and all that it calls make is longer than what came in: it says more and counts as full. Else prove '..UptoSaid'. A law counts once. -/
mutual
def uptoBulk {H : Type} : DataW H → Nat
  | .lit (.string bytes) => bytes.length + 1
  | .lit _ => 1
  | .nil => 1
  | .ptr d => uptoBulk d + 1
  | .slice elems spare => uptoBulkAll elems + uptoBulkAll spare + 1
  | .agg parts => uptoBulkAll parts + 1
  | .iface _ d => uptoBulk d + 1
  | .map entries => uptoBulkEntries entries + 1
  | .held _ => 1
def uptoBulkAll {H : Type} : List (DataW H) → Nat
  | [] => 0
  | d :: r => uptoBulk d + uptoBulkAll r
def uptoBulkEntries {H : Type} : List (Lit × DataW H) → Nat
  | [] => 0
  | x :: r => uptoBulkEntry x + uptoBulkEntries r
def uptoBulkEntry {H : Type} : Lit × DataW H → Nat
  | (.string bytes, d) => bytes.length + uptoBulk d + 1
  | (_, d) => uptoBulk d + 1
 end
def uptoSmall : (H : Type) → List (DataW H) → Bool := fun _ ds => decide (uptoBulkAll ds ≤ 1048576)
def OpenSpec.upto (s : _root_.Go.ChangeSpec) : _root_.Go.OpenSpec := { _root_.Go.OpenSpec.ofChange s with cond := some uptoSmall }

/-- 'syzygylaw08.MonoOrder', WHERE WHAT IT READS IS OF BULK AT MOST 1048576: true; the input reads as it did. -/
def monoOrderUptoRow : OpenClaim := { program := "ytmknpclfanblfaa", sum := "a836bee6672b081d1e21b0d1f1b79a2e87d71d3fb54249aec8dc7c9869ca1bc2", func := "syzygy/syzygylaw08.MonoOrder", spec := "monoOrder", unfollowed := true, recurses := true, apart := false, narrowed := true }
def MonoOrderUptoSaid : Prop := monoOrderUptoRow.holds Try.pinned (OpenSpec.upto monoOrderSpec)

/-- 'syzygylaw08.MonoKept', WHERE WHAT IT READS IS OF BULK AT MOST 1048576: true; the input reads as it did. -/
def monoKeptUptoRow : OpenClaim := { program := "ytmknpclfanblfaa", sum := "a836bee6672b081d1e21b0d1f1b79a2e87d71d3fb54249aec8dc7c9869ca1bc2", func := "syzygy/syzygylaw08.MonoKept", spec := "monoKept", unfollowed := true, recurses := true, apart := false, narrowed := true }
def MonoKeptUptoSaid : Prop := monoKeptUptoRow.holds Try.pinned (OpenSpec.upto monoKeptSpec)

/-- 'syzygylaw08.MonoDivides', WHERE WHAT IT READS IS OF BULK AT MOST 1048576: true; the input reads as it did. -/
def monoDividesUptoRow : OpenClaim := { program := "ytmknpclfanblfaa", sum := "a836bee6672b081d1e21b0d1f1b79a2e87d71d3fb54249aec8dc7c9869ca1bc2", func := "syzygy/syzygylaw08.MonoDivides", spec := "monoDivides", unfollowed := true, recurses := true, apart := false, narrowed := true }
def MonoDividesUptoSaid : Prop := monoDividesUptoRow.holds Try.pinned (OpenSpec.upto monoDividesSpec)

/-- 'syzygylaw02.NatHeld', WHERE WHAT IT READS IS OF BULK AT MOST 1048576: true; the input reads as it did. -/
def natHeldUptoRow : OpenClaim := { program := "ytmknpclfanblfaa", sum := "a836bee6672b081d1e21b0d1f1b79a2e87d71d3fb54249aec8dc7c9869ca1bc2", func := "syzygy/syzygylaw02.NatHeld", spec := "natHeld", inPlace := ["math/bits.Add64"], unfollowed := true, recurses := true, apart := false, narrowed := true }
def NatHeldUptoSaid : Prop := natHeldUptoRow.holds Try.pinned (OpenSpec.upto natHeldSpec)

/-- 'syzygylaw02.NatMinus', WHERE WHAT IT READS IS OF BULK AT MOST 1048576: true; the input reads as it did. -/
def natMinusUptoRow : OpenClaim := { program := "ytmknpclfanblfaa", sum := "a836bee6672b081d1e21b0d1f1b79a2e87d71d3fb54249aec8dc7c9869ca1bc2", func := "syzygy/syzygylaw02.NatMinus", spec := "natMinus", inPlace := ["math/bits.Add64", "math/bits.Sub64"], unfollowed := true, recurses := true, apart := false, narrowed := true }
def NatMinusUptoSaid : Prop := natMinusUptoRow.holds Try.pinned (OpenSpec.upto natMinusSpec)

/-- 'syzygylaw08.MonoTells', WHERE WHAT IT READS IS OF BULK AT MOST 1048576: true; the input reads as it did. -/
def monoTellsUptoRow : OpenClaim := { program := "ytmknpclfanblfaa", sum := "a836bee6672b081d1e21b0d1f1b79a2e87d71d3fb54249aec8dc7c9869ca1bc2", func := "syzygy/syzygylaw08.MonoTells", spec := "monoTells", unfollowed := true, recurses := true, apart := false, narrowed := true }
def MonoTellsUptoSaid : Prop := monoTellsUptoRow.holds Try.pinned (OpenSpec.upto monoTellsSpec)

/-- 'syzygylaw08.MonoBack', WHERE WHAT IT READS IS OF BULK AT MOST 1048576: true; the input reads as it did. -/
def monoBackUptoRow : OpenClaim := { program := "ytmknpclfanblfaa", sum := "a836bee6672b081d1e21b0d1f1b79a2e87d71d3fb54249aec8dc7c9869ca1bc2", func := "syzygy/syzygylaw08.MonoBack", spec := "monoBack", unfollowed := true, recurses := true, apart := false, narrowed := true }
def MonoBackUptoSaid : Prop := monoBackUptoRow.holds Try.pinned (OpenSpec.upto monoBackSpec)

/-- 'syzygylaw08.MonoArgs', WHERE WHAT IT READS IS OF BULK AT MOST 1048576: true; the input reads as it did. -/
def monoArgsUptoRow : OpenClaim := { program := "ytmknpclfanblfaa", sum := "a836bee6672b081d1e21b0d1f1b79a2e87d71d3fb54249aec8dc7c9869ca1bc2", func := "syzygy/syzygylaw08.MonoArgs", spec := "monoArgs", unfollowed := true, recurses := true, apart := false, narrowed := true }
def MonoArgsUptoSaid : Prop := monoArgsUptoRow.holds Try.pinned (OpenSpec.upto monoArgsSpec)

/-- 'syzygylaw02.NatOrder', WHERE WHAT IT READS IS OF BULK AT MOST 1048576: true; the input reads as it did. -/
def natOrderUptoRow : OpenClaim := { program := "ytmknpclfanblfaa", sum := "a836bee6672b081d1e21b0d1f1b79a2e87d71d3fb54249aec8dc7c9869ca1bc2", func := "syzygy/syzygylaw02.NatOrder", spec := "natOrder", inPlace := ["math/bits.Add64"], unfollowed := true, recurses := true, apart := false, narrowed := true }
def NatOrderUptoSaid : Prop := natOrderUptoRow.holds Try.pinned (OpenSpec.upto natOrderSpec)

/-- 'syzygylaw02.NatPowers', WHERE WHAT IT READS IS OF BULK AT MOST 1048576: true; the input reads as it did. -/
def natPowersUptoRow : OpenClaim := { program := "ytmknpclfanblfaa", sum := "a836bee6672b081d1e21b0d1f1b79a2e87d71d3fb54249aec8dc7c9869ca1bc2", func := "syzygy/syzygylaw02.NatPowers", spec := "natPowers", inPlace := ["math/bits.Add64"], unfollowed := true, recurses := true, apart := false, narrowed := true }
def NatPowersUptoSaid : Prop := natPowersUptoRow.holds Try.pinned (OpenSpec.upto natPowersSpec)

/-- 'syzygylaw02.NatSums', WHERE WHAT IT READS IS OF BULK AT MOST 1048576: true; the input reads as it did. -/
def natSumsUptoRow : OpenClaim := { program := "ytmknpclfanblfaa", sum := "a836bee6672b081d1e21b0d1f1b79a2e87d71d3fb54249aec8dc7c9869ca1bc2", func := "syzygy/syzygylaw02.NatSums", spec := "natSums", inPlace := ["math/bits.Add64"], unfollowed := true, recurses := true, apart := false, narrowed := true }
def NatSumsUptoSaid : Prop := natSumsUptoRow.holds Try.pinned (OpenSpec.upto natSumsSpec)

/-- 'syzygylaw02.NatTells', WHERE WHAT IT READS IS OF BULK AT MOST 1048576: true; the input reads as it did. -/
def natTellsUptoRow : OpenClaim := { program := "ytmknpclfanblfaa", sum := "a836bee6672b081d1e21b0d1f1b79a2e87d71d3fb54249aec8dc7c9869ca1bc2", func := "syzygy/syzygylaw02.NatTells", spec := "natTells", inPlace := ["math/bits.Add64", "math/bits.Sub64"], unfollowed := true, recurses := true, apart := false, narrowed := true }
def NatTellsUptoSaid : Prop := natTellsUptoRow.holds Try.pinned (OpenSpec.upto natTellsSpec)

end Rows
end Go.Proofs.Ytmknpclfanblfaa
