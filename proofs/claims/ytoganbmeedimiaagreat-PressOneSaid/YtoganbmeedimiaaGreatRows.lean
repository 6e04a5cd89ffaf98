/-
  No cell of these rows narrows 'for every input' (looked for: loops, veiled, ifaces, maps, wideKeys, modest, calm, conditions, laid).
  DERIVED. THE GIVEN ROWS OF THIS SEAT. 5 by the template 'for every input the law returns true; each argument reads behind the call as it read before'; 0 by the template 'total and deterministic' (their statements: YtoganbmeedimiaaGreatTotals.lean).
  GIVEN WITH THE SEED: the statements are not yours to turn. If you find one false, say at which input.
  Laid BY PROGRAM, IN A SANDBOX (cutbox-rows.mjs): the forced cells as the released guide's own fill.sh prints them over the translation ade3bb072a480e91… (all of the seat's roots in one cut). By AI agents, Wed Nov 11 2026. No macro, syntax, notation, axiom, sorry.
-/
import Derived.Test.YtoganbmeedimiaaGreatChecked
import GoSem.Claim
import GoSem.ClaimJoined
import GoSem.ClaimMapViews
import Derived.JoinedTies
import Derived.KernelRfl
namespace Go.Proofs.YtoganbmeedimiaaGreat
/- THE CELL 'sum', in the pinned program and in every row, IS THE sha256 OF THE DUMP (.gsa) THAT YtoganbmeedimiaaGreatProg.lean LOADS. Nothing in Lean hashes anything: it is a label: what it is worth is what the hold of that sum in a sandbox is worth. -/
noncomputable def Tryz.pinned : Pinned := { name := "ytoganbmeedimiaagreat", sum := "ade3bb072a480e918229267a6c2848fc53d377589ca6fe9b525024899e8a3b5c", checked := Tryz.checked }
namespace Rows
def none {H : Type} : Left H := { results := [], args := [] }

/-- 'syzygylaw11.PressSizes': WHATEVER THE INPUT: true; the input reads as it did. -/
def pressSizesSpec : ChangeSpec := { name := "pressSizes", fn := fun _ => fun
  | [d] => { results := [.lit (.bool true)], args := [d] }
  | _ => none }
def pressSizesRow : OpenClaim := { program := "ytoganbmeedimiaagreat", sum := "ade3bb072a480e918229267a6c2848fc53d377589ca6fe9b525024899e8a3b5c", func := "syzygy/syzygylaw11.PressSizes", spec := "pressSizes", inPlace := ["math/bits.Add64", "math/bits.Sub64", "internal/abi.NoEscape"], unfollowed := true, recurses := true, named := ["math/bits.divideError", "math/bits.overflowError"], apart := false }
def PressSizesSaid : Prop := pressSizesRow.holds Tryz.pinned (OpenSpec.ofChange pressSizesSpec)

/-- ITS FALSE NEIGHBOUR: 'it returns false'. Refute it at one input. -/
def pressSizesWrong : ChangeSpec := { name := "pressSizes", fn := fun _ => fun
  | [d] => { results := [.lit (.bool false)], args := [d] }
  | _ => none }
def PressSizesWrongFalsely : Prop := pressSizesRow.holds Tryz.pinned (OpenSpec.ofChange pressSizesWrong)

/-- 'syzygylaw11.PressPuts': WHATEVER THE INPUT: true; the input reads as it did. -/
def pressPutsSpec : ChangeSpec := { name := "pressPuts", fn := fun _ => fun
  | [d1, d2] => { results := [.lit (.bool true)], args := [d1, d2] }
  | _ => none }
def pressPutsRow : OpenClaim := { program := "ytoganbmeedimiaagreat", sum := "ade3bb072a480e918229267a6c2848fc53d377589ca6fe9b525024899e8a3b5c", func := "syzygy/syzygylaw11.PressPuts", spec := "pressPuts", inPlace := ["math/bits.Add64", "math/bits.Sub64", "internal/abi.NoEscape"], unfollowed := true, recurses := true, named := ["math/bits.divideError", "math/bits.overflowError"], apart := false }
def PressPutsSaid : Prop := pressPutsRow.holds Tryz.pinned (OpenSpec.ofChange pressPutsSpec)

/-- ITS FALSE NEIGHBOUR: 'it returns false'. Refute it at one input. -/
def pressPutsWrong : ChangeSpec := { name := "pressPuts", fn := fun _ => fun
  | [d1, d2] => { results := [.lit (.bool false)], args := [d1, d2] }
  | _ => none }
def PressPutsWrongFalsely : Prop := pressPutsRow.holds Tryz.pinned (OpenSpec.ofChange pressPutsWrong)

/-- 'syzygylaw11.PressGets': WHATEVER THE INPUT: true; the input reads as it did. -/
def pressGetsSpec : ChangeSpec := { name := "pressGets", fn := fun _ => fun
  | [d1, d2] => { results := [.lit (.bool true)], args := [d1, d2] }
  | _ => none }
def pressGetsRow : OpenClaim := { program := "ytoganbmeedimiaagreat", sum := "ade3bb072a480e918229267a6c2848fc53d377589ca6fe9b525024899e8a3b5c", func := "syzygy/syzygylaw11.PressGets", spec := "pressGets", inPlace := ["math/bits.Add64", "math/bits.Sub64", "internal/abi.NoEscape"], unfollowed := true, recurses := true, named := ["math/bits.divideError", "math/bits.overflowError"], apart := false }
def PressGetsSaid : Prop := pressGetsRow.holds Tryz.pinned (OpenSpec.ofChange pressGetsSpec)

/-- ITS FALSE NEIGHBOUR: 'it returns false'. Refute it at one input. -/
def pressGetsWrong : ChangeSpec := { name := "pressGets", fn := fun _ => fun
  | [d1, d2] => { results := [.lit (.bool false)], args := [d1, d2] }
  | _ => none }
def PressGetsWrongFalsely : Prop := pressGetsRow.holds Tryz.pinned (OpenSpec.ofChange pressGetsWrong)

/-- 'syzygylaw11.PressBack': WHATEVER THE INPUT: true; the input reads as it did. -/
def pressBackSpec : ChangeSpec := { name := "pressBack", fn := fun _ => fun
  | [d1, d2, d3, d4] => { results := [.lit (.bool true)], args := [d1, d2, d3, d4] }
  | _ => none }
def pressBackRow : OpenClaim := { program := "ytoganbmeedimiaagreat", sum := "ade3bb072a480e918229267a6c2848fc53d377589ca6fe9b525024899e8a3b5c", func := "syzygy/syzygylaw11.PressBack", spec := "pressBack", inPlace := ["math/bits.Add64", "math/bits.Sub64", "internal/abi.NoEscape"], unfollowed := true, recurses := true, named := ["math/bits.divideError", "math/bits.overflowError"], apart := false }
def PressBackSaid : Prop := pressBackRow.holds Tryz.pinned (OpenSpec.ofChange pressBackSpec)

/-- ITS FALSE NEIGHBOUR: 'it returns false'. Refute it at one input. -/
def pressBackWrong : ChangeSpec := { name := "pressBack", fn := fun _ => fun
  | [d1, d2, d3, d4] => { results := [.lit (.bool false)], args := [d1, d2, d3, d4] }
  | _ => none }
def PressBackWrongFalsely : Prop := pressBackRow.holds Tryz.pinned (OpenSpec.ofChange pressBackWrong)

/-- 'syzygylaw11.PressOne': WHATEVER THE INPUT: true; the input reads as it did. -/
def pressOneSpec : ChangeSpec := { name := "pressOne", fn := fun _ => fun
  | [d1, d2] => { results := [.lit (.bool true)], args := [d1, d2] }
  | _ => none }
def pressOneRow : OpenClaim := { program := "ytoganbmeedimiaagreat", sum := "ade3bb072a480e918229267a6c2848fc53d377589ca6fe9b525024899e8a3b5c", func := "syzygy/syzygylaw11.PressOne", spec := "pressOne", inPlace := ["math/bits.Add64", "math/bits.Sub64", "internal/abi.NoEscape"], unfollowed := true, recurses := true, named := ["math/bits.divideError", "math/bits.overflowError"], apart := false }
def PressOneSaid : Prop := pressOneRow.holds Tryz.pinned (OpenSpec.ofChange pressOneSpec)

/-- ITS FALSE NEIGHBOUR: 'it returns false'. Refute it at one input. -/
def pressOneWrong : ChangeSpec := { name := "pressOne", fn := fun _ => fun
  | [d1, d2] => { results := [.lit (.bool false)], args := [d1, d2] }
  | _ => none }
def PressOneWrongFalsely : Prop := pressOneRow.holds Tryz.pinned (OpenSpec.ofChange pressOneWrong)

/- THE SECOND FORM. 'bulk': how many values and letters a reading holds, each counted each time it is reached (what is shared counts as often as it is met; a slice's spare places count too). A statement '..UptoSaid' is the law's where the arguments, and the package variables that the reading takes, are together of bulk at most 1048576: NARROWER than '..Said'. Prove '..Said' where nothing that the law and all that it calls make is longer than what came in: it says more and counts as full. Else prove '..UptoSaid'. A law counts once. -/
mutual
def uptoBulk {H : Type} : DataW H → Nat
  | .lit (.string bytes) => bytes.length + 1
  | .lit _ => 1
  | .nil => 1
  | .ptr d => uptoBulk d + 1
  | .slice elems spare => uptoBulkAll elems + uptoBulkAll spare + 1
  | .agg parts => uptoBulkAll parts + 1
  | .iface _ d => uptoBulk d + 1
  | .map entries => uptoBulkEntries entries + 1
  | .held _ => 1
def uptoBulkAll {H : Type} : List (DataW H) → Nat
  | [] => 0
  | d :: r => uptoBulk d + uptoBulkAll r
def uptoBulkEntries {H : Type} : List (Lit × DataW H) → Nat
  | [] => 0
  | x :: r => uptoBulkEntry x + uptoBulkEntries r
def uptoBulkEntry {H : Type} : Lit × DataW H → Nat
  | (.string bytes, d) => bytes.length + uptoBulk d + 1
  | (_, d) => uptoBulk d + 1
 end
def uptoSmall : (H : Type) → List (DataW H) → Bool := fun _ ds => decide (uptoBulkAll ds ≤ 1048576)
def OpenSpec.upto (s : _root_.Go.ChangeSpec) : _root_.Go.OpenSpec := { _root_.Go.OpenSpec.ofChange s with cond := some uptoSmall }

/-- 'syzygylaw11.PressSizes', WHERE WHAT IT READS IS OF BULK AT MOST 1048576: true; the input reads as it did. -/
def pressSizesUptoRow : OpenClaim := { program := "ytoganbmeedimiaagreat", sum := "ade3bb072a480e918229267a6c2848fc53d377589ca6fe9b525024899e8a3b5c", func := "syzygy/syzygylaw11.PressSizes", spec := "pressSizes", inPlace := ["math/bits.Add64", "math/bits.Sub64", "internal/abi.NoEscape"], unfollowed := true, recurses := true, named := ["math/bits.divideError", "math/bits.overflowError"], apart := false, narrowed := true }
def PressSizesUptoSaid : Prop := pressSizesUptoRow.holds Tryz.pinned (OpenSpec.upto pressSizesSpec)

/-- 'syzygylaw11.PressPuts', WHERE WHAT IT READS IS OF BULK AT MOST 1048576: true; the input reads as it did. -/
def pressPutsUptoRow : OpenClaim := { program := "ytoganbmeedimiaagreat", sum := "ade3bb072a480e918229267a6c2848fc53d377589ca6fe9b525024899e8a3b5c", func := "syzygy/syzygylaw11.PressPuts", spec := "pressPuts", inPlace := ["math/bits.Add64", "math/bits.Sub64", "internal/abi.NoEscape"], unfollowed := true, recurses := true, named := ["math/bits.divideError", "math/bits.overflowError"], apart := false, narrowed := true }
def PressPutsUptoSaid : Prop := pressPutsUptoRow.holds Tryz.pinned (OpenSpec.upto pressPutsSpec)

/-- 'syzygylaw11.PressGets', WHERE WHAT IT READS IS OF BULK AT MOST 1048576: true; the input reads as it did. -/
def pressGetsUptoRow : OpenClaim := { program := "ytoganbmeedimiaagreat", sum := "ade3bb072a480e918229267a6c2848fc53d377589ca6fe9b525024899e8a3b5c", func := "syzygy/syzygylaw11.PressGets", spec := "pressGets", inPlace := ["math/bits.Add64", "math/bits.Sub64", "internal/abi.NoEscape"], unfollowed := true, recurses := true, named := ["math/bits.divideError", "math/bits.overflowError"], apart := false, narrowed := true }
def PressGetsUptoSaid : Prop := pressGetsUptoRow.holds Tryz.pinned (OpenSpec.upto pressGetsSpec)

/-- 'syzygylaw11.PressBack', WHERE WHAT IT READS IS OF BULK AT MOST 1048576: true; the input reads as it did. -/
def pressBackUptoRow : OpenClaim := { program := "ytoganbmeedimiaagreat", sum := "ade3bb072a480e918229267a6c2848fc53d377589ca6fe9b525024899e8a3b5c", func := "syzygy/syzygylaw11.PressBack", spec := "pressBack", inPlace := ["math/bits.Add64", "math/bits.Sub64", "internal/abi.NoEscape"], unfollowed := true, recurses := true, named := ["math/bits.divideError", "math/bits.overflowError"], apart := false, narrowed := true }
def PressBackUptoSaid : Prop := pressBackUptoRow.holds Tryz.pinned (OpenSpec.upto pressBackSpec)

/-- 'syzygylaw11.PressOne', WHERE WHAT IT READS IS OF BULK AT MOST 1048576: true; the input reads as it did. -/
def pressOneUptoRow : OpenClaim := { program := "ytoganbmeedimiaagreat", sum := "ade3bb072a480e918229267a6c2848fc53d377589ca6fe9b525024899e8a3b5c", func := "syzygy/syzygylaw11.PressOne", spec := "pressOne", inPlace := ["math/bits.Add64", "math/bits.Sub64", "internal/abi.NoEscape"], unfollowed := true, recurses := true, named := ["math/bits.divideError", "math/bits.overflowError"], apart := false, narrowed := true }
def PressOneUptoSaid : Prop := pressOneUptoRow.holds Tryz.pinned (OpenSpec.upto pressOneSpec)

end Rows
end Go.Proofs.YtoganbmeedimiaaGreat
