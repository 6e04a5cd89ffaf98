/-
  No cell of these rows narrows 'for every input' (looked for: loops, veiled, ifaces, maps, wideKeys, modest, calm, conditions, laid).
  DERIVED. THE GIVEN ROWS OF THIS SEAT. 8 by the template 'for every input the law returns true; each argument reads behind the call as it read before'; 0 by the template 'total and deterministic' (their statements: YtdknpbabdkjhfaaTotals.lean).
  GIVEN WITH THE SEED: the statements are not yours to turn. If you find one false, say at which input.
  Laid BY PROGRAM, IN A SANDBOX (cutbox-rows.mjs): the forced cells as the released guide's own fill.sh prints them over the translation 198f6c8f63885072… (all of the seat's roots in one cut). By AI agents, Wed Nov 11 2026. No macro, syntax, notation, axiom, sorry.
-/
import Derived.Test.YtdknpbabdkjhfaaChecked
import GoSem.Claim
import GoSem.ClaimJoined
import GoSem.ClaimMapViews
import Derived.JoinedTies
import Derived.KernelRfl
namespace Go.Proofs.Ytdknpbabdkjhfaa
/- THE CELL 'sum', in the pinned program and in every row, IS THE sha256 OF THE DUMP (.gsa) THAT YtdknpbabdkjhfaaProg.lean LOADS. Nothing in Lean hashes anything: it is a label: what it is worth is what the hold of that sum in a sandbox is worth. -/
noncomputable def Try.pinned : Pinned := { name := "ytdknpbabdkjhfaa", sum := "198f6c8f63885072aaaa3dda89acf5f8a4363a671d1daddbf1543c9384eb25c5", checked := Try.checked }
namespace Rows
def none {H : Type} : Left H := { results := [], args := [] }

/-- 'syzygylaw01.LimbOrder': WHATEVER THE INPUT: true; the input reads as it did. -/
def limbOrderSpec : ChangeSpec := { name := "limbOrder", fn := fun _ => fun
  | [d1, d2, d3] => { results := [.lit (.bool true)], args := [d1, d2, d3] }
  | _ => none }
def limbOrderRow : OpenClaim := { program := "ytdknpbabdkjhfaa", sum := "198f6c8f63885072aaaa3dda89acf5f8a4363a671d1daddbf1543c9384eb25c5", func := "syzygy/syzygylaw01.LimbOrder", spec := "limbOrder", inPlace := ["math/bits.Add64"], apart := false }
def LimbOrderSaid : Prop := limbOrderRow.holds Try.pinned (OpenSpec.ofChange limbOrderSpec)

/-- ITS FALSE NEIGHBOUR: 'it returns false'. Refute it at one input. -/
def limbOrderWrong : ChangeSpec := { name := "limbOrder", fn := fun _ => fun
  | [d1, d2, d3] => { results := [.lit (.bool false)], args := [d1, d2, d3] }
  | _ => none }
def LimbOrderWrongFalsely : Prop := limbOrderRow.holds Try.pinned (OpenSpec.ofChange limbOrderWrong)

/-- 'syzygylaw01.LimbShifts': WHATEVER THE INPUT: true; the input reads as it did. -/
def limbShiftsSpec : ChangeSpec := { name := "limbShifts", fn := fun _ => fun
  | [d1, d2] => { results := [.lit (.bool true)], args := [d1, d2] }
  | _ => none }
def limbShiftsRow : OpenClaim := { program := "ytdknpbabdkjhfaa", sum := "198f6c8f63885072aaaa3dda89acf5f8a4363a671d1daddbf1543c9384eb25c5", func := "syzygy/syzygylaw01.LimbShifts", spec := "limbShifts", inPlace := ["math/bits.Add64"], apart := false }
def LimbShiftsSaid : Prop := limbShiftsRow.holds Try.pinned (OpenSpec.ofChange limbShiftsSpec)

/-- ITS FALSE NEIGHBOUR: 'it returns false'. Refute it at one input. -/
def limbShiftsWrong : ChangeSpec := { name := "limbShifts", fn := fun _ => fun
  | [d1, d2] => { results := [.lit (.bool false)], args := [d1, d2] }
  | _ => none }
def LimbShiftsWrongFalsely : Prop := limbShiftsRow.holds Try.pinned (OpenSpec.ofChange limbShiftsWrong)

/-- 'syzygylaw01.LimbBack': WHATEVER THE INPUT: true; the input reads as it did. -/
def limbBackSpec : ChangeSpec := { name := "limbBack", fn := fun _ => fun
  | [d1, d2, d3] => { results := [.lit (.bool true)], args := [d1, d2, d3] }
  | _ => none }
def limbBackRow : OpenClaim := { program := "ytdknpbabdkjhfaa", sum := "198f6c8f63885072aaaa3dda89acf5f8a4363a671d1daddbf1543c9384eb25c5", func := "syzygy/syzygylaw01.LimbBack", spec := "limbBack", inPlace := ["math/bits.Add64", "math/bits.Sub64"], unfollowed := true, recurses := true, apart := false }
def LimbBackSaid : Prop := limbBackRow.holds Try.pinned (OpenSpec.ofChange limbBackSpec)

/-- ITS FALSE NEIGHBOUR: 'it returns false'. Refute it at one input. -/
def limbBackWrong : ChangeSpec := { name := "limbBack", fn := fun _ => fun
  | [d1, d2, d3] => { results := [.lit (.bool false)], args := [d1, d2, d3] }
  | _ => none }
def LimbBackWrongFalsely : Prop := limbBackRow.holds Try.pinned (OpenSpec.ofChange limbBackWrong)

/-- 'syzygylaw01.LimbSub': WHATEVER THE INPUT: true; the input reads as it did. -/
def limbSubSpec : ChangeSpec := { name := "limbSub", fn := fun _ => fun
  | [d1, d2] => { results := [.lit (.bool true)], args := [d1, d2] }
  | _ => none }
def limbSubRow : OpenClaim := { program := "ytdknpbabdkjhfaa", sum := "198f6c8f63885072aaaa3dda89acf5f8a4363a671d1daddbf1543c9384eb25c5", func := "syzygy/syzygylaw01.LimbSub", spec := "limbSub", inPlace := ["math/bits.Add64", "math/bits.Sub64"], unfollowed := true, recurses := true, apart := false }
def LimbSubSaid : Prop := limbSubRow.holds Try.pinned (OpenSpec.ofChange limbSubSpec)

/-- ITS FALSE NEIGHBOUR: 'it returns false'. Refute it at one input. -/
def limbSubWrong : ChangeSpec := { name := "limbSub", fn := fun _ => fun
  | [d1, d2] => { results := [.lit (.bool false)], args := [d1, d2] }
  | _ => none }
def LimbSubWrongFalsely : Prop := limbSubRow.holds Try.pinned (OpenSpec.ofChange limbSubWrong)

/-- 'syzygylaw01.LimbPowers': WHATEVER THE INPUT: true; the input reads as it did. -/
def limbPowersSpec : ChangeSpec := { name := "limbPowers", fn := fun _ => fun
  | [d1, d2] => { results := [.lit (.bool true)], args := [d1, d2] }
  | _ => none }
def limbPowersRow : OpenClaim := { program := "ytdknpbabdkjhfaa", sum := "198f6c8f63885072aaaa3dda89acf5f8a4363a671d1daddbf1543c9384eb25c5", func := "syzygy/syzygylaw01.LimbPowers", spec := "limbPowers", inPlace := ["math/bits.Add64"], apart := false }
def LimbPowersSaid : Prop := limbPowersRow.holds Try.pinned (OpenSpec.ofChange limbPowersSpec)

/-- ITS FALSE NEIGHBOUR: 'it returns false'. Refute it at one input. -/
def limbPowersWrong : ChangeSpec := { name := "limbPowers", fn := fun _ => fun
  | [d1, d2] => { results := [.lit (.bool false)], args := [d1, d2] }
  | _ => none }
def LimbPowersWrongFalsely : Prop := limbPowersRow.holds Try.pinned (OpenSpec.ofChange limbPowersWrong)

/-- 'syzygylaw01.LimbTimes': WHATEVER THE INPUT: true; the input reads as it did. -/
def limbTimesSpec : ChangeSpec := { name := "limbTimes", fn := fun _ => fun
  | [d1, d2, d3] => { results := [.lit (.bool true)], args := [d1, d2, d3] }
  | _ => none }
def limbTimesRow : OpenClaim := { program := "ytdknpbabdkjhfaa", sum := "198f6c8f63885072aaaa3dda89acf5f8a4363a671d1daddbf1543c9384eb25c5", func := "syzygy/syzygylaw01.LimbTimes", spec := "limbTimes", inPlace := ["math/bits.Add64"], unfollowed := true, recurses := true, apart := false }
def LimbTimesSaid : Prop := limbTimesRow.holds Try.pinned (OpenSpec.ofChange limbTimesSpec)

/-- ITS FALSE NEIGHBOUR: 'it returns false'. Refute it at one input. -/
def limbTimesWrong : ChangeSpec := { name := "limbTimes", fn := fun _ => fun
  | [d1, d2, d3] => { results := [.lit (.bool false)], args := [d1, d2, d3] }
  | _ => none }
def LimbTimesWrongFalsely : Prop := limbTimesRow.holds Try.pinned (OpenSpec.ofChange limbTimesWrong)

/-- 'syzygylaw01.LimbTells': WHATEVER THE INPUT: true; the input reads as it did. -/
def limbTellsSpec : ChangeSpec := { name := "limbTells", fn := fun _ => fun
  | [d1, d2] => { results := [.lit (.bool true)], args := [d1, d2] }
  | _ => none }
def limbTellsRow : OpenClaim := { program := "ytdknpbabdkjhfaa", sum := "198f6c8f63885072aaaa3dda89acf5f8a4363a671d1daddbf1543c9384eb25c5", func := "syzygy/syzygylaw01.LimbTells", spec := "limbTells", inPlace := ["math/bits.Add64", "math/bits.Sub64"], unfollowed := true, recurses := true, apart := false }
def LimbTellsSaid : Prop := limbTellsRow.holds Try.pinned (OpenSpec.ofChange limbTellsSpec)

/-- ITS FALSE NEIGHBOUR: 'it returns false'. Refute it at one input. -/
def limbTellsWrong : ChangeSpec := { name := "limbTells", fn := fun _ => fun
  | [d1, d2] => { results := [.lit (.bool false)], args := [d1, d2] }
  | _ => none }
def LimbTellsWrongFalsely : Prop := limbTellsRow.holds Try.pinned (OpenSpec.ofChange limbTellsWrong)

/-- 'syzygylaw01.LimbTrim': WHATEVER THE INPUT: true; the input reads as it did. -/
def limbTrimSpec : ChangeSpec := { name := "limbTrim", fn := fun _ => fun
  | [d1, d2, d3] => { results := [.lit (.bool true)], args := [d1, d2, d3] }
  | _ => none }
def limbTrimRow : OpenClaim := { program := "ytdknpbabdkjhfaa", sum := "198f6c8f63885072aaaa3dda89acf5f8a4363a671d1daddbf1543c9384eb25c5", func := "syzygy/syzygylaw01.LimbTrim", spec := "limbTrim", inPlace := ["math/bits.Add64"], unfollowed := true, recurses := true, apart := false }
def LimbTrimSaid : Prop := limbTrimRow.holds Try.pinned (OpenSpec.ofChange limbTrimSpec)

/-- ITS FALSE NEIGHBOUR: 'it returns false'. Refute it at one input. -/
def limbTrimWrong : ChangeSpec := { name := "limbTrim", fn := fun _ => fun
  | [d1, d2, d3] => { results := [.lit (.bool false)], args := [d1, d2, d3] }
  | _ => none }
def LimbTrimWrongFalsely : Prop := limbTrimRow.holds Try.pinned (OpenSpec.ofChange limbTrimWrong)

/- THE SECOND FORM. 'bulk': how many values and letters a reading holds, each counted each time it is reached (what is shared counts as often as it is met; a slice's spare places count too). A statement '..UptoSaid' is the law's where the arguments, and the package variables that the reading takes, are together of bulk at most 1048576: NARROWER than '..Said'. Prove '..Said' where nothing that the law and all that it calls make is longer than what came in: it says more and counts as full. Else prove '..UptoSaid'. A law counts once. -/
mutual
def uptoBulk {H : Type} : DataW H → Nat
  | .lit (.string bytes) => bytes.length + 1
  | .lit _ => 1
  | .nil => 1
  | .ptr d => uptoBulk d + 1
  | .slice elems spare => uptoBulkAll elems + uptoBulkAll spare + 1
  | .agg parts => uptoBulkAll parts + 1
  | .iface _ d => uptoBulk d + 1
  | .map entries => uptoBulkEntries entries + 1
  | .held _ => 1
def uptoBulkAll {H : Type} : List (DataW H) → Nat
  | [] => 0
  | d :: r => uptoBulk d + uptoBulkAll r
def uptoBulkEntries {H : Type} : List (Lit × DataW H) → Nat
  | [] => 0
  | x :: r => uptoBulkEntry x + uptoBulkEntries r
def uptoBulkEntry {H : Type} : Lit × DataW H → Nat
  | (.string bytes, d) => bytes.length + uptoBulk d + 1
  | (_, d) => uptoBulk d + 1
 end
def uptoSmall : (H : Type) → List (DataW H) → Bool := fun _ ds => decide (uptoBulkAll ds ≤ 1048576)
def OpenSpec.upto (s : _root_.Go.ChangeSpec) : _root_.Go.OpenSpec := { _root_.Go.OpenSpec.ofChange s with cond := some uptoSmall }

/-- 'syzygylaw01.LimbOrder', WHERE WHAT IT READS IS OF BULK AT MOST 1048576: true; the input reads as it did. -/
def limbOrderUptoRow : OpenClaim := { program := "ytdknpbabdkjhfaa", sum := "198f6c8f63885072aaaa3dda89acf5f8a4363a671d1daddbf1543c9384eb25c5", func := "syzygy/syzygylaw01.LimbOrder", spec := "limbOrder", inPlace := ["math/bits.Add64"], apart := false, narrowed := true }
def LimbOrderUptoSaid : Prop := limbOrderUptoRow.holds Try.pinned (OpenSpec.upto limbOrderSpec)

/-- 'syzygylaw01.LimbShifts', WHERE WHAT IT READS IS OF BULK AT MOST 1048576: true; the input reads as it did. -/
def limbShiftsUptoRow : OpenClaim := { program := "ytdknpbabdkjhfaa", sum := "198f6c8f63885072aaaa3dda89acf5f8a4363a671d1daddbf1543c9384eb25c5", func := "syzygy/syzygylaw01.LimbShifts", spec := "limbShifts", inPlace := ["math/bits.Add64"], apart := false, narrowed := true }
def LimbShiftsUptoSaid : Prop := limbShiftsUptoRow.holds Try.pinned (OpenSpec.upto limbShiftsSpec)

/-- 'syzygylaw01.LimbBack', WHERE WHAT IT READS IS OF BULK AT MOST 1048576: true; the input reads as it did. -/
def limbBackUptoRow : OpenClaim := { program := "ytdknpbabdkjhfaa", sum := "198f6c8f63885072aaaa3dda89acf5f8a4363a671d1daddbf1543c9384eb25c5", func := "syzygy/syzygylaw01.LimbBack", spec := "limbBack", inPlace := ["math/bits.Add64", "math/bits.Sub64"], unfollowed := true, recurses := true, apart := false, narrowed := true }
def LimbBackUptoSaid : Prop := limbBackUptoRow.holds Try.pinned (OpenSpec.upto limbBackSpec)

/-- 'syzygylaw01.LimbSub', WHERE WHAT IT READS IS OF BULK AT MOST 1048576: true; the input reads as it did. -/
def limbSubUptoRow : OpenClaim := { program := "ytdknpbabdkjhfaa", sum := "198f6c8f63885072aaaa3dda89acf5f8a4363a671d1daddbf1543c9384eb25c5", func := "syzygy/syzygylaw01.LimbSub", spec := "limbSub", inPlace := ["math/bits.Add64", "math/bits.Sub64"], unfollowed := true, recurses := true, apart := false, narrowed := true }
def LimbSubUptoSaid : Prop := limbSubUptoRow.holds Try.pinned (OpenSpec.upto limbSubSpec)

/-- 'syzygylaw01.LimbPowers', WHERE WHAT IT READS IS OF BULK AT MOST 1048576: true; the input reads as it did. -/
def limbPowersUptoRow : OpenClaim := { program := "ytdknpbabdkjhfaa", sum := "198f6c8f63885072aaaa3dda89acf5f8a4363a671d1daddbf1543c9384eb25c5", func := "syzygy/syzygylaw01.LimbPowers", spec := "limbPowers", inPlace := ["math/bits.Add64"], apart := false, narrowed := true }
def LimbPowersUptoSaid : Prop := limbPowersUptoRow.holds Try.pinned (OpenSpec.upto limbPowersSpec)

/-- 'syzygylaw01.LimbTimes', WHERE WHAT IT READS IS OF BULK AT MOST 1048576: true; the input reads as it did. -/
def limbTimesUptoRow : OpenClaim := { program := "ytdknpbabdkjhfaa", sum := "198f6c8f63885072aaaa3dda89acf5f8a4363a671d1daddbf1543c9384eb25c5", func := "syzygy/syzygylaw01.LimbTimes", spec := "limbTimes", inPlace := ["math/bits.Add64"], unfollowed := true, recurses := true, apart := false, narrowed := true }
def LimbTimesUptoSaid : Prop := limbTimesUptoRow.holds Try.pinned (OpenSpec.upto limbTimesSpec)

/-- 'syzygylaw01.LimbTells', WHERE WHAT IT READS IS OF BULK AT MOST 1048576: true; the input reads as it did. -/
def limbTellsUptoRow : OpenClaim := { program := "ytdknpbabdkjhfaa", sum := "198f6c8f63885072aaaa3dda89acf5f8a4363a671d1daddbf1543c9384eb25c5", func := "syzygy/syzygylaw01.LimbTells", spec := "limbTells", inPlace := ["math/bits.Add64", "math/bits.Sub64"], unfollowed := true, recurses := true, apart := false, narrowed := true }
def LimbTellsUptoSaid : Prop := limbTellsUptoRow.holds Try.pinned (OpenSpec.upto limbTellsSpec)

/-- 'syzygylaw01.LimbTrim', WHERE WHAT IT READS IS OF BULK AT MOST 1048576: true; the input reads as it did. -/
def limbTrimUptoRow : OpenClaim := { program := "ytdknpbabdkjhfaa", sum := "198f6c8f63885072aaaa3dda89acf5f8a4363a671d1daddbf1543c9384eb25c5", func := "syzygy/syzygylaw01.LimbTrim", spec := "limbTrim", inPlace := ["math/bits.Add64"], unfollowed := true, recurses := true, apart := false, narrowed := true }
def LimbTrimUptoSaid : Prop := limbTrimUptoRow.holds Try.pinned (OpenSpec.upto limbTrimSpec)

end Rows
end Go.Proofs.Ytdknpbabdkjhfaa
