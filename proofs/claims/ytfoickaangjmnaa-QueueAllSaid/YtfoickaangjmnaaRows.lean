/-
  No cell of these rows narrows 'for every input' (looked for: loops, veiled, ifaces, maps, wideKeys, modest, calm, conditions, laid).
  DERIVED. THE GIVEN ROWS OF THIS SEAT. 11 by the template 'for every input the law returns true; each argument reads behind the call as it read before'; 0 by the template 'total and deterministic' (their statements: YtfoickaangjmnaaTotals.lean).
  GIVEN WITH THE SEED: the statements are not yours to turn. If you find one false, say at which input.
  Laid BY PROGRAM, IN A SANDBOX (cutbox-rows.mjs): the forced cells as the released guide's own fill.sh prints them over the translation ed73f119e8c409ef… (all of the seat's roots in one cut). By AI agents, Wed Nov 11 2026. No macro, syntax, notation, axiom, sorry.
-/
import Derived.Test.YtfoickaangjmnaaChecked
import GoSem.Claim
import GoSem.ClaimJoined
import GoSem.ClaimMapViews
import Derived.JoinedTies
import Derived.KernelRfl
namespace Go.Proofs.Ytfoickaangjmnaa
/- THE CELL 'sum', in the pinned program and in every row, IS THE sha256 OF THE DUMP (.gsa) THAT YtfoickaangjmnaaProg.lean LOADS. Nothing in Lean hashes anything: it is a label: what it is worth is what the hold of that sum in a sandbox is worth. -/
noncomputable def Try.pinned : Pinned := { name := "ytfoickaangjmnaa", sum := "ed73f119e8c409ef4430d61dedf6309e9161e3ef63ffb319185b469cb9fa8639", checked := Try.checked }
namespace Rows
def none {H : Type} : Left H := { results := [], args := [] }

/-- 'syzygylaw15.QueueTells': WHATEVER THE INPUT: true; the input reads as it did. -/
def queueTellsSpec : ChangeSpec := { name := "queueTells", fn := fun _ => fun
  | [d1, d2, d3, d4] => { results := [.lit (.bool true)], args := [d1, d2, d3, d4] }
  | _ => none }
def queueTellsRow : OpenClaim := { program := "ytfoickaangjmnaa", sum := "ed73f119e8c409ef4430d61dedf6309e9161e3ef63ffb319185b469cb9fa8639", func := "syzygy/syzygylaw15.QueueTells", spec := "queueTells", unfollowed := true, recurses := true, plainKeys := false, apart := false }
def QueueTellsSaid : Prop := queueTellsRow.holds Try.pinned (OpenSpec.ofChange queueTellsSpec)

/-- ITS FALSE NEIGHBOUR: 'it returns false'. Refute it at one input. -/
def queueTellsWrong : ChangeSpec := { name := "queueTells", fn := fun _ => fun
  | [d1, d2, d3, d4] => { results := [.lit (.bool false)], args := [d1, d2, d3, d4] }
  | _ => none }
def QueueTellsWrongFalsely : Prop := queueTellsRow.holds Try.pinned (OpenSpec.ofChange queueTellsWrong)

/-- 'syzygylaw15.QueueAll': WHATEVER THE INPUT: true; the input reads as it did. -/
def queueAllSpec : ChangeSpec := { name := "queueAll", fn := fun _ => fun
  | [d1, d2] => { results := [.lit (.bool true)], args := [d1, d2] }
  | _ => none }
def queueAllRow : OpenClaim := { program := "ytfoickaangjmnaa", sum := "ed73f119e8c409ef4430d61dedf6309e9161e3ef63ffb319185b469cb9fa8639", func := "syzygy/syzygylaw15.QueueAll", spec := "queueAll", unfollowed := true, recurses := true, plainKeys := false, apart := false }
def QueueAllSaid : Prop := queueAllRow.holds Try.pinned (OpenSpec.ofChange queueAllSpec)

/-- ITS FALSE NEIGHBOUR: 'it returns false'. Refute it at one input. -/
def queueAllWrong : ChangeSpec := { name := "queueAll", fn := fun _ => fun
  | [d1, d2] => { results := [.lit (.bool false)], args := [d1, d2] }
  | _ => none }
def QueueAllWrongFalsely : Prop := queueAllRow.holds Try.pinned (OpenSpec.ofChange queueAllWrong)

/-- 'syzygylaw15.QueueArgs': WHATEVER THE INPUT: true; the input reads as it did. -/
def queueArgsSpec : ChangeSpec := { name := "queueArgs", fn := fun _ => fun
  | [d1, d2, d3, d4] => { results := [.lit (.bool true)], args := [d1, d2, d3, d4] }
  | _ => none }
def queueArgsRow : OpenClaim := { program := "ytfoickaangjmnaa", sum := "ed73f119e8c409ef4430d61dedf6309e9161e3ef63ffb319185b469cb9fa8639", func := "syzygy/syzygylaw15.QueueArgs", spec := "queueArgs", unfollowed := true, recurses := true, plainKeys := false, apart := false }
def QueueArgsSaid : Prop := queueArgsRow.holds Try.pinned (OpenSpec.ofChange queueArgsSpec)

/-- ITS FALSE NEIGHBOUR: 'it returns false'. Refute it at one input. -/
def queueArgsWrong : ChangeSpec := { name := "queueArgs", fn := fun _ => fun
  | [d1, d2, d3, d4] => { results := [.lit (.bool false)], args := [d1, d2, d3, d4] }
  | _ => none }
def QueueArgsWrongFalsely : Prop := queueArgsRow.holds Try.pinned (OpenSpec.ofChange queueArgsWrong)

/-- 'syzygylaw15.QueueBytes': WHATEVER THE INPUT: true; the input reads as it did. -/
def queueBytesSpec : ChangeSpec := { name := "queueBytes", fn := fun _ => fun
  | [d1, d2, d3] => { results := [.lit (.bool true)], args := [d1, d2, d3] }
  | _ => none }
def queueBytesRow : OpenClaim := { program := "ytfoickaangjmnaa", sum := "ed73f119e8c409ef4430d61dedf6309e9161e3ef63ffb319185b469cb9fa8639", func := "syzygy/syzygylaw15.QueueBytes", spec := "queueBytes", unfollowed := true, recurses := true, plainKeys := false, apart := false }
def QueueBytesSaid : Prop := queueBytesRow.holds Try.pinned (OpenSpec.ofChange queueBytesSpec)

/-- ITS FALSE NEIGHBOUR: 'it returns false'. Refute it at one input. -/
def queueBytesWrong : ChangeSpec := { name := "queueBytes", fn := fun _ => fun
  | [d1, d2, d3] => { results := [.lit (.bool false)], args := [d1, d2, d3] }
  | _ => none }
def QueueBytesWrongFalsely : Prop := queueBytesRow.holds Try.pinned (OpenSpec.ofChange queueBytesWrong)

/-- 'syzygylaw03.QuotTells': WHATEVER THE INPUT: true; the input reads as it did. -/
def quotTellsSpec : ChangeSpec := { name := "quotTells", fn := fun _ => fun
  | [d1, d2, d3] => { results := [.lit (.bool true)], args := [d1, d2, d3] }
  | _ => none }
def quotTellsRow : OpenClaim := { program := "ytfoickaangjmnaa", sum := "ed73f119e8c409ef4430d61dedf6309e9161e3ef63ffb319185b469cb9fa8639", func := "syzygy/syzygylaw03.QuotTells", spec := "quotTells", inPlace := ["math/bits.Add64", "math/bits.Sub64"], unfollowed := true, recurses := true, named := ["math/bits.divideError", "math/bits.overflowError"], plainKeys := false, apart := false }
def QuotTellsSaid : Prop := quotTellsRow.holds Try.pinned (OpenSpec.ofChange quotTellsSpec)

/-- ITS FALSE NEIGHBOUR: 'it returns false'. Refute it at one input. -/
def quotTellsWrong : ChangeSpec := { name := "quotTells", fn := fun _ => fun
  | [d1, d2, d3] => { results := [.lit (.bool false)], args := [d1, d2, d3] }
  | _ => none }
def QuotTellsWrongFalsely : Prop := quotTellsRow.holds Try.pinned (OpenSpec.ofChange quotTellsWrong)

/-- 'syzygylaw03.QuotBack': WHATEVER THE INPUT: true; the input reads as it did. -/
def quotBackSpec : ChangeSpec := { name := "quotBack", fn := fun _ => fun
  | [d1, d2] => { results := [.lit (.bool true)], args := [d1, d2] }
  | _ => none }
def quotBackRow : OpenClaim := { program := "ytfoickaangjmnaa", sum := "ed73f119e8c409ef4430d61dedf6309e9161e3ef63ffb319185b469cb9fa8639", func := "syzygy/syzygylaw03.QuotBack", spec := "quotBack", inPlace := ["math/bits.Add64", "math/bits.Sub64"], unfollowed := true, recurses := true, named := ["math/bits.divideError", "math/bits.overflowError"], plainKeys := false, apart := false }
def QuotBackSaid : Prop := quotBackRow.holds Try.pinned (OpenSpec.ofChange quotBackSpec)

/-- ITS FALSE NEIGHBOUR: 'it returns false'. Refute it at one input. -/
def quotBackWrong : ChangeSpec := { name := "quotBack", fn := fun _ => fun
  | [d1, d2] => { results := [.lit (.bool false)], args := [d1, d2] }
  | _ => none }
def QuotBackWrongFalsely : Prop := quotBackRow.holds Try.pinned (OpenSpec.ofChange quotBackWrong)

/-- 'syzygylaw03.QuotChain': WHATEVER THE INPUT: true; the input reads as it did. -/
def quotChainSpec : ChangeSpec := { name := "quotChain", fn := fun _ => fun
  | [d1, d2, d3] => { results := [.lit (.bool true)], args := [d1, d2, d3] }
  | _ => none }
def quotChainRow : OpenClaim := { program := "ytfoickaangjmnaa", sum := "ed73f119e8c409ef4430d61dedf6309e9161e3ef63ffb319185b469cb9fa8639", func := "syzygy/syzygylaw03.QuotChain", spec := "quotChain", inPlace := ["math/bits.Add64", "math/bits.Sub64"], unfollowed := true, recurses := true, named := ["math/bits.divideError", "math/bits.overflowError"], plainKeys := false, apart := false }
def QuotChainSaid : Prop := quotChainRow.holds Try.pinned (OpenSpec.ofChange quotChainSpec)

/-- ITS FALSE NEIGHBOUR: 'it returns false'. Refute it at one input. -/
def quotChainWrong : ChangeSpec := { name := "quotChain", fn := fun _ => fun
  | [d1, d2, d3] => { results := [.lit (.bool false)], args := [d1, d2, d3] }
  | _ => none }
def QuotChainWrongFalsely : Prop := quotChainRow.holds Try.pinned (OpenSpec.ofChange quotChainWrong)

/-- 'syzygylaw03.QuotTimes': WHATEVER THE INPUT: true; the input reads as it did. -/
def quotTimesSpec : ChangeSpec := { name := "quotTimes", fn := fun _ => fun
  | [d1, d2] => { results := [.lit (.bool true)], args := [d1, d2] }
  | _ => none }
def quotTimesRow : OpenClaim := { program := "ytfoickaangjmnaa", sum := "ed73f119e8c409ef4430d61dedf6309e9161e3ef63ffb319185b469cb9fa8639", func := "syzygy/syzygylaw03.QuotTimes", spec := "quotTimes", inPlace := ["math/bits.Add64", "math/bits.Sub64"], unfollowed := true, recurses := true, named := ["math/bits.divideError", "math/bits.overflowError"], plainKeys := false, apart := false }
def QuotTimesSaid : Prop := quotTimesRow.holds Try.pinned (OpenSpec.ofChange quotTimesSpec)

/-- ITS FALSE NEIGHBOUR: 'it returns false'. Refute it at one input. -/
def quotTimesWrong : ChangeSpec := { name := "quotTimes", fn := fun _ => fun
  | [d1, d2] => { results := [.lit (.bool false)], args := [d1, d2] }
  | _ => none }
def QuotTimesWrongFalsely : Prop := quotTimesRow.holds Try.pinned (OpenSpec.ofChange quotTimesWrong)

/-- 'syzygylaw03.QuotCommon': WHATEVER THE INPUT: true; the input reads as it did. -/
def quotCommonSpec : ChangeSpec := { name := "quotCommon", fn := fun _ => fun
  | [d1, d2] => { results := [.lit (.bool true)], args := [d1, d2] }
  | _ => none }
def quotCommonRow : OpenClaim := { program := "ytfoickaangjmnaa", sum := "ed73f119e8c409ef4430d61dedf6309e9161e3ef63ffb319185b469cb9fa8639", func := "syzygy/syzygylaw03.QuotCommon", spec := "quotCommon", inPlace := ["math/bits.Add64", "math/bits.Sub64"], unfollowed := true, recurses := true, named := ["math/bits.divideError", "math/bits.overflowError"], plainKeys := false, apart := false }
def QuotCommonSaid : Prop := quotCommonRow.holds Try.pinned (OpenSpec.ofChange quotCommonSpec)

/-- ITS FALSE NEIGHBOUR: 'it returns false'. Refute it at one input. -/
def quotCommonWrong : ChangeSpec := { name := "quotCommon", fn := fun _ => fun
  | [d1, d2] => { results := [.lit (.bool false)], args := [d1, d2] }
  | _ => none }
def QuotCommonWrongFalsely : Prop := quotCommonRow.holds Try.pinned (OpenSpec.ofChange quotCommonWrong)

/-- 'syzygylaw03.QuotBoth': WHATEVER THE INPUT: true; the input reads as it did. -/
def quotBothSpec : ChangeSpec := { name := "quotBoth", fn := fun _ => fun
  | [d1, d2] => { results := [.lit (.bool true)], args := [d1, d2] }
  | _ => none }
def quotBothRow : OpenClaim := { program := "ytfoickaangjmnaa", sum := "ed73f119e8c409ef4430d61dedf6309e9161e3ef63ffb319185b469cb9fa8639", func := "syzygy/syzygylaw03.QuotBoth", spec := "quotBoth", inPlace := ["math/bits.Add64", "math/bits.Sub64"], unfollowed := true, recurses := true, named := ["math/bits.divideError", "math/bits.overflowError"], plainKeys := false, apart := false }
def QuotBothSaid : Prop := quotBothRow.holds Try.pinned (OpenSpec.ofChange quotBothSpec)

/-- ITS FALSE NEIGHBOUR: 'it returns false'. Refute it at one input. -/
def quotBothWrong : ChangeSpec := { name := "quotBoth", fn := fun _ => fun
  | [d1, d2] => { results := [.lit (.bool false)], args := [d1, d2] }
  | _ => none }
def QuotBothWrongFalsely : Prop := quotBothRow.holds Try.pinned (OpenSpec.ofChange quotBothWrong)

/-- 'syzygylaw03.QuotArgs': WHATEVER THE INPUT: true; the input reads as it did. -/
def quotArgsSpec : ChangeSpec := { name := "quotArgs", fn := fun _ => fun
  | [d1, d2] => { results := [.lit (.bool true)], args := [d1, d2] }
  | _ => none }
def quotArgsRow : OpenClaim := { program := "ytfoickaangjmnaa", sum := "ed73f119e8c409ef4430d61dedf6309e9161e3ef63ffb319185b469cb9fa8639", func := "syzygy/syzygylaw03.QuotArgs", spec := "quotArgs", inPlace := ["math/bits.Add64", "math/bits.Sub64"], unfollowed := true, recurses := true, named := ["math/bits.divideError", "math/bits.overflowError"], plainKeys := false, apart := false }
def QuotArgsSaid : Prop := quotArgsRow.holds Try.pinned (OpenSpec.ofChange quotArgsSpec)

/-- ITS FALSE NEIGHBOUR: 'it returns false'. Refute it at one input. -/
def quotArgsWrong : ChangeSpec := { name := "quotArgs", fn := fun _ => fun
  | [d1, d2] => { results := [.lit (.bool false)], args := [d1, d2] }
  | _ => none }
def QuotArgsWrongFalsely : Prop := quotArgsRow.holds Try.pinned (OpenSpec.ofChange quotArgsWrong)

/- THE SECOND FORM. 'bulk': how many values and letters a reading holds, each counted each time it is reached (what is shared counts as often as it is met; a slice's spare places count too). A statement '..UptoSaid' is the law's where the arguments, and the package variables that the reading takes, are together of bulk at most 1048576: NARROWER than '..Said'. Prove '..Said' where nothing that the law and all that it calls make is longer than what came in: it says more and counts as full. Else prove '..UptoSaid'. A law counts once. -/
mutual
def uptoBulk {H : Type} : DataW H → Nat
  | .lit (.string bytes) => bytes.length + 1
  | .lit _ => 1
  | .nil => 1
  | .ptr d => uptoBulk d + 1
  | .slice elems spare => uptoBulkAll elems + uptoBulkAll spare + 1
  | .agg parts => uptoBulkAll parts + 1
  | .iface _ d => uptoBulk d + 1
  | .map entries => uptoBulkEntries entries + 1
  | .held _ => 1
def uptoBulkAll {H : Type} : List (DataW H) → Nat
  | [] => 0
  | d :: r => uptoBulk d + uptoBulkAll r
def uptoBulkEntries {H : Type} : List (Lit × DataW H) → Nat
  | [] => 0
  | x :: r => uptoBulkEntry x + uptoBulkEntries r
def uptoBulkEntry {H : Type} : Lit × DataW H → Nat
  | (.string bytes, d) => bytes.length + uptoBulk d + 1
  | (_, d) => uptoBulk d + 1
 end
def uptoSmall : (H : Type) → List (DataW H) → Bool := fun _ ds => decide (uptoBulkAll ds ≤ 1048576)
def OpenSpec.upto (s : _root_.Go.ChangeSpec) : _root_.Go.OpenSpec := { _root_.Go.OpenSpec.ofChange s with cond := some uptoSmall }

/-- 'syzygylaw15.QueueTells', WHERE WHAT IT READS IS OF BULK AT MOST 1048576: true; the input reads as it did. -/
def queueTellsUptoRow : OpenClaim := { program := "ytfoickaangjmnaa", sum := "ed73f119e8c409ef4430d61dedf6309e9161e3ef63ffb319185b469cb9fa8639", func := "syzygy/syzygylaw15.QueueTells", spec := "queueTells", unfollowed := true, recurses := true, plainKeys := false, apart := false, narrowed := true }
def QueueTellsUptoSaid : Prop := queueTellsUptoRow.holds Try.pinned (OpenSpec.upto queueTellsSpec)

/-- 'syzygylaw15.QueueAll', WHERE WHAT IT READS IS OF BULK AT MOST 1048576: true; the input reads as it did. -/
def queueAllUptoRow : OpenClaim := { program := "ytfoickaangjmnaa", sum := "ed73f119e8c409ef4430d61dedf6309e9161e3ef63ffb319185b469cb9fa8639", func := "syzygy/syzygylaw15.QueueAll", spec := "queueAll", unfollowed := true, recurses := true, plainKeys := false, apart := false, narrowed := true }
def QueueAllUptoSaid : Prop := queueAllUptoRow.holds Try.pinned (OpenSpec.upto queueAllSpec)

/-- 'syzygylaw15.QueueArgs', WHERE WHAT IT READS IS OF BULK AT MOST 1048576: true; the input reads as it did. -/
def queueArgsUptoRow : OpenClaim := { program := "ytfoickaangjmnaa", sum := "ed73f119e8c409ef4430d61dedf6309e9161e3ef63ffb319185b469cb9fa8639", func := "syzygy/syzygylaw15.QueueArgs", spec := "queueArgs", unfollowed := true, recurses := true, plainKeys := false, apart := false, narrowed := true }
def QueueArgsUptoSaid : Prop := queueArgsUptoRow.holds Try.pinned (OpenSpec.upto queueArgsSpec)

/-- 'syzygylaw15.QueueBytes', WHERE WHAT IT READS IS OF BULK AT MOST 1048576: true; the input reads as it did. -/
def queueBytesUptoRow : OpenClaim := { program := "ytfoickaangjmnaa", sum := "ed73f119e8c409ef4430d61dedf6309e9161e3ef63ffb319185b469cb9fa8639", func := "syzygy/syzygylaw15.QueueBytes", spec := "queueBytes", unfollowed := true, recurses := true, plainKeys := false, apart := false, narrowed := true }
def QueueBytesUptoSaid : Prop := queueBytesUptoRow.holds Try.pinned (OpenSpec.upto queueBytesSpec)

/-- 'syzygylaw03.QuotTells', WHERE WHAT IT READS IS OF BULK AT MOST 1048576: true; the input reads as it did. -/
def quotTellsUptoRow : OpenClaim := { program := "ytfoickaangjmnaa", sum := "ed73f119e8c409ef4430d61dedf6309e9161e3ef63ffb319185b469cb9fa8639", func := "syzygy/syzygylaw03.QuotTells", spec := "quotTells", inPlace := ["math/bits.Add64", "math/bits.Sub64"], unfollowed := true, recurses := true, named := ["math/bits.divideError", "math/bits.overflowError"], plainKeys := false, apart := false, narrowed := true }
def QuotTellsUptoSaid : Prop := quotTellsUptoRow.holds Try.pinned (OpenSpec.upto quotTellsSpec)

/-- 'syzygylaw03.QuotBack', WHERE WHAT IT READS IS OF BULK AT MOST 1048576: true; the input reads as it did. -/
def quotBackUptoRow : OpenClaim := { program := "ytfoickaangjmnaa", sum := "ed73f119e8c409ef4430d61dedf6309e9161e3ef63ffb319185b469cb9fa8639", func := "syzygy/syzygylaw03.QuotBack", spec := "quotBack", inPlace := ["math/bits.Add64", "math/bits.Sub64"], unfollowed := true, recurses := true, named := ["math/bits.divideError", "math/bits.overflowError"], plainKeys := false, apart := false, narrowed := true }
def QuotBackUptoSaid : Prop := quotBackUptoRow.holds Try.pinned (OpenSpec.upto quotBackSpec)

/-- 'syzygylaw03.QuotChain', WHERE WHAT IT READS IS OF BULK AT MOST 1048576: true; the input reads as it did. -/
def quotChainUptoRow : OpenClaim := { program := "ytfoickaangjmnaa", sum := "ed73f119e8c409ef4430d61dedf6309e9161e3ef63ffb319185b469cb9fa8639", func := "syzygy/syzygylaw03.QuotChain", spec := "quotChain", inPlace := ["math/bits.Add64", "math/bits.Sub64"], unfollowed := true, recurses := true, named := ["math/bits.divideError", "math/bits.overflowError"], plainKeys := false, apart := false, narrowed := true }
def QuotChainUptoSaid : Prop := quotChainUptoRow.holds Try.pinned (OpenSpec.upto quotChainSpec)

/-- 'syzygylaw03.QuotTimes', WHERE WHAT IT READS IS OF BULK AT MOST 1048576: true; the input reads as it did. -/
def quotTimesUptoRow : OpenClaim := { program := "ytfoickaangjmnaa", sum := "ed73f119e8c409ef4430d61dedf6309e9161e3ef63ffb319185b469cb9fa8639", func := "syzygy/syzygylaw03.QuotTimes", spec := "quotTimes", inPlace := ["math/bits.Add64", "math/bits.Sub64"], unfollowed := true, recurses := true, named := ["math/bits.divideError", "math/bits.overflowError"], plainKeys := false, apart := false, narrowed := true }
def QuotTimesUptoSaid : Prop := quotTimesUptoRow.holds Try.pinned (OpenSpec.upto quotTimesSpec)

/-- 'syzygylaw03.QuotCommon', WHERE WHAT IT READS IS OF BULK AT MOST 1048576: true; the input reads as it did. -/
def quotCommonUptoRow : OpenClaim := { program := "ytfoickaangjmnaa", sum := "ed73f119e8c409ef4430d61dedf6309e9161e3ef63ffb319185b469cb9fa8639", func := "syzygy/syzygylaw03.QuotCommon", spec := "quotCommon", inPlace := ["math/bits.Add64", "math/bits.Sub64"], unfollowed := true, recurses := true, named := ["math/bits.divideError", "math/bits.overflowError"], plainKeys := false, apart := false, narrowed := true }
def QuotCommonUptoSaid : Prop := quotCommonUptoRow.holds Try.pinned (OpenSpec.upto quotCommonSpec)

/-- 'syzygylaw03.QuotBoth', WHERE WHAT IT READS IS OF BULK AT MOST 1048576: true; the input reads as it did. -/
def quotBothUptoRow : OpenClaim := { program := "ytfoickaangjmnaa", sum := "ed73f119e8c409ef4430d61dedf6309e9161e3ef63ffb319185b469cb9fa8639", func := "syzygy/syzygylaw03.QuotBoth", spec := "quotBoth", inPlace := ["math/bits.Add64", "math/bits.Sub64"], unfollowed := true, recurses := true, named := ["math/bits.divideError", "math/bits.overflowError"], plainKeys := false, apart := false, narrowed := true }
def QuotBothUptoSaid : Prop := quotBothUptoRow.holds Try.pinned (OpenSpec.upto quotBothSpec)

/-- 'syzygylaw03.QuotArgs', WHERE WHAT IT READS IS OF BULK AT MOST 1048576: true; the input reads as it did. -/
def quotArgsUptoRow : OpenClaim := { program := "ytfoickaangjmnaa", sum := "ed73f119e8c409ef4430d61dedf6309e9161e3ef63ffb319185b469cb9fa8639", func := "syzygy/syzygylaw03.QuotArgs", spec := "quotArgs", inPlace := ["math/bits.Add64", "math/bits.Sub64"], unfollowed := true, recurses := true, named := ["math/bits.divideError", "math/bits.overflowError"], plainKeys := false, apart := false, narrowed := true }
def QuotArgsUptoSaid : Prop := quotArgsUptoRow.holds Try.pinned (OpenSpec.upto quotArgsSpec)

end Rows
end Go.Proofs.Ytfoickaangjmnaa
