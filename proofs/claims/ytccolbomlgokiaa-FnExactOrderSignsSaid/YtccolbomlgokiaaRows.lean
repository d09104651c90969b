/-
  No cell of these rows narrows 'for every input' (looked for: loops, veiled, ifaces, maps, wideKeys, modest, calm, conditions, laid).
  DERIVED. THE GIVEN ROWS OF THIS SEAT. 5 by the template 'for every input the law returns true; each argument reads behind the call as it read before'; 0 by the template 'total and deterministic' (their statements: YtccolbomlgokiaaTotals.lean).
  GIVEN WITH THE SEED: the statements are not yours to turn. If you find one false, say at which input.
  Laid BY PROGRAM, IN A SANDBOX (cutbox-rows.mjs): the forced cells as the released guide's own fill.sh prints them over the translation d6c3228438caa2a8… (all of the seat's roots in one cut). By AI agents, Wed Nov 11 2026. No macro, syntax, notation, axiom, sorry.
-/
import Derived.Test.YtccolbomlgokiaaChecked
import GoSem.Claim
import GoSem.ClaimJoined
import GoSem.ClaimMapViews
import Derived.JoinedTies
import Derived.KernelRfl
namespace Go.Proofs.Ytccolbomlgokiaa
/- THE CELL 'sum', in the pinned program and in every row, IS THE sha256 OF THE DUMP (.gsa) THAT YtccolbomlgokiaaProg.lean LOADS. Nothing in Lean hashes anything: it is a label: what it is worth is what the hold of that sum in a sandbox is worth. -/
noncomputable def Try.pinned : Pinned := { name := "ytccolbomlgokiaa", sum := "d6c3228438caa2a84ce55761f28ef89795029cc742abf529c906566577221c02", checked := Try.checked }
namespace Rows
def none {H : Type} : Left H := { results := [], args := [] }

/-- 'laws.FnExactShiftCode': WHATEVER THE INPUT: true; the input reads as it did. -/
def fnExactShiftCodeSpec : ChangeSpec := { name := "fnExactShiftCode", fn := fun _ => fun
  | [d1, d2, d3] => { results := [.lit (.bool true)], args := [d1, d2, d3] }
  | _ => none }
def fnExactShiftCodeRow : OpenClaim := { program := "ytccolbomlgokiaa", sum := "d6c3228438caa2a84ce55761f28ef89795029cc742abf529c906566577221c02", func := "loop.example/g01411/laws.FnExactShiftCode", spec := "fnExactShiftCode", unfollowed := true, recurses := true, apart := false }
def FnExactShiftCodeSaid : Prop := fnExactShiftCodeRow.holds Try.pinned (OpenSpec.ofChange fnExactShiftCodeSpec)

/-- ITS FALSE NEIGHBOUR: 'it returns false'. Refute it at one input. -/
def fnExactShiftCodeWrong : ChangeSpec := { name := "fnExactShiftCode", fn := fun _ => fun
  | [d1, d2, d3] => { results := [.lit (.bool false)], args := [d1, d2, d3] }
  | _ => none }
def FnExactShiftCodeWrongFalsely : Prop := fnExactShiftCodeRow.holds Try.pinned (OpenSpec.ofChange fnExactShiftCodeWrong)

/-- 'laws.FnExactCodesTogether': WHATEVER THE INPUT: true; the input reads as it did. -/
def fnExactCodesTogetherSpec : ChangeSpec := { name := "fnExactCodesTogether", fn := fun _ => fun
  | [d1, d2, d3] => { results := [.lit (.bool true)], args := [d1, d2, d3] }
  | _ => none }
def fnExactCodesTogetherRow : OpenClaim := { program := "ytccolbomlgokiaa", sum := "d6c3228438caa2a84ce55761f28ef89795029cc742abf529c906566577221c02", func := "loop.example/g01411/laws.FnExactCodesTogether", spec := "fnExactCodesTogether", unfollowed := true, recurses := true, apart := false }
def FnExactCodesTogetherSaid : Prop := fnExactCodesTogetherRow.holds Try.pinned (OpenSpec.ofChange fnExactCodesTogetherSpec)

/-- ITS FALSE NEIGHBOUR: 'it returns false'. Refute it at one input. -/
def fnExactCodesTogetherWrong : ChangeSpec := { name := "fnExactCodesTogether", fn := fun _ => fun
  | [d1, d2, d3] => { results := [.lit (.bool false)], args := [d1, d2, d3] }
  | _ => none }
def FnExactCodesTogetherWrongFalsely : Prop := fnExactCodesTogetherRow.holds Try.pinned (OpenSpec.ofChange fnExactCodesTogetherWrong)

/-- 'laws.FnExactOrderSigns': WHATEVER THE INPUT: true; the input reads as it did. -/
def fnExactOrderSignsSpec : ChangeSpec := { name := "fnExactOrderSigns", fn := fun _ => fun
  | [d1, d2, d3, d4] => { results := [.lit (.bool true)], args := [d1, d2, d3, d4] }
  | _ => none }
def fnExactOrderSignsRow : OpenClaim := { program := "ytccolbomlgokiaa", sum := "d6c3228438caa2a84ce55761f28ef89795029cc742abf529c906566577221c02", func := "loop.example/g01411/laws.FnExactOrderSigns", spec := "fnExactOrderSigns", unfollowed := true, recurses := true, apart := false }
def FnExactOrderSignsSaid : Prop := fnExactOrderSignsRow.holds Try.pinned (OpenSpec.ofChange fnExactOrderSignsSpec)

/-- ITS FALSE NEIGHBOUR: 'it returns false'. Refute it at one input. -/
def fnExactOrderSignsWrong : ChangeSpec := { name := "fnExactOrderSigns", fn := fun _ => fun
  | [d1, d2, d3, d4] => { results := [.lit (.bool false)], args := [d1, d2, d3, d4] }
  | _ => none }
def FnExactOrderSignsWrongFalsely : Prop := fnExactOrderSignsRow.holds Try.pinned (OpenSpec.ofChange fnExactOrderSignsWrong)

/-- 'laws.FnExactGreedyCode': WHATEVER THE INPUT: true; the input reads as it did. -/
def fnExactGreedyCodeSpec : ChangeSpec := { name := "fnExactGreedyCode", fn := fun _ => fun
  | [d1, d2] => { results := [.lit (.bool true)], args := [d1, d2] }
  | _ => none }
def fnExactGreedyCodeRow : OpenClaim := { program := "ytccolbomlgokiaa", sum := "d6c3228438caa2a84ce55761f28ef89795029cc742abf529c906566577221c02", func := "loop.example/g01411/laws.FnExactGreedyCode", spec := "fnExactGreedyCode", unfollowed := true, recurses := true, apart := false }
def FnExactGreedyCodeSaid : Prop := fnExactGreedyCodeRow.holds Try.pinned (OpenSpec.ofChange fnExactGreedyCodeSpec)

/-- ITS FALSE NEIGHBOUR: 'it returns false'. Refute it at one input. -/
def fnExactGreedyCodeWrong : ChangeSpec := { name := "fnExactGreedyCode", fn := fun _ => fun
  | [d1, d2] => { results := [.lit (.bool false)], args := [d1, d2] }
  | _ => none }
def FnExactGreedyCodeWrongFalsely : Prop := fnExactGreedyCodeRow.holds Try.pinned (OpenSpec.ofChange fnExactGreedyCodeWrong)

/-- 'laws.FnExactAddSumPlace': WHATEVER THE INPUT: true; the input reads as it did. -/
def fnExactAddSumPlaceSpec : ChangeSpec := { name := "fnExactAddSumPlace", fn := fun _ => fun
  | [d1, d2, d3] => { results := [.lit (.bool true)], args := [d1, d2, d3] }
  | _ => none }
def fnExactAddSumPlaceRow : OpenClaim := { program := "ytccolbomlgokiaa", sum := "d6c3228438caa2a84ce55761f28ef89795029cc742abf529c906566577221c02", func := "loop.example/g01411/laws.FnExactAddSumPlace", spec := "fnExactAddSumPlace", unfollowed := true, recurses := true, apart := false }
def FnExactAddSumPlaceSaid : Prop := fnExactAddSumPlaceRow.holds Try.pinned (OpenSpec.ofChange fnExactAddSumPlaceSpec)

/-- ITS FALSE NEIGHBOUR: 'it returns false'. Refute it at one input. -/
def fnExactAddSumPlaceWrong : ChangeSpec := { name := "fnExactAddSumPlace", fn := fun _ => fun
  | [d1, d2, d3] => { results := [.lit (.bool false)], args := [d1, d2, d3] }
  | _ => none }
def FnExactAddSumPlaceWrongFalsely : Prop := fnExactAddSumPlaceRow.holds Try.pinned (OpenSpec.ofChange fnExactAddSumPlaceWrong)

/- THE SECOND FORM. 'bulk': how many values and letters a reading holds, each counted each time it is reached (what is shared counts as often as it is met; a slice's spare places count too). A statement '..UptoSaid' is the law's where the arguments, and the package variables that the reading takes, are together of bulk at most 1048576: NARROWER than '..Said'. Prove '..Said' where nothing that the law and all that it calls make is longer than what came in: it says more and counts as full. Else prove '..UptoSaid'. A law counts once. -/
mutual
def uptoBulk {H : Type} : DataW H → Nat
  | .lit (.string bytes) => bytes.length + 1
  | .lit _ => 1
  | .nil => 1
  | .ptr d => uptoBulk d + 1
  | .slice elems spare => uptoBulkAll elems + uptoBulkAll spare + 1
  | .agg parts => uptoBulkAll parts + 1
  | .iface _ d => uptoBulk d + 1
  | .map entries => uptoBulkEntries entries + 1
  | .held _ => 1
def uptoBulkAll {H : Type} : List (DataW H) → Nat
  | [] => 0
  | d :: r => uptoBulk d + uptoBulkAll r
def uptoBulkEntries {H : Type} : List (Lit × DataW H) → Nat
  | [] => 0
  | x :: r => uptoBulkEntry x + uptoBulkEntries r
def uptoBulkEntry {H : Type} : Lit × DataW H → Nat
  | (.string bytes, d) => bytes.length + uptoBulk d + 1
  | (_, d) => uptoBulk d + 1
 end
def uptoSmall : (H : Type) → List (DataW H) → Bool := fun _ ds => decide (uptoBulkAll ds ≤ 1048576)
def OpenSpec.upto (s : _root_.Go.ChangeSpec) : _root_.Go.OpenSpec := { _root_.Go.OpenSpec.ofChange s with cond := some uptoSmall }

/-- 'laws.FnExactShiftCode', WHERE WHAT IT READS IS OF BULK AT MOST 1048576: true; the input reads as it did. -/
def fnExactShiftCodeUptoRow : OpenClaim := { program := "ytccolbomlgokiaa", sum := "d6c3228438caa2a84ce55761f28ef89795029cc742abf529c906566577221c02", func := "loop.example/g01411/laws.FnExactShiftCode", spec := "fnExactShiftCode", unfollowed := true, recurses := true, apart := false, narrowed := true }
def FnExactShiftCodeUptoSaid : Prop := fnExactShiftCodeUptoRow.holds Try.pinned (OpenSpec.upto fnExactShiftCodeSpec)

/-- 'laws.FnExactCodesTogether', WHERE WHAT IT READS IS OF BULK AT MOST 1048576: true; the input reads as it did. -/
def fnExactCodesTogetherUptoRow : OpenClaim := { program := "ytccolbomlgokiaa", sum := "d6c3228438caa2a84ce55761f28ef89795029cc742abf529c906566577221c02", func := "loop.example/g01411/laws.FnExactCodesTogether", spec := "fnExactCodesTogether", unfollowed := true, recurses := true, apart := false, narrowed := true }
def FnExactCodesTogetherUptoSaid : Prop := fnExactCodesTogetherUptoRow.holds Try.pinned (OpenSpec.upto fnExactCodesTogetherSpec)

/-- 'laws.FnExactOrderSigns', WHERE WHAT IT READS IS OF BULK AT MOST 1048576: true; the input reads as it did. -/
def fnExactOrderSignsUptoRow : OpenClaim := { program := "ytccolbomlgokiaa", sum := "d6c3228438caa2a84ce55761f28ef89795029cc742abf529c906566577221c02", func := "loop.example/g01411/laws.FnExactOrderSigns", spec := "fnExactOrderSigns", unfollowed := true, recurses := true, apart := false, narrowed := true }
def FnExactOrderSignsUptoSaid : Prop := fnExactOrderSignsUptoRow.holds Try.pinned (OpenSpec.upto fnExactOrderSignsSpec)

/-- 'laws.FnExactGreedyCode', WHERE WHAT IT READS IS OF BULK AT MOST 1048576: true; the input reads as it did. -/
def fnExactGreedyCodeUptoRow : OpenClaim := { program := "ytccolbomlgokiaa", sum := "d6c3228438caa2a84ce55761f28ef89795029cc742abf529c906566577221c02", func := "loop.example/g01411/laws.FnExactGreedyCode", spec := "fnExactGreedyCode", unfollowed := true, recurses := true, apart := false, narrowed := true }
def FnExactGreedyCodeUptoSaid : Prop := fnExactGreedyCodeUptoRow.holds Try.pinned (OpenSpec.upto fnExactGreedyCodeSpec)

/-- 'laws.FnExactAddSumPlace', WHERE WHAT IT READS IS OF BULK AT MOST 1048576: true; the input reads as it did. -/
def fnExactAddSumPlaceUptoRow : OpenClaim := { program := "ytccolbomlgokiaa", sum := "d6c3228438caa2a84ce55761f28ef89795029cc742abf529c906566577221c02", func := "loop.example/g01411/laws.FnExactAddSumPlace", spec := "fnExactAddSumPlace", unfollowed := true, recurses := true, apart := false, narrowed := true }
def FnExactAddSumPlaceUptoSaid : Prop := fnExactAddSumPlaceUptoRow.holds Try.pinned (OpenSpec.upto fnExactAddSumPlaceSpec)

end Rows
end Go.Proofs.Ytccolbomlgokiaa
