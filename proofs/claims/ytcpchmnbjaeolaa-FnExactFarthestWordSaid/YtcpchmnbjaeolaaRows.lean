/-
  No cell of these rows narrows 'for every input' (looked for: loops, veiled, ifaces, maps, wideKeys, modest, calm, conditions, laid).
  DERIVED. THE GIVEN ROWS OF THIS SEAT. 12 by the template 'for every input the law returns true; each argument reads behind the call as it read before'; 0 by the template 'total and deterministic' (their statements: YtcpchmnbjaeolaaTotals.lean).
  GIVEN WITH THE SEED: the statements are not yours to turn. If you find one false, say at which input.
  Laid BY PROGRAM, IN A SANDBOX (cutbox-rows.mjs): the forced cells as the released guide's own fill.sh prints them over the translation 7624b26a62d7adc3… (all of the seat's roots in one cut). By AI agents, Wed Nov 11 2026. No macro, syntax, notation, axiom, sorry.
-/
import Derived.Test.YtcpchmnbjaeolaaChecked
import GoSem.Claim
import GoSem.ClaimJoined
import GoSem.ClaimMapViews
import Derived.JoinedTies
import Derived.KernelRfl
namespace Go.Proofs.Ytcpchmnbjaeolaa
/- THE CELL 'sum', in the pinned program and in every row, IS THE sha256 OF THE DUMP (.gsa) THAT YtcpchmnbjaeolaaProg.lean LOADS. Nothing in Lean hashes anything: it is a label: what it is worth is what the hold of that sum in a sandbox is worth. -/
noncomputable def Try.pinned : Pinned := { name := "ytcpchmnbjaeolaa", sum := "7624b26a62d7adc32cda1612f0c4e0b41fa64e9b21ce5d4df84b9e231a920d81", checked := Try.checked }
namespace Rows
def none {H : Type} : Left H := { results := [], args := [] }

/-- 'laws.FnExactDistanceTo': WHATEVER THE INPUT: true; the input reads as it did. -/
def fnExactDistanceToSpec : ChangeSpec := { name := "fnExactDistanceTo", fn := fun _ => fun
  | [d1, d2, d3] => { results := [.lit (.bool true)], args := [d1, d2, d3] }
  | _ => none }
def fnExactDistanceToRow : OpenClaim := { program := "ytcpchmnbjaeolaa", sum := "7624b26a62d7adc32cda1612f0c4e0b41fa64e9b21ce5d4df84b9e231a920d81", func := "loop.example/g01411/laws.FnExactDistanceTo", spec := "fnExactDistanceTo", apart := false }
def FnExactDistanceToSaid : Prop := fnExactDistanceToRow.holds Try.pinned (OpenSpec.ofChange fnExactDistanceToSpec)

/-- ITS FALSE NEIGHBOUR: 'it returns false'. Refute it at one input. -/
def fnExactDistanceToWrong : ChangeSpec := { name := "fnExactDistanceTo", fn := fun _ => fun
  | [d1, d2, d3] => { results := [.lit (.bool false)], args := [d1, d2, d3] }
  | _ => none }
def FnExactDistanceToWrongFalsely : Prop := fnExactDistanceToRow.holds Try.pinned (OpenSpec.ofChange fnExactDistanceToWrong)

/-- 'laws.FnExactTimesCovered': WHATEVER THE INPUT: true; the input reads as it did. -/
def fnExactTimesCoveredSpec : ChangeSpec := { name := "fnExactTimesCovered", fn := fun _ => fun
  | [d1, d2, d3, d4] => { results := [.lit (.bool true)], args := [d1, d2, d3, d4] }
  | _ => none }
def fnExactTimesCoveredRow : OpenClaim := { program := "ytcpchmnbjaeolaa", sum := "7624b26a62d7adc32cda1612f0c4e0b41fa64e9b21ce5d4df84b9e231a920d81", func := "loop.example/g01411/laws.FnExactTimesCovered", spec := "fnExactTimesCovered", apart := false }
def FnExactTimesCoveredSaid : Prop := fnExactTimesCoveredRow.holds Try.pinned (OpenSpec.ofChange fnExactTimesCoveredSpec)

/-- ITS FALSE NEIGHBOUR: 'it returns false'. Refute it at one input. -/
def fnExactTimesCoveredWrong : ChangeSpec := { name := "fnExactTimesCovered", fn := fun _ => fun
  | [d1, d2, d3, d4] => { results := [.lit (.bool false)], args := [d1, d2, d3, d4] }
  | _ => none }
def FnExactTimesCoveredWrongFalsely : Prop := fnExactTimesCoveredRow.holds Try.pinned (OpenSpec.ofChange fnExactTimesCoveredWrong)

/-- 'laws.FnExactCodesInCommon': WHATEVER THE INPUT: true; the input reads as it did. -/
def fnExactCodesInCommonSpec : ChangeSpec := { name := "fnExactCodesInCommon", fn := fun _ => fun
  | [d1, d2, d3] => { results := [.lit (.bool true)], args := [d1, d2, d3] }
  | _ => none }
def fnExactCodesInCommonRow : OpenClaim := { program := "ytcpchmnbjaeolaa", sum := "7624b26a62d7adc32cda1612f0c4e0b41fa64e9b21ce5d4df84b9e231a920d81", func := "loop.example/g01411/laws.FnExactCodesInCommon", spec := "fnExactCodesInCommon", unfollowed := true, recurses := true, apart := false }
def FnExactCodesInCommonSaid : Prop := fnExactCodesInCommonRow.holds Try.pinned (OpenSpec.ofChange fnExactCodesInCommonSpec)

/-- ITS FALSE NEIGHBOUR: 'it returns false'. Refute it at one input. -/
def fnExactCodesInCommonWrong : ChangeSpec := { name := "fnExactCodesInCommon", fn := fun _ => fun
  | [d1, d2, d3] => { results := [.lit (.bool false)], args := [d1, d2, d3] }
  | _ => none }
def FnExactCodesInCommonWrongFalsely : Prop := fnExactCodesInCommonRow.holds Try.pinned (OpenSpec.ofChange fnExactCodesInCommonWrong)

/-- 'laws.FnExactExcessOf': WHATEVER THE INPUT: true; the input reads as it did. -/
def fnExactExcessOfSpec : ChangeSpec := { name := "fnExactExcessOf", fn := fun _ => fun
  | [d1, d2, d3] => { results := [.lit (.bool true)], args := [d1, d2, d3] }
  | _ => none }
def fnExactExcessOfRow : OpenClaim := { program := "ytcpchmnbjaeolaa", sum := "7624b26a62d7adc32cda1612f0c4e0b41fa64e9b21ce5d4df84b9e231a920d81", func := "loop.example/g01411/laws.FnExactExcessOf", spec := "fnExactExcessOf", apart := false }
def FnExactExcessOfSaid : Prop := fnExactExcessOfRow.holds Try.pinned (OpenSpec.ofChange fnExactExcessOfSpec)

/-- ITS FALSE NEIGHBOUR: 'it returns false'. Refute it at one input. -/
def fnExactExcessOfWrong : ChangeSpec := { name := "fnExactExcessOf", fn := fun _ => fun
  | [d1, d2, d3] => { results := [.lit (.bool false)], args := [d1, d2, d3] }
  | _ => none }
def FnExactExcessOfWrongFalsely : Prop := fnExactExcessOfRow.holds Try.pinned (OpenSpec.ofChange fnExactExcessOfWrong)

/-- 'laws.FnExactRadiusOf': WHATEVER THE INPUT: true; the input reads as it did. -/
def fnExactRadiusOfSpec : ChangeSpec := { name := "fnExactRadiusOf", fn := fun _ => fun
  | [d1, d2] => { results := [.lit (.bool true)], args := [d1, d2] }
  | _ => none }
def fnExactRadiusOfRow : OpenClaim := { program := "ytcpchmnbjaeolaa", sum := "7624b26a62d7adc32cda1612f0c4e0b41fa64e9b21ce5d4df84b9e231a920d81", func := "loop.example/g01411/laws.FnExactRadiusOf", spec := "fnExactRadiusOf", apart := false }
def FnExactRadiusOfSaid : Prop := fnExactRadiusOfRow.holds Try.pinned (OpenSpec.ofChange fnExactRadiusOfSpec)

/-- ITS FALSE NEIGHBOUR: 'it returns false'. Refute it at one input. -/
def fnExactRadiusOfWrong : ChangeSpec := { name := "fnExactRadiusOf", fn := fun _ => fun
  | [d1, d2] => { results := [.lit (.bool false)], args := [d1, d2] }
  | _ => none }
def FnExactRadiusOfWrongFalsely : Prop := fnExactRadiusOfRow.holds Try.pinned (OpenSpec.ofChange fnExactRadiusOfWrong)

/-- 'laws.FnExactCoversSpace': WHATEVER THE INPUT: true; the input reads as it did. -/
def fnExactCoversSpaceSpec : ChangeSpec := { name := "fnExactCoversSpace", fn := fun _ => fun
  | [d1, d2, d3] => { results := [.lit (.bool true)], args := [d1, d2, d3] }
  | _ => none }
def fnExactCoversSpaceRow : OpenClaim := { program := "ytcpchmnbjaeolaa", sum := "7624b26a62d7adc32cda1612f0c4e0b41fa64e9b21ce5d4df84b9e231a920d81", func := "loop.example/g01411/laws.FnExactCoversSpace", spec := "fnExactCoversSpace", apart := false }
def FnExactCoversSpaceSaid : Prop := fnExactCoversSpaceRow.holds Try.pinned (OpenSpec.ofChange fnExactCoversSpaceSpec)

/-- ITS FALSE NEIGHBOUR: 'it returns false'. Refute it at one input. -/
def fnExactCoversSpaceWrong : ChangeSpec := { name := "fnExactCoversSpace", fn := fun _ => fun
  | [d1, d2, d3] => { results := [.lit (.bool false)], args := [d1, d2, d3] }
  | _ => none }
def FnExactCoversSpaceWrongFalsely : Prop := fnExactCoversSpaceRow.holds Try.pinned (OpenSpec.ofChange fnExactCoversSpaceWrong)

/-- 'laws.FnExactFarthestWord': WHATEVER THE INPUT: true; the input reads as it did. -/
def fnExactFarthestWordSpec : ChangeSpec := { name := "fnExactFarthestWord", fn := fun _ => fun
  | [d1, d2] => { results := [.lit (.bool true)], args := [d1, d2] }
  | _ => none }
def fnExactFarthestWordRow : OpenClaim := { program := "ytcpchmnbjaeolaa", sum := "7624b26a62d7adc32cda1612f0c4e0b41fa64e9b21ce5d4df84b9e231a920d81", func := "loop.example/g01411/laws.FnExactFarthestWord", spec := "fnExactFarthestWord", apart := false }
def FnExactFarthestWordSaid : Prop := fnExactFarthestWordRow.holds Try.pinned (OpenSpec.ofChange fnExactFarthestWordSpec)

/-- ITS FALSE NEIGHBOUR: 'it returns false'. Refute it at one input. -/
def fnExactFarthestWordWrong : ChangeSpec := { name := "fnExactFarthestWord", fn := fun _ => fun
  | [d1, d2] => { results := [.lit (.bool false)], args := [d1, d2] }
  | _ => none }
def FnExactFarthestWordWrongFalsely : Prop := fnExactFarthestWordRow.holds Try.pinned (OpenSpec.ofChange fnExactFarthestWordWrong)

/-- 'laws.FnExactCoverCounts': WHATEVER THE INPUT: true; the input reads as it did. -/
def fnExactCoverCountsSpec : ChangeSpec := { name := "fnExactCoverCounts", fn := fun _ => fun
  | [d1, d2, d3] => { results := [.lit (.bool true)], args := [d1, d2, d3] }
  | _ => none }
def fnExactCoverCountsRow : OpenClaim := { program := "ytcpchmnbjaeolaa", sum := "7624b26a62d7adc32cda1612f0c4e0b41fa64e9b21ce5d4df84b9e231a920d81", func := "loop.example/g01411/laws.FnExactCoverCounts", spec := "fnExactCoverCounts", apart := false }
def FnExactCoverCountsSaid : Prop := fnExactCoverCountsRow.holds Try.pinned (OpenSpec.ofChange fnExactCoverCountsSpec)

/-- ITS FALSE NEIGHBOUR: 'it returns false'. Refute it at one input. -/
def fnExactCoverCountsWrong : ChangeSpec := { name := "fnExactCoverCounts", fn := fun _ => fun
  | [d1, d2, d3] => { results := [.lit (.bool false)], args := [d1, d2, d3] }
  | _ => none }
def FnExactCoverCountsWrongFalsely : Prop := fnExactCoverCountsRow.holds Try.pinned (OpenSpec.ofChange fnExactCoverCountsWrong)

/-- 'laws.FnExactUncoveredWords': WHATEVER THE INPUT: true; the input reads as it did. -/
def fnExactUncoveredWordsSpec : ChangeSpec := { name := "fnExactUncoveredWords", fn := fun _ => fun
  | [d1, d2, d3] => { results := [.lit (.bool true)], args := [d1, d2, d3] }
  | _ => none }
def fnExactUncoveredWordsRow : OpenClaim := { program := "ytcpchmnbjaeolaa", sum := "7624b26a62d7adc32cda1612f0c4e0b41fa64e9b21ce5d4df84b9e231a920d81", func := "loop.example/g01411/laws.FnExactUncoveredWords", spec := "fnExactUncoveredWords", apart := false }
def FnExactUncoveredWordsSaid : Prop := fnExactUncoveredWordsRow.holds Try.pinned (OpenSpec.ofChange fnExactUncoveredWordsSpec)

/-- ITS FALSE NEIGHBOUR: 'it returns false'. Refute it at one input. -/
def fnExactUncoveredWordsWrong : ChangeSpec := { name := "fnExactUncoveredWords", fn := fun _ => fun
  | [d1, d2, d3] => { results := [.lit (.bool false)], args := [d1, d2, d3] }
  | _ => none }
def FnExactUncoveredWordsWrongFalsely : Prop := fnExactUncoveredWordsRow.holds Try.pinned (OpenSpec.ofChange fnExactUncoveredWordsWrong)

/-- 'laws.FnExactCodeText': WHATEVER THE INPUT: true; the input reads as it did. -/
def fnExactCodeTextSpec : ChangeSpec := { name := "fnExactCodeText", fn := fun _ => fun
  | [d1, d2] => { results := [.lit (.bool true)], args := [d1, d2] }
  | _ => none }
def fnExactCodeTextRow : OpenClaim := { program := "ytcpchmnbjaeolaa", sum := "7624b26a62d7adc32cda1612f0c4e0b41fa64e9b21ce5d4df84b9e231a920d81", func := "loop.example/g01411/laws.FnExactCodeText", spec := "fnExactCodeText", inPlace := ["internal/abi.NoEscape", "internal/bytealg.MakeNoZero"], recurses := true, apart := false }
def FnExactCodeTextSaid : Prop := fnExactCodeTextRow.holds Try.pinned (OpenSpec.ofChange fnExactCodeTextSpec)

/-- ITS FALSE NEIGHBOUR: 'it returns false'. Refute it at one input. -/
def fnExactCodeTextWrong : ChangeSpec := { name := "fnExactCodeText", fn := fun _ => fun
  | [d1, d2] => { results := [.lit (.bool false)], args := [d1, d2] }
  | _ => none }
def FnExactCodeTextWrongFalsely : Prop := fnExactCodeTextRow.holds Try.pinned (OpenSpec.ofChange fnExactCodeTextWrong)

/-- 'laws.FnExactLeanCode': WHATEVER THE INPUT: true; the input reads as it did. -/
def fnExactLeanCodeSpec : ChangeSpec := { name := "fnExactLeanCode", fn := fun _ => fun
  | [d1, d2, d3] => { results := [.lit (.bool true)], args := [d1, d2, d3] }
  | _ => none }
def fnExactLeanCodeRow : OpenClaim := { program := "ytcpchmnbjaeolaa", sum := "7624b26a62d7adc32cda1612f0c4e0b41fa64e9b21ce5d4df84b9e231a920d81", func := "loop.example/g01411/laws.FnExactLeanCode", spec := "fnExactLeanCode", apart := false }
def FnExactLeanCodeSaid : Prop := fnExactLeanCodeRow.holds Try.pinned (OpenSpec.ofChange fnExactLeanCodeSpec)

/-- ITS FALSE NEIGHBOUR: 'it returns false'. Refute it at one input. -/
def fnExactLeanCodeWrong : ChangeSpec := { name := "fnExactLeanCode", fn := fun _ => fun
  | [d1, d2, d3] => { results := [.lit (.bool false)], args := [d1, d2, d3] }
  | _ => none }
def FnExactLeanCodeWrongFalsely : Prop := fnExactLeanCodeRow.holds Try.pinned (OpenSpec.ofChange fnExactLeanCodeWrong)

/-- 'laws.FnExactNeededWords': WHATEVER THE INPUT: true; the input reads as it did. -/
def fnExactNeededWordsSpec : ChangeSpec := { name := "fnExactNeededWords", fn := fun _ => fun
  | [d1, d2, d3] => { results := [.lit (.bool true)], args := [d1, d2, d3] }
  | _ => none }
def fnExactNeededWordsRow : OpenClaim := { program := "ytcpchmnbjaeolaa", sum := "7624b26a62d7adc32cda1612f0c4e0b41fa64e9b21ce5d4df84b9e231a920d81", func := "loop.example/g01411/laws.FnExactNeededWords", spec := "fnExactNeededWords", unfollowed := true, recurses := true, apart := false }
def FnExactNeededWordsSaid : Prop := fnExactNeededWordsRow.holds Try.pinned (OpenSpec.ofChange fnExactNeededWordsSpec)

/-- ITS FALSE NEIGHBOUR: 'it returns false'. Refute it at one input. -/
def fnExactNeededWordsWrong : ChangeSpec := { name := "fnExactNeededWords", fn := fun _ => fun
  | [d1, d2, d3] => { results := [.lit (.bool false)], args := [d1, d2, d3] }
  | _ => none }
def FnExactNeededWordsWrongFalsely : Prop := fnExactNeededWordsRow.holds Try.pinned (OpenSpec.ofChange fnExactNeededWordsWrong)

/- THE SECOND FORM. 'bulk': how many values and letters a reading holds, each counted each time it is reached (what is shared counts as often as it is met; a slice's spare places count too). A statement '..UptoSaid' is the law's where the arguments, and the package variables that the reading takes, are together of bulk at most 1048576: NARROWER than '..Said'. Prove '..Said' where nothing that the law and all that it calls make is longer than what came in: it says more and counts as full. Else prove '..UptoSaid'. A law counts once. -/
mutual
def uptoBulk {H : Type} : DataW H → Nat
  | .lit (.string bytes) => bytes.length + 1
  | .lit _ => 1
  | .nil => 1
  | .ptr d => uptoBulk d + 1
  | .slice elems spare => uptoBulkAll elems + uptoBulkAll spare + 1
  | .agg parts => uptoBulkAll parts + 1
  | .iface _ d => uptoBulk d + 1
  | .map entries => uptoBulkEntries entries + 1
  | .held _ => 1
def uptoBulkAll {H : Type} : List (DataW H) → Nat
  | [] => 0
  | d :: r => uptoBulk d + uptoBulkAll r
def uptoBulkEntries {H : Type} : List (Lit × DataW H) → Nat
  | [] => 0
  | x :: r => uptoBulkEntry x + uptoBulkEntries r
def uptoBulkEntry {H : Type} : Lit × DataW H → Nat
  | (.string bytes, d) => bytes.length + uptoBulk d + 1
  | (_, d) => uptoBulk d + 1
 end
def uptoSmall : (H : Type) → List (DataW H) → Bool := fun _ ds => decide (uptoBulkAll ds ≤ 1048576)
def OpenSpec.upto (s : _root_.Go.ChangeSpec) : _root_.Go.OpenSpec := { _root_.Go.OpenSpec.ofChange s with cond := some uptoSmall }

/-- 'laws.FnExactDistanceTo', WHERE WHAT IT READS IS OF BULK AT MOST 1048576: true; the input reads as it did. -/
def fnExactDistanceToUptoRow : OpenClaim := { program := "ytcpchmnbjaeolaa", sum := "7624b26a62d7adc32cda1612f0c4e0b41fa64e9b21ce5d4df84b9e231a920d81", func := "loop.example/g01411/laws.FnExactDistanceTo", spec := "fnExactDistanceTo", apart := false, narrowed := true }
def FnExactDistanceToUptoSaid : Prop := fnExactDistanceToUptoRow.holds Try.pinned (OpenSpec.upto fnExactDistanceToSpec)

/-- 'laws.FnExactTimesCovered', WHERE WHAT IT READS IS OF BULK AT MOST 1048576: true; the input reads as it did. -/
def fnExactTimesCoveredUptoRow : OpenClaim := { program := "ytcpchmnbjaeolaa", sum := "7624b26a62d7adc32cda1612f0c4e0b41fa64e9b21ce5d4df84b9e231a920d81", func := "loop.example/g01411/laws.FnExactTimesCovered", spec := "fnExactTimesCovered", apart := false, narrowed := true }
def FnExactTimesCoveredUptoSaid : Prop := fnExactTimesCoveredUptoRow.holds Try.pinned (OpenSpec.upto fnExactTimesCoveredSpec)

/-- 'laws.FnExactCodesInCommon', WHERE WHAT IT READS IS OF BULK AT MOST 1048576: true; the input reads as it did. -/
def fnExactCodesInCommonUptoRow : OpenClaim := { program := "ytcpchmnbjaeolaa", sum := "7624b26a62d7adc32cda1612f0c4e0b41fa64e9b21ce5d4df84b9e231a920d81", func := "loop.example/g01411/laws.FnExactCodesInCommon", spec := "fnExactCodesInCommon", unfollowed := true, recurses := true, apart := false, narrowed := true }
def FnExactCodesInCommonUptoSaid : Prop := fnExactCodesInCommonUptoRow.holds Try.pinned (OpenSpec.upto fnExactCodesInCommonSpec)

/-- 'laws.FnExactExcessOf', WHERE WHAT IT READS IS OF BULK AT MOST 1048576: true; the input reads as it did. -/
def fnExactExcessOfUptoRow : OpenClaim := { program := "ytcpchmnbjaeolaa", sum := "7624b26a62d7adc32cda1612f0c4e0b41fa64e9b21ce5d4df84b9e231a920d81", func := "loop.example/g01411/laws.FnExactExcessOf", spec := "fnExactExcessOf", apart := false, narrowed := true }
def FnExactExcessOfUptoSaid : Prop := fnExactExcessOfUptoRow.holds Try.pinned (OpenSpec.upto fnExactExcessOfSpec)

/-- 'laws.FnExactRadiusOf', WHERE WHAT IT READS IS OF BULK AT MOST 1048576: true; the input reads as it did. -/
def fnExactRadiusOfUptoRow : OpenClaim := { program := "ytcpchmnbjaeolaa", sum := "7624b26a62d7adc32cda1612f0c4e0b41fa64e9b21ce5d4df84b9e231a920d81", func := "loop.example/g01411/laws.FnExactRadiusOf", spec := "fnExactRadiusOf", apart := false, narrowed := true }
def FnExactRadiusOfUptoSaid : Prop := fnExactRadiusOfUptoRow.holds Try.pinned (OpenSpec.upto fnExactRadiusOfSpec)

/-- 'laws.FnExactCoversSpace', WHERE WHAT IT READS IS OF BULK AT MOST 1048576: true; the input reads as it did. -/
def fnExactCoversSpaceUptoRow : OpenClaim := { program := "ytcpchmnbjaeolaa", sum := "7624b26a62d7adc32cda1612f0c4e0b41fa64e9b21ce5d4df84b9e231a920d81", func := "loop.example/g01411/laws.FnExactCoversSpace", spec := "fnExactCoversSpace", apart := false, narrowed := true }
def FnExactCoversSpaceUptoSaid : Prop := fnExactCoversSpaceUptoRow.holds Try.pinned (OpenSpec.upto fnExactCoversSpaceSpec)

/-- 'laws.FnExactFarthestWord', WHERE WHAT IT READS IS OF BULK AT MOST 1048576: true; the input reads as it did. -/
def fnExactFarthestWordUptoRow : OpenClaim := { program := "ytcpchmnbjaeolaa", sum := "7624b26a62d7adc32cda1612f0c4e0b41fa64e9b21ce5d4df84b9e231a920d81", func := "loop.example/g01411/laws.FnExactFarthestWord", spec := "fnExactFarthestWord", apart := false, narrowed := true }
def FnExactFarthestWordUptoSaid : Prop := fnExactFarthestWordUptoRow.holds Try.pinned (OpenSpec.upto fnExactFarthestWordSpec)

/-- 'laws.FnExactCoverCounts', WHERE WHAT IT READS IS OF BULK AT MOST 1048576: true; the input reads as it did. -/
def fnExactCoverCountsUptoRow : OpenClaim := { program := "ytcpchmnbjaeolaa", sum := "7624b26a62d7adc32cda1612f0c4e0b41fa64e9b21ce5d4df84b9e231a920d81", func := "loop.example/g01411/laws.FnExactCoverCounts", spec := "fnExactCoverCounts", apart := false, narrowed := true }
def FnExactCoverCountsUptoSaid : Prop := fnExactCoverCountsUptoRow.holds Try.pinned (OpenSpec.upto fnExactCoverCountsSpec)

/-- 'laws.FnExactUncoveredWords', WHERE WHAT IT READS IS OF BULK AT MOST 1048576: true; the input reads as it did. -/
def fnExactUncoveredWordsUptoRow : OpenClaim := { program := "ytcpchmnbjaeolaa", sum := "7624b26a62d7adc32cda1612f0c4e0b41fa64e9b21ce5d4df84b9e231a920d81", func := "loop.example/g01411/laws.FnExactUncoveredWords", spec := "fnExactUncoveredWords", apart := false, narrowed := true }
def FnExactUncoveredWordsUptoSaid : Prop := fnExactUncoveredWordsUptoRow.holds Try.pinned (OpenSpec.upto fnExactUncoveredWordsSpec)

/-- 'laws.FnExactCodeText', WHERE WHAT IT READS IS OF BULK AT MOST 1048576: true; the input reads as it did. -/
def fnExactCodeTextUptoRow : OpenClaim := { program := "ytcpchmnbjaeolaa", sum := "7624b26a62d7adc32cda1612f0c4e0b41fa64e9b21ce5d4df84b9e231a920d81", func := "loop.example/g01411/laws.FnExactCodeText", spec := "fnExactCodeText", inPlace := ["internal/abi.NoEscape", "internal/bytealg.MakeNoZero"], recurses := true, apart := false, narrowed := true }
def FnExactCodeTextUptoSaid : Prop := fnExactCodeTextUptoRow.holds Try.pinned (OpenSpec.upto fnExactCodeTextSpec)

/-- 'laws.FnExactLeanCode', WHERE WHAT IT READS IS OF BULK AT MOST 1048576: true; the input reads as it did. -/
def fnExactLeanCodeUptoRow : OpenClaim := { program := "ytcpchmnbjaeolaa", sum := "7624b26a62d7adc32cda1612f0c4e0b41fa64e9b21ce5d4df84b9e231a920d81", func := "loop.example/g01411/laws.FnExactLeanCode", spec := "fnExactLeanCode", apart := false, narrowed := true }
def FnExactLeanCodeUptoSaid : Prop := fnExactLeanCodeUptoRow.holds Try.pinned (OpenSpec.upto fnExactLeanCodeSpec)

/-- 'laws.FnExactNeededWords', WHERE WHAT IT READS IS OF BULK AT MOST 1048576: true; the input reads as it did. -/
def fnExactNeededWordsUptoRow : OpenClaim := { program := "ytcpchmnbjaeolaa", sum := "7624b26a62d7adc32cda1612f0c4e0b41fa64e9b21ce5d4df84b9e231a920d81", func := "loop.example/g01411/laws.FnExactNeededWords", spec := "fnExactNeededWords", unfollowed := true, recurses := true, apart := false, narrowed := true }
def FnExactNeededWordsUptoSaid : Prop := fnExactNeededWordsUptoRow.holds Try.pinned (OpenSpec.upto fnExactNeededWordsSpec)

end Rows
end Go.Proofs.Ytcpchmnbjaeolaa
