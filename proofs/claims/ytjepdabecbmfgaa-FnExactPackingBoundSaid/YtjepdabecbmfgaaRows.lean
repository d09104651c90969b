/-
  No cell of these rows narrows 'for every input' (looked for: loops, veiled, ifaces, maps, wideKeys, modest, calm, conditions, laid).
  DERIVED. THE GIVEN ROWS OF THIS SEAT. 12 by the template 'for every input the law returns true; each argument reads behind the call as it read before'; 0 by the template 'total and deterministic' (their statements: YtjepdabecbmfgaaTotals.lean).
  GIVEN WITH THE SEED: the statements are not yours to turn. If you find one false, say at which input.
  Laid BY PROGRAM, IN A SANDBOX (cutbox-rows.mjs): the forced cells as the released guide's own fill.sh prints them over the translation b3f69527e2e3d927… (all of the seat's roots in one cut). By AI agents, Wed Nov 11 2026. No macro, syntax, notation, axiom, sorry.
-/
import Derived.Test.YtjepdabecbmfgaaChecked
import GoSem.Claim
import GoSem.ClaimJoined
import GoSem.ClaimMapViews
import Derived.JoinedTies
import Derived.KernelRfl
namespace Go.Proofs.Ytjepdabecbmfgaa
/- THE CELL 'sum', in the pinned program and in every row, IS THE sha256 OF THE DUMP (.gsa) THAT YtjepdabecbmfgaaProg.lean LOADS. Nothing in Lean hashes anything: it is a label: what it is worth is what the hold of that sum in a sandbox is worth. -/
noncomputable def Try.pinned : Pinned := { name := "ytjepdabecbmfgaa", sum := "b3f69527e2e3d9277542675aac22493a102033df54bddc0800dd940e0b3d38cf", checked := Try.checked }
namespace Rows
def none {H : Type} : Left H := { results := [], args := [] }

/-- 'laws.FnExactConstants': WHATEVER THE INPUT: true; the input reads as it did. -/
def fnExactConstantsSpec : ChangeSpec := { name := "fnExactConstants", fn := fun _ => fun
  | [] => { results := [.lit (.bool true)], args := [] }
  | _ => none }
def fnExactConstantsRow : OpenClaim := { program := "ytjepdabecbmfgaa", sum := "b3f69527e2e3d9277542675aac22493a102033df54bddc0800dd940e0b3d38cf", func := "loop.example/g01411/laws.FnExactConstants", spec := "fnExactConstants", apart := false }
def FnExactConstantsSaid : Prop := fnExactConstantsRow.holds Try.pinned (OpenSpec.ofChange fnExactConstantsSpec)

/-- ITS FALSE NEIGHBOUR: 'it returns false'. Refute it at one input. -/
def fnExactConstantsWrong : ChangeSpec := { name := "fnExactConstants", fn := fun _ => fun
  | [] => { results := [.lit (.bool false)], args := [] }
  | _ => none }
def FnExactConstantsWrongFalsely : Prop := fnExactConstantsRow.holds Try.pinned (OpenSpec.ofChange fnExactConstantsWrong)

/-- 'laws.FnExactIsSpace': WHATEVER THE INPUT: true; the input reads as it did. -/
def fnExactIsSpaceSpec : ChangeSpec := { name := "fnExactIsSpace", fn := fun _ => fun
  | [d] => { results := [.lit (.bool true)], args := [d] }
  | _ => none }
def fnExactIsSpaceRow : OpenClaim := { program := "ytjepdabecbmfgaa", sum := "b3f69527e2e3d9277542675aac22493a102033df54bddc0800dd940e0b3d38cf", func := "loop.example/g01411/laws.FnExactIsSpace", spec := "fnExactIsSpace", apart := false }
def FnExactIsSpaceSaid : Prop := fnExactIsSpaceRow.holds Try.pinned (OpenSpec.ofChange fnExactIsSpaceSpec)

/-- ITS FALSE NEIGHBOUR: 'it returns false'. Refute it at one input. -/
def fnExactIsSpaceWrong : ChangeSpec := { name := "fnExactIsSpace", fn := fun _ => fun
  | [d] => { results := [.lit (.bool false)], args := [d] }
  | _ => none }
def FnExactIsSpaceWrongFalsely : Prop := fnExactIsSpaceRow.holds Try.pinned (OpenSpec.ofChange fnExactIsSpaceWrong)

/-- 'laws.FnExactCountWords': WHATEVER THE INPUT: true; the input reads as it did. -/
def fnExactCountWordsSpec : ChangeSpec := { name := "fnExactCountWords", fn := fun _ => fun
  | [d] => { results := [.lit (.bool true)], args := [d] }
  | _ => none }
def fnExactCountWordsRow : OpenClaim := { program := "ytjepdabecbmfgaa", sum := "b3f69527e2e3d9277542675aac22493a102033df54bddc0800dd940e0b3d38cf", func := "loop.example/g01411/laws.FnExactCountWords", spec := "fnExactCountWords", apart := false }
def FnExactCountWordsSaid : Prop := fnExactCountWordsRow.holds Try.pinned (OpenSpec.ofChange fnExactCountWordsSpec)

/-- ITS FALSE NEIGHBOUR: 'it returns false'. Refute it at one input. -/
def fnExactCountWordsWrong : ChangeSpec := { name := "fnExactCountWords", fn := fun _ => fun
  | [d] => { results := [.lit (.bool false)], args := [d] }
  | _ => none }
def FnExactCountWordsWrongFalsely : Prop := fnExactCountWordsRow.holds Try.pinned (OpenSpec.ofChange fnExactCountWordsWrong)

/-- 'laws.FnExactParseSpace': WHATEVER THE INPUT: true; the input reads as it did. -/
def fnExactParseSpaceSpec : ChangeSpec := { name := "fnExactParseSpace", fn := fun _ => fun
  | [d] => { results := [.lit (.bool true)], args := [d] }
  | _ => none }
def fnExactParseSpaceRow : OpenClaim := { program := "ytjepdabecbmfgaa", sum := "b3f69527e2e3d9277542675aac22493a102033df54bddc0800dd940e0b3d38cf", func := "loop.example/g01411/laws.FnExactParseSpace", spec := "fnExactParseSpace", apart := false }
def FnExactParseSpaceSaid : Prop := fnExactParseSpaceRow.holds Try.pinned (OpenSpec.ofChange fnExactParseSpaceSpec)

/-- ITS FALSE NEIGHBOUR: 'it returns false'. Refute it at one input. -/
def fnExactParseSpaceWrong : ChangeSpec := { name := "fnExactParseSpace", fn := fun _ => fun
  | [d] => { results := [.lit (.bool false)], args := [d] }
  | _ => none }
def FnExactParseSpaceWrongFalsely : Prop := fnExactParseSpaceRow.holds Try.pinned (OpenSpec.ofChange fnExactParseSpaceWrong)

/-- 'laws.FnExactSpaceText': WHATEVER THE INPUT: true; the input reads as it did. -/
def fnExactSpaceTextSpec : ChangeSpec := { name := "fnExactSpaceText", fn := fun _ => fun
  | [d] => { results := [.lit (.bool true)], args := [d] }
  | _ => none }
def fnExactSpaceTextRow : OpenClaim := { program := "ytjepdabecbmfgaa", sum := "b3f69527e2e3d9277542675aac22493a102033df54bddc0800dd940e0b3d38cf", func := "loop.example/g01411/laws.FnExactSpaceText", spec := "fnExactSpaceText", recurses := true, apart := false }
def FnExactSpaceTextSaid : Prop := fnExactSpaceTextRow.holds Try.pinned (OpenSpec.ofChange fnExactSpaceTextSpec)

/-- ITS FALSE NEIGHBOUR: 'it returns false'. Refute it at one input. -/
def fnExactSpaceTextWrong : ChangeSpec := { name := "fnExactSpaceText", fn := fun _ => fun
  | [d] => { results := [.lit (.bool false)], args := [d] }
  | _ => none }
def FnExactSpaceTextWrongFalsely : Prop := fnExactSpaceTextRow.holds Try.pinned (OpenSpec.ofChange fnExactSpaceTextWrong)

/-- 'laws.FnExactWordOf': WHATEVER THE INPUT: true; the input reads as it did. -/
def fnExactWordOfSpec : ChangeSpec := { name := "fnExactWordOf", fn := fun _ => fun
  | [d1, d2] => { results := [.lit (.bool true)], args := [d1, d2] }
  | _ => none }
def fnExactWordOfRow : OpenClaim := { program := "ytjepdabecbmfgaa", sum := "b3f69527e2e3d9277542675aac22493a102033df54bddc0800dd940e0b3d38cf", func := "loop.example/g01411/laws.FnExactWordOf", spec := "fnExactWordOf", apart := false }
def FnExactWordOfSaid : Prop := fnExactWordOfRow.holds Try.pinned (OpenSpec.ofChange fnExactWordOfSpec)

/-- ITS FALSE NEIGHBOUR: 'it returns false'. Refute it at one input. -/
def fnExactWordOfWrong : ChangeSpec := { name := "fnExactWordOf", fn := fun _ => fun
  | [d1, d2] => { results := [.lit (.bool false)], args := [d1, d2] }
  | _ => none }
def FnExactWordOfWrongFalsely : Prop := fnExactWordOfRow.holds Try.pinned (OpenSpec.ofChange fnExactWordOfWrong)

/-- 'laws.FnExactIsCode': WHATEVER THE INPUT: true; the input reads as it did. -/
def fnExactIsCodeSpec : ChangeSpec := { name := "fnExactIsCode", fn := fun _ => fun
  | [d1, d2] => { results := [.lit (.bool true)], args := [d1, d2] }
  | _ => none }
def fnExactIsCodeRow : OpenClaim := { program := "ytjepdabecbmfgaa", sum := "b3f69527e2e3d9277542675aac22493a102033df54bddc0800dd940e0b3d38cf", func := "loop.example/g01411/laws.FnExactIsCode", spec := "fnExactIsCode", apart := false }
def FnExactIsCodeSaid : Prop := fnExactIsCodeRow.holds Try.pinned (OpenSpec.ofChange fnExactIsCodeSpec)

/-- ITS FALSE NEIGHBOUR: 'it returns false'. Refute it at one input. -/
def fnExactIsCodeWrong : ChangeSpec := { name := "fnExactIsCode", fn := fun _ => fun
  | [d1, d2] => { results := [.lit (.bool false)], args := [d1, d2] }
  | _ => none }
def FnExactIsCodeWrongFalsely : Prop := fnExactIsCodeRow.holds Try.pinned (OpenSpec.ofChange fnExactIsCodeWrong)

/-- 'laws.FnExactDistanceOf': WHATEVER THE INPUT: true; the input reads as it did. -/
def fnExactDistanceOfSpec : ChangeSpec := { name := "fnExactDistanceOf", fn := fun _ => fun
  | [d1, d2, d3] => { results := [.lit (.bool true)], args := [d1, d2, d3] }
  | _ => none }
def fnExactDistanceOfRow : OpenClaim := { program := "ytjepdabecbmfgaa", sum := "b3f69527e2e3d9277542675aac22493a102033df54bddc0800dd940e0b3d38cf", func := "loop.example/g01411/laws.FnExactDistanceOf", spec := "fnExactDistanceOf", apart := false }
def FnExactDistanceOfSaid : Prop := fnExactDistanceOfRow.holds Try.pinned (OpenSpec.ofChange fnExactDistanceOfSpec)

/-- ITS FALSE NEIGHBOUR: 'it returns false'. Refute it at one input. -/
def fnExactDistanceOfWrong : ChangeSpec := { name := "fnExactDistanceOf", fn := fun _ => fun
  | [d1, d2, d3] => { results := [.lit (.bool false)], args := [d1, d2, d3] }
  | _ => none }
def FnExactDistanceOfWrongFalsely : Prop := fnExactDistanceOfRow.holds Try.pinned (OpenSpec.ofChange fnExactDistanceOfWrong)

/-- 'laws.FnExactWeightOf': WHATEVER THE INPUT: true; the input reads as it did. -/
def fnExactWeightOfSpec : ChangeSpec := { name := "fnExactWeightOf", fn := fun _ => fun
  | [d1, d2] => { results := [.lit (.bool true)], args := [d1, d2] }
  | _ => none }
def fnExactWeightOfRow : OpenClaim := { program := "ytjepdabecbmfgaa", sum := "b3f69527e2e3d9277542675aac22493a102033df54bddc0800dd940e0b3d38cf", func := "loop.example/g01411/laws.FnExactWeightOf", spec := "fnExactWeightOf", apart := false }
def FnExactWeightOfSaid : Prop := fnExactWeightOfRow.holds Try.pinned (OpenSpec.ofChange fnExactWeightOfSpec)

/-- ITS FALSE NEIGHBOUR: 'it returns false'. Refute it at one input. -/
def fnExactWeightOfWrong : ChangeSpec := { name := "fnExactWeightOf", fn := fun _ => fun
  | [d1, d2] => { results := [.lit (.bool false)], args := [d1, d2] }
  | _ => none }
def FnExactWeightOfWrongFalsely : Prop := fnExactWeightOfRow.holds Try.pinned (OpenSpec.ofChange fnExactWeightOfWrong)

/-- 'laws.FnExactDigitsOf': WHATEVER THE INPUT: true; the input reads as it did. -/
def fnExactDigitsOfSpec : ChangeSpec := { name := "fnExactDigitsOf", fn := fun _ => fun
  | [d1, d2] => { results := [.lit (.bool true)], args := [d1, d2] }
  | _ => none }
def fnExactDigitsOfRow : OpenClaim := { program := "ytjepdabecbmfgaa", sum := "b3f69527e2e3d9277542675aac22493a102033df54bddc0800dd940e0b3d38cf", func := "loop.example/g01411/laws.FnExactDigitsOf", spec := "fnExactDigitsOf", apart := false }
def FnExactDigitsOfSaid : Prop := fnExactDigitsOfRow.holds Try.pinned (OpenSpec.ofChange fnExactDigitsOfSpec)

/-- ITS FALSE NEIGHBOUR: 'it returns false'. Refute it at one input. -/
def fnExactDigitsOfWrong : ChangeSpec := { name := "fnExactDigitsOf", fn := fun _ => fun
  | [d1, d2] => { results := [.lit (.bool false)], args := [d1, d2] }
  | _ => none }
def FnExactDigitsOfWrongFalsely : Prop := fnExactDigitsOfRow.holds Try.pinned (OpenSpec.ofChange fnExactDigitsOfWrong)

/-- 'laws.FnExactPackingBound': WHATEVER THE INPUT: true; the input reads as it did. -/
def fnExactPackingBoundSpec : ChangeSpec := { name := "fnExactPackingBound", fn := fun _ => fun
  | [d1, d2] => { results := [.lit (.bool true)], args := [d1, d2] }
  | _ => none }
def fnExactPackingBoundRow : OpenClaim := { program := "ytjepdabecbmfgaa", sum := "b3f69527e2e3d9277542675aac22493a102033df54bddc0800dd940e0b3d38cf", func := "loop.example/g01411/laws.FnExactPackingBound", spec := "fnExactPackingBound", unfollowed := true, recurses := true, apart := false }
def FnExactPackingBoundSaid : Prop := fnExactPackingBoundRow.holds Try.pinned (OpenSpec.ofChange fnExactPackingBoundSpec)

/-- ITS FALSE NEIGHBOUR: 'it returns false'. Refute it at one input. -/
def fnExactPackingBoundWrong : ChangeSpec := { name := "fnExactPackingBound", fn := fun _ => fun
  | [d1, d2] => { results := [.lit (.bool false)], args := [d1, d2] }
  | _ => none }
def FnExactPackingBoundWrongFalsely : Prop := fnExactPackingBoundRow.holds Try.pinned (OpenSpec.ofChange fnExactPackingBoundWrong)

/-- 'laws.FnExactOppositeWord': WHATEVER THE INPUT: true; the input reads as it did. -/
def fnExactOppositeWordSpec : ChangeSpec := { name := "fnExactOppositeWord", fn := fun _ => fun
  | [d1, d2] => { results := [.lit (.bool true)], args := [d1, d2] }
  | _ => none }
def fnExactOppositeWordRow : OpenClaim := { program := "ytjepdabecbmfgaa", sum := "b3f69527e2e3d9277542675aac22493a102033df54bddc0800dd940e0b3d38cf", func := "loop.example/g01411/laws.FnExactOppositeWord", spec := "fnExactOppositeWord", apart := false }
def FnExactOppositeWordSaid : Prop := fnExactOppositeWordRow.holds Try.pinned (OpenSpec.ofChange fnExactOppositeWordSpec)

/-- ITS FALSE NEIGHBOUR: 'it returns false'. Refute it at one input. -/
def fnExactOppositeWordWrong : ChangeSpec := { name := "fnExactOppositeWord", fn := fun _ => fun
  | [d1, d2] => { results := [.lit (.bool false)], args := [d1, d2] }
  | _ => none }
def FnExactOppositeWordWrongFalsely : Prop := fnExactOppositeWordRow.holds Try.pinned (OpenSpec.ofChange fnExactOppositeWordWrong)

/- THE SECOND FORM. 'bulk': how many values and letters a reading holds, each counted each time it is reached (what is shared counts as often as it is met; a slice's spare places count too). A statement '..UptoSaid' is the law's where the arguments, and the package variables that the reading takes, are together of bulk at most 1048576: NARROWER than '..Said'. Prove '..Said' where nothing that the law and all that it calls make is longer than what came in: it says more and counts as full. Else prove '..UptoSaid'. A law counts once. -/
mutual
def uptoBulk {H : Type} : DataW H → Nat
  | .lit (.string bytes) => bytes.length + 1
  | .lit _ => 1
  | .nil => 1
  | .ptr d => uptoBulk d + 1
  | .slice elems spare => uptoBulkAll elems + uptoBulkAll spare + 1
  | .agg parts => uptoBulkAll parts + 1
  | .iface _ d => uptoBulk d + 1
  | .map entries => uptoBulkEntries entries + 1
  | .held _ => 1
def uptoBulkAll {H : Type} : List (DataW H) → Nat
  | [] => 0
  | d :: r => uptoBulk d + uptoBulkAll r
def uptoBulkEntries {H : Type} : List (Lit × DataW H) → Nat
  | [] => 0
  | x :: r => uptoBulkEntry x + uptoBulkEntries r
def uptoBulkEntry {H : Type} : Lit × DataW H → Nat
  | (.string bytes, d) => bytes.length + uptoBulk d + 1
  | (_, d) => uptoBulk d + 1
 end
def uptoSmall : (H : Type) → List (DataW H) → Bool := fun _ ds => decide (uptoBulkAll ds ≤ 1048576)
def OpenSpec.upto (s : _root_.Go.ChangeSpec) : _root_.Go.OpenSpec := { _root_.Go.OpenSpec.ofChange s with cond := some uptoSmall }

/-- 'laws.FnExactConstants', WHERE WHAT IT READS IS OF BULK AT MOST 1048576: true; the input reads as it did. -/
def fnExactConstantsUptoRow : OpenClaim := { program := "ytjepdabecbmfgaa", sum := "b3f69527e2e3d9277542675aac22493a102033df54bddc0800dd940e0b3d38cf", func := "loop.example/g01411/laws.FnExactConstants", spec := "fnExactConstants", apart := false, narrowed := true }
def FnExactConstantsUptoSaid : Prop := fnExactConstantsUptoRow.holds Try.pinned (OpenSpec.upto fnExactConstantsSpec)

/-- 'laws.FnExactIsSpace', WHERE WHAT IT READS IS OF BULK AT MOST 1048576: true; the input reads as it did. -/
def fnExactIsSpaceUptoRow : OpenClaim := { program := "ytjepdabecbmfgaa", sum := "b3f69527e2e3d9277542675aac22493a102033df54bddc0800dd940e0b3d38cf", func := "loop.example/g01411/laws.FnExactIsSpace", spec := "fnExactIsSpace", apart := false, narrowed := true }
def FnExactIsSpaceUptoSaid : Prop := fnExactIsSpaceUptoRow.holds Try.pinned (OpenSpec.upto fnExactIsSpaceSpec)

/-- 'laws.FnExactCountWords', WHERE WHAT IT READS IS OF BULK AT MOST 1048576: true; the input reads as it did. -/
def fnExactCountWordsUptoRow : OpenClaim := { program := "ytjepdabecbmfgaa", sum := "b3f69527e2e3d9277542675aac22493a102033df54bddc0800dd940e0b3d38cf", func := "loop.example/g01411/laws.FnExactCountWords", spec := "fnExactCountWords", apart := false, narrowed := true }
def FnExactCountWordsUptoSaid : Prop := fnExactCountWordsUptoRow.holds Try.pinned (OpenSpec.upto fnExactCountWordsSpec)

/-- 'laws.FnExactParseSpace', WHERE WHAT IT READS IS OF BULK AT MOST 1048576: true; the input reads as it did. -/
def fnExactParseSpaceUptoRow : OpenClaim := { program := "ytjepdabecbmfgaa", sum := "b3f69527e2e3d9277542675aac22493a102033df54bddc0800dd940e0b3d38cf", func := "loop.example/g01411/laws.FnExactParseSpace", spec := "fnExactParseSpace", apart := false, narrowed := true }
def FnExactParseSpaceUptoSaid : Prop := fnExactParseSpaceUptoRow.holds Try.pinned (OpenSpec.upto fnExactParseSpaceSpec)

/-- 'laws.FnExactSpaceText', WHERE WHAT IT READS IS OF BULK AT MOST 1048576: true; the input reads as it did. -/
def fnExactSpaceTextUptoRow : OpenClaim := { program := "ytjepdabecbmfgaa", sum := "b3f69527e2e3d9277542675aac22493a102033df54bddc0800dd940e0b3d38cf", func := "loop.example/g01411/laws.FnExactSpaceText", spec := "fnExactSpaceText", recurses := true, apart := false, narrowed := true }
def FnExactSpaceTextUptoSaid : Prop := fnExactSpaceTextUptoRow.holds Try.pinned (OpenSpec.upto fnExactSpaceTextSpec)

/-- 'laws.FnExactWordOf', WHERE WHAT IT READS IS OF BULK AT MOST 1048576: true; the input reads as it did. -/
def fnExactWordOfUptoRow : OpenClaim := { program := "ytjepdabecbmfgaa", sum := "b3f69527e2e3d9277542675aac22493a102033df54bddc0800dd940e0b3d38cf", func := "loop.example/g01411/laws.FnExactWordOf", spec := "fnExactWordOf", apart := false, narrowed := true }
def FnExactWordOfUptoSaid : Prop := fnExactWordOfUptoRow.holds Try.pinned (OpenSpec.upto fnExactWordOfSpec)

/-- 'laws.FnExactIsCode', WHERE WHAT IT READS IS OF BULK AT MOST 1048576: true; the input reads as it did. -/
def fnExactIsCodeUptoRow : OpenClaim := { program := "ytjepdabecbmfgaa", sum := "b3f69527e2e3d9277542675aac22493a102033df54bddc0800dd940e0b3d38cf", func := "loop.example/g01411/laws.FnExactIsCode", spec := "fnExactIsCode", apart := false, narrowed := true }
def FnExactIsCodeUptoSaid : Prop := fnExactIsCodeUptoRow.holds Try.pinned (OpenSpec.upto fnExactIsCodeSpec)

/-- 'laws.FnExactDistanceOf', WHERE WHAT IT READS IS OF BULK AT MOST 1048576: true; the input reads as it did. -/
def fnExactDistanceOfUptoRow : OpenClaim := { program := "ytjepdabecbmfgaa", sum := "b3f69527e2e3d9277542675aac22493a102033df54bddc0800dd940e0b3d38cf", func := "loop.example/g01411/laws.FnExactDistanceOf", spec := "fnExactDistanceOf", apart := false, narrowed := true }
def FnExactDistanceOfUptoSaid : Prop := fnExactDistanceOfUptoRow.holds Try.pinned (OpenSpec.upto fnExactDistanceOfSpec)

/-- 'laws.FnExactWeightOf', WHERE WHAT IT READS IS OF BULK AT MOST 1048576: true; the input reads as it did. -/
def fnExactWeightOfUptoRow : OpenClaim := { program := "ytjepdabecbmfgaa", sum := "b3f69527e2e3d9277542675aac22493a102033df54bddc0800dd940e0b3d38cf", func := "loop.example/g01411/laws.FnExactWeightOf", spec := "fnExactWeightOf", apart := false, narrowed := true }
def FnExactWeightOfUptoSaid : Prop := fnExactWeightOfUptoRow.holds Try.pinned (OpenSpec.upto fnExactWeightOfSpec)

/-- 'laws.FnExactDigitsOf', WHERE WHAT IT READS IS OF BULK AT MOST 1048576: true; the input reads as it did. -/
def fnExactDigitsOfUptoRow : OpenClaim := { program := "ytjepdabecbmfgaa", sum := "b3f69527e2e3d9277542675aac22493a102033df54bddc0800dd940e0b3d38cf", func := "loop.example/g01411/laws.FnExactDigitsOf", spec := "fnExactDigitsOf", apart := false, narrowed := true }
def FnExactDigitsOfUptoSaid : Prop := fnExactDigitsOfUptoRow.holds Try.pinned (OpenSpec.upto fnExactDigitsOfSpec)

/-- 'laws.FnExactPackingBound', WHERE WHAT IT READS IS OF BULK AT MOST 1048576: true; the input reads as it did. -/
def fnExactPackingBoundUptoRow : OpenClaim := { program := "ytjepdabecbmfgaa", sum := "b3f69527e2e3d9277542675aac22493a102033df54bddc0800dd940e0b3d38cf", func := "loop.example/g01411/laws.FnExactPackingBound", spec := "fnExactPackingBound", unfollowed := true, recurses := true, apart := false, narrowed := true }
def FnExactPackingBoundUptoSaid : Prop := fnExactPackingBoundUptoRow.holds Try.pinned (OpenSpec.upto fnExactPackingBoundSpec)

/-- 'laws.FnExactOppositeWord', WHERE WHAT IT READS IS OF BULK AT MOST 1048576: true; the input reads as it did. -/
def fnExactOppositeWordUptoRow : OpenClaim := { program := "ytjepdabecbmfgaa", sum := "b3f69527e2e3d9277542675aac22493a102033df54bddc0800dd940e0b3d38cf", func := "loop.example/g01411/laws.FnExactOppositeWord", spec := "fnExactOppositeWord", apart := false, narrowed := true }
def FnExactOppositeWordUptoSaid : Prop := fnExactOppositeWordUptoRow.holds Try.pinned (OpenSpec.upto fnExactOppositeWordSpec)

end Rows
end Go.Proofs.Ytjepdabecbmfgaa
