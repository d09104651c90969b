/-
  No cell of these rows narrows 'for every input' (looked for: loops, veiled, ifaces, maps, wideKeys, modest, calm, conditions, laid).
  DERIVED. THE GIVEN ROWS OF THIS SEAT. 6 by the template 'for every input the law returns true; each argument reads behind the call as it read before'; 0 by the template 'total and deterministic' (their statements: YthcodiknghfmmaaTotals.lean).
  GIVEN WITH THE SEED: the statements are not yours to turn. If you find one false, say at which input.
  Laid BY PROGRAM, IN A SANDBOX (cutbox-rows.mjs): the forced cells as the released guide's own fill.sh prints them over the translation 2cad78d390ef501f… (all of the seat's roots in one cut). By AI agents, Wed Nov 11 2026. No macro, syntax, notation, axiom, sorry.
-/
import Derived.Test.YthcodiknghfmmaaChecked
import GoSem.Claim
import GoSem.ClaimJoined
import GoSem.ClaimMapViews
import Derived.JoinedTies
import Derived.KernelRfl
namespace Go.Proofs.Ythcodiknghfmmaa
/- THE CELL 'sum', in the pinned program and in every row, IS THE sha256 OF THE DUMP (.gsa) THAT YthcodiknghfmmaaProg.lean LOADS. Nothing in Lean hashes anything: it is a label: what it is worth is what the hold of that sum in a sandbox is worth. -/
noncomputable def Try.pinned : Pinned := { name := "ythcodiknghfmmaa", sum := "2cad78d390ef501f860f7eb245638fd26ca18e2268b4a2a3731664ee814c26b0", checked := Try.checked }
namespace Rows
def none {H : Type} : Left H := { results := [], args := [] }

/-- 'laws.FnExactFreeCode': WHATEVER THE INPUT: true; the input reads as it did. -/
def fnExactFreeCodeSpec : ChangeSpec := { name := "fnExactFreeCode", fn := fun _ => fun
  | [d1, d2] => { results := [.lit (.bool true)], args := [d1, d2] }
  | _ => none }
def fnExactFreeCodeRow : OpenClaim := { program := "ythcodiknghfmmaa", sum := "2cad78d390ef501f860f7eb245638fd26ca18e2268b4a2a3731664ee814c26b0", func := "loop.example/g01411/laws.FnExactFreeCode", spec := "fnExactFreeCode", unfollowed := true, recurses := true, apart := false }
def FnExactFreeCodeSaid : Prop := fnExactFreeCodeRow.holds Try.pinned (OpenSpec.ofChange fnExactFreeCodeSpec)

/-- ITS FALSE NEIGHBOUR: 'it returns false'. Refute it at one input. -/
def fnExactFreeCodeWrong : ChangeSpec := { name := "fnExactFreeCode", fn := fun _ => fun
  | [d1, d2] => { results := [.lit (.bool false)], args := [d1, d2] }
  | _ => none }
def FnExactFreeCodeWrongFalsely : Prop := fnExactFreeCodeRow.holds Try.pinned (OpenSpec.ofChange fnExactFreeCodeWrong)

/-- 'laws.FnExactDirectSum': WHATEVER THE INPUT: true; the input reads as it did. -/
def fnExactDirectSumSpec : ChangeSpec := { name := "fnExactDirectSum", fn := fun _ => fun
  | [d1, d2, d3, d4] => { results := [.lit (.bool true)], args := [d1, d2, d3, d4] }
  | _ => none }
def fnExactDirectSumRow : OpenClaim := { program := "ythcodiknghfmmaa", sum := "2cad78d390ef501f860f7eb245638fd26ca18e2268b4a2a3731664ee814c26b0", func := "loop.example/g01411/laws.FnExactDirectSum", spec := "fnExactDirectSum", apart := false }
def FnExactDirectSumSaid : Prop := fnExactDirectSumRow.holds Try.pinned (OpenSpec.ofChange fnExactDirectSumSpec)

/-- ITS FALSE NEIGHBOUR: 'it returns false'. Refute it at one input. -/
def fnExactDirectSumWrong : ChangeSpec := { name := "fnExactDirectSum", fn := fun _ => fun
  | [d1, d2, d3, d4] => { results := [.lit (.bool false)], args := [d1, d2, d3, d4] }
  | _ => none }
def FnExactDirectSumWrongFalsely : Prop := fnExactDirectSumRow.holds Try.pinned (OpenSpec.ofChange fnExactDirectSumWrong)

/-- 'laws.FnExactCodesInCommon': WHATEVER THE INPUT: true; the input reads as it did. -/
def fnExactCodesInCommonSpec : ChangeSpec := { name := "fnExactCodesInCommon", fn := fun _ => fun
  | [d1, d2, d3] => { results := [.lit (.bool true)], args := [d1, d2, d3] }
  | _ => none }
def fnExactCodesInCommonRow : OpenClaim := { program := "ythcodiknghfmmaa", sum := "2cad78d390ef501f860f7eb245638fd26ca18e2268b4a2a3731664ee814c26b0", func := "loop.example/g01411/laws.FnExactCodesInCommon", spec := "fnExactCodesInCommon", unfollowed := true, recurses := true, apart := false }
def FnExactCodesInCommonSaid : Prop := fnExactCodesInCommonRow.holds Try.pinned (OpenSpec.ofChange fnExactCodesInCommonSpec)

/-- ITS FALSE NEIGHBOUR: 'it returns false'. Refute it at one input. -/
def fnExactCodesInCommonWrong : ChangeSpec := { name := "fnExactCodesInCommon", fn := fun _ => fun
  | [d1, d2, d3] => { results := [.lit (.bool false)], args := [d1, d2, d3] }
  | _ => none }
def FnExactCodesInCommonWrongFalsely : Prop := fnExactCodesInCommonRow.holds Try.pinned (OpenSpec.ofChange fnExactCodesInCommonWrong)

/-- 'laws.FnExactLeanCode': WHATEVER THE INPUT: true; the input reads as it did. -/
def fnExactLeanCodeSpec : ChangeSpec := { name := "fnExactLeanCode", fn := fun _ => fun
  | [d1, d2, d3] => { results := [.lit (.bool true)], args := [d1, d2, d3] }
  | _ => none }
def fnExactLeanCodeRow : OpenClaim := { program := "ythcodiknghfmmaa", sum := "2cad78d390ef501f860f7eb245638fd26ca18e2268b4a2a3731664ee814c26b0", func := "loop.example/g01411/laws.FnExactLeanCode", spec := "fnExactLeanCode", apart := false }
def FnExactLeanCodeSaid : Prop := fnExactLeanCodeRow.holds Try.pinned (OpenSpec.ofChange fnExactLeanCodeSpec)

/-- ITS FALSE NEIGHBOUR: 'it returns false'. Refute it at one input. -/
def fnExactLeanCodeWrong : ChangeSpec := { name := "fnExactLeanCode", fn := fun _ => fun
  | [d1, d2, d3] => { results := [.lit (.bool false)], args := [d1, d2, d3] }
  | _ => none }
def FnExactLeanCodeWrongFalsely : Prop := fnExactLeanCodeRow.holds Try.pinned (OpenSpec.ofChange fnExactLeanCodeWrong)

/-- 'laws.FnExactNeededWords': WHATEVER THE INPUT: true; the input reads as it did. -/
def fnExactNeededWordsSpec : ChangeSpec := { name := "fnExactNeededWords", fn := fun _ => fun
  | [d1, d2, d3] => { results := [.lit (.bool true)], args := [d1, d2, d3] }
  | _ => none }
def fnExactNeededWordsRow : OpenClaim := { program := "ythcodiknghfmmaa", sum := "2cad78d390ef501f860f7eb245638fd26ca18e2268b4a2a3731664ee814c26b0", func := "loop.example/g01411/laws.FnExactNeededWords", spec := "fnExactNeededWords", unfollowed := true, recurses := true, apart := false }
def FnExactNeededWordsSaid : Prop := fnExactNeededWordsRow.holds Try.pinned (OpenSpec.ofChange fnExactNeededWordsSpec)

/-- ITS FALSE NEIGHBOUR: 'it returns false'. Refute it at one input. -/
def fnExactNeededWordsWrong : ChangeSpec := { name := "fnExactNeededWords", fn := fun _ => fun
  | [d1, d2, d3] => { results := [.lit (.bool false)], args := [d1, d2, d3] }
  | _ => none }
def FnExactNeededWordsWrongFalsely : Prop := fnExactNeededWordsRow.holds Try.pinned (OpenSpec.ofChange fnExactNeededWordsWrong)

/-- 'laws.FnExactCodeText': WHATEVER THE INPUT: true; the input reads as it did. -/
def fnExactCodeTextSpec : ChangeSpec := { name := "fnExactCodeText", fn := fun _ => fun
  | [d1, d2] => { results := [.lit (.bool true)], args := [d1, d2] }
  | _ => none }
def fnExactCodeTextRow : OpenClaim := { program := "ythcodiknghfmmaa", sum := "2cad78d390ef501f860f7eb245638fd26ca18e2268b4a2a3731664ee814c26b0", func := "loop.example/g01411/laws.FnExactCodeText", spec := "fnExactCodeText", inPlace := ["internal/abi.NoEscape", "internal/bytealg.MakeNoZero"], recurses := true, apart := false }
def FnExactCodeTextSaid : Prop := fnExactCodeTextRow.holds Try.pinned (OpenSpec.ofChange fnExactCodeTextSpec)

/-- ITS FALSE NEIGHBOUR: 'it returns false'. Refute it at one input. -/
def fnExactCodeTextWrong : ChangeSpec := { name := "fnExactCodeText", fn := fun _ => fun
  | [d1, d2] => { results := [.lit (.bool false)], args := [d1, d2] }
  | _ => none }
def FnExactCodeTextWrongFalsely : Prop := fnExactCodeTextRow.holds Try.pinned (OpenSpec.ofChange fnExactCodeTextWrong)

/- THE SECOND FORM. 'bulk': how many values and letters a reading holds, each counted each time it is reached (what is shared counts as often as it is met; a slice's spare places count too). A statement '..UptoSaid' is the law's where the arguments, and the package variables that the reading takes, are together of bulk at most 1048576: NARROWER than '..Said'. Prove '..Said' where nothing that the law and all that it calls make is longer than what came in: it says more and counts as full. Else prove '..UptoSaid'. A law counts once. -/
mutual
def uptoBulk {H : Type} : DataW H → Nat
  | .lit (.string bytes) => bytes.length + 1
  | .lit _ => 1
  | .nil => 1
  | .ptr d => uptoBulk d + 1
  | .slice elems spare => uptoBulkAll elems + uptoBulkAll spare + 1
  | .agg parts => uptoBulkAll parts + 1
  | .iface _ d => uptoBulk d + 1
  | .map entries => uptoBulkEntries entries + 1
  | .held _ => 1
def uptoBulkAll {H : Type} : List (DataW H) → Nat
  | [] => 0
  | d :: r => uptoBulk d + uptoBulkAll r
def uptoBulkEntries {H : Type} : List (Lit × DataW H) → Nat
  | [] => 0
  | x :: r => uptoBulkEntry x + uptoBulkEntries r
def uptoBulkEntry {H : Type} : Lit × DataW H → Nat
  | (.string bytes, d) => bytes.length + uptoBulk d + 1
  | (_, d) => uptoBulk d + 1
 end
def uptoSmall : (H : Type) → List (DataW H) → Bool := fun _ ds => decide (uptoBulkAll ds ≤ 1048576)
def OpenSpec.upto (s : _root_.Go.ChangeSpec) : _root_.Go.OpenSpec := { _root_.Go.OpenSpec.ofChange s with cond := some uptoSmall }

/-- 'laws.FnExactFreeCode', WHERE WHAT IT READS IS OF BULK AT MOST 1048576: true; the input reads as it did. -/
def fnExactFreeCodeUptoRow : OpenClaim := { program := "ythcodiknghfmmaa", sum := "2cad78d390ef501f860f7eb245638fd26ca18e2268b4a2a3731664ee814c26b0", func := "loop.example/g01411/laws.FnExactFreeCode", spec := "fnExactFreeCode", unfollowed := true, recurses := true, apart := false, narrowed := true }
def FnExactFreeCodeUptoSaid : Prop := fnExactFreeCodeUptoRow.holds Try.pinned (OpenSpec.upto fnExactFreeCodeSpec)

/-- 'laws.FnExactDirectSum', WHERE WHAT IT READS IS OF BULK AT MOST 1048576: true; the input reads as it did. -/
def fnExactDirectSumUptoRow : OpenClaim := { program := "ythcodiknghfmmaa", sum := "2cad78d390ef501f860f7eb245638fd26ca18e2268b4a2a3731664ee814c26b0", func := "loop.example/g01411/laws.FnExactDirectSum", spec := "fnExactDirectSum", apart := false, narrowed := true }
def FnExactDirectSumUptoSaid : Prop := fnExactDirectSumUptoRow.holds Try.pinned (OpenSpec.upto fnExactDirectSumSpec)

/-- 'laws.FnExactCodesInCommon', WHERE WHAT IT READS IS OF BULK AT MOST 1048576: true; the input reads as it did. -/
def fnExactCodesInCommonUptoRow : OpenClaim := { program := "ythcodiknghfmmaa", sum := "2cad78d390ef501f860f7eb245638fd26ca18e2268b4a2a3731664ee814c26b0", func := "loop.example/g01411/laws.FnExactCodesInCommon", spec := "fnExactCodesInCommon", unfollowed := true, recurses := true, apart := false, narrowed := true }
def FnExactCodesInCommonUptoSaid : Prop := fnExactCodesInCommonUptoRow.holds Try.pinned (OpenSpec.upto fnExactCodesInCommonSpec)

/-- 'laws.FnExactLeanCode', WHERE WHAT IT READS IS OF BULK AT MOST 1048576: true; the input reads as it did. -/
def fnExactLeanCodeUptoRow : OpenClaim := { program := "ythcodiknghfmmaa", sum := "2cad78d390ef501f860f7eb245638fd26ca18e2268b4a2a3731664ee814c26b0", func := "loop.example/g01411/laws.FnExactLeanCode", spec := "fnExactLeanCode", apart := false, narrowed := true }
def FnExactLeanCodeUptoSaid : Prop := fnExactLeanCodeUptoRow.holds Try.pinned (OpenSpec.upto fnExactLeanCodeSpec)

/-- 'laws.FnExactNeededWords', WHERE WHAT IT READS IS OF BULK AT MOST 1048576: true; the input reads as it did. -/
def fnExactNeededWordsUptoRow : OpenClaim := { program := "ythcodiknghfmmaa", sum := "2cad78d390ef501f860f7eb245638fd26ca18e2268b4a2a3731664ee814c26b0", func := "loop.example/g01411/laws.FnExactNeededWords", spec := "fnExactNeededWords", unfollowed := true, recurses := true, apart := false, narrowed := true }
def FnExactNeededWordsUptoSaid : Prop := fnExactNeededWordsUptoRow.holds Try.pinned (OpenSpec.upto fnExactNeededWordsSpec)

/-- 'laws.FnExactCodeText', WHERE WHAT IT READS IS OF BULK AT MOST 1048576: true; the input reads as it did. -/
def fnExactCodeTextUptoRow : OpenClaim := { program := "ythcodiknghfmmaa", sum := "2cad78d390ef501f860f7eb245638fd26ca18e2268b4a2a3731664ee814c26b0", func := "loop.example/g01411/laws.FnExactCodeText", spec := "fnExactCodeText", inPlace := ["internal/abi.NoEscape", "internal/bytealg.MakeNoZero"], recurses := true, apart := false, narrowed := true }
def FnExactCodeTextUptoSaid : Prop := fnExactCodeTextUptoRow.holds Try.pinned (OpenSpec.upto fnExactCodeTextSpec)

end Rows
end Go.Proofs.Ythcodiknghfmmaa
