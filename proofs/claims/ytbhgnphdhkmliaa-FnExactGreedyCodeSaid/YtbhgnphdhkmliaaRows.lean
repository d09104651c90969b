/-
  No cell of these rows narrows 'for every input' (looked for: loops, veiled, ifaces, maps, wideKeys, modest, calm, conditions, laid).
  DERIVED. THE GIVEN ROWS OF THIS SEAT. 6 by the template 'for every input the law returns true; each argument reads behind the call as it read before'; 0 by the template 'total and deterministic' (their statements: YtbhgnphdhkmliaaTotals.lean).
  GIVEN WITH THE SEED: the statements are not yours to turn. If you find one false, say at which input.
  Laid BY PROGRAM, IN A SANDBOX (cutbox-rows.mjs): the forced cells as the released guide's own fill.sh prints them over the translation b89160e18982b6aa… (all of the seat's roots in one cut). By AI agents, Wed Nov 11 2026. No macro, syntax, notation, axiom, sorry.
-/
import Derived.Test.YtbhgnphdhkmliaaChecked
import GoSem.Claim
import GoSem.ClaimJoined
import GoSem.ClaimMapViews
import Derived.JoinedTies
import Derived.KernelRfl
namespace Go.Proofs.Ytbhgnphdhkmliaa
/- THE CELL 'sum', in the pinned program and in every row, IS THE sha256 OF THE DUMP (.gsa) THAT YtbhgnphdhkmliaaProg.lean LOADS. Nothing in Lean hashes anything: it is a label: what it is worth is what the hold of that sum in a sandbox is worth. -/
noncomputable def Try.pinned : Pinned := { name := "ytbhgnphdhkmliaa", sum := "b89160e18982b6aa0e81567b2551c27ff928b01c32b58b737a7bdebfaa2cf02f", checked := Try.checked }
namespace Rows
def none {H : Type} : Left H := { results := [], args := [] }

/-- 'laws.FnExactDirectSum': WHATEVER THE INPUT: true; the input reads as it did. -/
def fnExactDirectSumSpec : ChangeSpec := { name := "fnExactDirectSum", fn := fun _ => fun
  | [d1, d2, d3, d4] => { results := [.lit (.bool true)], args := [d1, d2, d3, d4] }
  | _ => none }
def fnExactDirectSumRow : OpenClaim := { program := "ytbhgnphdhkmliaa", sum := "b89160e18982b6aa0e81567b2551c27ff928b01c32b58b737a7bdebfaa2cf02f", func := "loop.example/g01411/laws.FnExactDirectSum", spec := "fnExactDirectSum", apart := false }
def FnExactDirectSumSaid : Prop := fnExactDirectSumRow.holds Try.pinned (OpenSpec.ofChange fnExactDirectSumSpec)

/-- ITS FALSE NEIGHBOUR: 'it returns false'. Refute it at one input. -/
def fnExactDirectSumWrong : ChangeSpec := { name := "fnExactDirectSum", fn := fun _ => fun
  | [d1, d2, d3, d4] => { results := [.lit (.bool false)], args := [d1, d2, d3, d4] }
  | _ => none }
def FnExactDirectSumWrongFalsely : Prop := fnExactDirectSumRow.holds Try.pinned (OpenSpec.ofChange fnExactDirectSumWrong)

/-- 'laws.FnExactAddSumPlace': WHATEVER THE INPUT: true; the input reads as it did. -/
def fnExactAddSumPlaceSpec : ChangeSpec := { name := "fnExactAddSumPlace", fn := fun _ => fun
  | [d1, d2, d3] => { results := [.lit (.bool true)], args := [d1, d2, d3] }
  | _ => none }
def fnExactAddSumPlaceRow : OpenClaim := { program := "ytbhgnphdhkmliaa", sum := "b89160e18982b6aa0e81567b2551c27ff928b01c32b58b737a7bdebfaa2cf02f", func := "loop.example/g01411/laws.FnExactAddSumPlace", spec := "fnExactAddSumPlace", unfollowed := true, recurses := true, apart := false }
def FnExactAddSumPlaceSaid : Prop := fnExactAddSumPlaceRow.holds Try.pinned (OpenSpec.ofChange fnExactAddSumPlaceSpec)

/-- ITS FALSE NEIGHBOUR: 'it returns false'. Refute it at one input. -/
def fnExactAddSumPlaceWrong : ChangeSpec := { name := "fnExactAddSumPlace", fn := fun _ => fun
  | [d1, d2, d3] => { results := [.lit (.bool false)], args := [d1, d2, d3] }
  | _ => none }
def FnExactAddSumPlaceWrongFalsely : Prop := fnExactAddSumPlaceRow.holds Try.pinned (OpenSpec.ofChange fnExactAddSumPlaceWrong)

/-- 'laws.FnExactOrderPlaces': WHATEVER THE INPUT: true; the input reads as it did. -/
def fnExactOrderPlacesSpec : ChangeSpec := { name := "fnExactOrderPlaces", fn := fun _ => fun
  | [d1, d2, d3] => { results := [.lit (.bool true)], args := [d1, d2, d3] }
  | _ => none }
def fnExactOrderPlacesRow : OpenClaim := { program := "ytbhgnphdhkmliaa", sum := "b89160e18982b6aa0e81567b2551c27ff928b01c32b58b737a7bdebfaa2cf02f", func := "loop.example/g01411/laws.FnExactOrderPlaces", spec := "fnExactOrderPlaces", unfollowed := true, recurses := true, apart := false }
def FnExactOrderPlacesSaid : Prop := fnExactOrderPlacesRow.holds Try.pinned (OpenSpec.ofChange fnExactOrderPlacesSpec)

/-- ITS FALSE NEIGHBOUR: 'it returns false'. Refute it at one input. -/
def fnExactOrderPlacesWrong : ChangeSpec := { name := "fnExactOrderPlaces", fn := fun _ => fun
  | [d1, d2, d3] => { results := [.lit (.bool false)], args := [d1, d2, d3] }
  | _ => none }
def FnExactOrderPlacesWrongFalsely : Prop := fnExactOrderPlacesRow.holds Try.pinned (OpenSpec.ofChange fnExactOrderPlacesWrong)

/-- 'laws.FnExactTakeOutPlace': WHATEVER THE INPUT: true; the input reads as it did. -/
def fnExactTakeOutPlaceSpec : ChangeSpec := { name := "fnExactTakeOutPlace", fn := fun _ => fun
  | [d1, d2, d3] => { results := [.lit (.bool true)], args := [d1, d2, d3] }
  | _ => none }
def fnExactTakeOutPlaceRow : OpenClaim := { program := "ytbhgnphdhkmliaa", sum := "b89160e18982b6aa0e81567b2551c27ff928b01c32b58b737a7bdebfaa2cf02f", func := "loop.example/g01411/laws.FnExactTakeOutPlace", spec := "fnExactTakeOutPlace", unfollowed := true, recurses := true, apart := false }
def FnExactTakeOutPlaceSaid : Prop := fnExactTakeOutPlaceRow.holds Try.pinned (OpenSpec.ofChange fnExactTakeOutPlaceSpec)

/-- ITS FALSE NEIGHBOUR: 'it returns false'. Refute it at one input. -/
def fnExactTakeOutPlaceWrong : ChangeSpec := { name := "fnExactTakeOutPlace", fn := fun _ => fun
  | [d1, d2, d3] => { results := [.lit (.bool false)], args := [d1, d2, d3] }
  | _ => none }
def FnExactTakeOutPlaceWrongFalsely : Prop := fnExactTakeOutPlaceRow.holds Try.pinned (OpenSpec.ofChange fnExactTakeOutPlaceWrong)

/-- 'laws.FnExactGreedyCode': WHATEVER THE INPUT: true; the input reads as it did. -/
def fnExactGreedyCodeSpec : ChangeSpec := { name := "fnExactGreedyCode", fn := fun _ => fun
  | [d1, d2] => { results := [.lit (.bool true)], args := [d1, d2] }
  | _ => none }
def fnExactGreedyCodeRow : OpenClaim := { program := "ytbhgnphdhkmliaa", sum := "b89160e18982b6aa0e81567b2551c27ff928b01c32b58b737a7bdebfaa2cf02f", func := "loop.example/g01411/laws.FnExactGreedyCode", spec := "fnExactGreedyCode", unfollowed := true, recurses := true, apart := false }
def FnExactGreedyCodeSaid : Prop := fnExactGreedyCodeRow.holds Try.pinned (OpenSpec.ofChange fnExactGreedyCodeSpec)

/-- ITS FALSE NEIGHBOUR: 'it returns false'. Refute it at one input. -/
def fnExactGreedyCodeWrong : ChangeSpec := { name := "fnExactGreedyCode", fn := fun _ => fun
  | [d1, d2] => { results := [.lit (.bool false)], args := [d1, d2] }
  | _ => none }
def FnExactGreedyCodeWrongFalsely : Prop := fnExactGreedyCodeRow.holds Try.pinned (OpenSpec.ofChange fnExactGreedyCodeWrong)

/-- 'laws.FnExactKeepSign': WHATEVER THE INPUT: true; the input reads as it did. -/
def fnExactKeepSignSpec : ChangeSpec := { name := "fnExactKeepSign", fn := fun _ => fun
  | [d1, d2, d3, d4] => { results := [.lit (.bool true)], args := [d1, d2, d3, d4] }
  | _ => none }
def fnExactKeepSignRow : OpenClaim := { program := "ytbhgnphdhkmliaa", sum := "b89160e18982b6aa0e81567b2551c27ff928b01c32b58b737a7bdebfaa2cf02f", func := "loop.example/g01411/laws.FnExactKeepSign", spec := "fnExactKeepSign", unfollowed := true, recurses := true, apart := false }
def FnExactKeepSignSaid : Prop := fnExactKeepSignRow.holds Try.pinned (OpenSpec.ofChange fnExactKeepSignSpec)

/-- ITS FALSE NEIGHBOUR: 'it returns false'. Refute it at one input. -/
def fnExactKeepSignWrong : ChangeSpec := { name := "fnExactKeepSign", fn := fun _ => fun
  | [d1, d2, d3, d4] => { results := [.lit (.bool false)], args := [d1, d2, d3, d4] }
  | _ => none }
def FnExactKeepSignWrongFalsely : Prop := fnExactKeepSignRow.holds Try.pinned (OpenSpec.ofChange fnExactKeepSignWrong)

/- THE SECOND FORM. 'bulk': how many values and letters a reading holds, each counted each time it is reached (what is shared counts as often as it is met; a slice's spare places count too). A statement '..UptoSaid' is the law's where the arguments, and the package variables that the reading takes, are together of bulk at most 1048576: NARROWER than '..Said'. Prove '..Said' where nothing that the law and all that it calls make is longer than what came in: it says more and counts as full. Else prove '..UptoSaid'. A law counts once. -/
mutual
def uptoBulk {H : Type} : DataW H → Nat
  | .lit (.string bytes) => bytes.length + 1
  | .lit _ => 1
  | .nil => 1
  | .ptr d => uptoBulk d + 1
  | .slice elems spare => uptoBulkAll elems + uptoBulkAll spare + 1
  | .agg parts => uptoBulkAll parts + 1
  | .iface _ d => uptoBulk d + 1
  | .map entries => uptoBulkEntries entries + 1
  | .held _ => 1
def uptoBulkAll {H : Type} : List (DataW H) → Nat
  | [] => 0
  | d :: r => uptoBulk d + uptoBulkAll r
def uptoBulkEntries {H : Type} : List (Lit × DataW H) → Nat
  | [] => 0
  | x :: r => uptoBulkEntry x + uptoBulkEntries r
def uptoBulkEntry {H : Type} : Lit × DataW H → Nat
  | (.string bytes, d) => bytes.length + uptoBulk d + 1
  | (_, d) => uptoBulk d + 1
 end
def uptoSmall : (H : Type) → List (DataW H) → Bool := fun _ ds => decide (uptoBulkAll ds ≤ 1048576)
def OpenSpec.upto (s : _root_.Go.ChangeSpec) : _root_.Go.OpenSpec := { _root_.Go.OpenSpec.ofChange s with cond := some uptoSmall }

/-- 'laws.FnExactDirectSum', WHERE WHAT IT READS IS OF BULK AT MOST 1048576: true; the input reads as it did. -/
def fnExactDirectSumUptoRow : OpenClaim := { program := "ytbhgnphdhkmliaa", sum := "b89160e18982b6aa0e81567b2551c27ff928b01c32b58b737a7bdebfaa2cf02f", func := "loop.example/g01411/laws.FnExactDirectSum", spec := "fnExactDirectSum", apart := false, narrowed := true }
def FnExactDirectSumUptoSaid : Prop := fnExactDirectSumUptoRow.holds Try.pinned (OpenSpec.upto fnExactDirectSumSpec)

/-- 'laws.FnExactAddSumPlace', WHERE WHAT IT READS IS OF BULK AT MOST 1048576: true; the input reads as it did. -/
def fnExactAddSumPlaceUptoRow : OpenClaim := { program := "ytbhgnphdhkmliaa", sum := "b89160e18982b6aa0e81567b2551c27ff928b01c32b58b737a7bdebfaa2cf02f", func := "loop.example/g01411/laws.FnExactAddSumPlace", spec := "fnExactAddSumPlace", unfollowed := true, recurses := true, apart := false, narrowed := true }
def FnExactAddSumPlaceUptoSaid : Prop := fnExactAddSumPlaceUptoRow.holds Try.pinned (OpenSpec.upto fnExactAddSumPlaceSpec)

/-- 'laws.FnExactOrderPlaces', WHERE WHAT IT READS IS OF BULK AT MOST 1048576: true; the input reads as it did. -/
def fnExactOrderPlacesUptoRow : OpenClaim := { program := "ytbhgnphdhkmliaa", sum := "b89160e18982b6aa0e81567b2551c27ff928b01c32b58b737a7bdebfaa2cf02f", func := "loop.example/g01411/laws.FnExactOrderPlaces", spec := "fnExactOrderPlaces", unfollowed := true, recurses := true, apart := false, narrowed := true }
def FnExactOrderPlacesUptoSaid : Prop := fnExactOrderPlacesUptoRow.holds Try.pinned (OpenSpec.upto fnExactOrderPlacesSpec)

/-- 'laws.FnExactTakeOutPlace', WHERE WHAT IT READS IS OF BULK AT MOST 1048576: true; the input reads as it did. -/
def fnExactTakeOutPlaceUptoRow : OpenClaim := { program := "ytbhgnphdhkmliaa", sum := "b89160e18982b6aa0e81567b2551c27ff928b01c32b58b737a7bdebfaa2cf02f", func := "loop.example/g01411/laws.FnExactTakeOutPlace", spec := "fnExactTakeOutPlace", unfollowed := true, recurses := true, apart := false, narrowed := true }
def FnExactTakeOutPlaceUptoSaid : Prop := fnExactTakeOutPlaceUptoRow.holds Try.pinned (OpenSpec.upto fnExactTakeOutPlaceSpec)

/-- 'laws.FnExactGreedyCode', WHERE WHAT IT READS IS OF BULK AT MOST 1048576: true; the input reads as it did. -/
def fnExactGreedyCodeUptoRow : OpenClaim := { program := "ytbhgnphdhkmliaa", sum := "b89160e18982b6aa0e81567b2551c27ff928b01c32b58b737a7bdebfaa2cf02f", func := "loop.example/g01411/laws.FnExactGreedyCode", spec := "fnExactGreedyCode", unfollowed := true, recurses := true, apart := false, narrowed := true }
def FnExactGreedyCodeUptoSaid : Prop := fnExactGreedyCodeUptoRow.holds Try.pinned (OpenSpec.upto fnExactGreedyCodeSpec)

/-- 'laws.FnExactKeepSign', WHERE WHAT IT READS IS OF BULK AT MOST 1048576: true; the input reads as it did. -/
def fnExactKeepSignUptoRow : OpenClaim := { program := "ytbhgnphdhkmliaa", sum := "b89160e18982b6aa0e81567b2551c27ff928b01c32b58b737a7bdebfaa2cf02f", func := "loop.example/g01411/laws.FnExactKeepSign", spec := "fnExactKeepSign", unfollowed := true, recurses := true, apart := false, narrowed := true }
def FnExactKeepSignUptoSaid : Prop := fnExactKeepSignUptoRow.holds Try.pinned (OpenSpec.upto fnExactKeepSignSpec)

end Rows
end Go.Proofs.Ytbhgnphdhkmliaa
