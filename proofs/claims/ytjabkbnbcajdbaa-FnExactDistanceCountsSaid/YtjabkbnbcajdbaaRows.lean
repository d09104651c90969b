/-
  No cell of these rows narrows 'for every input' (looked for: loops, veiled, ifaces, maps, wideKeys, modest, calm, conditions, laid).
  DERIVED. THE GIVEN ROWS OF THIS SEAT. 12 by the template 'for every input the law returns true; each argument reads behind the call as it read before'; 0 by the template 'total and deterministic' (their statements: YtjabkbnbcajdbaaTotals.lean).
  GIVEN WITH THE SEED: the statements are not yours to turn. If you find one false, say at which input.
  Laid BY PROGRAM, IN A SANDBOX (cutbox-rows.mjs): the forced cells as the released guide's own fill.sh prints them over the translation 288fd4d7cfbf60da… (all of the seat's roots in one cut). By AI agents, Wed Nov 11 2026. No macro, syntax, notation, axiom, sorry.
-/
import Derived.Test.YtjabkbnbcajdbaaChecked
import GoSem.Claim
import GoSem.ClaimJoined
import GoSem.ClaimMapViews
import Derived.JoinedTies
import Derived.KernelRfl
namespace Go.Proofs.Ytjabkbnbcajdbaa
/- THE CELL 'sum', in the pinned program and in every row, IS THE sha256 OF THE DUMP (.gsa) THAT YtjabkbnbcajdbaaProg.lean LOADS. Nothing in Lean hashes anything: it is a label: what it is worth is what the hold of that sum in a sandbox is worth. -/
noncomputable def Try.pinned : Pinned := { name := "ytjabkbnbcajdbaa", sum := "288fd4d7cfbf60da6bc1b0a44b18d46ba17d3ff97cfb10a9a473f892a16f3824", checked := Try.checked }
namespace Rows
def none {H : Type} : Left H := { results := [], args := [] }

/-- 'laws.FnExactChangeDigit': WHATEVER THE INPUT: true; the input reads as it did. -/
def fnExactChangeDigitSpec : ChangeSpec := { name := "fnExactChangeDigit", fn := fun _ => fun
  | [d1, d2, d3, d4] => { results := [.lit (.bool true)], args := [d1, d2, d3, d4] }
  | _ => none }
def fnExactChangeDigitRow : OpenClaim := { program := "ytjabkbnbcajdbaa", sum := "288fd4d7cfbf60da6bc1b0a44b18d46ba17d3ff97cfb10a9a473f892a16f3824", func := "loop.example/g01411/laws.FnExactChangeDigit", spec := "fnExactChangeDigit", apart := false }
def FnExactChangeDigitSaid : Prop := fnExactChangeDigitRow.holds Try.pinned (OpenSpec.ofChange fnExactChangeDigitSpec)

/-- ITS FALSE NEIGHBOUR: 'it returns false'. Refute it at one input. -/
def fnExactChangeDigitWrong : ChangeSpec := { name := "fnExactChangeDigit", fn := fun _ => fun
  | [d1, d2, d3, d4] => { results := [.lit (.bool false)], args := [d1, d2, d3, d4] }
  | _ => none }
def FnExactChangeDigitWrongFalsely : Prop := fnExactChangeDigitRow.holds Try.pinned (OpenSpec.ofChange fnExactChangeDigitWrong)

/-- 'laws.FnExactSumOfWords': WHATEVER THE INPUT: true; the input reads as it did. -/
def fnExactSumOfWordsSpec : ChangeSpec := { name := "fnExactSumOfWords", fn := fun _ => fun
  | [d1, d2, d3] => { results := [.lit (.bool true)], args := [d1, d2, d3] }
  | _ => none }
def fnExactSumOfWordsRow : OpenClaim := { program := "ytjabkbnbcajdbaa", sum := "288fd4d7cfbf60da6bc1b0a44b18d46ba17d3ff97cfb10a9a473f892a16f3824", func := "loop.example/g01411/laws.FnExactSumOfWords", spec := "fnExactSumOfWords", apart := false }
def FnExactSumOfWordsSaid : Prop := fnExactSumOfWordsRow.holds Try.pinned (OpenSpec.ofChange fnExactSumOfWordsSpec)

/-- ITS FALSE NEIGHBOUR: 'it returns false'. Refute it at one input. -/
def fnExactSumOfWordsWrong : ChangeSpec := { name := "fnExactSumOfWords", fn := fun _ => fun
  | [d1, d2, d3] => { results := [.lit (.bool false)], args := [d1, d2, d3] }
  | _ => none }
def FnExactSumOfWordsWrongFalsely : Prop := fnExactSumOfWordsRow.holds Try.pinned (OpenSpec.ofChange fnExactSumOfWordsWrong)

/-- 'laws.FnExactFreeCode': WHATEVER THE INPUT: true; the input reads as it did. -/
def fnExactFreeCodeSpec : ChangeSpec := { name := "fnExactFreeCode", fn := fun _ => fun
  | [d1, d2] => { results := [.lit (.bool true)], args := [d1, d2] }
  | _ => none }
def fnExactFreeCodeRow : OpenClaim := { program := "ytjabkbnbcajdbaa", sum := "288fd4d7cfbf60da6bc1b0a44b18d46ba17d3ff97cfb10a9a473f892a16f3824", func := "loop.example/g01411/laws.FnExactFreeCode", spec := "fnExactFreeCode", unfollowed := true, recurses := true, apart := false }
def FnExactFreeCodeSaid : Prop := fnExactFreeCodeRow.holds Try.pinned (OpenSpec.ofChange fnExactFreeCodeSpec)

/-- ITS FALSE NEIGHBOUR: 'it returns false'. Refute it at one input. -/
def fnExactFreeCodeWrong : ChangeSpec := { name := "fnExactFreeCode", fn := fun _ => fun
  | [d1, d2] => { results := [.lit (.bool false)], args := [d1, d2] }
  | _ => none }
def FnExactFreeCodeWrongFalsely : Prop := fnExactFreeCodeRow.holds Try.pinned (OpenSpec.ofChange fnExactFreeCodeWrong)

/-- 'laws.FnExactBallBound': WHATEVER THE INPUT: true; the input reads as it did. -/
def fnExactBallBoundSpec : ChangeSpec := { name := "fnExactBallBound", fn := fun _ => fun
  | [d1, d2] => { results := [.lit (.bool true)], args := [d1, d2] }
  | _ => none }
def fnExactBallBoundRow : OpenClaim := { program := "ytjabkbnbcajdbaa", sum := "288fd4d7cfbf60da6bc1b0a44b18d46ba17d3ff97cfb10a9a473f892a16f3824", func := "loop.example/g01411/laws.FnExactBallBound", spec := "fnExactBallBound", unfollowed := true, recurses := true, apart := false }
def FnExactBallBoundSaid : Prop := fnExactBallBoundRow.holds Try.pinned (OpenSpec.ofChange fnExactBallBoundSpec)

/-- ITS FALSE NEIGHBOUR: 'it returns false'. Refute it at one input. -/
def fnExactBallBoundWrong : ChangeSpec := { name := "fnExactBallBound", fn := fun _ => fun
  | [d1, d2] => { results := [.lit (.bool false)], args := [d1, d2] }
  | _ => none }
def FnExactBallBoundWrongFalsely : Prop := fnExactBallBoundRow.holds Try.pinned (OpenSpec.ofChange fnExactBallBoundWrong)

/-- 'laws.FnExactOppositeCode': WHATEVER THE INPUT: true; the input reads as it did. -/
def fnExactOppositeCodeSpec : ChangeSpec := { name := "fnExactOppositeCode", fn := fun _ => fun
  | [d1, d2] => { results := [.lit (.bool true)], args := [d1, d2] }
  | _ => none }
def fnExactOppositeCodeRow : OpenClaim := { program := "ytjabkbnbcajdbaa", sum := "288fd4d7cfbf60da6bc1b0a44b18d46ba17d3ff97cfb10a9a473f892a16f3824", func := "loop.example/g01411/laws.FnExactOppositeCode", spec := "fnExactOppositeCode", apart := false }
def FnExactOppositeCodeSaid : Prop := fnExactOppositeCodeRow.holds Try.pinned (OpenSpec.ofChange fnExactOppositeCodeSpec)

/-- ITS FALSE NEIGHBOUR: 'it returns false'. Refute it at one input. -/
def fnExactOppositeCodeWrong : ChangeSpec := { name := "fnExactOppositeCode", fn := fun _ => fun
  | [d1, d2] => { results := [.lit (.bool false)], args := [d1, d2] }
  | _ => none }
def FnExactOppositeCodeWrongFalsely : Prop := fnExactOppositeCodeRow.holds Try.pinned (OpenSpec.ofChange fnExactOppositeCodeWrong)

/-- 'laws.FnExactBallSize': WHATEVER THE INPUT: true; the input reads as it did. -/
def fnExactBallSizeSpec : ChangeSpec := { name := "fnExactBallSize", fn := fun _ => fun
  | [d1, d2] => { results := [.lit (.bool true)], args := [d1, d2] }
  | _ => none }
def fnExactBallSizeRow : OpenClaim := { program := "ytjabkbnbcajdbaa", sum := "288fd4d7cfbf60da6bc1b0a44b18d46ba17d3ff97cfb10a9a473f892a16f3824", func := "loop.example/g01411/laws.FnExactBallSize", spec := "fnExactBallSize", unfollowed := true, recurses := true, apart := false }
def FnExactBallSizeSaid : Prop := fnExactBallSizeRow.holds Try.pinned (OpenSpec.ofChange fnExactBallSizeSpec)

/-- ITS FALSE NEIGHBOUR: 'it returns false'. Refute it at one input. -/
def fnExactBallSizeWrong : ChangeSpec := { name := "fnExactBallSize", fn := fun _ => fun
  | [d1, d2] => { results := [.lit (.bool false)], args := [d1, d2] }
  | _ => none }
def FnExactBallSizeWrongFalsely : Prop := fnExactBallSizeRow.holds Try.pinned (OpenSpec.ofChange fnExactBallSizeWrong)

/-- 'laws.FnExactLeastDistance': WHATEVER THE INPUT: true; the input reads as it did. -/
def fnExactLeastDistanceSpec : ChangeSpec := { name := "fnExactLeastDistance", fn := fun _ => fun
  | [d1, d2] => { results := [.lit (.bool true)], args := [d1, d2] }
  | _ => none }
def fnExactLeastDistanceRow : OpenClaim := { program := "ytjabkbnbcajdbaa", sum := "288fd4d7cfbf60da6bc1b0a44b18d46ba17d3ff97cfb10a9a473f892a16f3824", func := "loop.example/g01411/laws.FnExactLeastDistance", spec := "fnExactLeastDistance", apart := false }
def FnExactLeastDistanceSaid : Prop := fnExactLeastDistanceRow.holds Try.pinned (OpenSpec.ofChange fnExactLeastDistanceSpec)

/-- ITS FALSE NEIGHBOUR: 'it returns false'. Refute it at one input. -/
def fnExactLeastDistanceWrong : ChangeSpec := { name := "fnExactLeastDistance", fn := fun _ => fun
  | [d1, d2] => { results := [.lit (.bool false)], args := [d1, d2] }
  | _ => none }
def FnExactLeastDistanceWrongFalsely : Prop := fnExactLeastDistanceRow.holds Try.pinned (OpenSpec.ofChange fnExactLeastDistanceWrong)

/-- 'laws.FnExactSphereOf': WHATEVER THE INPUT: true; the input reads as it did. -/
def fnExactSphereOfSpec : ChangeSpec := { name := "fnExactSphereOf", fn := fun _ => fun
  | [d1, d2, d3] => { results := [.lit (.bool true)], args := [d1, d2, d3] }
  | _ => none }
def fnExactSphereOfRow : OpenClaim := { program := "ytjabkbnbcajdbaa", sum := "288fd4d7cfbf60da6bc1b0a44b18d46ba17d3ff97cfb10a9a473f892a16f3824", func := "loop.example/g01411/laws.FnExactSphereOf", spec := "fnExactSphereOf", unfollowed := true, recurses := true, apart := false }
def FnExactSphereOfSaid : Prop := fnExactSphereOfRow.holds Try.pinned (OpenSpec.ofChange fnExactSphereOfSpec)

/-- ITS FALSE NEIGHBOUR: 'it returns false'. Refute it at one input. -/
def fnExactSphereOfWrong : ChangeSpec := { name := "fnExactSphereOf", fn := fun _ => fun
  | [d1, d2, d3] => { results := [.lit (.bool false)], args := [d1, d2, d3] }
  | _ => none }
def FnExactSphereOfWrongFalsely : Prop := fnExactSphereOfRow.holds Try.pinned (OpenSpec.ofChange fnExactSphereOfWrong)

/-- 'laws.FnExactDistanceCounts': WHATEVER THE INPUT: true; the input reads as it did. -/
def fnExactDistanceCountsSpec : ChangeSpec := { name := "fnExactDistanceCounts", fn := fun _ => fun
  | [d1, d2] => { results := [.lit (.bool true)], args := [d1, d2] }
  | _ => none }
def fnExactDistanceCountsRow : OpenClaim := { program := "ytjabkbnbcajdbaa", sum := "288fd4d7cfbf60da6bc1b0a44b18d46ba17d3ff97cfb10a9a473f892a16f3824", func := "loop.example/g01411/laws.FnExactDistanceCounts", spec := "fnExactDistanceCounts", apart := false }
def FnExactDistanceCountsSaid : Prop := fnExactDistanceCountsRow.holds Try.pinned (OpenSpec.ofChange fnExactDistanceCountsSpec)

/-- ITS FALSE NEIGHBOUR: 'it returns false'. Refute it at one input. -/
def fnExactDistanceCountsWrong : ChangeSpec := { name := "fnExactDistanceCounts", fn := fun _ => fun
  | [d1, d2] => { results := [.lit (.bool false)], args := [d1, d2] }
  | _ => none }
def FnExactDistanceCountsWrongFalsely : Prop := fnExactDistanceCountsRow.holds Try.pinned (OpenSpec.ofChange fnExactDistanceCountsWrong)

/-- 'laws.FnExactBallOf': WHATEVER THE INPUT: true; the input reads as it did. -/
def fnExactBallOfSpec : ChangeSpec := { name := "fnExactBallOf", fn := fun _ => fun
  | [d1, d2, d3] => { results := [.lit (.bool true)], args := [d1, d2, d3] }
  | _ => none }
def fnExactBallOfRow : OpenClaim := { program := "ytjabkbnbcajdbaa", sum := "288fd4d7cfbf60da6bc1b0a44b18d46ba17d3ff97cfb10a9a473f892a16f3824", func := "loop.example/g01411/laws.FnExactBallOf", spec := "fnExactBallOf", unfollowed := true, recurses := true, apart := false }
def FnExactBallOfSaid : Prop := fnExactBallOfRow.holds Try.pinned (OpenSpec.ofChange fnExactBallOfSpec)

/-- ITS FALSE NEIGHBOUR: 'it returns false'. Refute it at one input. -/
def fnExactBallOfWrong : ChangeSpec := { name := "fnExactBallOf", fn := fun _ => fun
  | [d1, d2, d3] => { results := [.lit (.bool false)], args := [d1, d2, d3] }
  | _ => none }
def FnExactBallOfWrongFalsely : Prop := fnExactBallOfRow.holds Try.pinned (OpenSpec.ofChange fnExactBallOfWrong)

/-- 'laws.FnExactDirectSum': WHATEVER THE INPUT: true; the input reads as it did. -/
def fnExactDirectSumSpec : ChangeSpec := { name := "fnExactDirectSum", fn := fun _ => fun
  | [d1, d2, d3, d4] => { results := [.lit (.bool true)], args := [d1, d2, d3, d4] }
  | _ => none }
def fnExactDirectSumRow : OpenClaim := { program := "ytjabkbnbcajdbaa", sum := "288fd4d7cfbf60da6bc1b0a44b18d46ba17d3ff97cfb10a9a473f892a16f3824", func := "loop.example/g01411/laws.FnExactDirectSum", spec := "fnExactDirectSum", apart := false }
def FnExactDirectSumSaid : Prop := fnExactDirectSumRow.holds Try.pinned (OpenSpec.ofChange fnExactDirectSumSpec)

/-- ITS FALSE NEIGHBOUR: 'it returns false'. Refute it at one input. -/
def fnExactDirectSumWrong : ChangeSpec := { name := "fnExactDirectSum", fn := fun _ => fun
  | [d1, d2, d3, d4] => { results := [.lit (.bool false)], args := [d1, d2, d3, d4] }
  | _ => none }
def FnExactDirectSumWrongFalsely : Prop := fnExactDirectSumRow.holds Try.pinned (OpenSpec.ofChange fnExactDirectSumWrong)

/-- 'laws.FnExactNearestWords': WHATEVER THE INPUT: true; the input reads as it did. -/
def fnExactNearestWordsSpec : ChangeSpec := { name := "fnExactNearestWords", fn := fun _ => fun
  | [d1, d2, d3] => { results := [.lit (.bool true)], args := [d1, d2, d3] }
  | _ => none }
def fnExactNearestWordsRow : OpenClaim := { program := "ytjabkbnbcajdbaa", sum := "288fd4d7cfbf60da6bc1b0a44b18d46ba17d3ff97cfb10a9a473f892a16f3824", func := "loop.example/g01411/laws.FnExactNearestWords", spec := "fnExactNearestWords", apart := false }
def FnExactNearestWordsSaid : Prop := fnExactNearestWordsRow.holds Try.pinned (OpenSpec.ofChange fnExactNearestWordsSpec)

/-- ITS FALSE NEIGHBOUR: 'it returns false'. Refute it at one input. -/
def fnExactNearestWordsWrong : ChangeSpec := { name := "fnExactNearestWords", fn := fun _ => fun
  | [d1, d2, d3] => { results := [.lit (.bool false)], args := [d1, d2, d3] }
  | _ => none }
def FnExactNearestWordsWrongFalsely : Prop := fnExactNearestWordsRow.holds Try.pinned (OpenSpec.ofChange fnExactNearestWordsWrong)

/- THE SECOND FORM. 'bulk': how many values and letters a reading holds, each counted each time it is reached (what is shared counts as often as it is met; a slice's spare places count too). A statement '..UptoSaid' is the law's where the arguments, and the package variables that the reading takes, are together of bulk at most 1048576: NARROWER than '..Said'. Prove '..Said' where nothing that the law and all that it calls make is longer than what came in: it says more and counts as full. Else prove '..UptoSaid'. A law counts once. -/
mutual
def uptoBulk {H : Type} : DataW H → Nat
  | .lit (.string bytes) => bytes.length + 1
  | .lit _ => 1
  | .nil => 1
  | .ptr d => uptoBulk d + 1
  | .slice elems spare => uptoBulkAll elems + uptoBulkAll spare + 1
  | .agg parts => uptoBulkAll parts + 1
  | .iface _ d => uptoBulk d + 1
  | .map entries => uptoBulkEntries entries + 1
  | .held _ => 1
def uptoBulkAll {H : Type} : List (DataW H) → Nat
  | [] => 0
  | d :: r => uptoBulk d + uptoBulkAll r
def uptoBulkEntries {H : Type} : List (Lit × DataW H) → Nat
  | [] => 0
  | x :: r => uptoBulkEntry x + uptoBulkEntries r
def uptoBulkEntry {H : Type} : Lit × DataW H → Nat
  | (.string bytes, d) => bytes.length + uptoBulk d + 1
  | (_, d) => uptoBulk d + 1
 end
def uptoSmall : (H : Type) → List (DataW H) → Bool := fun _ ds => decide (uptoBulkAll ds ≤ 1048576)
def OpenSpec.upto (s : _root_.Go.ChangeSpec) : _root_.Go.OpenSpec := { _root_.Go.OpenSpec.ofChange s with cond := some uptoSmall }

/-- 'laws.FnExactChangeDigit', WHERE WHAT IT READS IS OF BULK AT MOST 1048576: true; the input reads as it did. -/
def fnExactChangeDigitUptoRow : OpenClaim := { program := "ytjabkbnbcajdbaa", sum := "288fd4d7cfbf60da6bc1b0a44b18d46ba17d3ff97cfb10a9a473f892a16f3824", func := "loop.example/g01411/laws.FnExactChangeDigit", spec := "fnExactChangeDigit", apart := false, narrowed := true }
def FnExactChangeDigitUptoSaid : Prop := fnExactChangeDigitUptoRow.holds Try.pinned (OpenSpec.upto fnExactChangeDigitSpec)

/-- 'laws.FnExactSumOfWords', WHERE WHAT IT READS IS OF BULK AT MOST 1048576: true; the input reads as it did. -/
def fnExactSumOfWordsUptoRow : OpenClaim := { program := "ytjabkbnbcajdbaa", sum := "288fd4d7cfbf60da6bc1b0a44b18d46ba17d3ff97cfb10a9a473f892a16f3824", func := "loop.example/g01411/laws.FnExactSumOfWords", spec := "fnExactSumOfWords", apart := false, narrowed := true }
def FnExactSumOfWordsUptoSaid : Prop := fnExactSumOfWordsUptoRow.holds Try.pinned (OpenSpec.upto fnExactSumOfWordsSpec)

/-- 'laws.FnExactFreeCode', WHERE WHAT IT READS IS OF BULK AT MOST 1048576: true; the input reads as it did. -/
def fnExactFreeCodeUptoRow : OpenClaim := { program := "ytjabkbnbcajdbaa", sum := "288fd4d7cfbf60da6bc1b0a44b18d46ba17d3ff97cfb10a9a473f892a16f3824", func := "loop.example/g01411/laws.FnExactFreeCode", spec := "fnExactFreeCode", unfollowed := true, recurses := true, apart := false, narrowed := true }
def FnExactFreeCodeUptoSaid : Prop := fnExactFreeCodeUptoRow.holds Try.pinned (OpenSpec.upto fnExactFreeCodeSpec)

/-- 'laws.FnExactBallBound', WHERE WHAT IT READS IS OF BULK AT MOST 1048576: true; the input reads as it did. -/
def fnExactBallBoundUptoRow : OpenClaim := { program := "ytjabkbnbcajdbaa", sum := "288fd4d7cfbf60da6bc1b0a44b18d46ba17d3ff97cfb10a9a473f892a16f3824", func := "loop.example/g01411/laws.FnExactBallBound", spec := "fnExactBallBound", unfollowed := true, recurses := true, apart := false, narrowed := true }
def FnExactBallBoundUptoSaid : Prop := fnExactBallBoundUptoRow.holds Try.pinned (OpenSpec.upto fnExactBallBoundSpec)

/-- 'laws.FnExactOppositeCode', WHERE WHAT IT READS IS OF BULK AT MOST 1048576: true; the input reads as it did. -/
def fnExactOppositeCodeUptoRow : OpenClaim := { program := "ytjabkbnbcajdbaa", sum := "288fd4d7cfbf60da6bc1b0a44b18d46ba17d3ff97cfb10a9a473f892a16f3824", func := "loop.example/g01411/laws.FnExactOppositeCode", spec := "fnExactOppositeCode", apart := false, narrowed := true }
def FnExactOppositeCodeUptoSaid : Prop := fnExactOppositeCodeUptoRow.holds Try.pinned (OpenSpec.upto fnExactOppositeCodeSpec)

/-- 'laws.FnExactBallSize', WHERE WHAT IT READS IS OF BULK AT MOST 1048576: true; the input reads as it did. -/
def fnExactBallSizeUptoRow : OpenClaim := { program := "ytjabkbnbcajdbaa", sum := "288fd4d7cfbf60da6bc1b0a44b18d46ba17d3ff97cfb10a9a473f892a16f3824", func := "loop.example/g01411/laws.FnExactBallSize", spec := "fnExactBallSize", unfollowed := true, recurses := true, apart := false, narrowed := true }
def FnExactBallSizeUptoSaid : Prop := fnExactBallSizeUptoRow.holds Try.pinned (OpenSpec.upto fnExactBallSizeSpec)

/-- 'laws.FnExactLeastDistance', WHERE WHAT IT READS IS OF BULK AT MOST 1048576: true; the input reads as it did. -/
def fnExactLeastDistanceUptoRow : OpenClaim := { program := "ytjabkbnbcajdbaa", sum := "288fd4d7cfbf60da6bc1b0a44b18d46ba17d3ff97cfb10a9a473f892a16f3824", func := "loop.example/g01411/laws.FnExactLeastDistance", spec := "fnExactLeastDistance", apart := false, narrowed := true }
def FnExactLeastDistanceUptoSaid : Prop := fnExactLeastDistanceUptoRow.holds Try.pinned (OpenSpec.upto fnExactLeastDistanceSpec)

/-- 'laws.FnExactSphereOf', WHERE WHAT IT READS IS OF BULK AT MOST 1048576: true; the input reads as it did. -/
def fnExactSphereOfUptoRow : OpenClaim := { program := "ytjabkbnbcajdbaa", sum := "288fd4d7cfbf60da6bc1b0a44b18d46ba17d3ff97cfb10a9a473f892a16f3824", func := "loop.example/g01411/laws.FnExactSphereOf", spec := "fnExactSphereOf", unfollowed := true, recurses := true, apart := false, narrowed := true }
def FnExactSphereOfUptoSaid : Prop := fnExactSphereOfUptoRow.holds Try.pinned (OpenSpec.upto fnExactSphereOfSpec)

/-- 'laws.FnExactDistanceCounts', WHERE WHAT IT READS IS OF BULK AT MOST 1048576: true; the input reads as it did. -/
def fnExactDistanceCountsUptoRow : OpenClaim := { program := "ytjabkbnbcajdbaa", sum := "288fd4d7cfbf60da6bc1b0a44b18d46ba17d3ff97cfb10a9a473f892a16f3824", func := "loop.example/g01411/laws.FnExactDistanceCounts", spec := "fnExactDistanceCounts", apart := false, narrowed := true }
def FnExactDistanceCountsUptoSaid : Prop := fnExactDistanceCountsUptoRow.holds Try.pinned (OpenSpec.upto fnExactDistanceCountsSpec)

/-- 'laws.FnExactBallOf', WHERE WHAT IT READS IS OF BULK AT MOST 1048576: true; the input reads as it did. -/
def fnExactBallOfUptoRow : OpenClaim := { program := "ytjabkbnbcajdbaa", sum := "288fd4d7cfbf60da6bc1b0a44b18d46ba17d3ff97cfb10a9a473f892a16f3824", func := "loop.example/g01411/laws.FnExactBallOf", spec := "fnExactBallOf", unfollowed := true, recurses := true, apart := false, narrowed := true }
def FnExactBallOfUptoSaid : Prop := fnExactBallOfUptoRow.holds Try.pinned (OpenSpec.upto fnExactBallOfSpec)

/-- 'laws.FnExactDirectSum', WHERE WHAT IT READS IS OF BULK AT MOST 1048576: true; the input reads as it did. -/
def fnExactDirectSumUptoRow : OpenClaim := { program := "ytjabkbnbcajdbaa", sum := "288fd4d7cfbf60da6bc1b0a44b18d46ba17d3ff97cfb10a9a473f892a16f3824", func := "loop.example/g01411/laws.FnExactDirectSum", spec := "fnExactDirectSum", apart := false, narrowed := true }
def FnExactDirectSumUptoSaid : Prop := fnExactDirectSumUptoRow.holds Try.pinned (OpenSpec.upto fnExactDirectSumSpec)

/-- 'laws.FnExactNearestWords', WHERE WHAT IT READS IS OF BULK AT MOST 1048576: true; the input reads as it did. -/
def fnExactNearestWordsUptoRow : OpenClaim := { program := "ytjabkbnbcajdbaa", sum := "288fd4d7cfbf60da6bc1b0a44b18d46ba17d3ff97cfb10a9a473f892a16f3824", func := "loop.example/g01411/laws.FnExactNearestWords", spec := "fnExactNearestWords", apart := false, narrowed := true }
def FnExactNearestWordsUptoSaid : Prop := fnExactNearestWordsUptoRow.holds Try.pinned (OpenSpec.upto fnExactNearestWordsSpec)

end Rows
end Go.Proofs.Ytjabkbnbcajdbaa
