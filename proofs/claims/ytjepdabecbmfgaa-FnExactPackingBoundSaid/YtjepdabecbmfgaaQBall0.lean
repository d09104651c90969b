/- Balls: what the reference answers, in plain Lean. -/
import Derived.Test.YtjepdabecbmfgaaQGiven
import Derived.Test.YtjepdabecbmfgaaQDist
set_option linter.unusedVariables false
set_option linter.unusedSimpArgs false
namespace Go.Proofs.Ytjepdabecbmfgaa.Q
open Go.RowKit Go.Proofs.Ytjepdabecbmfgaa.P Go.Proofs.YtjepdabecbmfgaaW.PrintWords CC

/-- The words of a ball. -/
def ballL (s : List Int) (w r : Int) : List Int := selL (fun u => decide (dist s w u ≤ r)) (NW s)
theorem ballL_len {s : List Int} (hs : isSp s = true) (w r : Int) : (ballL s w r).length ≤ 1024 := by
  have := selL_len (fun u => decide (dist s w u ≤ r)) (NW s)
  have := NW_le hs
  unfold ballL
  omega
end Go.Proofs.Ytjepdabecbmfgaa.Q
