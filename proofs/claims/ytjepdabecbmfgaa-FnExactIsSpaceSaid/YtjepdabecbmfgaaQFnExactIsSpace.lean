/- The plain law of IsSpace: the program's and the reference's IsSpace answer alike. -/
import Derived.Test.YtjepdabecbmfgaaQBase
import Derived.Test.YtjepdabecbmfgaaFlawsFnExactIsSpace
set_option linter.unusedVariables false
namespace Go.Proofs.Ytjepdabecbmfgaa.Q
open Go.RowKit Go.Proofs.Ytjepdabecbmfgaa.P Go.Proofs.YtjepdabecbmfgaaW.PrintWords CC
theorem FnExactIsSpace (l0_0 : List Int) (m0 : l0_0.length ≤ maxLen) (w0 : ∀ x ∈ l0_0, (Lit.int .i64 x).wf = true) : ∃ k, laws_FnExactIsSpace.f k l0_0 = some true := by
  refine Ev.rounds (r := true) ?_
  unfold laws_FnExactIsSpace.f
  refine Ev.bindc (szSpace_eq _ _ m0 (by omega) (by omega)) ?_
  by_cases h : (1048576 : Int) < (l0_0.length : Int)
  · exact Ev.iff_pos (by rw [if_pos h]; omega) (Ev.now _)
  refine Ev.iff_neg (by rw [if_neg h]; omega) ?_
  have hl : l0_0.length ≤ 1048576 := by omega
  refine Ev.bind (toSpace_ev _ hl) ?_
  refine Ev.bind (show Ev (fun k => spec_IsSpace.f k l0_0) (isSp l0_0) from Ev.bind (l01Is_ev _) (Ev.now _)) ?_
  refine Ev.bind (toSpace_ev _ hl) ?_
  refine Ev.bind (isSpace_ev _) ?_
  refine Ev.iff_neg (by simp) ?_
  refine Ev.bind (toSpace_ev _ hl) ?_
  refine Ev.bind (eqSpace_ev _ _ (by unfold maxLen; omega)) ?_
  exact Ev.iff_pos (by simp) (Ev.now _)
end Go.Proofs.Ytjepdabecbmfgaa.Q
