/- The plain law of SpaceText: the program's and the reference's SpaceText answer alike. -/
import Derived.Test.YtjepdabecbmfgaaQBase
import Derived.Test.YtjepdabecbmfgaaQSpaceText
import Derived.Test.YtjepdabecbmfgaaFlawsFnExactSpaceText
set_option linter.unusedVariables false
set_option linter.unusedSimpArgs false
namespace Go.Proofs.Ytjepdabecbmfgaa.Q
open Go.RowKit Go.Proofs.Ytjepdabecbmfgaa.P Go.Proofs.YtjepdabecbmfgaaW.PrintWords CC
theorem FnExactSpaceText (l0_0 : List Int) (m0 : l0_0.length ≤ maxLen) (w0 : ∀ x ∈ l0_0, (Lit.int .i64 x).wf = true) : ∃ k, laws_FnExactSpaceText.f k l0_0 = some true := by
  refine Ev.rounds (r := true) ?_
  unfold laws_FnExactSpaceText.f
  refine Ev.bindc (szSpace_eq _ _ m0 (by omega) (by omega)) ?_
  by_cases h0 : (1048576 : Int) < (l0_0.length : Int)
  · exact Ev.iff_pos (by rw [if_pos h0]; omega) (Ev.now _)
  rw [if_neg h0]
  refine Ev.iff_neg (by omega) ?_
  have hl0 : l0_0.length ≤ 1048576 := by omega
  have hm0 : l0_0.length < maxLen := by unfold maxLen; omega
  repeat' first
    | exact Ev.now _
    | refine Ev.bind (toSpace_ev _ hl0) ?_
    | refine Ev.bind (specSpaceText_ev _) ?_
    | refine Ev.bind (implSpaceText_ev _) ?_
    | (refine Ev.bind (eqSpace_ev _ _ ?_) ?_; · (first | omega | (unfold maxLen; omega) | (simp only [iota_length]; omega) | (simp only [iota_length]; unfold maxLen; omega)))
    | (refine Ev.bind (eqInt64S_ev _ _ ?_) ?_; · (first | omega | (unfold maxLen; omega) | (simp only [iota_length]; omega) | (simp only [iota_length]; unfold maxLen; omega)))
    | (refine Ev.iff_pos ?_ ?_; · (first | (simp; done) | omega))
    | (refine Ev.iff_neg ?_ ?_; · (first | (simp; done) | omega))
    | refine Ev.step (fun k => by simp only [laws_FnExactSpaceText.j0]; exact rfl) ?_
end Go.Proofs.Ytjepdabecbmfgaa.Q
