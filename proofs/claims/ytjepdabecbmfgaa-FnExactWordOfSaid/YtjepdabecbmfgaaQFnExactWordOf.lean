/- The plain law of WordOf: the program's and the reference's WordOf answer alike. -/
import Derived.Test.YtjepdabecbmfgaaQWord
import Derived.Test.YtjepdabecbmfgaaQWordOf
import Derived.Test.YtjepdabecbmfgaaFlawsFnExactWordOf
set_option linter.unusedVariables false
set_option linter.unusedSimpArgs false
namespace Go.Proofs.Ytjepdabecbmfgaa.Q
open Go.RowKit Go.Proofs.Ytjepdabecbmfgaa.P Go.Proofs.YtjepdabecbmfgaaW.PrintWords CC
theorem FnExactWordOf (l0_0 : List Int) (m0 : l0_0.length ≤ maxLen) (w0 : ∀ x ∈ l0_0, (Lit.int .i64 x).wf = true) (l1 : List Int) (m1 : l1.length ≤ maxLen) (b1 : l1.length * 8 ≤ 140737488351232) (w1 : ∀ x ∈ l1, (Lit.int .i64 x).wf = true) : ∃ k, laws_FnExactWordOf.f k l0_0 l1 = some true := by
  refine Ev.rounds (r := true) ?_
  unfold laws_FnExactWordOf.f
  by_cases c1 : (l1.length : Int) > 1048576
  · exact Ev.iff_pos c1 (Ev.now _)
  refine Ev.iff_neg c1 ?_
  have k1 : l1.length ≤ 1048576 := by omega
  have km1 : l1.length < maxLen := by unfold maxLen; omega
  refine Ev.bindc (szSpace_eq _ _ m0 (by omega) (by omega)) ?_
  by_cases h0 : (1048576 : Int) < (l0_0.length : Int)
  · exact Ev.iff_pos (by rw [if_pos h0]; omega) (Ev.now _)
  rw [if_neg h0]
  refine Ev.iff_neg (by omega) ?_
  have hl0 : l0_0.length ≤ 1048576 := by omega
  have hm0 : l0_0.length < maxLen := by unfold maxLen; omega
  repeat' first
    | exact Ev.now _
    | refine Ev.bind (toInt64S_ev _ k1) ?_
    | refine Ev.bind (toSpace_ev _ hl0) ?_
    | refine Ev.bind (specWordOf_ev _ _) ?_
    | refine Ev.bind (implWordOf_ev _ _ k1) ?_
    | (refine Ev.bind (eqSpace_ev _ _ ?_) ?_; · (first | omega | (unfold maxLen; omega) | (simp only [iota_length]; omega) | (simp only [iota_length]; unfold maxLen; omega)))
    | (refine Ev.bind (eqInt64S_ev _ _ ?_) ?_; · (first | omega | (unfold maxLen; omega) | (simp only [iota_length]; omega) | (simp only [iota_length]; unfold maxLen; omega)))
    | (refine Ev.iff_pos ?_ ?_; · (first | (simp; done) | omega))
    | (refine Ev.iff_neg ?_ ?_; · (first | (simp; done) | omega))
    | refine Ev.step (fun k => by simp only [laws_FnExactWordOf.j0]; exact rfl) ?_
end Go.Proofs.Ytjepdabecbmfgaa.Q
