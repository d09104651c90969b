/- The plain law of ParseSpace: the program's and the reference's ParseSpace answer alike. -/
import Derived.Test.YtjepdabecbmfgaaQBase
import Derived.Test.YtjepdabecbmfgaaQParseSpace
import Derived.Test.YtjepdabecbmfgaaFlawsFnExactParseSpace
set_option linter.unusedVariables false
set_option linter.unusedSimpArgs false
namespace Go.Proofs.Ytjepdabecbmfgaa.Q
open Go.RowKit Go.Proofs.Ytjepdabecbmfgaa.P Go.Proofs.YtjepdabecbmfgaaW.PrintWords CC
theorem FnExactParseSpace (a0 : ByteArray) (w0 : a0.size ≤ 140737488351232) : ∃ k, laws_FnExactParseSpace.f k a0 = some true := by
  refine Ev.rounds (r := true) ?_
  unfold laws_FnExactParseSpace.f
  by_cases c0 : (a0.size : Int) > 1048576
  · exact Ev.iff_pos c0 (Ev.now _)
  refine Ev.iff_neg c0 ?_
  have k0 : a0.size ≤ 1048576 := by omega
  have hr0 := rParseSpace_len a0
  repeat' first
    | exact Ev.now _
    | refine Ev.bind (specParseSpace_ev k0) ?_
    | refine Ev.bind (implParseSpace_ev _) ?_
    | (refine Ev.bind (eqSpace_ev _ _ ?_) ?_; (· (first | omega | (unfold maxLen; omega) | (simp only [iota_length]; omega) | (simp only [iota_length]; unfold maxLen; omega))))
    | (refine Ev.bind (eqInt64S_ev _ _ ?_) ?_; (· (first | omega | (unfold maxLen; omega) | (simp only [iota_length]; omega) | (simp only [iota_length]; unfold maxLen; omega))))
    | (refine Ev.bind (markSpace_ev _ _ ?_ ?_ ?_) ?_; (· (first | omega | (unfold maxLen; omega) | (simp only [iota_length]; omega) | (simp only [iota_length]; unfold maxLen; omega))); (· (first | omega | (unfold maxLen; omega) | (simp only [iota_length]; omega) | (simp only [iota_length]; unfold maxLen; omega))); (· (first | omega | (unfold maxLen; omega) | (simp only [iota_length]; omega) | (simp only [iota_length]; unfold maxLen; omega))))
    | (refine Ev.bind (heldSpace_ev _ _ ?_ ?_) ?_; (· (first | omega | (unfold maxLen; omega) | (simp only [iota_length]; omega) | (simp only [iota_length]; unfold maxLen; omega))); (· (first | omega | (unfold maxLen; omega) | (simp only [iota_length]; omega) | (simp only [iota_length]; unfold maxLen; omega))))
    | (refine Ev.iff_pos ?_ ?_; (· (first | (simp; done) | omega)))
    | (refine Ev.iff_neg ?_ ?_; (· (first | (simp; done) | omega)))
    | refine Ev.step (show ∀ k, laws_FnExactParseSpace.j0 (k + 1) _ _ _ _ _ = _ from fun k => by rw [laws_FnExactParseSpace.j0]) ?_
    | refine Ev.step (show ∀ k, laws_FnExactParseSpace.j1 (k + 1) _ _ _ = _ from fun k => by rw [laws_FnExactParseSpace.j1]) ?_
end Go.Proofs.Ytjepdabecbmfgaa.Q
