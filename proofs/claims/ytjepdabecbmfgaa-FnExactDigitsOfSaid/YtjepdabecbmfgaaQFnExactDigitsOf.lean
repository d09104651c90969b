/- The plain law of DigitsOf: the program's and the reference's DigitsOf answer alike. -/
import Derived.Test.YtjepdabecbmfgaaQWords
import Derived.Test.YtjepdabecbmfgaaQDigits
import Derived.Test.YtjepdabecbmfgaaFlawsFnExactDigitsOf
set_option linter.unusedVariables false
set_option linter.unusedSimpArgs false
namespace Go.Proofs.Ytjepdabecbmfgaa.Q
open Go.RowKit Go.Proofs.Ytjepdabecbmfgaa.P Go.Proofs.YtjepdabecbmfgaaW.PrintWords CC
theorem specDigitsOf_ev (s : List Int) (w : Int) : Ev (fun k => spec_DigitsOf.f k s w) (rDigitsOf s w) := by
  unfold spec_DigitsOf.f rDigitsOf
  refine Ev.bind (l01Words_ev s (c := [w]) (by simp)) ?_
  by_cases h : rWords s [w] = 0
  · obtain ⟨hs, hc⟩ := rWords_zero h
    simp only [if_pos h]
    exact Ev.bind (l01Digits_ev hs (hc w (by simp))) (Ev.now _)
  · simp only [if_neg h]
    exact Ev.now _
theorem rDigitsOf_len (s : List Int) (w : Int) : (rDigitsOf s w).1.length ≤ 8 := by
  unfold rDigitsOf
  by_cases h : rWords s [w] = 0
  · rw [if_pos h]
    have := isSp_len (rWords_zero h).1
    simpa [dg_length] using this
  · rw [if_neg h]
    simp
theorem implDigitsOf_ev (s : List Int) (w : Int) : impl_DigitsOf.f s w = some (rDigitsOf s w) := rfl
theorem FnExactDigitsOf (l0_0 : List Int) (m0 : l0_0.length ≤ maxLen) (w0 : ∀ x ∈ l0_0, (Lit.int .i64 x).wf = true) (a1 : Int) (w1 : (Lit.int .i64 a1).wf = true) : ∃ k, laws_FnExactDigitsOf.f k l0_0 a1 = some true := by
  refine Ev.rounds (r := true) ?_
  unfold laws_FnExactDigitsOf.f
  refine Ev.bindc (szSpace_eq _ _ m0 (by omega) (by omega)) ?_
  by_cases h0 : (1048576 : Int) < (l0_0.length : Int)
  · exact Ev.iff_pos (by rw [if_pos h0]; omega) (Ev.now _)
  rw [if_neg h0]
  refine Ev.iff_neg (by omega) ?_
  have hl0 : l0_0.length ≤ 1048576 := by omega
  have hm0 : l0_0.length < maxLen := by unfold maxLen; omega
  have hr0 := rDigitsOf_len l0_0 a1
  repeat' first
    | exact Ev.now _
    | refine Ev.bind (toSpace_ev _ hl0) ?_
    | refine Ev.bind (specDigitsOf_ev _ _) ?_
    | refine Ev.bind (Ev.const (implDigitsOf_ev _ _)) ?_
    | (refine Ev.bind (eqSpace_ev _ _ ?_) ?_; (· (first | omega | (unfold maxLen; omega) | (simp only [iota_length]; omega) | (simp only [iota_length]; unfold maxLen; omega))))
    | (refine Ev.bind (eqInt64S_ev _ _ ?_) ?_; (· (first | omega | (unfold maxLen; omega) | (simp only [iota_length]; omega) | (simp only [iota_length]; unfold maxLen; omega))))
    | (refine Ev.bind (markSpace_ev _ _ ?_ ?_ ?_) ?_; (· (first | omega | (unfold maxLen; omega) | (simp only [iota_length]; omega) | (simp only [iota_length]; unfold maxLen; omega))); (· (first | omega | (unfold maxLen; omega) | (simp only [iota_length]; omega) | (simp only [iota_length]; unfold maxLen; omega))); (· (first | omega | (unfold maxLen; omega) | (simp only [iota_length]; omega) | (simp only [iota_length]; unfold maxLen; omega))))
    | (refine Ev.bind (markInt64S_ev _ _ ?_ ?_ ?_) ?_; (· (first | omega | (unfold maxLen; omega) | (simp only [iota_length]; omega) | (simp only [iota_length]; unfold maxLen; omega))); (· (first | omega | (unfold maxLen; omega) | (simp only [iota_length]; omega) | (simp only [iota_length]; unfold maxLen; omega))); (· (first | omega | (unfold maxLen; omega) | (simp only [iota_length]; omega) | (simp only [iota_length]; unfold maxLen; omega))))
    | (refine Ev.bind (heldInt64S_ev _ _ ?_ ?_) ?_; (· (first | omega | (unfold maxLen; omega) | (simp only [iota_length]; omega) | (simp only [iota_length]; unfold maxLen; omega))); (· (first | omega | (unfold maxLen; omega) | (simp only [iota_length]; omega) | (simp only [iota_length]; unfold maxLen; omega))))
    | (refine Ev.iff_pos ?_ ?_; (· (first | (simp; done) | omega)))
    | (refine Ev.iff_neg ?_ ?_; (· (first | (simp; done) | omega)))
    | refine Ev.step (show ∀ k, laws_FnExactDigitsOf.j0 (k + 1) _ _ _ _ _ _ _ _ = _ from fun k => by rw [laws_FnExactDigitsOf.j0]) ?_
    | refine Ev.step (show ∀ k, laws_FnExactDigitsOf.j1 (k + 1) _ _ _ _ _ _ = _ from fun k => by rw [laws_FnExactDigitsOf.j1]) ?_
    | refine Ev.step (show ∀ k, laws_FnExactDigitsOf.j2 (k + 1) _ _ _ = _ from fun k => by rw [laws_FnExactDigitsOf.j2]) ?_
end Go.Proofs.Ytjepdabecbmfgaa.Q
