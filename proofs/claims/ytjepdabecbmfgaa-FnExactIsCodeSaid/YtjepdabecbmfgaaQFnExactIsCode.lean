/- The plain law of IsCode: the program's and the reference's IsCode answer alike. -/
import Derived.Test.YtjepdabecbmfgaaQCode
import Derived.Test.YtjepdabecbmfgaaFlawsFnExactIsCode
set_option linter.unusedVariables false
set_option linter.unusedSimpArgs false
namespace Go.Proofs.Ytjepdabecbmfgaa.Q
open Go.RowKit Go.Proofs.Ytjepdabecbmfgaa.P Go.Proofs.YtjepdabecbmfgaaW.PrintWords CC
theorem specIsCode_ev (s : List Int) {c : List Int} (hc : c.length ≤ 1048576) : Ev (fun k => spec_IsCode.f k s c) (rIsCode s c) := by
  unfold spec_IsCode.f rIsCode
  refine Ev.bind (l01Is_ev s) ?_
  by_cases h : isSp s = true
  · simp only [h, if_true]
    exact Ev.bind (l01Code_ev h hc) (Ev.now _)
  · simp only [h, if_false]
    exact Ev.now _
theorem implIsCode_ev (s : List Int) {c : List Int} (hc : c.length ≤ 1048576) : Ev (fun k => impl_IsCode.f k s c) (rIsCode s c) := by
  unfold impl_IsCode.f rIsCode
  refine Ev.bind (isSpace_ev s) ?_
  by_cases h : isSp s = true
  · simp only [h, if_true]
    exact Ev.bind (isCode_ev h hc) (Ev.now _)
  · simp only [h, if_false]
    exact Ev.now _
theorem FnExactIsCode (l0_0 : List Int) (m0 : l0_0.length ≤ maxLen) (w0 : ∀ x ∈ l0_0, (Lit.int .i64 x).wf = true) (l1 : List Int) (m1 : l1.length ≤ maxLen) (b1 : l1.length * 8 ≤ 140737488351232) (w1 : ∀ x ∈ l1, (Lit.int .i64 x).wf = true) : ∃ k, laws_FnExactIsCode.f k l0_0 l1 = some true := by
  refine Ev.rounds (r := true) ?_
  unfold laws_FnExactIsCode.f
  by_cases c1 : (l1.length : Int) > 1048576
  · exact Ev.iff_pos c1 (Ev.now _)
  refine Ev.iff_neg c1 ?_
  have k1 : l1.length ≤ 1048576 := by omega
  have km1 : l1.length < maxLen := by unfold maxLen; omega
  refine Ev.bindc (szSpace_eq _ _ m0 (by omega) (by omega)) ?_
  by_cases h0 : (1048576 : Int) < (l0_0.length : Int)
  · exact Ev.iff_pos (by rw [if_pos h0]; omega) (Ev.now _)
  rw [if_neg h0]
  refine Ev.iff_neg (by omega) ?_
  have hl0 : l0_0.length ≤ 1048576 := by omega
  have hm0 : l0_0.length < maxLen := by unfold maxLen; omega
  repeat' first
    | exact Ev.now _
    | refine Ev.bind (toInt64S_ev _ k1) ?_
    | refine Ev.bind (toSpace_ev _ hl0) ?_
    | refine Ev.bind (specIsCode_ev _ k1) ?_
    | refine Ev.bind (implIsCode_ev _ k1) ?_
    | (refine Ev.bind (eqSpace_ev _ _ ?_) ?_; (· (first | omega | (unfold maxLen; omega) | (simp only [iota_length]; omega) | (simp only [iota_length]; unfold maxLen; omega))))
    | (refine Ev.bind (eqInt64S_ev _ _ ?_) ?_; (· (first | omega | (unfold maxLen; omega) | (simp only [iota_length]; omega) | (simp only [iota_length]; unfold maxLen; omega))))
    | (refine Ev.iff_pos ?_ ?_; (· (first | (simp; done) | omega)))
    | (refine Ev.iff_neg ?_ ?_; (· (first | (simp; done) | omega)))
    | refine Ev.step (show ∀ k, laws_FnExactIsCode.j0 (k + 1) _ _ _ _ _ = _ from fun k => by rw [laws_FnExactIsCode.j0]) ?_
end Go.Proofs.Ytjepdabecbmfgaa.Q
