/- The plain law of PackingBound: the program's and the reference's PackingBound answer alike. -/
import Derived.Test.YtjepdabecbmfgaaQBallEq
import Derived.Test.YtjepdabecbmfgaaQSize
import Derived.Test.YtjepdabecbmfgaaQIn
import Derived.Test.YtjepdabecbmfgaaFlawsFnExactPackingBound
set_option linter.unusedVariables false
set_option linter.unusedSimpArgs false
namespace Go.Proofs.Ytjepdabecbmfgaa.Q
open Go.RowKit Go.Proofs.Ytjepdabecbmfgaa.P Go.Proofs.YtjepdabecbmfgaaW.PrintWords CC
theorem boundCode_ev (s : List Int) (d : Int) : Ev (fun k => impl_boundCode.f k s d) (rIn s d 1 9) := by
  unfold impl_boundCode.f rIn
  refine Ev.bind (isSpace_ev s) ?_
  by_cases hs : isSp s = true
  · simp only [if_pos hs]
    by_cases h1 : d < 1
    · rw [if_neg (show ¬ (1 ≤ d ∧ d ≤ 9) by omega)]
      exact Ev.iff_pos h1 (Ev.now _)
    · refine Ev.iff_neg h1 ?_
      by_cases h2 : d > 9
      · rw [if_neg (show ¬ (1 ≤ d ∧ d ≤ 9) by omega)]
        exact Ev.iff_pos h2 (Ev.now _)
      · rw [if_pos (show 1 ≤ d ∧ d ≤ 9 by omega)]
        exact Ev.iff_neg h2 (Ev.now _)
  · simp only [if_neg hs]
    exact Ev.now _
theorem half {d : Int} (h0 : 1 ≤ d) (h1 : d ≤ 9) : 0 ≤ wrap64 (Int.tdiv (wrap64 (d - 1)) 2) ∧ wrap64 (Int.tdiv (wrap64 (d - 1)) 2) ≤ 8 := by
  rw [wrap_id (x := d - 1) (by omega) (by omega), tdiv_pos (by omega) (by omega), wrap_id (by omega) (by omega)]
  omega
def rPackingBound (s : List Int) (d : Int) : Int × Int := if rIn s d 1 9 = 0 then (wrap64 (Int.tdiv (prd s) ((ballL s 0 (wrap64 (Int.tdiv (wrap64 (d - 1)) 2))).length : Int)), 0) else (0, rIn s d 1 9)
theorem specPackingBound_ev (s : List Int) (d : Int) : Ev (fun k => spec_PackingBound.f k s d) (rPackingBound s d) := by
  unfold spec_PackingBound.f rPackingBound
  refine Ev.bind (l04Code_ev s d 1 9) ?_
  by_cases h : rIn s d 1 9 = 0
  · obtain ⟨hs, h0, h1⟩ := rIn_zero h
    have hh := half h0 h1
    have := ballL_pos hs hh.1
    simp only [if_pos h]
    refine Ev.bind (l01N_sp hs) ?_
    refine Ev.bind (l01Size_ev hs hh.1 (by omega)) ?_
    exact Ev.iff_neg (by omega) (Ev.now _)
  · simp only [if_neg h]
    exact Ev.now _
theorem implPackingBound_ev (s : List Int) (d : Int) : Ev (fun k => impl_PackingBound.f k s d) (rPackingBound s d) := by
  unfold impl_PackingBound.f rPackingBound
  refine Ev.bind (boundCode_ev s d) ?_
  by_cases h : rIn s d 1 9 = 0
  · obtain ⟨hs, h0, h1⟩ := rIn_zero h
    have hh := half h0 h1
    have := ballL_pos hs hh.1
    simp only [if_pos h]
    refine Ev.bind (count_sp hs) ?_
    refine Ev.bindc (ball_eq hs (isW_nought hs) _) ?_
    exact Ev.iff_neg (by omega) (Ev.now _)
  · simp only [if_neg h]
    exact Ev.now _
theorem FnExactPackingBound (l0_0 : List Int) (m0 : l0_0.length ≤ maxLen) (w0 : ∀ x ∈ l0_0, (Lit.int .i64 x).wf = true) (a1 : Int) (w1 : (Lit.int .i64 a1).wf = true) : ∃ k, laws_FnExactPackingBound.f k l0_0 a1 = some true := by
  refine Ev.rounds (r := true) ?_
  unfold laws_FnExactPackingBound.f
  refine Ev.bindc (szSpace_eq _ _ m0 (by omega) (by omega)) ?_
  by_cases h0 : (1048576 : Int) < (l0_0.length : Int)
  · exact Ev.iff_pos (by rw [if_pos h0]; omega) (Ev.now _)
  rw [if_neg h0]
  refine Ev.iff_neg (by omega) ?_
  have hl0 : l0_0.length ≤ 1048576 := by omega
  have hm0 : l0_0.length < maxLen := by unfold maxLen; omega
  repeat' first
    | exact Ev.now _
    | refine Ev.bind (toSpace_ev _ hl0) ?_
    | refine Ev.bind (specPackingBound_ev _ _) ?_
    | refine Ev.bind (implPackingBound_ev _ _) ?_
    | (refine Ev.bind (eqSpace_ev _ _ ?_) ?_; (· (first | omega | (unfold maxLen; omega) | (simp only [iota_length]; omega) | (simp only [iota_length]; unfold maxLen; omega))))
    | (refine Ev.bind (eqInt64S_ev _ _ ?_) ?_; (· (first | omega | (unfold maxLen; omega) | (simp only [iota_length]; omega) | (simp only [iota_length]; unfold maxLen; omega))))
    | (refine Ev.iff_pos ?_ ?_; (· (first | (simp; done) | omega)))
    | (refine Ev.iff_neg ?_ ?_; (· (first | (simp; done) | omega)))
    | refine Ev.step (show ∀ k, laws_FnExactPackingBound.j0 (k + 1) _ _ _ = _ from fun k => by rw [laws_FnExactPackingBound.j0]) ?_
end Go.Proofs.Ytjepdabecbmfgaa.Q
