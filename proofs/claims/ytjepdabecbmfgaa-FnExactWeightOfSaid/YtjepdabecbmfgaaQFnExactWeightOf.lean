/- The plain law of WeightOf: the program's and the reference's WeightOf answer alike. -/
import Derived.Test.YtjepdabecbmfgaaQWords
import Derived.Test.YtjepdabecbmfgaaQDist
import Derived.Test.YtjepdabecbmfgaaFlawsFnExactWeightOf
set_option linter.unusedVariables false
set_option linter.unusedSimpArgs false
namespace Go.Proofs.Ytjepdabecbmfgaa.Q
open Go.RowKit Go.Proofs.Ytjepdabecbmfgaa.P Go.Proofs.YtjepdabecbmfgaaW.PrintWords CC
def rWeightOf (s : List Int) (w : Int) : Int × Int := if rWords s [w] = 0 then (dist s 0 w, 0) else (0, rWords s [w])
theorem isW_zero {s : List Int} (hs : isSp s = true) : isW s 0 = true := by
  have := isSp_prd1 hs
  exact (isW_iff s 0).2 ⟨by omega, by omega⟩
theorem rWords_w0 (s : List Int) (w : Int) : rWords s [w, 0] = rWords s [w] := by
  unfold rWords
  by_cases hs : isSp s = true
  · simp [hs, isW_zero hs]
  · simp [hs]
theorem specWeightOf_ev (s : List Int) (w : Int) : Ev (fun k => spec_WeightOf.f k s w) (rWeightOf s w) := by
  unfold spec_WeightOf.f rWeightOf
  refine Ev.bind (l01Words_ev s (c := [w]) (by simp)) ?_
  by_cases h : rWords s [w] = 0
  · obtain ⟨hs, hc⟩ := rWords_zero h
    rw [if_pos h]
    exact Ev.iff_pos h (Ev.bind (l01Distance_ev hs (isW_zero hs) (hc w (by simp))) (Ev.now _))
  · rw [if_neg h]
    exact Ev.iff_neg h (Ev.now _)
theorem implWeightOf_ev (s : List Int) (w : Int) : Ev (fun k => impl_WeightOf.f k s w) (rWeightOf s w) := by
  unfold impl_WeightOf.f impl_DistanceOf.f rWeightOf
  refine Ev.bind (a := rWeightOf s w) ?_ (Ev.now _)
  unfold rWeightOf
  refine Ev.bind (wordCode_ev s (c := [w, 0]) (by simp)) ?_
  rw [rWords_w0]
  by_cases h : rWords s [w] = 0
  · obtain ⟨hs, hc⟩ := rWords_zero h
    simp only [if_pos h]
    refine Ev.bindc (a := dist s 0 w) ?_ (Ev.now _)
    unfold impl_distance.f
    rw [if_pos ⟨hs, hc w (by simp), isW_zero hs⟩, ham_dig8 (isSp_len hs), dist_comm]
  · simp only [if_neg h]
    exact Ev.now _
theorem FnExactWeightOf (l0_0 : List Int) (m0 : l0_0.length ≤ maxLen) (w0 : ∀ x ∈ l0_0, (Lit.int .i64 x).wf = true) (a1 : Int) (w1 : (Lit.int .i64 a1).wf = true) : ∃ k, laws_FnExactWeightOf.f k l0_0 a1 = some true := by
  refine Ev.rounds (r := true) ?_
  unfold laws_FnExactWeightOf.f
  refine Ev.bindc (szSpace_eq _ _ m0 (by omega) (by omega)) ?_
  by_cases h0 : (1048576 : Int) < (l0_0.length : Int)
  · exact Ev.iff_pos (by rw [if_pos h0]; omega) (Ev.now _)
  rw [if_neg h0]
  refine Ev.iff_neg (by omega) ?_
  have hl0 : l0_0.length ≤ 1048576 := by omega
  have hm0 : l0_0.length < maxLen := by unfold maxLen; omega
  repeat' first
    | exact Ev.now _
    | refine Ev.bind (toSpace_ev _ hl0) ?_
    | refine Ev.bind (specWeightOf_ev _ _) ?_
    | refine Ev.bind (implWeightOf_ev _ _) ?_
    | (refine Ev.bind (eqSpace_ev _ _ ?_) ?_; (· (first | omega | (unfold maxLen; omega) | (simp only [iota_length]; omega) | (simp only [iota_length]; unfold maxLen; omega))))
    | (refine Ev.bind (eqInt64S_ev _ _ ?_) ?_; (· (first | omega | (unfold maxLen; omega) | (simp only [iota_length]; omega) | (simp only [iota_length]; unfold maxLen; omega))))
    | (refine Ev.iff_pos ?_ ?_; (· (first | (simp; done) | omega)))
    | (refine Ev.iff_neg ?_ ?_; (· (first | (simp; done) | omega)))
    | refine Ev.step (show ∀ k, laws_FnExactWeightOf.j0 (k + 1) _ _ _ = _ from fun k => by rw [laws_FnExactWeightOf.j0]) ?_
end Go.Proofs.Ytjepdabecbmfgaa.Q
