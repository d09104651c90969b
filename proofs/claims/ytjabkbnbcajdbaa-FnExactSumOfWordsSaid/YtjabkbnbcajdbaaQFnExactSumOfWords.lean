/- The plain law of SumOfWords: the program's and the reference's SumOfWords answer alike. -/
import Derived.Test.YtjabkbnbcajdbaaQSum
import Derived.Test.YtjabkbnbcajdbaaFlawsFnExactSumOfWords
set_option linter.unusedVariables false
set_option linter.unusedSimpArgs false
namespace Go.Proofs.Ytjabkbnbcajdbaa.Q
open Go.RowKit Go.Proofs.Ytjabkbnbcajdbaa.P Go.Proofs.YtjabkbnbcajdbaaW.PrintWords CC
def rSumOfWords (s : List Int) (u w : Int) : Int × Int := if rWords s [u, w] = 0 then (sumW s u w, 0) else (0, rWords s [u, w])
theorem specSumOfWords_ev (s : List Int) (u w : Int) : Ev (fun k => spec_SumOfWords.f k s u w) (rSumOfWords s u w) := by
  unfold spec_SumOfWords.f rSumOfWords
  refine Ev.bind (l01Words_ev s (c := [u, w]) (by simp)) ?_
  by_cases h : rWords s [u, w] = 0
  · obtain ⟨hs, hc⟩ := rWords_zero h
    simp only [if_pos h]
    exact Ev.bind (l01Sum_ev hs (hc u (by simp)) (hc w (by simp))) (Ev.now _)
  · simp only [if_neg h]
    exact Ev.now _
theorem implSumOfWords_ev (s : List Int) (u w : Int) : Ev (fun k => impl_SumOfWords.f k s u w) (rSumOfWords s u w) := by
  unfold impl_SumOfWords.f rSumOfWords
  refine Ev.bind (wordCode_ev s (c := [u, w]) (by simp)) ?_
  by_cases h : rWords s [u, w] = 0
  · obtain ⟨hs, hc⟩ := rWords_zero h
    simp only [if_pos h]
    exact Ev.bindc (sumWords_eq hs (hc u (by simp)) (hc w (by simp))) (Ev.now _)
  · simp only [if_neg h]
    exact Ev.now _
theorem FnExactSumOfWords (l0_0 : List Int) (m0 : l0_0.length ≤ maxLen) (w0 : ∀ x ∈ l0_0, (Lit.int .i64 x).wf = true) (a1 : Int) (w1 : (Lit.int .i64 a1).wf = true) (a2 : Int) (w2 : (Lit.int .i64 a2).wf = true) : ∃ k, laws_FnExactSumOfWords.f k l0_0 a1 a2 = some true := by
  refine Ev.rounds (r := true) ?_
  unfold laws_FnExactSumOfWords.f
  refine Ev.bindc (szSpace_eq _ _ m0 (by omega) (by omega)) ?_
  by_cases h0 : (1048576 : Int) < (l0_0.length : Int)
  · exact Ev.iff_pos (by rw [if_pos h0]; omega) (Ev.now _)
  rw [if_neg h0]
  refine Ev.iff_neg (by omega) ?_
  have hl0 : l0_0.length ≤ 1048576 := by omega
  have hm0 : l0_0.length < maxLen := by unfold maxLen; omega
  repeat' first
    | exact Ev.now _
    | refine Ev.bind (toSpace_ev _ hl0) ?_
    | refine Ev.bind (specSumOfWords_ev _ _ _) ?_
    | refine Ev.bind (implSumOfWords_ev _ _ _) ?_
    | (refine Ev.bind (eqSpace_ev _ _ ?_) ?_; (· (first | omega | (unfold maxLen; omega) | (simp only [iota_length]; omega) | (simp only [iota_length]; unfold maxLen; omega))))
    | (refine Ev.bind (eqInt64S_ev _ _ ?_) ?_; (· (first | omega | (unfold maxLen; omega) | (simp only [iota_length]; omega) | (simp only [iota_length]; unfold maxLen; omega))))
    | (refine Ev.iff_pos ?_ ?_; (· (first | (simp; done) | omega)))
    | (refine Ev.iff_neg ?_ ?_; (· (first | (simp; done) | omega)))
    | refine Ev.step (show ∀ k, laws_FnExactSumOfWords.j0 (k + 1) _ _ _ = _ from fun k => by rw [laws_FnExactSumOfWords.j0]) ?_
end Go.Proofs.Ytjabkbnbcajdbaa.Q
