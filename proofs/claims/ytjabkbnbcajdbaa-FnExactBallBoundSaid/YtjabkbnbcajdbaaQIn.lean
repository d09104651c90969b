/- The code of a space and a number between bounds. -/
import Derived.Test.YtjabkbnbcajdbaaQBase
import Derived.Test.YtjabkbnbcajdbaaFspecl04Code
set_option linter.unusedVariables false
set_option linter.unusedSimpArgs false
namespace Go.Proofs.Ytjabkbnbcajdbaa.Q
open Go.RowKit Go.Proofs.Ytjabkbnbcajdbaa.P Go.Proofs.YtjabkbnbcajdbaaW.PrintWords CC
def rIn (s : List Int) (a lo hi : Int) : Int := if isSp s = true then if lo ≤ a ∧ a ≤ hi then 0 else 2 else 1
theorem rIn_zero {s : List Int} {a lo hi : Int} (h : rIn s a lo hi = 0) : isSp s = true ∧ lo ≤ a ∧ a ≤ hi := by
  unfold rIn at h
  split at h
  · rename_i hs
    split at h
    · rename_i hr
      exact ⟨hs, hr⟩
    · cases h
  · cases h
theorem l04Code_ev (s : List Int) (a lo hi : Int) : Ev (fun k => spec_l04Code.f k s a lo hi) (rIn s a lo hi) := by
  unfold spec_l04Code.f rIn
  refine Ev.bind (l01Is_ev s) ?_
  by_cases hs : isSp s = true
  · simp only [if_pos hs]
    refine Ev.bindc (l01In_eq _ _ _) ?_
    by_cases hr : lo ≤ a ∧ a ≤ hi
    · rw [if_pos hr]
      exact Ev.iff_pos (decide_eq_true hr) (Ev.now _)
    · rw [if_neg hr]
      exact Ev.iff_neg (by rw [decide_eq_false hr]; decide) (Ev.now _)
  · simp only [if_neg hs]
    exact Ev.now _
end Go.Proofs.Ytjabkbnbcajdbaa.Q
