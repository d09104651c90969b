/- Balls and their codes: what the reference and the program answer, in plain Lean. -/
import Derived.Test.YtbhgnphdhkmliaaQBallEq
import Derived.Test.YtbhgnphdhkmliaaFimplballCode
set_option linter.unusedVariables false
set_option linter.unusedSimpArgs false
namespace Go.Proofs.Ytbhgnphdhkmliaa.Q
open Go.RowKit Go.Proofs.Ytbhgnphdhkmliaa.P Go.Proofs.YtbhgnphdhkmliaaW.PrintWords CC

/-- The code of a space, a word and a radius. -/
def rBall (s : List Int) (w r : Int) : Int := if rWords s [w] = 0 then if 0 ≤ r ∧ r ≤ 8 then 0 else 2 else rWords s [w]
theorem rBall_zero {s : List Int} {w r : Int} (h : rBall s w r = 0) : isSp s = true ∧ isW s w = true ∧ 0 ≤ r ∧ r ≤ 8 := by
  unfold rBall at h
  split at h
  · rename_i hw
    obtain ⟨h1, h2⟩ := rWords_zero hw
    split at h
    · rename_i hr
      exact ⟨h1, h2 w (by simp), hr⟩
    · cases h
  · rename_i hw
    exact absurd h hw
theorem isRadius_eq (r : Int) : impl_isRadius.f r = some (decide (0 ≤ r ∧ r ≤ 8)) := by
  unfold impl_isRadius.f
  by_cases h : r ≥ 0
  · rw [if_pos h]
    simp
    omega
  · rw [if_neg h]
    simp
    omega
theorem ballCode_ev (s : List Int) (w r : Int) : Ev (fun k => impl_ballCode.f k s w r) (rBall s w r) := by
  unfold impl_ballCode.f rBall
  refine Ev.bind (wordCode_ev s (c := [w]) (by simp)) ?_
  by_cases h : rWords s [w] = 0
  · simp only [if_pos h]
    refine Ev.bindc (isRadius_eq r) ?_
    by_cases hr : 0 ≤ r ∧ r ≤ 8
    · rw [if_pos hr]
      exact Ev.iff_pos (by simp; omega) (Ev.now _)
    · rw [if_neg hr]
      exact Ev.iff_neg (by simp; omega) (Ev.now _)
  · simp only [if_neg h]
    exact Ev.now _
end Go.Proofs.Ytbhgnphdhkmliaa.Q
