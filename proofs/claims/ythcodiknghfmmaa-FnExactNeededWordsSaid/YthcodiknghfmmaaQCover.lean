/- The code of a space, a code and a radius. -/
import Derived.Test.YthcodiknghfmmaaQGiven
import Derived.Test.YthcodiknghfmmaaFspecl02Code
import Derived.Test.YthcodiknghfmmaaFimplcoverCode
set_option linter.unusedVariables false
set_option linter.unusedSimpArgs false
namespace Go.Proofs.Ythcodiknghfmmaa.Q
open Go.RowKit Go.Proofs.Ythcodiknghfmmaa.P Go.Proofs.YthcodiknghfmmaaW.PrintWords CC

def rCover (s c : List Int) (r : Int) : Int := if rCode s c [] = 0 then if 0 ≤ r ∧ r ≤ 8 then 0 else 2 else rCode s c []
theorem rCover_zero {s c : List Int} {r : Int} (h : rCover s c r = 0) : isSp s = true ∧ isC s c = true ∧ 0 ≤ r ∧ r ≤ 8 := by
  unfold rCover at h
  split at h
  · rename_i hw
    obtain ⟨h1, h2, _⟩ := rCode_zero hw
    split at h
    · rename_i hr
      exact ⟨h1, h2, hr⟩
    · cases h
  · rename_i hw
    exact absurd h hw
theorem isRadius_eq' (r : Int) : impl_isRadius.f r = some (decide (0 ≤ r ∧ r ≤ 8)) := by
  unfold impl_isRadius.f
  by_cases h : r ≥ 0
  · rw [if_pos h]
    simp
    omega
  · rw [if_neg h]
    simp
    omega
theorem l02Code_ev (s : List Int) {c : List Int} (hc : c.length ≤ 1048576) (r : Int) : Ev (fun k => spec_l02Code.f k s c r) (rCover s c r) := by
  unfold spec_l02Code.f rCover
  refine Ev.bind (l01Given_ev s hc) ?_
  by_cases h : rCode s c [] = 0
  · simp only [if_pos h]
    refine Ev.bindc (l01In_eq _ _ _) ?_
    by_cases hr : 0 ≤ r ∧ r ≤ 8
    · rw [if_pos hr]
      refine Ev.iff_pos (by simp; omega) ?_
      rw [h]
      exact Ev.now _
    · rw [if_neg hr]
      exact Ev.iff_neg (by simp; omega) (Ev.now _)
  · simp only [if_neg h]
    exact Ev.now _
theorem coverCode_ev (s : List Int) {c : List Int} (hc : c.length ≤ 1048576) (r : Int) : Ev (fun k => impl_coverCode.f k s c r) (rCover s c r) := by
  unfold impl_coverCode.f rCover
  refine Ev.bind (codeCode_ev s hc (by simp)) ?_
  by_cases h : rCode s c [] = 0
  · simp only [if_pos h]
    refine Ev.bindc (isRadius_eq' r) ?_
    by_cases hr : 0 ≤ r ∧ r ≤ 8
    · rw [if_pos hr]
      exact Ev.iff_pos (by simp; omega) (Ev.now _)
    · rw [if_neg hr]
      exact Ev.iff_neg (by simp; omega) (Ev.now _)
  · simp only [if_neg h]
    exact Ev.now _
end Go.Proofs.Ythcodiknghfmmaa.Q
