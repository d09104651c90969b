/- The code of a place: what the program's placeCode answers. -/
import Derived.Test.YtbhgnphdhkmliaaQGiven
import Derived.Test.YtbhgnphdhkmliaaFimplplaceCode
set_option linter.unusedVariables false
set_option linter.unusedSimpArgs false
namespace Go.Proofs.Ytbhgnphdhkmliaa.Q
open Go.RowKit Go.Proofs.Ytbhgnphdhkmliaa.P Go.Proofs.YtbhgnphdhkmliaaW.PrintWords CC
theorem isPlace_eqp (s : List Int) (x : Int) : impl_isPlace.f s x = some (decide (0 ≤ x ∧ x < s.length)) := by
  unfold impl_isPlace.f impl_places.f
  by_cases h : x ≥ 0
  · rw [if_pos h]
    simp only [Option.bind_some, Option.some.injEq, decide_eq_decide]
    omega
  · rw [if_neg h]
    have : ¬ (0 ≤ x ∧ x < s.length) := by omega
    simp [this]
/-- What the program's placeCode answers. -/
def rPlace (s C : List Int) (i d : Int) : Int :=
  if rCode s C [] = 0 then if (0 ≤ i ∧ i < s.length) ∧ 0 ≤ d ∧ d < rd s i then if s.length = 1 then 5 else 0 else 2 else rCode s C []
theorem rPlace_zero {s C : List Int} {i d : Int} (h : rPlace s C i d = 0) : rCode s C [] = 0 ∧ (0 ≤ i ∧ i < s.length) ∧ (0 ≤ d ∧ d < rd s i) ∧ s.length ≠ 1 := by
  unfold rPlace at h
  split at h
  · rename_i h1
    split at h
    · rename_i h2
      split at h
      · cases h
      · rename_i h3
        exact ⟨h1, h2.1, h2.2, h3⟩
    · cases h
  · rename_i h1
    exact absurd h h1
theorem placeCode_ev (s : List Int) {C : List Int} (hc : C.length ≤ 1048576) (i d : Int) : Ev (fun k => impl_placeCode.f k s C i d) (rPlace s C i d) := by
  unfold impl_placeCode.f rPlace
  refine Ev.bind (codeCode_ev s hc (by decide)) ?_
  by_cases h : rCode s C [] = 0
  · rw [if_pos h, isPlace_eqp]
    simp only [if_pos h, Option.bind_some]
    by_cases hp : 0 ≤ i ∧ i < s.length
    · simp only [hp, and_self, decide_true, if_true, true_and]
      by_cases hd : d < 0
      · rw [if_neg (by omega)]
        exact Ev.iff_pos hd (Ev.step (fun k => by simp only [impl_placeCode.j0]; exact rfl) (Ev.now _))
      · refine Ev.iff_neg hd ?_
        refine Ev.step (fun k => by simp only [impl_placeCode.j0]; exact rfl) ?_
        by_cases hq : d < rd s i
        · rw [if_pos (show 0 ≤ d ∧ d < rd s i from ⟨by omega, hq⟩)]
          refine Ev.iff_neg (by simp; omega) ?_
          unfold impl_places.f
          simp only [Option.bind_some]
          by_cases h1 : s.length = 1
          · rw [if_pos h1]
            exact Ev.iff_pos (by omega) (Ev.now _)
          · rw [if_neg h1]
            exact Ev.iff_neg (by omega) (Ev.now _)
        · rw [if_neg (show ¬ (0 ≤ d ∧ d < rd s i) from fun z => hq z.2)]
          exact Ev.iff_pos (by simp; omega) (Ev.now _)
    · rw [if_neg (fun z => hp z.1)]
      simp only [hp, decide_false]
      exact Ev.iff_neg (by simp) (Ev.step (fun k => by simp only [impl_placeCode.j0]; exact rfl) (Ev.now _))
  · simp only [if_neg h]
    exact Ev.now _
end Go.Proofs.Ytbhgnphdhkmliaa.Q
