/- Balls: what the program answers, in plain Lean. -/
import Derived.Test.YtbhgnphdhkmliaaQBall0
import Derived.Test.YtbhgnphdhkmliaaHBall
set_option linter.unusedVariables false
set_option linter.unusedSimpArgs false
namespace Go.Proofs.Ytbhgnphdhkmliaa.Q
open Go.RowKit Go.Proofs.Ytbhgnphdhkmliaa.P Go.Proofs.YtbhgnphdhkmliaaW.PrintWords CC

theorem ball_eq {s : List Int} (hs : isSp s = true) {w : Int} (hw : isW s w = true) (r : Int) : impl_ball.f s w r = some (ballL s w r) := by
  unfold impl_ball.f
  rw [if_pos ⟨hs, hw⟩]
  congr 1
  unfold thoseL ballL selL NW
  congr 1
  apply List.filter_congr
  intro i _
  simp only [ham_dig8 (isSp_len hs)]

theorem isW_nought {s : List Int} (hs : isSp s = true) : isW s 0 = true := by
  rw [isW_iff]
  have := isSp_prd1 hs
  omega
theorem ballL_pos {s : List Int} (hs : isSp s = true) {r : Int} (h0 : 0 ≤ r) : 1 ≤ (ballL s 0 r).length := by
  have h : (0 : Int) ∈ ballL s 0 r := by
    unfold ballL
    rw [mem_selL]
    have := NW_eq hs
    have := isSp_prd1 hs
    refine ⟨by omega, by omega, ?_⟩
    have : dist s 0 0 = 0 := ham_self _
    simp [this, h0]
  exact List.length_pos_of_mem h
end Go.Proofs.Ytbhgnphdhkmliaa.Q
