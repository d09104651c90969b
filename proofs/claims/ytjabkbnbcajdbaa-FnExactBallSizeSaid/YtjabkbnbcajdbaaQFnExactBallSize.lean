/- The plain law of BallSize: the program's and the reference's BallSize answer alike. -/
import Derived.Test.YtjabkbnbcajdbaaQBall
import Derived.Test.YtjabkbnbcajdbaaQSize
import Derived.Test.YtjabkbnbcajdbaaFlawsFnExactBallSize
set_option linter.unusedVariables false
set_option linter.unusedSimpArgs false
namespace Go.Proofs.Ytjabkbnbcajdbaa.Q
open Go.RowKit Go.Proofs.Ytjabkbnbcajdbaa.P Go.Proofs.YtjabkbnbcajdbaaW.PrintWords CC
def rBallSize (s : List Int) (r : Int) : Int × Int := if rBall s 0 r = 0 then (((ballL s 0 r).length : Int), 0) else (0, rBall s 0 r)
theorem specBallSize_ev (s : List Int) (r : Int) : Ev (fun k => spec_BallSize.f k s r) (rBallSize s r) := by
  unfold spec_BallSize.f rBallSize
  refine Ev.bind (l01Radius_ev s 0 r) ?_
  by_cases h : rBall s 0 r = 0
  · obtain ⟨hs, hw, h0, h1⟩ := rBall_zero h
    simp only [if_pos h]
    exact Ev.bind (l01Size_ev hs h0 (by omega)) (Ev.now _)
  · simp only [if_neg h]
    exact Ev.now _
theorem implBallSize_ev (s : List Int) (r : Int) : Ev (fun k => impl_BallSize.f k s r) (rBallSize s r) := by
  unfold impl_BallSize.f rBallSize
  refine Ev.bind (ballCode_ev s 0 r) ?_
  by_cases h : rBall s 0 r = 0
  · obtain ⟨hs, hw, h0, h1⟩ := rBall_zero h
    simp only [if_pos h]
    exact Ev.bindc (ball_eq hs hw r) (Ev.now _)
  · simp only [if_neg h]
    exact Ev.now _
theorem FnExactBallSize (l0_0 : List Int) (m0 : l0_0.length ≤ maxLen) (w0 : ∀ x ∈ l0_0, (Lit.int .i64 x).wf = true) (a1 : Int) (w1 : (Lit.int .i64 a1).wf = true) : ∃ k, laws_FnExactBallSize.f k l0_0 a1 = some true := by
  refine Ev.rounds (r := true) ?_
  unfold laws_FnExactBallSize.f
  refine Ev.bindc (szSpace_eq _ _ m0 (by omega) (by omega)) ?_
  by_cases h0 : (1048576 : Int) < (l0_0.length : Int)
  · exact Ev.iff_pos (by rw [if_pos h0]; omega) (Ev.now _)
  rw [if_neg h0]
  refine Ev.iff_neg (by omega) ?_
  have hl0 : l0_0.length ≤ 1048576 := by omega
  have hm0 : l0_0.length < maxLen := by unfold maxLen; omega
  repeat' first
    | exact Ev.now _
    | refine Ev.bind (toSpace_ev _ hl0) ?_
    | refine Ev.bind (specBallSize_ev _ _) ?_
    | refine Ev.bind (implBallSize_ev _ _) ?_
    | (refine Ev.bind (eqSpace_ev _ _ ?_) ?_; (· (first | omega | (unfold maxLen; omega) | (simp only [iota_length]; omega) | (simp only [iota_length]; unfold maxLen; omega))))
    | (refine Ev.bind (eqInt64S_ev _ _ ?_) ?_; (· (first | omega | (unfold maxLen; omega) | (simp only [iota_length]; omega) | (simp only [iota_length]; unfold maxLen; omega))))
    | (refine Ev.iff_pos ?_ ?_; (· (first | (simp; done) | omega)))
    | (refine Ev.iff_neg ?_ ?_; (· (first | (simp; done) | omega)))
    | refine Ev.step (show ∀ k, laws_FnExactBallSize.j0 (k + 1) _ _ _ = _ from fun k => by rw [laws_FnExactBallSize.j0]) ?_
end Go.Proofs.Ytjabkbnbcajdbaa.Q
