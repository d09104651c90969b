/- The plain law of BallBound: the program's and the reference's BallBound answer alike. -/
import Derived.Test.YtjabkbnbcajdbaaQBall
import Derived.Test.YtjabkbnbcajdbaaQSize
import Derived.Test.YtjabkbnbcajdbaaQIn
import Derived.Test.YtjabkbnbcajdbaaFlawsFnExactBallBound
set_option linter.unusedVariables false
set_option linter.unusedSimpArgs false
namespace Go.Proofs.Ytjabkbnbcajdbaa.Q
open Go.RowKit Go.Proofs.Ytjabkbnbcajdbaa.P Go.Proofs.YtjabkbnbcajdbaaW.PrintWords CC
theorem rBall_nought (s : List Int) (r : Int) : rBall s 0 r = rIn s r 0 8 := by
  unfold rBall rIn rWords
  by_cases hs : isSp s = true
  · simp [hs, isW_nought hs]
  · simp [hs]
def rBallBound (s : List Int) (r : Int) : Int × Int := if rIn s r 0 8 = 0 then (wrap64 (Int.tdiv (wrap64 ((wrap64 (prd s + ((ballL s 0 r).length : Int))) - 1)) ((ballL s 0 r).length : Int)), 0) else (0, rIn s r 0 8)
theorem specBallBound_ev (s : List Int) (r : Int) : Ev (fun k => spec_BallBound.f k s r) (rBallBound s r) := by
  unfold spec_BallBound.f rBallBound
  refine Ev.bind (l04Code_ev s r 0 8) ?_
  by_cases h : rIn s r 0 8 = 0
  · obtain ⟨hs, h0, h1⟩ := rIn_zero h
    have := ballL_pos hs h0
    simp only [if_pos h]
    refine Ev.bind (l01Size_ev hs h0 (by omega)) ?_
    refine Ev.bind (l01N_sp hs) ?_
    exact Ev.iff_neg (by omega) (Ev.now _)
  · simp only [if_neg h]
    exact Ev.now _
theorem implBallBound_ev (s : List Int) (r : Int) : Ev (fun k => impl_BallBound.f k s r) (rBallBound s r) := by
  unfold impl_BallBound.f rBallBound
  refine Ev.bind (ballCode_ev s 0 r) ?_
  rw [rBall_nought]
  by_cases h : rIn s r 0 8 = 0
  · obtain ⟨hs, h0, h1⟩ := rIn_zero h
    have := ballL_pos hs h0
    simp only [if_pos h]
    refine Ev.bind (count_sp hs) ?_
    refine Ev.bindc (ball_eq hs (isW_nought hs) r) ?_
    refine Ev.bindc (a := wrap64 (Int.tdiv (wrap64 ((wrap64 (prd s + ((ballL s 0 r).length : Int))) - 1)) ((ballL s 0 r).length : Int))) ?_ (Ev.now _)
    unfold impl_upward.f
    rw [if_neg (by omega)]
  · simp only [if_neg h]
    exact Ev.now _
theorem FnExactBallBound (l0_0 : List Int) (m0 : l0_0.length ≤ maxLen) (w0 : ∀ x ∈ l0_0, (Lit.int .i64 x).wf = true) (a1 : Int) (w1 : (Lit.int .i64 a1).wf = true) : ∃ k, laws_FnExactBallBound.f k l0_0 a1 = some true := by
  refine Ev.rounds (r := true) ?_
  unfold laws_FnExactBallBound.f
  refine Ev.bindc (szSpace_eq _ _ m0 (by omega) (by omega)) ?_
  by_cases h0 : (1048576 : Int) < (l0_0.length : Int)
  · exact Ev.iff_pos (by rw [if_pos h0]; omega) (Ev.now _)
  rw [if_neg h0]
  refine Ev.iff_neg (by omega) ?_
  have hl0 : l0_0.length ≤ 1048576 := by omega
  have hm0 : l0_0.length < maxLen := by unfold maxLen; omega
  repeat' first
    | exact Ev.now _
    | refine Ev.bind (toSpace_ev _ hl0) ?_
    | refine Ev.bind (specBallBound_ev _ _) ?_
    | refine Ev.bind (implBallBound_ev _ _) ?_
    | (refine Ev.bind (eqSpace_ev _ _ ?_) ?_; (· (first | omega | (unfold maxLen; omega) | (simp only [iota_length]; omega) | (simp only [iota_length]; unfold maxLen; omega))))
    | (refine Ev.bind (eqInt64S_ev _ _ ?_) ?_; (· (first | omega | (unfold maxLen; omega) | (simp only [iota_length]; omega) | (simp only [iota_length]; unfold maxLen; omega))))
    | (refine Ev.iff_pos ?_ ?_; (· (first | (simp; done) | omega)))
    | (refine Ev.iff_neg ?_ ?_; (· (first | (simp; done) | omega)))
    | refine Ev.step (show ∀ k, laws_FnExactBallBound.j0 (k + 1) _ _ _ = _ from fun k => by rw [laws_FnExactBallBound.j0]) ?_
end Go.Proofs.Ytjabkbnbcajdbaa.Q
