/- The plain law of BallOf: the program's and the reference's BallOf answer alike. -/
import Derived.Test.YtjabkbnbcajdbaaQBall
import Derived.Test.YtjabkbnbcajdbaaFlawsFnExactBallOf
set_option linter.unusedVariables false
set_option linter.unusedSimpArgs false
namespace Go.Proofs.Ytjabkbnbcajdbaa.Q
open Go.RowKit Go.Proofs.Ytjabkbnbcajdbaa.P Go.Proofs.YtjabkbnbcajdbaaW.PrintWords CC
def rBallOf (s : List Int) (w r : Int) : List Int × Int := if rBall s w r = 0 then (ballL s w r, 0) else ([], rBall s w r)
theorem rBallOf_len (s : List Int) (w r : Int) : (rBallOf s w r).1.length ≤ 1024 := by
  unfold rBallOf
  by_cases h : rBall s w r = 0
  · rw [if_pos h]
    exact ballL_len (rBall_zero h).1 w r
  · rw [if_neg h]
    simp
theorem specBallOf_ev (s : List Int) (w r : Int) : Ev (fun k => spec_BallOf.f k s w r) (rBallOf s w r) := by
  unfold spec_BallOf.f rBallOf
  refine Ev.bind (l01Radius_ev s w r) ?_
  by_cases h : rBall s w r = 0
  · obtain ⟨hs, hw, _⟩ := rBall_zero h
    simp only [if_pos h]
    exact Ev.bind (l01Ball_ev hs hw r) (Ev.now _)
  · simp only [if_neg h]
    exact Ev.now _
theorem implBallOf_ev (s : List Int) (w r : Int) : Ev (fun k => impl_BallOf.f k s w r) (rBallOf s w r) := by
  unfold impl_BallOf.f rBallOf
  refine Ev.bind (ballCode_ev s w r) ?_
  by_cases h : rBall s w r = 0
  · obtain ⟨hs, hw, _⟩ := rBall_zero h
    simp only [if_pos h]
    exact Ev.bindc (ball_eq hs hw r) (Ev.now _)
  · simp only [if_neg h]
    exact Ev.now _
theorem FnExactBallOf (l0_0 : List Int) (m0 : l0_0.length ≤ maxLen) (w0 : ∀ x ∈ l0_0, (Lit.int .i64 x).wf = true) (a1 : Int) (w1 : (Lit.int .i64 a1).wf = true) (a2 : Int) (w2 : (Lit.int .i64 a2).wf = true) : ∃ k, laws_FnExactBallOf.f k l0_0 a1 a2 = some true := by
  refine Ev.rounds (r := true) ?_
  unfold laws_FnExactBallOf.f
  refine Ev.bindc (szSpace_eq _ _ m0 (by omega) (by omega)) ?_
  by_cases h0 : (1048576 : Int) < (l0_0.length : Int)
  · exact Ev.iff_pos (by rw [if_pos h0]; omega) (Ev.now _)
  rw [if_neg h0]
  refine Ev.iff_neg (by omega) ?_
  have hl0 : l0_0.length ≤ 1048576 := by omega
  have hm0 : l0_0.length < maxLen := by unfold maxLen; omega
  have hr0 := rBallOf_len l0_0 a1 a2
  repeat' first
    | exact Ev.now _
    | refine Ev.bind (toSpace_ev _ hl0) ?_
    | refine Ev.bind (specBallOf_ev _ _ _) ?_
    | refine Ev.bind (implBallOf_ev _ _ _) ?_
    | (refine Ev.bind (eqSpace_ev _ _ ?_) ?_; (· (first | omega | (unfold maxLen; omega) | (simp only [iota_length]; omega) | (simp only [iota_length]; unfold maxLen; omega))))
    | (refine Ev.bind (eqInt64S_ev _ _ ?_) ?_; (· (first | omega | (unfold maxLen; omega) | (simp only [iota_length]; omega) | (simp only [iota_length]; unfold maxLen; omega))))
    | (refine Ev.bind (markSpace_ev _ _ ?_ ?_ ?_) ?_; (· (first | omega | (unfold maxLen; omega) | (simp only [iota_length]; omega) | (simp only [iota_length]; unfold maxLen; omega))); (· (first | omega | (unfold maxLen; omega) | (simp only [iota_length]; omega) | (simp only [iota_length]; unfold maxLen; omega))); (· (first | omega | (unfold maxLen; omega) | (simp only [iota_length]; omega) | (simp only [iota_length]; unfold maxLen; omega))))
    | (refine Ev.bind (markInt64S_ev _ _ ?_ ?_ ?_) ?_; (· (first | omega | (unfold maxLen; omega) | (simp only [iota_length]; omega) | (simp only [iota_length]; unfold maxLen; omega))); (· (first | omega | (unfold maxLen; omega) | (simp only [iota_length]; omega) | (simp only [iota_length]; unfold maxLen; omega))); (· (first | omega | (unfold maxLen; omega) | (simp only [iota_length]; omega) | (simp only [iota_length]; unfold maxLen; omega))))
    | (refine Ev.bind (heldInt64S_ev _ _ ?_ ?_) ?_; (· (first | omega | (unfold maxLen; omega) | (simp only [iota_length]; omega) | (simp only [iota_length]; unfold maxLen; omega))); (· (first | omega | (unfold maxLen; omega) | (simp only [iota_length]; omega) | (simp only [iota_length]; unfold maxLen; omega))))
    | (refine Ev.iff_pos ?_ ?_; (· (first | (simp; done) | omega)))
    | (refine Ev.iff_neg ?_ ?_; (· (first | (simp; done) | omega)))
    | refine Ev.step (show ∀ k, laws_FnExactBallOf.j0 (k + 1) _ _ _ _ _ _ _ _ _ = _ from fun k => by rw [laws_FnExactBallOf.j0]) ?_
    | refine Ev.step (show ∀ k, laws_FnExactBallOf.j1 (k + 1) _ _ _ _ _ _ _ = _ from fun k => by rw [laws_FnExactBallOf.j1]) ?_
    | refine Ev.step (show ∀ k, laws_FnExactBallOf.j2 (k + 1) _ _ _ = _ from fun k => by rw [laws_FnExactBallOf.j2]) ?_
end Go.Proofs.Ytjabkbnbcajdbaa.Q
