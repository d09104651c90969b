/- The plain law of RadiusOf: the program's and the reference's RadiusOf answer alike. -/
import Derived.Test.YtcpchmnbjaeolaaQFarthest
import Derived.Test.YtcpchmnbjaeolaaFlawsFnExactRadiusOf
set_option linter.unusedVariables false
set_option linter.unusedSimpArgs false
namespace Go.Proofs.Ytcpchmnbjaeolaa.Q
open Go.RowKit Go.Proofs.Ytcpchmnbjaeolaa.P Go.Proofs.YtcpchmnbjaeolaaW.PrintWords CC
def rRadiusOf (s c : List Int) : Int × Int := if rSome s c [] = 0 then (maxQ (farW s c) (NW s), 0) else (0, rSome s c [])
theorem specRadiusOf_ev (s : List Int) {c : List Int} (hcl : c.length ≤ 1048576) : Ev (fun k => spec_RadiusOf.f k s c) (rRadiusOf s c) := by
  unfold spec_RadiusOf.f rRadiusOf
  refine Ev.bind (l02Full_ev s hcl) ?_
  by_cases h : rSome s c [] = 0
  · obtain ⟨hs, hc, _, hp⟩ := rSome_zero h
    simp only [if_pos h]
    exact Ev.bind (l02Farthest_ev hs hc hp) (Ev.now _)
  · simp only [if_neg h]
    exact Ev.now _
theorem implRadiusOf_ev (s : List Int) {c : List Int} (hcl : c.length ≤ 1048576) : Ev (fun k => impl_RadiusOf.f k s c) (rRadiusOf s c) := by
  unfold impl_RadiusOf.f rRadiusOf
  refine Ev.bind (someCode_ev s hcl (by simp)) ?_
  by_cases h : rSome s c [] = 0
  · obtain ⟨hs, hc, _, hp⟩ := rSome_zero h
    simp only [if_pos h]
    refine Ev.bindc (a := maxQ (farW s c) (NW s)) ?_ (Ev.now _)
    unfold impl_radius.f
    rw [farness_eq hs hc hp, Option.bind_some, max_eq hs, Option.bind_some]
  · simp only [if_neg h]
    exact Ev.now _
theorem FnExactRadiusOf (l0_0 : List Int) (m0 : l0_0.length ≤ maxLen) (w0 : ∀ x ∈ l0_0, (Lit.int .i64 x).wf = true) (l1 : List Int) (m1 : l1.length ≤ maxLen) (b1 : l1.length * 8 ≤ 140737488351232) (w1 : ∀ x ∈ l1, (Lit.int .i64 x).wf = true) : ∃ k, laws_FnExactRadiusOf.f k l0_0 l1 = some true := by
  refine Ev.rounds (r := true) ?_
  unfold laws_FnExactRadiusOf.f
  by_cases c1 : (l1.length : Int) > 1048576
  · exact Ev.iff_pos c1 (Ev.now _)
  refine Ev.iff_neg c1 ?_
  have k1 : l1.length ≤ 1048576 := by omega
  have km1 : l1.length < maxLen := by unfold maxLen; omega
  refine Ev.bindc (szSpace_eq _ _ m0 (by omega) (by omega)) ?_
  by_cases h0 : (1048576 : Int) < (l0_0.length : Int)
  · exact Ev.iff_pos (by rw [if_pos h0]; omega) (Ev.now _)
  rw [if_neg h0]
  refine Ev.iff_neg (by omega) ?_
  have hl0 : l0_0.length ≤ 1048576 := by omega
  have hm0 : l0_0.length < maxLen := by unfold maxLen; omega
  repeat' first
    | exact Ev.now _
    | refine Ev.bind (toInt64S_ev _ k1) ?_
    | refine Ev.bind (toSpace_ev _ hl0) ?_
    | refine Ev.bind (specRadiusOf_ev _ k1) ?_
    | refine Ev.bind (implRadiusOf_ev _ k1) ?_
    | (refine Ev.bind (eqSpace_ev _ _ ?_) ?_; (· (first | omega | (unfold maxLen; omega) | (simp only [iota_length]; omega) | (simp only [iota_length]; unfold maxLen; omega))))
    | (refine Ev.bind (eqInt64S_ev _ _ ?_) ?_; (· (first | omega | (unfold maxLen; omega) | (simp only [iota_length]; omega) | (simp only [iota_length]; unfold maxLen; omega))))
    | (refine Ev.iff_pos ?_ ?_; (· (first | (simp; done) | omega)))
    | (refine Ev.iff_neg ?_ ?_; (· (first | (simp; done) | omega)))
    | refine Ev.step (show ∀ k, laws_FnExactRadiusOf.j0 (k + 1) _ _ _ _ _ = _ from fun k => by rw [laws_FnExactRadiusOf.j0]) ?_
end Go.Proofs.Ytcpchmnbjaeolaa.Q
