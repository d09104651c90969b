/- The plain law of DistanceTo: the program's and the reference's DistanceTo answer alike. -/
import Derived.Test.YtcpchmnbjaeolaaQFar
import Derived.Test.YtcpchmnbjaeolaaFlawsFnExactDistanceTo
set_option linter.unusedVariables false
set_option linter.unusedSimpArgs false
namespace Go.Proofs.Ytcpchmnbjaeolaa.Q
open Go.RowKit Go.Proofs.Ytcpchmnbjaeolaa.P Go.Proofs.YtcpchmnbjaeolaaW.PrintWords CC
def rDistanceTo (s c : List Int) (w : Int) : Int × Int := if rSome s c [w] = 0 then (mdL s w 8 c, 0) else (0, rSome s c [w])
theorem rSome_one (s c : List Int) (w : Int) : rSome s c [w] = if rSome s c [] = 0 ∨ rSome s c [] = 5 then if isW s w = true then rSome s c [] else 2 else rSome s c [] := by
  unfold rSome rCode rWords
  by_cases hs : isSp s = true
  · by_cases hw : isW s w = true
    · by_cases hc : isC s c = true
      · by_cases hp : c.length = 0
        · simp [hs, hw, hc, hp]
        · simp [hs, hw, hc, hp]
      · simp [hs, hw, hc]
    · by_cases hc : isC s c = true
      · by_cases hp : c.length = 0
        · simp [hs, hw, hc, hp]
        · simp [hs, hw, hc, hp]
      · simp [hs, hw, hc]
  · simp [hs]
theorem rSome_sp {s c : List Int} (h : rSome s c [] = 0 ∨ rSome s c [] = 5) : isSp s = true := by
  unfold rSome rCode rWords at h
  by_cases hs : isSp s = true
  · exact hs
  · simp [hs] at h
theorem specDistanceTo_ev (s : List Int) {c : List Int} (hcl : c.length ≤ 1048576) (w : Int) : Ev (fun k => spec_DistanceTo.f k s c w) (rDistanceTo s c w) := by
  unfold spec_DistanceTo.f rDistanceTo
  refine Ev.bind (l02Full_ev s hcl) ?_
  have key : (rSome s c [] = 0 ∨ rSome s c [] = 5) → Ev (fun k => (spec_l01N.f k s).bind fun t103 => (spec_l01In.f w 0 (wrap64 (t103 - 1))).bind fun t104 => spec_DistanceTo.j0 k c w (rSome s c []) (!t104) s) (if rSome s c [w] = 0 then (mdL s w 8 c, 0) else (0, rSome s c [w])) := fun h => by
    have hs := rSome_sp h
    have hp := isSp_prd hs
    have hp1 := isSp_prd1 hs
    refine Ev.bind (l01N_sp hs) ?_
    rw [wrap_id (x := prd s - 1) (by omega) (by omega)]
    refine Ev.bindc (l01In_eq _ _ _) ?_
    refine Ev.step (fun k => by simp only [spec_DistanceTo.j0]; exact rfl) ?_
    rw [rSome_one]
    simp only [if_pos h]
    by_cases hw : isW s w = true
    · have hw' := (isW_iff s w).1 hw
      refine Ev.iff_neg (by rw [decide_eq_true (show 0 ≤ w ∧ w ≤ prd s - 1 from ⟨by omega, by omega⟩)]; decide) ?_
      simp only [if_pos hw]
      by_cases h0 : rSome s c [] = 0
      · obtain ⟨_, hc, _, hpos⟩ := rSome_zero h0
        refine Ev.iff_pos h0 ?_
        simp only [if_pos h0]
        exact Ev.bind (l02To_ev hs hc hw hpos (b := 8) (by omega)) (Ev.now _)
      · refine Ev.iff_neg h0 ?_
        simp only [if_neg h0]
        exact Ev.now _
    · have hw' := fun z => hw ((isW_iff s w).2 z)
      refine Ev.iff_pos (by rw [decide_eq_false (show ¬ (0 ≤ w ∧ w ≤ prd s - 1) from fun z => hw' ⟨z.1, by have := z.2; omega⟩)]; decide) ?_
      refine Ev.iff_neg (by decide) ?_
      simp only [if_neg hw]
      exact Ev.now _
  by_cases h : rSome s c [] = 0
  · refine Ev.iff_pos h ?_
    exact key (.inl h)
  · refine Ev.iff_neg h ?_
    by_cases h5 : rSome s c [] = 5
    · refine Ev.iff_pos h5 ?_
      exact key (.inr h5)
    · refine Ev.iff_neg h5 ?_
      refine Ev.step (fun k => by simp only [spec_DistanceTo.j0]; exact rfl) ?_
      refine Ev.iff_neg (by decide) ?_
      refine Ev.iff_neg h ?_
      have hn : ¬ (rSome s c [] = 0 ∨ rSome s c [] = 5) := by omega
      rw [rSome_one, if_neg hn, if_neg h]
      exact Ev.now _
theorem implDistanceTo_ev (s : List Int) {c : List Int} (hcl : c.length ≤ 1048576) (w : Int) : Ev (fun k => impl_DistanceTo.f k s c w) (rDistanceTo s c w) := by
  unfold impl_DistanceTo.f rDistanceTo
  refine Ev.bind (someCode_ev s hcl (ws := [w]) (by simp)) ?_
  by_cases h : rSome s c [w] = 0
  · obtain ⟨hs, hc, hw, hp⟩ := rSome_zero h
    have hw' := (isW_iff s w).1 (hw w (by simp))
    have hN := NW_eq hs
    simp only [if_pos h]
    refine Ev.bindc (farness_eq hs hc hp) ?_
    refine Ev.iff_pos hw'.1 ?_
    refine Ev.iff_pos (by rw [farW_length]; omega) ?_
    obtain ⟨n, rfl⟩ := Int.eq_ofNat_of_zero_le hw'.1
    rw [farW_rd s c (by omega)]
    exact Ev.now _
  · simp only [if_neg h]
    exact Ev.now _
theorem FnExactDistanceTo (l0_0 : List Int) (m0 : l0_0.length ≤ maxLen) (w0 : ∀ x ∈ l0_0, (Lit.int .i64 x).wf = true) (l1 : List Int) (m1 : l1.length ≤ maxLen) (b1 : l1.length * 8 ≤ 140737488351232) (w1 : ∀ x ∈ l1, (Lit.int .i64 x).wf = true) (a2 : Int) (w2 : (Lit.int .i64 a2).wf = true) : ∃ k, laws_FnExactDistanceTo.f k l0_0 l1 a2 = some true := by
  refine Ev.rounds (r := true) ?_
  unfold laws_FnExactDistanceTo.f
  by_cases c1 : (l1.length : Int) > 1048576
  · exact Ev.iff_pos c1 (Ev.now _)
  refine Ev.iff_neg c1 ?_
  have k1 : l1.length ≤ 1048576 := by omega
  have km1 : l1.length < maxLen := by unfold maxLen; omega
  refine Ev.bindc (szSpace_eq _ _ m0 (by omega) (by omega)) ?_
  by_cases h0 : (1048576 : Int) < (l0_0.length : Int)
  · exact Ev.iff_pos (by rw [if_pos h0]; omega) (Ev.now _)
  rw [if_neg h0]
  refine Ev.iff_neg (by omega) ?_
  have hl0 : l0_0.length ≤ 1048576 := by omega
  have hm0 : l0_0.length < maxLen := by unfold maxLen; omega
  repeat' first
    | exact Ev.now _
    | refine Ev.bind (toInt64S_ev _ k1) ?_
    | refine Ev.bind (toSpace_ev _ hl0) ?_
    | refine Ev.bind (specDistanceTo_ev _ k1 _) ?_
    | refine Ev.bind (implDistanceTo_ev _ k1 _) ?_
    | (refine Ev.bind (eqSpace_ev _ _ ?_) ?_; (· (first | omega | (unfold maxLen; omega) | (simp only [iota_length]; omega) | (simp only [iota_length]; unfold maxLen; omega))))
    | (refine Ev.bind (eqInt64S_ev _ _ ?_) ?_; (· (first | omega | (unfold maxLen; omega) | (simp only [iota_length]; omega) | (simp only [iota_length]; unfold maxLen; omega))))
    | (refine Ev.iff_pos ?_ ?_; (· (first | (simp; done) | omega)))
    | (refine Ev.iff_neg ?_ ?_; (· (first | (simp; done) | omega)))
    | refine Ev.step (show ∀ k, laws_FnExactDistanceTo.j0 (k + 1) _ _ _ _ _ = _ from fun k => by rw [laws_FnExactDistanceTo.j0]) ?_
end Go.Proofs.Ytcpchmnbjaeolaa.Q
