/- The plain law of TimesCovered: the program's and the reference's TimesCovered answer alike. -/
import Derived.Test.YtcpchmnbjaeolaaQCover
import Derived.Test.YtcpchmnbjaeolaaQTimes
import Derived.Test.YtcpchmnbjaeolaaFlawsFnExactTimesCovered
set_option linter.unusedVariables false
set_option linter.unusedSimpArgs false
namespace Go.Proofs.Ytcpchmnbjaeolaa.Q
open Go.RowKit Go.Proofs.Ytcpchmnbjaeolaa.P Go.Proofs.YtcpchmnbjaeolaaW.PrintWords CC

def rTimesCovered (s c : List Int) (u r : Int) : Int × Int := if rCover s c r = 0 then if isW s u then (cov s c r u, 0) else (0, 2) else (0, rCover s c r)
theorem specTimesCovered_ev (s : List Int) {c : List Int} (hcl : c.length ≤ 1048576) (u r : Int) : Ev (fun k => spec_TimesCovered.f k s c u r) (rTimesCovered s c u r) := by
  unfold spec_TimesCovered.f rTimesCovered
  refine Ev.bind (l02Code_ev s hcl r) ?_
  by_cases h : rCover s c r = 0
  · obtain ⟨hs, hc, _⟩ := rCover_zero h
    simp only [if_pos h]
    refine Ev.bind (l01N_sp hs) ?_
    have hp := isSp_prd hs
    have hN := NW_eq hs
    rw [wrap_id (x := prd s - 1) (by omega) (by omega)]
    refine Ev.bindc (l01In_eq _ _ _) ?_
    refine Ev.step (fun k => by simp only [spec_TimesCovered.j0]; exact rfl) ?_
    by_cases hu : isW s u = true
    · have hu' := (isW_iff s u).1 hu
      refine Ev.iff_neg (by rw [decide_eq_true (show 0 ≤ u ∧ u ≤ prd s - 1 from ⟨by omega, by omega⟩)]; decide) ?_
      refine Ev.iff_pos h ?_
      refine Ev.bind (l02Times_ev hs hc r) ?_
      refine Ev.iff_pos (by omega) ?_
      refine Ev.iff_pos (by rw [covL_length]; omega) ?_
      simp only [if_pos hu, h]
      obtain ⟨n, rfl⟩ := Int.eq_ofNat_of_zero_le hu'.1
      rw [covL_rd s c r (by omega)]
      exact Ev.now _
    · have hu' := fun z => hu ((isW_iff s u).2 z)
      refine Ev.iff_pos (by rw [decide_eq_false (show ¬ (0 ≤ u ∧ u ≤ prd s - 1) from fun z => hu' ⟨z.1, by have := z.2; omega⟩)]; decide) ?_
      refine Ev.iff_neg (by decide) ?_
      simp only [if_neg hu]
      exact Ev.now _
  · simp only [if_neg h]
    refine Ev.step (fun k => by simp only [spec_TimesCovered.j0]; exact rfl) ?_
    refine Ev.iff_neg (by simp) ?_
    refine Ev.iff_neg h ?_
    exact Ev.now _
theorem implTimesCovered_ev (s : List Int) {c : List Int} (hcl : c.length ≤ 1048576) (u r : Int) : Ev (fun k => impl_TimesCovered.f k s c u r) (rTimesCovered s c u r) := by
  unfold impl_TimesCovered.f rTimesCovered
  refine Ev.bind (codeCode_ev s hcl (ws := [u]) (by simp)) ?_
  by_cases hs : isSp s = true
  · have hN := NW_eq hs
    by_cases hu : isW s u = true
    · have hu' := (isW_iff s u).1 hu
      by_cases hc : isC s c = true
      · have e : rCode s c [u] = 0 := by simp [rCode, rWords, hs, hu, hc]
        refine Ev.iff_pos e ?_
        refine Ev.bindc (isRadius_eq' r) ?_
        by_cases hr : 0 ≤ r ∧ r ≤ 8
        · have e2 : rCover s c r = 0 := by simp [rCover, rCode, rWords, hs, hc, hr]
          refine Ev.iff_pos (by simp; omega) ?_
          refine Ev.bindc (times_eq hs hc r) ?_
          refine Ev.iff_pos (by omega) ?_
          refine Ev.iff_pos (by rw [covL_length]; omega) ?_
          simp only [if_pos hu, if_pos e2]
          obtain ⟨n, rfl⟩ := Int.eq_ofNat_of_zero_le hu'.1
          rw [covL_rd s c r (by omega)]
          exact Ev.now _
        · have e2 : rCover s c r = 2 := by simp only [rCover, rCode, rWords, hs, hc]; rw [if_neg hr]; rfl
          refine Ev.iff_neg (by simp; omega) ?_
          rw [e2, if_neg (by decide)]
          exact Ev.now _
      · have e : rCode s c [u] = 2 := by simp [rCode, rWords, hs, hu, hc]
        have e2 : rCover s c r = 2 := by simp [rCover, rCode, rWords, hs, hc]
        rw [e, e2]
        refine Ev.iff_neg (by decide) ?_
        rw [if_neg (by decide)]
        exact Ev.now _
    · have e : rCode s c [u] = 2 := by simp [rCode, rWords, hs, hu]
      rw [e]
      refine Ev.iff_neg (by decide) ?_
      simp only [if_neg hu]
      by_cases e2 : rCover s c r = 0
      · rw [if_pos e2]
        exact Ev.now _
      · have : rCover s c r = 2 := by
          simp only [rCover, rCode, rWords, hs] at e2 ⊢
          by_cases hc : isC s c = true
          · simp only [hc] at e2 ⊢
            by_cases hr : 0 ≤ r ∧ r ≤ 8
            · simp [hr] at e2
            · rw [if_neg hr]
              rfl
          · simp [hc]
        rw [if_neg e2, this]
        exact Ev.now _
  · have e : rCode s c [u] = 1 := by simp [rCode, rWords, hs]
    have e2 : rCover s c r = 1 := by simp [rCover, rCode, rWords, hs]
    rw [e, e2]
    refine Ev.iff_neg (by decide) ?_
    rw [if_neg (by decide)]
    exact Ev.now _
theorem FnExactTimesCovered (l0_0 : List Int) (m0 : l0_0.length ≤ maxLen) (w0 : ∀ x ∈ l0_0, (Lit.int .i64 x).wf = true) (l1 : List Int) (m1 : l1.length ≤ maxLen) (b1 : l1.length * 8 ≤ 140737488351232) (w1 : ∀ x ∈ l1, (Lit.int .i64 x).wf = true) (a2 : Int) (w2 : (Lit.int .i64 a2).wf = true) (a3 : Int) (w3 : (Lit.int .i64 a3).wf = true) : ∃ k, laws_FnExactTimesCovered.f k l0_0 l1 a2 a3 = some true := by
  refine Ev.rounds (r := true) ?_
  unfold laws_FnExactTimesCovered.f
  by_cases c1 : (l1.length : Int) > 1048576
  · exact Ev.iff_pos c1 (Ev.now _)
  refine Ev.iff_neg c1 ?_
  have k1 : l1.length ≤ 1048576 := by omega
  have km1 : l1.length < maxLen := by unfold maxLen; omega
  refine Ev.bindc (szSpace_eq _ _ m0 (by omega) (by omega)) ?_
  by_cases h0 : (1048576 : Int) < (l0_0.length : Int)
  · exact Ev.iff_pos (by rw [if_pos h0]; omega) (Ev.now _)
  rw [if_neg h0]
  refine Ev.iff_neg (by omega) ?_
  have hl0 : l0_0.length ≤ 1048576 := by omega
  have hm0 : l0_0.length < maxLen := by unfold maxLen; omega
  repeat' first
    | exact Ev.now _
    | refine Ev.bind (toInt64S_ev _ k1) ?_
    | refine Ev.bind (toSpace_ev _ hl0) ?_
    | refine Ev.bind (specTimesCovered_ev _ k1 _ _) ?_
    | refine Ev.bind (implTimesCovered_ev _ k1 _ _) ?_
    | (refine Ev.bind (eqSpace_ev _ _ ?_) ?_; (· (first | omega | (unfold maxLen; omega) | (simp only [iota_length]; omega) | (simp only [iota_length]; unfold maxLen; omega))))
    | (refine Ev.bind (eqInt64S_ev _ _ ?_) ?_; (· (first | omega | (unfold maxLen; omega) | (simp only [iota_length]; omega) | (simp only [iota_length]; unfold maxLen; omega))))
    | (refine Ev.iff_pos ?_ ?_; (· (first | (simp; done) | omega)))
    | (refine Ev.iff_neg ?_ ?_; (· (first | (simp; done) | omega)))
    | refine Ev.step (show ∀ k, laws_FnExactTimesCovered.j0 (k + 1) _ _ _ _ _ = _ from fun k => by rw [laws_FnExactTimesCovered.j0]) ?_
end Go.Proofs.Ytcpchmnbjaeolaa.Q
