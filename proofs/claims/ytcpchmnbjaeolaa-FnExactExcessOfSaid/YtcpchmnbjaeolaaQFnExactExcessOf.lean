/- The plain law of ExcessOf: the program's and the reference's ExcessOf answer alike. -/
import Derived.Test.YtcpchmnbjaeolaaQCover
import Derived.Test.YtcpchmnbjaeolaaQTimes
import Derived.Test.YtcpchmnbjaeolaaFlawsFnExactExcessOf
set_option linter.unusedVariables false
set_option linter.unusedSimpArgs false
namespace Go.Proofs.Ytcpchmnbjaeolaa.Q
open Go.RowKit Go.Proofs.Ytcpchmnbjaeolaa.P Go.Proofs.YtcpchmnbjaeolaaW.PrintWords CC

def excW : Int → List Int → Int × Int
  | a, [] => (a, 0)
  | a, t :: l => if t = 0 then (0, 5) else excW (wrap64 (a + (t - 1))) l
def rExcessOf (s c : List Int) (r : Int) : Int × Int := if rCover s c r = 0 then excW 0 (covL s c r) else (0, rCover s c r)
theorem wrap_excess (a t : Int) : wrap64 (wrap64 (a + t) - 1) = wrap64 (a + (t - 1)) := by
  unfold wrap64
  omega
theorem specExcessOf_l {L : List Int} (hL : L.length ≤ 1048576) : ∀ (m n : Nat) (a : Int), n + m = L.length →
    Ev (fun k => spec_ExcessOf.l0 k L a (L.length : Int) (n : Int)) (excW a (L.drop n))
  | 0, n, a, hm => by
    refine Ev.step (fun k => by simp only [spec_ExcessOf.l0]; exact rfl) ?_
    refine Ev.iff_neg (by omega) ?_
    rw [drop_all (by omega)]
    exact Ev.now _
  | m + 1, n, a, hm => by
    have hn : n < L.length := by omega
    refine Ev.step (fun k => by simp only [spec_ExcessOf.l0]; exact rfl) ?_
    refine Ev.iff_pos (by omega) ?_
    refine Ev.iff_pos (by omega) ?_
    refine Ev.iff_pos (by omega) ?_
    rw [drop_cons L hn, excW]
    by_cases h : rd L (n : Int) = 0
    · refine Ev.iff_pos h ?_
      rw [if_pos h]
      exact Ev.now _
    · refine Ev.iff_neg h ?_
      rw [if_neg h, wrap_excess, wrap_nat (by unfold maxLen; omega)]
      exact specExcessOf_l hL m (n + 1) _ (by omega)
theorem implExcessOf_l {L : List Int} (hL : L.length ≤ 1048576) (hb : ∀ t ∈ L, 0 ≤ t ∧ t ≤ 1048576) : ∀ (m n : Nat) (a : Int), n + m = L.length →
    Ev (fun k => impl_ExcessOf.l0 k a L (L.length : Int) (n : Int)) (excW a (L.drop n))
  | 0, n, a, hm => by
    refine Ev.step (fun k => by simp only [impl_ExcessOf.l0]; exact rfl) ?_
    refine Ev.iff_neg (by omega) ?_
    rw [drop_all (by omega)]
    exact Ev.now _
  | m + 1, n, a, hm => by
    have hn : n < L.length := by omega
    have hr : 0 ≤ rd L (n : Int) ∧ rd L (n : Int) ≤ 1048576 := by
      have : rd L (n : Int) = L[n] := by simp [rd, List.getD_eq_getElem?_getD, hn]
      rw [this]
      exact hb _ (List.getElem_mem hn)
    refine Ev.step (fun k => by simp only [impl_ExcessOf.l0]; exact rfl) ?_
    refine Ev.iff_pos (by omega) ?_
    refine Ev.iff_pos (by omega) ?_
    refine Ev.iff_pos (by omega) ?_
    rw [drop_cons L hn, excW]
    by_cases h : rd L (n : Int) = 0
    · refine Ev.iff_pos h ?_
      rw [if_pos h]
      exact Ev.now _
    · refine Ev.iff_neg h ?_
      rw [if_neg h, wrap_id (x := rd L (n : Int) - 1) (by omega) (by omega), wrap_nat (by unfold maxLen; omega)]
      exact implExcessOf_l hL hb m (n + 1) _ (by omega)
theorem specExcessOf_ev (s : List Int) {c : List Int} (hcl : c.length ≤ 1048576) (r : Int) : Ev (fun k => spec_ExcessOf.f k s c r) (rExcessOf s c r) := by
  unfold spec_ExcessOf.f rExcessOf
  refine Ev.bind (l02Code_ev s hcl r) ?_
  by_cases h : rCover s c r = 0
  · obtain ⟨hs, hc, _⟩ := rCover_zero h
    have hN := NW_le hs
    simp only [if_pos h]
    refine Ev.bind (l02Times_ev hs hc r) ?_
    have := specExcessOf_l (L := covL s c r) (by rw [covL_length]; omega) (covL s c r).length 0 0 (by omega)
    rw [List.drop_zero] at this
    exact this
  · simp only [if_neg h]
    exact Ev.now _
theorem implExcessOf_ev (s : List Int) {c : List Int} (hcl : c.length ≤ 1048576) (r : Int) : Ev (fun k => impl_ExcessOf.f k s c r) (rExcessOf s c r) := by
  unfold impl_ExcessOf.f rExcessOf
  refine Ev.bind (coverCode_ev s hcl r) ?_
  by_cases h : rCover s c r = 0
  · obtain ⟨hs, hc, _⟩ := rCover_zero h
    have hN := NW_le hs
    simp only [if_pos h]
    refine Ev.bindc (times_eq hs hc r) ?_
    have := implExcessOf_l (L := covL s c r) (by rw [covL_length]; omega) (fun t ht => by have := covL_mem ht; omega) (covL s c r).length 0 0 (by omega)
    rw [List.drop_zero] at this
    exact this
  · simp only [if_neg h]
    exact Ev.now _
theorem FnExactExcessOf (l0_0 : List Int) (m0 : l0_0.length ≤ maxLen) (w0 : ∀ x ∈ l0_0, (Lit.int .i64 x).wf = true) (l1 : List Int) (m1 : l1.length ≤ maxLen) (b1 : l1.length * 8 ≤ 140737488351232) (w1 : ∀ x ∈ l1, (Lit.int .i64 x).wf = true) (a2 : Int) (w2 : (Lit.int .i64 a2).wf = true) : ∃ k, laws_FnExactExcessOf.f k l0_0 l1 a2 = some true := by
  refine Ev.rounds (r := true) ?_
  unfold laws_FnExactExcessOf.f
  by_cases c1 : (l1.length : Int) > 1048576
  · exact Ev.iff_pos c1 (Ev.now _)
  refine Ev.iff_neg c1 ?_
  have k1 : l1.length ≤ 1048576 := by omega
  have km1 : l1.length < maxLen := by unfold maxLen; omega
  refine Ev.bindc (szSpace_eq _ _ m0 (by omega) (by omega)) ?_
  by_cases h0 : (1048576 : Int) < (l0_0.length : Int)
  · exact Ev.iff_pos (by rw [if_pos h0]; omega) (Ev.now _)
  rw [if_neg h0]
  refine Ev.iff_neg (by omega) ?_
  have hl0 : l0_0.length ≤ 1048576 := by omega
  have hm0 : l0_0.length < maxLen := by unfold maxLen; omega
  repeat' first
    | exact Ev.now _
    | refine Ev.bind (toInt64S_ev _ k1) ?_
    | refine Ev.bind (toSpace_ev _ hl0) ?_
    | refine Ev.bind (specExcessOf_ev _ k1 _) ?_
    | refine Ev.bind (implExcessOf_ev _ k1 _) ?_
    | (refine Ev.bind (eqSpace_ev _ _ ?_) ?_; (· (first | omega | (unfold maxLen; omega) | (simp only [iota_length]; omega) | (simp only [iota_length]; unfold maxLen; omega))))
    | (refine Ev.bind (eqInt64S_ev _ _ ?_) ?_; (· (first | omega | (unfold maxLen; omega) | (simp only [iota_length]; omega) | (simp only [iota_length]; unfold maxLen; omega))))
    | (refine Ev.iff_pos ?_ ?_; (· (first | (simp; done) | omega)))
    | (refine Ev.iff_neg ?_ ?_; (· (first | (simp; done) | omega)))
    | refine Ev.step (show ∀ k, laws_FnExactExcessOf.j0 (k + 1) _ _ _ _ _ = _ from fun k => by rw [laws_FnExactExcessOf.j0]) ?_
end Go.Proofs.Ytcpchmnbjaeolaa.Q
