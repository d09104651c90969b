/- The plain law of CoversSpace: the program's and the reference's CoversSpace answer alike. -/
import Derived.Test.YtcpchmnbjaeolaaQUncov
import Derived.Test.YtcpchmnbjaeolaaFlawsFnExactCoversSpace
set_option linter.unusedVariables false
set_option linter.unusedSimpArgs false
namespace Go.Proofs.Ytcpchmnbjaeolaa.Q
open Go.RowKit Go.Proofs.Ytcpchmnbjaeolaa.P Go.Proofs.YtcpchmnbjaeolaaW.PrintWords CC

def rCoversSpace (s c : List Int) (r : Int) : Bool × Int := if rCover s c r = 0 then (decide (0 ∉ covL s c r), 0) else (false, rCover s c r)
theorem index_l {L : List Int} (hL : L.length ≤ 1048576) (x : Int) : ∀ (m n : Nat), n + m = L.length →
    ∃ i, Ev (fun k => slices_Index_int64_int64.l0 k L x (L.length : Int) (n : Int)) i ∧ (0 ≤ i ↔ x ∈ L.drop n)
  | 0, n, hm => by
    refine ⟨-1, Ev.step (fun k => by simp only [slices_Index_int64_int64.l0]; exact rfl) (Ev.iff_neg (by omega) (Ev.now _)), ?_⟩
    rw [drop_all (by omega)]
    simp
  | m + 1, n, hm => by
    have hn : n < L.length := by omega
    rw [drop_cons L hn]
    by_cases h : x = rd L (n : Int)
    · refine ⟨(n : Int), Ev.step (fun k => by simp only [slices_Index_int64_int64.l0]; exact rfl) ?_, ?_⟩
      · refine Ev.iff_pos (by omega) ?_
        refine Ev.iff_pos (by omega) ?_
        refine Ev.iff_pos (by omega) ?_
        exact Ev.iff_pos h (Ev.now _)
      · simp [h]
        
    · obtain ⟨i, h1, h2⟩ := index_l hL x m (n + 1) (by omega)
      refine ⟨i, Ev.step (fun k => by simp only [slices_Index_int64_int64.l0]; exact rfl) ?_, ?_⟩
      · refine Ev.iff_pos (by omega) ?_
        refine Ev.iff_pos (by omega) ?_
        refine Ev.iff_pos (by omega) ?_
        refine Ev.iff_neg h ?_
        rw [wrap_nat (by unfold maxLen; omega)]
        exact h1
      · rw [h2]
        simp [h]
theorem contains_ev {L : List Int} (hL : L.length ≤ 1048576) (x : Int) : Ev (fun k => slices_Contains_int64_int64.f k L x) (decide (x ∈ L)) := by
  unfold slices_Contains_int64_int64.f slices_Index_int64_int64.f
  obtain ⟨i, h1, h2⟩ := index_l hL x L.length 0 (by omega)
  rw [List.drop_zero] at h2
  refine Ev.bind h1 ?_
  have : decide (i ≥ 0) = decide (x ∈ L) := by
    rw [decide_eq_decide]
    exact h2
  rw [this]
  exact Ev.now _
theorem zer_nil (L : List Int) : (((zer L).length : Int) == 0) = decide (0 ∉ L) := by
  by_cases h : (0 : Int) ∈ L
  · obtain ⟨n, hn, e⟩ := List.getElem_of_mem h
    have hm : (n : Int) ∈ zer L := by
      unfold zer
      rw [mem_selL]
      refine ⟨by omega, by omega, ?_⟩
      simp [rd, List.getD_eq_getElem?_getD, hn, e]
    have := List.length_pos_of_mem hm
    simp only [h, not_true_eq_false, decide_false, beq_eq_false_iff_ne]
    omega
  · have : zer L = [] := by
      rw [List.eq_nil_iff_forall_not_mem]
      intro x hx
      unfold zer at hx
      rw [mem_selL] at hx
      obtain ⟨n, rfl⟩ := Int.eq_ofNat_of_zero_le hx.1
      have hn : n < L.length := by omega
      have e : rd L (n : Int) = 0 := by simpa using hx.2.2
      apply h
      have e2 : rd L (n : Int) = L[n] := by simp [rd, List.getD_eq_getElem?_getD, hn]
      rw [← e, e2]
      exact List.getElem_mem hn
    simp [this, h]
theorem specCoversSpace_ev (s : List Int) {c : List Int} (hcl : c.length ≤ 1048576) (r : Int) : Ev (fun k => spec_CoversSpace.f k s c r) (rCoversSpace s c r) := by
  unfold spec_CoversSpace.f rCoversSpace
  refine Ev.bind (l02Code_ev s hcl r) ?_
  by_cases h : rCover s c r = 0
  · obtain ⟨hs, hc, _⟩ := rCover_zero h
    simp only [if_pos h]
    refine Ev.bind (l02Uncovered_ev hs hc r) ?_
    rw [zer_nil]
    exact Ev.now _
  · simp only [if_neg h]
    exact Ev.now _
theorem implCoversSpace_ev (s : List Int) {c : List Int} (hcl : c.length ≤ 1048576) (r : Int) : Ev (fun k => impl_CoversSpace.f k s c r) (rCoversSpace s c r) := by
  unfold impl_CoversSpace.f rCoversSpace
  refine Ev.bind (coverCode_ev s hcl r) ?_
  by_cases h : rCover s c r = 0
  · obtain ⟨hs, hc, _⟩ := rCover_zero h
    have hN := NW_le hs
    simp only [if_pos h]
    unfold impl_covers.f
    have e : Ev (fun k => (impl_times.f s c r).bind fun t102 => (slices_Contains_int64_int64.f k t102 0).bind fun t105 => some !t105) (!decide (0 ∈ covL s c r)) :=
      Ev.bindc (times_eq hs hc r) (Ev.bind (contains_ev (by rw [covL_length]; omega) 0) (Ev.now _))
    refine Ev.bind e ?_
    rw [decide_not]
    exact Ev.now _
  · simp only [if_neg h]
    exact Ev.now _
theorem FnExactCoversSpace (l0_0 : List Int) (m0 : l0_0.length ≤ maxLen) (w0 : ∀ x ∈ l0_0, (Lit.int .i64 x).wf = true) (l1 : List Int) (m1 : l1.length ≤ maxLen) (b1 : l1.length * 8 ≤ 140737488351232) (w1 : ∀ x ∈ l1, (Lit.int .i64 x).wf = true) (a2 : Int) (w2 : (Lit.int .i64 a2).wf = true) : ∃ k, laws_FnExactCoversSpace.f k l0_0 l1 a2 = some true := by
  refine Ev.rounds (r := true) ?_
  unfold laws_FnExactCoversSpace.f
  by_cases c1 : (l1.length : Int) > 1048576
  · exact Ev.iff_pos c1 (Ev.now _)
  refine Ev.iff_neg c1 ?_
  have k1 : l1.length ≤ 1048576 := by omega
  have km1 : l1.length < maxLen := by unfold maxLen; omega
  refine Ev.bindc (szSpace_eq _ _ m0 (by omega) (by omega)) ?_
  by_cases h0 : (1048576 : Int) < (l0_0.length : Int)
  · exact Ev.iff_pos (by rw [if_pos h0]; omega) (Ev.now _)
  rw [if_neg h0]
  refine Ev.iff_neg (by omega) ?_
  have hl0 : l0_0.length ≤ 1048576 := by omega
  have hm0 : l0_0.length < maxLen := by unfold maxLen; omega
  repeat' first
    | exact Ev.now _
    | refine Ev.bind (toInt64S_ev _ k1) ?_
    | refine Ev.bind (toSpace_ev _ hl0) ?_
    | refine Ev.bind (specCoversSpace_ev _ k1 _) ?_
    | refine Ev.bind (implCoversSpace_ev _ k1 _) ?_
    | (refine Ev.bind (eqSpace_ev _ _ ?_) ?_; (· (first | omega | (unfold maxLen; omega) | (simp only [iota_length]; omega) | (simp only [iota_length]; unfold maxLen; omega))))
    | (refine Ev.bind (eqInt64S_ev _ _ ?_) ?_; (· (first | omega | (unfold maxLen; omega) | (simp only [iota_length]; omega) | (simp only [iota_length]; unfold maxLen; omega))))
    | (refine Ev.iff_pos ?_ ?_; (· (first | (simp; done) | omega)))
    | (refine Ev.iff_neg ?_ ?_; (· (first | (simp; done) | omega)))
    | refine Ev.step (show ∀ k, laws_FnExactCoversSpace.j0 (k + 1) _ _ _ _ _ = _ from fun k => by rw [laws_FnExactCoversSpace.j0]) ?_
end Go.Proofs.Ytcpchmnbjaeolaa.Q
