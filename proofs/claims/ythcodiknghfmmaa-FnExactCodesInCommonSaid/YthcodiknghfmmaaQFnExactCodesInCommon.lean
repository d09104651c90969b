/- The plain law of CodesInCommon: the program's and the reference's CodesInCommon answer alike. -/
import Derived.Test.YthcodiknghfmmaaHCommon
import Derived.Test.YthcodiknghfmmaaFlawsFnExactCodesInCommon
set_option linter.unusedVariables false
set_option linter.unusedSimpArgs false
namespace Go.Proofs.Ythcodiknghfmmaa.Q
open Go.RowKit Go.Proofs.Ythcodiknghfmmaa.P Go.Proofs.YthcodiknghfmmaaW.PrintWords CC
theorem l01Has_l {D : List Int} (hD : D.length ≤ 1048576) (x : Int) : ∀ (m n : Nat), n + m = D.length → Ev (fun k => spec_l01Has.l0 k D x (n : Int)) (decide (x ∈ D.drop n))
  | 0, n, hm => by
    refine Ev.step (fun k => by simp only [spec_l01Has.l0]; exact rfl) ?_
    refine Ev.iff_neg (by omega) ?_
    rw [drop_all (by omega)]
    exact Ev.now _
  | m + 1, n, hm => by
    have hn : n < D.length := by omega
    have ih := l01Has_l hD x m (n + 1) (by omega)
    refine Ev.step (fun k => by simp only [spec_l01Has.l0]; exact rfl) ?_
    refine Ev.iff_pos (by omega) ?_
    refine Ev.iff_pos (by omega) ?_
    rw [drop_cons D hn]
    by_cases h : rd D (n : Int) = x
    · refine Ev.iff_pos h ?_
      have e : decide (x ∈ rd D (n : Int) :: D.drop (n + 1)) = true := by simp [h]
      rw [e]
      exact Ev.now _
    · refine Ev.iff_neg h ?_
      have e : decide (x ∈ rd D (n : Int) :: D.drop (n + 1)) = decide (x ∈ D.drop (n + 1)) := by
        have : ¬ x = rd D (n : Int) := fun e => h e.symm
        simp [this]
      rw [e, wrap_nat (by unfold maxLen; omega)]
      exact ih
theorem l01Has_ev {D : List Int} (hD : D.length ≤ 1048576) (x : Int) : Ev (fun k => spec_l01Has.f k D x) (decide (x ∈ D)) := by
  unfold spec_l01Has.f
  have := l01Has_l hD x D.length 0 (by omega)
  rw [List.drop_zero] at this
  exact this
theorem l03Two_ev (s : List Int) {C D : List Int} (hC : C.length ≤ 1048576) (hD : D.length ≤ 1048576) : Ev (fun k => spec_l03Two.f k s C D) (rTwo s C D) := by
  unfold spec_l03Two.f rTwo
  refine Ev.bind (l01Given_ev s hC) ?_
  by_cases h : rCode s C [] = 0
  · simp only [if_pos h]
    exact Ev.bind (l01Given_ev s hD) (Ev.now _)
  · simp only [if_neg h]
    exact Ev.now _
theorem specCommon_l {C D : List Int} (hC : C.length ≤ 1048576) (hD : D.length ≤ 1048576) : ∀ (m n : Nat), n + m = C.length →
    Ev (fun k => spec_CodesInCommon.l0 k C D ((C.take n).filter fun x => decide (x ∈ D)) (C.length : Int) (n : Int)) (C.filter (fun x => decide (x ∈ D)), 0)
  | 0, n, hm => by
    refine Ev.step (fun k => by simp only [spec_CodesInCommon.l0]; exact rfl) ?_
    refine Ev.iff_neg (by omega) ?_
    rw [List.take_of_length_le (by omega)]
    exact Ev.now _
  | m + 1, n, hm => by
    have hn : n < C.length := by omega
    have hl1 := List.length_filter_le (fun x => decide (x ∈ D)) (C.take n)
    have hl2 : (C.take n).length ≤ n := List.length_take_le _ _
    have ih := specCommon_l hC hD m (n + 1) (by omega)
    rw [take_rd8 hn, List.filter_append] at ih
    refine Ev.step (fun k => by simp only [spec_CodesInCommon.l0]; exact rfl) ?_
    refine Ev.iff_pos (by omega) ?_
    refine Ev.iff_pos (by omega) ?_
    refine Ev.iff_pos (by omega) ?_
    refine Ev.bind (l01Has_ev hD _) ?_
    rw [wrap_nat (by unfold maxLen; omega)]
    by_cases h : rd C (n : Int) ∈ D
    · refine Ev.iff_pos (by simpa using h) ?_
      refine Ev.iff_pos (by omega) ?_
      simpa [h] using ih
    · refine Ev.iff_neg (by simpa using h) ?_
      simpa [h] using ih
theorem specCodesInCommon_ev (s : List Int) {C D : List Int} (hC : C.length ≤ 1048576) (hD : D.length ≤ 1048576) : Ev (fun k => spec_CodesInCommon.f k s C D) (commonR s C D) := by
  unfold spec_CodesInCommon.f commonR
  refine Ev.bind (l03Two_ev s hC hD) ?_
  by_cases h : rTwo s C D = 0
  · simp only [if_pos h]
    have := specCommon_l hC hD C.length 0 (by omega)
    simpa using this
  · simp only [if_neg h]
    exact Ev.now _
theorem commonR_len (s : List Int) {C : List Int} (hC : C.length ≤ 1048576) (D : List Int) : (commonR s C D).1.length ≤ 1048576 := by
  unfold commonR
  by_cases h : rTwo s C D = 0
  · rw [if_pos h]
    have := List.length_filter_le (fun x => decide (x ∈ D)) C
    show (C.filter _).length ≤ 1048576
    omega
  · rw [if_neg h]
    simp
theorem implCodesInCommon_eq (s : List Int) {C D : List Int} (hC : C.length ≤ 1048576) (hD : D.length ≤ 1048576) : impl_CodesInCommon.f s C D = some (commonR s C D) := by
  unfold impl_CodesInCommon.f
  rw [if_pos ⟨hC, hD⟩]
theorem FnExactCodesInCommon (l0_0 : List Int) (m0 : l0_0.length ≤ maxLen) (w0 : ∀ x ∈ l0_0, (Lit.int .i64 x).wf = true) (l1 : List Int) (m1 : l1.length ≤ maxLen) (b1 : l1.length * 8 ≤ 140737488351232) (w1 : ∀ x ∈ l1, (Lit.int .i64 x).wf = true) (l2 : List Int) (m2 : l2.length ≤ maxLen) (b2 : l2.length * 8 ≤ 140737488351232) (w2 : ∀ x ∈ l2, (Lit.int .i64 x).wf = true) : ∃ k, laws_FnExactCodesInCommon.f k l0_0 l1 l2 = some true := by
  refine Ev.rounds (r := true) ?_
  unfold laws_FnExactCodesInCommon.f
  by_cases c1 : (l1.length : Int) > 1048576
  · exact Ev.iff_pos c1 (Ev.now _)
  refine Ev.iff_neg c1 ?_
  have k1 : l1.length ≤ 1048576 := by omega
  have km1 : l1.length < maxLen := by unfold maxLen; omega
  by_cases c2 : (l2.length : Int) > 1048576
  · exact Ev.iff_pos c2 (Ev.now _)
  refine Ev.iff_neg c2 ?_
  have k2 : l2.length ≤ 1048576 := by omega
  have km2 : l2.length < maxLen := by unfold maxLen; omega
  refine Ev.bindc (szSpace_eq _ _ m0 (by omega) (by omega)) ?_
  by_cases h0 : (1048576 : Int) < (l0_0.length : Int)
  · exact Ev.iff_pos (by rw [if_pos h0]; omega) (Ev.now _)
  rw [if_neg h0]
  refine Ev.iff_neg (by omega) ?_
  have hl0 : l0_0.length ≤ 1048576 := by omega
  have hm0 : l0_0.length < maxLen := by unfold maxLen; omega
  have hr0 := commonR_len l0_0 k1 l2
  repeat' first
    | exact Ev.now _
    | refine Ev.bind (toInt64S_ev _ k1) ?_
    | refine Ev.bind (toInt64S_ev _ k2) ?_
    | refine Ev.bind (toSpace_ev _ hl0) ?_
    | refine Ev.bind (specCodesInCommon_ev _ k1 k2) ?_
    | refine Ev.bind (Ev.const (implCodesInCommon_eq _ k1 k2)) ?_
    | (refine Ev.bind (eqSpace_ev _ _ ?_) ?_; (· (first | omega | (unfold maxLen; omega) | (simp only [iota_length]; omega) | (simp only [iota_length]; unfold maxLen; omega))))
    | (refine Ev.bind (eqInt64S_ev _ _ ?_) ?_; (· (first | omega | (unfold maxLen; omega) | (simp only [iota_length]; omega) | (simp only [iota_length]; unfold maxLen; omega))))
    | (refine Ev.bind (markSpace_ev _ _ ?_ ?_ ?_) ?_; (· (first | omega | (unfold maxLen; omega) | (simp only [iota_length]; omega) | (simp only [iota_length]; unfold maxLen; omega))); (· (first | omega | (unfold maxLen; omega) | (simp only [iota_length]; omega) | (simp only [iota_length]; unfold maxLen; omega))); (· (first | omega | (unfold maxLen; omega) | (simp only [iota_length]; omega) | (simp only [iota_length]; unfold maxLen; omega))))
    | (refine Ev.bind (markInt64S_ev _ _ ?_ ?_ ?_) ?_; (· (first | omega | (unfold maxLen; omega) | (simp only [iota_length]; omega) | (simp only [iota_length]; unfold maxLen; omega))); (· (first | omega | (unfold maxLen; omega) | (simp only [iota_length]; omega) | (simp only [iota_length]; unfold maxLen; omega))); (· (first | omega | (unfold maxLen; omega) | (simp only [iota_length]; omega) | (simp only [iota_length]; unfold maxLen; omega))))
    | (refine Ev.bind (heldInt64S_ev _ _ ?_ ?_) ?_; (· (first | omega | (unfold maxLen; omega) | (simp only [iota_length]; omega) | (simp only [iota_length]; unfold maxLen; omega))); (· (first | omega | (unfold maxLen; omega) | (simp only [iota_length]; omega) | (simp only [iota_length]; unfold maxLen; omega))))
    | (refine Ev.iff_pos ?_ ?_; (· (first | (simp; done) | omega)))
    | (refine Ev.iff_neg ?_ ?_; (· (first | (simp; done) | omega)))
    | refine Ev.step (show ∀ k, laws_FnExactCodesInCommon.j0 (k + 1) _ _ _ _ _ _ _ _ _ _ _ = _ from fun k => by rw [laws_FnExactCodesInCommon.j0]) ?_
    | refine Ev.step (show ∀ k, laws_FnExactCodesInCommon.j1 (k + 1) _ _ _ _ _ _ _ = _ from fun k => by rw [laws_FnExactCodesInCommon.j1]) ?_
    | refine Ev.step (show ∀ k, laws_FnExactCodesInCommon.j2 (k + 1) _ _ _ = _ from fun k => by rw [laws_FnExactCodesInCommon.j2]) ?_
end Go.Proofs.Ythcodiknghfmmaa.Q
