/- The plain law of CodesTogether: the program's and the reference's CodesTogether answer alike. -/
import Derived.Test.YtccolbomlgokiaaQPut
import Derived.Test.YtccolbomlgokiaaHTogether
import Derived.Test.YtccolbomlgokiaaFspecCodesTogether
import Derived.Test.YtccolbomlgokiaaFlawsFnExactCodesTogether
set_option linter.unusedVariables false
set_option linter.unusedSimpArgs false
namespace Go.Proofs.Ytccolbomlgokiaa.Q
open Go.RowKit Go.Proofs.Ytccolbomlgokiaa.P Go.Proofs.YtccolbomlgokiaaW.PrintWords CC
theorem rd_mem2 {l : List Int} {n : Nat} (h : n < l.length) : rd l (n : Int) ∈ l := by
  have : rd l (n : Int) = l[n] := by simp [rd, List.getD_eq_getElem?_getD, h]
  rw [this]
  exact List.getElem_mem h
theorem l03Two_ev (s : List Int) {C D : List Int} (hC : C.length ≤ 1048576) (hD : D.length ≤ 1048576) : Ev (fun k => spec_l03Two.f k s C D) (rTwo s C D) := by
  unfold spec_l03Two.f rTwo
  refine Ev.bind (l01Given_ev s hC) ?_
  by_cases h : rCode s C [] = 0
  · simp only [if_pos h]
    exact Ev.bind (l01Given_ev s hD) (Ev.now _)
  · simp only [if_neg h]
    exact Ev.now _
theorem specTogether_l {C D : List Int} (hC : C.length ≤ 1024) (hD : D.length ≤ 1024) : ∀ (m n : Nat), n + m = D.length →
    Ev (fun k => spec_CodesTogether.l0 k D (ordL (C ++ D.take n)) (D.length : Int) (n : Int)) (ordL (C ++ D), 0)
  | 0, n, hm => by
    refine Ev.step (fun k => by simp only [spec_CodesTogether.l0]; exact rfl) ?_
    refine Ev.iff_neg (by omega) ?_
    rw [List.take_of_length_le (by omega)]
    exact Ev.now _
  | m + 1, n, hm => by
    have hn : n < D.length := by omega
    have ih := specTogether_l hC hD m (n + 1) (by omega)
    rw [take_rd8 hn, ← List.append_assoc] at ih
    have hol := ordL_len (C ++ D.take n)
    have hl2 : (D.take n).length ≤ n := List.length_take_le _ _
    rw [List.length_append] at hol
    refine Ev.step (fun k => by simp only [spec_CodesTogether.l0]; exact rfl) ?_
    refine Ev.iff_pos (by omega) (Ev.iff_pos (by omega) (Ev.iff_pos (by omega) ?_))
    refine Ev.bind (l01Put_ev (ordL_pw _) (by omega) _) ?_
    rw [wrap_nat (by unfold maxLen; omega), ordL_put]
    exact ih
theorem isC_asc2 {s c : List Int} (h : isC s c = true) : asc c = true := by
  unfold isC at h
  rw [Bool.and_eq_true] at h
  exact h.2
theorem mappedL_id (l : List Int) : mappedL (fun x => x) l = ordL l := by
  unfold mappedL
  rw [List.map_id']
theorem specCodesTogether_ev (s : List Int) {C D : List Int} (hC : C.length ≤ 1048576) (hD : D.length ≤ 1048576) : Ev (fun k => spec_CodesTogether.f k s C D) (togetherR s C D) := by
  unfold spec_CodesTogether.f togetherR
  refine Ev.bind (l03Two_ev s hC hD) ?_
  by_cases h : rTwo s C D = 0
  · obtain ⟨hs, h1, h2⟩ := rTwo_zero h
    simp only [if_pos h]
    refine Ev.bindc (l01Own_eq C hC) ?_
    have := specTogether_l (isC_len hs h1) (isC_len hs h2) D.length 0 (by omega)
    rw [List.take_zero, List.append_nil, ordL_asc (asc_pw (isC_asc2 h1))] at this
    rw [mappedL_id]
    exact this
  · simp only [if_neg h]
    exact Ev.now _
theorem togetherR_len (s C D : List Int) : (togetherR s C D).1.length ≤ 2048 := by
  unfold togetherR
  by_cases h : rTwo s C D = 0
  · rw [if_pos h]
    obtain ⟨hs, h1, h2⟩ := rTwo_zero h
    have a := isC_len hs h1
    have b := isC_len hs h2
    have := ordL_len (C ++ D)
    rw [List.length_append] at this
    show (mappedL _ _).length ≤ 2048
    rw [mappedL_id]
    omega
  · rw [if_neg h]
    simp
theorem implCodesTogether_eq (s : List Int) {C D : List Int} (hC : C.length ≤ 1048576) (hD : D.length ≤ 1048576) : impl_CodesTogether.f s C D = some (togetherR s C D) := by
  unfold impl_CodesTogether.f
  rw [if_pos ⟨hC, hD⟩]
theorem FnExactCodesTogether (l0_0 : List Int) (m0 : l0_0.length ≤ maxLen) (w0 : ∀ x ∈ l0_0, (Lit.int .i64 x).wf = true) (l1 : List Int) (m1 : l1.length ≤ maxLen) (b1 : l1.length * 8 ≤ 140737488351232) (w1 : ∀ x ∈ l1, (Lit.int .i64 x).wf = true) (l2 : List Int) (m2 : l2.length ≤ maxLen) (b2 : l2.length * 8 ≤ 140737488351232) (w2 : ∀ x ∈ l2, (Lit.int .i64 x).wf = true) : ∃ k, laws_FnExactCodesTogether.f k l0_0 l1 l2 = some true := by
  refine Ev.rounds (r := true) ?_
  unfold laws_FnExactCodesTogether.f
  by_cases c1 : (l1.length : Int) > 1048576
  · exact Ev.iff_pos c1 (Ev.now _)
  refine Ev.iff_neg c1 ?_
  have k1 : l1.length ≤ 1048576 := by omega
  have km1 : l1.length < maxLen := by unfold maxLen; omega
  by_cases c2 : (l2.length : Int) > 1048576
  · exact Ev.iff_pos c2 (Ev.now _)
  refine Ev.iff_neg c2 ?_
  have k2 : l2.length ≤ 1048576 := by omega
  have km2 : l2.length < maxLen := by unfold maxLen; omega
  refine Ev.bindc (szSpace_eq _ _ m0 (by omega) (by omega)) ?_
  by_cases h0 : (1048576 : Int) < (l0_0.length : Int)
  · exact Ev.iff_pos (by rw [if_pos h0]; omega) (Ev.now _)
  rw [if_neg h0]
  refine Ev.iff_neg (by omega) ?_
  have hl0 : l0_0.length ≤ 1048576 := by omega
  have hm0 : l0_0.length < maxLen := by unfold maxLen; omega
  have hr0 := togetherR_len l0_0 l1 l2
  repeat' first
    | exact Ev.now _
    | refine Ev.bind (toInt64S_ev _ k1) ?_
    | refine Ev.bind (toInt64S_ev _ k2) ?_
    | refine Ev.bind (toSpace_ev _ hl0) ?_
    | refine Ev.bind (specCodesTogether_ev _ k1 k2) ?_
    | refine Ev.bind (Ev.const (implCodesTogether_eq _ k1 k2)) ?_
    | (refine Ev.bind (eqSpace_ev _ _ ?_) ?_; (· (first | omega | (unfold maxLen; omega) | (simp only [iota_length]; omega) | (simp only [iota_length]; unfold maxLen; omega))))
    | (refine Ev.bind (eqInt64S_ev _ _ ?_) ?_; (· (first | omega | (unfold maxLen; omega) | (simp only [iota_length]; omega) | (simp only [iota_length]; unfold maxLen; omega))))
    | (refine Ev.bind (markSpace_ev _ _ ?_ ?_ ?_) ?_; (· (first | omega | (unfold maxLen; omega) | (simp only [iota_length]; omega) | (simp only [iota_length]; unfold maxLen; omega))); (· (first | omega | (unfold maxLen; omega) | (simp only [iota_length]; omega) | (simp only [iota_length]; unfold maxLen; omega))); (· (first | omega | (unfold maxLen; omega) | (simp only [iota_length]; omega) | (simp only [iota_length]; unfold maxLen; omega))))
    | (refine Ev.bind (markInt64S_ev _ _ ?_ ?_ ?_) ?_; (· (first | omega | (unfold maxLen; omega) | (simp only [iota_length]; omega) | (simp only [iota_length]; unfold maxLen; omega))); (· (first | omega | (unfold maxLen; omega) | (simp only [iota_length]; omega) | (simp only [iota_length]; unfold maxLen; omega))); (· (first | omega | (unfold maxLen; omega) | (simp only [iota_length]; omega) | (simp only [iota_length]; unfold maxLen; omega))))
    | (refine Ev.bind (heldInt64S_ev _ _ ?_ ?_) ?_; (· (first | omega | (unfold maxLen; omega) | (simp only [iota_length]; omega) | (simp only [iota_length]; unfold maxLen; omega))); (· (first | omega | (unfold maxLen; omega) | (simp only [iota_length]; omega) | (simp only [iota_length]; unfold maxLen; omega))))
    | (refine Ev.iff_pos ?_ ?_; (· (first | (simp; done) | omega)))
    | (refine Ev.iff_neg ?_ ?_; (· (first | (simp; done) | omega)))
    | refine Ev.step (show ∀ k, laws_FnExactCodesTogether.j0 (k + 1) _ _ _ _ _ _ _ _ _ _ _ = _ from fun k => by rw [laws_FnExactCodesTogether.j0]) ?_
    | refine Ev.step (show ∀ k, laws_FnExactCodesTogether.j1 (k + 1) _ _ _ _ _ _ _ = _ from fun k => by rw [laws_FnExactCodesTogether.j1]) ?_
    | refine Ev.step (show ∀ k, laws_FnExactCodesTogether.j2 (k + 1) _ _ _ = _ from fun k => by rw [laws_FnExactCodesTogether.j2]) ?_
end Go.Proofs.Ytccolbomlgokiaa.Q
