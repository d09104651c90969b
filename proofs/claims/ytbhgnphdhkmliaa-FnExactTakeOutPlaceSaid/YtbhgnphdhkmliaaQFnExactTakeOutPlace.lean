/- The plain law of TakeOutPlace: the program's and the reference's TakeOutPlace answer alike. -/
import Derived.Test.YtbhgnphdhkmliaaQOut
import Derived.Test.YtbhgnphdhkmliaaHTakeOut
import Derived.Test.YtbhgnphdhkmliaaFspecTakeOutPlace
import Derived.Test.YtbhgnphdhkmliaaFlawsFnExactTakeOutPlace
set_option linter.unusedVariables false
set_option linter.unusedSimpArgs false
namespace Go.Proofs.Ytbhgnphdhkmliaa.Q
open Go.RowKit Go.Proofs.Ytbhgnphdhkmliaa.P Go.Proofs.YtbhgnphdhkmliaaW.PrintWords CC

theorem specTake_ev (s : List Int) {c : List Int} (hcl : c.length ≤ 1048576) (i : Int) : Ev (fun k => spec_TakeOutPlace.f k s c i) (takeR s c i) := by
  unfold spec_TakeOutPlace.f takeR rPlace
  refine Ev.bind (l03Place_ev s hcl i) ?_
  by_cases h : rCode s c [] = 0
  · obtain ⟨hs, hc, _⟩ := rCode_zero h
    rw [if_pos h, if_pos h]
    by_cases hi : 0 ≤ i ∧ i < s.length
    · obtain ⟨n, rfl⟩ := Int.eq_ofNat_of_zero_le hi.1
      have hn : n < s.length := by omega
      have hq := all_rd (isSp_all hs) hn
      have h3 : (0 ≤ (n : Int) ∧ (n : Int) < s.length) ∧ (0 : Int) ≤ 0 ∧ 0 < rd s (n : Int) := ⟨hi, by omega, by omega⟩
      rw [if_pos hi, if_pos h3]
      refine Ev.iff_pos rfl ?_
      by_cases h1 : s.length = 1
      · rw [if_pos h1, if_neg (by decide)]
        have e : ((s.length : Int) == 1) = true := by simp [h1]
        rw [e]
        refine Ev.step (fun k => by simp only [spec_TakeOutPlace.j0]; exact rfl) ?_
        refine Ev.iff_pos (by first | rfl | trivial) ?_
        refine Ev.step (fun k => by simp only [spec_TakeOutPlace.j1]; exact rfl) ?_
        refine Ev.iff_neg (by decide) (Ev.now _)
      · rw [if_neg h1, if_pos rfl]
        have e : ((s.length : Int) == 1) = false := by
          have : (s.length : Int) ≠ 1 := by omega
          simpa using this
        rw [e]
        refine Ev.step (fun k => by simp only [spec_TakeOutPlace.j0]; exact rfl) ?_
        refine Ev.iff_neg (by simp) ?_
        refine Ev.step (fun k => by simp only [spec_TakeOutPlace.j1]; exact rfl) ?_
        refine Ev.iff_pos (by first | rfl | trivial) ?_
        refine Ev.bindc (l03Without_eq (isSp_len hs) hn) ?_
        refine Ev.bind (l03Out_ev hs hc hn (by omega) (-1)) ?_
        have ef : c.filter (selW s n (-1)) = c := by
          rw [List.filter_eq_self]
          intro x _
          simp [selW]
        rw [ef, Int.toNat_natCast]
        exact Ev.now _
    · rw [if_neg hi, if_neg (show ¬ ((0 ≤ i ∧ i < (s.length : Int)) ∧ (0 : Int) ≤ 0 ∧ 0 < rd s i) from fun z => hi z.1)]
      refine Ev.iff_neg (by decide) ?_
      rw [if_neg (by decide)]
      refine Ev.step (fun k => by simp only [spec_TakeOutPlace.j0]; exact rfl) ?_
      refine Ev.iff_neg (by simp) ?_
      refine Ev.step (fun k => by simp only [spec_TakeOutPlace.j1]; exact rfl) ?_
      exact Ev.iff_neg (by decide) (Ev.now _)
  · rw [if_neg h, if_neg h, if_neg h]
    refine Ev.iff_neg h ?_
    refine Ev.step (fun k => by simp only [spec_TakeOutPlace.j0]; exact rfl) ?_
    refine Ev.iff_neg (by simp) ?_
    refine Ev.step (fun k => by simp only [spec_TakeOutPlace.j1]; exact rfl) ?_
    exact Ev.iff_neg h (Ev.now _)
theorem implTake_eq (s : List Int) {c : List Int} (hcl : c.length ≤ 1048576) (i : Int) : impl_TakeOutPlace.f s c i = some (takeR s c i) := by
  unfold impl_TakeOutPlace.f
  rw [if_pos hcl]
theorem takeR_len (s : List Int) {c : List Int} (hcl : c.length ≤ 1048576) (i : Int) : (takeR s c i).1.length ≤ 1048576 ∧ (takeR s c i).2.1.length ≤ 1048576 := by
  unfold takeR
  by_cases h : rPlace s c i 0 = 0
  · rw [if_pos h]
    have hs := (rCode_zero (rPlace_zero h).1).1
    have hl := isSp_len hs
    have h1 := List.length_eraseIdx_le s i.toNat
    have h2 := ordL_len (c.map (outW s i.toNat))
    rw [List.length_map] at h2
    exact ⟨by show (s.eraseIdx i.toNat).length ≤ _; omega, Nat.le_trans h2 hcl⟩
  · rw [if_neg h]
    simp
theorem FnExactTakeOutPlace (l0_0 : List Int) (m0 : l0_0.length ≤ maxLen) (w0 : ∀ x ∈ l0_0, (Lit.int .i64 x).wf = true) (l1 : List Int) (m1 : l1.length ≤ maxLen) (b1 : l1.length * 8 ≤ 140737488351232) (w1 : ∀ x ∈ l1, (Lit.int .i64 x).wf = true) (a2 : Int) (w2 : (Lit.int .i64 a2).wf = true) : ∃ k, laws_FnExactTakeOutPlace.f k l0_0 l1 a2 = some true := by
  refine Ev.rounds (r := true) ?_
  unfold laws_FnExactTakeOutPlace.f
  by_cases c1 : (l1.length : Int) > 1048576
  · exact Ev.iff_pos c1 (Ev.now _)
  refine Ev.iff_neg c1 ?_
  have k1 : l1.length ≤ 1048576 := by omega
  have km1 : l1.length < maxLen := by unfold maxLen; omega
  refine Ev.bindc (szSpace_eq _ _ m0 (by omega) (by omega)) ?_
  by_cases h0 : (1048576 : Int) < (l0_0.length : Int)
  · exact Ev.iff_pos (by rw [if_pos h0]; omega) (Ev.now _)
  rw [if_neg h0]
  refine Ev.iff_neg (by omega) ?_
  have hl0 : l0_0.length ≤ 1048576 := by omega
  have hm0 : l0_0.length < maxLen := by unfold maxLen; omega
  have hr0 := (takeR_len l0_0 k1 a2).1
  have hr1 := (takeR_len l0_0 k1 a2).2
  repeat' first
    | exact Ev.now _
    | refine Ev.bind (toInt64S_ev _ k1) ?_
    | refine Ev.bind (toSpace_ev _ hl0) ?_
    | refine Ev.bind (specTake_ev _ k1 _) ?_
    | refine Ev.bind (Ev.const (implTake_eq _ k1 _)) ?_
    | (refine Ev.bind (eqSpace_ev _ _ ?_) ?_; (· (first | omega | (unfold maxLen; omega) | (simp only [iota_length]; omega) | (simp only [iota_length]; unfold maxLen; omega))))
    | (refine Ev.bind (eqInt64S_ev _ _ ?_) ?_; (· (first | omega | (unfold maxLen; omega) | (simp only [iota_length]; omega) | (simp only [iota_length]; unfold maxLen; omega))))
    | (refine Ev.bind (markSpace_ev _ _ ?_ ?_ ?_) ?_; (· (first | omega | (unfold maxLen; omega) | (simp only [iota_length]; omega) | (simp only [iota_length]; unfold maxLen; omega))); (· (first | omega | (unfold maxLen; omega) | (simp only [iota_length]; omega) | (simp only [iota_length]; unfold maxLen; omega))); (· (first | omega | (unfold maxLen; omega) | (simp only [iota_length]; omega) | (simp only [iota_length]; unfold maxLen; omega))))
    | (refine Ev.bind (markInt64S_ev _ _ ?_ ?_ ?_) ?_; (· (first | omega | (unfold maxLen; omega) | (simp only [iota_length]; omega) | (simp only [iota_length]; unfold maxLen; omega))); (· (first | omega | (unfold maxLen; omega) | (simp only [iota_length]; omega) | (simp only [iota_length]; unfold maxLen; omega))); (· (first | omega | (unfold maxLen; omega) | (simp only [iota_length]; omega) | (simp only [iota_length]; unfold maxLen; omega))))
    | (refine Ev.bind (heldSpace_ev _ _ ?_ ?_) ?_; (· (first | omega | (unfold maxLen; omega) | (simp only [iota_length]; omega) | (simp only [iota_length]; unfold maxLen; omega))); (· (first | omega | (unfold maxLen; omega) | (simp only [iota_length]; omega) | (simp only [iota_length]; unfold maxLen; omega))))
    | (refine Ev.bind (heldInt64S_ev _ _ ?_ ?_) ?_; (· (first | omega | (unfold maxLen; omega) | (simp only [iota_length]; omega) | (simp only [iota_length]; unfold maxLen; omega))); (· (first | omega | (unfold maxLen; omega) | (simp only [iota_length]; omega) | (simp only [iota_length]; unfold maxLen; omega))))
    | (refine Ev.iff_pos ?_ ?_; (· (first | (simp; done) | omega)))
    | (refine Ev.iff_neg ?_ ?_; (· (first | (simp; done) | omega)))
    | refine Ev.step (show ∀ k, laws_FnExactTakeOutPlace.j0 (k + 1) _ _ _ _ _ _ _ _ _ _ _ _ = _ from fun k => by rw [laws_FnExactTakeOutPlace.j0]) ?_
    | refine Ev.step (show ∀ k, laws_FnExactTakeOutPlace.j1 (k + 1) _ _ _ _ _ _ _ _ _ = _ from fun k => by rw [laws_FnExactTakeOutPlace.j1]) ?_
    | refine Ev.step (show ∀ k, laws_FnExactTakeOutPlace.j2 (k + 1) _ _ _ _ = _ from fun k => by rw [laws_FnExactTakeOutPlace.j2]) ?_
end Go.Proofs.Ytbhgnphdhkmliaa.Q
