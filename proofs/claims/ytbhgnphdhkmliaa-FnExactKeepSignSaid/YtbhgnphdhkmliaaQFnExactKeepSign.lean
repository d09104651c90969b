/- The plain law of KeepSign: the program's and the reference's KeepSign answer alike. -/
import Derived.Test.YtbhgnphdhkmliaaQOut
import Derived.Test.YtbhgnphdhkmliaaHKeep
import Derived.Test.YtbhgnphdhkmliaaFspecKeepSign
import Derived.Test.YtbhgnphdhkmliaaFlawsFnExactKeepSign
set_option linter.unusedVariables false
set_option linter.unusedSimpArgs false
namespace Go.Proofs.Ytbhgnphdhkmliaa.Q
open Go.RowKit Go.Proofs.Ytbhgnphdhkmliaa.P Go.Proofs.YtbhgnphdhkmliaaW.PrintWords CC

theorem keptW_sel {s : List Int} (hs : isSp s = true) {n : Nat} (hn : n < s.length) {d : Int} (h0 : 0 ≤ d) (c : List Int) : keptW s n d c = c.filter (selW s n d) := by
  unfold keptW
  apply List.filter_congr
  intro x _
  have hl := isSp_len hs
  have hd := dg_length s x
  have e1 : rd (dig8 s x) (n : Int) = rd (dg s x) (n : Int) := by
    rw [dig8_eq hl, rd_nat, rd_nat, List.getD_eq_getElem?_getD, List.getElem?_append_left (by omega), List.getD_eq_getElem?_getD]
  have h1 : ¬ d < 0 := by omega
  rw [e1]
  simp [selW, h1]
  rfl
theorem specKeep_ev (s : List Int) {c : List Int} (hcl : c.length ≤ 1048576) (i d : Int) : Ev (fun k => spec_KeepSign.f k s c i d) (keepR s c i d) := by
  unfold spec_KeepSign.f keepR rPlace
  refine Ev.bind (l03Place_ev s hcl i) ?_
  by_cases h : rCode s c [] = 0
  · obtain ⟨hs, hc, _⟩ := rCode_zero h
    rw [if_pos h, if_pos h]
    by_cases hi : 0 ≤ i ∧ i < s.length
    · obtain ⟨n, rfl⟩ := Int.eq_ofNat_of_zero_le hi.1
      have hn : n < s.length := by omega
      have hq := all_rd (isSp_all hs) hn
      have e1 : wrap64 (rd s (n : Int) - 1) = rd s (n : Int) - 1 := wrap_id (by omega) (by omega)
      rw [if_pos hi]
      refine Ev.iff_pos rfl (Ev.iff_pos hi.1 (Ev.iff_pos hi.2 ?_))
      rw [e1]
      refine Ev.bindc (l01In_eq _ _ _) ?_
      by_cases hd : 0 ≤ d ∧ d < rd s (n : Int)
      · have h3 : (0 ≤ (n : Int) ∧ (n : Int) < s.length) ∧ (0 : Int) ≤ d ∧ d < rd s (n : Int) := ⟨hi, hd⟩
        rw [if_pos h3, decide_eq_true (show 0 ≤ d ∧ d ≤ rd s (n : Int) - 1 by omega)]
        refine Ev.step (fun k => by simp only [spec_KeepSign.j0]; exact rfl) ?_
        refine Ev.iff_neg (by simp) ?_
        refine Ev.step (fun k => by simp only [spec_KeepSign.j1]; exact rfl) ?_
        refine Ev.iff_pos (by first | rfl | trivial) ?_
        by_cases h1 : s.length = 1
        · rw [if_pos h1, if_neg (by decide)]
          have e : ((s.length : Int) == 1) = true := by simp [h1]
          rw [e]
          refine Ev.step (fun k => by simp only [spec_KeepSign.j2]; exact rfl) ?_
          refine Ev.iff_pos (by first | rfl | trivial) ?_
          refine Ev.step (fun k => by simp only [spec_KeepSign.j3]; exact rfl) ?_
          exact Ev.iff_neg (by decide) (Ev.now _)
        · rw [if_neg h1, if_pos rfl]
          have e : ((s.length : Int) == 1) = false := by
            have : (s.length : Int) ≠ 1 := by omega
            simpa using this
          rw [e]
          refine Ev.step (fun k => by simp only [spec_KeepSign.j2]; exact rfl) ?_
          refine Ev.iff_neg (by simp) ?_
          refine Ev.step (fun k => by simp only [spec_KeepSign.j3]; exact rfl) ?_
          refine Ev.iff_pos (by first | rfl | trivial) ?_
          refine Ev.bindc (l03Without_eq (isSp_len hs) hn) ?_
          refine Ev.bind (l03Out_ev hs hc hn (by omega) d) ?_
          rw [Int.toNat_natCast, keptW_sel hs hn hd.1]
          exact Ev.now _
      · rw [if_neg (show ¬ ((0 ≤ (n : Int) ∧ (n : Int) < s.length) ∧ (0 : Int) ≤ d ∧ d < rd s (n : Int)) from fun z => hd z.2), decide_eq_false (show ¬ (0 ≤ d ∧ d ≤ rd s (n : Int) - 1) by omega), if_neg (by decide)]
        refine Ev.step (fun k => by simp only [spec_KeepSign.j0]; exact rfl) ?_
        refine Ev.iff_pos (by first | rfl | trivial | simp) ?_
        refine Ev.step (fun k => by simp only [spec_KeepSign.j1]; exact rfl) ?_
        refine Ev.iff_neg (by decide) ?_
        refine Ev.step (fun k => by simp only [spec_KeepSign.j2]; exact rfl) ?_
        refine Ev.iff_neg (by simp) ?_
        refine Ev.step (fun k => by simp only [spec_KeepSign.j3]; exact rfl) ?_
        exact Ev.iff_neg (by decide) (Ev.now _)
    · rw [if_neg hi, if_neg (show ¬ ((0 ≤ i ∧ i < (s.length : Int)) ∧ (0 : Int) ≤ d ∧ d < rd s i) from fun z => hi z.1)]
      refine Ev.iff_neg (by decide) ?_
      rw [if_neg (by decide)]
      refine Ev.step (fun k => by simp only [spec_KeepSign.j0]; exact rfl) ?_
      refine Ev.iff_neg (by simp) ?_
      refine Ev.step (fun k => by simp only [spec_KeepSign.j1]; exact rfl) ?_
      refine Ev.iff_neg (by decide) ?_
      refine Ev.step (fun k => by simp only [spec_KeepSign.j2]; exact rfl) ?_
      refine Ev.iff_neg (by simp) ?_
      refine Ev.step (fun k => by simp only [spec_KeepSign.j3]; exact rfl) ?_
      exact Ev.iff_neg (by decide) (Ev.now _)
  · rw [if_neg h, if_neg h, if_neg h]
    refine Ev.iff_neg h ?_
    refine Ev.step (fun k => by simp only [spec_KeepSign.j0]; exact rfl) ?_
    refine Ev.iff_neg (by simp) ?_
    refine Ev.step (fun k => by simp only [spec_KeepSign.j1]; exact rfl) ?_
    refine Ev.iff_neg h ?_
    refine Ev.step (fun k => by simp only [spec_KeepSign.j2]; exact rfl) ?_
    refine Ev.iff_neg (by simp) ?_
    refine Ev.step (fun k => by simp only [spec_KeepSign.j3]; exact rfl) ?_
    exact Ev.iff_neg h (Ev.now _)
theorem implKeep_eq (s : List Int) {c : List Int} (hcl : c.length ≤ 1048576) (i d : Int) : impl_KeepSign.f s c i d = some (keepR s c i d) := by
  unfold impl_KeepSign.f
  rw [if_pos hcl]
theorem keepR_len (s : List Int) {c : List Int} (hcl : c.length ≤ 1048576) (i d : Int) : (keepR s c i d).1.length ≤ 1048576 ∧ (keepR s c i d).2.1.length ≤ 1048576 := by
  unfold keepR
  by_cases h : rPlace s c i d = 0
  · rw [if_pos h]
    have hs := (rCode_zero (rPlace_zero h).1).1
    have hl := isSp_len hs
    have h1 := List.length_eraseIdx_le s i.toNat
    have h2 := ordL_len ((keptW s i.toNat d c).map (outW s i.toNat))
    rw [List.length_map] at h2
    have h3 : (keptW s i.toNat d c).length ≤ c.length := List.length_filter_le _ _
    exact ⟨by show (s.eraseIdx i.toNat).length ≤ _; omega, Nat.le_trans h2 (Nat.le_trans h3 hcl)⟩
  · rw [if_neg h]
    simp
theorem FnExactKeepSign (l0_0 : List Int) (m0 : l0_0.length ≤ maxLen) (w0 : ∀ x ∈ l0_0, (Lit.int .i64 x).wf = true) (l1 : List Int) (m1 : l1.length ≤ maxLen) (b1 : l1.length * 8 ≤ 140737488351232) (w1 : ∀ x ∈ l1, (Lit.int .i64 x).wf = true) (a2 : Int) (w2 : (Lit.int .i64 a2).wf = true) (a3 : Int) (w3 : (Lit.int .i64 a3).wf = true) : ∃ k, laws_FnExactKeepSign.f k l0_0 l1 a2 a3 = some true := by
  refine Ev.rounds (r := true) ?_
  unfold laws_FnExactKeepSign.f
  by_cases c1 : (l1.length : Int) > 1048576
  · exact Ev.iff_pos c1 (Ev.now _)
  refine Ev.iff_neg c1 ?_
  have k1 : l1.length ≤ 1048576 := by omega
  have km1 : l1.length < maxLen := by unfold maxLen; omega
  refine Ev.bindc (szSpace_eq _ _ m0 (by omega) (by omega)) ?_
  by_cases h0 : (1048576 : Int) < (l0_0.length : Int)
  · exact Ev.iff_pos (by rw [if_pos h0]; omega) (Ev.now _)
  rw [if_neg h0]
  refine Ev.iff_neg (by omega) ?_
  have hl0 : l0_0.length ≤ 1048576 := by omega
  have hm0 : l0_0.length < maxLen := by unfold maxLen; omega
  have hr0 := (keepR_len l0_0 k1 a2 a3).1
  have hr1 := (keepR_len l0_0 k1 a2 a3).2
  repeat' first
    | exact Ev.now _
    | refine Ev.bind (toInt64S_ev _ k1) ?_
    | refine Ev.bind (toSpace_ev _ hl0) ?_
    | refine Ev.bind (specKeep_ev _ k1 _ _) ?_
    | refine Ev.bind (Ev.const (implKeep_eq _ k1 _ _)) ?_
    | (refine Ev.bind (eqSpace_ev _ _ ?_) ?_; (· (first | omega | (unfold maxLen; omega) | (simp only [iota_length]; omega) | (simp only [iota_length]; unfold maxLen; omega))))
    | (refine Ev.bind (eqInt64S_ev _ _ ?_) ?_; (· (first | omega | (unfold maxLen; omega) | (simp only [iota_length]; omega) | (simp only [iota_length]; unfold maxLen; omega))))
    | (refine Ev.bind (markSpace_ev _ _ ?_ ?_ ?_) ?_; (· (first | omega | (unfold maxLen; omega) | (simp only [iota_length]; omega) | (simp only [iota_length]; unfold maxLen; omega))); (· (first | omega | (unfold maxLen; omega) | (simp only [iota_length]; omega) | (simp only [iota_length]; unfold maxLen; omega))); (· (first | omega | (unfold maxLen; omega) | (simp only [iota_length]; omega) | (simp only [iota_length]; unfold maxLen; omega))))
    | (refine Ev.bind (markInt64S_ev _ _ ?_ ?_ ?_) ?_; (· (first | omega | (unfold maxLen; omega) | (simp only [iota_length]; omega) | (simp only [iota_length]; unfold maxLen; omega))); (· (first | omega | (unfold maxLen; omega) | (simp only [iota_length]; omega) | (simp only [iota_length]; unfold maxLen; omega))); (· (first | omega | (unfold maxLen; omega) | (simp only [iota_length]; omega) | (simp only [iota_length]; unfold maxLen; omega))))
    | (refine Ev.bind (heldSpace_ev _ _ ?_ ?_) ?_; (· (first | omega | (unfold maxLen; omega) | (simp only [iota_length]; omega) | (simp only [iota_length]; unfold maxLen; omega))); (· (first | omega | (unfold maxLen; omega) | (simp only [iota_length]; omega) | (simp only [iota_length]; unfold maxLen; omega))))
    | (refine Ev.bind (heldInt64S_ev _ _ ?_ ?_) ?_; (· (first | omega | (unfold maxLen; omega) | (simp only [iota_length]; omega) | (simp only [iota_length]; unfold maxLen; omega))); (· (first | omega | (unfold maxLen; omega) | (simp only [iota_length]; omega) | (simp only [iota_length]; unfold maxLen; omega))))
    | (refine Ev.iff_pos ?_ ?_; (· (first | (simp; done) | omega)))
    | (refine Ev.iff_neg ?_ ?_; (· (first | (simp; done) | omega)))
    | refine Ev.step (show ∀ k, laws_FnExactKeepSign.j0 (k + 1) _ _ _ _ _ _ _ _ _ _ _ _ _ = _ from fun k => by rw [laws_FnExactKeepSign.j0]) ?_
    | refine Ev.step (show ∀ k, laws_FnExactKeepSign.j1 (k + 1) _ _ _ _ _ _ _ _ _ _ = _ from fun k => by rw [laws_FnExactKeepSign.j1]) ?_
    | refine Ev.step (show ∀ k, laws_FnExactKeepSign.j2 (k + 1) _ _ _ _ = _ from fun k => by rw [laws_FnExactKeepSign.j2]) ?_
end Go.Proofs.Ytbhgnphdhkmliaa.Q
