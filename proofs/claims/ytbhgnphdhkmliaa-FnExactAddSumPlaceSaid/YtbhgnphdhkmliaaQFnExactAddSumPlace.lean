/- The plain law of AddSumPlace: the program's and the reference's AddSumPlace answer alike. -/
import Derived.Test.YtbhgnphdhkmliaaQPut
import Derived.Test.YtbhgnphdhkmliaaQDigits
import Derived.Test.YtbhgnphdhkmliaaQGiven
import Derived.Test.YtbhgnphdhkmliaaHAddSum
import Derived.Test.YtbhgnphdhkmliaaFspecl03Plus
import Derived.Test.YtbhgnphdhkmliaaFspecAddSumPlace
import Derived.Test.YtbhgnphdhkmliaaFlawsFnExactAddSumPlace
set_option linter.unusedVariables false
set_option linter.unusedSimpArgs false
namespace Go.Proofs.Ytbhgnphdhkmliaa.Q
open Go.RowKit Go.Proofs.Ytbhgnphdhkmliaa.P Go.Proofs.YtbhgnphdhkmliaaW.PrintWords CC

theorem l03Plus_ev (s x : List Int) (hs : s.length ≤ 1048576) (hx : x.length ≤ 1048576) : Ev (fun k => spec_l03Plus.f k s x) (s ++ x, isSp (s ++ x)) := by
  unfold spec_l03Plus.f
  refine Ev.bindc (l01Own_eq _ hs) ?_
  refine Ev.iff_pos (by omega) ?_
  refine Ev.bindc rfl ?_
  exact Ev.bind (l01Is_ev _) (Ev.now _)
theorem dig8_sum {s : List Int} (hs : isSp s = true) (x : Int) : (dig8 s x).sum = (dg s x).sum := by
  rw [dig8_eq (isSp_len hs), List.sum_append]
  simp
/-- Digits are small, and so is their sum. -/
theorem dg_sum_l {s : List Int} (hs : isSp s = true) (x : Int) : ∀ m, m ≤ s.length → 0 ≤ ((dg s x).take m).sum ∧ ((dg s x).take m).sum ≤ 3 * (m : Int)
  | 0, _ => by simp
  | m + 1, h => by
    have ih := dg_sum_l hs x m (by omega)
    have hl := dg_length s x
    have hq := all_rd (isSp_all hs) (show m < s.length by omega)
    have hr := inR_rd s (dg s x) m (inR_dg (isSp_all hs) x) (by omega) (by omega)
    rw [take_rd8 (show m < (dg s x).length by omega), List.sum_append]
    simp only [List.sum_cons, List.sum_nil]
    omega
theorem addW_eq {s : List Int} (hs : isSp s = true) (q x : Int) : addW s q x = x * q + (dg s x).sum % q := by
  unfold addW
  rw [dig8_sum hs]
theorem addW_mono {s : List Int} (hs : isSp s = true) {q : Int} (h0 : 2 ≤ q) {x y : Int} (h : x < y) : addW s q x < addW s q y := by
  rw [addW_eq hs, addW_eq hs]
  have a := Int.emod_nonneg (dg s x).sum (show q ≠ 0 by omega)
  have b := Int.emod_lt_of_pos (dg s x).sum (show 0 < q by omega)
  have c := Int.emod_nonneg (dg s y).sum (show q ≠ 0 by omega)
  have h2 : (x + 1) * q ≤ y * q := Int.mul_le_mul_of_nonneg_right (by omega) (by omega)
  rw [Int.add_mul] at h2
  omega
theorem addW_ord {s c : List Int} (hs : isSp s = true) (hc : isC s c = true) {q : Int} (h0 : 2 ≤ q) : mappedL (addW s q) c = c.map (addW s q) := by
  unfold mappedL
  refine ordL_asc ?_
  rw [List.pairwise_map]
  exact (asc_pw (isC_asc hc)).imp (fun h => addW_mono hs h0 h)
theorem specAdd_l {s c : List Int} (hs : isSp s = true) (hc : isC s c = true) {q : Int} (h0 : 2 ≤ q) (h1 : q ≤ 4) : ∀ (k m : Nat), m + k = c.length →
    Ev (fun j => spec_AddSumPlace.l0 j c q ((c.take m).map (addW s q)) (c.length : Int) (m : Int) s (s ++ [q])) (s ++ [q], c.map (addW s q), 0)
  | 0, m, hm => by
    refine Ev.step (fun k => by simp only [spec_AddSumPlace.l0]; exact rfl) ?_
    refine Ev.iff_neg (by omega) ?_
    rw [List.take_of_length_le (by omega)]
    exact Ev.now _
  | k + 1, m, hm => by
    have hlt : m < c.length := by omega
    have hl := isC_len hs hc
    have ih := specAdd_l hs hc h0 h1 k (m + 1) (by omega)
    rw [take_rd8 hlt, List.map_append] at ih
    have hl2 : (c.take m).length ≤ m := List.length_take_le _ _
    have hw := (isW_iff s _).1 (isC_rd hc hlt)
    have hp := isSp_prd hs
    refine Ev.step (fun k => by simp only [spec_AddSumPlace.l0]; exact rfl) ?_
    refine Ev.iff_pos (by omega) (Ev.iff_pos (by omega) (Ev.iff_pos (by omega) ?_))
    refine Ev.bind (l01Digits_ev hs (isC_rd hc hlt)) ?_
    generalize hx : rd c (m : Int) = x at *
    have hdl := dg_length s x
    have hsl := isSp_len hs
    have inner : ∀ (j n : Nat), n + j = s.length → Ev (fun z => spec_AddSumPlace.l1 z c q ((c.take m).map (addW s q)) (m : Int) (dg s x) (((dg s x).take n).sum) (c.length : Int) (m : Int) ((dg s x).length : Int) (n : Int) s (s ++ [q])) (s ++ [q], c.map (addW s q), 0) := by
      intro j
      induction j with
      | zero =>
        intro n hn
        obtain ⟨a0, a1⟩ := dg_sum_l hs x n (by omega)
        refine Ev.step (fun k => by simp only [spec_AddSumPlace.l1]; exact rfl) ?_
        refine Ev.iff_neg (by omega) (Ev.iff_pos (by omega) (Ev.iff_pos (by omega) (Ev.iff_neg (by omega) (Ev.iff_pos (by rw [List.length_map]; omega) ?_))))
        have ht : ((dg s x).take n) = dg s x := List.take_of_length_le (by omega)
        rw [ht] at a0 a1 ⊢
        have e1 : 0 ≤ x * q := Int.mul_nonneg hw.1 (by omega)
        have e2 : x * q ≤ 4096 := by
          have := Int.mul_le_mul (show x ≤ 1024 by omega) h1 (by omega) (by omega)
          omega
        have b0 := Int.emod_nonneg (dg s x).sum (show q ≠ 0 by omega)
        have b1 := Int.emod_lt_of_pos (dg s x).sum (show 0 < q by omega)
        rw [hx, wrap_id (x := x * q) (by omega) (by omega), Int.tmod_eq_emod_of_nonneg a0, wrap_id (by omega) (by omega), wrap_nat (by unfold maxLen; omega)]
        rw [show x * q + (dg s x).sum % q = addW s q x from (addW_eq hs q x).symm]
        exact ih
      | succ j ihj =>
        intro n hn
        obtain ⟨a0, a1⟩ := dg_sum_l hs x n (by omega)
        have hr := inR_rd s (dg s x) n (inR_dg (isSp_all hs) x) (by omega) (by omega)
        have hq := all_rd (isSp_all hs) (show n < s.length by omega)
        refine Ev.step (fun k => by simp only [spec_AddSumPlace.l1]; exact rfl) ?_
        refine Ev.iff_pos (by omega) (Ev.iff_pos (by omega) (Ev.iff_pos (by omega) ?_))
        rw [wrap_id (by omega) (by omega), wrap_nat (by unfold maxLen; omega)]
        have := ihj (n + 1) (by omega)
        rw [take_rd8 (show n < (dg s x).length by omega), List.sum_append] at this
        simpa using this
    have := inner s.length 0 (by omega)
    simpa using this
theorem specAdd_ev (s : List Int) {c : List Int} (hcl : c.length ≤ 1048576) (q : Int) : Ev (fun k => spec_AddSumPlace.f k s c q) (addR s c q) := by
  unfold spec_AddSumPlace.f addR
  refine Ev.bind (l01Given_ev s hcl) ?_
  by_cases h : rCode s c [] = 0
  · obtain ⟨hs, hc, _⟩ := rCode_zero h
    rw [if_pos h]
    refine Ev.iff_pos h ?_
    refine Ev.bindc (l01In_eq _ _ _) ?_
    rw [h]
    by_cases hq : 2 ≤ q ∧ q ≤ 4
    · rw [if_pos hq, decide_eq_true hq]
      refine Ev.step (fun k => by simp only [spec_AddSumPlace.j0]; exact rfl) ?_
      refine Ev.iff_neg (by simp) ?_
      refine Ev.step (fun k => by simp only [spec_AddSumPlace.j1]; exact rfl) ?_
      refine Ev.iff_pos (by first | rfl | trivial) ?_
      have hl := isSp_len hs
      refine Ev.bind (l03Plus_ev s [q] (by omega) (by simp)) ?_
      by_cases hb : isSp (s ++ [q]) = true
      · rw [if_pos hb]
        refine Ev.iff_pos hb ?_
        rw [addW_ord hs hc hq.1]
        have := specAdd_l hs hc hq.1 hq.2 c.length 0 (by omega)
        simpa using this
      · rw [if_neg hb]
        exact Ev.iff_neg hb (Ev.now _)
    · rw [if_neg hq, decide_eq_false hq]
      refine Ev.step (fun k => by simp only [spec_AddSumPlace.j0]; exact rfl) ?_
      refine Ev.iff_pos (by first | rfl | trivial | simp) ?_
      refine Ev.step (fun k => by simp only [spec_AddSumPlace.j1]; exact rfl) ?_
      exact Ev.iff_neg (by decide) (Ev.now _)
  · rw [if_neg h]
    refine Ev.iff_neg h ?_
    refine Ev.step (fun k => by simp only [spec_AddSumPlace.j0]; exact rfl) ?_
    refine Ev.iff_neg (by simp) ?_
    refine Ev.step (fun k => by simp only [spec_AddSumPlace.j1]; exact rfl) ?_
    exact Ev.iff_neg h (Ev.now _)
theorem implAdd_eq (s : List Int) {c : List Int} (hcl : c.length ≤ 1048576) (q : Int) : impl_AddSumPlace.f s c q = some (addR s c q) := by
  unfold impl_AddSumPlace.f
  rw [if_pos hcl]
theorem addR_len (s : List Int) {c : List Int} (hcl : c.length ≤ 1048576) (q : Int) : (addR s c q).1.length ≤ 1048576 ∧ (addR s c q).2.1.length ≤ 1048576 := by
  unfold addR
  by_cases h : rCode s c [] = 0
  · rw [if_pos h]
    have hs := (rCode_zero h).1
    have hl := isSp_len hs
    have h2 := ordL_len (c.map (addW s q))
    rw [List.length_map] at h2
    split
    · split
      · exact ⟨by show (s ++ [q]).length ≤ _; rw [List.length_append]; simp; omega, Nat.le_trans h2 hcl⟩
      · simp
    · simp
  · rw [if_neg h]
    simp
theorem FnExactAddSumPlace (l0_0 : List Int) (m0 : l0_0.length ≤ maxLen) (w0 : ∀ x ∈ l0_0, (Lit.int .i64 x).wf = true) (l1 : List Int) (m1 : l1.length ≤ maxLen) (b1 : l1.length * 8 ≤ 140737488351232) (w1 : ∀ x ∈ l1, (Lit.int .i64 x).wf = true) (a2 : Int) (w2 : (Lit.int .i64 a2).wf = true) : ∃ k, laws_FnExactAddSumPlace.f k l0_0 l1 a2 = some true := by
  refine Ev.rounds (r := true) ?_
  unfold laws_FnExactAddSumPlace.f
  by_cases c1 : (l1.length : Int) > 1048576
  · exact Ev.iff_pos c1 (Ev.now _)
  refine Ev.iff_neg c1 ?_
  have k1 : l1.length ≤ 1048576 := by omega
  have km1 : l1.length < maxLen := by unfold maxLen; omega
  refine Ev.bindc (szSpace_eq _ _ m0 (by omega) (by omega)) ?_
  by_cases h0 : (1048576 : Int) < (l0_0.length : Int)
  · exact Ev.iff_pos (by rw [if_pos h0]; omega) (Ev.now _)
  rw [if_neg h0]
  refine Ev.iff_neg (by omega) ?_
  have hl0 : l0_0.length ≤ 1048576 := by omega
  have hm0 : l0_0.length < maxLen := by unfold maxLen; omega
  have hr0 := (addR_len l0_0 k1 a2).1
  have hr1 := (addR_len l0_0 k1 a2).2
  repeat' first
    | exact Ev.now _
    | refine Ev.bind (toInt64S_ev _ k1) ?_
    | refine Ev.bind (toSpace_ev _ hl0) ?_
    | refine Ev.bind (specAdd_ev _ k1 _) ?_
    | refine Ev.bind (Ev.const (implAdd_eq _ k1 _)) ?_
    | (refine Ev.bind (eqSpace_ev _ _ ?_) ?_; (· (first | omega | (unfold maxLen; omega) | (simp only [iota_length]; omega) | (simp only [iota_length]; unfold maxLen; omega))))
    | (refine Ev.bind (eqInt64S_ev _ _ ?_) ?_; (· (first | omega | (unfold maxLen; omega) | (simp only [iota_length]; omega) | (simp only [iota_length]; unfold maxLen; omega))))
    | (refine Ev.bind (markSpace_ev _ _ ?_ ?_ ?_) ?_; (· (first | omega | (unfold maxLen; omega) | (simp only [iota_length]; omega) | (simp only [iota_length]; unfold maxLen; omega))); (· (first | omega | (unfold maxLen; omega) | (simp only [iota_length]; omega) | (simp only [iota_length]; unfold maxLen; omega))); (· (first | omega | (unfold maxLen; omega) | (simp only [iota_length]; omega) | (simp only [iota_length]; unfold maxLen; omega))))
    | (refine Ev.bind (markInt64S_ev _ _ ?_ ?_ ?_) ?_; (· (first | omega | (unfold maxLen; omega) | (simp only [iota_length]; omega) | (simp only [iota_length]; unfold maxLen; omega))); (· (first | omega | (unfold maxLen; omega) | (simp only [iota_length]; omega) | (simp only [iota_length]; unfold maxLen; omega))); (· (first | omega | (unfold maxLen; omega) | (simp only [iota_length]; omega) | (simp only [iota_length]; unfold maxLen; omega))))
    | (refine Ev.bind (heldSpace_ev _ _ ?_ ?_) ?_; (· (first | omega | (unfold maxLen; omega) | (simp only [iota_length]; omega) | (simp only [iota_length]; unfold maxLen; omega))); (· (first | omega | (unfold maxLen; omega) | (simp only [iota_length]; omega) | (simp only [iota_length]; unfold maxLen; omega))))
    | (refine Ev.bind (heldInt64S_ev _ _ ?_ ?_) ?_; (· (first | omega | (unfold maxLen; omega) | (simp only [iota_length]; omega) | (simp only [iota_length]; unfold maxLen; omega))); (· (first | omega | (unfold maxLen; omega) | (simp only [iota_length]; omega) | (simp only [iota_length]; unfold maxLen; omega))))
    | (refine Ev.iff_pos ?_ ?_; (· (first | (simp; done) | omega)))
    | (refine Ev.iff_neg ?_ ?_; (· (first | (simp; done) | omega)))
    | refine Ev.step (show ∀ k, laws_FnExactAddSumPlace.j0 (k + 1) _ _ _ _ _ _ _ _ _ _ _ _ = _ from fun k => by rw [laws_FnExactAddSumPlace.j0]) ?_
    | refine Ev.step (show ∀ k, laws_FnExactAddSumPlace.j1 (k + 1) _ _ _ _ _ _ _ _ _ = _ from fun k => by rw [laws_FnExactAddSumPlace.j1]) ?_
    | refine Ev.step (show ∀ k, laws_FnExactAddSumPlace.j2 (k + 1) _ _ _ _ = _ from fun k => by rw [laws_FnExactAddSumPlace.j2]) ?_
end Go.Proofs.Ytbhgnphdhkmliaa.Q
