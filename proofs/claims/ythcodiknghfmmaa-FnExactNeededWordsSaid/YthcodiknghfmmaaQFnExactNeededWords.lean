/- The plain law of NeededWords: the program's and the reference's NeededWords answer alike. -/
import Derived.Test.YthcodiknghfmmaaQNeed
import Derived.Test.YthcodiknghfmmaaHNeededW
import Derived.Test.YthcodiknghfmmaaFlawsFnExactNeededWords
set_option linter.unusedVariables false
set_option linter.unusedSimpArgs false
namespace Go.Proofs.Ythcodiknghfmmaa.Q
open Go.RowKit Go.Proofs.Ythcodiknghfmmaa.P Go.Proofs.YthcodiknghfmmaaW.PrintWords CC
theorem specNeeded_l {s c : List Int} (hs : isSp s = true) (hc : isC s c = true) {r : Int} {T : List Int} (hT : T.length = NW s) : ∀ (m n : Nat), n + m = c.length →
    Ev (fun k => spec_NeededWords.l0 k c r T ((c.take n).filter fun x => needQ s T x r 0 (NW s)) (n : Int) s) (c.filter fun x => needQ s T x r 0 (NW s), 0)
  | 0, n, hm => by
    refine Ev.step (fun k => by simp only [spec_NeededWords.l0]; exact rfl) ?_
    refine Ev.iff_neg (by omega) ?_
    rw [List.take_of_length_le (by omega)]
    exact Ev.now _
  | m + 1, n, hm => by
    have hn : n < c.length := by omega
    have hl := isC_len hs hc
    have hl1 := List.length_filter_le (fun x => needQ s T x r 0 (NW s)) (c.take n)
    have hl2 : (c.take n).length ≤ n := List.length_take_le _ _
    have ih := specNeeded_l hs hc (r := r) hT m (n + 1) (by omega)
    rw [take_rd8 hn, List.filter_append] at ih
    refine Ev.step (fun k => by simp only [spec_NeededWords.l0]; exact rfl) ?_
    refine Ev.iff_pos (by omega) (Ev.iff_pos (by omega) ?_)
    refine Ev.bind (l02Needed_ev hs hT (isC_rd hc hn) r) ?_
    rw [wrap_nat (by unfold maxLen; omega)]
    by_cases h : needQ s T (rd c (n : Int)) r 0 (NW s) = true
    · refine Ev.iff_pos h ?_
      refine Ev.iff_pos (by omega) ?_
      simpa [h] using ih
    · refine Ev.iff_neg h ?_
      simpa [h] using ih
theorem timesL_covL {s c : List Int} (hs : isSp s = true) (hc : isC s c = true) (r : Int) : timesL s c r = covL s c r := by
  have h := times_eq hs hc r
  have hl := isC_len hs hc
  unfold impl_times.f at h
  rw [if_pos ⟨hs, by rw [List.all_eq_true]; exact isC_words hc, by omega⟩] at h
  exact Option.some.inj h
theorem specNeededWords_ev (s : List Int) {c : List Int} (hcl : c.length ≤ 1048576) (r : Int) : Ev (fun k => spec_NeededWords.f k s c r) (neededR s c r) := by
  unfold spec_NeededWords.f neededR
  refine Ev.bind (l02Code_ev s hcl r) ?_
  by_cases h : rCover s c r = 0
  · obtain ⟨hs, hc, _⟩ := rCover_zero h
    simp only [if_pos h]
    refine Ev.bind (l02Times_ev hs hc r) ?_
    have := specNeeded_l hs hc (r := r) (T := covL s c r) (covL_length s c r) c.length 0 (by omega)
    rw [timesL_covL hs hc, show (prd s).toNat = NW s from rfl]
    simpa using this
  · simp only [if_neg h]
    exact Ev.now _
theorem neededR_len (s : List Int) {c : List Int} (hcl : c.length ≤ 1048576) (r : Int) : (neededR s c r).1.length ≤ 1048576 := by
  unfold neededR
  by_cases h : rCover s c r = 0
  · rw [if_pos h]
    have := List.length_filter_le (fun x => needQ s (timesL s c r) x r 0 (prd s).toNat) c
    show (c.filter _).length ≤ 1048576
    omega
  · rw [if_neg h]
    simp
theorem implNeededWords_eq (s : List Int) {c : List Int} (hcl : c.length ≤ 1048576) (r : Int) : impl_NeededWords.f s c r = some (neededR s c r) := by
  unfold impl_NeededWords.f
  rw [if_pos hcl]
theorem FnExactNeededWords (l0_0 : List Int) (m0 : l0_0.length ≤ maxLen) (w0 : ∀ x ∈ l0_0, (Lit.int .i64 x).wf = true) (l1 : List Int) (m1 : l1.length ≤ maxLen) (b1 : l1.length * 8 ≤ 140737488351232) (w1 : ∀ x ∈ l1, (Lit.int .i64 x).wf = true) (a2 : Int) (w2 : (Lit.int .i64 a2).wf = true) : ∃ k, laws_FnExactNeededWords.f k l0_0 l1 a2 = some true := by
  refine Ev.rounds (r := true) ?_
  unfold laws_FnExactNeededWords.f
  by_cases c1 : (l1.length : Int) > 1048576
  · exact Ev.iff_pos c1 (Ev.now _)
  refine Ev.iff_neg c1 ?_
  have k1 : l1.length ≤ 1048576 := by omega
  have km1 : l1.length < maxLen := by unfold maxLen; omega
  refine Ev.bindc (szSpace_eq _ _ m0 (by omega) (by omega)) ?_
  by_cases h0 : (1048576 : Int) < (l0_0.length : Int)
  · exact Ev.iff_pos (by rw [if_pos h0]; omega) (Ev.now _)
  rw [if_neg h0]
  refine Ev.iff_neg (by omega) ?_
  have hl0 : l0_0.length ≤ 1048576 := by omega
  have hm0 : l0_0.length < maxLen := by unfold maxLen; omega
  have hr0 := neededR_len l0_0 k1 a2
  repeat' first
    | exact Ev.now _
    | refine Ev.bind (toInt64S_ev _ k1) ?_
    | refine Ev.bind (toSpace_ev _ hl0) ?_
    | refine Ev.bind (specNeededWords_ev _ k1 _) ?_
    | refine Ev.bind (Ev.const (implNeededWords_eq _ k1 _)) ?_
    | (refine Ev.bind (eqSpace_ev _ _ ?_) ?_; (· (first | omega | (unfold maxLen; omega) | (simp only [iota_length]; omega) | (simp only [iota_length]; unfold maxLen; omega))))
    | (refine Ev.bind (eqInt64S_ev _ _ ?_) ?_; (· (first | omega | (unfold maxLen; omega) | (simp only [iota_length]; omega) | (simp only [iota_length]; unfold maxLen; omega))))
    | (refine Ev.bind (markSpace_ev _ _ ?_ ?_ ?_) ?_; (· (first | omega | (unfold maxLen; omega) | (simp only [iota_length]; omega) | (simp only [iota_length]; unfold maxLen; omega))); (· (first | omega | (unfold maxLen; omega) | (simp only [iota_length]; omega) | (simp only [iota_length]; unfold maxLen; omega))); (· (first | omega | (unfold maxLen; omega) | (simp only [iota_length]; omega) | (simp only [iota_length]; unfold maxLen; omega))))
    | (refine Ev.bind (markInt64S_ev _ _ ?_ ?_ ?_) ?_; (· (first | omega | (unfold maxLen; omega) | (simp only [iota_length]; omega) | (simp only [iota_length]; unfold maxLen; omega))); (· (first | omega | (unfold maxLen; omega) | (simp only [iota_length]; omega) | (simp only [iota_length]; unfold maxLen; omega))); (· (first | omega | (unfold maxLen; omega) | (simp only [iota_length]; omega) | (simp only [iota_length]; unfold maxLen; omega))))
    | (refine Ev.bind (heldInt64S_ev _ _ ?_ ?_) ?_; (· (first | omega | (unfold maxLen; omega) | (simp only [iota_length]; omega) | (simp only [iota_length]; unfold maxLen; omega))); (· (first | omega | (unfold maxLen; omega) | (simp only [iota_length]; omega) | (simp only [iota_length]; unfold maxLen; omega))))
    | (refine Ev.iff_pos ?_ ?_; (· (first | (simp; done) | omega)))
    | (refine Ev.iff_neg ?_ ?_; (· (first | (simp; done) | omega)))
    | refine Ev.step (show ∀ k, laws_FnExactNeededWords.j0 (k + 1) _ _ _ _ _ _ _ _ _ _ = _ from fun k => by rw [laws_FnExactNeededWords.j0]) ?_
    | refine Ev.step (show ∀ k, laws_FnExactNeededWords.j1 (k + 1) _ _ _ _ _ _ _ = _ from fun k => by rw [laws_FnExactNeededWords.j1]) ?_
    | refine Ev.step (show ∀ k, laws_FnExactNeededWords.j2 (k + 1) _ _ _ = _ from fun k => by rw [laws_FnExactNeededWords.j2]) ?_
end Go.Proofs.Ythcodiknghfmmaa.Q
