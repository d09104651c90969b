/- The plain law of UncoveredWords: the program's and the reference's UncoveredWords answer alike. -/
import Derived.Test.YtcpchmnbjaeolaaQUncov
import Derived.Test.YtcpchmnbjaeolaaFlawsFnExactUncoveredWords
set_option linter.unusedVariables false
set_option linter.unusedSimpArgs false
namespace Go.Proofs.Ytcpchmnbjaeolaa.Q
open Go.RowKit Go.Proofs.Ytcpchmnbjaeolaa.P Go.Proofs.YtcpchmnbjaeolaaW.PrintWords CC

def rUncoveredWords (s c : List Int) (r : Int) : List Int × Int := if rCover s c r = 0 then (zer (covL s c r), 0) else ([], rCover s c r)
theorem rUncoveredWords_len (s c : List Int) (r : Int) : (rUncoveredWords s c r).1.length ≤ 1024 := by
  unfold rUncoveredWords
  by_cases h : rCover s c r = 0
  · rw [if_pos h]
    have := selL_len (fun i => decide (rd (covL s c r) i = 0)) (covL s c r).length
    have := NW_le (rCover_zero h).1
    rw [covL_length] at *
    show (zer _).length ≤ 1024
    unfold zer
    rw [covL_length]
    omega
  · rw [if_neg h]
    simp
theorem implUncoveredWords_l {L : List Int} (hL : L.length ≤ 1024) : ∀ (m n : Nat), n + m = L.length →
    Ev (fun k => impl_UncoveredWords.l0 k (selL (fun i => decide (rd L i = 0)) n) L (L.length : Int) (n : Int)) (zer L, 0)
  | 0, n, hm => by
    refine Ev.step (fun k => by simp only [impl_UncoveredWords.l0]; exact rfl) ?_
    refine Ev.iff_neg (by omega) ?_
    have : n = L.length := by omega
    subst this
    exact Ev.now _
  | m + 1, n, hm => by
    have hn : n < L.length := by omega
    have hl := selL_len (fun i => decide (rd L i = 0)) n
    refine Ev.step (fun k => by simp only [impl_UncoveredWords.l0]; exact rfl) ?_
    refine Ev.iff_pos (by omega) ?_
    refine Ev.iff_pos (by omega) ?_
    refine Ev.iff_pos (by omega) ?_
    have ih := implUncoveredWords_l hL m (n + 1) (by omega)
    rw [selL_succ] at ih
    by_cases h : rd L (n : Int) = 0
    · refine Ev.iff_pos h ?_
      refine Ev.iff_pos (by omega) ?_
      rw [wrap_nat (by unfold maxLen; omega)]
      simpa [h] using ih
    · refine Ev.iff_neg h ?_
      rw [wrap_nat (by unfold maxLen; omega)]
      simpa [h] using ih
theorem specUncoveredWords_ev (s : List Int) {c : List Int} (hcl : c.length ≤ 1048576) (r : Int) : Ev (fun k => spec_UncoveredWords.f k s c r) (rUncoveredWords s c r) := by
  unfold spec_UncoveredWords.f rUncoveredWords
  refine Ev.bind (l02Code_ev s hcl r) ?_
  by_cases h : rCover s c r = 0
  · obtain ⟨hs, hc, _⟩ := rCover_zero h
    simp only [if_pos h]
    exact Ev.bind (l02Uncovered_ev hs hc r) (Ev.now _)
  · simp only [if_neg h]
    exact Ev.now _
theorem implUncoveredWords_ev (s : List Int) {c : List Int} (hcl : c.length ≤ 1048576) (r : Int) : Ev (fun k => impl_UncoveredWords.f k s c r) (rUncoveredWords s c r) := by
  unfold impl_UncoveredWords.f rUncoveredWords
  refine Ev.bind (coverCode_ev s hcl r) ?_
  by_cases h : rCover s c r = 0
  · obtain ⟨hs, hc, _⟩ := rCover_zero h
    have hN := NW_le hs
    simp only [if_pos h]
    refine Ev.bindc (times_eq hs hc r) ?_
    exact implUncoveredWords_l (L := covL s c r) (by rw [covL_length]; omega) (covL s c r).length 0 (by omega)
  · simp only [if_neg h]
    exact Ev.now _
theorem FnExactUncoveredWords (l0_0 : List Int) (m0 : l0_0.length ≤ maxLen) (w0 : ∀ x ∈ l0_0, (Lit.int .i64 x).wf = true) (l1 : List Int) (m1 : l1.length ≤ maxLen) (b1 : l1.length * 8 ≤ 140737488351232) (w1 : ∀ x ∈ l1, (Lit.int .i64 x).wf = true) (a2 : Int) (w2 : (Lit.int .i64 a2).wf = true) : ∃ k, laws_FnExactUncoveredWords.f k l0_0 l1 a2 = some true := by
  refine Ev.rounds (r := true) ?_
  unfold laws_FnExactUncoveredWords.f
  by_cases c1 : (l1.length : Int) > 1048576
  · exact Ev.iff_pos c1 (Ev.now _)
  refine Ev.iff_neg c1 ?_
  have k1 : l1.length ≤ 1048576 := by omega
  have km1 : l1.length < maxLen := by unfold maxLen; omega
  refine Ev.bindc (szSpace_eq _ _ m0 (by omega) (by omega)) ?_
  by_cases h0 : (1048576 : Int) < (l0_0.length : Int)
  · exact Ev.iff_pos (by rw [if_pos h0]; omega) (Ev.now _)
  rw [if_neg h0]
  refine Ev.iff_neg (by omega) ?_
  have hl0 : l0_0.length ≤ 1048576 := by omega
  have hm0 : l0_0.length < maxLen := by unfold maxLen; omega
  have hr0 := rUncoveredWords_len l0_0 l1 a2
  repeat' first
    | exact Ev.now _
    | refine Ev.bind (toInt64S_ev _ k1) ?_
    | refine Ev.bind (toSpace_ev _ hl0) ?_
    | refine Ev.bind (specUncoveredWords_ev _ k1 _) ?_
    | refine Ev.bind (implUncoveredWords_ev _ k1 _) ?_
    | (refine Ev.bind (eqSpace_ev _ _ ?_) ?_; (· (first | omega | (unfold maxLen; omega) | (simp only [iota_length]; omega) | (simp only [iota_length]; unfold maxLen; omega))))
    | (refine Ev.bind (eqInt64S_ev _ _ ?_) ?_; (· (first | omega | (unfold maxLen; omega) | (simp only [iota_length]; omega) | (simp only [iota_length]; unfold maxLen; omega))))
    | (refine Ev.bind (markSpace_ev _ _ ?_ ?_ ?_) ?_; (· (first | omega | (unfold maxLen; omega) | (simp only [iota_length]; omega) | (simp only [iota_length]; unfold maxLen; omega))); (· (first | omega | (unfold maxLen; omega) | (simp only [iota_length]; omega) | (simp only [iota_length]; unfold maxLen; omega))); (· (first | omega | (unfold maxLen; omega) | (simp only [iota_length]; omega) | (simp only [iota_length]; unfold maxLen; omega))))
    | (refine Ev.bind (markInt64S_ev _ _ ?_ ?_ ?_) ?_; (· (first | omega | (unfold maxLen; omega) | (simp only [iota_length]; omega) | (simp only [iota_length]; unfold maxLen; omega))); (· (first | omega | (unfold maxLen; omega) | (simp only [iota_length]; omega) | (simp only [iota_length]; unfold maxLen; omega))); (· (first | omega | (unfold maxLen; omega) | (simp only [iota_length]; omega) | (simp only [iota_length]; unfold maxLen; omega))))
    | (refine Ev.bind (heldInt64S_ev _ _ ?_ ?_) ?_; (· (first | omega | (unfold maxLen; omega) | (simp only [iota_length]; omega) | (simp only [iota_length]; unfold maxLen; omega))); (· (first | omega | (unfold maxLen; omega) | (simp only [iota_length]; omega) | (simp only [iota_length]; unfold maxLen; omega))))
    | (refine Ev.iff_pos ?_ ?_; (· (first | (simp; done) | omega)))
    | (refine Ev.iff_neg ?_ ?_; (· (first | (simp; done) | omega)))
    | refine Ev.step (show ∀ k, laws_FnExactUncoveredWords.j0 (k + 1) _ _ _ _ _ _ _ _ _ _ = _ from fun k => by rw [laws_FnExactUncoveredWords.j0]) ?_
    | refine Ev.step (show ∀ k, laws_FnExactUncoveredWords.j1 (k + 1) _ _ _ _ _ _ _ = _ from fun k => by rw [laws_FnExactUncoveredWords.j1]) ?_
    | refine Ev.step (show ∀ k, laws_FnExactUncoveredWords.j2 (k + 1) _ _ _ = _ from fun k => by rw [laws_FnExactUncoveredWords.j2]) ?_
end Go.Proofs.Ytcpchmnbjaeolaa.Q
