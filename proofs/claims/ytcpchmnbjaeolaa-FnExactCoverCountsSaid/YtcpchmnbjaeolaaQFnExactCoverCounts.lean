/- The plain law of CoverCounts: the program's and the reference's CoverCounts answer alike. -/
import Derived.Test.YtcpchmnbjaeolaaQUncov
import Derived.Test.YtcpchmnbjaeolaaFlawsFnExactCoverCounts
set_option linter.unusedVariables false
set_option linter.unusedSimpArgs false
namespace Go.Proofs.Ytcpchmnbjaeolaa.Q
open Go.RowKit Go.Proofs.Ytcpchmnbjaeolaa.P Go.Proofs.YtcpchmnbjaeolaaW.PrintWords CC

/-- How many words are covered so often. -/
def cntL (s c : List Int) (r : Int) : List Int := (covL s c r).foldl incL (List.replicate (c.length + 1) 0)
theorem foldl_incL_length : ∀ (B L : List Int), (B.foldl incL L).length = L.length
  | [], L => rfl
  | x :: B, L => by rw [List.foldl_cons, foldl_incL_length B, incL_length]
def rCoverCounts (s c : List Int) (r : Int) : List Int × Int := if rCover s c r = 0 then (cntL s c r, 0) else ([], rCover s c r)
theorem rCoverCounts_len (s c : List Int) (r : Int) : (rCoverCounts s c r).1.length ≤ 1048576 := by
  unfold rCoverCounts
  by_cases h : rCover s c r = 0
  · rw [if_pos h]
    obtain ⟨hs, hc, _⟩ := rCover_zero h
    have := isC_len hs hc
    simp only [cntL, foldl_incL_length, List.length_replicate]
    omega
  · rw [if_neg h]
    simp
theorem specCoverCounts_l {B : List Int} {P : Nat} (hB : ∀ x ∈ B, 0 ≤ x ∧ x < P) (hBl : B.length ≤ 1024) : ∀ (m n : Nat) (L : List Int), n + m = B.length → L.length = P → small L (n : Int) →
    Ev (fun k => spec_CoverCounts.l0 k B L (B.length : Int) (n : Int)) ((B.drop n).foldl incL L, 0)
  | 0, n, L, hm, hL, hsm => by
    refine Ev.step (fun k => by simp only [spec_CoverCounts.l0]; exact rfl) ?_
    refine Ev.iff_neg (by omega) ?_
    rw [drop_all (by omega)]
    exact Ev.now _
  | m + 1, n, L, hm, hL, hsm => by
    have hn : n < B.length := by omega
    have hx : 0 ≤ rd B (n : Int) ∧ rd B (n : Int) < P := by
      have : rd B (n : Int) = B[n] := by simp [rd, List.getD_eq_getElem?_getD, hn]
      rw [this]
      exact hB _ (List.getElem_mem hn)
    have hr := small_rd hsm hx.1 (by rw [hL]; exact hx.2)
    refine Ev.step (fun k => by simp only [spec_CoverCounts.l0]; exact rfl) ?_
    refine Ev.iff_pos (by omega) ?_
    refine Ev.iff_pos (by omega) ?_
    refine Ev.iff_pos (by omega) ?_
    refine Ev.iff_pos hx.1 ?_
    refine Ev.iff_pos (by rw [hL]; exact hx.2) ?_
    rw [wrap_nat (by unfold maxLen; omega), wrap_id (x := rd L (rd B (n : Int)) + 1) (by omega) (by omega), drop_cons B hn, List.foldl_cons]
    refine specCoverCounts_l hB hBl m (n + 1) (incL L (rd B (n : Int))) (by omega) (by rw [incL_length]; exact hL) ?_
    have := small_inc hsm hx.1 (by rw [hL]; exact hx.2)
    have e : ((n + 1 : Nat) : Int) = (n : Int) + 1 := by omega
    rw [e]
    exact this
theorem implCoverCounts_l {B : List Int} {P : Nat} (hB : ∀ x ∈ B, 0 ≤ x ∧ x < P) (hBl : B.length ≤ 1024) : ∀ (m n : Nat) (L : List Int), n + m = B.length → L.length = P → small L (n : Int) →
    Ev (fun k => impl_CoverCounts.l0 k L B (B.length : Int) (n : Int)) ((B.drop n).foldl incL L, 0)
  | 0, n, L, hm, hL, hsm => by
    refine Ev.step (fun k => by simp only [impl_CoverCounts.l0]; exact rfl) ?_
    refine Ev.iff_neg (by omega) ?_
    rw [drop_all (by omega)]
    exact Ev.now _
  | m + 1, n, L, hm, hL, hsm => by
    have hn : n < B.length := by omega
    have hx : 0 ≤ rd B (n : Int) ∧ rd B (n : Int) < P := by
      have : rd B (n : Int) = B[n] := by simp [rd, List.getD_eq_getElem?_getD, hn]
      rw [this]
      exact hB _ (List.getElem_mem hn)
    have hr := small_rd hsm hx.1 (by rw [hL]; exact hx.2)
    refine Ev.step (fun k => by simp only [impl_CoverCounts.l0]; exact rfl) ?_
    refine Ev.iff_pos (by omega) ?_
    refine Ev.iff_pos (by omega) ?_
    refine Ev.iff_pos (by omega) ?_
    refine Ev.iff_pos hx.1 ?_
    refine Ev.iff_pos (by rw [hL]; exact hx.2) ?_
    rw [wrap_nat (by unfold maxLen; omega), wrap_id (x := rd L (rd B (n : Int)) + 1) (by omega) (by omega), drop_cons B hn, List.foldl_cons]
    refine implCoverCounts_l hB hBl m (n + 1) (incL L (rd B (n : Int))) (by omega) (by rw [incL_length]; exact hL) ?_
    have := small_inc hsm hx.1 (by rw [hL]; exact hx.2)
    have e : ((n + 1 : Nat) : Int) = (n : Int) + 1 := by omega
    rw [e]
    exact this
theorem covL_small {s c : List Int} {r : Int} : ∀ x ∈ covL s c r, 0 ≤ x ∧ x < ((c.length + 1 : Nat) : Int) := fun x hx => by
  have := covL_mem hx
  omega
theorem small_repl (n : Nat) : small (List.replicate n 0) ((0 : Nat) : Int) := fun t ht => by
  have := List.eq_of_mem_replicate ht
  omega
theorem specCoverCounts_ev (s : List Int) {c : List Int} (hcl : c.length ≤ 1048576) (r : Int) : Ev (fun k => spec_CoverCounts.f k s c r) (rCoverCounts s c r) := by
  unfold spec_CoverCounts.f rCoverCounts
  refine Ev.bind (l02Code_ev s hcl r) ?_
  by_cases h : rCover s c r = 0
  · obtain ⟨hs, hc, _⟩ := rCover_zero h
    have hN := NW_le hs
    simp only [if_pos h]
    refine Ev.bind (l02Times_ev hs hc r) ?_
    have e : (wrap64 ((c.length : Int) + 1)) = ((c.length + 1 : Nat) : Int) := wrap_nat (by unfold maxLen; omega)
    refine Ev.iff_pos (by rw [e]; omega) ?_
    refine Ev.iff_pos (by rw [e]; omega) ?_
    rw [e, Int.toNat_natCast]
    have := specCoverCounts_l (covL_small (s := s) (c := c) (r := r)) (by rw [covL_length]; omega) (covL s c r).length 0 (List.replicate (c.length + 1) 0) (by omega) (by simp) (small_repl _)
    rw [List.drop_zero] at this
    exact this
  · simp only [if_neg h]
    exact Ev.now _
theorem implCoverCounts_ev (s : List Int) {c : List Int} (hcl : c.length ≤ 1048576) (r : Int) : Ev (fun k => impl_CoverCounts.f k s c r) (rCoverCounts s c r) := by
  unfold impl_CoverCounts.f rCoverCounts
  refine Ev.bind (coverCode_ev s hcl r) ?_
  by_cases h : rCover s c r = 0
  · obtain ⟨hs, hc, _⟩ := rCover_zero h
    have hN := NW_le hs
    simp only [if_pos h]
    have e : (wrap64 ((c.length : Int) + 1)) = ((c.length + 1 : Nat) : Int) := wrap_nat (by unfold maxLen; omega)
    refine Ev.iff_pos (by rw [e]; omega) ?_
    refine Ev.iff_pos (by rw [e]; omega) ?_
    refine Ev.bindc (times_eq hs hc r) ?_
    rw [e, Int.toNat_natCast]
    have := implCoverCounts_l (covL_small (s := s) (c := c) (r := r)) (by rw [covL_length]; omega) (covL s c r).length 0 (List.replicate (c.length + 1) 0) (by omega) (by simp) (small_repl _)
    rw [List.drop_zero] at this
    exact this
  · simp only [if_neg h]
    exact Ev.now _
theorem FnExactCoverCounts (l0_0 : List Int) (m0 : l0_0.length ≤ maxLen) (w0 : ∀ x ∈ l0_0, (Lit.int .i64 x).wf = true) (l1 : List Int) (m1 : l1.length ≤ maxLen) (b1 : l1.length * 8 ≤ 140737488351232) (w1 : ∀ x ∈ l1, (Lit.int .i64 x).wf = true) (a2 : Int) (w2 : (Lit.int .i64 a2).wf = true) : ∃ k, laws_FnExactCoverCounts.f k l0_0 l1 a2 = some true := by
  refine Ev.rounds (r := true) ?_
  unfold laws_FnExactCoverCounts.f
  by_cases c1 : (l1.length : Int) > 1048576
  · exact Ev.iff_pos c1 (Ev.now _)
  refine Ev.iff_neg c1 ?_
  have k1 : l1.length ≤ 1048576 := by omega
  have km1 : l1.length < maxLen := by unfold maxLen; omega
  refine Ev.bindc (szSpace_eq _ _ m0 (by omega) (by omega)) ?_
  by_cases h0 : (1048576 : Int) < (l0_0.length : Int)
  · exact Ev.iff_pos (by rw [if_pos h0]; omega) (Ev.now _)
  rw [if_neg h0]
  refine Ev.iff_neg (by omega) ?_
  have hl0 : l0_0.length ≤ 1048576 := by omega
  have hm0 : l0_0.length < maxLen := by unfold maxLen; omega
  have hr0 := rCoverCounts_len l0_0 l1 a2
  repeat' first
    | exact Ev.now _
    | refine Ev.bind (toInt64S_ev _ k1) ?_
    | refine Ev.bind (toSpace_ev _ hl0) ?_
    | refine Ev.bind (specCoverCounts_ev _ k1 _) ?_
    | refine Ev.bind (implCoverCounts_ev _ k1 _) ?_
    | (refine Ev.bind (eqSpace_ev _ _ ?_) ?_; (· (first | omega | (unfold maxLen; omega) | (simp only [iota_length]; omega) | (simp only [iota_length]; unfold maxLen; omega))))
    | (refine Ev.bind (eqInt64S_ev _ _ ?_) ?_; (· (first | omega | (unfold maxLen; omega) | (simp only [iota_length]; omega) | (simp only [iota_length]; unfold maxLen; omega))))
    | (refine Ev.bind (markSpace_ev _ _ ?_ ?_ ?_) ?_; (· (first | omega | (unfold maxLen; omega) | (simp only [iota_length]; omega) | (simp only [iota_length]; unfold maxLen; omega))); (· (first | omega | (unfold maxLen; omega) | (simp only [iota_length]; omega) | (simp only [iota_length]; unfold maxLen; omega))); (· (first | omega | (unfold maxLen; omega) | (simp only [iota_length]; omega) | (simp only [iota_length]; unfold maxLen; omega))))
    | (refine Ev.bind (markInt64S_ev _ _ ?_ ?_ ?_) ?_; (· (first | omega | (unfold maxLen; omega) | (simp only [iota_length]; omega) | (simp only [iota_length]; unfold maxLen; omega))); (· (first | omega | (unfold maxLen; omega) | (simp only [iota_length]; omega) | (simp only [iota_length]; unfold maxLen; omega))); (· (first | omega | (unfold maxLen; omega) | (simp only [iota_length]; omega) | (simp only [iota_length]; unfold maxLen; omega))))
    | (refine Ev.bind (heldInt64S_ev _ _ ?_ ?_) ?_; (· (first | omega | (unfold maxLen; omega) | (simp only [iota_length]; omega) | (simp only [iota_length]; unfold maxLen; omega))); (· (first | omega | (unfold maxLen; omega) | (simp only [iota_length]; omega) | (simp only [iota_length]; unfold maxLen; omega))))
    | (refine Ev.iff_pos ?_ ?_; (· (first | (simp; done) | omega)))
    | (refine Ev.iff_neg ?_ ?_; (· (first | (simp; done) | omega)))
    | refine Ev.step (show ∀ k, laws_FnExactCoverCounts.j0 (k + 1) _ _ _ _ _ _ _ _ _ _ = _ from fun k => by rw [laws_FnExactCoverCounts.j0]) ?_
    | refine Ev.step (show ∀ k, laws_FnExactCoverCounts.j1 (k + 1) _ _ _ _ _ _ _ = _ from fun k => by rw [laws_FnExactCoverCounts.j1]) ?_
    | refine Ev.step (show ∀ k, laws_FnExactCoverCounts.j2 (k + 1) _ _ _ = _ from fun k => by rw [laws_FnExactCoverCounts.j2]) ?_
end Go.Proofs.Ytcpchmnbjaeolaa.Q
