/- The plain law of DistanceCounts: the program's and the reference's DistanceCounts answer alike. -/
import Derived.Test.YtjabkbnbcajdbaaQGiven
import Derived.Test.YtjabkbnbcajdbaaQDist
import Derived.Test.YtjabkbnbcajdbaaHCounts
import Derived.Test.YtjabkbnbcajdbaaFlawsFnExactDistanceCounts
set_option linter.unusedVariables false
set_option linter.unusedSimpArgs false
namespace Go.Proofs.Ytjabkbnbcajdbaa.Q
open Go.RowKit Go.Proofs.Ytjabkbnbcajdbaa.P Go.Proofs.YtjabkbnbcajdbaaW.PrintWords CC
theorem smallP_cin {s c : List Int} (hs : isSp s = true) {u b : Int} {L : List Int} (hL : L.length = s.length + 1) (h : smallP L b) {m : Nat} (hm : m < c.length) (x : Int) :
    smallP (incP L (ham (dig8 s u) (dig8 s x))) (b + 1) := by
  rw [ham_dig8 (isSp_len hs)]
  have h0 := dist_nonneg s u x
  have h1 := dist_le s u x
  exact smallP_inc h h0 (by rw [hL]; omega)
theorem specCounts_in {s c : List Int} (hs : isSp s = true) (hc : isC s c = true) {n : Nat} (hn : n < c.length) (R : List Int × Int) : ∀ (m j : Nat), j + m = c.length →
    smallP (cin s c (dig8 s (rd c (n : Int))) (cout s c n) j) ((n : Int) * 1024 + j) →
    Ev (fun k => spec_DistanceCounts.l0 k c (cout s c (n + 1)) (c.length : Int) ((n + 1 : Nat) : Int) s) R →
    Ev (fun k => spec_DistanceCounts.l1 k c (cin s c (dig8 s (rd c (n : Int))) (cout s c n) j) (n : Int) (c.length : Int) (n : Int) (c.length : Int) (j : Int) s) R
  | 0, j, hm, hsm, hev => by
    have hl := isC_len hs hc
    have hj : j = c.length := by omega
    subst hj
    refine Ev.step (fun k => by simp only [spec_DistanceCounts.l1]; exact rfl) ?_
    refine Ev.iff_neg (by omega) ?_
    rw [wrap_nat (by unfold maxLen; omega)]
    exact hev
  | m + 1, j, hm, hsm, hev => by
    have hl := isC_len hs hc
    have hj : j < c.length := by omega
    have hlen : (cin s c (dig8 s (rd c (n : Int))) (cout s c n) j).length = s.length + 1 := by rw [cin_length, cout_length]
    have h0 := dist_nonneg s (rd c (n : Int)) (rd c (j : Int))
    have h1 := dist_le s (rd c (n : Int)) (rd c (j : Int))
    have hrd := smallP_rd hsm h0 (by rw [hlen]; omega)
    have hnx := smallP_cin (c := c) hs (u := rd c (n : Int)) hlen hsm hj (rd c (j : Int))
    refine Ev.step (fun k => by simp only [spec_DistanceCounts.l1]; exact rfl) ?_
    refine Ev.iff_pos (by omega) ?_
    refine Ev.iff_pos (by omega) ?_
    refine Ev.iff_pos (by omega) ?_
    refine Ev.iff_pos (by omega) ?_
    refine Ev.iff_pos (by omega) ?_
    refine Ev.bind (l01Distance_ev hs (isC_rd hc hn) (isC_rd hc hj)) ?_
    refine Ev.iff_pos h0 ?_
    refine Ev.iff_pos (by rw [hlen]; omega) ?_
    rw [wrap_nat (by unfold maxLen; omega), wrap_id (x := rd _ _ + 1) (by omega) (by omega)]
    have e : (cin s c (dig8 s (rd c (n : Int))) (cout s c n) j).set (dist s (rd c (n : Int)) (rd c (j : Int))).toNat (rd (cin s c (dig8 s (rd c (n : Int))) (cout s c n) j) (dist s (rd c (n : Int)) (rd c (j : Int))) + 1) = cin s c (dig8 s (rd c (n : Int))) (cout s c n) (j + 1) := by
      rw [cin_succ s c _ _ hj, ham_dig8 (isSp_len hs)]
      rfl
    rw [e]
    refine specCounts_in hs hc hn R m (j + 1) (by omega) ?_ hev
    rw [cin_succ s c _ _ hj, show (n : Int) * 1024 + ((j + 1 : Nat) : Int) = (n : Int) * 1024 + j + 1 by omega]
    exact hnx
theorem smallP_all {s c : List Int} (hs : isSp s = true) (n : Nat) (h : smallP (cout s c n) ((n : Int) * 1024)) : ∀ j, j ≤ c.length → smallP (cin s c (dig8 s (rd c (n : Int))) (cout s c n) j) ((n : Int) * 1024 + j)
  | 0, _ => by simpa [cin] using h
  | j + 1, hj => by
    have ih := smallP_all hs n h j (by omega)
    have := smallP_cin (c := c) hs (u := rd c (n : Int)) (by rw [cin_length, cout_length]) ih (show j < c.length by omega) (rd c (j : Int))
    rw [cin_succ s c _ _ (show j < c.length by omega), show (n : Int) * 1024 + ((j + 1 : Nat) : Int) = (n : Int) * 1024 + j + 1 by omega]
    exact this
theorem smallP_out {s c : List Int} (hs : isSp s = true) (hl : c.length ≤ 1024) : ∀ n, smallP (cout s c n) ((n : Int) * 1024)
  | 0 => fun t ht => by
    have := List.eq_of_mem_replicate ht
    omega
  | n + 1 => fun t ht => by
    have := smallP_all hs n (smallP_out hs hl n) c.length (Nat.le_refl _) t ht
    omega
theorem specCounts_out {s c : List Int} (hs : isSp s = true) (hc : isC s c = true) : ∀ (m n : Nat), n + m = c.length →
    Ev (fun k => spec_DistanceCounts.l0 k c (cout s c n) (c.length : Int) (n : Int) s) (cout s c c.length, 0)
  | 0, n, hm => by
    refine Ev.step (fun k => by simp only [spec_DistanceCounts.l0]; exact rfl) ?_
    refine Ev.iff_neg (by omega) ?_
    have : n = c.length := by omega
    subst this
    exact Ev.now _
  | m + 1, n, hm => by
    refine Ev.step (fun k => by simp only [spec_DistanceCounts.l0]; exact rfl) ?_
    refine Ev.iff_pos (by omega) ?_
    exact specCounts_in hs hc (by omega) _ c.length 0 (by omega) (smallP_all hs n (smallP_out hs (isC_len hs hc) n) 0 (by omega)) (specCounts_out hs hc m (n + 1) (by omega))
theorem countsR_len (s c : List Int) : (countsR s c).1.length ≤ 1048576 := by
  unfold countsR
  by_cases h : rCode s c [] = 0
  · rw [if_pos h]
    have := isSp_len (rCode_zero h).1
    show (cout s c c.length).length ≤ 1048576
    rw [cout_length]
    omega
  · rw [if_neg h]
    simp
theorem specDistanceCounts_ev (s : List Int) {c : List Int} (hcl : c.length ≤ 1048576) : Ev (fun k => spec_DistanceCounts.f k s c) (countsR s c) := by
  unfold spec_DistanceCounts.f countsR
  refine Ev.bind (l01Given_ev s hcl) ?_
  by_cases h : rCode s c [] = 0
  · obtain ⟨hs, hc, _⟩ := rCode_zero h
    have hl := isSp_len hs
    simp only [if_pos h]
    have e : wrap64 ((s.length : Int) + 1) = ((s.length + 1 : Nat) : Int) := wrap_nat (by unfold maxLen; omega)
    rw [e, Int.toNat_natCast]
    refine Ev.iff_pos (by omega) ?_
    refine Ev.iff_pos (by omega) ?_
    exact specCounts_out hs hc c.length 0 (by omega)
  · simp only [if_neg h]
    exact Ev.now _
theorem implDistanceCounts_eq (s : List Int) {c : List Int} (hcl : c.length ≤ 1048576) : impl_DistanceCounts.f s c = some (countsR s c) := by
  unfold impl_DistanceCounts.f
  rw [if_pos hcl]
theorem FnExactDistanceCounts (l0_0 : List Int) (m0 : l0_0.length ≤ maxLen) (w0 : ∀ x ∈ l0_0, (Lit.int .i64 x).wf = true) (l1 : List Int) (m1 : l1.length ≤ maxLen) (b1 : l1.length * 8 ≤ 140737488351232) (w1 : ∀ x ∈ l1, (Lit.int .i64 x).wf = true) : ∃ k, laws_FnExactDistanceCounts.f k l0_0 l1 = some true := by
  refine Ev.rounds (r := true) ?_
  unfold laws_FnExactDistanceCounts.f
  by_cases c1 : (l1.length : Int) > 1048576
  · exact Ev.iff_pos c1 (Ev.now _)
  refine Ev.iff_neg c1 ?_
  have k1 : l1.length ≤ 1048576 := by omega
  have km1 : l1.length < maxLen := by unfold maxLen; omega
  refine Ev.bindc (szSpace_eq _ _ m0 (by omega) (by omega)) ?_
  by_cases h0 : (1048576 : Int) < (l0_0.length : Int)
  · exact Ev.iff_pos (by rw [if_pos h0]; omega) (Ev.now _)
  rw [if_neg h0]
  refine Ev.iff_neg (by omega) ?_
  have hl0 : l0_0.length ≤ 1048576 := by omega
  have hm0 : l0_0.length < maxLen := by unfold maxLen; omega
  have hr0 := countsR_len l0_0 l1
  repeat' first
    | exact Ev.now _
    | refine Ev.bind (toInt64S_ev _ k1) ?_
    | refine Ev.bind (toSpace_ev _ hl0) ?_
    | refine Ev.bind (specDistanceCounts_ev _ k1) ?_
    | refine Ev.bind (Ev.const (implDistanceCounts_eq _ k1)) ?_
    | (refine Ev.bind (eqSpace_ev _ _ ?_) ?_; (· (first | omega | (unfold maxLen; omega) | (simp only [iota_length]; omega) | (simp only [iota_length]; unfold maxLen; omega))))
    | (refine Ev.bind (eqInt64S_ev _ _ ?_) ?_; (· (first | omega | (unfold maxLen; omega) | (simp only [iota_length]; omega) | (simp only [iota_length]; unfold maxLen; omega))))
    | (refine Ev.bind (markSpace_ev _ _ ?_ ?_ ?_) ?_; (· (first | omega | (unfold maxLen; omega) | (simp only [iota_length]; omega) | (simp only [iota_length]; unfold maxLen; omega))); (· (first | omega | (unfold maxLen; omega) | (simp only [iota_length]; omega) | (simp only [iota_length]; unfold maxLen; omega))); (· (first | omega | (unfold maxLen; omega) | (simp only [iota_length]; omega) | (simp only [iota_length]; unfold maxLen; omega))))
    | (refine Ev.bind (markInt64S_ev _ _ ?_ ?_ ?_) ?_; (· (first | omega | (unfold maxLen; omega) | (simp only [iota_length]; omega) | (simp only [iota_length]; unfold maxLen; omega))); (· (first | omega | (unfold maxLen; omega) | (simp only [iota_length]; omega) | (simp only [iota_length]; unfold maxLen; omega))); (· (first | omega | (unfold maxLen; omega) | (simp only [iota_length]; omega) | (simp only [iota_length]; unfold maxLen; omega))))
    | (refine Ev.bind (heldInt64S_ev _ _ ?_ ?_) ?_; (· (first | omega | (unfold maxLen; omega) | (simp only [iota_length]; omega) | (simp only [iota_length]; unfold maxLen; omega))); (· (first | omega | (unfold maxLen; omega) | (simp only [iota_length]; omega) | (simp only [iota_length]; unfold maxLen; omega))))
    | (refine Ev.iff_pos ?_ ?_; (· (first | (simp; done) | omega)))
    | (refine Ev.iff_neg ?_ ?_; (· (first | (simp; done) | omega)))
    | refine Ev.step (show ∀ k, laws_FnExactDistanceCounts.j0 (k + 1) _ _ _ _ _ _ _ _ _ = _ from fun k => by rw [laws_FnExactDistanceCounts.j0]) ?_
    | refine Ev.step (show ∀ k, laws_FnExactDistanceCounts.j1 (k + 1) _ _ _ _ _ _ = _ from fun k => by rw [laws_FnExactDistanceCounts.j1]) ?_
    | refine Ev.step (show ∀ k, laws_FnExactDistanceCounts.j2 (k + 1) _ _ _ = _ from fun k => by rw [laws_FnExactDistanceCounts.j2]) ?_
end Go.Proofs.Ytjabkbnbcajdbaa.Q
