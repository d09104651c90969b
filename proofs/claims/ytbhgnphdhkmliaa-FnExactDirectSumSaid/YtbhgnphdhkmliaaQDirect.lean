/- Direct sums: what the reference's DirectSum answers. -/
import Derived.Test.YtbhgnphdhkmliaaQPut
import Derived.Test.YtbhgnphdhkmliaaQGiven
import Derived.Test.YtbhgnphdhkmliaaHDirect
import Derived.Test.YtbhgnphdhkmliaaFspecl03Plus
import Derived.Test.YtbhgnphdhkmliaaFspecl03Sum
import Derived.Test.YtbhgnphdhkmliaaFspecDirectSum
set_option linter.unusedVariables false
set_option linter.unusedSimpArgs false
namespace Go.Proofs.Ytbhgnphdhkmliaa.Q
open Go.RowKit Go.Proofs.Ytbhgnphdhkmliaa.P Go.Proofs.YtbhgnphdhkmliaaW.PrintWords CC

theorem l03Plus_ev (s x : List Int) (hs : s.length ≤ 1048576) (hx : x.length ≤ 1048576) : Ev (fun k => spec_l03Plus.f k s x) (s ++ x, isSp (s ++ x)) := by
  unfold spec_l03Plus.f
  refine Ev.bindc (l01Own_eq _ hs) ?_
  refine Ev.iff_pos (by omega) ?_
  refine Ev.bindc rfl ?_
  exact Ev.bind (l01Is_ev _) (Ev.now _)
theorem l03Sum_l1 {C D : List Int} {P : Int} (hC : C.length ≤ 1024) (hD : D.length ≤ 1024) (p0 : 1 ≤ P) (p1 : P ≤ 1024) (hw : ∀ n : Nat, n < C.length → 0 ≤ rd C (n : Int) ∧ rd C (n : Int) ≤ 1024) (hv : ∀ n : Nat, n < D.length → 0 ≤ rd D (n : Int) ∧ rd D (n : Int) ≤ 1024) {i : Nat} (hi : i < C.length) {r : List Int}
    (hnext : Ev (fun j => spec_l03Sum.l0 j C D P (dsP C D P i D.length) (C.length : Int) (wrap64 ((i : Int) + 1))) r) : ∀ (k m : Nat), m + k = D.length →
    Ev (fun j => spec_l03Sum.l1 j C D P (dsP C D P i m) (i : Int) (C.length : Int) (i : Int) (D.length : Int) (m : Int)) r
  | 0, m, hm => by
    obtain rfl : m = D.length := by omega
    refine Ev.step (fun k => by simp only [spec_l03Sum.l1]; exact rfl) ?_
    exact Ev.iff_neg (by omega) hnext
  | k + 1, m, hm => by
    have ih := l03Sum_l1 hC hD p0 p1 hw hv hi hnext k (m + 1) (by omega)
    have hlen := dsP_len (C := C) (D := D) P (Nat.le_of_lt hi) (show m ≤ D.length by omega) hC hD
    obtain ⟨u0, u1⟩ := hw i hi
    obtain ⟨v0, v1⟩ := hv m (by omega)
    have e1 : 0 ≤ rd C (i : Int) * P := Int.mul_nonneg u0 (by omega)
    have e2 : rd C (i : Int) * P ≤ 1048576 := by
      have := Int.mul_le_mul u1 p1 (by omega) (by omega)
      omega
    refine Ev.step (fun k => by simp only [spec_l03Sum.l1]; exact rfl) ?_
    refine Ev.iff_pos (by omega) (Ev.iff_pos (by omega) (Ev.iff_pos (by omega) (Ev.iff_pos (by omega) (Ev.iff_pos (by omega) (Ev.iff_pos (by omega) ?_)))))
    rw [wrap_id (x := rd C (i : Int) * P) (by omega) (by omega), wrap_id (by omega) (by omega), wrap_nat (by unfold maxLen; omega), ← dsP_step P (show m < D.length by omega)]
    exact ih
theorem l03Sum_l0 {C D : List Int} {P : Int} (hC : C.length ≤ 1024) (hD : D.length ≤ 1024) (p0 : 1 ≤ P) (p1 : P ≤ 1024) (hw : ∀ n : Nat, n < C.length → 0 ≤ rd C (n : Int) ∧ rd C (n : Int) ≤ 1024) (hv : ∀ n : Nat, n < D.length → 0 ≤ rd D (n : Int) ∧ rd D (n : Int) ≤ 1024) : ∀ (k i : Nat), i + k = C.length →
    Ev (fun j => spec_l03Sum.l0 j C D P (dsP C D P i 0) (C.length : Int) (i : Int)) (dsL C D P)
  | 0, i, hm => by
    obtain rfl : i = C.length := by omega
    refine Ev.step (fun k => by simp only [spec_l03Sum.l0]; exact rfl) ?_
    refine Ev.iff_neg (by omega) ?_
    rw [dsP_nil, List.take_length]
    exact Ev.now _
  | k + 1, i, hm => by
    have ih := l03Sum_l0 hC hD p0 p1 hw hv k (i + 1) (by omega)
    refine Ev.step (fun k => by simp only [spec_l03Sum.l0]; exact rfl) ?_
    refine Ev.iff_pos (by omega) ?_
    refine l03Sum_l1 hC hD p0 p1 hw hv (show i < C.length by omega) ?_ D.length 0 (by omega)
    rw [wrap_nat (by unfold maxLen; omega), dsP_row P (show i < C.length by omega)]
    exact ih
theorem specDirect_ev (s x : List Int) {C D : List Int} (hC : C.length ≤ 1048576) (hD : D.length ≤ 1048576) : Ev (fun k => spec_DirectSum.f k s C x D) (directR s C x D) := by
  unfold spec_DirectSum.f directR rTwoD
  refine Ev.bind (l01Is_ev s) ?_
  by_cases hs : isSp s = true
  · refine Ev.iff_pos hs ?_
    refine Ev.bind (l01Is_ev x) ?_
    by_cases hx : isSp x = true
    · rw [if_pos (show isSp s = true ∧ isSp x = true from ⟨hs, hx⟩), hx]
      refine Ev.step (fun k => by simp only [spec_DirectSum.j0]; exact rfl) ?_
      refine Ev.iff_neg (by simp) ?_
      refine Ev.bind (l01Code_ev hs hC) ?_
      by_cases h1 : isC s C = true
      · refine Ev.iff_pos h1 ?_
        refine Ev.bind (l01Code_ev hx hD) ?_
        by_cases h2 : isC x D = true
        · rw [if_pos (show isC s C = true ∧ isC x D = true from ⟨h1, h2⟩), if_pos rfl]
          refine Ev.iff_pos h2 ?_
          have l1 := isSp_len hs
          have l2 := isSp_len hx
          refine Ev.bind (l03Plus_ev s x (by omega) (by omega)) ?_
          by_cases hb : isSp (s ++ x) = true
          · rw [if_pos hb]
            refine Ev.iff_pos hb ?_
            refine Ev.bind (l01N_sp hx) ?_
            have hw : ∀ n : Nat, n < C.length → 0 ≤ rd C (n : Int) ∧ rd C (n : Int) ≤ 1024 := fun n hn => by have h1 := (isW_iff s _).1 (isC_rd h1 hn); have h2 := isSp_prd hs; omega
            have hv : ∀ n : Nat, n < D.length → 0 ≤ rd D (n : Int) ∧ rd D (n : Int) ≤ 1024 := fun n hn => by have h1 := (isW_iff x _).1 (isC_rd h2 hn); have h2 := isSp_prd hx; omega
            have := l03Sum_l0 (isC_len hs h1) (isC_len hx h2) (isSp_prd1 hx) (isSp_prd hx) hw hv C.length 0 (by omega)
            rw [dsP_nil, List.take_zero] at this
            exact Ev.bind this (Ev.now _)
          · rw [if_neg hb]
            exact Ev.iff_neg hb (Ev.now _)
        · rw [if_neg (show ¬ (isC s C = true ∧ isC x D = true) from fun z => h2 z.2), if_neg (by decide)]
          exact Ev.iff_neg h2 (Ev.now _)
      · rw [if_neg (show ¬ (isC s C = true ∧ isC x D = true) from fun z => h1 z.1), if_neg (by decide)]
        exact Ev.iff_neg h1 (Ev.now _)
    · rw [if_neg (show ¬ (isSp s = true ∧ isSp x = true) from fun z => hx z.2), if_neg (by decide), Bool.eq_false_iff.2 hx]
      refine Ev.step (fun k => by simp only [spec_DirectSum.j0]; exact rfl) ?_
      exact Ev.iff_pos (by first | rfl | trivial | simp) (Ev.now _)
  · rw [if_neg (show ¬ (isSp s = true ∧ isSp x = true) from fun z => hs z.1), if_neg (by decide)]
    refine Ev.iff_neg hs ?_
    refine Ev.step (fun k => by simp only [spec_DirectSum.j0]; exact rfl) ?_
    exact Ev.iff_pos (by first | rfl | trivial | simp) (Ev.now _)
theorem directR_len (s x : List Int) {C D : List Int} (hC : C.length ≤ 1048576) (hD : D.length ≤ 1048576) : (directR s C x D).1.length ≤ 1048576 ∧ (directR s C x D).2.1.length ≤ 1048576 := by
  unfold directR
  by_cases h : rTwoD s C x D = 0
  · rw [if_pos h]
    obtain ⟨hs, hx, h1, h2⟩ := rTwoD_zero h
    have l1 := isSp_len hs
    have l2 := isSp_len hx
    have l3 := isC_len hs h1
    have l4 := isC_len hx h2
    split
    · refine ⟨by show (s ++ x).length ≤ _; rw [List.length_append]; omega, ?_⟩
      show (dsL C D (prd x)).length ≤ _
      rw [dsL_len]
      have : C.length * D.length ≤ 1024 * 1024 := Nat.mul_le_mul l3 l4
      omega
    · simp
  · rw [if_neg h]
    simp
end Go.Proofs.Ytbhgnphdhkmliaa.Q
