/- The plain law of NearestWords: the program's and the reference's NearestWords answer alike. -/
import Derived.Test.YtjabkbnbcajdbaaQTo
import Derived.Test.YtjabkbnbcajdbaaHDist
import Derived.Test.YtjabkbnbcajdbaaFlawsFnExactNearestWords
set_option linter.unusedVariables false
set_option linter.unusedSimpArgs false
namespace Go.Proofs.Ytjabkbnbcajdbaa.Q
open Go.RowKit Go.Proofs.Ytjabkbnbcajdbaa.P Go.Proofs.YtjabkbnbcajdbaaW.PrintWords CC
/-- The nearest words of a code. -/
def nearL (s c : List Int) (w : Int) : List Int := c.filter fun x => decide (dist s x w = mdL s w 9 c)
def rNear (s c : List Int) (w : Int) : Int := if rCode s c [] = 0 then if isW s w then 0 else 2 else rCode s c []
theorem rNear_eq (s c : List Int) (w : Int) : rCode s c [w] = rNear s c w := by
  unfold rNear rCode rWords
  by_cases hs : isSp s = true
  · by_cases hw : isW s w = true
    · by_cases hc : isC s c = true
      · simp [hs, hw, hc]
      · simp [hs, hw, hc]
    · by_cases hc : isC s c = true
      · simp [hs, hw, hc]
      · simp [hs, hw, hc]
  · simp [hs]
def rNearestWords (s c : List Int) (w : Int) : List Int × Int := if rNear s c w = 0 then (nearL s c w, 0) else ([], rNear s c w)
theorem rNearestWords_len (s c : List Int) (w : Int) : (rNearestWords s c w).1.length ≤ 1024 := by
  unfold rNearestWords
  by_cases h : rNear s c w = 0
  · rw [if_pos h]
    rw [← rNear_eq] at h
    obtain ⟨hs, hc, _⟩ := rCode_zero h
    have h1 := isC_len hs hc
    have h2 := List.length_filter_le (fun x => decide (dist s x w = mdL s w 9 c)) c
    show (nearL s c w).length ≤ 1024
    unfold nearL
    omega
  · rw [if_neg h]
    simp
theorem distance_eq {s : List Int} (hs : isSp s = true) {u w : Int} (hu : isW s u = true) (hw : isW s w = true) : impl_distance.f s u w = some (dist s u w) := by
  unfold impl_distance.f
  rw [if_pos ⟨hs, hu, hw⟩, ham_dig8 (isSp_len hs)]
theorem implNear_l {s c : List Int} (hs : isSp s = true) (hc : isC s c = true) {w : Int} (hw : isW s w = true) : ∀ (m n : Nat) (L : List Int) (a : Int), n + m = c.length → L.length ≤ n →
    Ev (fun k => impl_NearestWords.l0 k w L a c (c.length : Int) (n : Int) s) ((if mdL s w a (c.drop n) = a then L else []) ++ (c.drop n).filter (fun x => decide (dist s x w = mdL s w a (c.drop n))), 0)
  | 0, n, L, a, hm, hL => by
    refine Ev.step (fun k => by simp only [impl_NearestWords.l0]; exact rfl) ?_
    refine Ev.iff_neg (by omega) ?_
    rw [drop_all (by omega)]
    simpa [mdL] using Ev.now _
  | m + 1, n, L, a, hm, hL => by
    have hn : n < c.length := by omega
    have hl := isC_len hs hc
    refine Ev.step (fun k => by simp only [impl_NearestWords.l0]; exact rfl) ?_
    refine Ev.iff_pos (by omega) ?_
    refine Ev.iff_pos (by omega) ?_
    refine Ev.iff_pos (by omega) ?_
    refine Ev.bindc (distance_eq hs (isC_rd hc hn) hw) ?_
    rw [wrap_nat (by unfold maxLen; omega), drop_cons c hn]
    generalize hd : dist s (rd c (n : Int)) w = t
    by_cases h1 : t < a
    · refine Ev.iff_pos h1 ?_
      refine Ev.bindc rfl ?_
      refine Ev.iff_pos (by first | rfl | trivial) ?_
      refine Ev.iff_pos (by simp) ?_
      have ih := implNear_l hs hc hw m (n + 1) [rd c (n : Int)] t (by omega) (by simp)
      have e : mn a t = t := by
        unfold mn
        rw [if_pos h1]
      have hle := mdL_le s w (c.drop (n + 1)) t
      simp only [mdL, hd, e, List.filter_cons]
      rw [if_neg (show ¬ mdL s w t (c.drop (n + 1)) = a by omega)]
      simp only [List.nil_append]
      by_cases h2 : mdL s w t (c.drop (n + 1)) = t
      · rw [if_pos h2] at ih
        rw [if_pos (by simp [h2])]
        simpa using ih
      · rw [if_neg h2] at ih
        rw [if_neg (by simp; omega)]
        simpa using ih
    · refine Ev.iff_neg h1 ?_
      have e : mn a t = a := by
        unfold mn
        rw [if_neg h1]
      have hle := mdL_le s w (c.drop (n + 1)) a
      simp only [mdL, hd, e, List.filter_cons]
      by_cases h2 : t = a
      · refine Ev.iff_pos h2 ?_
        refine Ev.iff_pos (by omega) ?_
        have ih := implNear_l hs hc hw m (n + 1) (L ++ [rd c (n : Int)]) a (by omega) (by simp; omega)
        by_cases h3 : mdL s w a (c.drop (n + 1)) = a
        · rw [if_pos h3] at ih ⊢
          rw [if_pos (by simp; omega)]
          simpa using ih
        · rw [if_neg h3] at ih ⊢
          rw [if_neg (by simp; omega)]
          simpa using ih
      · refine Ev.iff_neg h2 ?_
        have ih := implNear_l hs hc hw m (n + 1) L a (by omega) (by omega)
        rw [if_neg (show ¬ decide (t = mdL s w a (c.drop (n + 1))) = true by simp; omega)]
        exact ih
theorem specNear_l {s c : List Int} (hs : isSp s = true) (hc : isC s c = true) {w : Int} (hw : isW s w = true) : ∀ (m n : Nat) (L : List Int), n + m = c.length → L.length ≤ n →
    Ev (fun k => spec_NearestWords.l0 k c w L (n : Int) s) (L ++ (c.drop n).filter (fun x => decide (dist s x w = mdL s w 9 c)), 0)
  | 0, n, L, hm, hL => by
    refine Ev.step (fun k => by simp only [spec_NearestWords.l0]; exact rfl) ?_
    refine Ev.iff_neg (by omega) ?_
    rw [drop_all (by omega)]
    simpa using Ev.now _
  | m + 1, n, L, hm, hL => by
    have hn : n < c.length := by omega
    have hl := isC_len hs hc
    refine Ev.step (fun k => by simp only [spec_NearestWords.l0]; exact rfl) ?_
    refine Ev.iff_pos (by omega) ?_
    refine Ev.iff_pos (by omega) ?_
    refine Ev.bind (l01Distance_ev hs (isC_rd hc hn) hw) ?_
    refine Ev.bind (l02To_ev hs hc hw (by omega) (b := 9) (by omega)) ?_
    rw [wrap_nat (by unfold maxLen; omega), drop_cons c hn]
    simp only [List.filter_cons]
    by_cases h : dist s (rd c (n : Int)) w = mdL s w 9 c
    · refine Ev.iff_pos h ?_
      refine Ev.iff_pos (by omega) ?_
      have ih := specNear_l hs hc hw m (n + 1) (L ++ [rd c (n : Int)]) (by omega) (by simp; omega)
      rw [if_pos (by simp [h])]
      simpa using ih
    · refine Ev.iff_neg h ?_
      have ih := specNear_l hs hc hw m (n + 1) L (by omega) (by omega)
      rw [if_neg (by simp [h])]
      exact ih
theorem specNearestWords_ev (s : List Int) {c : List Int} (hcl : c.length ≤ 1048576) (w : Int) : Ev (fun k => spec_NearestWords.f k s c w) (rNearestWords s c w) := by
  unfold spec_NearestWords.f rNearestWords rNear
  refine Ev.bind (l01Given_ev s hcl) ?_
  by_cases h : rCode s c [] = 0
  · obtain ⟨hs, hc, _⟩ := rCode_zero h
    simp only [if_pos h]
    refine Ev.bind (l01N_sp hs) ?_
    have hp := isSp_prd hs
    have hp1 := isSp_prd1 hs
    rw [wrap_id (x := prd s - 1) (by omega) (by omega)]
    refine Ev.bindc (l01In_eq _ _ _) ?_
    refine Ev.step (fun k => by simp only [spec_NearestWords.j0]; exact rfl) ?_
    by_cases hw : isW s w = true
    · have hw' := (isW_iff s w).1 hw
      refine Ev.iff_neg (by rw [decide_eq_true (show 0 ≤ w ∧ w ≤ prd s - 1 from ⟨by omega, by omega⟩)]; decide) ?_
      refine Ev.step (fun k => by simp only [spec_NearestWords.j1]; exact rfl) ?_
      refine Ev.iff_pos h ?_
      simp only [if_pos hw]
      have := specNear_l hs hc hw c.length 0 [] (by omega) (by simp)
      simpa [nearL] using this
    · have hw' := fun z => hw ((isW_iff s w).2 z)
      refine Ev.iff_pos (by rw [decide_eq_false (show ¬ (0 ≤ w ∧ w ≤ prd s - 1) from fun z => hw' ⟨z.1, by have := z.2; omega⟩)]; decide) ?_
      refine Ev.step (fun k => by simp only [spec_NearestWords.j1]; exact rfl) ?_
      refine Ev.iff_neg (by decide) ?_
      simp only [if_neg hw]
      exact Ev.now _
  · simp only [if_neg h]
    refine Ev.step (fun k => by simp only [spec_NearestWords.j0]; exact rfl) ?_
    refine Ev.iff_neg (by decide) ?_
    refine Ev.step (fun k => by simp only [spec_NearestWords.j1]; exact rfl) ?_
    refine Ev.iff_neg h ?_
    exact Ev.now _
theorem implNearestWords_ev (s : List Int) {c : List Int} (hcl : c.length ≤ 1048576) (w : Int) : Ev (fun k => impl_NearestWords.f k s c w) (rNearestWords s c w) := by
  unfold impl_NearestWords.f rNearestWords
  refine Ev.bind (codeCode_ev s hcl (ws := [w]) (by simp)) ?_
  rw [rNear_eq]
  by_cases h : rNear s c w = 0
  · simp only [if_pos h]
    rw [← rNear_eq] at h
    obtain ⟨hs, hc, hw⟩ := rCode_zero h
    have := implNear_l hs hc (hw w (by simp)) c.length 0 [] 9 (by omega) (by simp)
    simpa [nearL] using this
  · simp only [if_neg h]
    exact Ev.now _
theorem FnExactNearestWords (l0_0 : List Int) (m0 : l0_0.length ≤ maxLen) (w0 : ∀ x ∈ l0_0, (Lit.int .i64 x).wf = true) (l1 : List Int) (m1 : l1.length ≤ maxLen) (b1 : l1.length * 8 ≤ 140737488351232) (w1 : ∀ x ∈ l1, (Lit.int .i64 x).wf = true) (a2 : Int) (w2 : (Lit.int .i64 a2).wf = true) : ∃ k, laws_FnExactNearestWords.f k l0_0 l1 a2 = some true := by
  refine Ev.rounds (r := true) ?_
  unfold laws_FnExactNearestWords.f
  by_cases c1 : (l1.length : Int) > 1048576
  · exact Ev.iff_pos c1 (Ev.now _)
  refine Ev.iff_neg c1 ?_
  have k1 : l1.length ≤ 1048576 := by omega
  have km1 : l1.length < maxLen := by unfold maxLen; omega
  refine Ev.bindc (szSpace_eq _ _ m0 (by omega) (by omega)) ?_
  by_cases h0 : (1048576 : Int) < (l0_0.length : Int)
  · exact Ev.iff_pos (by rw [if_pos h0]; omega) (Ev.now _)
  rw [if_neg h0]
  refine Ev.iff_neg (by omega) ?_
  have hl0 : l0_0.length ≤ 1048576 := by omega
  have hm0 : l0_0.length < maxLen := by unfold maxLen; omega
  have hr0 := rNearestWords_len l0_0 l1 a2
  repeat' first
    | exact Ev.now _
    | refine Ev.bind (toInt64S_ev _ k1) ?_
    | refine Ev.bind (toSpace_ev _ hl0) ?_
    | refine Ev.bind (specNearestWords_ev _ k1 _) ?_
    | refine Ev.bind (implNearestWords_ev _ k1 _) ?_
    | (refine Ev.bind (eqSpace_ev _ _ ?_) ?_; (· (first | omega | (unfold maxLen; omega) | (simp only [iota_length]; omega) | (simp only [iota_length]; unfold maxLen; omega))))
    | (refine Ev.bind (eqInt64S_ev _ _ ?_) ?_; (· (first | omega | (unfold maxLen; omega) | (simp only [iota_length]; omega) | (simp only [iota_length]; unfold maxLen; omega))))
    | (refine Ev.bind (markSpace_ev _ _ ?_ ?_ ?_) ?_; (· (first | omega | (unfold maxLen; omega) | (simp only [iota_length]; omega) | (simp only [iota_length]; unfold maxLen; omega))); (· (first | omega | (unfold maxLen; omega) | (simp only [iota_length]; omega) | (simp only [iota_length]; unfold maxLen; omega))); (· (first | omega | (unfold maxLen; omega) | (simp only [iota_length]; omega) | (simp only [iota_length]; unfold maxLen; omega))))
    | (refine Ev.bind (markInt64S_ev _ _ ?_ ?_ ?_) ?_; (· (first | omega | (unfold maxLen; omega) | (simp only [iota_length]; omega) | (simp only [iota_length]; unfold maxLen; omega))); (· (first | omega | (unfold maxLen; omega) | (simp only [iota_length]; omega) | (simp only [iota_length]; unfold maxLen; omega))); (· (first | omega | (unfold maxLen; omega) | (simp only [iota_length]; omega) | (simp only [iota_length]; unfold maxLen; omega))))
    | (refine Ev.bind (heldInt64S_ev _ _ ?_ ?_) ?_; (· (first | omega | (unfold maxLen; omega) | (simp only [iota_length]; omega) | (simp only [iota_length]; unfold maxLen; omega))); (· (first | omega | (unfold maxLen; omega) | (simp only [iota_length]; omega) | (simp only [iota_length]; unfold maxLen; omega))))
    | (refine Ev.iff_pos ?_ ?_; (· (first | (simp; done) | omega)))
    | (refine Ev.iff_neg ?_ ?_; (· (first | (simp; done) | omega)))
    | refine Ev.step (show ∀ k, laws_FnExactNearestWords.j0 (k + 1) _ _ _ _ _ _ _ _ _ _ = _ from fun k => by rw [laws_FnExactNearestWords.j0]) ?_
    | refine Ev.step (show ∀ k, laws_FnExactNearestWords.j1 (k + 1) _ _ _ _ _ _ _ = _ from fun k => by rw [laws_FnExactNearestWords.j1]) ?_
    | refine Ev.step (show ∀ k, laws_FnExactNearestWords.j2 (k + 1) _ _ _ = _ from fun k => by rw [laws_FnExactNearestWords.j2]) ?_
end Go.Proofs.Ytjabkbnbcajdbaa.Q
