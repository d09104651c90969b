/- The plain law of OppositeWord: the program's and the reference's OppositeWord answer alike. -/
import Derived.Test.YtjepdabecbmfgaaQWords
import Derived.Test.YtjepdabecbmfgaaQDigits
import Derived.Test.YtjepdabecbmfgaaFlawsFnExactOppositeWord
set_option linter.unusedVariables false
set_option linter.unusedSimpArgs false
namespace Go.Proofs.Ytjepdabecbmfgaa.Q
open Go.RowKit Go.Proofs.Ytjepdabecbmfgaa.P Go.Proofs.YtjepdabecbmfgaaW.PrintWords CC
theorem upd8_gen (g : Nat → Int) {n : Nat} (hn : n ≤ 8) : upd8 g n = genL g n ++ List.replicate (8 - n) 0 := by
  apply List.ext_getElem?
  intro k
  by_cases h8 : k < 8
  · by_cases hk : k < n
    · rw [List.getElem?_append_left (by rw [genL_length]; exact hk)]
      simp [upd8, genL, h8, hk]
    · rw [List.getElem?_append_right (by rw [genL_length]; omega), genL_length, List.getElem?_replicate, if_pos (by omega)]
      simp [upd8, h8, hk]
  · rw [List.getElem?_eq_none (by rw [upd8_length]; omega), List.getElem?_eq_none (by simp [genL_length]; omega)]
theorem specOpp_l {s d : List Int} (hs : s.all sizeOk = true) (hl : s.length ≤ 8) (hd : d.length = s.length) (hr : inR s d = true) : ∀ (m n : Nat), n + m = s.length →
    Ev (fun k => spec_OppositeWord.l0 k (genL (fun k => (-rd d (k : Int)) % rd s (k : Int)) n ++ d.drop n) (d.length : Int) (n : Int) s) (wd s (genL (fun k => (-rd d (k : Int)) % rd s (k : Int)) s.length), 0)
  | 0, n, hm => by
    obtain rfl : n = s.length := by omega
    refine Ev.step (fun k => by simp only [spec_OppositeWord.l0]; exact rfl) (Ev.iff_neg (by omega) ?_)
    rw [List.drop_eq_nil_of_le (by omega), List.append_nil]
    refine Ev.bind (l01Word_ev hs hl (genL_length _ _) (genL_inR fun k hk => ?_)) (Ev.now _)
    have hq := all_rd hs hk
    exact ⟨Int.emod_nonneg _ (by omega), Int.emod_lt_of_pos _ (by omega)⟩
  | m + 1, n, hm => by
    have hn : n < s.length := by omega
    have hq := all_rd hs hn
    obtain ⟨r0, r1⟩ := inR_rd s d n hr hn (by omega)
    refine Ev.step (fun k => by simp only [spec_OppositeWord.l0]; exact rfl) ?_
    refine Ev.iff_pos (by omega) (Ev.iff_pos (by omega) (Ev.iff_pos (by omega) (Ev.iff_pos ?_ (Ev.iff_neg (by omega) ?_))))
    · simp [genL_length]
      omega
    · rw [genL_old (by omega), wrap_id (x := rd s (n : Int) - rd d (n : Int)) (by omega) (by omega), tmod_pos (by omega), wrap_nat (by unfold maxLen; omega), Int.toNat_natCast]
      have e : (rd s (n : Int) - rd d (n : Int)) % rd s (n : Int) = (-rd d (n : Int)) % rd s (n : Int) := by simp
      rw [e]
      have := genL_set (g := fun k => (-rd d (k : Int)) % rd s (k : Int)) (n := n) (d := d) (by omega)
      rw [this]
      exact specOpp_l hs hl hd hr m (n + 1) (by omega)
theorem specOppositeWord_ev (s : List Int) (w : Int) : Ev (fun k => spec_OppositeWord.f k s w) (rOpp s w) := by
  unfold spec_OppositeWord.f rOpp
  refine Ev.bind (l01Words_ev s (c := [w]) (by simp)) ?_
  by_cases h : rWords s [w] = 0
  · obtain ⟨hs, hc⟩ := rWords_zero h
    simp only [if_pos h]
    refine Ev.bind (l01Digits_ev hs (hc w (by simp))) ?_
    have := specOpp_l (isSp_all hs) (isSp_len hs) (dg_length s w) (inR_dg (isSp_all hs) w) s.length 0 (by omega)
    have e : hor 0 s (opp8 s (dig8 s w)) = wd s (genL (fun k => (-rd (dg s w) (k : Int)) % rd s (k : Int)) s.length) := by
      unfold opp8 wd
      rw [upd8_gen _ (isSp_len hs), hor_pad (genL_length _ _)]
      congr 1
      apply genL_congr
      intro k hk
      have e2 : rd (dig8 s w) (k : Int) = rd (dg s w) (k : Int) := by
        rw [dig8_eq (isSp_len hs), rd_nat, rd_nat, List.getD_eq_getElem?_getD, List.getElem?_append_left (by rw [dg_length]; exact hk), List.getD_eq_getElem?_getD]
      rw [e2]
    rw [e]
    simpa [genL] using this
  · simp only [if_neg h]
    exact Ev.now _
theorem implOppositeWord_ev (s : List Int) (w : Int) : impl_OppositeWord.f s w = some (rOpp s w) := rfl
theorem FnExactOppositeWord (l0_0 : List Int) (m0 : l0_0.length ≤ maxLen) (w0 : ∀ x ∈ l0_0, (Lit.int .i64 x).wf = true) (a1 : Int) (w1 : (Lit.int .i64 a1).wf = true) : ∃ k, laws_FnExactOppositeWord.f k l0_0 a1 = some true := by
  refine Ev.rounds (r := true) ?_
  unfold laws_FnExactOppositeWord.f
  refine Ev.bindc (szSpace_eq _ _ m0 (by omega) (by omega)) ?_
  by_cases h0 : (1048576 : Int) < (l0_0.length : Int)
  · exact Ev.iff_pos (by rw [if_pos h0]; omega) (Ev.now _)
  rw [if_neg h0]
  refine Ev.iff_neg (by omega) ?_
  have hl0 : l0_0.length ≤ 1048576 := by omega
  have hm0 : l0_0.length < maxLen := by unfold maxLen; omega
  repeat' first
    | exact Ev.now _
    | refine Ev.bind (toSpace_ev _ hl0) ?_
    | refine Ev.bind (specOppositeWord_ev _ _) ?_
    | refine Ev.bind (Ev.const (implOppositeWord_ev _ _)) ?_
    | (refine Ev.bind (eqSpace_ev _ _ ?_) ?_; (· (first | omega | (unfold maxLen; omega) | (simp only [iota_length]; omega) | (simp only [iota_length]; unfold maxLen; omega))))
    | (refine Ev.bind (eqInt64S_ev _ _ ?_) ?_; (· (first | omega | (unfold maxLen; omega) | (simp only [iota_length]; omega) | (simp only [iota_length]; unfold maxLen; omega))))
    | (refine Ev.iff_pos ?_ ?_; (· (first | (simp; done) | omega)))
    | (refine Ev.iff_neg ?_ ?_; (· (first | (simp; done) | omega)))
    | refine Ev.step (show ∀ k, laws_FnExactOppositeWord.j0 (k + 1) _ _ _ = _ from fun k => by rw [laws_FnExactOppositeWord.j0]) ?_
end Go.Proofs.Ytjepdabecbmfgaa.Q
