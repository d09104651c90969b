/- The plain law of ChangeDigit: the program's and the reference's ChangeDigit answer alike. -/
import Derived.Test.YtjabkbnbcajdbaaQWords
import Derived.Test.YtjabkbnbcajdbaaQDigits
import Derived.Test.YtjabkbnbcajdbaaFlawsFnExactChangeDigit
set_option linter.unusedVariables false
set_option linter.unusedSimpArgs false
namespace Go.Proofs.Ytjabkbnbcajdbaa.Q
open Go.RowKit Go.Proofs.Ytjabkbnbcajdbaa.P Go.Proofs.YtjabkbnbcajdbaaW.PrintWords CC
theorem specChangeDigit_ev (s : List Int) (w i d : Int) : Ev (fun k => spec_ChangeDigit.f k s w i d) (rChange s w i d) := by
  unfold spec_ChangeDigit.f rChange
  refine Ev.bind (l01Words_ev s (c := [w]) (by simp)) ?_
  by_cases h : rWords s [w] = 0
  · obtain ⟨hs, hc⟩ := rWords_zero h
    have hl := isSp_len hs
    have hl1 := isSp_pos hs
    simp only [if_pos h]
    refine Ev.bindc (l01In_eq _ _ _) ?_
    rw [wrap_id (x := (s.length : Int) - 1) (by omega) (by omega)]
    by_cases hi : 0 ≤ i ∧ i < s.length
    · obtain ⟨n, rfl⟩ : ∃ n : Nat, i = (n : Int) := ⟨i.toNat, by omega⟩
      have hn : n < s.length := by omega
      have hq := all_rd (isSp_all hs) hn
      refine Ev.iff_pos (by simp; omega) (Ev.iff_pos (by omega) (Ev.iff_pos (by omega) (Ev.bindc (l01In_eq _ _ _) ?_)))
      rw [wrap_id (x := rd s (n : Int) - 1) (by omega) (by omega)]
      by_cases hd : 0 ≤ d ∧ d < rd s (n : Int)
      · rw [if_pos ⟨hi.1, hi.2, hd.1, hd.2⟩]
        refine Ev.step (fun k => by simp only [spec_ChangeDigit.j0]; exact rfl) ?_
        refine Ev.iff_neg (by simp; omega) (Ev.bind (l01Digits_ev hs (hc w (by simp))) ?_)
        have hset : inR s ((dg s w).set n d) = true := set_inR (inR_dg (isSp_all hs) w) hn hd.1 hd.2
        refine Ev.iff_pos (by omega) (Ev.iff_pos (by rw [dg_length]; omega) ?_)
        rw [Int.toNat_natCast]
        have e : hor 0 s ((dig8 s w).set n d) = wd s ((dg s w).set n d) := by
          rw [dig8_eq hl, List.set_append_left _ _ (by rw [dg_length]; exact hn), hor_pad (by simp [dg_length])]
          rfl
        rw [e]
        exact Ev.bind (l01Word_ev (isSp_all hs) hl (by simp [dg_length]) hset) (Ev.now _)
      · rw [if_neg (by rintro ⟨_, _, h1, h2⟩; exact hd ⟨h1, h2⟩)]
        refine Ev.step (fun k => by simp only [spec_ChangeDigit.j0]; exact rfl) ?_
        exact Ev.iff_pos (by simp; omega) (Ev.now _)
    · rw [if_neg (by rintro ⟨h1, h2, _⟩; exact hi ⟨h1, h2⟩)]
      refine Ev.iff_neg (by simp; omega) ?_
      refine Ev.step (fun k => by simp only [spec_ChangeDigit.j0]; exact rfl) ?_
      exact Ev.iff_pos (by simp) (Ev.now _)
  · simp only [if_neg h]
    exact Ev.now _
theorem implChangeDigit_ev (s : List Int) (w i d : Int) : impl_ChangeDigit.f s w i d = some (rChange s w i d) := rfl
theorem FnExactChangeDigit (l0_0 : List Int) (m0 : l0_0.length ≤ maxLen) (w0 : ∀ x ∈ l0_0, (Lit.int .i64 x).wf = true) (a1 : Int) (w1 : (Lit.int .i64 a1).wf = true) (a2 : Int) (w2 : (Lit.int .i64 a2).wf = true) (a3 : Int) (w3 : (Lit.int .i64 a3).wf = true) : ∃ k, laws_FnExactChangeDigit.f k l0_0 a1 a2 a3 = some true := by
  refine Ev.rounds (r := true) ?_
  unfold laws_FnExactChangeDigit.f
  refine Ev.bindc (szSpace_eq _ _ m0 (by omega) (by omega)) ?_
  by_cases h0 : (1048576 : Int) < (l0_0.length : Int)
  · exact Ev.iff_pos (by rw [if_pos h0]; omega) (Ev.now _)
  rw [if_neg h0]
  refine Ev.iff_neg (by omega) ?_
  have hl0 : l0_0.length ≤ 1048576 := by omega
  have hm0 : l0_0.length < maxLen := by unfold maxLen; omega
  repeat' first
    | exact Ev.now _
    | refine Ev.bind (toSpace_ev _ hl0) ?_
    | refine Ev.bind (specChangeDigit_ev _ _ _ _) ?_
    | refine Ev.bind (Ev.const (implChangeDigit_ev _ _ _ _)) ?_
    | (refine Ev.bind (eqSpace_ev _ _ ?_) ?_; (· (first | omega | (unfold maxLen; omega) | (simp only [iota_length]; omega) | (simp only [iota_length]; unfold maxLen; omega))))
    | (refine Ev.bind (eqInt64S_ev _ _ ?_) ?_; (· (first | omega | (unfold maxLen; omega) | (simp only [iota_length]; omega) | (simp only [iota_length]; unfold maxLen; omega))))
    | (refine Ev.iff_pos ?_ ?_; (· (first | (simp; done) | omega)))
    | (refine Ev.iff_neg ?_ ?_; (· (first | (simp; done) | omega)))
    | refine Ev.step (show ∀ k, laws_FnExactChangeDigit.j0 (k + 1) _ _ _ = _ from fun k => by rw [laws_FnExactChangeDigit.j0]) ?_
end Go.Proofs.Ytjabkbnbcajdbaa.Q
