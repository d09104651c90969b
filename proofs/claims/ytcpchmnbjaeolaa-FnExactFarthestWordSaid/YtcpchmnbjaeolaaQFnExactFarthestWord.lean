/- The plain law of FarthestWord: the program's and the reference's FarthestWord answer alike. -/
import Derived.Test.YtcpchmnbjaeolaaQFarthest
import Derived.Test.YtcpchmnbjaeolaaFlawsFnExactFarthestWord
set_option linter.unusedVariables false
set_option linter.unusedSimpArgs false
namespace Go.Proofs.Ytcpchmnbjaeolaa.Q
open Go.RowKit Go.Proofs.Ytcpchmnbjaeolaa.P Go.Proofs.YtcpchmnbjaeolaaW.PrintWords CC
def rFarthestWord (s c : List Int) : Int × Int := if rSome s c [] = 0 then ((ag (farW s c) (NW s) : Int), 0) else (0, rSome s c [])
theorem indexAt_l {L : List Int} (hL : L.length ≤ 1048576) (x : Int) {t : Nat} (ht : t < L.length) (hx : rd L (t : Int) = x) (hb : ∀ j : Nat, j < t → rd L (j : Int) < x) : ∀ (m n : Nat), n + m = t →
    Ev (fun k => slices_Index_int64_int64.l0 k L x (L.length : Int) (n : Int)) (t : Int)
  | 0, n, hm => by
    have : n = t := by omega
    subst this
    refine Ev.step (fun k => by simp only [slices_Index_int64_int64.l0]; exact rfl) ?_
    refine Ev.iff_pos (by omega) ?_
    refine Ev.iff_pos (by omega) ?_
    refine Ev.iff_pos (by omega) ?_
    exact Ev.iff_pos hx.symm (Ev.now _)
  | m + 1, n, hm => by
    have hlt := hb n (by omega)
    refine Ev.step (fun k => by simp only [slices_Index_int64_int64.l0]; exact rfl) ?_
    refine Ev.iff_pos (by omega) ?_
    refine Ev.iff_pos (by omega) ?_
    refine Ev.iff_pos (by omega) ?_
    refine Ev.iff_neg (by omega) ?_
    rw [wrap_nat (by unfold maxLen; omega)]
    exact indexAt_l hL x ht hx hb m (n + 1) (by omega)
theorem specFarthestWord_ev (s : List Int) {c : List Int} (hcl : c.length ≤ 1048576) : Ev (fun k => spec_FarthestWord.f k s c) (rFarthestWord s c) := by
  unfold spec_FarthestWord.f rFarthestWord
  refine Ev.bind (l02Full_ev s hcl) ?_
  by_cases h : rSome s c [] = 0
  · obtain ⟨hs, hc, _, hp⟩ := rSome_zero h
    simp only [if_pos h]
    exact Ev.bind (l02Farthest_ev hs hc hp) (Ev.now _)
  · simp only [if_neg h]
    exact Ev.now _
theorem implFarthestWord_ev (s : List Int) {c : List Int} (hcl : c.length ≤ 1048576) : Ev (fun k => impl_FarthestWord.f k s c) (rFarthestWord s c) := by
  unfold impl_FarthestWord.f rFarthestWord
  refine Ev.bind (someCode_ev s hcl (by simp)) ?_
  by_cases h : rSome s c [] = 0
  · obtain ⟨hs, hc, _, hp⟩ := rSome_zero h
    have hN := NW_pos hs
    have hN2 := NW_le hs
    simp only [if_pos h]
    refine Ev.bindc (farness_eq hs hc hp) ?_
    refine Ev.bindc (max_eq hs) ?_
    obtain ⟨i1, i2, i3⟩ := ag_law (farW s c) (NW s - 1) (by rw [farW_length]; omega)
    rw [show NW s - 1 + 1 = NW s by omega] at i1 i2 i3
    refine Ev.bind (a := (ag (farW s c) (NW s) : Int)) ?_ (Ev.now _)
    unfold slices_Index_int64_int64.f
    exact indexAt_l (by rw [farW_length]; omega) _ (by rw [farW_length]; exact i1) i2 i3 (ag (farW s c) (NW s)) 0 (by omega)
  · simp only [if_neg h]
    exact Ev.now _
theorem FnExactFarthestWord (l0_0 : List Int) (m0 : l0_0.length ≤ maxLen) (w0 : ∀ x ∈ l0_0, (Lit.int .i64 x).wf = true) (l1 : List Int) (m1 : l1.length ≤ maxLen) (b1 : l1.length * 8 ≤ 140737488351232) (w1 : ∀ x ∈ l1, (Lit.int .i64 x).wf = true) : ∃ k, laws_FnExactFarthestWord.f k l0_0 l1 = some true := by
  refine Ev.rounds (r := true) ?_
  unfold laws_FnExactFarthestWord.f
  by_cases c1 : (l1.length : Int) > 1048576
  · exact Ev.iff_pos c1 (Ev.now _)
  refine Ev.iff_neg c1 ?_
  have k1 : l1.length ≤ 1048576 := by omega
  have km1 : l1.length < maxLen := by unfold maxLen; omega
  refine Ev.bindc (szSpace_eq _ _ m0 (by omega) (by omega)) ?_
  by_cases h0 : (1048576 : Int) < (l0_0.length : Int)
  · exact Ev.iff_pos (by rw [if_pos h0]; omega) (Ev.now _)
  rw [if_neg h0]
  refine Ev.iff_neg (by omega) ?_
  have hl0 : l0_0.length ≤ 1048576 := by omega
  have hm0 : l0_0.length < maxLen := by unfold maxLen; omega
  repeat' first
    | exact Ev.now _
    | refine Ev.bind (toInt64S_ev _ k1) ?_
    | refine Ev.bind (toSpace_ev _ hl0) ?_
    | refine Ev.bind (specFarthestWord_ev _ k1) ?_
    | refine Ev.bind (implFarthestWord_ev _ k1) ?_
    | (refine Ev.bind (eqSpace_ev _ _ ?_) ?_; (· (first | omega | (unfold maxLen; omega) | (simp only [iota_length]; omega) | (simp only [iota_length]; unfold maxLen; omega))))
    | (refine Ev.bind (eqInt64S_ev _ _ ?_) ?_; (· (first | omega | (unfold maxLen; omega) | (simp only [iota_length]; omega) | (simp only [iota_length]; unfold maxLen; omega))))
    | (refine Ev.iff_pos ?_ ?_; (· (first | (simp; done) | omega)))
    | (refine Ev.iff_neg ?_ ?_; (· (first | (simp; done) | omega)))
    | refine Ev.step (show ∀ k, laws_FnExactFarthestWord.j0 (k + 1) _ _ _ _ _ = _ from fun k => by rw [laws_FnExactFarthestWord.j0]) ?_
end Go.Proofs.Ytcpchmnbjaeolaa.Q
