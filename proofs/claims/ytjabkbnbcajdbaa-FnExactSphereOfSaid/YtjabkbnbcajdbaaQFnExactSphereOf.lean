/- The plain law of SphereOf: the program's and the reference's SphereOf answer alike. -/
import Derived.Test.YtjabkbnbcajdbaaQBall
import Derived.Test.YtjabkbnbcajdbaaHSphere
import Derived.Test.YtjabkbnbcajdbaaFlawsFnExactSphereOf
set_option linter.unusedVariables false
set_option linter.unusedSimpArgs false
namespace Go.Proofs.Ytjabkbnbcajdbaa.Q
open Go.RowKit Go.Proofs.Ytjabkbnbcajdbaa.P Go.Proofs.YtjabkbnbcajdbaaW.PrintWords CC
def rSphereOf (s : List Int) (w r : Int) : List Int × Int := if rBall s w r = 0 then (selL (fun u => decide (dist s w u = r)) (NW s), 0) else ([], rBall s w r)
theorem rSphereOf_len (s : List Int) (w r : Int) : (rSphereOf s w r).1.length ≤ 1024 := by
  unfold rSphereOf
  by_cases h : rBall s w r = 0
  · rw [if_pos h]
    have := selL_len (fun u => decide (dist s w u = r)) (NW s)
    have := NW_le (rBall_zero h).1
    show (selL (fun u => decide (dist s w u = r)) (NW s)).length ≤ 1024
    omega
  · rw [if_neg h]
    simp
theorem specSphere_l {s : List Int} (hs : isSp s = true) {w : Int} (hw : isW s w = true) (r : Int) : ∀ (m n : Nat), n + m = NW s →
    Ev (fun k => spec_SphereOf.l0 k w r (selL (fun u => decide (dist s w u = r)) n) (n : Int) s) (selL (fun u => decide (dist s w u = r)) (NW s), 0)
  | 0, n, hm => by
    have hN := NW_eq hs
    refine Ev.step (fun k => by simp only [spec_SphereOf.l0]; exact rfl) ?_
    refine Ev.bind (l01N_sp hs) ?_
    refine Ev.iff_neg (by omega) ?_
    have : n = NW s := by omega
    subst this
    exact Ev.now _
  | m + 1, n, hm => by
    have hN := NW_eq hs
    have hN2 := NW_le hs
    have hl := selL_len (fun u => decide (dist s w u = r)) n
    have ih := specSphere_l hs hw r m (n + 1) (by omega)
    rw [selL_succ] at ih
    refine Ev.step (fun k => by simp only [spec_SphereOf.l0]; exact rfl) ?_
    refine Ev.bind (l01N_sp hs) ?_
    refine Ev.iff_pos (by omega) ?_
    refine Ev.bind (l01Distance_ev hs (isW_nat hs (show n < NW s by omega)) hw) ?_
    rw [dist_comm, wrap_nat (by unfold maxLen; omega)]
    by_cases h : dist s w (n : Int) = r
    · refine Ev.iff_pos h ?_
      refine Ev.iff_pos (by omega) ?_
      simpa [h] using ih
    · refine Ev.iff_neg h ?_
      simpa [h] using ih
theorem specSphereOf_ev (s : List Int) (w r : Int) : Ev (fun k => spec_SphereOf.f k s w r) (rSphereOf s w r) := by
  unfold spec_SphereOf.f rSphereOf
  refine Ev.bind (l01Radius_ev s w r) ?_
  by_cases h : rBall s w r = 0
  · obtain ⟨hs, hw, _⟩ := rBall_zero h
    simp only [if_pos h]
    have := specSphere_l hs hw r (NW s) 0 (by omega)
    simpa [selL] using this
  · simp only [if_neg h]
    exact Ev.now _
theorem implSphereOf_eq (s : List Int) (w r : Int) : impl_SphereOf.f s w r = some (rSphereOf s w r) := by
  unfold impl_SphereOf.f rSphereOf sphereR
  by_cases h : rBall s w r = 0
  · obtain ⟨hs, hw, _⟩ := rBall_zero h
    rw [if_pos h, if_pos h]
    congr 2
    unfold thoseL selL NW
    congr 1
    apply List.filter_congr
    intro i _
    simp only [ham_dig8 (isSp_len hs)]
  · rw [if_neg h, if_neg h]
theorem FnExactSphereOf (l0_0 : List Int) (m0 : l0_0.length ≤ maxLen) (w0 : ∀ x ∈ l0_0, (Lit.int .i64 x).wf = true) (a1 : Int) (w1 : (Lit.int .i64 a1).wf = true) (a2 : Int) (w2 : (Lit.int .i64 a2).wf = true) : ∃ k, laws_FnExactSphereOf.f k l0_0 a1 a2 = some true := by
  refine Ev.rounds (r := true) ?_
  unfold laws_FnExactSphereOf.f
  refine Ev.bindc (szSpace_eq _ _ m0 (by omega) (by omega)) ?_
  by_cases h0 : (1048576 : Int) < (l0_0.length : Int)
  · exact Ev.iff_pos (by rw [if_pos h0]; omega) (Ev.now _)
  rw [if_neg h0]
  refine Ev.iff_neg (by omega) ?_
  have hl0 : l0_0.length ≤ 1048576 := by omega
  have hm0 : l0_0.length < maxLen := by unfold maxLen; omega
  have hr0 := rSphereOf_len l0_0 a1 a2
  repeat' first
    | exact Ev.now _
    | refine Ev.bind (toSpace_ev _ hl0) ?_
    | refine Ev.bind (specSphereOf_ev _ _ _) ?_
    | refine Ev.bind (Ev.const (implSphereOf_eq _ _ _)) ?_
    | (refine Ev.bind (eqSpace_ev _ _ ?_) ?_; (· (first | omega | (unfold maxLen; omega) | (simp only [iota_length]; omega) | (simp only [iota_length]; unfold maxLen; omega))))
    | (refine Ev.bind (eqInt64S_ev _ _ ?_) ?_; (· (first | omega | (unfold maxLen; omega) | (simp only [iota_length]; omega) | (simp only [iota_length]; unfold maxLen; omega))))
    | (refine Ev.bind (markSpace_ev _ _ ?_ ?_ ?_) ?_; (· (first | omega | (unfold maxLen; omega) | (simp only [iota_length]; omega) | (simp only [iota_length]; unfold maxLen; omega))); (· (first | omega | (unfold maxLen; omega) | (simp only [iota_length]; omega) | (simp only [iota_length]; unfold maxLen; omega))); (· (first | omega | (unfold maxLen; omega) | (simp only [iota_length]; omega) | (simp only [iota_length]; unfold maxLen; omega))))
    | (refine Ev.bind (markInt64S_ev _ _ ?_ ?_ ?_) ?_; (· (first | omega | (unfold maxLen; omega) | (simp only [iota_length]; omega) | (simp only [iota_length]; unfold maxLen; omega))); (· (first | omega | (unfold maxLen; omega) | (simp only [iota_length]; omega) | (simp only [iota_length]; unfold maxLen; omega))); (· (first | omega | (unfold maxLen; omega) | (simp only [iota_length]; omega) | (simp only [iota_length]; unfold maxLen; omega))))
    | (refine Ev.bind (heldInt64S_ev _ _ ?_ ?_) ?_; (· (first | omega | (unfold maxLen; omega) | (simp only [iota_length]; omega) | (simp only [iota_length]; unfold maxLen; omega))); (· (first | omega | (unfold maxLen; omega) | (simp only [iota_length]; omega) | (simp only [iota_length]; unfold maxLen; omega))))
    | (refine Ev.iff_pos ?_ ?_; (· (first | (simp; done) | omega)))
    | (refine Ev.iff_neg ?_ ?_; (· (first | (simp; done) | omega)))
    | refine Ev.step (show ∀ k, laws_FnExactSphereOf.j0 (k + 1) _ _ _ _ _ _ _ _ _ = _ from fun k => by rw [laws_FnExactSphereOf.j0]) ?_
    | refine Ev.step (show ∀ k, laws_FnExactSphereOf.j1 (k + 1) _ _ _ _ _ _ _ = _ from fun k => by rw [laws_FnExactSphereOf.j1]) ?_
    | refine Ev.step (show ∀ k, laws_FnExactSphereOf.j2 (k + 1) _ _ _ = _ from fun k => by rw [laws_FnExactSphereOf.j2]) ?_
end Go.Proofs.Ytjabkbnbcajdbaa.Q
