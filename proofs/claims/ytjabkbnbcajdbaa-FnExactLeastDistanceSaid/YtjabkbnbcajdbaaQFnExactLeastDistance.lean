/- The plain law of LeastDistance: the program's and the reference's LeastDistance answer alike. -/
import Derived.Test.YtjabkbnbcajdbaaQGiven
import Derived.Test.YtjabkbnbcajdbaaQDist
import Derived.Test.YtjabkbnbcajdbaaHLeast
import Derived.Test.YtjabkbnbcajdbaaFspecl01Least
import Derived.Test.YtjabkbnbcajdbaaFlawsFnExactLeastDistance
set_option linter.unusedVariables false
set_option linter.unusedSimpArgs false
namespace Go.Proofs.Ytjabkbnbcajdbaa.Q
open Go.RowKit Go.Proofs.Ytjabkbnbcajdbaa.P Go.Proofs.YtjabkbnbcajdbaaW.PrintWords CC
def linS (s c : List Int) (u a : Int) (j : Nat) : Int := (c.take j).foldl (fun a x => mn a (dist s u x)) a
theorem linS_succ (s c : List Int) (u a : Int) {j : Nat} (h : j < c.length) : linS s c u a (j + 1) = mn (linS s c u a j) (dist s u (rd c (j : Int))) := by
  unfold linS
  rw [take_rd c h, List.foldl_append]
  rfl
def loS (s c : List Int) (a : Int) : Nat → Int
  | 0 => a
  | n + 1 => linS s c (rd c (n : Int)) (loS s c a n) n
theorem mn_assoc (a b c : Int) : mn (mn a b) c = mn a (mn b c) := by
  unfold mn
  repeat' split
  all_goals omega
theorem fold_mn (s : List Int) (u a : Int) : ∀ (l : List Int) (b : Int), l.foldl (fun a x => mn a (dist s u x)) (mn a b) = mn a (l.foldl (fun a x => mn a (dist s u x)) b)
  | [], b => rfl
  | x :: l, b => by
    rw [List.foldl_cons, List.foldl_cons, mn_assoc, fold_mn s u a l]
theorem loS_mn (s c : List Int) (a b : Int) : ∀ n, loS s c (mn a b) n = mn a (loS s c b n)
  | 0 => rfl
  | n + 1 => by
    rw [loS, loS, loS_mn s c a b n]
    exact fold_mn s _ a _ _
theorem fold_le (s : List Int) (u : Int) : ∀ (l : List Int) (b : Int), l.foldl (fun a x => mn a (dist s u x)) b ≤ b
  | [], b => Int.le_refl b
  | x :: l, b => by
    rw [List.foldl_cons]
    have := fold_le s u l (mn b (dist s u x))
    have h : mn b (dist s u x) ≤ b := by
      unfold mn
      split <;> omega
    omega
theorem loS_mono (s c : List Int) (b : Int) : ∀ (m n : Nat), loS s c b (n + m) ≤ loS s c b n
  | 0, n => Int.le_refl _
  | m + 1, n => by
    have h1 := loS_mono s c b m n
    have h2 : loS s c b (n + m + 1) ≤ loS s c b (n + m) := fold_le s _ _ _
    rw [show n + (m + 1) = n + m + 1 by omega]
    omega
theorem loS_start {s c : List Int} (hs : isSp s = true) (h : 2 ≤ c.length) : loS s c (s.length : Int) c.length = loS s c 10 c.length := by
  have hl := isSp_len hs
  have e : mn (s.length : Int) 10 = (s.length : Int) := by
    unfold mn
    rw [if_neg (by omega)]
  have h1 := loS_mn s c (s.length : Int) 10 c.length
  rw [e] at h1
  have h2 := loS_mono s c 10 (c.length - 2) 2
  rw [show 2 + (c.length - 2) = c.length by omega] at h2
  have h3 : loS s c 10 2 ≤ s.length := by
    rw [loS, linS_succ s c _ _ (show 0 < c.length by omega)]
    have := dist_le s (rd c ((1 : Nat) : Int)) (rd c ((0 : Nat) : Int))
    unfold mn
    split <;> omega
  rw [h1]
  unfold mn
  split <;> omega
theorem lout_loS {s : List Int} (hl : s.length ≤ 8) (c : List Int) : ∀ n, lout s c n = loS s c 10 n
  | 0 => rfl
  | n + 1 => by
    rw [lout, loS, lout_loS hl c n]
    unfold lin linS
    congr 1
    funext a x
    rw [ham_dig8 hl]
theorem l01Least_in {s c : List Int} (hs : isSp s = true) (hc : isC s c = true) (n : Nat) (hn : n < c.length) (R : Int) : ∀ (m j : Nat) (a : Int), j + m = n →
    Ev (fun k => spec_l01Least.l0 k c (linS s c (rd c (n : Int)) a n) (c.length : Int) ((n + 1 : Nat) : Int) s) R →
    Ev (fun k => spec_l01Least.l1 k c (linS s c (rd c (n : Int)) a j) (n : Int) (j : Int) (c.length : Int) (n : Int) s) R
  | 0, j, a, hm, hev => by
    have hl := isC_len hs hc
    have hj : j = n := by omega
    subst hj
    refine Ev.step (fun k => by simp only [spec_l01Least.l1]; exact rfl) ?_
    refine Ev.iff_neg (by omega) ?_
    rw [wrap_nat (by unfold maxLen; omega)]
    exact hev
  | m + 1, j, a, hm, hev => by
    have hl := isC_len hs hc
    refine Ev.step (fun k => by simp only [spec_l01Least.l1]; exact rfl) ?_
    refine Ev.iff_pos (by omega) ?_
    refine Ev.iff_pos (by omega) ?_
    refine Ev.iff_pos (by omega) ?_
    refine Ev.iff_pos (by omega) ?_
    refine Ev.iff_pos (by omega) ?_
    refine Ev.bind (l01Distance_ev hs (isC_rd hc hn) (isC_rd hc (show j < c.length by omega))) ?_
    rw [wrap_nat (by unfold maxLen; omega), ← linS_succ s c _ _ (show j < c.length by omega)]
    exact l01Least_in hs hc n hn R m (j + 1) a (by omega) hev
theorem l01Least_out {s c : List Int} (hs : isSp s = true) (hc : isC s c = true) (b : Int) : ∀ (m n : Nat), n + m = c.length →
    Ev (fun k => spec_l01Least.l0 k c (loS s c b n) (c.length : Int) (n : Int) s) (loS s c b c.length)
  | 0, n, hm => by
    refine Ev.step (fun k => by simp only [spec_l01Least.l0]; exact rfl) ?_
    refine Ev.iff_neg (by omega) ?_
    have : n = c.length := by omega
    subst this
    exact Ev.now _
  | m + 1, n, hm => by
    refine Ev.step (fun k => by simp only [spec_l01Least.l0]; exact rfl) ?_
    refine Ev.iff_pos (by omega) ?_
    exact l01Least_in hs hc n (by omega) _ n 0 (loS s c b n) (by omega) (l01Least_out hs hc b m (n + 1) (by omega))
theorem l01Least_ev {s c : List Int} (hs : isSp s = true) (hc : isC s c = true) (h : 2 ≤ c.length) : Ev (fun k => spec_l01Least.f k s c) (loS s c 10 c.length) := by
  unfold spec_l01Least.f
  rw [← loS_start hs h]
  exact l01Least_out hs hc _ c.length 0 (by omega)
def rLeastDistance (s c : List Int) : Int × Int := if rCode s c [] = 0 then if c.length < 2 then (0, 5) else (loS s c 10 c.length, 0) else (0, rCode s c [])
theorem specLeastDistance_ev (s : List Int) {c : List Int} (hcl : c.length ≤ 1048576) : Ev (fun k => spec_LeastDistance.f k s c) (rLeastDistance s c) := by
  unfold spec_LeastDistance.f rLeastDistance
  refine Ev.bind (l01Given_ev s hcl) ?_
  by_cases h : rCode s c [] = 0
  · obtain ⟨hs, hc, _⟩ := rCode_zero h
    refine Ev.iff_pos h ?_
    refine Ev.step (fun k => by simp only [spec_LeastDistance.j0]; exact rfl) ?_
    simp only [if_pos h]
    by_cases h2 : c.length < 2
    · refine Ev.iff_pos (decide_eq_true (by omega)) ?_
      refine Ev.iff_neg (by decide) ?_
      rw [if_pos h2]
      exact Ev.now _
    · refine Ev.iff_neg (by rw [decide_eq_false (by omega)]; decide) ?_
      rw [if_neg h2]
      exact Ev.bind (l01Least_ev hs hc (by omega)) (Ev.now _)
  · refine Ev.iff_neg h ?_
    refine Ev.step (fun k => by simp only [spec_LeastDistance.j0]; exact rfl) ?_
    refine Ev.iff_neg (by decide) ?_
    refine Ev.iff_neg h ?_
    rw [if_neg h]
    exact Ev.now _
theorem implLeastDistance_ev (s : List Int) {c : List Int} (hcl : c.length ≤ 1048576) : Ev (fun k => impl_LeastDistance.f k s c) (rLeastDistance s c) := by
  unfold impl_LeastDistance.f rLeastDistance
  refine Ev.bind (codeCode_ev s hcl (by simp)) ?_
  by_cases h : rCode s c [] = 0
  · obtain ⟨hs, hc, _⟩ := rCode_zero h
    refine Ev.iff_pos h ?_
    simp only [if_pos h]
    by_cases h2 : c.length < 2
    · refine Ev.iff_pos (by omega) ?_
      rw [if_pos h2]
      exact Ev.now _
    · refine Ev.iff_neg (by omega) ?_
      rw [if_neg h2]
      refine Ev.bindc (a := loS s c 10 c.length) ?_ (Ev.now _)
      unfold impl_leastDistance.f
      rw [if_pos ⟨hs, by rw [List.all_eq_true]; exact isC_words hc, by omega, by omega⟩, lout_loS (isSp_len hs)]
  · refine Ev.iff_neg h ?_
    rw [if_neg h]
    exact Ev.now _
theorem FnExactLeastDistance (l0_0 : List Int) (m0 : l0_0.length ≤ maxLen) (w0 : ∀ x ∈ l0_0, (Lit.int .i64 x).wf = true) (l1 : List Int) (m1 : l1.length ≤ maxLen) (b1 : l1.length * 8 ≤ 140737488351232) (w1 : ∀ x ∈ l1, (Lit.int .i64 x).wf = true) : ∃ k, laws_FnExactLeastDistance.f k l0_0 l1 = some true := by
  refine Ev.rounds (r := true) ?_
  unfold laws_FnExactLeastDistance.f
  by_cases c1 : (l1.length : Int) > 1048576
  · exact Ev.iff_pos c1 (Ev.now _)
  refine Ev.iff_neg c1 ?_
  have k1 : l1.length ≤ 1048576 := by omega
  have km1 : l1.length < maxLen := by unfold maxLen; omega
  refine Ev.bindc (szSpace_eq _ _ m0 (by omega) (by omega)) ?_
  by_cases h0 : (1048576 : Int) < (l0_0.length : Int)
  · exact Ev.iff_pos (by rw [if_pos h0]; omega) (Ev.now _)
  rw [if_neg h0]
  refine Ev.iff_neg (by omega) ?_
  have hl0 : l0_0.length ≤ 1048576 := by omega
  have hm0 : l0_0.length < maxLen := by unfold maxLen; omega
  repeat' first
    | exact Ev.now _
    | refine Ev.bind (toInt64S_ev _ k1) ?_
    | refine Ev.bind (toSpace_ev _ hl0) ?_
    | refine Ev.bind (specLeastDistance_ev _ k1) ?_
    | refine Ev.bind (implLeastDistance_ev _ k1) ?_
    | (refine Ev.bind (eqSpace_ev _ _ ?_) ?_; (· (first | omega | (unfold maxLen; omega) | (simp only [iota_length]; omega) | (simp only [iota_length]; unfold maxLen; omega))))
    | (refine Ev.bind (eqInt64S_ev _ _ ?_) ?_; (· (first | omega | (unfold maxLen; omega) | (simp only [iota_length]; omega) | (simp only [iota_length]; unfold maxLen; omega))))
    | (refine Ev.iff_pos ?_ ?_; (· (first | (simp; done) | omega)))
    | (refine Ev.iff_neg ?_ ?_; (· (first | (simp; done) | omega)))
    | refine Ev.step (show ∀ k, laws_FnExactLeastDistance.j0 (k + 1) _ _ _ _ _ = _ from fun k => by rw [laws_FnExactLeastDistance.j0]) ?_
end Go.Proofs.Ytjabkbnbcajdbaa.Q
