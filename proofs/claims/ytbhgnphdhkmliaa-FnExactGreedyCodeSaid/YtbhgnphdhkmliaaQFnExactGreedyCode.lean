/- The plain law of GreedyCode: the program's and the reference's GreedyCode answer alike. -/
import Derived.Test.YtbhgnphdhkmliaaQGreedy
import Derived.Test.YtbhgnphdhkmliaaFlawsFnExactGreedyCode
set_option linter.unusedVariables false
set_option linter.unusedSimpArgs false
namespace Go.Proofs.Ytbhgnphdhkmliaa.Q
open Go.RowKit Go.Proofs.Ytbhgnphdhkmliaa.P Go.Proofs.YtbhgnphdhkmliaaW.PrintWords CC
theorem rBall_nought (s : List Int) (r : Int) : rBall s 0 r = if isSp s = true then if 0 ≤ r ∧ r ≤ 8 then 0 else 2 else 1 := by
  unfold rBall rWords
  by_cases hs : isSp s = true
  · simp [hs, isW_nought hs]
  · simp [hs]
/-- The first n words are left. -/
def lfN (P n : Nat) : List Bool := (List.range P).map fun u => decide (u < n)
theorem lfN_set {P n : Nat} (h : n < P) : (lfN P n).set n true = lfN P (n + 1) := by
  apply List.ext_getElem
  · simp [lfN]
  · intro u h1 h2
    rw [List.getElem_set]
    by_cases e : n = u
    · subst e
      simp [lfN]
    · rw [if_neg e]
      simp only [lfN, List.getElem_map, List.getElem_range]
      rw [decide_eq_decide]
      omega
theorem lfN_zero (P : Nat) : lfN P 0 = List.replicate P false := by
  rw [List.eq_replicate_iff]
  refine ⟨by simp [lfN], fun b hb => ?_⟩
  simp only [lfN, List.mem_map] at hb
  obtain ⟨u, _, rfl⟩ := hb
  simp
theorem lfN_all (P : Nat) : lfN P P = lf (List.replicate P false) := by
  have h1 : lf (List.replicate P false) = List.replicate P true := by simp [lf]
  rw [h1, List.eq_replicate_iff]
  refine ⟨by simp [lfN], fun b hb => ?_⟩
  simp only [lfN, List.mem_map] at hb
  obtain ⟨u, hu, rfl⟩ := hb
  exact decide_eq_true (List.mem_range.1 hu)
theorem greedy_l0 {s : List Int} {r : Int} {P : Nat} (hs : isSp s = true) (hP : NW s = P) (h0 : 0 ≤ r) (h1 : r ≤ 8) (hPl : P ≤ 1024) (R : List Int × Int)
    (hev : Ev (fun k => spec_GreedyCode.l1 k r (P : Int) [] (lf (List.replicate P false)) (gnL s r P (List.replicate P false)) s) R) : ∀ (m n : Nat), n + m = P →
    Ev (fun k => spec_GreedyCode.l0 k r (P : Int) [] (lfN P n) (mix (fun _ => ((ballL s 0 r).length : Int)) (fun _ => 0) P n) (n : Int) s) R
  | 0, n, hm => by
    obtain rfl : n = P := by omega
    refine Ev.step (fun k => by simp only [spec_GreedyCode.l0]; exact rfl) ?_
    refine Ev.iff_neg (by omega) ?_
    have e : mix (fun _ => ((ballL s 0 r).length : Int)) (fun _ => 0) n n = gnL s r n (List.replicate n false) := by
      rw [mix_all, gn_start hs r (P := n) hP, List.eq_replicate_iff]
      refine ⟨by simp, fun b hb => ?_⟩
      simp only [List.mem_map] at hb
      obtain ⟨u, _, rfl⟩ := hb
      rfl
    rw [e, lfN_all]
    exact hev
  | m + 1, n, hm => by
    have hn : n < P := by omega
    have ih := greedy_l0 hs hP h0 h1 hPl R hev m (n + 1) (by omega)
    refine Ev.step (fun k => by simp only [spec_GreedyCode.l0]; exact rfl) ?_
    refine Ev.iff_pos (by omega) (Ev.iff_pos (by omega) (Ev.iff_pos (by simp [lfN]; omega) ?_))
    refine Ev.bind (l01Size_ev hs h0 (by omega)) ?_
    refine Ev.iff_pos (by rw [mix_length]; omega) ?_
    rw [wrap_nat (by unfold maxLen; omega), Int.toNat_natCast, lfN_set hn]
    have hms := mix_set (fun _ => ((ballL s 0 r).length : Int)) (fun _ => 0) hn
    rw [hms]
    exact ih
theorem specGreedyCode_ev (s : List Int) (r : Int) : Ev (fun k => spec_GreedyCode.f k s r) (greedyR s r) := by
  unfold spec_GreedyCode.f greedyR
  rw [rBall_nought]
  refine Ev.bind (l01Is_ev s) ?_
  by_cases hs : isSp s = true
  · refine Ev.iff_pos hs ?_
    refine Ev.bindc (l01In_eq _ _ _) ?_
    rw [if_pos hs]
    by_cases hr : 0 ≤ r ∧ r ≤ 8
    · rw [if_pos hr, if_pos rfl]
      refine Ev.iff_pos (decide_eq_true hr) ?_
      refine Ev.bind (l01N_sp hs) ?_
      have p0 := isSp_prd1 hs
      have p1 := isSp_prd hs
      obtain ⟨P, hP⟩ : ∃ P : Nat, prd s = (P : Int) := ⟨(prd s).toNat, by omega⟩
      have hN : NW s = P := by unfold NW; omega
      rw [hP, Int.toNat_natCast]
      refine Ev.iff_pos (by omega) (Ev.iff_pos (by omega) (Ev.iff_pos (by omega) ?_))
      have hrun := greedy_run (r := r) hs hN (by omega) (by omega) (P + 1) (List.replicate P false) [] (by simp) (by omega) (by simp) List.nodup_nil (by simp)
      rw [ordL_asc (l := []) List.Pairwise.nil] at hrun
      have := greedy_l0 hs hN hr.1 hr.2 (by omega) _ hrun P 0 (by omega)
      rw [lfN_zero, mix_zero] at this
      have e : (List.range P).map (fun _ => (0 : Int)) = List.replicate P 0 := by
        rw [List.eq_replicate_iff]
        refine ⟨by simp, fun b hb => ?_⟩
        simp only [List.mem_map] at hb
        obtain ⟨u, _, rfl⟩ := hb
        rfl
      rw [e] at this
      exact this
    · rw [if_neg hr, if_neg (by decide)]
      exact Ev.iff_neg (by simpa using hr) (Ev.now _)
  · rw [if_neg hs, if_neg (by decide)]
    exact Ev.iff_neg hs (Ev.now _)
theorem gRun_len (s : List Int) (r : Int) (P : Nat) : ∀ (f : Nat) (cov : List Bool) (out : List Int), (gRun s r P f cov out).length ≤ out.length + f
  | 0, _, out => by simp [gRun]
  | f + 1, cov, out => by
    rw [gRun]
    split
    · omega
    · have := gRun_len s r P f (covU s r P (bst (gnF s r P cov) P) cov P) (out ++ [((bst (gnF s r P cov) P : Nat) : Int)])
      rw [List.length_append, List.length_singleton] at this
      omega
theorem greedyR_len (s : List Int) (r : Int) : (greedyR s r).1.length ≤ 1048576 := by
  unfold greedyR
  by_cases h : rBall s 0 r = 0
  · rw [if_pos h]
    have hs := (rBall_zero h).1
    have := isSp_prd hs
    have h2 := gRun_len s r (prd s).toNat ((prd s).toNat + 1) (List.replicate (prd s).toNat false) []
    show (msort (greedyL s r (prd s).toNat)).length ≤ _
    rw [msort_length]
    unfold greedyL
    simp at h2
    omega
  · rw [if_neg h]
    simp
theorem implGreedyCode_eq (s : List Int) (r : Int) : impl_GreedyCode.f s r = some (greedyR s r) := rfl
theorem FnExactGreedyCode (l0_0 : List Int) (m0 : l0_0.length ≤ maxLen) (w0 : ∀ x ∈ l0_0, (Lit.int .i64 x).wf = true) (a1 : Int) (w1 : (Lit.int .i64 a1).wf = true) : ∃ k, laws_FnExactGreedyCode.f k l0_0 a1 = some true := by
  refine Ev.rounds (r := true) ?_
  unfold laws_FnExactGreedyCode.f
  refine Ev.bindc (szSpace_eq _ _ m0 (by omega) (by omega)) ?_
  by_cases h0 : (1048576 : Int) < (l0_0.length : Int)
  · exact Ev.iff_pos (by rw [if_pos h0]; omega) (Ev.now _)
  rw [if_neg h0]
  refine Ev.iff_neg (by omega) ?_
  have hl0 : l0_0.length ≤ 1048576 := by omega
  have hm0 : l0_0.length < maxLen := by unfold maxLen; omega
  have hr0 := greedyR_len l0_0 a1
  repeat' first
    | exact Ev.now _
    | refine Ev.bind (toSpace_ev _ hl0) ?_
    | refine Ev.bind (specGreedyCode_ev _ _) ?_
    | refine Ev.bind (Ev.const (implGreedyCode_eq _ _)) ?_
    | (refine Ev.bind (eqSpace_ev _ _ ?_) ?_; (· (first | omega | (unfold maxLen; omega) | (simp only [iota_length]; omega) | (simp only [iota_length]; unfold maxLen; omega))))
    | (refine Ev.bind (eqInt64S_ev _ _ ?_) ?_; (· (first | omega | (unfold maxLen; omega) | (simp only [iota_length]; omega) | (simp only [iota_length]; unfold maxLen; omega))))
    | (refine Ev.bind (markSpace_ev _ _ ?_ ?_ ?_) ?_; (· (first | omega | (unfold maxLen; omega) | (simp only [iota_length]; omega) | (simp only [iota_length]; unfold maxLen; omega))); (· (first | omega | (unfold maxLen; omega) | (simp only [iota_length]; omega) | (simp only [iota_length]; unfold maxLen; omega))); (· (first | omega | (unfold maxLen; omega) | (simp only [iota_length]; omega) | (simp only [iota_length]; unfold maxLen; omega))))
    | (refine Ev.bind (markInt64S_ev _ _ ?_ ?_ ?_) ?_; (· (first | omega | (unfold maxLen; omega) | (simp only [iota_length]; omega) | (simp only [iota_length]; unfold maxLen; omega))); (· (first | omega | (unfold maxLen; omega) | (simp only [iota_length]; omega) | (simp only [iota_length]; unfold maxLen; omega))); (· (first | omega | (unfold maxLen; omega) | (simp only [iota_length]; omega) | (simp only [iota_length]; unfold maxLen; omega))))
    | (refine Ev.bind (heldInt64S_ev _ _ ?_ ?_) ?_; (· (first | omega | (unfold maxLen; omega) | (simp only [iota_length]; omega) | (simp only [iota_length]; unfold maxLen; omega))); (· (first | omega | (unfold maxLen; omega) | (simp only [iota_length]; omega) | (simp only [iota_length]; unfold maxLen; omega))))
    | (refine Ev.iff_pos ?_ ?_; (· (first | (simp; done) | omega)))
    | (refine Ev.iff_neg ?_ ?_; (· (first | (simp; done) | omega)))
    | refine Ev.step (show ∀ k, laws_FnExactGreedyCode.j0 (k + 1) _ _ _ _ _ _ _ _ = _ from fun k => by rw [laws_FnExactGreedyCode.j0]) ?_
    | refine Ev.step (show ∀ k, laws_FnExactGreedyCode.j1 (k + 1) _ _ _ _ _ _ = _ from fun k => by rw [laws_FnExactGreedyCode.j1]) ?_
    | refine Ev.step (show ∀ k, laws_FnExactGreedyCode.j2 (k + 1) _ _ _ = _ from fun k => by rw [laws_FnExactGreedyCode.j2]) ?_
end Go.Proofs.Ytbhgnphdhkmliaa.Q
