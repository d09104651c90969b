/- The plain law of OppositeCode: the program's and the reference's OppositeCode answer alike. -/
import Derived.Test.YtjabkbnbcajdbaaQMarks
import Derived.Test.YtjabkbnbcajdbaaFlawsFnExactOppositeCode
set_option linter.unusedVariables false
set_option linter.unusedSimpArgs false
namespace Go.Proofs.Ytjabkbnbcajdbaa.Q
open Go.RowKit Go.Proofs.Ytjabkbnbcajdbaa.P Go.Proofs.YtjabkbnbcajdbaaW.PrintWords CC
/-- The words that a code lacks. -/
def oppP (c : List Int) (x : Int) : Bool := !decide (x ∈ c)
def rOppositeCode (s c : List Int) : List Int × Int := if rCode s c [] = 0 then (selL (oppP c) (NW s), 0) else ([], rCode s c [])
theorem rOppositeCode_len (s c : List Int) : (rOppositeCode s c).1.length ≤ 1024 := by
  unfold rOppositeCode
  by_cases h : rCode s c [] = 0
  · rw [if_pos h]
    have := selL_len (oppP c) (NW s)
    have := NW_le (rCode_zero h).1
    show (selL (oppP c) (NW s)).length ≤ 1024
    omega
  · rw [if_neg h]
    simp
theorem implOppositeCode_l {c : List Int} {P : Nat} (hP : P ≤ 1024) : ∀ (m n : Nat), n + m = P →
    Ev (fun k => impl_OppositeCode.l0 k (selL (oppP c) n) (mk c P) ((mk c P).length : Int) (n : Int)) (selL (oppP c) P, 0)
  | 0, n, hm => by
    refine Ev.step (fun k => by simp only [impl_OppositeCode.l0]; exact rfl) ?_
    refine Ev.iff_neg (by rw [mk_length]; omega) ?_
    have : n = P := by omega
    subst this
    exact Ev.now _
  | m + 1, n, hm => by
    have hn : n < P := by omega
    have hl := selL_len (oppP c) n
    have ih := implOppositeCode_l (c := c) hP m (n + 1) (by omega)
    rw [selL_succ] at ih
    refine Ev.step (fun k => by simp only [impl_OppositeCode.l0]; exact rfl) ?_
    refine Ev.iff_pos (by rw [mk_length]; omega) ?_
    refine Ev.iff_pos (by omega) ?_
    refine Ev.iff_pos (by rw [mk_length]; omega) ?_
    rw [mk_rd c hn, wrap_nat (by unfold maxLen; omega)]
    by_cases h : (n : Int) ∈ c
    · refine Ev.iff_pos (by simp [h]) ?_
      simpa [oppP, h] using ih
    · refine Ev.iff_neg (by simp [h]) ?_
      refine Ev.iff_pos (by omega) ?_
      simpa [oppP, h] using ih
theorem specOppositeCode_l {s c : List Int} (hs : isSp s = true) (hc : asc c = true) (hl : c.length ≤ 1024) : ∀ (m n j : Nat), n + m = NW s → j ≤ c.length → (∀ x ∈ c.take j, x < n) → (∀ x ∈ c.drop j, (n : Int) ≤ x) →
    Ev (fun k => spec_OppositeCode.l0 k c (selL (oppP c) n) (j : Int) (n : Int) s) (selL (oppP c) (NW s), 0)
  | 0, n, j, hm, hj, h1, h2 => by
    have hN := NW_eq hs
    refine Ev.step (fun k => by simp only [spec_OppositeCode.l0]; exact rfl) ?_
    refine Ev.bind (l01N_sp hs) ?_
    refine Ev.iff_neg (by omega) ?_
    have : n = NW s := by omega
    subst this
    exact Ev.now _
  | m + 1, n, j, hm, hj, h1, h2 => by
    have hN := NW_eq hs
    have hN2 := NW_le hs
    have hsl := selL_len (oppP c) n
    refine Ev.step (fun k => by simp only [spec_OppositeCode.l0]; exact rfl) ?_
    refine Ev.bind (l01N_sp hs) ?_
    refine Ev.iff_pos (by omega) ?_
    rw [wrap_nat (n := n) (by unfold maxLen; omega)]
    have hmem : ∀ x, x ∈ c ↔ x ∈ c.take j ∨ x ∈ c.drop j := fun x => by
      rw [← List.mem_append, List.take_append_drop]
    have hno : ((n : Int) ∉ c) → (∀ x ∈ c.drop j, ((n + 1 : Nat) : Int) ≤ x) → Ev (fun k => spec_OppositeCode.l0 k c (selL (oppP c) n ++ [(n : Int)]) (j : Int) ((n + 1 : Nat) : Int) s) (selL (oppP c) (NW s), 0) := fun ho hd => by
      have ih := specOppositeCode_l hs hc hl m (n + 1) j (by omega) hj (fun x hx => by have := h1 x hx; omega) hd
      rw [selL_succ] at ih
      simpa [oppP, ho] using ih
    by_cases hjl : j < c.length
    · refine Ev.iff_pos (by omega) ?_
      refine Ev.iff_pos (by omega) ?_
      have hdr := drop_cons c hjl
      have hasc := asc_drop j c hc
      rw [hdr] at hasc
      have hlt := asc_lt _ _ hasc
      have hge := h2 (rd c (j : Int)) (by rw [hdr]; simp)
      by_cases h : rd c (j : Int) = (n : Int)
      · refine Ev.iff_pos h ?_
        rw [wrap_nat (n := j) (by unfold maxLen; omega)]
        have ih := specOppositeCode_l hs hc hl m (n + 1) (j + 1) (by omega) hjl (fun x hx => by
          rw [take_rd c hjl] at hx
          rcases List.mem_append.1 hx with hx | hx
          · have := h1 x hx
            omega
          · have := List.mem_singleton.1 hx
            omega) (fun x hx => by
          have := hlt x hx
          omega)
        rw [selL_succ] at ih
        have hin : (n : Int) ∈ c := by
          rw [hmem]
          right
          rw [hdr, h]
          simp
        simpa [oppP, hin] using ih
      · refine Ev.iff_neg h ?_
        refine Ev.iff_pos (by omega) ?_
        have hd : ∀ x ∈ c.drop j, ((n + 1 : Nat) : Int) ≤ x := fun x hx => by
          rw [hdr] at hx
          rcases List.mem_cons.1 hx with rfl | hx
          · omega
          · have := hlt x hx
            omega
        refine hno (fun hin => ?_) hd
        rcases (hmem _).1 hin with hin | hin
        · have := h1 _ hin
          omega
        · have := hd _ hin
          omega
    · refine Ev.iff_neg (by omega) ?_
      refine Ev.iff_pos (by omega) ?_
      have hd : ∀ x ∈ c.drop j, ((n + 1 : Nat) : Int) ≤ x := fun x hx => by
        rw [drop_all (by omega)] at hx
        simp at hx
      refine hno (fun hin => ?_) hd
      rcases (hmem _).1 hin with hin | hin
      · have := h1 _ hin
        omega
      · have := hd _ hin
        omega
theorem specOppositeCode_ev (s : List Int) {c : List Int} (hcl : c.length ≤ 1048576) : Ev (fun k => spec_OppositeCode.f k s c) (rOppositeCode s c) := by
  unfold spec_OppositeCode.f rOppositeCode
  refine Ev.bind (l01Given_ev s hcl) ?_
  by_cases h : rCode s c [] = 0
  · obtain ⟨hs, hc, _⟩ := rCode_zero h
    simp only [if_pos h]
    have := specOppositeCode_l hs (isC_asc hc) (isC_len hs hc) (NW s) 0 0 (by omega) (by omega) (by simp) (fun x hx => by
      have := (isW_iff s x).1 (isC_words hc x (by simpa using hx))
      omega)
    simpa [selL] using this
  · simp only [if_neg h]
    exact Ev.now _
theorem implOppositeCode_ev (s : List Int) {c : List Int} (hcl : c.length ≤ 1048576) : Ev (fun k => impl_OppositeCode.f k s c) (rOppositeCode s c) := by
  unfold impl_OppositeCode.f rOppositeCode
  refine Ev.bind (codeCode_ev s hcl (by simp)) ?_
  by_cases h : rCode s c [] = 0
  · obtain ⟨hs, hc, _⟩ := rCode_zero h
    have hN := NW_le hs
    simp only [if_pos h]
    refine Ev.bind (marks_ev hs hc) ?_
    have := implOppositeCode_l (c := c) hN (NW s) 0 (by omega)
    simpa [selL] using this
  · simp only [if_neg h]
    exact Ev.now _
theorem FnExactOppositeCode (l0_0 : List Int) (m0 : l0_0.length ≤ maxLen) (w0 : ∀ x ∈ l0_0, (Lit.int .i64 x).wf = true) (l1 : List Int) (m1 : l1.length ≤ maxLen) (b1 : l1.length * 8 ≤ 140737488351232) (w1 : ∀ x ∈ l1, (Lit.int .i64 x).wf = true) : ∃ k, laws_FnExactOppositeCode.f k l0_0 l1 = some true := by
  refine Ev.rounds (r := true) ?_
  unfold laws_FnExactOppositeCode.f
  by_cases c1 : (l1.length : Int) > 1048576
  · exact Ev.iff_pos c1 (Ev.now _)
  refine Ev.iff_neg c1 ?_
  have k1 : l1.length ≤ 1048576 := by omega
  have km1 : l1.length < maxLen := by unfold maxLen; omega
  refine Ev.bindc (szSpace_eq _ _ m0 (by omega) (by omega)) ?_
  by_cases h0 : (1048576 : Int) < (l0_0.length : Int)
  · exact Ev.iff_pos (by rw [if_pos h0]; omega) (Ev.now _)
  rw [if_neg h0]
  refine Ev.iff_neg (by omega) ?_
  have hl0 : l0_0.length ≤ 1048576 := by omega
  have hm0 : l0_0.length < maxLen := by unfold maxLen; omega
  have hr0 := rOppositeCode_len l0_0 l1
  repeat' first
    | exact Ev.now _
    | refine Ev.bind (toInt64S_ev _ k1) ?_
    | refine Ev.bind (toSpace_ev _ hl0) ?_
    | refine Ev.bind (specOppositeCode_ev _ k1) ?_
    | refine Ev.bind (implOppositeCode_ev _ k1) ?_
    | (refine Ev.bind (eqSpace_ev _ _ ?_) ?_; (· (first | omega | (unfold maxLen; omega) | (simp only [iota_length]; omega) | (simp only [iota_length]; unfold maxLen; omega))))
    | (refine Ev.bind (eqInt64S_ev _ _ ?_) ?_; (· (first | omega | (unfold maxLen; omega) | (simp only [iota_length]; omega) | (simp only [iota_length]; unfold maxLen; omega))))
    | (refine Ev.bind (markSpace_ev _ _ ?_ ?_ ?_) ?_; (· (first | omega | (unfold maxLen; omega) | (simp only [iota_length]; omega) | (simp only [iota_length]; unfold maxLen; omega))); (· (first | omega | (unfold maxLen; omega) | (simp only [iota_length]; omega) | (simp only [iota_length]; unfold maxLen; omega))); (· (first | omega | (unfold maxLen; omega) | (simp only [iota_length]; omega) | (simp only [iota_length]; unfold maxLen; omega))))
    | (refine Ev.bind (markInt64S_ev _ _ ?_ ?_ ?_) ?_; (· (first | omega | (unfold maxLen; omega) | (simp only [iota_length]; omega) | (simp only [iota_length]; unfold maxLen; omega))); (· (first | omega | (unfold maxLen; omega) | (simp only [iota_length]; omega) | (simp only [iota_length]; unfold maxLen; omega))); (· (first | omega | (unfold maxLen; omega) | (simp only [iota_length]; omega) | (simp only [iota_length]; unfold maxLen; omega))))
    | (refine Ev.bind (heldInt64S_ev _ _ ?_ ?_) ?_; (· (first | omega | (unfold maxLen; omega) | (simp only [iota_length]; omega) | (simp only [iota_length]; unfold maxLen; omega))); (· (first | omega | (unfold maxLen; omega) | (simp only [iota_length]; omega) | (simp only [iota_length]; unfold maxLen; omega))))
    | (refine Ev.iff_pos ?_ ?_; (· (first | (simp; done) | omega)))
    | (refine Ev.iff_neg ?_ ?_; (· (first | (simp; done) | omega)))
    | refine Ev.step (show ∀ k, laws_FnExactOppositeCode.j0 (k + 1) _ _ _ _ _ _ _ _ _ = _ from fun k => by rw [laws_FnExactOppositeCode.j0]) ?_
    | refine Ev.step (show ∀ k, laws_FnExactOppositeCode.j1 (k + 1) _ _ _ _ _ _ = _ from fun k => by rw [laws_FnExactOppositeCode.j1]) ?_
    | refine Ev.step (show ∀ k, laws_FnExactOppositeCode.j2 (k + 1) _ _ _ = _ from fun k => by rw [laws_FnExactOppositeCode.j2]) ?_
end Go.Proofs.Ytjabkbnbcajdbaa.Q
