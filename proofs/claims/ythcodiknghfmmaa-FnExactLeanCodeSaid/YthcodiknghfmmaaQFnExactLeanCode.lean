/- The plain law of LeanCode: the program's and the reference's LeanCode answer alike. -/
import Derived.Test.YthcodiknghfmmaaQNeed
import Derived.Test.YthcodiknghfmmaaHLean
import Derived.Test.YthcodiknghfmmaaFlawsFnExactLeanCode
set_option linter.unusedVariables false
set_option linter.unusedSimpArgs false
namespace Go.Proofs.Ythcodiknghfmmaa.Q
open Go.RowKit Go.Proofs.Ythcodiknghfmmaa.P Go.Proofs.YthcodiknghfmmaaW.PrintWords CC
/-- One less at a place. -/
def decV (L : List Int) (x : Int) : List Int := L.set x.toNat (rd L x - 1)
theorem decV_length (L : List Int) (x : Int) : (decV L x).length = L.length := by simp [decV]
theorem decV_gen (f : Nat → Int) (P : Nat) {x : Nat} (h : x < P) : decV ((List.range P).map f) (x : Int) = (List.range P).map fun u => f u - if u = x then 1 else 0 := by
  unfold decV
  rw [Int.toNat_natCast]
  apply List.ext_getElem?
  intro k
  by_cases hk : k = x
  · subst hk
    rw [List.getElem?_set_self (by simpa using h)]
    simp [rd, List.getD_eq_getElem?_getD, h]
  · rw [List.getElem?_set_ne (fun e => hk e.symm)]
    simp only [List.getElem?_map]
    by_cases hp : k < P
    · simp [hp, hk]
    · rw [List.getElem?_eq_none (by simp; omega)]
      rfl
theorem decV_fold (P : Nat) (p : Int → Bool) : ∀ (n : Nat) (f : Nat → Int), n ≤ P → (selL p n).foldl decV ((List.range P).map f) = (List.range P).map fun u => f u - if u < n ∧ p (u : Int) = true then 1 else 0
  | 0, f, _ => by simp [selL]
  | n + 1, f, h => by
    rw [selL_succ, List.foldl_append, decV_fold P p n f (by omega)]
    by_cases hp : p (n : Int) = true
    · rw [if_pos hp]
      simp only [List.foldl_cons, List.foldl_nil]
      rw [decV_gen _ P (show n < P by omega)]
      apply List.map_congr_left
      intro u _
      by_cases hu : u = n
      · subst hu
        simp [hp]
      · by_cases hu2 : u < n
        · have : u < n + 1 := by omega
          simp [hu, hu2, this]
        · have : ¬ u < n + 1 := by omega
          simp [hu, hu2, this]
    · rw [if_neg hp, List.foldl_nil]
      apply List.map_congr_left
      intro u _
      by_cases hu : u = n
      · subst hu
        simp [hp]
      · by_cases hu2 : u < n
        · have : u < n + 1 := by omega
          simp [hu2, this]
        · have : ¬ u < n + 1 := by omega
          simp [hu2, this]
theorem decL_fold {s : List Int} (hs : isSp s = true) {T : List Int} (hT : T.length = NW s) (x r : Int) : (ballL s x r).foldl decV T = decL s T x r := by
  have e : T = (List.range (NW s)).map fun (u : Nat) => rd T (u : Int) := (range_rd T hT).symm
  rw [show decL s T x r = (List.range (NW s)).map fun (u : Nat) => if ham (dig8 s x) (dig8 s (u : Int)) ≤ r then rd T (u : Int) - 1 else rd T (u : Int) from by unfold decL; rw [hT]]
  conv => lhs; rw [e]
  unfold ballL
  rw [decV_fold (NW s) _ (NW s) _ (Nat.le_refl _)]
  apply List.map_congr_left
  intro u hu
  have hu' := List.mem_range.1 hu
  rw [ham_dig8 (isSp_len hs)]
  by_cases hh : dist s x (u : Int) ≤ r <;> simp [hh, hu']
/-- The values of a list are not low. -/
def lowb (L : List Int) (b : Int) : Prop := ∀ u : Nat, -b ≤ rd L (u : Int) ∧ rd L (u : Int) ≤ 1048576
theorem rd_set2 (L : List Int) (k u : Nat) (v : Int) : rd (L.set k v) (u : Int) = if k = u ∧ k < L.length then v else rd L (u : Int) := by
  simp only [rd, Int.toNat_natCast, List.getD_eq_getElem?_getD, List.getElem?_set]
  by_cases h : k = u
  · subst h
    by_cases h2 : k < L.length
    · simp [h2]
    · simp [h2]
  · simp [h]
theorem lowb_dec {L : List Int} {b : Int} (h : lowb L b) (x : Int) (hb : 0 ≤ b) : lowb (decV L x) (b + 1) := by
  intro u
  unfold decV
  rw [rd_set2]
  have h1 := h u
  have h2 := h x.toNat
  split
  · by_cases hx : 0 ≤ x
    · rw [Int.toNat_of_nonneg hx] at h2
      omega
    · have : rd L x = rd L ((x.toNat : Nat) : Int) := by unfold rd; rw [Int.toNat_natCast]
      rw [this]
      omega
  · omega
theorem specLean_in {s c B : List Int} {r : Int} {n : Nat} (hB : ∀ x ∈ B, 0 ≤ x ∧ x < NW s) (hBl : B.length ≤ 1024) (O : List Int) (R : List Int × Int) (hn : n ≤ 1024) :
    ∀ (m k0 : Nat) (L : List Int), k0 + m = B.length → L.length = NW s → lowb L ((n : Int) + k0) →
      Ev (fun k => spec_LeanCode.l0 k c r ((B.drop k0).foldl decV L) O (((n + 1 : Nat)) : Int) s) R → Ev (fun k => spec_LeanCode.l1 k c r L O (n : Int) B (k0 : Int) s) R
  | 0, k0, L, hm, hL, hsm, hev => by
    refine Ev.step (fun k => by simp only [spec_LeanCode.l1]; exact rfl) ?_
    refine Ev.iff_neg (by omega) ?_
    rw [wrap_nat (by unfold maxLen; omega)]
    rw [drop_all (by omega)] at hev
    exact hev
  | m + 1, k0, L, hm, hL, hsm, hev => by
    have hk : k0 < B.length := by omega
    have hx : 0 ≤ rd B (k0 : Int) ∧ rd B (k0 : Int) < NW s := by
      have : rd B (k0 : Int) = B[k0] := by simp [rd, List.getD_eq_getElem?_getD, hk]
      rw [this]
      exact hB _ (List.getElem_mem hk)
    have hr := hsm (rd B (k0 : Int)).toNat
    rw [Int.toNat_of_nonneg hx.1] at hr
    refine Ev.step (fun k => by simp only [spec_LeanCode.l1]; exact rfl) ?_
    refine Ev.iff_pos (by omega) (Ev.iff_pos (by omega) (Ev.iff_pos hx.1 (Ev.iff_pos (by rw [hL]; exact hx.2) ?_)))
    rw [wrap_nat (by unfold maxLen; omega), wrap_id (x := rd L (rd B (k0 : Int)) - 1) (by omega) (by omega)]
    refine specLean_in hB hBl O R hn m (k0 + 1) (decV L (rd B (k0 : Int))) (by omega) (by rw [decV_length]; exact hL) ?_ ?_
    · have := lowb_dec hsm (rd B (k0 : Int)) (by omega)
      have e : (n : Int) + ((k0 + 1 : Nat) : Int) = (n : Int) + k0 + 1 := by omega
      rw [e]
      exact this
    · rw [drop_cons B hk, List.foldl_cons] at hev
      exact hev
theorem specLean_l {s c : List Int} (hs : isSp s = true) (hc : isC s c = true) {r : Int} {T0 : List Int} (hT0 : T0.length = NW s) (hb : ∀ u : Nat, 0 ≤ rd T0 (u : Int) ∧ rd T0 (u : Int) ≤ 1048576) : ∀ (m n : Nat), n + m = c.length →
    Ev (fun k => spec_LeanCode.l0 k c r (leanQ s c r T0 n).2 (leanQ s c r T0 n).1 (n : Int) s) ((leanQ s c r T0 c.length).1, 0)
  | 0, n, hm => by
    refine Ev.step (fun k => by simp only [spec_LeanCode.l0]; exact rfl) ?_
    refine Ev.iff_neg (by omega) ?_
    have : n = c.length := by omega
    subst this
    exact Ev.now _
  | m + 1, n, hm => by
    have hn : n < c.length := by omega
    have hl := isC_len hs hc
    have ih := specLean_l hs hc (r := r) hT0 hb m (n + 1) (by omega)
    have hTl : (leanQ s c r T0 n).2.length = NW s := by rw [leanQ_length]; exact hT0
    have hO := leanQ_out s c r T0 n
    have hbd := leanQ_bd s c r T0 hb n
    rw [leanQ] at ih
    refine Ev.step (fun k => by simp only [spec_LeanCode.l0]; exact rfl) ?_
    refine Ev.iff_pos (by omega) (Ev.iff_pos (by omega) ?_)
    refine Ev.bind (l02Needed_ev hs hTl (isC_rd hc hn) r) ?_
    have eN : (prd s).toNat = NW s := rfl
    rw [eN] at ih
    generalize (leanQ s c r T0 n).2 = T at *
    generalize (leanQ s c r T0 n).1 = O at *
    by_cases h : needQ s T (rd c (n : Int)) r 0 (NW s) = true
    · rw [if_pos h] at ih
      refine Ev.iff_pos h ?_
      refine Ev.iff_pos (by omega) ?_
      rw [wrap_nat (by unfold maxLen; omega)]
      exact ih
    · rw [if_neg h] at ih
      refine Ev.iff_neg h ?_
      refine Ev.bind (l01Ball_ev hs (isC_rd hc hn) r) ?_
      refine specLean_in (B := ballL s (rd c (n : Int)) r) (fun x hx => by have := mem_selL.1 hx; exact ⟨this.1, this.2.1⟩) (ballL_len hs _ _) O _ (by omega) (ballL s (rd c (n : Int)) r).length 0 T (by omega) hTl (fun u => by have := hbd u; omega) ?_
      rw [List.drop_zero, decL_fold hs hTl]
      exact ih
theorem timesL_covL {s c : List Int} (hs : isSp s = true) (hc : isC s c = true) (r : Int) : timesL s c r = covL s c r := by
  have h := times_eq hs hc r
  have hl := isC_len hs hc
  unfold impl_times.f at h
  rw [if_pos ⟨hs, by rw [List.all_eq_true]; exact isC_words hc, by omega⟩] at h
  exact Option.some.inj h
theorem specLeanCode_ev (s : List Int) {c : List Int} (hcl : c.length ≤ 1048576) (r : Int) : Ev (fun k => spec_LeanCode.f k s c r) (leanR s c r) := by
  unfold spec_LeanCode.f leanR
  refine Ev.bind (l02Code_ev s hcl r) ?_
  by_cases h : rCover s c r = 0
  · obtain ⟨hs, hc, _⟩ := rCover_zero h
    simp only [if_pos h]
    refine Ev.bind (l02Times_ev hs hc r) ?_
    have := specLean_l hs hc (r := r) (T0 := covL s c r) (covL_length s c r) (fun u => by rw [← timesL_covL hs hc]; exact timesL_bd s c r hcl u) c.length 0 (by omega)
    rw [timesL_covL hs hc]
    exact this
  · simp only [if_neg h]
    exact Ev.now _
theorem leanR_len (s c : List Int) (r : Int) : (leanR s c r).1.length ≤ 1024 := by
  unfold leanR
  by_cases h : rCover s c r = 0
  · rw [if_pos h]
    have := isC_len (rCover_zero h).1 (rCover_zero h).2.1
    have := leanQ_out s c r (timesL s c r) c.length
    show (leanQ s c r (timesL s c r) c.length).1.length ≤ 1024
    omega
  · rw [if_neg h]
    simp
theorem implLeanCode_eq (s : List Int) {c : List Int} (hcl : c.length ≤ 1048576) (r : Int) : impl_LeanCode.f s c r = some (leanR s c r) := by
  unfold impl_LeanCode.f
  rw [if_pos hcl]
theorem FnExactLeanCode (l0_0 : List Int) (m0 : l0_0.length ≤ maxLen) (w0 : ∀ x ∈ l0_0, (Lit.int .i64 x).wf = true) (l1 : List Int) (m1 : l1.length ≤ maxLen) (b1 : l1.length * 8 ≤ 140737488351232) (w1 : ∀ x ∈ l1, (Lit.int .i64 x).wf = true) (a2 : Int) (w2 : (Lit.int .i64 a2).wf = true) : ∃ k, laws_FnExactLeanCode.f k l0_0 l1 a2 = some true := by
  refine Ev.rounds (r := true) ?_
  unfold laws_FnExactLeanCode.f
  by_cases c1 : (l1.length : Int) > 1048576
  · exact Ev.iff_pos c1 (Ev.now _)
  refine Ev.iff_neg c1 ?_
  have k1 : l1.length ≤ 1048576 := by omega
  have km1 : l1.length < maxLen := by unfold maxLen; omega
  refine Ev.bindc (szSpace_eq _ _ m0 (by omega) (by omega)) ?_
  by_cases h0 : (1048576 : Int) < (l0_0.length : Int)
  · exact Ev.iff_pos (by rw [if_pos h0]; omega) (Ev.now _)
  rw [if_neg h0]
  refine Ev.iff_neg (by omega) ?_
  have hl0 : l0_0.length ≤ 1048576 := by omega
  have hm0 : l0_0.length < maxLen := by unfold maxLen; omega
  have hr0 := leanR_len l0_0 l1 a2
  repeat' first
    | exact Ev.now _
    | refine Ev.bind (toInt64S_ev _ k1) ?_
    | refine Ev.bind (toSpace_ev _ hl0) ?_
    | refine Ev.bind (specLeanCode_ev _ k1 _) ?_
    | refine Ev.bind (Ev.const (implLeanCode_eq _ k1 _)) ?_
    | (refine Ev.bind (eqSpace_ev _ _ ?_) ?_; (· (first | omega | (unfold maxLen; omega) | (simp only [iota_length]; omega) | (simp only [iota_length]; unfold maxLen; omega))))
    | (refine Ev.bind (eqInt64S_ev _ _ ?_) ?_; (· (first | omega | (unfold maxLen; omega) | (simp only [iota_length]; omega) | (simp only [iota_length]; unfold maxLen; omega))))
    | (refine Ev.bind (markSpace_ev _ _ ?_ ?_ ?_) ?_; (· (first | omega | (unfold maxLen; omega) | (simp only [iota_length]; omega) | (simp only [iota_length]; unfold maxLen; omega))); (· (first | omega | (unfold maxLen; omega) | (simp only [iota_length]; omega) | (simp only [iota_length]; unfold maxLen; omega))); (· (first | omega | (unfold maxLen; omega) | (simp only [iota_length]; omega) | (simp only [iota_length]; unfold maxLen; omega))))
    | (refine Ev.bind (markInt64S_ev _ _ ?_ ?_ ?_) ?_; (· (first | omega | (unfold maxLen; omega) | (simp only [iota_length]; omega) | (simp only [iota_length]; unfold maxLen; omega))); (· (first | omega | (unfold maxLen; omega) | (simp only [iota_length]; omega) | (simp only [iota_length]; unfold maxLen; omega))); (· (first | omega | (unfold maxLen; omega) | (simp only [iota_length]; omega) | (simp only [iota_length]; unfold maxLen; omega))))
    | (refine Ev.bind (heldInt64S_ev _ _ ?_ ?_) ?_; (· (first | omega | (unfold maxLen; omega) | (simp only [iota_length]; omega) | (simp only [iota_length]; unfold maxLen; omega))); (· (first | omega | (unfold maxLen; omega) | (simp only [iota_length]; omega) | (simp only [iota_length]; unfold maxLen; omega))))
    | (refine Ev.iff_pos ?_ ?_; (· (first | (simp; done) | omega)))
    | (refine Ev.iff_neg ?_ ?_; (· (first | (simp; done) | omega)))
    | refine Ev.step (show ∀ k, laws_FnExactLeanCode.j0 (k + 1) _ _ _ _ _ _ _ _ _ _ = _ from fun k => by rw [laws_FnExactLeanCode.j0]) ?_
    | refine Ev.step (show ∀ k, laws_FnExactLeanCode.j1 (k + 1) _ _ _ _ _ _ _ = _ from fun k => by rw [laws_FnExactLeanCode.j1]) ?_
    | refine Ev.step (show ∀ k, laws_FnExactLeanCode.j2 (k + 1) _ _ _ = _ from fun k => by rw [laws_FnExactLeanCode.j2]) ?_
end Go.Proofs.Ythcodiknghfmmaa.Q
