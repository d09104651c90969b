/- The plain law of FreeCode: the program's and the reference's FreeCode answer alike. -/
import Derived.Test.YthcodiknghfmmaaQDigits
import Derived.Test.YthcodiknghfmmaaQGiven
import Derived.Test.YthcodiknghfmmaaHFree
import Derived.Test.YthcodiknghfmmaaFlawsFnExactFreeCode
set_option linter.unusedVariables false
set_option linter.unusedSimpArgs false
namespace Go.Proofs.Ythcodiknghfmmaa.Q
open Go.RowKit Go.Proofs.Ythcodiknghfmmaa.P Go.Proofs.YthcodiknghfmmaaW.PrintWords CC
theorem specFree_l2 {s ws : List Int} {d out : List Int} {w : Nat} {R : List Int × Int} (hws : ∀ j : Nat, j < ws.length → 0 ≤ rd ws (j : Int) ∧ rd ws (j : Int) < d.length) (hw : w < 1024) (ho : out.length ≤ 1024) (hl : ws.length ≤ 1048576)
    (hev : Ev (fun k => spec_FreeCode.l1 k ws (if freeB ws d = true then out ++ [(w : Int)] else out) ((w + 1 : Nat) : Int) s) R) : ∀ (m n : Nat) (good : Bool), n + m = ws.length →
    (good && !((ws.drop n).any fun x => decide (rd d x ≠ 0))) = freeB ws d → Ev (fun k => spec_FreeCode.l2 k ws out (w : Int) d good (n : Int) s) R
  | 0, n, good, hm, hg => by
    rw [drop_all (by omega)] at hg
    simp only [List.any_nil, Bool.not_false, Bool.and_true] at hg
    refine Ev.step (fun k => by simp only [spec_FreeCode.l2]; exact rfl) ?_
    refine Ev.iff_neg (by omega) ?_
    rw [wrap_nat (by unfold maxLen; omega)]
    rw [← hg] at hev
    by_cases h : good = true
    · rw [if_pos h] at hev
      exact Ev.iff_pos h (Ev.iff_pos (by omega) hev)
    · rw [if_neg h] at hev
      exact Ev.iff_neg h hev
  | m + 1, n, good, hm, hg => by
    have hn : n < ws.length := by omega
    have hx := hws n hn
    rw [drop_cons ws hn, List.any_cons] at hg
    refine Ev.step (fun k => by simp only [spec_FreeCode.l2]; exact rfl) ?_
    refine Ev.iff_pos (by omega) ?_
    rw [wrap_nat (by unfold maxLen; omega)]
    by_cases h : good = true
    · subst h
      refine Ev.iff_pos rfl (Ev.iff_pos (by omega) (Ev.iff_pos hx.1 (Ev.iff_pos hx.2 ?_)))
      refine specFree_l2 hws hw ho hl hev m (n + 1) _ (by omega) ?_
      rw [← hg]
      by_cases h0 : rd d (rd ws (n : Int)) = 0 <;> simp [h0]
    · rw [Bool.not_eq_true] at h
      subst h
      refine Ev.iff_neg (by simp) ?_
      refine specFree_l2 hws hw ho hl hev m (n + 1) false (by omega) ?_
      rw [← hg]
      simp
theorem freeB_dg {s ws : List Int} (hs : isSp s = true) (hws : ∀ x ∈ ws, 0 ≤ x ∧ x < s.length) (w : Int) : freeB ws (dig8 s w) = freeB ws (dg s w) := by
  unfold freeB
  congr 1
  rw [Bool.eq_iff_iff]
  simp only [List.any_eq_true]
  have key : ∀ x ∈ ws, rd (dig8 s w) x = rd (dg s w) x := fun x hx => by
    obtain ⟨h0, h1⟩ := hws x hx
    obtain ⟨j, rfl⟩ := Int.eq_ofNat_of_zero_le h0
    rw [dig8_eq (isSp_len hs), rd_nat, rd_nat, List.getD_eq_getElem?_getD, List.getD_eq_getElem?_getD, List.getElem?_append_left (by rw [dg_length]; omega)]
  constructor
  · rintro ⟨x, hx, h⟩
    exact ⟨x, hx, by rw [← key x hx]; exact h⟩
  · rintro ⟨x, hx, h⟩
    exact ⟨x, hx, by rw [key x hx]; exact h⟩
theorem specFree_l1 {s ws : List Int} (hs : isSp s = true) (hl : ws.length ≤ 1048576) (hws : ∀ x ∈ ws, 0 ≤ x ∧ x < s.length) : ∀ (m n : Nat), n + m = NW s →
    Ev (fun k => spec_FreeCode.l1 k ws (thoseL s (freeB ws) n) (n : Int) s) (thoseL s (freeB ws) (NW s), 0)
  | 0, n, hm => by
    have hN := NW_eq hs
    obtain rfl : n = NW s := by omega
    refine Ev.step (fun k => by simp only [spec_FreeCode.l1]; exact rfl) ?_
    refine Ev.bind (l01N_sp hs) ?_
    refine Ev.iff_neg (by omega) ?_
    exact Ev.now _
  | m + 1, n, hm => by
    have hN := NW_eq hs
    have hle := NW_le hs
    have hto := thoseL_len s (freeB ws) n
    have ih := specFree_l1 hs hl hws m (n + 1) (by omega)
    rw [thoseL_succ, freeB_dg hs hws] at ih
    refine Ev.step (fun k => by simp only [spec_FreeCode.l1]; exact rfl) ?_
    refine Ev.bind (l01N_sp hs) ?_
    refine Ev.iff_pos (by omega) ?_
    refine Ev.bind (l01Digits_ev hs (isW_nat hs (show n < NW s by omega))) ?_
    refine specFree_l2 (d := dg s (n : Int)) (fun j hj => ?_) (by omega) (by omega) hl ?_ ws.length 0 true (by omega) (by rw [List.drop_zero]; rfl)
    · rw [dg_length]
      exact hws _ (rd_mem hj)
    · by_cases h : freeB ws (dg s (n : Int)) = true
      · simpa [h] using ih
      · simpa [h] using ih
theorem specFree_l0 {s ws : List Int} (hs : isSp s = true) (hl : ws.length ≤ 1048576) : ∀ (m n : Nat), n + m = ws.length → plQ s ws 0 ws.length = plQ s ws n m →
    Ev (fun k => spec_FreeCode.l0 k ws (n : Int) s) (if plQ s ws 0 ws.length = true then (thoseL s (freeB ws) (NW s), 0) else ([], 2))
  | 0, n, hm, hq => by
    have ht : plQ s ws 0 ws.length = true := by rw [hq]; rfl
    have hall : ∀ x ∈ ws, 0 ≤ x ∧ x < s.length := fun x hx => by
      obtain ⟨j, hj, rfl⟩ := List.getElem_of_mem hx
      have := plQ_all s ws ws.length 0 ht j (by omega) (by omega)
      rw [show rd ws (j : Int) = ws[j] from by simp [rd, List.getD_eq_getElem?_getD, hj]] at this
      exact this
    rw [if_pos ht]
    refine Ev.step (fun k => by simp only [spec_FreeCode.l0]; exact rfl) ?_
    refine Ev.iff_neg (by omega) ?_
    have := specFree_l1 hs hl hall (NW s) 0 (by omega)
    simpa [thoseL] using this
  | m + 1, n, hm, hq => by
    have hn : n < ws.length := by omega
    have hsl := isSp_len hs
    have ih := specFree_l0 hs hl m (n + 1) (by omega)
    rw [plQ] at hq
    refine Ev.step (fun k => by simp only [spec_FreeCode.l0]; exact rfl) ?_
    refine Ev.iff_pos (by omega) (Ev.iff_pos (by omega) ?_)
    have e1 : wrap64 ((s.length : Int) - 1) = (s.length : Int) - 1 := wrap_id (by omega) (by omega)
    have e2 : wrap64 ((n : Int) - 1) = (n : Int) - 1 := wrap_id (by omega) (by omega)
    rw [e1, e2, wrap_nat (by unfold maxLen; omega)]
    refine Ev.bindc (l01In_eq _ _ _) ?_
    by_cases hp : 0 ≤ rd ws (n : Int) ∧ rd ws (n : Int) < s.length
    · refine Ev.iff_pos (by simp; omega) ?_
      by_cases hn0 : n = 0
      · subst hn0
        rw [if_pos ⟨hp, .inl rfl⟩] at hq
        exact Ev.iff_neg (by omega) (ih hq)
      · refine Ev.iff_pos (by omega) (Ev.iff_pos (by omega) (Ev.iff_pos (by omega) ?_))
        by_cases hc : rd ws ((n : Int) - 1) < rd ws (n : Int)
        · rw [if_pos ⟨hp, .inr hc⟩] at hq
          exact Ev.iff_neg (by omega) (ih hq)
        · rw [if_neg (by rintro ⟨_, h | h⟩ <;> contradiction)] at hq
          refine Ev.iff_pos (by omega) ?_
          rw [if_neg (by rw [hq]; simp)]
          exact Ev.now _
    · rw [if_neg (fun h => hp h.1)] at hq
      refine Ev.iff_neg (by simp; omega) ?_
      rw [if_neg (by rw [hq]; simp)]
      exact Ev.now _
theorem specFreeCode_ev (s : List Int) {ws : List Int} (hl : ws.length ≤ 1048576) : Ev (fun k => spec_FreeCode.f k s ws) (freeR s ws) := by
  unfold spec_FreeCode.f freeR
  refine Ev.bind (l01Is_ev s) ?_
  by_cases h : isSp s = true
  · rw [if_pos h]
    refine Ev.iff_pos h ?_
    exact specFree_l0 h hl ws.length 0 (by omega) rfl
  · rw [if_neg h]
    exact Ev.iff_neg h (Ev.now _)
theorem freeR_len (s ws : List Int) : (freeR s ws).1.length ≤ 1024 := by
  unfold freeR
  by_cases h : isSp s = true
  · rw [if_pos h]
    have h1 := thoseL_len s (freeB ws) (prd s).toNat
    have h2 := NW_le h
    have h3 : (prd s).toNat = NW s := rfl
    split
    · show (thoseL s (freeB ws) (prd s).toNat).length ≤ 1024
      omega
    · simp
  · rw [if_neg h]
    simp
theorem implFreeCode_eq (s : List Int) {ws : List Int} (hl : ws.length ≤ 1048576) : impl_FreeCode.f s ws = some (freeR s ws) := by
  unfold impl_FreeCode.f
  rw [if_pos hl]
theorem FnExactFreeCode (l0_0 : List Int) (m0 : l0_0.length ≤ maxLen) (w0 : ∀ x ∈ l0_0, (Lit.int .i64 x).wf = true) (l1 : List Int) (m1 : l1.length ≤ maxLen) (b1 : l1.length * 8 ≤ 140737488351232) (w1 : ∀ x ∈ l1, (Lit.int .i64 x).wf = true) : ∃ k, laws_FnExactFreeCode.f k l0_0 l1 = some true := by
  refine Ev.rounds (r := true) ?_
  unfold laws_FnExactFreeCode.f
  by_cases c1 : (l1.length : Int) > 1048576
  · exact Ev.iff_pos c1 (Ev.now _)
  refine Ev.iff_neg c1 ?_
  have k1 : l1.length ≤ 1048576 := by omega
  have km1 : l1.length < maxLen := by unfold maxLen; omega
  refine Ev.bindc (szSpace_eq _ _ m0 (by omega) (by omega)) ?_
  by_cases h0 : (1048576 : Int) < (l0_0.length : Int)
  · exact Ev.iff_pos (by rw [if_pos h0]; omega) (Ev.now _)
  rw [if_neg h0]
  refine Ev.iff_neg (by omega) ?_
  have hl0 : l0_0.length ≤ 1048576 := by omega
  have hm0 : l0_0.length < maxLen := by unfold maxLen; omega
  have hr0 := freeR_len l0_0 l1
  repeat' first
    | exact Ev.now _
    | refine Ev.bind (toInt64S_ev _ k1) ?_
    | refine Ev.bind (toSpace_ev _ hl0) ?_
    | refine Ev.bind (specFreeCode_ev _ k1) ?_
    | refine Ev.bind (Ev.const (implFreeCode_eq _ k1)) ?_
    | (refine Ev.bind (eqSpace_ev _ _ ?_) ?_; (· (first | omega | (unfold maxLen; omega) | (simp only [iota_length]; omega) | (simp only [iota_length]; unfold maxLen; omega))))
    | (refine Ev.bind (eqInt64S_ev _ _ ?_) ?_; (· (first | omega | (unfold maxLen; omega) | (simp only [iota_length]; omega) | (simp only [iota_length]; unfold maxLen; omega))))
    | (refine Ev.bind (markSpace_ev _ _ ?_ ?_ ?_) ?_; (· (first | omega | (unfold maxLen; omega) | (simp only [iota_length]; omega) | (simp only [iota_length]; unfold maxLen; omega))); (· (first | omega | (unfold maxLen; omega) | (simp only [iota_length]; omega) | (simp only [iota_length]; unfold maxLen; omega))); (· (first | omega | (unfold maxLen; omega) | (simp only [iota_length]; omega) | (simp only [iota_length]; unfold maxLen; omega))))
    | (refine Ev.bind (markInt64S_ev _ _ ?_ ?_ ?_) ?_; (· (first | omega | (unfold maxLen; omega) | (simp only [iota_length]; omega) | (simp only [iota_length]; unfold maxLen; omega))); (· (first | omega | (unfold maxLen; omega) | (simp only [iota_length]; omega) | (simp only [iota_length]; unfold maxLen; omega))); (· (first | omega | (unfold maxLen; omega) | (simp only [iota_length]; omega) | (simp only [iota_length]; unfold maxLen; omega))))
    | (refine Ev.bind (heldInt64S_ev _ _ ?_ ?_) ?_; (· (first | omega | (unfold maxLen; omega) | (simp only [iota_length]; omega) | (simp only [iota_length]; unfold maxLen; omega))); (· (first | omega | (unfold maxLen; omega) | (simp only [iota_length]; omega) | (simp only [iota_length]; unfold maxLen; omega))))
    | (refine Ev.iff_pos ?_ ?_; (· (first | (simp; done) | omega)))
    | (refine Ev.iff_neg ?_ ?_; (· (first | (simp; done) | omega)))
    | refine Ev.step (show ∀ k, laws_FnExactFreeCode.j0 (k + 1) _ _ _ _ _ _ _ _ _ = _ from fun k => by rw [laws_FnExactFreeCode.j0]) ?_
    | refine Ev.step (show ∀ k, laws_FnExactFreeCode.j1 (k + 1) _ _ _ _ _ _ = _ from fun k => by rw [laws_FnExactFreeCode.j1]) ?_
    | refine Ev.step (show ∀ k, laws_FnExactFreeCode.j2 (k + 1) _ _ _ = _ from fun k => by rw [laws_FnExactFreeCode.j2]) ?_
end Go.Proofs.Ythcodiknghfmmaa.Q
