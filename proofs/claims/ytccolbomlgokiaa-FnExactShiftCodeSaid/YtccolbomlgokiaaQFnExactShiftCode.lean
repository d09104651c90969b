/- The plain law of ShiftCode: the program's and the reference's ShiftCode answer alike. -/
import Derived.Test.YtccolbomlgokiaaQBase
import Derived.Test.YtccolbomlgokiaaAsc
import Derived.Test.YtccolbomlgokiaaFspecl01Put
import Derived.Test.YtccolbomlgokiaaQSum
import Derived.Test.YtccolbomlgokiaaQGiven
import Derived.Test.YtccolbomlgokiaaHShift
import Derived.Test.YtccolbomlgokiaaFimplShiftCode
import Derived.Test.YtccolbomlgokiaaFspecShiftCode
import Derived.Test.YtccolbomlgokiaaFlawsFnExactShiftCode
set_option linter.unusedVariables false
set_option linter.unusedSimpArgs false
namespace Go.Proofs.Ytccolbomlgokiaa.Q
open Go.RowKit Go.Proofs.Ytccolbomlgokiaa.P Go.Proofs.YtccolbomlgokiaaW.PrintWords CC
theorem ordL_of {R l : List Int} (hR : R.Pairwise (· < ·)) (hm : ∀ y, y ∈ R ↔ y ∈ l) : R = ordL l := asc_ext hR (ordL_pw l) (fun y => by rw [hm, ordL_mem])
theorem ordL_put (L : List Int) (x : Int) : ordL (ordL L ++ [x]) = ordL (L ++ [x]) := ordL_of (ordL_pw _) (fun y => by rw [ordL_mem, List.mem_append, List.mem_append, ordL_mem])
theorem ordL_asc {l : List Int} (h : l.Pairwise (· < ·)) : ordL l = l := (ordL_of h (fun _ => Iff.rfl)).symm
theorem asc_pw : ∀ {l : List Int}, asc l = true → l.Pairwise (· < ·)
  | [], _ => List.Pairwise.nil
  | [a], _ => by simp
  | a :: b :: t, h => by
    simp only [asc, Bool.and_eq_true, decide_eq_true_eq] at h
    have ih := asc_pw h.2
    rw [List.pairwise_cons]
    refine ⟨fun y hy => ?_, ih⟩
    rcases List.mem_cons.1 hy with rfl | hy
    · exact h.1
    · have := (List.pairwise_cons.1 ih).1 y hy
      omega
theorem l01Own_eq (l : List Int) (hl : l.length ≤ 1048576) : spec_l01Own.f l = some l := by
  unfold spec_l01Own.f
  simp only [Option.bind_some, List.length_nil, List.nil_append]
  rw [if_pos (by omega)]
theorem mem_take_drop {l : List Int} (n : Nat) (y : Int) : y ∈ l.take n ∨ y ∈ l.drop n ↔ y ∈ l := by
  rw [← List.mem_append, List.take_append_drop]
theorem put_pw {l : List Int} (h : l.Pairwise (· < ·)) {x : Int} {n : Nat} (h1 : ∀ y ∈ l.take n, y < x) (h2 : ∀ y ∈ l.drop n, x < y) : (l.take n ++ [x] ++ l.drop n).Pairwise (· < ·) := by
  rw [← List.take_append_drop n l, List.pairwise_append] at h
  rw [List.append_assoc, List.pairwise_append]
  refine ⟨h.1, ?_, fun a ha b hb => ?_⟩
  · rw [List.singleton_append, List.pairwise_cons]
    exact ⟨h2, h.2.1⟩
  · rcases List.mem_append.1 hb with hb | hb
    · rw [List.mem_singleton] at hb
      subst hb
      exact h1 a ha
    · exact h.2.2 a ha b hb
theorem put_eq {l : List Int} (h : l.Pairwise (· < ·)) {x : Int} {n : Nat} (h1 : ∀ y ∈ l.take n, y < x) (h2 : ∀ y ∈ l.drop n, x < y) : l.take n ++ [x] ++ l.drop n = ordL (l ++ [x]) :=
  ordL_of (put_pw h h1 h2) (fun y => by
    simp only [List.mem_append]
    have := mem_take_drop (l := l) n y
    constructor
    · rintro ((h | h) | h)
      · exact .inl (this.1 (.inl h))
      · exact .inr h
      · exact .inl (this.1 (.inr h))
    · rintro (h | h)
      · rcases this.2 h with h | h
        · exact .inl (.inl h)
        · exact .inr h
      · exact .inl (.inr h))
theorem l01Put_l {l : List Int} (h : l.Pairwise (· < ·)) (hl : l.length ≤ 1048576) (x : Int) : ∀ n, n ≤ l.length → (∀ y ∈ l.drop n, x < y) → Ev (fun k => spec_l01Put.l0 k l x (n : Int)) (ordL (l ++ [x]))
  | 0, hn, hd => by
    refine Ev.step (fun k => by simp only [spec_l01Put.l0]; exact rfl) ?_
    refine Ev.iff_neg (by omega) (Ev.iff_pos (by omega) (Ev.iff_pos (by omega) ?_))
    refine Ev.bindc (l01Own_eq _ (by simp)) ?_
    refine Ev.iff_pos (by simp) ?_
    refine Ev.bindc rfl (Ev.bindc rfl ?_)
    refine Ev.iff_pos (by simp; omega) ?_
    have := put_eq h (x := x) (n := 0) (by simp) hd
    rw [← this]
    exact Ev.now _
  | n + 1, hn, hd => by
    have e1 : wrap64 (((n + 1 : Nat) : Int) - 1) = (n : Int) := by rw [wrap_id (by omega) (by omega)]; omega
    have hdc := drop_cons l (show n < l.length by omega)
    have htk := take_rd8 (d := l) (show n < l.length by omega)
    refine Ev.step (fun k => by simp only [spec_l01Put.l0]; exact rfl) ?_
    rw [e1]
    refine Ev.iff_pos (by omega) (Ev.iff_pos (by omega) (Ev.iff_pos (by omega) ?_))
    by_cases h1 : rd l (n : Int) > x
    · refine Ev.iff_pos h1 ?_
      refine l01Put_l h hl x n (by omega) (fun y hy => ?_)
      rw [hdc] at hy
      rcases List.mem_cons.1 hy with rfl | hy
      · exact h1
      · exact hd y hy
    · refine Ev.iff_neg h1 ?_
      by_cases h2 : rd l (n : Int) = x
      · refine Ev.iff_pos h2 ?_
        have hm : x ∈ l := by
          rw [← mem_take_drop n, hdc, h2]
          simp
        have : ordL (l ++ [x]) = l := (ordL_of h (fun y => by
          rw [List.mem_append, List.mem_singleton]
          constructor
          · exact .inl
          · rintro (h | rfl)
            · exact h
            · exact hm)).symm
        rw [this]
        exact Ev.now _
      · refine Ev.iff_neg h2 (Ev.iff_pos (by omega) (Ev.iff_pos (by omega) ?_))
        have htl : (l.take (n + 1)).length ≤ n + 1 := List.length_take_le _ _
        rw [Int.toNat_natCast]
        refine Ev.bindc (l01Own_eq _ (by omega)) ?_
        refine Ev.iff_pos (by omega) ?_
        refine Ev.bindc rfl (Ev.bindc rfl ?_)
        refine Ev.iff_pos (by rw [List.length_append, List.length_drop, List.length_singleton]; omega) ?_
        have hp : ∀ y ∈ l.take (n + 1), y < x := fun y hy => by
          have hpw := h
          rw [← List.take_append_drop (n + 1) l, List.pairwise_append, htk, List.pairwise_append] at hpw
          rw [htk, List.mem_append, List.mem_singleton] at hy
          rcases hy with hy | rfl
          · have := hpw.1.2.2 y hy (rd l (n : Int)) (by simp)
            omega
          · omega
        rw [← put_eq h hp hd]
        exact Ev.now _
theorem l01Put_ev {l : List Int} (h : l.Pairwise (· < ·)) (hl : l.length ≤ 1048576) (x : Int) : Ev (fun k => spec_l01Put.f k l x) (ordL (l ++ [x])) := by
  unfold spec_l01Put.f
  exact l01Put_l h hl x l.length (Nat.le_refl _) (by simp)
theorem rd_mem2 {l : List Int} {n : Nat} (h : n < l.length) : rd l (n : Int) ∈ l := by
  have : rd l (n : Int) = l[n] := by simp [rd, List.getD_eq_getElem?_getD, h]
  rw [this]
  exact List.getElem_mem h
theorem shW_eq {s : List Int} (hs : isSp s = true) (y x : Int) : shW s y x = sumW s x y := hor_sum8 hs x y
theorem shifted_l {s c : List Int} (hs : isSp s = true) (hc : isC s c = true) {w : Int} (hw : isW s w = true) : ∀ (m n : Nat), n + m = c.length →
    Ev (fun k => spec_l01Shifted.l0 k c w (ordL ((c.take n).map (shW s w))) (c.length : Int) (n : Int) s) (ordL (c.map (shW s w)))
  | 0, n, hm => by
    refine Ev.step (fun k => by simp only [spec_l01Shifted.l0]; exact rfl) ?_
    refine Ev.iff_neg (by omega) ?_
    rw [List.take_of_length_le (by omega)]
    exact Ev.now _
  | m + 1, n, hm => by
    have hn : n < c.length := by omega
    have hl := isC_len hs hc
    have ih := shifted_l hs hc hw m (n + 1) (by omega)
    rw [take_rd8 hn, List.map_append] at ih
    have hol := ordL_len ((c.take n).map (shW s w))
    have hl2 : (c.take n).length ≤ n := List.length_take_le _ _
    rw [List.length_map] at hol
    refine Ev.step (fun k => by simp only [spec_l01Shifted.l0]; exact rfl) ?_
    refine Ev.iff_pos (by omega) (Ev.iff_pos (by omega) (Ev.iff_pos (by omega) ?_))
    refine Ev.bind (l01Sum_ev hs (isC_words hc _ (rd_mem2 hn)) hw) ?_
    refine Ev.bind (l01Put_ev (ordL_pw _) (by omega) _) ?_
    rw [wrap_nat (by unfold maxLen; omega), ordL_put, ← shW_eq hs]
    exact ih
theorem l01Shifted_ev {s c : List Int} (hs : isSp s = true) (hc : isC s c = true) {w : Int} (hw : isW s w = true) : Ev (fun k => spec_l01Shifted.f k s c w) (ordL (c.map (shW s w))) := by
  unfold spec_l01Shifted.f
  have := shifted_l hs hc hw c.length 0 (by omega)
  rw [List.take_zero, List.map_nil, ordL_asc List.Pairwise.nil] at this
  exact this
def rShift (s c : List Int) (w : Int) : List Int × Int := if rCode s c [w] = 0 then (ordL (c.map (shW s w)), 0) else ([], rCode s c [w])
theorem specShiftCode_ev (s : List Int) {c : List Int} (hcl : c.length ≤ 1048576) (w : Int) : Ev (fun k => spec_ShiftCode.f k s c w) (rShift s c w) := by
  unfold spec_ShiftCode.f rShift
  refine Ev.bind (l01Words_ev s (c := [w]) (by simp)) ?_
  by_cases h1 : rWords s [w] = 0
  · obtain ⟨hs, hw⟩ := rWords_zero h1
    refine Ev.iff_pos h1 ?_
    refine Ev.bind (l01Given_ev s hcl) ?_
    have hn : rWords s [] = 0 := by
      rw [rWords_nil, if_pos hs]
    have e1 : rCode s c [w] = if isC s c then 0 else 2 := by unfold rCode; rw [if_pos h1]
    have e2 : rCode s c [] = if isC s c then 0 else 2 := by unfold rCode; rw [if_pos hn]
    rw [e1, e2]
    by_cases h2 : isC s c = true
    · rw [if_pos h2]
      refine Ev.iff_pos rfl ?_
      rw [if_pos rfl]
      exact Ev.bind (l01Shifted_ev hs h2 (hw w (by simp))) (Ev.now _)
    · rw [if_neg h2]
      refine Ev.iff_neg (by decide) ?_
      rw [if_neg (by decide)]
      exact Ev.now _
  · refine Ev.iff_neg h1 ?_
    have e1 : rCode s c [w] = rWords s [w] := by unfold rCode; rw [if_neg h1]
    rw [e1, if_neg h1]
    exact Ev.now _
theorem implShiftCode_ev (s : List Int) {c : List Int} (hcl : c.length ≤ 1048576) (w : Int) : Ev (fun k => impl_ShiftCode.f k s c w) (rShift s c w) := by
  unfold impl_ShiftCode.f rShift
  refine Ev.bind (codeCode_ev s hcl (by simp)) ?_
  by_cases h : rCode s c [w] = 0
  · obtain ⟨hs, hc, hw⟩ := rCode_zero h
    simp only [if_pos h]
    refine Ev.bindc (a := ordL (c.map (shW s w))) ?_ (Ev.now _)
    unfold impl_shifted.f
    rw [if_pos ⟨hs, by rw [List.all_eq_true]; exact isC_words hc, hcl, hw w (by simp)⟩]
    rfl
  · simp only [if_neg h]
    exact Ev.now _
theorem rShift_len (s : List Int) {c : List Int} (hcl : c.length ≤ 1048576) (w : Int) : (rShift s c w).1.length ≤ 1048576 := by
  unfold rShift
  by_cases h : rCode s c [w] = 0
  · rw [if_pos h]
    have := ordL_len (c.map (shW s w))
    rw [List.length_map] at this
    show (ordL _).length ≤ 1048576
    omega
  · rw [if_neg h]
    simp
theorem FnExactShiftCode (l0_0 : List Int) (m0 : l0_0.length ≤ maxLen) (w0 : ∀ x ∈ l0_0, (Lit.int .i64 x).wf = true) (l1 : List Int) (m1 : l1.length ≤ maxLen) (b1 : l1.length * 8 ≤ 140737488351232) (w1 : ∀ x ∈ l1, (Lit.int .i64 x).wf = true) (a2 : Int) (w2 : (Lit.int .i64 a2).wf = true) : ∃ k, laws_FnExactShiftCode.f k l0_0 l1 a2 = some true := by
  refine Ev.rounds (r := true) ?_
  unfold laws_FnExactShiftCode.f
  by_cases c1 : (l1.length : Int) > 1048576
  · exact Ev.iff_pos c1 (Ev.now _)
  refine Ev.iff_neg c1 ?_
  have k1 : l1.length ≤ 1048576 := by omega
  have km1 : l1.length < maxLen := by unfold maxLen; omega
  refine Ev.bindc (szSpace_eq _ _ m0 (by omega) (by omega)) ?_
  by_cases h0 : (1048576 : Int) < (l0_0.length : Int)
  · exact Ev.iff_pos (by rw [if_pos h0]; omega) (Ev.now _)
  rw [if_neg h0]
  refine Ev.iff_neg (by omega) ?_
  have hl0 : l0_0.length ≤ 1048576 := by omega
  have hm0 : l0_0.length < maxLen := by unfold maxLen; omega
  have hr0 := rShift_len l0_0 k1 a2
  repeat' first
    | exact Ev.now _
    | refine Ev.bind (toInt64S_ev _ k1) ?_
    | refine Ev.bind (toSpace_ev _ hl0) ?_
    | refine Ev.bind (specShiftCode_ev _ k1 _) ?_
    | refine Ev.bind (implShiftCode_ev _ k1 _) ?_
    | (refine Ev.bind (eqSpace_ev _ _ ?_) ?_; (· (first | omega | (unfold maxLen; omega) | (simp only [iota_length]; omega) | (simp only [iota_length]; unfold maxLen; omega))))
    | (refine Ev.bind (eqInt64S_ev _ _ ?_) ?_; (· (first | omega | (unfold maxLen; omega) | (simp only [iota_length]; omega) | (simp only [iota_length]; unfold maxLen; omega))))
    | (refine Ev.bind (markSpace_ev _ _ ?_ ?_ ?_) ?_; (· (first | omega | (unfold maxLen; omega) | (simp only [iota_length]; omega) | (simp only [iota_length]; unfold maxLen; omega))); (· (first | omega | (unfold maxLen; omega) | (simp only [iota_length]; omega) | (simp only [iota_length]; unfold maxLen; omega))); (· (first | omega | (unfold maxLen; omega) | (simp only [iota_length]; omega) | (simp only [iota_length]; unfold maxLen; omega))))
    | (refine Ev.bind (markInt64S_ev _ _ ?_ ?_ ?_) ?_; (· (first | omega | (unfold maxLen; omega) | (simp only [iota_length]; omega) | (simp only [iota_length]; unfold maxLen; omega))); (· (first | omega | (unfold maxLen; omega) | (simp only [iota_length]; omega) | (simp only [iota_length]; unfold maxLen; omega))); (· (first | omega | (unfold maxLen; omega) | (simp only [iota_length]; omega) | (simp only [iota_length]; unfold maxLen; omega))))
    | (refine Ev.bind (heldInt64S_ev _ _ ?_ ?_) ?_; (· (first | omega | (unfold maxLen; omega) | (simp only [iota_length]; omega) | (simp only [iota_length]; unfold maxLen; omega))); (· (first | omega | (unfold maxLen; omega) | (simp only [iota_length]; omega) | (simp only [iota_length]; unfold maxLen; omega))))
    | (refine Ev.iff_pos ?_ ?_; (· (first | (simp; done) | omega)))
    | (refine Ev.iff_neg ?_ ?_; (· (first | (simp; done) | omega)))
    | refine Ev.step (show ∀ k, laws_FnExactShiftCode.j0 (k + 1) _ _ _ _ _ _ _ _ _ _ = _ from fun k => by rw [laws_FnExactShiftCode.j0]) ?_
    | refine Ev.step (show ∀ k, laws_FnExactShiftCode.j1 (k + 1) _ _ _ _ _ _ _ = _ from fun k => by rw [laws_FnExactShiftCode.j1]) ?_
    | refine Ev.step (show ∀ k, laws_FnExactShiftCode.j2 (k + 1) _ _ _ = _ from fun k => by rw [laws_FnExactShiftCode.j2]) ?_
end Go.Proofs.Ytccolbomlgokiaa.Q
