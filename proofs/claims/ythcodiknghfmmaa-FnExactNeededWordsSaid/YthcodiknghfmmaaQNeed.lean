/- Needed words, in plain Lean. -/
import Derived.Test.YthcodiknghfmmaaQCover
import Derived.Test.YthcodiknghfmmaaQTimes
import Derived.Test.YthcodiknghfmmaaHNeeded
import Derived.Test.YthcodiknghfmmaaFspecl02Needed
set_option linter.unusedVariables false
set_option linter.unusedSimpArgs false
namespace Go.Proofs.Ythcodiknghfmmaa.Q
open Go.RowKit Go.Proofs.Ythcodiknghfmmaa.P Go.Proofs.YthcodiknghfmmaaW.PrintWords CC
/-- Is some place of a list covered once? -/
def once (T B : List Int) : Bool := B.any fun x => decide (rd T x = 1)
theorem needed_l {T B : List Int} (hB : ∀ x ∈ B, 0 ≤ x ∧ x < T.length) (hBl : B.length ≤ 1024) : ∀ (m n : Nat), n + m = B.length → Ev (fun k => spec_l02Needed.l0 k T B (n : Int)) (once T (B.drop n))
  | 0, n, hm => by
    refine Ev.step (fun k => by simp only [spec_l02Needed.l0]; exact rfl) ?_
    refine Ev.iff_neg (by omega) ?_
    rw [drop_all (by omega)]
    exact Ev.now _
  | m + 1, n, hm => by
    have hn : n < B.length := by omega
    have hx : 0 ≤ rd B (n : Int) ∧ rd B (n : Int) < T.length := by
      have : rd B (n : Int) = B[n] := by simp [rd, List.getD_eq_getElem?_getD, hn]
      rw [this]
      exact hB _ (List.getElem_mem hn)
    have ih := needed_l hB hBl m (n + 1) (by omega)
    refine Ev.step (fun k => by simp only [spec_l02Needed.l0]; exact rfl) ?_
    refine Ev.iff_pos (by omega) ?_
    refine Ev.iff_pos (by omega) ?_
    refine Ev.iff_pos hx.1 ?_
    refine Ev.iff_pos hx.2 ?_
    rw [drop_cons B hn]
    by_cases h : rd T (rd B (n : Int)) = 1
    · refine Ev.iff_pos h ?_
      have e : once T (rd B (n : Int) :: B.drop (n + 1)) = true := by simp [once, h]
      rw [e]
      exact Ev.now _
    · refine Ev.iff_neg h ?_
      have e : once T (rd B (n : Int) :: B.drop (n + 1)) = once T (B.drop (n + 1)) := by simp [once, h]
      rw [e, wrap_nat (by unfold maxLen; omega)]
      exact ih
theorem needQ_iff (s T : List Int) (x r : Int) : ∀ (k m : Nat), needQ s T x r m k = true ↔ ∃ u : Nat, m ≤ u ∧ u < m + k ∧ rd T (u : Int) = 1 ∧ ham (dig8 s x) (dig8 s (u : Int)) ≤ r
  | 0, m => by
    simp only [needQ]
    constructor
    · intro h; cases h
    · rintro ⟨u, h1, h2, _⟩; omega
  | k + 1, m => by
    simp only [needQ]
    by_cases h : rd T (m : Int) = 1 ∧ ham (dig8 s x) (dig8 s (m : Int)) ≤ r
    · rw [if_pos h]
      exact ⟨fun _ => ⟨m, Nat.le_refl _, by omega, h⟩, fun _ => rfl⟩
    · rw [if_neg h, needQ_iff s T x r k (m + 1)]
      constructor
      · rintro ⟨u, h1, h2, h3⟩
        exact ⟨u, by omega, by omega, h3⟩
      · rintro ⟨u, h1, h2, h3⟩
        have : u ≠ m := by
          rintro rfl
          exact h h3
        exact ⟨u, by omega, by omega, h3⟩
theorem needQ_once {s : List Int} (hs : isSp s = true) (T : List Int) (x r : Int) : needQ s T x r 0 (NW s) = once T (ballL s x r) := by
  rw [Bool.eq_iff_iff, needQ_iff]
  unfold once ballL
  simp only [List.any_eq_true, decide_eq_true_eq, mem_selL]
  constructor
  · rintro ⟨u, h1, h2, h3, h4⟩
    refine ⟨(u : Int), ⟨by omega, by omega, ?_⟩, h3⟩
    rw [ham_dig8 (isSp_len hs)] at h4
    exact h4
  · rintro ⟨y, ⟨h1, h2, h3⟩, h4⟩
    refine ⟨y.toNat, by omega, by omega, ?_⟩
    rw [Int.toNat_of_nonneg h1, ham_dig8 (isSp_len hs)]
    exact ⟨h4, h3⟩
theorem l02Needed_ev {s : List Int} (hs : isSp s = true) {T : List Int} (hT : T.length = NW s) {w : Int} (hw : isW s w = true) (r : Int) : Ev (fun k => spec_l02Needed.f k s T w r) (needQ s T w r 0 (NW s)) := by
  unfold spec_l02Needed.f
  rw [needQ_once hs]
  refine Ev.bind (l01Ball_ev hs hw r) ?_
  have := needed_l (T := T) (B := ballL s w r) (fun x hx => by have := mem_selL.1 hx; rw [hT]; exact ⟨this.1, this.2.1⟩) (ballL_len hs _ _) (ballL s w r).length 0 (by omega)
  rw [List.drop_zero] at this
  exact this
end Go.Proofs.Ythcodiknghfmmaa.Q
