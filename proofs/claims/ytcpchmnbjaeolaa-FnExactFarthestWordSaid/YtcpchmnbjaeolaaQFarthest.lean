/- The farthest word, in plain Lean. -/
import Derived.Test.YtcpchmnbjaeolaaQFar
import Derived.Test.YtcpchmnbjaeolaaHMax
import Derived.Test.YtcpchmnbjaeolaaFspecl02Farthest
set_option linter.unusedVariables false
set_option linter.unusedSimpArgs false
namespace Go.Proofs.Ytcpchmnbjaeolaa.Q
open Go.RowKit Go.Proofs.Ytcpchmnbjaeolaa.P Go.Proofs.YtcpchmnbjaeolaaW.PrintWords CC

/-- The first of the greatest of the first n numbers. -/
def ag (L : List Int) : Nat → Nat
  | 0 => 0
  | n + 1 => if maxQ L n < rd L (n : Int) then n else ag L n
theorem ag_law (L : List Int) : ∀ (n : Nat), n < L.length → ag L (n + 1) < n + 1 ∧ rd L (ag L (n + 1) : Nat) = maxQ L (n + 1) ∧ ∀ j : Nat, j < ag L (n + 1) → rd L (j : Int) < maxQ L (n + 1)
  | 0, h => by
    have h0 : maxQ L 0 = rd L 0 := by simp [maxQ]
    have e : ag L 1 = 0 := by
      simp only [ag, h0]
      rw [if_neg (by simp)]
    rw [show (0 + 1 : Nat) = 1 from rfl, e, maxQ_one L h]
    exact ⟨by omega, rfl, fun j hj => by omega⟩
  | n + 1, h => by
    obtain ⟨i1, i2, i3⟩ := ag_law L n (by omega)
    rw [maxQ_succ L h]
    unfold gr
    by_cases hh : maxQ L (n + 1) < rd L ((n + 1 : Nat) : Int)
    · have e : ag L (n + 1 + 1) = n + 1 := by
        rw [ag, if_pos hh]
      rw [e, if_pos hh]
      refine ⟨by omega, rfl, fun j hj => ?_⟩
      have key : ∀ (m : Nat), m ≤ n + 1 → ∀ j : Nat, j < m → rd L (j : Int) ≤ maxQ L m := by
        intro m
        induction m with
        | zero => intro _ j hj; omega
        | succ m ih =>
          intro hm j hj
          rw [maxQ_succ L (show m < L.length by omega)]
          unfold gr
          by_cases hj2 : j = m
          · subst hj2
            split <;> omega
          · have := ih (by omega) j (by omega)
            split <;> omega
      have := key (n + 1) (Nat.le_refl _) j hj
      omega
    · have e : ag L (n + 1 + 1) = ag L (n + 1) := by
        rw [ag, if_neg hh]
      rw [e, if_neg hh]
      exact ⟨by omega, i2, i3⟩
theorem l02Farthest_l {s c : List Int} (hs : isSp s = true) (hc : isC s c = true) (hp : 0 < c.length) : ∀ (m n : Nat), n + m = NW s →
    Ev (fun k => spec_l02Farthest.l0 k c (ag (farW s c) n) (maxQ (farW s c) n) (n : Int) s) ((ag (farW s c) (NW s) : Int), maxQ (farW s c) (NW s))
  | 0, n, hm => by
    have hN := NW_eq hs
    refine Ev.step (fun k => by simp only [spec_l02Farthest.l0]; exact rfl) ?_
    refine Ev.bind (l01N_sp hs) ?_
    refine Ev.iff_neg (by omega) ?_
    have : n = NW s := by omega
    subst this
    exact Ev.now _
  | m + 1, n, hm => by
    have hN := NW_eq hs
    have hN2 := NW_le hs
    have ih := l02Farthest_l hs hc hp m (n + 1) (by omega)
    refine Ev.step (fun k => by simp only [spec_l02Farthest.l0]; exact rfl) ?_
    refine Ev.bind (l01N_sp hs) ?_
    refine Ev.iff_pos (by omega) ?_
    refine Ev.bind (l02To_ev hs hc (isW_nat hs (show n < NW s by omega)) hp (b := 8) (by omega)) ?_
    rw [wrap_nat (by unfold maxLen; omega)]
    have hr := farW_rd s c (show n < NW s by omega)
    have h1 : maxQ (farW s c) (n + 1) = gr (maxQ (farW s c) n) (mdL s (n : Int) 8 c) := by
      rw [maxQ_succ _ (by rw [farW_length]; omega), hr]
    have h2 : ag (farW s c) (n + 1) = if maxQ (farW s c) n < mdL s (n : Int) 8 c then n else ag (farW s c) n := by
      rw [ag, hr]
    rw [h1, h2] at ih
    unfold gr at ih
    by_cases h : mdL s (n : Int) 8 c > maxQ (farW s c) n
    · refine Ev.iff_pos h ?_
      rw [if_pos (show maxQ (farW s c) n < mdL s (n : Int) 8 c from h), if_pos (show maxQ (farW s c) n < mdL s (n : Int) 8 c from h)] at ih
      exact ih
    · refine Ev.iff_neg h ?_
      rw [if_neg (show ¬ maxQ (farW s c) n < mdL s (n : Int) 8 c from h), if_neg (show ¬ maxQ (farW s c) n < mdL s (n : Int) 8 c from h)] at ih
      exact ih
theorem l02Farthest_ev {s c : List Int} (hs : isSp s = true) (hc : isC s c = true) (hp : 0 < c.length) : Ev (fun k => spec_l02Farthest.f k s c) ((ag (farW s c) (NW s) : Int), maxQ (farW s c) (NW s)) := by
  unfold spec_l02Farthest.f
  have hN := NW_pos hs
  have h0 := l02To_ev hs hc (isW_nat hs hN) hp (b := 8) (by omega)
  refine Ev.bind (a := mdL s 0 8 c) (by simpa using h0) ?_
  have := l02Farthest_l hs hc hp (NW s - 1) 1 (by omega)
  have hm : maxQ (farW s c) 1 = mdL s 0 8 c := by
    rw [maxQ_one _ (by rw [farW_length]; exact hN)]
    have := farW_rd s c hN
    simpa using this
  have ha : ag (farW s c) 1 < 1 := (ag_law (farW s c) 0 (by rw [farW_length]; exact hN)).1
  have ha0 : ag (farW s c) 1 = 0 := by omega
  rw [hm, ha0] at this
  exact this
theorem max_eq {s c : List Int} (hs : isSp s = true) : slices_Max_int64_int64.f (farW s c) = some (maxQ (farW s c) (NW s)) := by
  unfold slices_Max_int64_int64.f
  have hN := NW_pos hs
  have hN2 := NW_le hs
  rw [if_pos ⟨by rw [farW_length]; omega, by rw [farW_length]; omega⟩, farW_length]
end Go.Proofs.Ytcpchmnbjaeolaa.Q
