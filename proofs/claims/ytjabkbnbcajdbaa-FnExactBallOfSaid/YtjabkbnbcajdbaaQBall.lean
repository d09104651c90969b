/- Balls and their codes: what the reference and the program answer, in plain Lean. -/
import Derived.Test.YtjabkbnbcajdbaaQGiven
import Derived.Test.YtjabkbnbcajdbaaQDist
import Derived.Test.YtjabkbnbcajdbaaHBall
import Derived.Test.YtjabkbnbcajdbaaFspecl01Ball
import Derived.Test.YtjabkbnbcajdbaaFspecl01Radius
import Derived.Test.YtjabkbnbcajdbaaFimplballCode
set_option linter.unusedVariables false
set_option linter.unusedSimpArgs false
namespace Go.Proofs.Ytjabkbnbcajdbaa.Q
open Go.RowKit Go.Proofs.Ytjabkbnbcajdbaa.P Go.Proofs.YtjabkbnbcajdbaaW.PrintWords CC

/-- The words of a ball. -/
def ballL (s : List Int) (w r : Int) : List Int := selL (fun u => decide (dist s w u ≤ r)) (NW s)
theorem ballL_len {s : List Int} (hs : isSp s = true) (w r : Int) : (ballL s w r).length ≤ 1024 := by
  have := selL_len (fun u => decide (dist s w u ≤ r)) (NW s)
  have := NW_le hs
  unfold ballL
  omega
theorem ball_eq {s : List Int} (hs : isSp s = true) {w : Int} (hw : isW s w = true) (r : Int) : impl_ball.f s w r = some (ballL s w r) := by
  unfold impl_ball.f
  rw [if_pos ⟨hs, hw⟩]
  congr 1
  unfold thoseL ballL selL NW
  congr 1
  apply List.filter_congr
  intro i _
  simp only [ham_dig8 (isSp_len hs)]

theorem l01Ball_l {s : List Int} (hs : isSp s = true) {w : Int} (hw : isW s w = true) (r : Int) : ∀ (m n : Nat), n + m = NW s →
    Ev (fun k => spec_l01Ball.l0 k w r (selL (fun u => decide (dist s w u ≤ r)) n) (n : Int) s) (ballL s w r)
  | 0, n, hm => by
    have hN := NW_eq hs
    obtain rfl : n = NW s := by omega
    refine Ev.step (fun k => by simp only [spec_l01Ball.l0]; exact rfl) ?_
    refine Ev.bind (l01N_sp hs) ?_
    refine Ev.iff_neg (by omega) ?_
    exact Ev.now _
  | m + 1, n, hm => by
    have hN := NW_eq hs
    have hle := NW_le hs
    have hlen := selL_len (fun u => decide (dist s w u ≤ r)) n
    have ih := l01Ball_l hs hw r m (n + 1) (by omega)
    rw [selL_succ] at ih
    refine Ev.step (fun k => by simp only [spec_l01Ball.l0]; exact rfl) ?_
    refine Ev.bind (l01N_sp hs) ?_
    refine Ev.iff_pos (by omega) ?_
    refine Ev.bind (l01Distance_ev hs (isW_nat hs (show n < NW s by omega)) hw) ?_
    rw [dist_comm, wrap_nat (by unfold maxLen; omega)]
    by_cases h : dist s w (n : Int) ≤ r
    · rw [decide_eq_true h, if_pos rfl] at ih
      exact Ev.iff_pos h (Ev.iff_pos (by omega) ih)
    · rw [decide_eq_false h, if_neg (by simp), List.append_nil] at ih
      exact Ev.iff_neg h ih

theorem l01Ball_ev {s : List Int} (hs : isSp s = true) {w : Int} (hw : isW s w = true) (r : Int) : Ev (fun k => spec_l01Ball.f k s w r) (ballL s w r) := by
  unfold spec_l01Ball.f
  simpa [selL] using l01Ball_l hs hw r (NW s) 0 (by omega)

/-- The code of a space, a word and a radius. -/
def rBall (s : List Int) (w r : Int) : Int := if rWords s [w] = 0 then if 0 ≤ r ∧ r ≤ 8 then 0 else 2 else rWords s [w]
theorem rBall_zero {s : List Int} {w r : Int} (h : rBall s w r = 0) : isSp s = true ∧ isW s w = true ∧ 0 ≤ r ∧ r ≤ 8 := by
  unfold rBall at h
  split at h
  · rename_i hw
    obtain ⟨h1, h2⟩ := rWords_zero hw
    split at h
    · rename_i hr
      exact ⟨h1, h2 w (by simp), hr⟩
    · cases h
  · rename_i hw
    exact absurd h hw
theorem l01Radius_ev (s : List Int) (w r : Int) : Ev (fun k => spec_l01Radius.f k s w r) (rBall s w r) := by
  unfold spec_l01Radius.f rBall
  refine Ev.bind (l01Words_ev s (c := [w]) (by simp)) ?_
  by_cases h : rWords s [w] = 0
  · simp only [if_pos h]
    refine Ev.bindc (l01In_eq _ _ _) ?_
    by_cases hr : 0 ≤ r ∧ r ≤ 8
    · rw [if_pos hr]
      refine Ev.iff_pos (by simp; omega) ?_
      rw [h]
      exact Ev.now _
    · rw [if_neg hr]
      exact Ev.iff_neg (by simp; omega) (Ev.now _)
  · simp only [if_neg h]
    exact Ev.now _
theorem isRadius_eq (r : Int) : impl_isRadius.f r = some (decide (0 ≤ r ∧ r ≤ 8)) := by
  unfold impl_isRadius.f
  by_cases h : r ≥ 0
  · rw [if_pos h]
    simp
    omega
  · rw [if_neg h]
    simp
    omega
theorem ballCode_ev (s : List Int) (w r : Int) : Ev (fun k => impl_ballCode.f k s w r) (rBall s w r) := by
  unfold impl_ballCode.f rBall
  refine Ev.bind (wordCode_ev s (c := [w]) (by simp)) ?_
  by_cases h : rWords s [w] = 0
  · simp only [if_pos h]
    refine Ev.bindc (isRadius_eq r) ?_
    by_cases hr : 0 ≤ r ∧ r ≤ 8
    · rw [if_pos hr]
      exact Ev.iff_pos (by simp; omega) (Ev.now _)
    · rw [if_neg hr]
      exact Ev.iff_neg (by simp; omega) (Ev.now _)
  · simp only [if_neg h]
    exact Ev.now _
end Go.Proofs.Ytjabkbnbcajdbaa.Q
