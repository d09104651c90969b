/- Balls: what the reference answers, in plain Lean. -/
import Derived.Test.YtbhgnphdhkmliaaQGiven
import Derived.Test.YtbhgnphdhkmliaaQDist
import Derived.Test.YtbhgnphdhkmliaaFspecl01Ball
set_option linter.unusedVariables false
set_option linter.unusedSimpArgs false
namespace Go.Proofs.Ytbhgnphdhkmliaa.Q
open Go.RowKit Go.Proofs.Ytbhgnphdhkmliaa.P Go.Proofs.YtbhgnphdhkmliaaW.PrintWords CC

/-- The words of a ball. -/
def ballL (s : List Int) (w r : Int) : List Int := selL (fun u => decide (dist s w u ≤ r)) (NW s)
theorem ballL_len {s : List Int} (hs : isSp s = true) (w r : Int) : (ballL s w r).length ≤ 1024 := by
  have := selL_len (fun u => decide (dist s w u ≤ r)) (NW s)
  have := NW_le hs
  unfold ballL
  omega
theorem l01Ball_l {s : List Int} (hs : isSp s = true) {w : Int} (hw : isW s w = true) (r : Int) : ∀ (m n : Nat), n + m = NW s →
    Ev (fun k => spec_l01Ball.l0 k w r (selL (fun u => decide (dist s w u ≤ r)) n) (n : Int) s) (ballL s w r)
  | 0, n, hm => by
    have hN := NW_eq hs
    obtain rfl : n = NW s := by omega
    refine Ev.step (fun k => by simp only [spec_l01Ball.l0]; exact rfl) ?_
    refine Ev.bind (l01N_sp hs) ?_
    refine Ev.iff_neg (by omega) ?_
    exact Ev.now _
  | m + 1, n, hm => by
    have hN := NW_eq hs
    have hle := NW_le hs
    have hlen := selL_len (fun u => decide (dist s w u ≤ r)) n
    have ih := l01Ball_l hs hw r m (n + 1) (by omega)
    rw [selL_succ] at ih
    refine Ev.step (fun k => by simp only [spec_l01Ball.l0]; exact rfl) ?_
    refine Ev.bind (l01N_sp hs) ?_
    refine Ev.iff_pos (by omega) ?_
    refine Ev.bind (l01Distance_ev hs (isW_nat hs (show n < NW s by omega)) hw) ?_
    rw [dist_comm, wrap_nat (by unfold maxLen; omega)]
    by_cases h : dist s w (n : Int) ≤ r
    · rw [decide_eq_true h, if_pos rfl] at ih
      exact Ev.iff_pos h (Ev.iff_pos (by omega) ih)
    · rw [decide_eq_false h, if_neg (by simp), List.append_nil] at ih
      exact Ev.iff_neg h ih

theorem l01Ball_ev {s : List Int} (hs : isSp s = true) {w : Int} (hw : isW s w = true) (r : Int) : Ev (fun k => spec_l01Ball.f k s w r) (ballL s w r) := by
  unfold spec_l01Ball.f
  simpa [selL] using l01Ball_l hs hw r (NW s) 0 (by omega)
end Go.Proofs.Ytbhgnphdhkmliaa.Q
