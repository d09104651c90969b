/- Words that are not covered, in plain Lean. -/
import Derived.Test.YtcpchmnbjaeolaaQCover
import Derived.Test.YtcpchmnbjaeolaaQTimes
import Derived.Test.YtcpchmnbjaeolaaFspecl02Uncovered
set_option linter.unusedVariables false
set_option linter.unusedSimpArgs false
namespace Go.Proofs.Ytcpchmnbjaeolaa.Q
open Go.RowKit Go.Proofs.Ytcpchmnbjaeolaa.P Go.Proofs.YtcpchmnbjaeolaaW.PrintWords CC

/-- The places of a list's noughts. -/
def zer (L : List Int) : List Int := selL (fun i => decide (rd L i = 0)) L.length
theorem l02Uncovered_l {L : List Int} (hL : L.length ≤ 1024) : ∀ (m n : Nat), n + m = L.length →
    Ev (fun k => spec_l02Uncovered.l0 k L (selL (fun i => decide (rd L i = 0)) n) (L.length : Int) (n : Int)) (zer L)
  | 0, n, hm => by
    refine Ev.step (fun k => by simp only [spec_l02Uncovered.l0]; exact rfl) ?_
    refine Ev.iff_neg (by omega) ?_
    have : n = L.length := by omega
    subst this
    exact Ev.now _
  | m + 1, n, hm => by
    have hn : n < L.length := by omega
    have hl := selL_len (fun i => decide (rd L i = 0)) n
    refine Ev.step (fun k => by simp only [spec_l02Uncovered.l0]; exact rfl) ?_
    refine Ev.iff_pos (by omega) ?_
    refine Ev.iff_pos (by omega) ?_
    refine Ev.iff_pos (by omega) ?_
    have ih := l02Uncovered_l hL m (n + 1) (by omega)
    rw [selL_succ] at ih
    by_cases h : rd L (n : Int) = 0
    · refine Ev.iff_pos h ?_
      refine Ev.iff_pos (by omega) ?_
      rw [wrap_nat (by unfold maxLen; omega)]
      simpa [h] using ih
    · refine Ev.iff_neg h ?_
      rw [wrap_nat (by unfold maxLen; omega)]
      simpa [h] using ih
theorem l02Uncovered_ev {s c : List Int} (hs : isSp s = true) (hc : isC s c = true) (r : Int) : Ev (fun k => spec_l02Uncovered.f k s c r) (zer (covL s c r)) := by
  unfold spec_l02Uncovered.f
  have hN := NW_le hs
  refine Ev.bind (l02Times_ev hs hc r) ?_
  exact l02Uncovered_l (L := covL s c r) (by rw [covL_length]; omega) (covL s c r).length 0 (by omega)
end Go.Proofs.Ytcpchmnbjaeolaa.Q
