/- The distance of a word from a code, in plain Lean. -/
import Derived.Test.YtcpchmnbjaeolaaQGiven
import Derived.Test.YtcpchmnbjaeolaaQDist
import Derived.Test.YtcpchmnbjaeolaaFspecl02To
set_option linter.unusedVariables false
set_option linter.unusedSimpArgs false
namespace Go.Proofs.Ytcpchmnbjaeolaa.Q
open Go.RowKit Go.Proofs.Ytcpchmnbjaeolaa.P Go.Proofs.YtcpchmnbjaeolaaW.PrintWords CC

def mdL (s : List Int) (w : Int) : Int → List Int → Int
  | a, [] => a
  | a, x :: l => mdL s w (mn a (dist s x w)) l
theorem mdL_le (s : List Int) (w : Int) : ∀ (l : List Int) (a : Int), mdL s w a l ≤ a
  | [], a => Int.le_refl a
  | x :: l, a => by
    have := mdL_le s w l (mn a (dist s x w))
    have h : mn a (dist s x w) ≤ a := by
      unfold mn
      split <;> omega
    simp only [mdL]
    omega
theorem l02To_l {s c : List Int} (hs : isSp s = true) (hc : isC s c = true) {w : Int} (hw : isW s w = true) : ∀ (m n : Nat) (a : Int), n + m = c.length →
    Ev (fun k => spec_l02To.l0 k c w a (n : Int) s) (mdL s w a (c.drop n))
  | 0, n, a, hm => by
    refine Ev.step (fun k => by simp only [spec_l02To.l0]; exact rfl) ?_
    refine Ev.iff_neg (by omega) ?_
    rw [drop_all (by omega)]
    exact Ev.now _
  | m + 1, n, a, hm => by
    have hn : n < c.length := by omega
    have hl := isC_len hs hc
    refine Ev.step (fun k => by simp only [spec_l02To.l0]; exact rfl) ?_
    refine Ev.iff_pos (by omega) ?_
    refine Ev.iff_pos (by omega) ?_
    refine Ev.bind (l01Distance_ev hs (isC_rd hc hn) hw) ?_
    rw [wrap_nat (by unfold maxLen; omega), drop_cons c hn, mdL]
    exact l02To_l hs hc hw m (n + 1) _ (by omega)
theorem dist_8 {s : List Int} (hs : isSp s = true) (u w : Int) : dist s u w ≤ 8 := by
  have := dist_le s u w
  have := isSp_len hs
  omega
theorem l02To_ev {s c : List Int} (hs : isSp s = true) (hc : isC s c = true) {w : Int} (hw : isW s w = true) (hp : 0 < c.length) {b : Int} (hb : 8 ≤ b) : Ev (fun k => spec_l02To.f k s c w) (mdL s w b c) := by
  unfold spec_l02To.f
  refine Ev.iff_pos (by omega) ?_
  have h0 := l01Distance_ev hs (isC_rd hc hp) hw
  refine Ev.bind (a := dist s (rd c 0) w) (by simpa using h0) ?_
  have := l02To_l hs hc hw (c.length - 1) 1 (dist s (rd c 0) w) (by omega)
  have e : mdL s w b c = mdL s w (dist s (rd c 0) w) (c.drop 1) := by
    have h1 := drop_cons c hp
    rw [List.drop_zero] at h1
    rw [show mdL s w b c = mdL s w b (rd c ((0 : Nat) : Int) :: c.drop (0 + 1)) from congrArg _ h1, mdL]
    have h2 := dist_8 hs (rd c 0) w
    have : mn b (dist s (rd c 0) w) = dist s (rd c 0) w := by
      unfold mn
      split <;> omega
    rw [show ((0 : Nat) : Int) = 0 from rfl, this]
  rw [e]
  exact this
end Go.Proofs.Ytcpchmnbjaeolaa.Q
