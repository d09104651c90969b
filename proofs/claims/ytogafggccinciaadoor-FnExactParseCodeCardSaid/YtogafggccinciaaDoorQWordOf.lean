/- WordOf: what the reference and the program answer, in plain Lean. -/
import Derived.Test.YtogafggccinciaaDoorQWord
import Derived.Test.YtogafggccinciaaDoorFimplWordOf
set_option linter.unusedVariables false
set_option linter.unusedSimpArgs false
namespace Go.Proofs.YtogafggccinciaaDoor.Q
open Go.RowKit Go.Proofs.YtogafggccinciaaDoor.P Go.Proofs.YtogafggccinciaaDoorW.PrintWords CC

def rWordOf (s d : List Int) : Int × Int := if isSp s then if d.length = s.length then if inR s d then (wd s d, 0) else (0, 2) else (0, 2) else (0, 1)

theorem implWordOf_l {s d : List Int} (hs : s.all sizeOk = true) (hl : s.length ≤ 8) (hd : d.length = s.length) : ∀ (m n : Nat) (a : Int), n + m = s.length → 0 ≤ a → a + 1 ≤ 4 ^ n →
    Ev (fun k => impl_WordOf.l0 k a d (d.length : Int) (n : Int) s) (if inR (s.drop n) (d.drop n) then (hor a (s.drop n) (d.drop n), 0) else (0, 2))
  | 0, n, a, hm, h0, h1 => by
    rw [drop_all (s := s) (by omega)]
    simp only [inR, if_true, hor]
    refine Ev.step (f := fun k => some (a, 0)) (fun k => ?_) (Ev.now _)
    simp only [impl_WordOf.l0]
    rw [if_neg (by omega)]
  | m + 1, n, a, hm, h0, h1 => by
    have hn : n < s.length := by omega
    have hn2 : n < d.length := by omega
    have hq := all_rd hs hn
    rw [drop_cons s hn, drop_cons d hn2]
    simp only [inR]
    by_cases h00 : rd d (n : Int) < 0
    · have : ¬ 0 ≤ rd d (n : Int) := by omega
      simp only [this, decide_false, Bool.false_and]
      refine Ev.step (f := fun k => some (0, 2)) (fun k => ?_) (by simpa using Ev.now _)
      simp only [impl_WordOf.l0]
      rw [if_pos (by omega), if_pos (by omega), if_pos (by omega), if_pos h00]
    by_cases h01 : rd d (n : Int) < rd s (n : Int)
    · obtain ⟨e, b0, b1⟩ := hor_step (n := n) (by omega) hq h0 h1 (by omega) h01
      have h02 : 0 ≤ rd d (n : Int) := by omega
      simp only [h01, h02, decide_true, Bool.true_and]
      refine Ev.step (f := fun k => impl_WordOf.l0 k (a * rd s (n : Int) + rd d (n : Int)) d (d.length : Int) ((n + 1 : Nat) : Int) s) (fun k => ?_) ?_
      · simp only [impl_WordOf.l0]
        rw [if_pos (by omega), if_pos (by omega), if_pos (by omega), if_neg h00, if_pos (by omega), if_neg (by omega), e, wrap_nat (by unfold maxLen; omega)]
      · exact implWordOf_l hs hl hd m (n + 1) _ (by omega) b0 b1
    · simp only [h01, decide_false, Bool.and_false, Bool.false_and]
      refine Ev.step (f := fun k => some (0, 2)) (fun k => ?_) (by simpa using Ev.now _)
      simp only [impl_WordOf.l0]
      rw [if_pos (by omega), if_pos (by omega), if_pos (by omega), if_neg h00, if_pos (by omega), if_pos (by omega)]

theorem implWordOf_ev (s d : List Int) (hd : d.length ≤ 1048576) : Ev (fun k => impl_WordOf.f k s d) (rWordOf s d) := by
  unfold impl_WordOf.f rWordOf
  refine Ev.bind (isSpace_ev s) ?_
  by_cases h : isSp s = true
  · simp only [h, if_true]
    by_cases hd : d.length = s.length
    · refine Ev.iff_pos (by omega) ?_
      rw [if_pos hd]
      have := implWordOf_l (isSp_all h) (isSp_len h) hd s.length 0 0 (by omega) (by omega) (by simp)
      simpa [wd] using this
    · refine Ev.iff_neg (by omega) ?_
      rw [if_neg hd]
      exact Ev.now _
  · simp only [h, if_false]
    exact Ev.now _
end Go.Proofs.YtogafggccinciaaDoor.Q
