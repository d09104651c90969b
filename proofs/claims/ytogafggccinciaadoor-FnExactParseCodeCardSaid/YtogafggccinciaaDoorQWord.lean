/- Words of digits: what the reference and the program answer, in plain Lean. -/
import Derived.Test.YtogafggccinciaaDoorQWord0
import Derived.Test.YtogafggccinciaaDoorFCode
set_option linter.unusedVariables false
set_option linter.unusedSimpArgs false
namespace Go.Proofs.YtogafggccinciaaDoor.Q
open Go.RowKit Go.Proofs.YtogafggccinciaaDoor.P Go.Proofs.YtogafggccinciaaDoorW.PrintWords CC

theorem l01Word_l (s d : List Int) (hs : s.all sizeOk = true) (hl : s.length ≤ 8) (hd : d.length = s.length) : ∀ (m n : Nat) (a : Int), n + m = s.length → 0 ≤ a → a + 1 ≤ 4 ^ n → inR (s.drop n) (d.drop n) = true →
    Ev (fun k => spec_l01Word.l0 k d a (n : Int) s) (hor a (s.drop n) (d.drop n))
  | 0, n, a, hm, h0, h1, hr => by
    refine Ev.step (f := fun _ => some a) (fun k => ?_) ?_
    · simp only [spec_l01Word.l0]
      rw [if_neg (by omega)]
    · rw [drop_all (by omega)]
      exact Ev.now a
  | m + 1, n, a, hm, h0, h1, hr => by
    have hn : n < s.length := by omega
    have hn2 : n < d.length := by omega
    rw [drop_cons s hn, drop_cons d hn2] at hr ⊢
    simp only [inR, Bool.and_eq_true, decide_eq_true_eq] at hr
    obtain ⟨e, b0, b1⟩ := hor_step (n := n) (by omega) (all_rd hs hn) h0 h1 hr.1.1 hr.1.2
    refine Ev.step (f := fun k => spec_l01Word.l0 k d (a * rd s (n : Int) + rd d (n : Int)) ((n + 1 : Nat) : Int) s) (fun k => ?_) ?_
    · simp only [spec_l01Word.l0]
      rw [if_pos (by omega), if_pos (by omega), if_pos (by omega), e, wrap_nat (by unfold maxLen; omega)]
    · exact l01Word_l s d hs hl hd m (n + 1) _ (by omega) b0 b1 hr.2

theorem l01Word_ev {s d : List Int} (hs : s.all sizeOk = true) (hl : s.length ≤ 8) (hd : d.length = s.length) (hr : inR s d = true) : Ev (fun k => spec_l01Word.f k s d) (wd s d) := by
  unfold spec_l01Word.f wd
  simpa using l01Word_l s d hs hl hd s.length 0 0 (by omega) (by omega) (by simp) (by simpa using hr)
end Go.Proofs.YtogafggccinciaaDoor.Q
