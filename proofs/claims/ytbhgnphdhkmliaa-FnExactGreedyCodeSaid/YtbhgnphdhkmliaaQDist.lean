/- Digits and distances: the program's eight digits are the model's; what the reference answers. -/
import Derived.Test.YtbhgnphdhkmliaaQWord0
import Derived.Test.YtbhgnphdhkmliaaHDig
import Derived.Test.YtbhgnphdhkmliaaFspecl01Distance
set_option linter.unusedVariables false
set_option linter.unusedSimpArgs false
namespace Go.Proofs.Ytbhgnphdhkmliaa.Q
open Go.RowKit Go.Proofs.Ytbhgnphdhkmliaa.P Go.Proofs.YtbhgnphdhkmliaaW.PrintWords CC

theorem l01Distance_l {s : List Int} (hs : s.all sizeOk = true) (hl : s.length ≤ 8) : ∀ (n : Nat) (u w acc : Int), n ≤ s.length → 0 ≤ u → u ≤ 1024 → 0 ≤ w → w ≤ 1024 → 0 ≤ acc → acc + n ≤ 100 →
    Ev (fun k => spec_l01Distance.l0 k u w acc ((n : Int) - 1) s) (acc + ham (dgr (s.take n).reverse u) (dgr (s.take n).reverse w))
  | 0, u, w, acc, _, _, _, _, _, _, _ => by
    refine Ev.step (f := fun k => some acc) (fun k => ?_) (by simpa [dgr, ham] using Ev.now _)
    simp only [spec_l01Distance.l0]
    rw [if_neg (by omega)]
  | n + 1, u, w, acc, hn, u0, u1, w0, w1, a0, a1 => by
    have hq := all_rd hs (show n < s.length by omega)
    obtain ⟨b0, b1, b2, b3⟩ := div_bounds u0 u1 hq
    obtain ⟨d0, d1, d2, d3⟩ := div_bounds w0 w1 hq
    have e : ((n + 1 : Nat) : Int) - 1 = (n : Int) := by omega
    rw [e]
    refine Ev.step (fun k => by simp only [spec_l01Distance.l0]; exact rfl) ?_
    refine Ev.iff_pos (by omega) (Ev.iff_pos (by omega) (Ev.iff_pos (by omega) (Ev.iff_neg (by omega) ?_)))
    rw [b2, b3, d2, d3, pred_nat n (by omega), take_rd s (by omega), List.reverse_append]
    simp only [List.reverse_cons, List.reverse_nil, List.nil_append, List.singleton_append, dgr, ham]
    by_cases h : u % rd s (n : Int) = w % rd s (n : Int)
    · refine Ev.iff_pos h ?_
      rw [if_pos h]
      have := l01Distance_l hs hl n (u / rd s (n : Int)) (w / rd s (n : Int)) acc (by omega) b0 b1 d0 d1 a0 (by omega)
      simpa using this
    · refine Ev.iff_neg h ?_
      rw [if_neg h, wrap_id (x := acc + 1) (by omega) (by omega), ← Int.add_assoc]
      exact l01Distance_l hs hl n (u / rd s (n : Int)) (w / rd s (n : Int)) (acc + 1) (by omega) b0 b1 d0 d1 (by omega) (by omega)

theorem l01Distance_ev {s : List Int} (hs : isSp s = true) {u w : Int} (hu : isW s u = true) (hw : isW s w = true) : Ev (fun k => spec_l01Distance.f k s u w) (dist s u w) := by
  have hl := isSp_len hs
  obtain ⟨u0, u1⟩ := isW_b hs hu
  obtain ⟨w0, w1⟩ := isW_b hs hw
  unfold spec_l01Distance.f
  have e : wrap64 ((s.length : Int) - 1) = (s.length : Int) - 1 := wrap_id (by omega) (by omega)
  rw [e]
  have := l01Distance_l (isSp_all hs) hl s.length u w 0 (Nat.le_refl _) u0 u1 w0 w1 (by omega) (by omega)
  rw [List.take_length, Int.zero_add] at this
  unfold dist dg
  rw [ham_reverse _ _ (by rw [dgr_length, dgr_length])]
  exact this
end Go.Proofs.Ytbhgnphdhkmliaa.Q
