/- Digits of a word: what the reference answers, in plain Lean; lists told place by place. -/
import Derived.Test.YtbhgnphdhkmliaaQWord
import Derived.Test.YtbhgnphdhkmliaaHDig
import Derived.Test.YtbhgnphdhkmliaaFCode
set_option linter.unusedVariables false
set_option linter.unusedSimpArgs false
namespace Go.Proofs.Ytbhgnphdhkmliaa.Q
open Go.RowKit Go.Proofs.Ytbhgnphdhkmliaa.P Go.Proofs.YtbhgnphdhkmliaaW.PrintWords CC

theorem l01Digits_l {s : List Int} (hs : s.all sizeOk = true) (hl : s.length ≤ 8) : ∀ (n : Nat) (u : Int) (ar : List Int), n ≤ s.length → ar.length = s.length → 0 ≤ u → u ≤ 1024 →
    Ev (fun k => spec_l01Digits.l0 k u ar ((n : Int) - 1) s) (dloop s n u ar)
  | 0, u, ar, _, _, _, _ => by
    refine Ev.step (f := fun k => some ar) (fun k => ?_) (Ev.now _)
    simp only [spec_l01Digits.l0]
    rw [if_neg (by omega)]
  | n + 1, u, ar, hn, ha, u0, u1 => by
    have hq := all_rd hs (show n < s.length by omega)
    obtain ⟨b0, b1, b2, b3⟩ := div_bounds u0 u1 hq
    have e : ((n + 1 : Nat) : Int) - 1 = (n : Int) := by omega
    rw [e]
    refine Ev.step (fun k => by simp only [spec_l01Digits.l0]; exact rfl) ?_
    refine Ev.iff_pos (by omega) (Ev.iff_pos (by omega) (Ev.iff_pos (by omega) (Ev.iff_neg (by omega) (Ev.iff_pos (by omega) ?_))))
    rw [b2, b3, pred_nat n (by omega), Int.toNat_natCast]
    exact l01Digits_l hs hl n _ _ (by omega) (by simpa using ha) b0 b1

theorem l01Digits_ev {s : List Int} (hs : isSp s = true) {w : Int} (hw : isW s w = true) : Ev (fun k => spec_l01Digits.f k s w) (dg s w) := by
  have hl := isSp_len hs
  obtain ⟨w0, w1⟩ := isW_b hs hw
  unfold spec_l01Digits.f
  refine Ev.iff_pos (by omega) (Ev.iff_pos (by omega) ?_)
  have e : wrap64 ((s.length : Int) - 1) = (s.length : Int) - 1 := wrap_id (by omega) (by omega)
  rw [e]
  have := l01Digits_l (isSp_all hs) hl s.length w (List.replicate ((s.length : Int)).toNat 0) (Nat.le_refl _) (by simp) w0 w1
  rw [dloop_eq s s.length w _ (Nat.le_refl _) (by simp)] at this
  simpa [dg] using this

/-- A list told place by place. -/
def genL (g : Nat → Int) (n : Nat) : List Int := (List.range n).map g
theorem genL_length (g : Nat → Int) (n : Nat) : (genL g n).length = n := by simp [genL]
theorem genL_succ (g : Nat → Int) (n : Nat) : genL g (n + 1) = genL g n ++ [g n] := by simp [genL, List.range_succ]
theorem genL_rd (g : Nat → Int) {n k : Nat} (h : k < n) : rd (genL g n) (k : Int) = g k := by simp [rd, genL, List.getD_eq_getElem?_getD, h]
/-- One more place of a list is told anew. -/
theorem genL_set {g : Nat → Int} {n : Nat} {d : List Int} (h : n < d.length) : (genL g n ++ d.drop n).set n (g n) = genL g (n + 1) ++ d.drop (n + 1) := by
  rw [List.set_append_right _ _ (by rw [genL_length]; exact Nat.le_refl _), genL_length, Nat.sub_self, genL_succ, List.append_assoc]
  congr 1
  rw [List.drop_eq_getElem_cons h]
  rfl
theorem genL_old {g : Nat → Int} {n : Nat} {d : List Int} (h : n < d.length) : rd (genL g n ++ d.drop n) (n : Int) = rd d (n : Int) := by
  rw [rd_nat, rd_nat, List.getD_eq_getElem?_getD, List.getElem?_append_right (by rw [genL_length]; exact Nat.le_refl _), genL_length, Nat.sub_self, List.getElem?_drop]
  simp [List.getD_eq_getElem?_getD]
theorem genL_congr {g h : Nat → Int} {n : Nat} (e : ∀ k, k < n → g k = h k) : genL g n = genL h n := by
  unfold genL
  apply List.map_congr_left
  intro k hk
  exact e k (List.mem_range.1 hk)
theorem genL_inR {s : List Int} {g : Nat → Int} (h : ∀ k, k < s.length → 0 ≤ g k ∧ g k < rd s (k : Int)) : inR s (genL g s.length) = true := by
  refine inR_of _ _ fun k h1 h2 => ?_
  rw [genL_rd g h1]
  exact h k h1
end Go.Proofs.Ytbhgnphdhkmliaa.Q
