/- Eight numbers told place by place. -/
import Derived.Test.YtbhgnphdhkmliaaHDig
set_option linter.unusedVariables false
set_option linter.unusedSimpArgs false
namespace Go.Proofs.Ytbhgnphdhkmliaa.P
open Go.RowKit Go.Proofs.YtbhgnphdhkmliaaW.PrintWords Go.Proofs.YtbhgnphdhkmliaaW.PrintLast Go.Proofs.YtbhgnphdhkmliaaW.PrintMore CC


/-- Eight numbers, the first n told by g, the others 0. -/
def upd8 (g : Nat → Int) (n : Nat) : List Int := (List.range 8).map fun k => if k < n then g k else 0
theorem upd8_length (g : Nat → Int) (n : Nat) : (upd8 g n).length = 8 := by simp [upd8]
theorem upd8_zero (g : Nat → Int) : upd8 g 0 = List.replicate 8 0 := rfl
theorem upd8_succ (g : Nat → Int) (n : Nat) : (upd8 g n).set n (g n) = upd8 g (n + 1) := by
  apply List.ext_getElem?
  intro k
  by_cases hk : k = n
  · subst hk
    by_cases h8 : k < 8
    · rw [List.getElem?_set_self (by rw [upd8_length]; exact h8)]
      simp [upd8, h8]
    · rw [List.getElem?_eq_none (by rw [List.length_set, upd8_length]; omega), List.getElem?_eq_none (by rw [upd8_length]; omega)]
  · rw [List.getElem?_set_ne (fun e => hk e.symm)]
    simp only [upd8, List.getElem?_map]
    by_cases h8 : k < 8
    · simp only [List.getElem?_range h8, Option.map_some, Option.some.injEq]
      by_cases h1 : k < n
      · rw [if_pos h1, if_pos (by omega)]
      · rw [if_neg h1, if_neg (by omega)]
    · rw [List.getElem?_eq_none (by simp; omega)]
      rfl

theorem size_rd {s : List Int} (hs : s.all sizeOk = true) {k : Nat} (hk : k < s.length) : 2 ≤ rd s (k : Int) ∧ rd s (k : Int) ≤ 4 := by
  have hq : sizeOk (rd s (k : Int)) = true := by
    have : rd s (k : Int) = s[k] := by simp [rd, List.getD_eq_getElem?_getD, hk]
    rw [this]
    exact List.all_eq_true.1 hs _ (List.getElem_mem hk)
  have := (sizeOk_iff _).1 hq
  omega

theorem mod_small {q x : Int} (h0 : 2 ≤ q) (h1 : q ≤ 4) : 0 ≤ x % q ∧ x % q ≤ 3 := by
  have a := Int.emod_nonneg x (show q ≠ 0 by omega)
  have b := Int.emod_lt_of_pos x (show 0 < q by omega)
  omega

theorem upd8_rd (g : Nat → Int) (n : Nat) {k : Nat} (hk : k < n) (h8 : k < 8) : rd (upd8 g n) (k : Int) = g k := by
  simp [rd, upd8, List.getD_eq_getElem?_getD, h8, hk]
end Go.Proofs.Ytbhgnphdhkmliaa.P
