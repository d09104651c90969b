/- Rows of arrays; the words whose digits are such. -/
import Derived.Test.YtbhgnphdhkmliaaHAll
import Derived.FnLit
set_option linter.unusedVariables false
set_option linter.unusedSimpArgs false
namespace Go.Proofs.Ytbhgnphdhkmliaa.P
open Go.RowKit Go.Proofs.YtbhgnphdhkmliaaW.PrintWords Go.Proofs.YtbhgnphdhkmliaaW.PrintLast Go.Proofs.YtbhgnphdhkmliaaW.PrintMore CC


theorem flat8_get : ∀ (L : List (List Int)), (∀ l ∈ L, l.length = 8) → ∀ (n j : Nat) (l : List Int), L[n]? = some l → j < 8 → (flat8 L)[n * 8 + j]? = (nums .u8 l)[j]?
  | [], _, n, j, l, h, _ => by simp at h
  | a :: L, hL, 0, j, l, h, hj => by
    simp only [List.getElem?_cons_zero, Option.some.injEq] at h
    subst h
    have ha := hL a (by simp)
    simp only [flat8, List.map_cons, List.flatten_cons, Nat.zero_mul, Nat.zero_add]
    rw [List.getElem?_append_left (by simp [nums]; omega)]
  | a :: L, hL, n + 1, j, l, h, hj => by
    have ha := hL a (by simp)
    have hn : (nums .u8 a).length = 8 := by simpa [nums] using ha
    have ih := flat8_get L (fun l hl => hL l (by simp [hl])) n j l (by simpa using h) hj
    simp only [flat8, List.map_cons, List.flatten_cons] at ih ⊢
    rw [List.getElem?_append_right (by omega), hn, show (n + 1) * 8 + j - 8 = n * 8 + j by omega]
    exact ih

theorem all8_get (s : List Int) {P n : Nat} (h : n < P) : (all8 s P)[n]? = some (dig8 s (n : Int)) := by simp [all8, h]
theorem all8_len (s : List Int) (P : Nat) : ∀ l ∈ all8 s P, l.length = 8 := by
  intro l hl
  simp only [all8, List.mem_map] at hl
  obtain ⟨i, _, rfl⟩ := hl
  exact dig8_length _ _

/-- The cells of one element of a row of arrays. -/
theorem row8 {W : World} {b g cap P : Nat} {s : List Int} (h : W.ownsRow b 60 8 (.slice (some ⟨g, 0, none⟩) P cap) P (flat8 (all8 s P))) {n : Nat} (hn : n < P) {y0 y1 y2 y3 y4 y5 y6 y7 : Int} (hd : dig8 s (n : Int) = [y0, y1, y2, y3, y4, y5, y6, y7]) :
    W.cell? ⟨g, n * 8, none⟩ = some (.int .u8 y0) ∧ W.cell? ⟨g, n * 8 + 1, none⟩ = some (.int .u8 y1) ∧ W.cell? ⟨g, n * 8 + 2, none⟩ = some (.int .u8 y2) ∧ W.cell? ⟨g, n * 8 + 3, none⟩ = some (.int .u8 y3) ∧
    W.cell? ⟨g, n * 8 + 4, none⟩ = some (.int .u8 y4) ∧ W.cell? ⟨g, n * 8 + 5, none⟩ = some (.int .u8 y5) ∧ W.cell? ⟨g, n * 8 + 6, none⟩ = some (.int .u8 y6) ∧ W.cell? ⟨g, n * 8 + 7, none⟩ = some (.int .u8 y7) := by
  have key : ∀ j u, j < 8 → (nums .u8 [y0, y1, y2, y3, y4, y5, y6, y7])[j]? = some u → W.cell? ⟨g, n * 8 + j, none⟩ = some u := by
    intro j u hj hu
    have := h.cells (g := g) rfl (n * 8 + j) u (by rw [flat8_get _ (all8_len s P) n j _ (all8_get s hn) hj, hd]; exact hu)
    rwa [add_plain] at this
  exact ⟨key 0 _ (by omega) rfl, key 1 _ (by omega) rfl, key 2 _ (by omega) rfl, key 3 _ (by omega) rfl, key 4 _ (by omega) rfl, key 5 _ (by omega) rfl, key 6 _ (by omega) rfl, key 7 _ (by omega) rfl⟩

/-- The words whose digits are such. -/
def thoseL (s : List Int) (p : List Int → Bool) (P : Nat) : List Int := ((List.range P).filter fun (i : Nat) => p (dig8 s (i : Int))).map fun (i : Nat) => (i : Int)
theorem thoseL_succ (s : List Int) (p : List Int → Bool) (P : Nat) : thoseL s p (P + 1) = thoseL s p P ++ if p (dig8 s (P : Int)) then [(P : Int)] else [] := by
  unfold thoseL
  rw [List.range_succ, List.filter_append, List.map_append]
  congr 1
  by_cases h : p (dig8 s (P : Int)) = true <;> simp [h]
theorem thoseL_len (s : List Int) (p : List Int → Bool) (P : Nat) : (thoseL s p P).length ≤ P := by
  unfold thoseL
  have := List.length_filter_le (fun (i : Nat) => p (dig8 s (i : Int))) (List.range P)
  simpa using this

theorem infoI : (Try.prog.info? 2).map (fun i => (i.zero, i.size, i.bytes)) = some (some (.int .i64 0), 1, 8) := by kernel_rfl

theorem take_rd8 {d : List Int} {n : Nat} (hn : n < d.length) : d.take (n + 1) = d.take n ++ [rd d (n : Int)] := by
  rw [List.take_add_one]
  simp [rd, List.getD_eq_getElem?_getD, hn]
end Go.Proofs.Ytbhgnphdhkmliaa.P
