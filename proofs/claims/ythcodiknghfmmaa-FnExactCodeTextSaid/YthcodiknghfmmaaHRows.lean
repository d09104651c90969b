/- Rows of arrays of a code's words. -/
import Derived.Test.YthcodiknghfmmaaHAllOf
import Derived.Test.YthcodiknghfmmaaHThose0
set_option linter.unusedVariables false
set_option linter.unusedSimpArgs false
namespace Go.Proofs.Ythcodiknghfmmaa.P
open Go.RowKit Go.Proofs.YthcodiknghfmmaaW.PrintWords Go.Proofs.YthcodiknghfmmaaW.PrintLast Go.Proofs.YthcodiknghfmmaaW.PrintMore CC

/-- The cells of one element of a row of arrays. -/
theorem row8g {W : World} {b g cap P : Nat} {L : List (List Int)} (h : W.ownsRow b 52 8 (.slice (some ⟨g, 0, none⟩) P cap) P (flat8 L)) (hL : ∀ l ∈ L, l.length = 8) {n : Nat} {y0 y1 y2 y3 y4 y5 y6 y7 : Int} (hd : L[n]? = some [y0, y1, y2, y3, y4, y5, y6, y7]) :
    W.cell? ⟨g, n * 8, none⟩ = some (.int .u8 y0) ∧ W.cell? ⟨g, n * 8 + 1, none⟩ = some (.int .u8 y1) ∧ W.cell? ⟨g, n * 8 + 2, none⟩ = some (.int .u8 y2) ∧ W.cell? ⟨g, n * 8 + 3, none⟩ = some (.int .u8 y3) ∧
    W.cell? ⟨g, n * 8 + 4, none⟩ = some (.int .u8 y4) ∧ W.cell? ⟨g, n * 8 + 5, none⟩ = some (.int .u8 y5) ∧ W.cell? ⟨g, n * 8 + 6, none⟩ = some (.int .u8 y6) ∧ W.cell? ⟨g, n * 8 + 7, none⟩ = some (.int .u8 y7) := by
  have key : ∀ j u, j < 8 → (nums .u8 [y0, y1, y2, y3, y4, y5, y6, y7])[j]? = some u → W.cell? ⟨g, n * 8 + j, none⟩ = some u := by
    intro j u hj hu
    have := h.cells (g := g) rfl (n * 8 + j) u (by rw [flat8_get _ hL n j _ hd hj]; exact hu)
    rwa [add_plain] at this
  exact ⟨key 0 _ (by omega) rfl, key 1 _ (by omega) rfl, key 2 _ (by omega) rfl, key 3 _ (by omega) rfl, key 4 _ (by omega) rfl, key 5 _ (by omega) rfl, key 6 _ (by omega) rfl, key 7 _ (by omega) rfl⟩
theorem allOf_len (s C : List Int) (n : Nat) : ∀ l ∈ allOf s C n, l.length = 8 := by
  intro l hl
  simp only [allOf, List.mem_map] at hl
  obtain ⟨i, _, rfl⟩ := hl
  exact dig8_length _ _
theorem allOf_get (s C : List Int) {n : Nat} (h : n < C.length) : (allOf s C C.length)[n]? = some (dig8 s (rd C (n : Int))) := by
  simp [allOf, rd, List.getD_eq_getElem?_getD, h]

end Go.Proofs.Ythcodiknghfmmaa.P
