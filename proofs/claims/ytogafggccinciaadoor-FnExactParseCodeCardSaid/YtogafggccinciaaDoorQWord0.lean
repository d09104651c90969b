/- Words of digits: one step, in plain Lean. -/
import Derived.Test.YtogafggccinciaaDoorQBase
set_option linter.unusedVariables false
set_option linter.unusedSimpArgs false
namespace Go.Proofs.YtogafggccinciaaDoor.Q
open Go.RowKit Go.Proofs.YtogafggccinciaaDoor.P Go.Proofs.YtogafggccinciaaDoorW.PrintWords CC

theorem all_rd {s : List Int} (h : s.all sizeOk = true) {n : Nat} (hn : n < s.length) : rd s (n : Int) = 2 ∨ rd s (n : Int) = 3 ∨ rd s (n : Int) = 4 := by
  rw [← sizeOk_iff, rd_nat]
  simp only [List.getD_eq_getElem?_getD, List.getElem?_eq_getElem hn, Option.getD_some]
  exact List.all_eq_true.1 h _ (List.getElem_mem hn)

/-- One step of Horner's rule stays small. -/
theorem hor_step {a q x : Int} {n : Nat} (hn : n + 1 ≤ 8) (hq : q = 2 ∨ q = 3 ∨ q = 4) (h0 : 0 ≤ a) (h1 : a + 1 ≤ 4 ^ n) (x0 : 0 ≤ x) (x1 : x < q) :
    wrap64 (wrap64 (a * q) + x) = a * q + x ∧ 0 ≤ a * q + x ∧ a * q + x + 1 ≤ 4 ^ (n + 1) := by
  have hb := pow48 hn
  rw [Int.pow_succ] at hb ⊢
  rcases hq with rfl | rfl | rfl
  all_goals
    rw [wrap_id (x := a * _) (by omega) (by omega), wrap_id (by omega) (by omega)]
    omega

theorem inR_drop : ∀ (s d : List Int) (n : Nat), inR s d = true → inR (s.drop n) (d.drop n) = true
  | s, d, 0, h => by simpa using h
  | [], d, n + 1, h => by simp [inR]
  | q :: s, [], n + 1, h => by cases h' : s.drop n <;> simp [inR, h']
  | q :: s, x :: d, n + 1, h => by
    simp only [inR, Bool.and_eq_true] at h
    simpa using inR_drop s d n h.2
theorem tmod_pos {x q : Int} (h : 0 ≤ x) : Int.tmod x q = x % q := Int.tmod_eq_emod_of_nonneg h
theorem tdiv_pos {x q : Int} (h : 0 ≤ x) (hq : 0 ≤ q) : Int.tdiv x q = x / q := Int.tdiv_eq_ediv_of_nonneg h

theorem div_bounds {x q : Int} (h0 : 0 ≤ x) (h1 : x ≤ 1024) (hq : q = 2 ∨ q = 3 ∨ q = 4) : 0 ≤ x / q ∧ x / q ≤ 1024 ∧ wrap64 (Int.tdiv x q) = x / q ∧ Int.tmod x q = x % q := by
  have h2 : 0 ≤ x / q ∧ x / q ≤ 1024 := by rcases hq with rfl | rfl | rfl <;> omega
  refine ⟨h2.1, h2.2, ?_, tmod_pos h0⟩
  rw [tdiv_pos h0 (by omega), wrap_id (by omega) (by omega)]

theorem pred_nat (n : Nat) (h : n ≤ 100) : wrap64 (((n : Nat) : Int) - 1) = (n : Int) - 1 := wrap_id (by omega) (by omega)

theorem isW_b {s : List Int} (hs : isSp s = true) {x : Int} (h : isW s x = true) : 0 ≤ x ∧ x ≤ 1024 := by
  have h1 := (isW_iff s x).1 h
  have h2 := isSp_prd hs
  omega

end Go.Proofs.YtogafggccinciaaDoor.Q
