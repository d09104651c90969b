/- What the law FnForms needs, part 15: words, walks of functions (each says that a call returns what the plain Lean function beside it says), plain lemmas. -/
import Derived.Test.YtnkndaapamenmaaGreatKFnFormsN
import Derived.ChangeKeysEq
set_option linter.unusedVariables false
set_option linter.unusedSimpArgs false
namespace Go.Proofs.YtnkndaapamenmaaGreat.P
open Go.RowKit Go.Proofs.YtnkndaapamenmaaGreatW.PrintWords Go.Proofs.YtnkndaapamenmaaGreatW.PrintLast Go.Proofs.YtnkndaapamenmaaGreatW.PrintMore CC
theorem cells_u64 : (Tryz.prog).cellsOf 40 = 1 := by kernel_rfl
theorem part_u64 (x y : Value) (i : Nat) (w : World) (v : Value) (h : #[x, y][i]? = some v) (hv : ∃ k n, v = .int k n) : (part 40 #[x, y] i).run Tryz.prog w = .ok v w := by
  obtain ⟨k, n, rfl⟩ := hv
  have h2 : [x, y][i]? = some (.int k n) := by simpa using h
  simp [part, go_sem, h2]
theorem eq_u64 (d : Nat) (a b : Int) (w : World) : (Op.equalIn (d + 1) 40 (.int .u64 a) (.int .u64 b)).run Tryz.prog w = .ok (a == b) w := by
  have hu := Tryz.underlying40
  simp [Op.equalIn, run_underlying hu]
set_option maxRecDepth 100000 in
theorem eq_sets (a b c d : Nat) (w : World) : (Op.equalIn 10000 42 (.agg #[.int .u64 a, .int .u64 b]) (.agg #[.int .u64 c, .int .u64 d])).run Tryz.prog w = .ok (decide (a = c) && decide (b = d)) w := by
  have hi : ∃ i, (Tryz.prog).info? 40 = some i := ⟨_, rfl⟩
  obtain ⟨i, hi⟩ := hi
  rw [show (10000 : Nat) = 9999 + 1 from rfl, run_equalIn_array w 9999 _ _ Tryz.underlying42 hi, cells_u64]
  have p0 : ∀ w', (part 40 #[.int .u64 (a : Int), .int .u64 (b : Int)] 0).run Tryz.prog w' = .ok (.int .u64 (a : Int)) w' := fun w' => part_u64 _ _ 0 w' _ rfl ⟨_, _, rfl⟩
  have p1 : ∀ w', (part 40 #[.int .u64 (a : Int), .int .u64 (b : Int)] 1).run Tryz.prog w' = .ok (.int .u64 (b : Int)) w' := fun w' => part_u64 _ _ 1 w' _ rfl ⟨_, _, rfl⟩
  have q0 : ∀ w', (part 40 #[.int .u64 (c : Int), .int .u64 (d : Int)] 0).run Tryz.prog w' = .ok (.int .u64 (c : Int)) w' := fun w' => part_u64 _ _ 0 w' _ rfl ⟨_, _, rfl⟩
  have q1 : ∀ w', (part 40 #[.int .u64 (c : Int), .int .u64 (d : Int)] 1).run Tryz.prog w' = .ok (.int .u64 (d : Int)) w' := fun w' => part_u64 _ _ 1 w' _ rfl ⟨_, _, rfl⟩
  have e0 : ∀ w', (Op.equalIn 9999 40 (.int .u64 (a : Int)) (.int .u64 (c : Int))).run Tryz.prog w' = .ok ((a : Int) == (c : Int)) w' := fun w' => eq_u64 9998 _ _ w'
  have e1 : ∀ w', (Op.equalIn 9999 40 (.int .u64 (b : Int)) (.int .u64 (d : Int))).run Tryz.prog w' = .ok ((b : Int) == (d : Int)) w' := fun w' => eq_u64 9998 _ _ w'
  have h1 : ((a : Int) == (c : Int)) = decide (a = c) := by
    by_cases h : a = c
    · subst h; simp
    · rw [decide_eq_false h]; exact beq_eq_false_iff_ne.mpr (by omega)
  have h2 : ((b : Int) == (d : Int)) = decide (b = d) := by
    by_cases h : b = d
    · subst h; simp
    · rw [decide_eq_false h]; exact beq_eq_false_iff_ne.mpr (by omega)
  rw [h1] at e0
  rw [h2] at e1
  generalize decide (a = c) = r1 at *
  generalize decide (b = d) = r2 at *
  simp only [List.range, List.range.loop, Op.eqItems, Sem.run_bind, Nat.zero_mul, Nat.one_mul, p0, p1, q0, q1, e0, e1, Result.andThen_ok]
  cases r1 <;> cases r2 <;> simp [p1, q1, e1]
end Go.Proofs.YtnkndaapamenmaaGreat.P
