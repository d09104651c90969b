/- What the law FnForms needs, part 1: words, walks of functions (each says that a call returns what the plain Lean function beside it says), plain lemmas. -/
import Derived.Lib.SlicesCompact
set_option linter.unusedVariables false
set_option linter.unusedSimpArgs false
namespace CC
open Go.Lib Go.Sort
def msort (l : List Int) : List Int := l.mergeSort fun x y => decide (x ≤ y)
theorem msort_length (l : List Int) : (msort l).length = l.length := by simp [msort]
theorem msort_mem (l : List Int) (x : Int) : x ∈ msort l ↔ x ∈ l := by simp [msort]
theorem msort_pw (l : List Int) : (msort l).Pairwise (· ≤ ·) := by
  have h := List.pairwise_mergeSort (le := fun (x y : Int) => decide (x ≤ y)) (by intro a b c h1 h2; simp at h1 h2 ⊢; omega) (by intro a b; simp; omega) l
  exact h.imp (fun h => by simpa using h)
theorem compact_len (l : List Int) : (Go.Lib.compact l).length ≤ l.length := by
  unfold Go.Lib.compact Go.Lib.compactUpTo
  rw [List.length_map]
  have := List.length_filter_le (Go.Lib.keeps l.toArray) (List.range l.length)
  simpa using this
theorem asc_ext : ∀ {A B : List Int}, A.Pairwise (· < ·) → B.Pairwise (· < ·) → (∀ y, y ∈ A ↔ y ∈ B) → A = B
  | [], [], _, _, _ => rfl
  | [], b :: B, _, _, h => by have := (h b).2 (by simp); simp at this
  | a :: A, [], _, _, h => by have := (h a).1 (by simp); simp at this
  | a :: A, b :: B, hA, hB, h => by
    rw [List.pairwise_cons] at hA hB
    have hab : a = b := by
      have h1 := (h a).1 (by simp)
      have h2 := (h b).2 (by simp)
      rcases List.mem_cons.1 h1 with e | h1
      · exact e
      · rcases List.mem_cons.1 h2 with e | h2
        · exact e.symm
        · have := hB.1 a h1
          have := hA.1 b h2
          omega
    subst hab
    have : A = B := asc_ext hA.2 hB.2 (fun y => by
      constructor
      · intro hy
        have := hA.1 y hy
        rcases List.mem_cons.1 ((h y).1 (by simp [hy])) with e | h1
        · omega
        · exact h1
      · intro hy
        have := hB.1 y hy
        rcases List.mem_cons.1 ((h y).2 (by simp [hy])) with e | h1
        · omega
        · exact h1)
    rw [this]
theorem get_pw {l : List Int} (h : l.Pairwise (· ≤ ·)) {i j : Nat} (hij : i ≤ j) (hj : j < l.length) : l.toArray[i]! ≤ l.toArray[j]! := by
  rw [getElem!_pos l.toArray i (by simp; omega), getElem!_pos l.toArray j (by simpa using hj)]
  simp only [List.getElem_toArray]
  by_cases e : i = j
  · subst e
    exact Int.le_refl _
  · exact List.pairwise_iff_getElem.1 h i j (by omega) hj (by omega)
theorem compactUpTo_sorted {l : List Int} (h : l.Pairwise (· ≤ ·)) : ∀ m, m ≤ l.length →
    (compactUpTo l.toArray m).Pairwise (· < ·) ∧ (∀ y, y ∈ compactUpTo l.toArray m ↔ ∃ j, j < m ∧ l.toArray[j]! = y)
  | 0, _ => by
    unfold compactUpTo
    simp
  | m + 1, hm => by
    obtain ⟨h1, h2⟩ := compactUpTo_sorted h m (by omega)
    rw [compactUpTo_succ]
    by_cases hk : keeps l.toArray m = true
    · rw [if_pos hk]
      constructor
      · rw [List.pairwise_append]
        refine ⟨h1, by simp, fun a ha b hb => ?_⟩
        obtain ⟨j, hj, rfl⟩ := (h2 a).1 ha
        simp only [List.mem_singleton] at hb
        subst hb
        have hk' : m = 0 ∨ l.toArray[m]! ≠ l.toArray[m - 1]! := by simpa [keeps] using hk
        have l1 := get_pw h (show j ≤ m - 1 by omega) (by omega)
        have l2 := get_pw h (show m - 1 ≤ m by omega) (by omega)
        rcases hk' with e | e
        · omega
        · omega
      · intro y
        rw [List.mem_append, h2]
        simp only [List.mem_singleton]
        constructor
        · rintro (⟨j, hj, e⟩ | e)
          · exact ⟨j, by omega, e⟩
          · exact ⟨m, by omega, e.symm⟩
        · rintro ⟨j, hj, e⟩
          by_cases hjm : j = m
          · subst hjm
            exact .inr e.symm
          · exact .inl ⟨j, by omega, e⟩
    · rw [if_neg hk, List.append_nil]
      refine ⟨h1, fun y => ?_⟩
      rw [h2]
      have hk' : ¬ (m = 0 ∨ l.toArray[m]! ≠ l.toArray[m - 1]!) := by simpa [keeps] using hk
      constructor
      · rintro ⟨j, hj, e⟩
        exact ⟨j, by omega, e⟩
      · rintro ⟨j, hj, e⟩
        by_cases hjm : j = m
        · subst hjm
          refine ⟨j - 1, by omega, ?_⟩
          rw [← e]
          by_cases e2 : l.toArray[j]! = l.toArray[j - 1]!
          · exact e2.symm
          · exact absurd (.inr e2) hk'
        · exact ⟨j, by omega, e⟩
theorem compact_pw {l : List Int} (h : l.Pairwise (· ≤ ·)) : (Go.Lib.compact l).Pairwise (· < ·) := (compactUpTo_sorted h l.length (Nat.le_refl _)).1
theorem compact_mem {l : List Int} (h : l.Pairwise (· ≤ ·)) (y : Int) : y ∈ Go.Lib.compact l ↔ y ∈ l := by
  unfold Go.Lib.compact
  rw [(compactUpTo_sorted h l.length (Nat.le_refl _)).2 y]
  constructor
  · rintro ⟨j, hj, rfl⟩
    rw [getElem!_pos l.toArray j (by simpa using hj)]
    simp
  · intro hy
    obtain ⟨j, hj, rfl⟩ := List.getElem_of_mem hy
    exact ⟨j, hj, by rw [getElem!_pos l.toArray j (by simpa using hj)]; simp⟩
def ordL (l : List Int) : List Int := Go.Lib.compact (msort l)
theorem ordL_pw (l : List Int) : (ordL l).Pairwise (· < ·) := compact_pw (msort_pw l)
theorem ordL_mem (l : List Int) (y : Int) : y ∈ ordL l ↔ y ∈ l := by unfold ordL; rw [compact_mem (msort_pw l), msort_mem]
theorem ordL_len (l : List Int) : (ordL l).length ≤ l.length := by
  have := compact_len (msort l)
  rw [msort_length] at this
  exact this
end CC
