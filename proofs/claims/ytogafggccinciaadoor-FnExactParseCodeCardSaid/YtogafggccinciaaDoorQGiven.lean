/- The codes of a space, a code and words: what the reference and the program answer, in plain Lean. -/
import Derived.Test.YtogafggccinciaaDoorQCode
set_option linter.unusedVariables false
set_option linter.unusedSimpArgs false
namespace Go.Proofs.YtogafggccinciaaDoor.Q
open Go.RowKit Go.Proofs.YtogafggccinciaaDoor.P Go.Proofs.YtogafggccinciaaDoorW.PrintWords CC

def rCode (s c ws : List Int) : Int := if rWords s ws = 0 then if isC s c then 0 else 2 else rWords s ws
theorem rCode_zero {s c ws : List Int} (h : rCode s c ws = 0) : isSp s = true ∧ isC s c = true ∧ ∀ x ∈ ws, isW s x = true := by
  unfold rCode at h
  split at h
  · rename_i hw
    obtain ⟨h1, h2⟩ := rWords_zero hw
    split at h
    · rename_i hc
      exact ⟨h1, hc, h2⟩
    · cases h
  · rename_i hw
    exact absurd h hw
theorem rWords_nil (s : List Int) : rWords s [] = if isSp s then 0 else 1 := by
  unfold rWords
  by_cases h : isSp s = true <;> simp [h]
theorem isC_len {s c : List Int} (hs : isSp s = true) (h : isC s c = true) : c.length ≤ 1024 := by
  have := isC_length hs h
  have := isSp_prd hs
  omega
theorem isC_words {s c : List Int} (h : isC s c = true) : ∀ x ∈ c, isW s x = true := by
  simp only [isC, Bool.and_eq_true, List.all_eq_true] at h
  exact h.1
theorem isC_asc {s c : List Int} (h : isC s c = true) : asc c = true := by
  simp only [isC, Bool.and_eq_true] at h
  exact h.2
theorem isC_rd {s c : List Int} (h : isC s c = true) {n : Nat} (hn : n < c.length) : isW s (rd c (n : Int)) = true := by
  have : rd c (n : Int) = c[n] := by simp [rd, List.getD_eq_getElem?_getD, hn]
  rw [this]
  exact isC_words h _ (List.getElem_mem hn)

/-- The words that are such. -/
def selL (p : Int → Bool) (n : Nat) : List Int := ((List.range n).filter fun (i : Nat) => p (i : Int)).map fun (i : Nat) => (i : Int)
theorem selL_succ (p : Int → Bool) (n : Nat) : selL p (n + 1) = selL p n ++ if p (n : Int) then [(n : Int)] else [] := by
  unfold selL
  rw [List.range_succ, List.filter_append, List.map_append]
  congr 1
  by_cases h : p (n : Int) = true <;> simp [h]
theorem selL_len (p : Int → Bool) (n : Nat) : (selL p n).length ≤ n := by
  unfold selL
  have := List.length_filter_le (fun (i : Nat) => p (i : Int)) (List.range n)
  simpa using this
theorem selL_congr {p q : Int → Bool} {n : Nat} (h : ∀ i : Nat, i < n → p (i : Int) = q (i : Int)) : selL p n = selL q n := by
  unfold selL
  congr 1
  apply List.filter_congr
  intro i hi
  exact h i (List.mem_range.1 hi)
theorem mem_selL {p : Int → Bool} {n : Nat} {x : Int} : x ∈ selL p n ↔ 0 ≤ x ∧ x < n ∧ p x = true := by
  unfold selL
  simp only [List.mem_map, List.mem_filter, List.mem_range]
  constructor
  · rintro ⟨i, ⟨h1, h2⟩, rfl⟩
    exact ⟨by omega, by omega, h2⟩
  · rintro ⟨h1, h2, h3⟩
    obtain ⟨m, rfl⟩ := Int.eq_ofNat_of_zero_le h1
    exact ⟨m, ⟨by omega, h3⟩, rfl⟩
/-- How many words there are, as a natural number. -/
def NW (s : List Int) : Nat := (prd s).toNat
theorem NW_eq {s : List Int} (hs : isSp s = true) : ((NW s : Nat) : Int) = prd s := by
  have := isSp_prd1 hs
  unfold NW
  omega
theorem NW_le {s : List Int} (hs : isSp s = true) : NW s ≤ 1024 := by
  have := isSp_prd hs
  unfold NW
  omega
theorem isW_nat {s : List Int} (hs : isSp s = true) {n : Nat} (h : n < NW s) : isW s (n : Int) = true := by
  rw [isW_iff]
  have := NW_eq hs
  omega
end Go.Proofs.YtogafggccinciaaDoor.Q
