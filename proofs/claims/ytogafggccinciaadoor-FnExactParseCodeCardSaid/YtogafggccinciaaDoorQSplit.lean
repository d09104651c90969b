/- Pieces of a text between commas: what the reference's l01Split answers is what strings.Split answers. -/
import Derived.Test.YtogafggccinciaaDoorQBase
import Derived.Test.YtogafggccinciaaDoorHSplit
import Derived.Test.YtogafggccinciaaDoorFspecl01Split
import Derived.Lib.IndexBytes
import Derived.Lib.SplitLaws
set_option linter.unusedVariables false
set_option linter.unusedSimpArgs false
namespace Go.Proofs.YtogafggccinciaaDoor.Q
open Go.RowKit Go.Proofs.YtogafggccinciaaDoor.P Go.Proofs.YtogafggccinciaaDoorW.PrintWords CC
abbrev comma : ByteArray := ⟨#[44]⟩
/-- The pieces of a text. -/
def pcs (B : ByteArray) : List ByteArray := Go.Lib.splitB comma 0 (Go.Lib.countB B comma) B
theorem pcs_miss {B : ByteArray} (h : Go.Lib.indexB B comma = -1) : pcs B = [B] := Go.Lib.splitB_miss comma 0 _ B h
theorem pcs_hit {B : ByteArray} {i : Nat} (h : Go.Lib.indexB B comma = i) : pcs B = B.extract 0 i :: pcs (B.extract (i + 1) B.size) := by
  unfold pcs
  rw [Go.Lib.countB_hit B comma i (Nat.le_refl _) h, Nat.add_comm 1, Go.Lib.splitB_hit comma 0 _ B i h]
  rfl
theorem pcs_len (B : ByteArray) : (pcs B).length ≤ B.size + 1 := by
  unfold pcs
  rw [Go.Lib.splitB_all comma (Nat.le_refl _) 0 _ B rfl]
  have := Go.Lib.countB_le comma (Nat.le_refl _) B.size B (Nat.le_refl _)
  omega
theorem idx_eq (B : ByteArray) : Go.Lib.indexB B comma = Go.Lib.indexByte B.data.toList 44 := by
  show Go.Lib.index B.data.toList [44] = _
  rw [Go.Lib.index_one]
theorem idx_at {B : ByteArray} {j : Nat} (h0 : ∀ k : Nat, k < j → B.data.toList[k]? ≠ some 44) (h1 : B.data.toList[j]? = some 44) : Go.Lib.indexB B comma = j := by
  rw [idx_eq]
  have hge := Go.Lib.indexByte_ge B.data.toList 44
  by_cases h : Go.Lib.indexByte B.data.toList 44 = -1
  · exact absurd h1 (Go.Lib.indexByte_none h j)
  · obtain ⟨o, ho⟩ : ∃ o : Nat, Go.Lib.indexByte B.data.toList 44 = o := ⟨(Go.Lib.indexByte B.data.toList 44).toNat, by omega⟩
    obtain ⟨a, b⟩ := Go.Lib.indexByte_some ho
    rw [ho]
    by_cases hlt : o < j
    · exact absurd a (h0 o hlt)
    · by_cases hgt : j < o
      · exact absurd h1 (b j hgt)
      · have : o = j := by omega
        rw [this]
theorem idx_none {B : ByteArray} (h0 : ∀ k : Nat, B.data.toList[k]? ≠ some 44) : Go.Lib.indexB B comma = -1 := by
  rw [idx_eq]
  have hge := Go.Lib.indexByte_ge B.data.toList 44
  by_cases h : Go.Lib.indexByte B.data.toList 44 = -1
  · exact h
  · obtain ⟨o, ho⟩ : ∃ o : Nat, Go.Lib.indexByte B.data.toList 44 = o := ⟨(Go.Lib.indexByte B.data.toList 44).toNat, by omega⟩
    exact absurd (Go.Lib.indexByte_some ho).1 (h0 o)
theorem ext_get (T : ByteArray) (a k : Nat) : (T.extract a T.size).data.toList[k]? = T.data.toList[a + k]? := by
  rw [Go.Lib.extract_to_end, List.getElem?_drop]
theorem bt_comma (T : ByteArray) (n : Nat) (hn : n < T.size) : bt T (n : Int) = 44 ↔ T.data.toList[n]? = some 44 := by
  have h : T.data.toList[n]? = some (T[n]'hn) := by
    rw [List.getElem?_eq_getElem (by simpa using hn)]
    rfl
  rw [h]
  unfold bt
  simp only [Int.toNat_natCast, hn, dite_true, Option.some.injEq]
  constructor
  · intro e
    apply UInt8.toNat_inj.1
    have : ((T[n]'hn).toNat : Int) = 44 := e
    show (T[n]'hn).toNat = 44
    omega
  · intro e
    rw [e]
    rfl
theorem split_l {T : ByteArray} (hT : T.size ≤ 1048576) : ∀ (m n a : Nat) (acc : List ByteArray), n + m = T.size → a ≤ n → acc.length ≤ n → (∀ k : Nat, a ≤ k → k < n → T.data.toList[k]? ≠ some 44) →
    Ev (fun k => spec_l01Split.l0 k T 44 acc (a : Int) (n : Int)) (acc ++ pcs (T.extract a T.size))
  | 0, n, a, acc, hm, ha, hl, h0 => by
    have hp : pcs (T.extract a T.size) = [T.extract a T.size] := by
      refine pcs_miss (idx_none fun k => ?_)
      rw [ext_get]
      by_cases hk : a + k < n
      · exact h0 (a + k) (by omega) hk
      · rw [List.getElem?_eq_none (by rw [← Go.Lib.size_eq]; omega)]
        simp
    rw [hp]
    refine Ev.step (fun k => by simp only [spec_l01Split.l0]; exact rfl) ?_
    refine Ev.iff_neg (by omega) (Ev.iff_pos (by omega) (Ev.iff_pos (by omega) (Ev.iff_pos (by omega) ?_)))
    rw [Int.toNat_natCast]
    exact Ev.now _
  | m + 1, n, a, acc, hm, ha, hl, h0 => by
    have hn : n < T.size := by omega
    refine Ev.step (fun k => by simp only [spec_l01Split.l0]; exact rfl) ?_
    refine Ev.iff_pos (by omega) (Ev.iff_pos (by omega) ?_)
    by_cases hc : bt T (n : Int) = 44
    · have hc2 := (bt_comma T n hn).1 hc
      have hi : Go.Lib.indexB (T.extract a T.size) comma = ((n - a : Nat) : Int) := by
        refine idx_at (fun k hk => ?_) ?_
        · rw [ext_get]
          exact h0 (a + k) (by omega) (by omega)
        · rw [ext_get, show a + (n - a) = n by omega]
          exact hc2
      have e1 : (T.extract a T.size).extract 0 (n - a) = T.extract a n := by
        rw [ByteArray.extract_extract]
        congr 1 <;> omega
      have e2 : (T.extract a T.size).extract (n - a + 1) (T.extract a T.size).size = T.extract (n + 1) T.size := by
        rw [ByteArray.extract_extract, ByteArray.size_extract]
        congr 1 <;> omega
      rw [pcs_hit hi, e1, e2]
      have ih := split_l hT m (n + 1) (n + 1) (acc ++ [T.extract a n]) (by omega) (Nat.le_refl _) (by rw [List.length_append, List.length_singleton]; omega) (fun k h1 h2 => by omega)
      refine Ev.iff_pos hc (Ev.iff_pos (by omega) (Ev.iff_pos (by omega) (Ev.iff_pos (by omega) (Ev.iff_pos (by omega) ?_))))
      rw [wrap_nat (by unfold maxLen; omega), Int.toNat_natCast, Int.toNat_natCast]
      rw [List.append_assoc] at ih
      exact ih
    · have ih := split_l hT m (n + 1) a acc (by omega) (by omega) (by omega) (fun k h1 h2 => by
        by_cases hk : k = n
        · subst hk
          exact fun z => hc ((bt_comma T k hn).2 z)
        · exact h0 k h1 (by omega))
      refine Ev.iff_neg hc ?_
      rw [wrap_nat (by unfold maxLen; omega)]
      exact ih
theorem specSplit_ev {T : ByteArray} (hT : T.size ≤ 1048576) : Ev (fun k => spec_l01Split.f k T 44) (pcs T) := by
  unfold spec_l01Split.f
  have h := split_l hT T.size 0 0 [] (by omega) (Nat.le_refl _) (by simp) (fun k _ h => by omega)
  have e : T.extract 0 T.size = T := by simp
  rw [e] at h
  exact h
theorem implSplit_eq {T : ByteArray} (hT : T.size ≤ 1048576) : strings_Split.f T ⟨#[44]⟩ = some (pcs T) := by
  unfold strings_Split.f
  rw [if_pos ⟨rfl, by omega⟩]
  rfl
end Go.Proofs.YtogafggccinciaaDoor.Q
