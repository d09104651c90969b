/- The text of a space: what the reference and the program answer, in plain Lean. -/
import Derived.Test.YtjepdabecbmfgaaQWord
import Derived.Test.YtjepdabecbmfgaaFspecSpaceText
import Derived.Test.YtjepdabecbmfgaaFimplSpaceText
set_option linter.unusedVariables false
set_option linter.unusedSimpArgs false
namespace Go.Proofs.Ytjepdabecbmfgaa.Q
open Go.RowKit Go.Proofs.Ytjepdabecbmfgaa.P Go.Proofs.YtjepdabecbmfgaaW.PrintWords CC

theorem strOfNums_append (a b : List Int) : strOfNums (a ++ b) = strOfNums a ++ strOfNums b := by
  apply ByteArray.ext
  simp [strOfNums]
theorem strOfNums_nil : strOfNums [] = (⟨#[]⟩ : ByteArray) := by simp [strOfNums]
theorem strOfNums_size (a : List Int) : (strOfNums a).size = a.length := by simp [strOfNums, ByteArray.size]

theorem l01Dec_ev {q : Int} (h0 : 0 ≤ q) (h1 : q ≤ 9) : Ev (fun k => spec_l01Dec.f k q) (strOfNums [48 + q]) := by
  refine Ev.step (f := fun k => some (strOfNums [48 + q])) (fun k => ?_) (Ev.now _)
  simp only [spec_l01Dec.f]
  rw [if_neg (by omega), if_pos (by omega), wrap_id (x := 48 + q) (by omega) (by omega), Int.emod_eq_of_lt (by omega) (by omega)]

/-- The bytes that spell digits. -/
def spell (l : List Int) : List Int := l.map fun q => 48 + q
def rSpaceText (s : List Int) : ByteArray × Int := if isSp s then (strOfNums (spell s), 0) else (⟨#[]⟩, 1)

theorem spell_take (s : List Int) {n : Nat} (hn : n < s.length) : spell (s.take (n + 1)) = spell (s.take n) ++ [48 + rd s (n : Int)] := by
  unfold spell
  rw [List.take_add_one, List.map_append, rd_nat, List.getElem?_eq_getElem hn, List.getD_eq_getElem?_getD, List.getElem?_eq_getElem hn]
  rfl

theorem l01SpaceText_l {s : List Int} (hs : s.all sizeOk = true) (hl : s.length ≤ 8) : ∀ (m n : Nat), n + m = s.length →
    Ev (fun k => spec_l01SpaceText.l0 k (strOfNums (spell (s.take n))) (s.length : Int) (n : Int) s) (strOfNums (spell s))
  | 0, n, hm => by
    rw [List.take_of_length_le (by omega)]
    refine Ev.step (f := fun k => some (strOfNums (spell s))) (fun k => ?_) (Ev.now _)
    simp only [spec_l01SpaceText.l0]
    rw [if_neg (by omega)]
  | m + 1, n, hm => by
    have hn : n < s.length := by omega
    have hq := all_rd hs hn
    refine Ev.step (fun k => by simp only [spec_l01SpaceText.l0]; exact rfl) ?_
    refine Ev.iff_pos (by omega) (Ev.iff_pos (by omega) (Ev.iff_pos (by omega) (Ev.bind (l01Dec_ev (q := rd s (n : Int)) (by omega) (by omega)) ?_)))
    refine Ev.iff_pos ?_ ?_
    · rw [strOfNums_size, strOfNums_size]
      have : (s.take n).length ≤ n := List.length_take_le _ _
      simp [spell]
      omega
    · rw [wrap_nat (by unfold maxLen; omega), ← strOfNums_append, ← spell_take s hn]
      exact l01SpaceText_l hs hl m (n + 1) (by omega)

theorem l01SpaceText_ev {s : List Int} (h : isSp s = true) : Ev (fun k => spec_l01SpaceText.f k s) (strOfNums (spell s)) := by
  unfold spec_l01SpaceText.f
  have := l01SpaceText_l (isSp_all h) (isSp_len h) s.length 0 (by omega)
  simpa [spell, strOfNums_nil] using this

theorem specSpaceText_ev (s : List Int) : Ev (fun k => spec_SpaceText.f k s) (rSpaceText s) := by
  unfold spec_SpaceText.f rSpaceText
  refine Ev.bind (l01Is_ev s) ?_
  by_cases h : isSp s = true
  · simp only [h, if_true]
    exact Ev.bind (l01SpaceText_ev h) (Ev.now _)
  · simp only [h, if_false]
    exact Ev.now _

theorem implspaceText_l {s : List Int} (hs : s.all sizeOk = true) (hl : s.length ≤ 8) : ∀ (m n : Nat), n + m = s.length →
    Ev (fun k => impl_spaceText.l0 k (spell (s.take n)) s (s.length : Int) (n : Int)) (strOfNums (spell s))
  | 0, n, hm => by
    rw [List.take_of_length_le (by omega)]
    refine Ev.step (f := fun k => some (strOfNums (spell s))) (fun k => ?_) (Ev.now _)
    simp only [impl_spaceText.l0]
    rw [if_neg (by omega)]
  | m + 1, n, hm => by
    have hn : n < s.length := by omega
    have hq := all_rd hs hn
    have hlen : (spell (s.take n)).length ≤ n := by simp [spell]; omega
    refine Ev.step (f := fun k => impl_spaceText.l0 k (spell (s.take (n + 1))) s (s.length : Int) ((n + 1 : Nat) : Int)) (fun k => ?_) (implspaceText_l hs hl m (n + 1) (by omega))
    simp only [impl_spaceText.l0]
    rw [if_pos (by omega), if_pos (by omega), if_pos (by omega), if_pos (by omega), wrap_nat (by unfold maxLen; omega), spell_take s hn, wrap_id (x := 48 + rd s (n : Int)) (by omega) (by omega), Int.emod_eq_of_lt (a := 48 + rd s (n : Int)) (by omega) (by omega)]

theorem implspaceText_ev {s : List Int} (h : isSp s = true) : Ev (fun k => impl_spaceText.f k s) (strOfNums (spell s)) := by
  unfold impl_spaceText.f
  have := implspaceText_l (isSp_all h) (isSp_len h) s.length 0 (by omega)
  simpa [spell] using this

theorem implSpaceText_ev (s : List Int) : Ev (fun k => impl_SpaceText.f k s) (rSpaceText s) := by
  unfold impl_SpaceText.f rSpaceText
  refine Ev.bind (isSpace_ev s) ?_
  by_cases h : isSp s = true
  · simp only [h, if_true]
    exact Ev.bind (implspaceText_ev h) (Ev.now _)
  · simp only [h, if_false]
    exact Ev.now _
end Go.Proofs.Ytjepdabecbmfgaa.Q
