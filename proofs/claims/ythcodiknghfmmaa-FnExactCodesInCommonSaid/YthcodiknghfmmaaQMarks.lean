/- Marks of a code's words, in plain Lean. -/
import Derived.Test.YthcodiknghfmmaaQGiven
import Derived.Test.YthcodiknghfmmaaHDig
import Derived.Test.YthcodiknghfmmaaFimplmarks
set_option linter.unusedVariables false
set_option linter.unusedSimpArgs false
namespace Go.Proofs.Ythcodiknghfmmaa.Q
open Go.RowKit Go.Proofs.Ythcodiknghfmmaa.P Go.Proofs.YthcodiknghfmmaaW.PrintWords CC

theorem asc_lt : ∀ (l : List Int) (a : Int), asc (a :: l) = true → ∀ x ∈ l, a < x
  | [], a, _, x, h => by simp at h
  | b :: t, a, h, x, hx => by
    simp only [asc, Bool.and_eq_true, decide_eq_true_eq] at h
    rcases List.mem_cons.1 hx with rfl | hx
    · exact h.1
    · have := asc_lt t b h.2 x hx
      omega
theorem asc_tail {a : Int} {l : List Int} (h : asc (a :: l) = true) : asc l = true := by
  cases l with
  | nil => rfl
  | cons b t =>
    simp only [asc, Bool.and_eq_true] at h
    exact h.2
theorem asc_drop : ∀ (n : Nat) (l : List Int), asc l = true → asc (l.drop n) = true
  | 0, l, h => h
  | n + 1, [], h => by simpa using h
  | n + 1, a :: l, h => by simpa using asc_drop n l (asc_tail h)
/-- The marks of a list's first words. -/
def mk (c : List Int) (P : Nat) : List Bool := (List.range P).map fun (i : Nat) => decide ((i : Int) ∈ c)
theorem mk_length (c : List Int) (P : Nat) : (mk c P).length = P := by simp [mk]
theorem mk_rd (c : List Int) {P n : Nat} (h : n < P) : rdOf false (mk c P) (n : Int) = decide ((n : Int) ∈ c) := by
  simp [rdOf, mk, List.getD_eq_getElem?_getD, h]
theorem mk_set (c : List Int) (P : Nat) (x : Int) (h0 : 0 ≤ x) : (mk c P).set x.toNat true = mk (c ++ [x]) P := by
  apply List.ext_getElem (by simp [mk])
  intro j h1 h2
  simp only [mk, List.getElem_set, List.getElem_map, List.getElem_range]
  by_cases h : x.toNat = j
  · rw [if_pos h]
    have : (j : Int) = x := by omega
    simp [this]
  · rw [if_neg h]
    have : ¬ (j : Int) = x := by omega
    simp [this]
theorem mk_nil (P : Nat) : List.replicate P false = mk [] P := by
  rw [eq_comm, List.eq_replicate_iff]
  simp [mk]
theorem marks_l {c : List Int} {P : Nat} (hc : ∀ x ∈ c, 0 ≤ x ∧ x < P) (hl : c.length ≤ 1048576) : ∀ (m n : Nat), n + m = c.length →
    Ev (fun k => impl_marks.l0 k (mk (c.take n) P) c (c.length : Int) (n : Int)) (mk c P)
  | 0, n, hm => by
    refine Ev.step (fun k => by simp only [impl_marks.l0]; exact rfl) ?_
    refine Ev.iff_neg (by omega) ?_
    rw [List.take_of_length_le (by omega)]
    exact Ev.now _
  | m + 1, n, hm => by
    have hn : n < c.length := by omega
    have hx : 0 ≤ rd c (n : Int) ∧ rd c (n : Int) < P := by
      have : rd c (n : Int) = c[n] := by simp [rd, List.getD_eq_getElem?_getD, hn]
      rw [this]
      exact hc _ (List.getElem_mem hn)
    refine Ev.step (fun k => by simp only [impl_marks.l0]; exact rfl) ?_
    refine Ev.iff_pos (by omega) ?_
    refine Ev.iff_pos (by omega) ?_
    refine Ev.iff_pos (by omega) ?_
    refine Ev.iff_pos hx.1 ?_
    refine Ev.iff_pos (by rw [mk_length]; exact hx.2) ?_
    rw [wrap_nat (by unfold maxLen; omega), mk_set _ _ _ hx.1, ← take_rd c hn]
    exact marks_l hc hl m (n + 1) (by omega)
theorem marks_ev {s c : List Int} (hs : isSp s = true) (hc : isC s c = true) : Ev (fun k => impl_marks.f k s c) (mk c (NW s)) := by
  unfold impl_marks.f
  have hp := isSp_prd hs
  have hN := NW_eq hs
  refine Ev.bind (count_sp hs) ?_
  refine Ev.iff_pos (by omega) ?_
  refine Ev.iff_pos (by omega) ?_
  have := marks_l (c := c) (P := NW s) (fun x hx => by have := (isW_iff s x).1 (isC_words hc x hx); omega) (by have := isC_len hs hc; omega) c.length 0 (by omega)
  rw [List.take_zero, ← mk_nil] at this
  exact this
end Go.Proofs.Ythcodiknghfmmaa.Q
