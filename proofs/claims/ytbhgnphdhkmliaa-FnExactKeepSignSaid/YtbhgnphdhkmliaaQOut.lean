/- Places taken out: what the reference answers, in plain Lean. -/
import Derived.Test.YtbhgnphdhkmliaaQPut
import Derived.Test.YtbhgnphdhkmliaaQDigits
import Derived.Test.YtbhgnphdhkmliaaQWord
import Derived.Test.YtbhgnphdhkmliaaQPlace
import Derived.Test.YtbhgnphdhkmliaaHOut1
import Derived.Test.YtbhgnphdhkmliaaFSums
set_option linter.unusedVariables false
set_option linter.unusedSimpArgs false
namespace Go.Proofs.Ytbhgnphdhkmliaa.Q
open Go.RowKit Go.Proofs.Ytbhgnphdhkmliaa.P Go.Proofs.YtbhgnphdhkmliaaW.PrintWords CC

theorem l03Place_ev (s : List Int) {c : List Int} (hcl : c.length ≤ 1048576) (i : Int) : Ev (fun k => spec_l03Place.f k s c i) (if rCode s c [] = 0 then if 0 ≤ i ∧ i < s.length then 0 else 2 else rCode s c []) := by
  unfold spec_l03Place.f
  refine Ev.bind (l01Given_ev s hcl) ?_
  by_cases h : rCode s c [] = 0
  · have hs := (rCode_zero h).1
    have hl := isSp_len hs
    refine Ev.iff_pos h ?_
    have e1 : wrap64 ((s.length : Int) - 1) = (s.length : Int) - 1 := wrap_id (by omega) (by omega)
    rw [e1]
    refine Ev.bindc (l01In_eq _ _ _) ?_
    rw [if_pos h, h]
    by_cases hp : 0 ≤ i ∧ i < s.length
    · refine Ev.iff_pos (by rw [decide_eq_true (by omega)]) ?_
      rw [if_pos hp]
      exact Ev.now _
    · refine Ev.iff_neg (by rw [decide_eq_false (by omega)]; simp) ?_
      rw [if_neg hp]
      exact Ev.now _
  · refine Ev.iff_neg h ?_
    rw [if_neg h]
    exact Ev.now _
theorem l03Without_eq {s : List Int} (hl : s.length ≤ 8) {n : Nat} (hn : n < s.length) : spec_l03Without.f s (n : Int) = some (s.eraseIdx n) := by
  unfold spec_l03Without.f
  have e1 : wrap64 ((n : Int) + 1) = ((n + 1 : Nat) : Int) := wrap_nat (by unfold maxLen; omega)
  have h1 : (s.take n).length ≤ 8 := by rw [List.length_take]; omega
  have h2 : (s.drop (n + 1)).length ≤ 8 := by rw [List.length_drop]; omega
  rw [e1, if_pos (by omega), if_pos (by omega), Int.toNat_natCast, Int.toNat_natCast, l01Own_eq _ (by omega)]
  simp only [Option.bind_some]
  rw [if_pos (by omega), if_pos (by omega), if_pos (by omega), List.eraseIdx_eq_take_drop_succ]
theorem outW_wd {s : List Int} (hs : isSp s = true) {n : Nat} (hn : n < s.length) (x : Int) : outW s n x = wd (s.eraseIdx n) ((dg s x).eraseIdx n) := by
  have hl := isSp_len hs
  have hd := dg_length s x
  unfold outW wd
  rw [dig8_eq hl, List.eraseIdx_append_of_lt_length (by omega), List.append_assoc, hor_pad (by rw [List.length_eraseIdx_of_lt (by omega), List.length_eraseIdx_of_lt hn, hd])]
/-- Is a word one of those that are asked for: all, or those with a sign at a place? -/
def selW (s : List Int) (n : Nat) (d x : Int) : Bool := decide (d < 0) || (rd (dg s x) (n : Int) == d)
theorem l03Out_l {s c : List Int} (hs : isSp s = true) (hc : isC s c = true) {n : Nat} (hn : n < s.length) (h2 : 2 ≤ s.length) (d : Int) : ∀ (k m : Nat), m + k = c.length →
    Ev (fun j => spec_l03Out.l0 j c (n : Int) d (ordL (((c.take m).filter (selW s n d)).map (outW s n))) (c.length : Int) (m : Int) s (s.eraseIdx n)) (ordL ((c.filter (selW s n d)).map (outW s n)))
  | 0, m, hm => by
    refine Ev.step (fun k => by simp only [spec_l03Out.l0]; exact rfl) ?_
    refine Ev.iff_neg (by omega) ?_
    rw [List.take_of_length_le (by omega)]
    exact Ev.now _
  | k + 1, m, hm => by
    have hlt : m < c.length := by omega
    have hl := isC_len hs hc
    have ih := l03Out_l hs hc hn h2 d k (m + 1) (by omega)
    rw [take_rd8 hlt, List.filter_append, List.map_append] at ih
    have hol := ordL_len (((c.take m).filter (selW s n d)).map (outW s n))
    have hl2 : ((c.take m).filter (selW s n d)).length ≤ 1024 := Nat.le_trans (List.length_filter_le _ _) (Nat.le_trans (List.length_take_le _ _) (by omega))
    rw [List.length_map] at hol
    have hdl := dg_length s (rd c (m : Int))
    have hdi := inR_dg (isSp_all hs) (rd c (m : Int))
    have hsl := isSp_len hs
    have hse := isSp_erase hs n h2
    have e1 : wrap64 ((n : Int) + 1) = ((n + 1 : Nat) : Int) := wrap_nat (by unfold maxLen; omega)
    refine Ev.step (fun k => by simp only [spec_l03Out.l0]; exact rfl) ?_
    refine Ev.iff_pos (by omega) (Ev.iff_pos (by omega) (Ev.iff_pos (by omega) ?_))
    refine Ev.bind (l01Digits_ev hs (isC_rd hc hlt)) ?_
    generalize hx : rd c (m : Int) = x at *
    have hyes : selW s n d x = true → Ev (fun j => spec_l03Out.j1 j c (n : Int) d (ordL (((c.take m).filter (selW s n d)).map (outW s n))) (dg s x) (c.length : Int) (m : Int) true s (s.eraseIdx n)) (ordL ((c.filter (selW s n d)).map (outW s n))) := by
      intro hsel
      have hf : List.filter (selW s n d) [x] = [x] := by simp [List.filter, hsel]
      rw [hf] at ih
      refine Ev.step (fun k => by simp only [spec_l03Out.j1]; exact rfl) ?_
      refine Ev.iff_pos (by first | rfl | trivial) ?_
      refine Ev.iff_pos (by omega) (Ev.iff_pos (by omega) ?_)
      rw [Int.toNat_natCast, e1]
      refine Ev.bindc (l01Own_eq _ (by rw [List.length_take]; omega)) ?_
      refine Ev.iff_pos (by omega) (Ev.iff_pos (by omega) ?_)
      rw [Int.toNat_natCast]
      refine Ev.bindc rfl ?_
      refine Ev.iff_pos (by rw [List.length_take, List.length_drop]; omega) ?_
      rw [← List.eraseIdx_eq_take_drop_succ]
      refine Ev.bind (l01Word_ev (isSp_all hse) (isSp_len hse) (by rw [List.length_eraseIdx_of_lt (by omega), List.length_eraseIdx_of_lt hn, hdl]) (inR_erase _ _ n hdi)) ?_
      refine Ev.bind (l01Put_ev (ordL_pw _) (by omega) _) ?_
      rw [wrap_nat (by unfold maxLen; omega), ordL_put, ← outW_wd hs hn]
      exact ih
    have hno : selW s n d x = false → Ev (fun j => spec_l03Out.j1 j c (n : Int) d (ordL (((c.take m).filter (selW s n d)).map (outW s n))) (dg s x) (c.length : Int) (m : Int) false s (s.eraseIdx n)) (ordL ((c.filter (selW s n d)).map (outW s n))) := by
      intro hsel
      have hf : List.filter (selW s n d) [x] = [] := by simp [List.filter, hsel]
      rw [hf, List.map_nil, List.append_nil] at ih
      refine Ev.step (fun k => by simp only [spec_l03Out.j1]; exact rfl) ?_
      refine Ev.iff_neg (by simp) ?_
      rw [wrap_nat (by unfold maxLen; omega)]
      exact ih
    by_cases hd : d < 0
    · refine Ev.iff_pos hd ?_
      exact hyes (by simp [selW, hd])
    · refine Ev.iff_neg hd (Ev.iff_pos (by omega) (Ev.iff_pos (by omega) ?_))
      by_cases he : rd (dg s x) (n : Int) = d
      · have : (rd (dg s x) (n : Int) == d) = true := by simpa using he
        rw [this]
        exact hyes (by simp [selW, he])
      · have : (rd (dg s x) (n : Int) == d) = false := by simpa using he
        rw [this]
        exact hno (by simp [selW, he, hd])
theorem l03Out_ev {s c : List Int} (hs : isSp s = true) (hc : isC s c = true) {n : Nat} (hn : n < s.length) (h2 : 2 ≤ s.length) (d : Int) :
    Ev (fun k => spec_l03Out.f k s c (n : Int) d) (ordL ((c.filter (selW s n d)).map (outW s n))) := by
  unfold spec_l03Out.f
  refine Ev.bindc (l03Without_eq (isSp_len hs) hn) ?_
  have := l03Out_l hs hc hn h2 d c.length 0 (by omega)
  rw [List.take_zero, List.filter_nil, List.map_nil, ordL_asc List.Pairwise.nil] at this
  exact this
end Go.Proofs.Ytbhgnphdhkmliaa.Q
