/- Is a list a code? What the reference and the program answer, in plain Lean. -/
import Derived.Test.YtogafggccinciaaDoorQWords
import Derived.Test.YtogafggccinciaaDoorFCode
set_option linter.unusedVariables false
set_option linter.unusedSimpArgs false
namespace Go.Proofs.YtogafggccinciaaDoor.Q
open Go.RowKit Go.Proofs.YtogafggccinciaaDoor.P Go.Proofs.YtogafggccinciaaDoorW.PrintWords CC

theorem prev_nat {n : Nat} (h : n < maxLen) : wrap64 (((n + 1 : Nat) : Int) - 1) = (n : Int) := by
  unfold maxLen at h
  unfold wrap64
  omega

theorem l01Code_l {s c : List Int} (hs : isSp s = true) (hc : c.length ≤ 1048576) : ∀ (m n : Nat), n + 1 + m = c.length →
    Ev (fun k => spec_l01Code.l0 k c ((n + 1 : Nat) : Int) s) ((c.drop (n + 1)).all (isW s) && asc (c.drop n))
  | 0, n, hm => by
    rw [drop_cons c (show n < c.length by omega), drop_all (s := c) (n := n + 1) (by omega)]
    refine Ev.step (f := fun k => some true) (fun k => ?_) (by simpa [asc] using Ev.now _)
    simp only [spec_l01Code.l0]
    rw [if_neg (by omega)]
  | m + 1, n, hm => by
    have hn : n < c.length := by omega
    have hn2 : n + 1 < c.length := by omega
    rw [drop_cons c hn, drop_cons c hn2, List.all_cons]
    refine Ev.step (fun k => by simp only [spec_l01Code.l0]; exact rfl) ?_
    refine Ev.iff_pos (by omega) (Ev.iff_pos (by omega) (Ev.bind (l01N_sp hs) (Ev.bindc (isW_in hs _) ?_)))
    cases h : isW s (rd c ((n + 1 : Nat) : Int)) with
    | false => simpa using Ev.now _
    | true =>
      rw [asc, Bool.true_and]
      refine Ev.iff_pos rfl (Ev.iff_pos (by omega) ?_)
      rw [prev_nat (by unfold maxLen; omega)]
      refine Ev.iff_pos (by omega) (Ev.iff_pos (by omega) ?_)
      by_cases hlt : rd c (n : Int) < rd c ((n + 1 : Nat) : Int)
      · refine Ev.iff_neg (by omega) ?_
        rw [wrap_nat (by unfold maxLen; omega)]
        have := l01Code_l hs hc m (n + 1) (by omega)
        rw [drop_cons c hn2] at this
        rw [decide_eq_true hlt, Bool.true_and]
        exact this
      · refine Ev.iff_pos (by omega) ?_
        rw [decide_eq_false hlt, Bool.false_and, Bool.and_false]
        exact Ev.now _

theorem l01Code_ev {s c : List Int} (hs : isSp s = true) (hc : c.length ≤ 1048576) : Ev (fun k => spec_l01Code.f k s c) (isC s c) := by
  unfold spec_l01Code.f isC
  cases c with
  | nil =>
    refine Ev.step (f := fun k => some true) (fun k => ?_) (Ev.now _)
    simp only [spec_l01Code.l0]
    rw [if_neg (by simp)]
  | cons a t =>
    refine Ev.step (fun k => by simp only [spec_l01Code.l0]; exact rfl) ?_
    refine Ev.iff_pos (by simp only [List.length_cons]; omega) (Ev.iff_pos (by omega) (Ev.bind (l01N_sp hs) (Ev.bindc (isW_in hs _) ?_)))
    have e : rd (a :: t) 0 = a := by simp [rd]
    rw [e, List.all_cons]
    cases h : isW s a with
    | false => simpa using Ev.now _
    | true =>
      refine Ev.iff_pos rfl (Ev.iff_neg (by omega) ?_)
      have := l01Code_l hs hc t.length 0 (by simp only [List.length_cons]; omega)
      rw [show wrap64 (0 + 1) = ((0 + 1 : Nat) : Int) from by simp [wrap64], Bool.true_and]
      simpa using this

theorem isCode_l {c : List Int} (hc : c.length ≤ 1048576) : ∀ (m n : Nat), n + 1 + m = c.length →
    Ev (fun k => impl_isCode.l0 k c ((n + 1 : Nat) : Int)) (asc (c.drop n))
  | 0, n, hm => by
    rw [drop_cons c (show n < c.length by omega), drop_all (s := c) (n := n + 1) (by omega)]
    refine Ev.step (f := fun k => some true) (fun k => ?_) (by simpa [asc] using Ev.now _)
    simp only [impl_isCode.l0]
    rw [if_neg (by omega)]
  | m + 1, n, hm => by
    have hn : n < c.length := by omega
    have hn2 : n + 1 < c.length := by omega
    rw [drop_cons c hn, drop_cons c hn2]
    refine Ev.step (fun k => by simp only [impl_isCode.l0]; exact rfl) ?_
    refine Ev.iff_pos (by omega) (Ev.iff_pos (by omega) ?_)
    rw [prev_nat (by unfold maxLen; omega)]
    refine Ev.iff_pos (by omega) (Ev.iff_pos (by omega) ?_)
    rw [asc]
    by_cases hlt : rd c (n : Int) < rd c ((n + 1 : Nat) : Int)
    · refine Ev.iff_neg (by omega) ?_
      rw [wrap_nat (by unfold maxLen; omega)]
      have := isCode_l hc m (n + 1) (by omega)
      rw [drop_cons c hn2] at this
      rw [decide_eq_true hlt, Bool.true_and]
      exact this
    · refine Ev.iff_pos (by omega) ?_
      rw [decide_eq_false hlt, Bool.false_and]
      exact Ev.now _

theorem isCode_ev {s c : List Int} (hs : isSp s = true) (hc : c.length ≤ 1048576) : Ev (fun k => impl_isCode.f k s c) (isC s c) := by
  unfold impl_isCode.f
  refine Ev.bind (count_sp hs) ?_
  by_cases hlen : (c.length : Int) > prd s
  · have : isC s c = false := by
      cases h : isC s c with
      | false => rfl
      | true =>
        have := isC_length hs h
        omega
    rw [this]
    refine Ev.iff_pos hlen ?_
    refine Ev.step (f := fun k => some false) (fun k => ?_) (Ev.now _)
    simp [impl_isCode.j0]
  · refine Ev.iff_neg hlen (Ev.bind (areWords_ev hs hc) ?_)
    unfold isC
    cases h : c.all (isW s) with
    | false =>
      refine Ev.step (f := fun k => some false) (fun k => ?_) (Ev.now _)
      simp [impl_isCode.j0]
    | true =>
      refine Ev.step (f := fun k => impl_isCode.l0 k c 1) (fun k => ?_) ?_
      · simp [impl_isCode.j0]
      · rw [Bool.true_and]
        cases c with
        | nil =>
          refine Ev.step (f := fun k => some true) (fun k => ?_) (Ev.now _)
          simp [impl_isCode.l0]
        | cons a t =>
          have := isCode_l hc t.length 0 (by simp only [List.length_cons]; omega)
          simpa using this

end Go.Proofs.YtogafggccinciaaDoor.Q
