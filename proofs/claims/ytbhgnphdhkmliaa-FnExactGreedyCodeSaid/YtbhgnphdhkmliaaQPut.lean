/- A number put into a list in order: what the reference's l01Put answers. -/
import Derived.Test.YtbhgnphdhkmliaaQBase
import Derived.Test.YtbhgnphdhkmliaaAsc
import Derived.Test.YtbhgnphdhkmliaaHThose0
import Derived.Test.YtbhgnphdhkmliaaFCode
set_option linter.unusedVariables false
set_option linter.unusedSimpArgs false
namespace Go.Proofs.Ytbhgnphdhkmliaa.Q
open Go.RowKit Go.Proofs.Ytbhgnphdhkmliaa.P Go.Proofs.YtbhgnphdhkmliaaW.PrintWords CC
theorem ordL_of {R l : List Int} (hR : R.Pairwise (· < ·)) (hm : ∀ y, y ∈ R ↔ y ∈ l) : R = ordL l := asc_ext hR (ordL_pw l) (fun y => by rw [hm, ordL_mem])
theorem ordL_put (L : List Int) (x : Int) : ordL (ordL L ++ [x]) = ordL (L ++ [x]) := ordL_of (ordL_pw _) (fun y => by rw [ordL_mem, List.mem_append, List.mem_append, ordL_mem])
theorem ordL_asc {l : List Int} (h : l.Pairwise (· < ·)) : ordL l = l := (ordL_of h (fun _ => Iff.rfl)).symm
theorem asc_pw : ∀ {l : List Int}, asc l = true → l.Pairwise (· < ·)
  | [], _ => List.Pairwise.nil
  | [a], _ => by simp
  | a :: b :: t, h => by
    simp only [asc, Bool.and_eq_true, decide_eq_true_eq] at h
    have ih := asc_pw h.2
    rw [List.pairwise_cons]
    refine ⟨fun y hy => ?_, ih⟩
    rcases List.mem_cons.1 hy with rfl | hy
    · exact h.1
    · have := (List.pairwise_cons.1 ih).1 y hy
      omega
theorem l01Own_eq (l : List Int) (hl : l.length ≤ 1048576) : spec_l01Own.f l = some l := by
  unfold spec_l01Own.f
  simp only [Option.bind_some, List.length_nil, List.nil_append]
  rw [if_pos (by omega)]
theorem mem_take_drop {l : List Int} (n : Nat) (y : Int) : y ∈ l.take n ∨ y ∈ l.drop n ↔ y ∈ l := by
  rw [← List.mem_append, List.take_append_drop]
theorem put_pw {l : List Int} (h : l.Pairwise (· < ·)) {x : Int} {n : Nat} (h1 : ∀ y ∈ l.take n, y < x) (h2 : ∀ y ∈ l.drop n, x < y) : (l.take n ++ [x] ++ l.drop n).Pairwise (· < ·) := by
  rw [← List.take_append_drop n l, List.pairwise_append] at h
  rw [List.append_assoc, List.pairwise_append]
  refine ⟨h.1, ?_, fun a ha b hb => ?_⟩
  · rw [List.singleton_append, List.pairwise_cons]
    exact ⟨h2, h.2.1⟩
  · rcases List.mem_append.1 hb with hb | hb
    · rw [List.mem_singleton] at hb
      subst hb
      exact h1 a ha
    · exact h.2.2 a ha b hb
theorem put_eq {l : List Int} (h : l.Pairwise (· < ·)) {x : Int} {n : Nat} (h1 : ∀ y ∈ l.take n, y < x) (h2 : ∀ y ∈ l.drop n, x < y) : l.take n ++ [x] ++ l.drop n = ordL (l ++ [x]) :=
  ordL_of (put_pw h h1 h2) (fun y => by
    simp only [List.mem_append]
    have := mem_take_drop (l := l) n y
    constructor
    · rintro ((h | h) | h)
      · exact .inl (this.1 (.inl h))
      · exact .inr h
      · exact .inl (this.1 (.inr h))
    · rintro (h | h)
      · rcases this.2 h with h | h
        · exact .inl (.inl h)
        · exact .inr h
      · exact .inl (.inr h))
theorem l01Put_l {l : List Int} (h : l.Pairwise (· < ·)) (hl : l.length ≤ 1048576) (x : Int) : ∀ n, n ≤ l.length → (∀ y ∈ l.drop n, x < y) → Ev (fun k => spec_l01Put.l0 k l x (n : Int)) (ordL (l ++ [x]))
  | 0, hn, hd => by
    refine Ev.step (fun k => by simp only [spec_l01Put.l0]; exact rfl) ?_
    refine Ev.iff_neg (by omega) (Ev.iff_pos (by omega) (Ev.iff_pos (by omega) ?_))
    refine Ev.bindc (l01Own_eq _ (by simp)) ?_
    refine Ev.iff_pos (by simp) ?_
    refine Ev.bindc rfl (Ev.bindc rfl ?_)
    refine Ev.iff_pos (by simp; omega) ?_
    have := put_eq h (x := x) (n := 0) (by simp) hd
    rw [← this]
    exact Ev.now _
  | n + 1, hn, hd => by
    have e1 : wrap64 (((n + 1 : Nat) : Int) - 1) = (n : Int) := by rw [wrap_id (by omega) (by omega)]; omega
    have hdc := drop_cons l (show n < l.length by omega)
    have htk := take_rd8 (d := l) (show n < l.length by omega)
    refine Ev.step (fun k => by simp only [spec_l01Put.l0]; exact rfl) ?_
    rw [e1]
    refine Ev.iff_pos (by omega) (Ev.iff_pos (by omega) (Ev.iff_pos (by omega) ?_))
    by_cases h1 : rd l (n : Int) > x
    · refine Ev.iff_pos h1 ?_
      refine l01Put_l h hl x n (by omega) (fun y hy => ?_)
      rw [hdc] at hy
      rcases List.mem_cons.1 hy with rfl | hy
      · exact h1
      · exact hd y hy
    · refine Ev.iff_neg h1 ?_
      by_cases h2 : rd l (n : Int) = x
      · refine Ev.iff_pos h2 ?_
        have hm : x ∈ l := by
          rw [← mem_take_drop n, hdc, h2]
          simp
        have : ordL (l ++ [x]) = l := (ordL_of h (fun y => by
          rw [List.mem_append, List.mem_singleton]
          constructor
          · exact .inl
          · rintro (h | rfl)
            · exact h
            · exact hm)).symm
        rw [this]
        exact Ev.now _
      · refine Ev.iff_neg h2 (Ev.iff_pos (by omega) (Ev.iff_pos (by omega) ?_))
        have htl : (l.take (n + 1)).length ≤ n + 1 := List.length_take_le _ _
        rw [Int.toNat_natCast]
        refine Ev.bindc (l01Own_eq _ (by omega)) ?_
        refine Ev.iff_pos (by omega) ?_
        refine Ev.bindc rfl (Ev.bindc rfl ?_)
        refine Ev.iff_pos (by rw [List.length_append, List.length_drop, List.length_singleton]; omega) ?_
        have hp : ∀ y ∈ l.take (n + 1), y < x := fun y hy => by
          have hpw := h
          rw [← List.take_append_drop (n + 1) l, List.pairwise_append, htk, List.pairwise_append] at hpw
          rw [htk, List.mem_append, List.mem_singleton] at hy
          rcases hy with hy | rfl
          · have := hpw.1.2.2 y hy (rd l (n : Int)) (by simp)
            omega
          · omega
        rw [← put_eq h hp hd]
        exact Ev.now _
theorem l01Put_ev {l : List Int} (h : l.Pairwise (· < ·)) (hl : l.length ≤ 1048576) (x : Int) : Ev (fun k => spec_l01Put.f k l x) (ordL (l ++ [x])) := by
  unfold spec_l01Put.f
  exact l01Put_l h hl x l.length (Nat.le_refl _) (by simp)
end Go.Proofs.Ytbhgnphdhkmliaa.Q
