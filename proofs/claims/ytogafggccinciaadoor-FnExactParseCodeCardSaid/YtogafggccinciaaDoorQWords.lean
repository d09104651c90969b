/- Are numbers words of a space? What the reference and the program answer, in plain Lean. -/
import Derived.Test.YtogafggccinciaaDoorQBase
import Derived.Test.YtogafggccinciaaDoorFCode
set_option linter.unusedVariables false
set_option linter.unusedSimpArgs false
namespace Go.Proofs.YtogafggccinciaaDoor.Q
open Go.RowKit Go.Proofs.YtogafggccinciaaDoor.P Go.Proofs.YtogafggccinciaaDoorW.PrintWords CC

theorem isW_in {s : List Int} (h : isSp s = true) (x : Int) : spec_l01In.f x 0 (wrap64 (prd s - 1)) = some (isW s x) := by
  have h1 := isSp_prd h
  have h2 := isSp_prd1 h
  rw [l01In_eq, wrap_id (by omega) (by omega)]
  unfold isW
  congr 1
  rw [← Bool.decide_and]
  exact decide_eq_decide.2 (by omega)

theorem areWords_l {s c : List Int} (hc : c.length ≤ 1048576) : ∀ (m n : Nat), n + m = c.length →
    Ev (fun k => impl_areWords.l0 k (prd s) c (c.length : Int) (n : Int)) ((c.drop n).all (isW s))
  | 0, n, hm => by
    rw [drop_all (by omega)]
    refine Ev.step (f := fun k => some true) (fun k => ?_) (Ev.now _)
    simp only [impl_areWords.l0]
    rw [if_neg (by omega)]
  | m + 1, n, hm => by
    have hn : n < c.length := by omega
    rw [drop_cons c hn, List.all_cons]
    by_cases h0 : rd c (n : Int) < 0
    · have : isW s (rd c (n : Int)) = false := by simp [isW]; omega
      rw [this, Bool.false_and]
      refine Ev.step (f := fun k => some false) (fun k => ?_) (Ev.now _)
      simp only [impl_areWords.l0]
      rw [if_pos (by omega), if_pos (by omega), if_pos (by omega), if_pos h0]
    by_cases h1 : rd c (n : Int) ≥ prd s
    · have : isW s (rd c (n : Int)) = false := by simp [isW]; omega
      rw [this, Bool.false_and]
      refine Ev.step (f := fun k => some false) (fun k => ?_) (Ev.now _)
      simp only [impl_areWords.l0]
      rw [if_pos (by omega), if_pos (by omega), if_pos (by omega), if_neg h0, if_pos h1]
    · have : isW s (rd c (n : Int)) = true := by simp [isW]; omega
      rw [this, Bool.true_and]
      refine Ev.step (f := fun k => impl_areWords.l0 k (prd s) c (c.length : Int) ((n + 1 : Nat) : Int)) (fun k => ?_) (areWords_l hc m (n + 1) (by omega))
      simp only [impl_areWords.l0]
      rw [if_pos (by omega), if_pos (by omega), if_pos (by omega), if_neg h0, if_neg h1, wrap_nat (by unfold maxLen; omega)]

theorem areWords_ev {s c : List Int} (hs : isSp s = true) (hc : c.length ≤ 1048576) : Ev (fun k => impl_areWords.f k s c) (c.all (isW s)) := by
  unfold impl_areWords.f
  refine Ev.bind (count_sp hs) ?_
  simpa using areWords_l (s := s) hc c.length 0 (by omega)

def rWords (s c : List Int) : Int := if isSp s then if c.all (isW s) then 0 else 2 else 1
theorem rWords_zero {s c : List Int} (h : rWords s c = 0) : isSp s = true ∧ ∀ x ∈ c, isW s x = true := by
  unfold rWords at h
  split at h
  · rename_i hs
    split at h
    · rename_i hc
      exact ⟨hs, List.all_eq_true.1 hc⟩
    · cases h
  · cases h


end Go.Proofs.YtogafggccinciaaDoor.Q
