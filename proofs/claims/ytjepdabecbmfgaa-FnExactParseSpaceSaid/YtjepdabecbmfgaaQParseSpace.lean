/- ParseSpace: what the reference and the program answer, in plain Lean. -/
import Derived.Test.YtjepdabecbmfgaaQBase
import Derived.Test.YtjepdabecbmfgaaFspecParseSpace
import Derived.Test.YtjepdabecbmfgaaFimplParseSpace
set_option linter.unusedVariables false
set_option linter.unusedSimpArgs false
namespace Go.Proofs.Ytjepdabecbmfgaa.Q
open Go.RowKit Go.Proofs.Ytjepdabecbmfgaa.P Go.Proofs.YtjepdabecbmfgaaW.PrintWords CC

/-- The digits that the first bytes of a text spell. -/
def btl (a : ByteArray) (n : Nat) : List Int := (List.range n).map fun (i : Nat) => bt a (i : Int) - 48
theorem btl_length (a : ByteArray) (n : Nat) : (btl a n).length = n := by simp [btl]
theorem btl_succ (a : ByteArray) (n : Nat) : btl a (n + 1) = btl a n ++ [bt a (n : Int) - 48] := by simp [btl, List.range_succ]
theorem bt_wrap (a : ByteArray) (i : Int) : wrap64 (wrap64 (bt a i) - 48) = bt a i - 48 := by
  have h := bt_range a i
  rw [wrap_id (x := bt a i) (by omega) (by omega), wrap_id (by omega) (by omega)]

def rParseSpace (a : ByteArray) : List Int × Int := if isSp (btl a a.size) then (btl a a.size, 0) else ([], 6)
theorem rParseSpace_len (a : ByteArray) : (rParseSpace a).1.length ≤ 8 := by
  unfold rParseSpace
  by_cases h : isSp (btl a a.size) = true
  · rw [if_pos h]
    exact isSp_len h
  · rw [if_neg h]
    simp

theorem l01ReadSpace_l (a : ByteArray) (ha : a.size ≤ 1048576) : ∀ (m n : Nat), n + m = a.size →
    Ev (fun k => spec_l01ReadSpace.l0 k a (n : Int) (btl a n)) (btl a a.size, isSp (btl a a.size))
  | 0, n, hm => by
    have : n = a.size := by omega
    subst this
    refine Ev.step (f := fun k => (spec_l01Is.f k (btl a a.size)).bind fun t178 => (some (btl a a.size, t178))) (fun k => ?_) (Ev.bind (l01Is_ev _) (Ev.now _))
    simp only [spec_l01ReadSpace.l0]
    rw [if_neg (by omega)]
  | m + 1, n, hm => by
    refine Ev.step (f := fun k => spec_l01ReadSpace.l0 k a ((n + 1 : Nat) : Int) (btl a (n + 1))) (fun k => ?_) (l01ReadSpace_l a ha m (n + 1) (by omega))
    simp only [spec_l01ReadSpace.l0]
    rw [if_pos (by omega), if_pos (by omega), if_pos (by rw [btl_length]; omega), bt_wrap, wrap_nat (by unfold maxLen; omega), btl_succ]

theorem specReadSpace_ev {a : ByteArray} (ha : a.size ≤ 1048576) : Ev (fun k => spec_l01ReadSpace.f k a) (btl a a.size, isSp (btl a a.size)) := by
  unfold spec_l01ReadSpace.f
  simpa [btl] using l01ReadSpace_l a ha a.size 0 (by omega)

theorem specParseSpace_ev {a : ByteArray} (ha : a.size ≤ 1048576) : Ev (fun k => spec_ParseSpace.f k a) (rParseSpace a) := by
  unfold spec_ParseSpace.f rParseSpace
  refine Ev.bind (specReadSpace_ev ha) ?_
  by_cases h : isSp (btl a a.size) = true
  · simp only [h, if_true]
    exact Ev.now _
  · simp only [h, if_false]
    exact Ev.now _

theorem implParseSpace_l (a : ByteArray) (ha : a.size ≤ 8) : ∀ (m n : Nat), n + m = a.size →
    Ev (fun k => impl_ParseSpace.l0 k a (a.size : Int) (n : Int) (btl a n)) (rParseSpace a)
  | 0, n, hm => by
    have : n = a.size := by omega
    subst this
    refine Ev.step (fun k => by simp only [impl_ParseSpace.l0]; exact rfl) (Ev.iff_neg (by omega) (Ev.bind (isSpace_ev _) ?_))
    unfold rParseSpace
    by_cases h : isSp (btl a a.size) = true
    · simp only [h, if_true]
      exact Ev.now _
    · simp only [h, if_false]
      exact Ev.now _
  | m + 1, n, hm => by
    refine Ev.step (f := fun k => impl_ParseSpace.l0 k a (a.size : Int) ((n + 1 : Nat) : Int) (btl a (n + 1))) (fun k => ?_) (implParseSpace_l a ha m (n + 1) (by omega))
    simp only [impl_ParseSpace.l0]
    rw [if_pos (by omega), if_pos (by omega), if_pos (by omega), if_pos (by rw [btl_length]; omega), bt_wrap, wrap_nat (by unfold maxLen; omega), btl_succ]

theorem implParseSpace_ev (a : ByteArray) : Ev (fun k => impl_ParseSpace.f k a) (rParseSpace a) := by
  unfold impl_ParseSpace.f
  by_cases h : (a.size : Int) > 8
  · refine Ev.iff_pos h ?_
    have : isSp (btl a a.size) = false := by
      have : ¬ (btl a a.size).length ≤ 8 := by rw [btl_length]; omega
      simp [isSp, this]
    unfold rParseSpace
    simp only [this]
    exact Ev.now _
  · refine Ev.iff_neg h ?_
    simpa [btl] using implParseSpace_l a (by omega) a.size 0 (by omega)
end Go.Proofs.Ytjepdabecbmfgaa.Q
