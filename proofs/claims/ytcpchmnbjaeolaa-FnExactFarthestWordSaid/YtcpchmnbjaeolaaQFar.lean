/- The least distances of all words from a code, in plain Lean. -/
import Derived.Test.YtcpchmnbjaeolaaQTo
import Derived.Test.YtcpchmnbjaeolaaHDig
import Derived.Test.YtcpchmnbjaeolaaHFarness
import Derived.Test.YtcpchmnbjaeolaaFspecl02Full
import Derived.Test.YtcpchmnbjaeolaaFimplsomeCode
set_option linter.unusedVariables false
set_option linter.unusedSimpArgs false
namespace Go.Proofs.Ytcpchmnbjaeolaa.Q
open Go.RowKit Go.Proofs.Ytcpchmnbjaeolaa.P Go.Proofs.YtcpchmnbjaeolaaW.PrintWords CC

def rSome (s c ws : List Int) : Int := if rCode s c ws = 0 then if c.length = 0 then 5 else 0 else rCode s c ws
theorem rSome_zero {s c ws : List Int} (h : rSome s c ws = 0) : isSp s = true ∧ isC s c = true ∧ (∀ x ∈ ws, isW s x = true) ∧ 0 < c.length := by
  unfold rSome at h
  split at h
  · rename_i hw
    obtain ⟨h1, h2, h3⟩ := rCode_zero hw
    split at h
    · cases h
    · exact ⟨h1, h2, h3, by omega⟩
  · rename_i hw
    exact absurd h hw
theorem someCode_ev (s : List Int) {c ws : List Int} (hc : c.length ≤ 1048576) (hw : ws.length ≤ 1048576) : Ev (fun k => impl_someCode.f k s c ws) (rSome s c ws) := by
  unfold impl_someCode.f rSome
  refine Ev.bind (codeCode_ev s hc hw) ?_
  by_cases h : rCode s c ws = 0
  · simp only [if_pos h]
    by_cases h2 : c.length = 0
    · rw [if_pos h2]
      exact Ev.iff_pos (by omega) (Ev.now _)
    · rw [if_neg h2]
      exact Ev.iff_neg (by omega) (Ev.now _)
  · simp only [if_neg h]
    exact Ev.now _
theorem l02Full_ev (s : List Int) {c : List Int} (hc : c.length ≤ 1048576) : Ev (fun k => spec_l02Full.f k s c) (rSome s c []) := by
  unfold spec_l02Full.f rSome
  refine Ev.bind (l01Given_ev s hc) ?_
  by_cases h : rCode s c [] = 0
  · simp only [if_pos h]
    by_cases h2 : c.length = 0
    · rw [if_pos h2]
      exact Ev.iff_pos (by omega) (Ev.now _)
    · rw [if_neg h2]
      refine Ev.iff_neg (by omega) ?_
      rw [h]
      exact Ev.now _
  · simp only [if_neg h]
    exact Ev.now _
/-- The least distances of all words. -/
def farW (s c : List Int) : List Int := (List.range (NW s)).map fun (u : Nat) => mdL s (u : Int) 8 c
theorem farW_length (s c : List Int) : (farW s c).length = NW s := by simp [farW]
theorem farW_rd (s c : List Int) {n : Nat} (h : n < NW s) : rd (farW s c) (n : Int) = mdL s (n : Int) 8 c := by
  simp [rd, farW, List.getD_eq_getElem?_getD, h]
theorem fold_mdL {s : List Int} (hl : s.length ≤ 8) (u : Int) : ∀ (c : List Int) (a : Int), c.foldl (fun a x => mn a (ham (dig8 s u) (dig8 s x))) a = mdL s u a c
  | [], a => rfl
  | x :: c, a => by
    rw [List.foldl_cons, mdL, fold_mdL hl u c, ham_dig8 hl, dist_comm]
theorem farness_eq {s c : List Int} (hs : isSp s = true) (hc : isC s c = true) (hp : 0 < c.length) : impl_farness.f s c = some (farW s c) := by
  unfold impl_farness.f
  have hl := isC_len hs hc
  rw [if_pos ⟨hs, by rw [List.all_eq_true]; exact isC_words hc, hp, by omega⟩]
  congr 1
  unfold farL farW NW
  apply List.map_congr_left
  intro u _
  unfold fq
  rw [List.take_length, fold_mdL (isSp_len hs)]
theorem NW_pos {s : List Int} (hs : isSp s = true) : 0 < NW s := by
  have := NW_eq hs
  have := isSp_prd1 hs
  omega
end Go.Proofs.Ytcpchmnbjaeolaa.Q
