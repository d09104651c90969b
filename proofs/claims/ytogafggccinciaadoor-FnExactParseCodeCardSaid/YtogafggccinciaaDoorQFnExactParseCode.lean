/- The plain law of ParseCode: the program's and the reference's ParseCode answer alike. -/
import Derived.Test.YtogafggccinciaaDoorQParse2
import Derived.Test.YtogafggccinciaaDoorFlawsFnExactParseCode
set_option linter.unusedVariables false
set_option linter.unusedSimpArgs false
namespace Go.Proofs.YtogafggccinciaaDoor.Q
open Go.RowKit Go.Proofs.YtogafggccinciaaDoor.P Go.Proofs.YtogafggccinciaaDoorW.PrintWords CC
theorem FnExactParseCode (l0_0 : List Int) (m0 : l0_0.length ≤ maxLen) (w0 : ∀ x ∈ l0_0, (Lit.int .i64 x).wf = true) (a1 : ByteArray) (w1 : a1.size ≤ 140737488351232) : ∃ k, laws_FnExactParseCode.f k l0_0 a1 = some true := by
  refine Ev.rounds (r := true) ?_
  unfold laws_FnExactParseCode.f
  by_cases c1 : (a1.size : Int) > 1048576
  · exact Ev.iff_pos c1 (Ev.now _)
  refine Ev.iff_neg c1 ?_
  have k1 : a1.size ≤ 1048576 := by omega
  refine Ev.bindc (szSpace_eq _ _ m0 (by omega) (by omega)) ?_
  by_cases h0 : (1048576 : Int) < (l0_0.length : Int)
  · exact Ev.iff_pos (by rw [if_pos h0]; omega) (Ev.now _)
  rw [if_neg h0]
  refine Ev.iff_neg (by omega) ?_
  have hl0 : l0_0.length ≤ 1048576 := by omega
  have hm0 : l0_0.length < maxLen := by unfold maxLen; omega
  have hr0 := rParse_len l0_0 a1
  repeat' first
    | exact Ev.now _
    | refine Ev.bind (toSpace_ev _ hl0) ?_
    | refine Ev.bind (specParse_ev _ k1) ?_
    | refine Ev.bind (implParse_ev _ k1) ?_
    | (refine Ev.bind (eqSpace_ev _ _ ?_) ?_; (· (first | omega | (unfold maxLen; omega) | (simp only [iota_length]; omega) | (simp only [iota_length]; unfold maxLen; omega))))
    | (refine Ev.bind (eqInt64S_ev _ _ ?_) ?_; (· (first | omega | (unfold maxLen; omega) | (simp only [iota_length]; omega) | (simp only [iota_length]; unfold maxLen; omega))))
    | (refine Ev.bind (markSpace_ev _ _ ?_ ?_ ?_) ?_; (· (first | omega | (unfold maxLen; omega) | (simp only [iota_length]; omega) | (simp only [iota_length]; unfold maxLen; omega))); (· (first | omega | (unfold maxLen; omega) | (simp only [iota_length]; omega) | (simp only [iota_length]; unfold maxLen; omega))); (· (first | omega | (unfold maxLen; omega) | (simp only [iota_length]; omega) | (simp only [iota_length]; unfold maxLen; omega))))
    | (refine Ev.bind (markInt64S_ev _ _ ?_ ?_ ?_) ?_; (· (first | omega | (unfold maxLen; omega) | (simp only [iota_length]; omega) | (simp only [iota_length]; unfold maxLen; omega))); (· (first | omega | (unfold maxLen; omega) | (simp only [iota_length]; omega) | (simp only [iota_length]; unfold maxLen; omega))); (· (first | omega | (unfold maxLen; omega) | (simp only [iota_length]; omega) | (simp only [iota_length]; unfold maxLen; omega))))
    | (refine Ev.bind (heldInt64S_ev _ _ ?_ ?_) ?_; (· (first | omega | (unfold maxLen; omega) | (simp only [iota_length]; omega) | (simp only [iota_length]; unfold maxLen; omega))); (· (first | omega | (unfold maxLen; omega) | (simp only [iota_length]; omega) | (simp only [iota_length]; unfold maxLen; omega))))
    | (refine Ev.iff_pos ?_ ?_; (· (first | (simp; done) | omega)))
    | (refine Ev.iff_neg ?_ ?_; (· (first | (simp; done) | omega)))
    | refine Ev.step (show ∀ k, laws_FnExactParseCode.j0 (k + 1) _ _ _ _ _ _ _ _ = _ from fun k => by rw [laws_FnExactParseCode.j0]) ?_
    | refine Ev.step (show ∀ k, laws_FnExactParseCode.j1 (k + 1) _ _ _ _ _ _ = _ from fun k => by rw [laws_FnExactParseCode.j1]) ?_
    | refine Ev.step (show ∀ k, laws_FnExactParseCode.j2 (k + 1) _ _ _ = _ from fun k => by rw [laws_FnExactParseCode.j2]) ?_
end Go.Proofs.YtogafggccinciaaDoor.Q
