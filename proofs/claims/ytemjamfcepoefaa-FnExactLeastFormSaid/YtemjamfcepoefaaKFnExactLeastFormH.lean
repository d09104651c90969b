/- What the law FnExactLeastForm needs, part 8: words, walks of functions (each says that a call returns what the plain Lean function beside it says), plain lemmas. -/
import Derived.Test.YtemjamfcepoefaaKFnExactLeastFormG
import Derived.FnLit
set_option linter.unusedVariables false
set_option linter.unusedSimpArgs false
namespace Go.Proofs.Ytemjamfcepoefaa.P
open Go.RowKit Go.Proofs.YtemjamfcepoefaaW.PrintWords Go.Proofs.YtemjamfcepoefaaW.PrintLast Go.Proofs.YtemjamfcepoefaaW.PrintMore CC
theorem infoI : (Try.prog.info? 2).map (fun i => (i.zero, i.size, i.bytes)) = some (some (.int .i64 0), 1, 8) := by kernel_rfl
theorem take_rd8 {d : List Int} {n : Nat} (hn : n < d.length) : d.take (n + 1) = d.take n ++ [rd d (n : Int)] := by
  rw [List.take_add_one]
  simp [rd, List.getD_eq_getElem?_getD, hn]
end Go.Proofs.Ytemjamfcepoefaa.P
