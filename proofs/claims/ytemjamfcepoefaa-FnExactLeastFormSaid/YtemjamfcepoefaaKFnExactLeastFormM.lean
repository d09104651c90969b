/- What the law FnExactLeastForm needs, part 13: words, walks of functions (each says that a call returns what the plain Lean function beside it says), plain lemmas. -/
import Derived.Test.YtemjamfcepoefaaKFnExactLeastFormL
import Derived.ChangeKeysEq
set_option linter.unusedVariables false
set_option linter.unusedSimpArgs false
namespace Go.Proofs.Ytemjamfcepoefaa.P
open Go.RowKit Go.Proofs.YtemjamfcepoefaaW.PrintWords Go.Proofs.YtemjamfcepoefaaW.PrintLast Go.Proofs.YtemjamfcepoefaaW.PrintMore CC
end Go.Proofs.Ytemjamfcepoefaa.P
