/- Words of digits: what the reference and the program answer, in plain Lean. -/
import Derived.Test.YthcodiknghfmmaaQWord0
set_option linter.unusedVariables false
set_option linter.unusedSimpArgs false
namespace Go.Proofs.Ythcodiknghfmmaa.Q
open Go.RowKit Go.Proofs.Ythcodiknghfmmaa.P Go.Proofs.YthcodiknghfmmaaW.PrintWords CC

end Go.Proofs.Ythcodiknghfmmaa.Q
