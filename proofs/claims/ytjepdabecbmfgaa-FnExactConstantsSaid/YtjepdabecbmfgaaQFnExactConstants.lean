/- The plain law of Constants. -/
import Derived.Test.YtjepdabecbmfgaaFlawsFnExactConstants
set_option linter.unusedVariables false
namespace Go.Proofs.Ytjepdabecbmfgaa.Q
open Go.Proofs.Ytjepdabecbmfgaa.P
theorem FnExactConstants : laws_FnExactConstants.f = some true := rfl
end Go.Proofs.Ytjepdabecbmfgaa.Q
