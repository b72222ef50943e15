/-
  Equal types and terms, of both sides.
-/
import Derived.Test.YtgjcilainojlfaaTyC
import Derived.Test.YtgjcilainojlfaaLst
namespace Go.Proofs.Ytgjcilainojlfaa
open Go.RowKit
set_option linter.unusedVariables false
set_option linter.unusedSimpArgs false
set_option maxRecDepth 20000
end Go.Proofs.Ytgjcilainojlfaa
