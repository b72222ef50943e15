/-
  Copies of terms.
-/
import Derived.Test.YtlmnfemobajmlaaDoorHToTy
namespace Go.Proofs.YtlmnfemobajmlaaDoor
open Go.RowKit
set_option linter.unusedVariables false
end Go.Proofs.YtlmnfemobajmlaaDoor
