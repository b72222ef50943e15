/-
  Sizes of terms that came in.
-/
import Derived.Test.YtlmnfemobajmlaaDoorHSzTy
namespace Go.Proofs.YtlmnfemobajmlaaDoor
open Go.RowKit
set_option linter.unusedVariables false
end Go.Proofs.YtlmnfemobajmlaaDoor
