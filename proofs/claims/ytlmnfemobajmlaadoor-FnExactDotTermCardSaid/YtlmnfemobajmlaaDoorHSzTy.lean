/-
  Sizes: the laws' own szX, for each type that came in.
-/
import Derived.Test.YtlmnfemobajmlaaDoorConf
import Derived.Test.YtlmnfemobajmlaaDoorRng
namespace Go.Proofs.YtlmnfemobajmlaaDoor
open Go.RowKit
set_option linter.unusedVariables false
end Go.Proofs.YtlmnfemobajmlaaDoor
