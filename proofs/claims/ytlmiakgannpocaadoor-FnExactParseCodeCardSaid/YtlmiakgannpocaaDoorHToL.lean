/-
  Copies of structs and of lists of them.
-/
import Derived.Test.YtlmiakgannpocaaDoorHToTy
namespace Go.Proofs.YtlmiakgannpocaaDoor
open Go.RowKit
set_option linter.unusedVariables false
end Go.Proofs.YtlmiakgannpocaaDoor
