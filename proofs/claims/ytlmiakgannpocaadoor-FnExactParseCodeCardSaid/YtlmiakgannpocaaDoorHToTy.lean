/-
  Copies: the laws' own toType.
-/
import Derived.Test.YtlmiakgannpocaaDoorConf
import Derived.Test.YtlmiakgannpocaaDoorRng
namespace Go.Proofs.YtlmiakgannpocaaDoor
open Go.RowKit
set_option linter.unusedVariables false
end Go.Proofs.YtlmiakgannpocaaDoor
