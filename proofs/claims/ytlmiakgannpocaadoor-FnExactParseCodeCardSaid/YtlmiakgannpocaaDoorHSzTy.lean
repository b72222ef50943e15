/-
  Sizes: the laws' own szX, for each type that came in.
-/
import Derived.Test.YtlmiakgannpocaaDoorConf
import Derived.Test.YtlmiakgannpocaaDoorRng
namespace Go.Proofs.YtlmiakgannpocaaDoor
open Go.RowKit
set_option linter.unusedVariables false
end Go.Proofs.YtlmiakgannpocaaDoor
