/-
  Sizes and depths of types, valid types of the reference, of both sides as far as they go.
-/
import Derived.Test.YtgjcilainojlfaaTyC
import Derived.Test.YtgjcilainojlfaaLst
import Derived.Test.YtgjcilainojlfaaTmC
namespace Go.Proofs.Ytgjcilainojlfaa
open Go.RowKit
set_option linter.unusedVariables false
set_option linter.unusedSimpArgs false
set_option maxRecDepth 20000
end Go.Proofs.Ytgjcilainojlfaa
/-
  All nodes of a type or a term; valid types of the program.
-/
namespace Go.Proofs.Ytgjcilainojlfaa
open Go.RowKit
set_option linter.unusedVariables false
set_option linter.unusedSimpArgs false
set_option maxRecDepth 20000
/-! the first element of a kind -/
end Go.Proofs.Ytgjcilainojlfaa
