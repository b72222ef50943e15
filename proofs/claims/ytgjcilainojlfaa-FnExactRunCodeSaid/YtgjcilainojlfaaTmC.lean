/-
  Without stages, in plain data.
-/
import Derived.Test.YtgjcilainojlfaaLst
import Derived.Test.YtgjcilainojlfaaTyC
namespace Go.Proofs.Ytgjcilainojlfaa
open Go.RowKit
set_option linter.unusedVariables false
end Go.Proofs.Ytgjcilainojlfaa
/-
  Copies of terms, of the reference and of the program.
-/
namespace Go.Proofs.Ytgjcilainojlfaa
open Go.RowKit
set_option linter.unusedVariables false
set_option linter.unusedSimpArgs false
set_option maxRecDepth 20000
end Go.Proofs.Ytgjcilainojlfaa
