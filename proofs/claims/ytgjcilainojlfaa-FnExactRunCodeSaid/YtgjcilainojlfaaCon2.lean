/-
  Contracts with two results, used on memory.
-/
import Derived.Test.YtgjcilainojlfaaLst
namespace Go.Proofs.Ytgjcilainojlfaa
open Go.RowKit
set_option linter.unusedVariables false
set_option linter.unusedSimpArgs false
/-! the forms of two results -/
end Go.Proofs.Ytgjcilainojlfaa
