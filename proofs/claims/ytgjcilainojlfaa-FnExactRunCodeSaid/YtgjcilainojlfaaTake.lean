/-
  A struct is moved out of a row of one's own: its slices get numbers of their own, the row keeps dead cells in their places.
-/
import Derived.Test.YtgjcilainojlfaaAI17
namespace Go.Proofs.Ytgjcilainojlfaa
open Go.RowKit
set_option linter.unusedVariables false
set_option linter.unusedSimpArgs false
end Go.Proofs.Ytgjcilainojlfaa
