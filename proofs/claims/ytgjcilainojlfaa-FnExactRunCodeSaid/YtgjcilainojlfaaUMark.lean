/-
  Marks on structs: their slices' cells alone; ranges of blocks; changes in a range.
-/
import Derived.Test.YtgjcilainojlfaaUBase
import Derived.Test.YtgjcilainojlfaaMark
namespace Go.Proofs.Ytgjcilainojlfaa
open Go.RowKit
set_option linter.unusedVariables false


end Go.Proofs.Ytgjcilainojlfaa
