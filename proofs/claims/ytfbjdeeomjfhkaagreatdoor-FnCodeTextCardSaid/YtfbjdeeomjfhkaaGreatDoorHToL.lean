/-
  Copies of structs and of lists of them.
-/
import Derived.Test.YtfbjdeeomjfhkaaGreatDoorHToTy
namespace Go.Proofs.YtfbjdeeomjfhkaaGreatDoor
open Go.RowKit
set_option linter.unusedVariables false
end Go.Proofs.YtfbjdeeomjfhkaaGreatDoor
