/-
  Copies: the laws' own toType.
-/
import Derived.Test.YtfbjdeeomjfhkaaGreatDoorConf
import Derived.Test.YtfbjdeeomjfhkaaGreatDoorRng
namespace Go.Proofs.YtfbjdeeomjfhkaaGreatDoor
open Go.RowKit
set_option linter.unusedVariables false
end Go.Proofs.YtfbjdeeomjfhkaaGreatDoor
