/-
  Equality: the laws' own eqType.
-/
import Derived.Test.YtfbjdeeomjfhkaaGreatDoorConf
import Derived.Test.YtfbjdeeomjfhkaaGreatDoorRng
import Derived.Deep.RegionWith
import Derived.Lib.SlicesS
namespace Go.Proofs.YtfbjdeeomjfhkaaGreatDoor
open Go.RowKit
set_option linter.unusedVariables false
end Go.Proofs.YtfbjdeeomjfhkaaGreatDoor
