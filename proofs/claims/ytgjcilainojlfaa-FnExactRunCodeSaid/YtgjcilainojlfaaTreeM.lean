/-
  Trees in memory: a node's fields, its parts.
-/
import Derived.Test.YtgjcilainojlfaaTree
namespace Go.Proofs.Ytgjcilainojlfaa
open Go.RowKit



end Go.Proofs.Ytgjcilainojlfaa
