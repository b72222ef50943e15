/-
  The tests of a range: within of the program, l1In of the reference.
-/
import Derived.Test.YtgjcilainojlfaaBase
namespace Go.Proofs.Ytgjcilainojlfaa
open Go.RowKit
end Go.Proofs.Ytgjcilainojlfaa
