/-
  markText of the laws: the letter m and a number's digits.
-/
import Derived.Test.YtgjcilainojlfaaBase
import Derived.Test.YtgjcilainojlfaaRng
namespace Go.Proofs.Ytgjcilainojlfaa
open Go.RowKit



end Go.Proofs.Ytgjcilainojlfaa
