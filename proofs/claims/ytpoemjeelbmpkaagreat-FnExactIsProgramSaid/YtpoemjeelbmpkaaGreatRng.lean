/-
  The tests of a range: within of the program, l1In of the reference.
-/
import Derived.Test.YtpoemjeelbmpkaaGreatBase
namespace Go.Proofs.YtpoemjeelbmpkaaGreat
open Go.RowKit
theorem ret_int {k : IntKind} {a b : Int} (h : a = b) : Ending.returned (.int k a) = .returned (.int k b) := by rw [h]
end Go.Proofs.YtpoemjeelbmpkaaGreat
