/-
  One interface for the laws' own helpers: data, its values, and what is known of both.
-/
import Derived.Test.YtgjcilainojlfaaConf
import Derived.Test.YtgjcilainojlfaaArg
namespace Go.Proofs.Ytgjcilainojlfaa
open Go.RowKit

mutual
theorem eqD_refl : ∀ d : D, eqD d d = true
  | .int n => by simp [eqD]
  | .bool n => by simp [eqD]
  | .str n => by simp [eqD]
  | .any => by simp [eqD]
  | .byt n => by simp [eqD]
  | .rows sz n cs => by simp [eqD]
theorem eqL_refl : ∀ ds : List D, eqL ds ds = true
  | [] => by simp [eqL]
  | d :: ds => by simp [eqL]
end
/-- A slice, all that a call may ask of it. -/
def Giv (w : World) (k : K) (d : D) (v : Value) : Prop := Conf d (.sl k) ∧ StrB d ∧ szD d ≤ 1048576 ∧ RepV w w.heap.size d v
end Go.Proofs.Ytgjcilainojlfaa
