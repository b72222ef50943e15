/-
  Sizes: the laws' own szX, for each type that came in.
-/
import Derived.Test.YtgjcilainojlfaaConf
import Derived.Test.YtgjcilainojlfaaRng
namespace Go.Proofs.Ytgjcilainojlfaa
open Go.RowKit
set_option linter.unusedVariables false
def SzInstrS (d : D) : Prop := ∀ (v : Value) (S : Nat) (w : World) (left : Int), RepV w S d v → S ≤ w.heap.size → 0 ≤ left → left ≤ 1048576 →
  Calls Try.prog 15 #[v, .int .i64 left] w fun e w' => e = .returned (.int .i64 (szR left (szD d))) ∧ Below w.heap.size w w'
end Go.Proofs.Ytgjcilainojlfaa
