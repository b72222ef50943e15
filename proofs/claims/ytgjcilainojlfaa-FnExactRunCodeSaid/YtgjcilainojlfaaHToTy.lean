/-
  Copies: the laws' own toType.
-/
import Derived.Test.YtgjcilainojlfaaConf
import Derived.Test.YtgjcilainojlfaaRng
namespace Go.Proofs.Ytgjcilainojlfaa
open Go.RowKit
set_option linter.unusedVariables false
def ToInstrS (d : D) : Prop := ∀ (v : Value) (S : Nat) (w : World), RepV w S d v → S ≤ w.heap.size → szD d ≤ 1048576 →
  Calls Try.prog 17 #[v] w fun e w' => ∃ a n c, e = .returned (.slice a n c) ∧ Fresh w' w.heap.size d (.slice a n c) ∧ Below w.heap.size w w'
end Go.Proofs.Ytgjcilainojlfaa
