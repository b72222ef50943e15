/-
  Slices of structs.
-/
import Derived.Test.YtlmiakgannpocaaDoorUMark
import Derived.Test.YtlmiakgannpocaaDoorHSzL
import Derived.Test.YtlmiakgannpocaaDoorHToL
import Derived.Test.YtlmiakgannpocaaDoorHEqL
namespace Go.Proofs.YtlmiakgannpocaaDoor
open Go.RowKit
set_option linter.unusedVariables false
theorem U_eqsInstrS {d : D} {v u : Value} {w : World} (hc : Conf d (.sl .instr)) (hr : RepV w w.heap.size d v) (hr' : RepV w w.heap.size d u) :
    Calls Tryd.prog 10 #[v, u] w fun e w' => e = .returned (.bool true) ∧ Below w.heap.size w w' := by
  have h := eqInstrS_all _ hc d v u w.heap.size w.heap.size w hc hr hr' (Nat.le_refl _) (Nat.le_refl _)
  rwa [eqD_refl] at h
end Go.Proofs.YtlmiakgannpocaaDoor
