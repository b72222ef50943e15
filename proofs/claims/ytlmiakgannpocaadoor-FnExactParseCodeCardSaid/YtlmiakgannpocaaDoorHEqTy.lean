/-
  Equality: the laws' own eqType.
-/
import Derived.Test.YtlmiakgannpocaaDoorConf
import Derived.Test.YtlmiakgannpocaaDoorRng
import Derived.Deep.RegionWith
import Derived.Lib.SlicesS
namespace Go.Proofs.YtlmiakgannpocaaDoor
open Go.RowKit
set_option linter.unusedVariables false
def EqInstrS (d : D) : Prop := ∀ (d' : D) (v u : Value) (S S' : Nat) (w : World), Conf d' (.sl .instr) → RepV w S d v → RepV w S' d' u → S ≤ w.heap.size → S' ≤ w.heap.size →
  Calls Tryd.prog 10 #[v, u] w fun e w' => e = .returned (.bool (eqD d d')) ∧ Below w.heap.size w w'
end Go.Proofs.YtlmiakgannpocaaDoor
