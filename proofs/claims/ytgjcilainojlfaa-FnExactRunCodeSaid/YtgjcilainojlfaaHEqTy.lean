/-
  Equality: the laws' own eqType.
-/
import Derived.Test.YtgjcilainojlfaaConf
import Derived.Test.YtgjcilainojlfaaRng
import Derived.Deep.RegionWith
import Derived.Lib.SlicesS
namespace Go.Proofs.Ytgjcilainojlfaa
open Go.RowKit
set_option linter.unusedVariables false
def EqItemS (d : D) : Prop := ∀ (d' : D) (v u : Value) (S S' : Nat) (w : World), Conf d' (.sl .item) → RepV w S d v → RepV w S' d' u → S ≤ w.heap.size → S' ≤ w.heap.size →
  Calls Try.prog 33 #[v, u] w fun e w' => e = .returned (.bool (eqD d d')) ∧ Below w.heap.size w w'
def EqInstrS (d : D) : Prop := ∀ (d' : D) (v u : Value) (S S' : Nat) (w : World), Conf d' (.sl .instr) → RepV w S d v → RepV w S' d' u → S ≤ w.heap.size → S' ≤ w.heap.size →
  Calls Try.prog 20 #[v, u] w fun e w' => e = .returned (.bool (eqD d d')) ∧ Below w.heap.size w w'
end Go.Proofs.Ytgjcilainojlfaa
