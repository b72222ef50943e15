/-
  Marks: the laws' own markTypeS.
-/
import Derived.Test.YtlmiakgannpocaaDoorMark
import Derived.Test.YtlmiakgannpocaaDoorRng
import Derived.Deep.RegionWith
namespace Go.Proofs.YtlmiakgannpocaaDoor
open Go.RowKit
set_option linter.unusedVariables false
def MarkInstrS (d : D) : Prop := ∀ (v : Value) (fp : List Nat) (w : World) (c : Int), OwnV w d v fp → fp.Nodup → 0 ≤ c → c + cntD d ≤ 140737488351232 →
  Calls Tryd.prog 11 #[v, .int .i64 c] w fun e w' => e = .returned (.int .i64 (c + cntD d)) ∧ OwnV w' (markD d c) v fp ∧ Only fp w w'
def HeldInstrS (d : D) : Prop := ∀ (v : Value) (S : Nat) (w : World) (c : Int), RepV w S (markD d c) v → S ≤ w.heap.size → 0 ≤ c → c + cntD d ≤ 140737488351232 →
  Calls Tryd.prog 12 #[v, .int .i64 c] w fun e w' => e = .returned (.int .i64 (c + cntD d)) ∧ Below w.heap.size w w'
end Go.Proofs.YtlmiakgannpocaaDoor
