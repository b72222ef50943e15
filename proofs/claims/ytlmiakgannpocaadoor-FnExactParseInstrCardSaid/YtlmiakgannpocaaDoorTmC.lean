/-
  Copies of terms, of the reference and of the program.
-/
import Derived.Test.YtlmiakgannpocaaDoorTyC
import Derived.Test.YtlmiakgannpocaaDoorErD
namespace Go.Proofs.YtlmiakgannpocaaDoor
open Go.RowKit
set_option linter.unusedVariables false
set_option linter.unusedSimpArgs false
set_option maxRecDepth 20000
theorem sz_parts {t : Tm} {B : Nat} (h : szL (tmC t) ≤ B) : szL (tyC t.ty) ≤ B ∧ szL (tyC t.res) ≤ B ∧ t.args.length + szL (tmsC t.args) ≤ B := by
  rw [szL_tm] at h; omega
end Go.Proofs.YtlmiakgannpocaaDoor
