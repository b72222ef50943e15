/-
  Slices of structs: marks.
-/
import Derived.Test.YtlmiakgannpocaaDoorUMark
import Derived.Test.YtlmiakgannpocaaDoorHMkL
namespace Go.Proofs.YtlmiakgannpocaaDoor
open Go.RowKit
set_option linter.unusedVariables false
theorem UR_markInstrS {d : D} {v : Value} {lo hi : Nat} {w : World} {c : Int} (hc : Conf d (.sl .instr)) (ho : OwnR w lo hi [d] [v]) (h0 : 0 ≤ c) (h1 : c + cntD d ≤ 140737488351232) :
    Calls Tryd.prog 11 #[v, .int .i64 c] w fun e w' => e = .returned (.int .i64 (c + cntD d)) ∧ OwnR w' lo hi [markD d c] [v] ∧ Chg lo hi w w' := by
  obtain ⟨fp, ho, hn, hr⟩ := own_one ho
  refine (markInstrS_all _ hc v fp w c ho hn h0 h1).mono ?_
  rintro e w' ⟨rfl, ho', hw⟩
  exact ⟨rfl, one_own ho' hn hr, hw.chg hr⟩
theorem U_heldInstrS {d : D} {v : Value} {w : World} {c : Int} (hc : Conf d (.sl .instr)) (hr : RepV w w.heap.size (markD d c) v) (h0 : 0 ≤ c) (h1 : c + cntD d ≤ 140737488351232) :
    Calls Tryd.prog 12 #[v, .int .i64 c] w fun e w' => e = .returned (.int .i64 (c + cntD d)) ∧ Below w.heap.size w w' :=
  heldInstrS_all _ hc v w.heap.size w c hr (Nat.le_refl _) h0 h1
end Go.Proofs.YtlmiakgannpocaaDoor
