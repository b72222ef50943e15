/-
  Slices of structs.
-/
import Derived.Test.YtgjcilainojlfaaUMark
import Derived.Test.YtgjcilainojlfaaHEqL
namespace Go.Proofs.Ytgjcilainojlfaa
open Go.RowKit
set_option linter.unusedVariables false
theorem U_szInstrS {d : D} {v : Value} {w : World} {left : Int} (hc : Conf d (.sl .instr)) (hs : StrB d) (hr : RepV w w.heap.size d v) (h0 : 0 ≤ left) (h1 : left ≤ 1048576) :
    Calls Try.prog 15 #[v, .int .i64 left] w fun e w' => e = .returned (.int .i64 (szR left (szD d))) ∧ Below w.heap.size w w' :=
  szInstrS_all _ hc hs v w.heap.size w left hr (Nat.le_refl _) h0 h1
theorem U_toInstrS {d : D} {v : Value} {w : World} (g : Giv w .instr d v) :
    Calls Try.prog 17 #[v] w fun e w' => ∃ a n c, e = .returned (.slice a n c) ∧ Fresh w' w.heap.size d (.slice a n c) ∧ Below w.heap.size w w' := by
  obtain ⟨hc, _, hz, hr⟩ := g
  exact toInstrS_all _ hc v w.heap.size w hr (Nat.le_refl _) hz
theorem U_eqsInstrS {d : D} {v u : Value} {w : World} (hc : Conf d (.sl .instr)) (hr : RepV w w.heap.size d v) (hr' : RepV w w.heap.size d u) :
    Calls Try.prog 20 #[v, u] w fun e w' => e = .returned (.bool true) ∧ Below w.heap.size w w' := by
  have h := eqInstrS_all _ hc d v u w.heap.size w.heap.size w hc hr hr' (Nat.le_refl _) (Nat.le_refl _)
  rwa [eqD_refl] at h
end Go.Proofs.Ytgjcilainojlfaa
