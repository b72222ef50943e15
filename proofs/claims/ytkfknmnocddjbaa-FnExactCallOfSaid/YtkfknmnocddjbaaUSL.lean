/-
  Slices of structs.
-/
import Derived.Test.YtkfknmnocddjbaaUMark
import Derived.Test.YtkfknmnocddjbaaHSzL
import Derived.Test.YtkfknmnocddjbaaHToL
import Derived.Test.YtkfknmnocddjbaaHEqL
namespace Go.Proofs.Ytkfknmnocddjbaa
open Go.RowKit
set_option linter.unusedVariables false
theorem U_szParamS {d : D} {v : Value} {w : World} {left : Int} (hc : Conf d (.sl .param)) (hs : StrB d) (hr : RepV w w.heap.size d v) (h0 : 0 ≤ left) (h1 : left ≤ 1048576) :
    Calls Try.prog 10 #[v, .int .i64 left] w fun e w' => e = .returned (.int .i64 (szR left (szD d))) ∧ Below w.heap.size w w' :=
  szParamS_all _ hc hs v w.heap.size w left hr (Nat.le_refl _) h0 h1
theorem U_toParamS {d : D} {v : Value} {w : World} (g : Giv w .param d v) :
    Calls Try.prog 13 #[v] w fun e w' => ∃ a n c, e = .returned (.slice a n c) ∧ Fresh w' w.heap.size d (.slice a n c) ∧ Below w.heap.size w w' := by
  obtain ⟨hc, _, hz, hr⟩ := g
  exact toParamS_all _ hc v w.heap.size w hr (Nat.le_refl _) hz
theorem U_eqsParamS {d : D} {v u : Value} {w : World} (hc : Conf d (.sl .param)) (hr : RepV w w.heap.size d v) (hr' : RepV w w.heap.size d u) :
    Calls Try.prog 17 #[v, u] w fun e w' => e = .returned (.bool true) ∧ Below w.heap.size w w' := by
  have h := eqParamS_all _ hc d v u w.heap.size w.heap.size w hc hr hr' (Nat.le_refl _) (Nat.le_refl _)
  rwa [eqD_refl] at h
theorem U_szItemS {d : D} {v : Value} {w : World} {left : Int} (hc : Conf d (.sl .item)) (hs : StrB d) (hr : RepV w w.heap.size d v) (h0 : 0 ≤ left) (h1 : left ≤ 1048576) :
    Calls Try.prog 77 #[v, .int .i64 left] w fun e w' => e = .returned (.int .i64 (szR left (szD d))) ∧ Below w.heap.size w w' :=
  szItemS_all _ hc hs v w.heap.size w left hr (Nat.le_refl _) h0 h1
theorem U_toItemS {d : D} {v : Value} {w : World} (g : Giv w .item d v) :
    Calls Try.prog 82 #[v] w fun e w' => ∃ a n c, e = .returned (.slice a n c) ∧ Fresh w' w.heap.size d (.slice a n c) ∧ Below w.heap.size w w' := by
  obtain ⟨hc, _, hz, hr⟩ := g
  exact toItemS_all _ hc v w.heap.size w hr (Nat.le_refl _) hz
theorem U_eqsItemS {d : D} {v u : Value} {w : World} (hc : Conf d (.sl .item)) (hr : RepV w w.heap.size d v) (hr' : RepV w w.heap.size d u) :
    Calls Try.prog 92 #[v, u] w fun e w' => e = .returned (.bool true) ∧ Below w.heap.size w w' := by
  have h := eqItemS_all _ hc d v u w.heap.size w.heap.size w hc hr hr' (Nat.le_refl _) (Nat.le_refl _)
  rwa [eqD_refl] at h
theorem U_szInstrS {d : D} {v : Value} {w : World} {left : Int} (hc : Conf d (.sl .instr)) (hs : StrB d) (hr : RepV w w.heap.size d v) (h0 : 0 ≤ left) (h1 : left ≤ 1048576) :
    Calls Try.prog 35 #[v, .int .i64 left] w fun e w' => e = .returned (.int .i64 (szR left (szD d))) ∧ Below w.heap.size w w' :=
  szInstrS_all _ hc hs v w.heap.size w left hr (Nat.le_refl _) h0 h1
theorem U_toInstrS {d : D} {v : Value} {w : World} (g : Giv w .instr d v) :
    Calls Try.prog 37 #[v] w fun e w' => ∃ a n c, e = .returned (.slice a n c) ∧ Fresh w' w.heap.size d (.slice a n c) ∧ Below w.heap.size w w' := by
  obtain ⟨hc, _, hz, hr⟩ := g
  exact toInstrS_all _ hc v w.heap.size w hr (Nat.le_refl _) hz
theorem U_eqsInstrS {d : D} {v u : Value} {w : World} (hc : Conf d (.sl .instr)) (hr : RepV w w.heap.size d v) (hr' : RepV w w.heap.size d u) :
    Calls Try.prog 40 #[v, u] w fun e w' => e = .returned (.bool true) ∧ Below w.heap.size w w' := by
  have h := eqInstrS_all _ hc d v u w.heap.size w.heap.size w hc hr hr' (Nat.le_refl _) (Nat.le_refl _)
  rwa [eqD_refl] at h
end Go.Proofs.Ytkfknmnocddjbaa
