/-
  Slices of structs.
-/
import Derived.Test.YtfeldmpddkmidaaUMark
import Derived.Test.YtfeldmpddkmidaaHSzL
import Derived.Test.YtfeldmpddkmidaaHToL
import Derived.Test.YtfeldmpddkmidaaHEqL
import Derived.Test.YtfeldmpddkmidaaHMkL
namespace Go.Proofs.Ytfeldmpddkmidaa
open Go.RowKit
set_option linter.unusedVariables false
theorem U_szTypingS {d : D} {v : Value} {w : World} {left : Int} (hc : Conf d (.sl .typing)) (hs : StrB d) (hr : RepV w w.heap.size d v) (h0 : 0 ≤ left) (h1 : left ≤ 1048576) :
    Calls Try.prog 29 #[v, .int .i64 left] w fun e w' => e = .returned (.int .i64 (szR left (szD d))) ∧ Below w.heap.size w w' :=
  szTypingS_all _ hc hs v w.heap.size w left hr (Nat.le_refl _) h0 h1
theorem U_toTypingS {d : D} {v : Value} {w : World} (g : Giv w .typing d v) :
    Calls Try.prog 31 #[v] w fun e w' => ∃ a n c, e = .returned (.slice a n c) ∧ Fresh w' w.heap.size d (.slice a n c) ∧ Below w.heap.size w w' := by
  obtain ⟨hc, _, hz, hr⟩ := g
  exact toTypingS_all _ hc v w.heap.size w hr (Nat.le_refl _) hz
theorem U_eqsTypingS {d : D} {v u : Value} {w : World} (hc : Conf d (.sl .typing)) (hr : RepV w w.heap.size d v) (hr' : RepV w w.heap.size d u) :
    Calls Try.prog 33 #[v, u] w fun e w' => e = .returned (.bool true) ∧ Below w.heap.size w w' := by
  have h := eqTypingS_all _ hc d v u w.heap.size w.heap.size w hc hr hr' (Nat.le_refl _) (Nat.le_refl _)
  rwa [eqD_refl] at h
theorem UR_markTypingS {d : D} {v : Value} {lo hi : Nat} {w : World} {c : Int} (hc : Conf d (.sl .typing)) (ho : OwnR w lo hi [d] [v]) (h0 : 0 ≤ c) (h1 : c + cntD d ≤ 140737488351232) :
    Calls Try.prog 34 #[v, .int .i64 c] w fun e w' => e = .returned (.int .i64 (c + cntD d)) ∧ OwnR w' lo hi [markD d c] [v] ∧ Chg lo hi w w' := by
  obtain ⟨fp, ho, hn, hr⟩ := own_one ho
  refine (markTypingS_all _ hc v fp w c ho hn h0 h1).mono ?_
  rintro e w' ⟨rfl, ho', hw⟩
  exact ⟨rfl, one_own ho' hn hr, hw.chg hr⟩
theorem U_heldTypingS {d : D} {v : Value} {w : World} {c : Int} (hc : Conf d (.sl .typing)) (hr : RepV w w.heap.size (markD d c) v) (h0 : 0 ≤ c) (h1 : c + cntD d ≤ 140737488351232) :
    Calls Try.prog 35 #[v, .int .i64 c] w fun e w' => e = .returned (.int .i64 (c + cntD d)) ∧ Below w.heap.size w w' :=
  heldTypingS_all _ hc v w.heap.size w c hr (Nat.le_refl _) h0 h1
theorem U_szParamS {d : D} {v : Value} {w : World} {left : Int} (hc : Conf d (.sl .param)) (hs : StrB d) (hr : RepV w w.heap.size d v) (h0 : 0 ≤ left) (h1 : left ≤ 1048576) :
    Calls Try.prog 15 #[v, .int .i64 left] w fun e w' => e = .returned (.int .i64 (szR left (szD d))) ∧ Below w.heap.size w w' :=
  szParamS_all _ hc hs v w.heap.size w left hr (Nat.le_refl _) h0 h1
theorem U_toParamS {d : D} {v : Value} {w : World} (g : Giv w .param d v) :
    Calls Try.prog 18 #[v] w fun e w' => ∃ a n c, e = .returned (.slice a n c) ∧ Fresh w' w.heap.size d (.slice a n c) ∧ Below w.heap.size w w' := by
  obtain ⟨hc, _, hz, hr⟩ := g
  exact toParamS_all _ hc v w.heap.size w hr (Nat.le_refl _) hz
theorem U_eqsParamS {d : D} {v u : Value} {w : World} (hc : Conf d (.sl .param)) (hr : RepV w w.heap.size d v) (hr' : RepV w w.heap.size d u) :
    Calls Try.prog 22 #[v, u] w fun e w' => e = .returned (.bool true) ∧ Below w.heap.size w w' := by
  have h := eqParamS_all _ hc d v u w.heap.size w.heap.size w hc hr hr' (Nat.le_refl _) (Nat.le_refl _)
  rwa [eqD_refl] at h
theorem UR_markParamS {d : D} {v : Value} {lo hi : Nat} {w : World} {c : Int} (hc : Conf d (.sl .param)) (ho : OwnR w lo hi [d] [v]) (h0 : 0 ≤ c) (h1 : c + cntD d ≤ 140737488351232) :
    Calls Try.prog 23 #[v, .int .i64 c] w fun e w' => e = .returned (.int .i64 (c + cntD d)) ∧ OwnR w' lo hi [markD d c] [v] ∧ Chg lo hi w w' := by
  obtain ⟨fp, ho, hn, hr⟩ := own_one ho
  refine (markParamS_all _ hc v fp w c ho hn h0 h1).mono ?_
  rintro e w' ⟨rfl, ho', hw⟩
  exact ⟨rfl, one_own ho' hn hr, hw.chg hr⟩
theorem U_heldParamS {d : D} {v : Value} {w : World} {c : Int} (hc : Conf d (.sl .param)) (hr : RepV w w.heap.size (markD d c) v) (h0 : 0 ≤ c) (h1 : c + cntD d ≤ 140737488351232) :
    Calls Try.prog 28 #[v, .int .i64 c] w fun e w' => e = .returned (.int .i64 (c + cntD d)) ∧ Below w.heap.size w w' :=
  heldParamS_all _ hc v w.heap.size w c hr (Nat.le_refl _) h0 h1
end Go.Proofs.Ytfeldmpddkmidaa
