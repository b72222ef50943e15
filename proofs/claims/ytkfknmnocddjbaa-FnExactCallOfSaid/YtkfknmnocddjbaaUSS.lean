/-
  Slices of texts, numbers.
-/
import Derived.Test.YtkfknmnocddjbaaUMark
import Derived.Test.YtkfknmnocddjbaaStrs
import Derived.Test.YtkfknmnocddjbaaHMkS
namespace Go.Proofs.Ytkfknmnocddjbaa
open Go.RowKit
set_option linter.unusedVariables false
theorem U_toIntS {d : D} {v : Value} {w : World} (g : Giv w .ints d v) :
    Calls Try.prog 22 #[v] w fun e w' => ∃ a n c, e = .returned (.slice a n c) ∧ Fresh w' w.heap.size d (.slice a n c) ∧ Below w.heap.size w w' := by
  obtain ⟨hc, _, hz, hr⟩ := g
  obtain ⟨ns, rfl⟩ := ints_of hc
  refine (laws_toIntS ns _ w.heap.size w hr (Nat.le_refl _) (by have := szD_ints ns; omega)).mono ?_
  rintro e w' ⟨u, rfl, hf, hb⟩
  have h := hf.rep
  obtain ⟨a, n, c, rfl⟩ := rep_sl hc h
  exact ⟨a, n, c, rfl, hf, hb⟩
theorem U_eqsIntS {d : D} {v u : Value} {w : World} (hc : Conf d (.sl .ints)) (hr : RepV w w.heap.size d v) (hr' : RepV w w.heap.size d u) :
    Calls Try.prog 24 #[v, u] w fun e w' => e = .returned (.bool true) ∧ Below w.heap.size w w' := by
  obtain ⟨ns, rfl⟩ := ints_of hc
  have h := laws_eqIntS ns ns _ _ w.heap.size w.heap.size w hr hr'
  rwa [show eqI ns ns = true by unfold eqI; simp] at h
theorem UR_markIntS {d : D} {v : Value} {lo hi : Nat} {w : World} {c : Int} (hc : Conf d (.sl .ints)) (ho : OwnR w lo hi [d] [v]) (h0 : 0 ≤ c) (h1 : c + cntD d ≤ 140737488351232) :
    Calls Try.prog 25 #[v, .int .i64 c] w fun e w' => e = .returned (.int .i64 (c + cntD d)) ∧ OwnR w' lo hi [markD d c] [v] ∧ Chg lo hi w w' := by
  obtain ⟨fp, ho, hn, hr⟩ := own_one ho
  refine (markintS_all _ hc v fp w c ho hn h0 h1).mono ?_
  rintro e w' ⟨rfl, ho', hw⟩
  exact ⟨rfl, one_own ho' hn hr, hw.chg hr⟩
end Go.Proofs.Ytkfknmnocddjbaa
