/-
  Slices of texts and numbers, without marks.
-/
import Derived.Test.YtemlobcbepgbaaaLst
import Derived.Test.YtemlobcbepgbaaaTd
import Derived.Test.YtemlobcbepgbaaaUMark
import Derived.Test.YtemlobcbepgbaaaStrs
import Derived.Test.YtemlobcbepgbaaaInts
namespace Go.Proofs.Ytemlobcbepgbaaa
open Go.RowKit
set_option linter.unusedVariables false
set_option linter.unusedSimpArgs false
set_option maxRecDepth 20000
def psz (xs : List ByteArray) (k : Nat) : Nat := szL ((xs.take k).map D.str)
theorem psz_snoc (xs : List ByteArray) (k : Nat) (h : k < xs.length) : psz xs (k + 1) = psz xs k + xs[k]!.size := by
  rw [psz, take_snoc xs k h, List.map_append, szL_append]; rfl
theorem psz_le (xs : List ByteArray) (k : Nat) : psz xs k ≤ szL (xs.map D.str) := by
  have e : xs.map D.str = (xs.take k).map D.str ++ (xs.drop k).map D.str := by rw [← List.map_append, List.take_append_drop]
  rw [e, szL_append, psz]; omega
theorem U_toIntS {d : D} {v : Value} {w : World} (g : Giv w .ints d v) :
    Calls Try.prog 54 #[v] w fun e w' => ∃ a n c, e = .returned (.slice a n c) ∧ Fresh w' w.heap.size d (.slice a n c) ∧ Below w.heap.size w w' := by
  obtain ⟨hc, _, hz, hr⟩ := g
  obtain ⟨ns, rfl⟩ := ints_of hc
  refine (laws_toIntS ns _ w.heap.size w hr (Nat.le_refl _) (by have := szD_ints ns; omega)).mono ?_
  rintro e w' ⟨u, rfl, hf, hb⟩
  have h := hf.rep
  obtain ⟨a, n, c, rfl⟩ := rep_sl hc h
  exact ⟨a, n, c, rfl, hf, hb⟩
theorem U_eqsIntS {d : D} {v u : Value} {w : World} (hc : Conf d (.sl .ints)) (hr : RepV w w.heap.size d v) (hr' : RepV w w.heap.size d u) :
    Calls Try.prog 56 #[v, u] w fun e w' => e = .returned (.bool true) ∧ Below w.heap.size w w' := by
  obtain ⟨ns, rfl⟩ := ints_of hc
  have h := laws_eqIntS ns ns _ _ w.heap.size w.heap.size w hr hr'
  rwa [show eqI ns ns = true by unfold eqI; simp] at h
end Go.Proofs.Ytemlobcbepgbaaa
