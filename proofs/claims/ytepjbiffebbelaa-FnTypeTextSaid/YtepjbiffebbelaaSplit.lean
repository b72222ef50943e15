/-
  Static and dynamic parameters, of both sides.
-/
import Derived.Test.YtepjbiffebbelaaTyC
import Derived.Test.YtepjbiffebbelaaLst
namespace Go.Proofs.Ytepjbiffebbelaa
open Go.RowKit
set_option linter.unusedVariables false
set_option linter.unusedSimpArgs false
set_option maxRecDepth 20000
def spL (b : Bool) (xs : List Pm) (k : Nat) : List Pm := (xs.take k).filter fun x => x.dyn == b
theorem spL_snoc (b : Bool) (xs : List Pm) (k : Nat) (h : k < xs.length) : spL b xs (k + 1) = if xs[k]!.dyn = b then spL b xs k ++ [xs[k]!] else spL b xs k := by
  rw [spL, take_snoc xs k h, List.filter_append]
  by_cases e : xs[k]!.dyn = b
  · simp only [spL, List.filter, e, beq_self_eq_true, ↓reduceIte]
  · have e2 : (xs[k]!.dyn == b) = false := beq_eq_false_iff_ne.mpr e
    simp only [spL, List.filter, e, e2, ↓reduceIte, List.append_nil]
theorem spL_len (b : Bool) (xs : List Pm) (k : Nat) : (spL b xs k).length ≤ k := by
  have h1 := List.length_filter_le (fun x : Pm => x.dyn == b) (xs.take k)
  have h2 := List.length_take_le k xs
  rw [spL]; omega
theorem split_fit {xs : List Pm} {b : Bool} (hc : Conf (pmsD xs) (.sl .param)) (hz : szD (pmsD xs) ≤ 1048576) : Conf (pmsD (spL b xs xs.length)) (.sl .param) ∧ cntD (pmsD (spL b xs xs.length)) ≤ 17592186044416 :=
  sub_fl (k := .param) (sz := 4) pmC rfl pmC_len hc hz (spL_len b xs _) fun y hy => List.mem_of_mem_take (List.mem_filter.mp hy).1
end Go.Proofs.Ytepjbiffebbelaa
