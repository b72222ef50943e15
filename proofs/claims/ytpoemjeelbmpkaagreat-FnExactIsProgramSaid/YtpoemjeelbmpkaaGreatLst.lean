/-
  Lists of a kind: when their cells fit it, and how many marks they take.
-/
import Derived.Test.YtpoemjeelbmpkaaGreatDat
import Derived.Test.YtpoemjeelbmpkaaGreatUMark
namespace Go.Proofs.YtpoemjeelbmpkaaGreat
open Go.RowKit
set_option linter.unusedVariables false
set_option linter.unusedSimpArgs false
theorem szL_flC {α : Type} [Inhabited α] (c : α → List D) : ∀ (ys : List α) (j : Nat), j < ys.length → szL (c ys[j]!) ≤ szL (flC c ys)
  | [], j, hj => by simp at hj
  | y :: ys, j, hj => by
    rw [flC, szL_append]
    cases j with
    | zero => simp
    | succ j => have := szL_flC c ys j (by simpa using hj); simp only [List.getElem!_cons_succ]; omega
theorem szL_mem {α : Type} (c : α → List D) : ∀ (ys : List α) (y : α), y ∈ ys → szL (c y) ≤ szL (flC c ys)
  | [], y, h => by cases h
  | z :: ys, y, h => by
    rw [flC, szL_append]
    rcases List.mem_cons.mp h with rfl | h
    · omega
    · have := szL_mem c ys y h; omega
end Go.Proofs.YtpoemjeelbmpkaaGreat
