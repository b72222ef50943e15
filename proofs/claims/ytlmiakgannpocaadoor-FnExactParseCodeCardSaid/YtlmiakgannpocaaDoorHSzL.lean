/-
  Sizes of lists of structs that came in.
-/
import Derived.Test.YtlmiakgannpocaaDoorHSzTy
namespace Go.Proofs.YtlmiakgannpocaaDoor
open Go.RowKit
set_option linter.unusedVariables false
theorem szL_of_ints : ∀ (F : List CK) (cs : List D), (∀ c ∈ F, c = CK.int) → ConfL cs F → szL cs = 0
  | [], cs, _, h => by
    cases cs with
    | nil => rfl
    | cons x xs => unfold ConfL at h; obtain ⟨c, r, e, _⟩ := h; cases e
  | c :: F, cs, hF, h => by
    cases cs with
    | nil => rfl
    | cons x xs =>
      unfold ConfL at h
      obtain ⟨c', r, e, h1, h2⟩ := h
      injection e with e1 e2
      subst e1 e2
      have := hF c (List.mem_cons_self ..)
      subst this
      obtain ⟨n, rfl⟩ := conf_int h1
      rw [szL, szL_of_ints F xs (fun c hc => hF c (List.mem_cons_of_mem _ hc)) h2]; rfl
end Go.Proofs.YtlmiakgannpocaaDoor
