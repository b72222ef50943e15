/-
  Lists of a kind: when their cells fit it, and how many marks they take.
-/
import Derived.Test.YtgjcilainojlfaaDat
import Derived.Test.YtgjcilainojlfaaUMark
namespace Go.Proofs.Ytgjcilainojlfaa
open Go.RowKit
set_option linter.unusedVariables false
set_option linter.unusedSimpArgs false
theorem confL_app2 : ∀ {a b : List D} {A B : List CK}, ConfL a A → ConfL b B → ConfL (a ++ b) (A ++ B)
  | [], b, A, B, h, h2 => by unfold ConfL at h; subst h; simpa using h2
  | x :: a, b, A, B, h, h2 => by
    unfold ConfL at h
    obtain ⟨c, r, rfl, h1, h3⟩ := h
    have := confL_app2 h3 h2
    rw [List.cons_append, List.cons_append]
    unfold ConfL
    exact ⟨c, r ++ B, rfl, h1, this⟩
theorem confL_fl {α : Type} (c : α → List D) (F : List CK) : ∀ ys : List α, (∀ y ∈ ys, ConfL (c y) F) → ConfL (flC c ys) (List.replicate ys.length F).flatten
  | [], _ => by rw [flC]; unfold ConfL; rfl
  | y :: ys, h => by
    rw [flC, List.length_cons, List.replicate_succ, List.flatten_cons]
    exact confL_app2 (h y (List.mem_cons_self ..)) (confL_fl c F ys fun z hz => h z (List.mem_cons_of_mem _ hz))
theorem conf_fl {α : Type} (k : K) {sz : Nat} (c : α → List D) (hsz : k.fields.length = sz) (hc : ∀ x, (c x).length = sz) {ys : List α} (hl : ys.length ≤ maxLen) (h : ∀ y ∈ ys, ConfL (c y) k.fields) : Conf (.rows sz ys.length (flC c ys)) (.sl k) := by
  unfold Conf
  exact ⟨k, rfl, hsz.symm, flC_len hc ys, hl, confL_fl c k.fields ys h⟩
theorem szL_mem {α : Type} (c : α → List D) : ∀ (ys : List α) (y : α), y ∈ ys → szL (c y) ≤ szL (flC c ys)
  | [], y, h => by cases h
  | z :: ys, y, h => by
    rw [flC, szL_append]
    rcases List.mem_cons.mp h with rfl | h
    · omega
    · have := szL_mem c ys y h; omega
end Go.Proofs.Ytgjcilainojlfaa
