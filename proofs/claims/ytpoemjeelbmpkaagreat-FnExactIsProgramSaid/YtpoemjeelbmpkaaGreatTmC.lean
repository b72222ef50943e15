/-
  Without stages, in plain data.
-/
import Derived.Test.YtpoemjeelbmpkaaGreatLst
import Derived.Test.YtpoemjeelbmpkaaGreatTyC
namespace Go.Proofs.YtpoemjeelbmpkaaGreat
open Go.RowKit
set_option linter.unusedVariables false
theorem szL_tm (t : Tm) : szL (tmC t) = t.name.size + t.other.size + szL (tyC t.ty) + szL (tyC t.res) + (t.args.length + szL (tmsC t.args)) := by
  obtain ⟨k, s, o, n, ty, r, xs⟩ := t
  simp only [tmC, szL, szD, szL_append, Tm.name, Tm.other, Tm.ty, Tm.res, Tm.args]
  omega
theorem map_bang {α β : Type} [Inhabited α] [Inhabited β] (f : α → β) {xs : List α} {k : Nat} (h : k < xs.length) : (xs.map f)[k]! = f xs[k]! := by
  rw [getElem!_pos xs k h, getElem!_pos (xs.map f) k (by simpa using h), List.getElem_map]
end Go.Proofs.YtpoemjeelbmpkaaGreat
/-
  Copies of terms, of the reference and of the program.
-/
namespace Go.Proofs.YtpoemjeelbmpkaaGreat
open Go.RowKit
set_option linter.unusedVariables false
set_option linter.unusedSimpArgs false
set_option maxRecDepth 20000
theorem sz_parts {t : Tm} {B : Nat} (h : szL (tmC t) ≤ B) : szL (tyC t.ty) ≤ B ∧ szL (tyC t.res) ≤ B ∧ t.args.length + szL (tmsC t.args) ≤ B := by
  rw [szL_tm] at h; omega
end Go.Proofs.YtpoemjeelbmpkaaGreat
