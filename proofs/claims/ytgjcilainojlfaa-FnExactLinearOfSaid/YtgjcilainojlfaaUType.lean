/-
  The laws' own helpers on a Type.
-/
import Derived.Test.YtgjcilainojlfaaUBase
import Derived.Test.YtgjcilainojlfaaHSzTy
import Derived.Test.YtgjcilainojlfaaHToTy
import Derived.Test.YtgjcilainojlfaaHEqTy
namespace Go.Proofs.Ytgjcilainojlfaa
open Go.RowKit
set_option linter.unusedVariables false
theorem cf_Type {ds : List D} (h : ConfL ds K.ty.fields) : ∃ i0 d1, ds = [.int i0, d1] ∧ Conf d1 (.sl .ty) := by
  have hl := ConfL.len _ _ h
  match ds, hl with
  | [x0, x1], _ =>
    have h0 : Conf x0 .int := ConfL.mem _ _ h 0 (by simp) (by simp [K.fields])
    obtain ⟨i0, rfl⟩ := conf_int h0
    have h1 : Conf x1 (.sl .ty) := ConfL.mem _ _ h 1 (by simp) (by simp [K.fields])
    exact ⟨i0, x1, rfl, h1⟩
end Go.Proofs.Ytgjcilainojlfaa
