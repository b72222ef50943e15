/-
  Rows of one cell.
-/
import Derived.Test.YtfeldmpddkmidaaConf
namespace Go.Proofs.Ytfeldmpddkmidaa
open Go.RowKit
set_option linter.unusedVariables false
set_option linter.unusedSimpArgs false
theorem conf_strs {ds : List D} (h : ConfL ds K.strs.fields) : ∃ s0, ds = [.str s0] := by
  have hl := ConfL.len _ _ h
  match ds, hl with
  | [x0], _ =>
    have h0 : Conf x0 .str := ConfL.mem _ _ h 0 (by simp) (by simp [K.fields])
    obtain ⟨s0, rfl⟩ := conf_str h0
    exact ⟨s0, rfl⟩
theorem conf_ints {ds : List D} (h : ConfL ds K.ints.fields) : ∃ i0, ds = [.int i0] := by
  have hl := ConfL.len _ _ h
  match ds, hl with
  | [x0], _ =>
    have h0 : Conf x0 .int := ConfL.mem _ _ h 0 (by simp) (by simp [K.fields])
    obtain ⟨i0, rfl⟩ := conf_int h0
    exact ⟨i0, rfl⟩
theorem conf_bools {ds : List D} (h : ConfL ds K.bools.fields) : ∃ b0, ds = [.bool b0] := by
  have hl := ConfL.len _ _ h
  match ds, hl with
  | [x0], _ =>
    have h0 : Conf x0 .bool := ConfL.mem _ _ h 0 (by simp) (by simp [K.fields])
    obtain ⟨b0, rfl⟩ := conf_bool h0
    exact ⟨b0, rfl⟩
end Go.Proofs.Ytfeldmpddkmidaa
