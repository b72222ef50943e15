/-
  The laws' own helpers on a Instr.
-/
import Derived.Test.YtlmiakgannpocaaDoorUBase
import Derived.Test.YtlmiakgannpocaaDoorHToL
import Derived.Test.YtlmiakgannpocaaDoorHEqL
namespace Go.Proofs.YtlmiakgannpocaaDoor
open Go.RowKit
set_option linter.unusedVariables false
theorem cf_Instr {ds : List D} (h : ConfL ds K.instr.fields) : ∃ i0 i1, ds = [.int i0, .int i1] := by
  have hl := ConfL.len _ _ h
  match ds, hl with
  | [x0, x1], _ =>
    have h0 : Conf x0 .int := ConfL.mem _ _ h 0 (by simp) (by simp [K.fields])
    obtain ⟨i0, rfl⟩ := conf_int h0
    have h1 : Conf x1 .int := ConfL.mem _ _ h 1 (by simp) (by simp [K.fields])
    obtain ⟨i1, rfl⟩ := conf_int h1
    exact ⟨i0, i1, rfl⟩
theorem shape_Instr {w : World} {S : Nat} {ds : List D} {vs : List Value} (hc : ConfL ds K.instr.fields) (hr : RepVs w S ds vs) : ∃ i0 i1, vs = [.int .i64 i0, .int .i64 i1] := by
  obtain ⟨i0, i1, rfl⟩ := cf_Instr hc
  obtain ⟨v0, r0, rfl, q0, hr0⟩ := hr.cons1
  obtain rfl := rep_int q0
  obtain ⟨v1, r1, rfl, q1, hr1⟩ := hr0.cons1
  obtain rfl := rep_int q1
  obtain rfl := hr1.nil1
  exact ⟨i0, i1, rfl⟩
end Go.Proofs.YtlmiakgannpocaaDoor
