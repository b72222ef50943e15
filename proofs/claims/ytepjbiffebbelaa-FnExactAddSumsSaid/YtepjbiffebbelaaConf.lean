/-
  Which rows the kinds have.
-/
import Derived.Test.YtepjbiffebbelaaData
namespace Go.Proofs.Ytepjbiffebbelaa
open Go.RowKit
set_option linter.unusedVariables false

theorem conf_int {x : D} (h : Conf x .int) : ∃ n, x = .int n := by
  match x, h with
  | .int m, _ => exact ⟨m, rfl⟩
  | .any, h => unfold Conf at h; exact h.elim
  | .byt _, h => unfold Conf at h; exact h.elim
  | .bool _, h => unfold Conf at h; cases h
  | .str _, h => unfold Conf at h; cases h
  | .rows _ _ _, h => unfold Conf at h; obtain ⟨k, e, _⟩ := h; cases e
theorem conf_str {x : D} (h : Conf x .str) : ∃ s, x = .str s := by
  match x, h with
  | .str s, _ => exact ⟨s, rfl⟩
  | .any, h => unfold Conf at h; exact h.elim
  | .byt _, h => unfold Conf at h; exact h.elim
  | .bool _, h => unfold Conf at h; cases h
  | .int _, h => unfold Conf at h; cases h
  | .rows _ _ _, h => unfold Conf at h; obtain ⟨k, e, _⟩ := h; cases e
theorem conf_bool {x : D} (h : Conf x .bool) : ∃ b, x = .bool b := by
  match x, h with
  | .bool b, _ => exact ⟨b, rfl⟩
  | .any, h => unfold Conf at h; exact h.elim
  | .byt _, h => unfold Conf at h; exact h.elim
  | .str s, h => unfold Conf at h; cases h
  | .int _, h => unfold Conf at h; cases h
  | .rows _ _ _, h => unfold Conf at h; obtain ⟨k, e, _⟩ := h; cases e

theorem conf_sl {x : D} {k : K} (h : Conf x (.sl k)) : ∃ n cs, x = .rows k.fields.length n cs ∧ cs.length = n * k.fields.length ∧ n ≤ maxLen ∧ ConfL cs (List.replicate n k.fields).flatten := by
  match x, h with
  | .rows sz n cs, h =>
    unfold Conf at h
    obtain ⟨k', e, rfl, h1, h2, h3⟩ := h
    injection e with e
    subst e
    exact ⟨n, cs, rfl, h1, h2, h3⟩
  | .any, h => unfold Conf at h; exact h.elim
  | .byt _, h => unfold Conf at h; exact h.elim
  | .bool _, h => unfold Conf at h; cases h
  | .str s, h => unfold Conf at h; cases h
  | .int _, h => unfold Conf at h; cases h

/-- Are two readings one? -/
noncomputable def eqD (a b : D) : Bool := @decide (a = b) (Classical.propDecidable _)
theorem eqD_t {a b : D} (h : a = b) : eqD a b = true := by unfold eqD; simp [h]
theorem eqD_f {a b : D} (h : a ≠ b) : eqD a b = false := by unfold eqD; simp [h]
noncomputable def eqL (a b : List D) : Bool := @decide (a = b) (Classical.propDecidable _)
theorem eqL_t {a b : List D} (h : a = b) : eqL a b = true := by unfold eqL; simp [h]
theorem eqL_f {a b : List D} (h : a ≠ b) : eqL a b = false := by unfold eqL; simp [h]
theorem conf_ty {ds : List D} (h : ConfL ds K.ty.fields) : ∃ i0 d1, ds = [.int i0, d1] ∧ Conf d1 (.sl .ty) := by
  have hl := ConfL.len _ _ h
  match ds, hl with
  | [x0, x1], _ =>
    have h0 : Conf x0 .int := ConfL.mem _ _ h 0 (by simp) (by simp [K.fields])
    obtain ⟨i0, rfl⟩ := conf_int h0
    have h1 : Conf x1 (.sl .ty) := ConfL.mem _ _ h 1 (by simp) (by simp [K.fields])
    exact ⟨i0, x1, rfl, h1⟩
theorem conf_tm {ds : List D} (h : ConfL ds K.tm.fields) : ∃ i0 s1 s2 i3 i4 d5 i6 d7 d8, ds = [.int i0, .str s1, .str s2, .int i3, .int i4, d5, .int i6, d7, d8] ∧ Conf d5 (.sl .ty) ∧ Conf d7 (.sl .ty) ∧ Conf d8 (.sl .tm) := by
  have hl := ConfL.len _ _ h
  match ds, hl with
  | [x0, x1, x2, x3, x4, x5, x6, x7, x8], _ =>
    have h0 : Conf x0 .int := ConfL.mem _ _ h 0 (by simp) (by simp [K.fields])
    obtain ⟨i0, rfl⟩ := conf_int h0
    have h1 : Conf x1 .str := ConfL.mem _ _ h 1 (by simp) (by simp [K.fields])
    obtain ⟨s1, rfl⟩ := conf_str h1
    have h2 : Conf x2 .str := ConfL.mem _ _ h 2 (by simp) (by simp [K.fields])
    obtain ⟨s2, rfl⟩ := conf_str h2
    have h3 : Conf x3 .int := ConfL.mem _ _ h 3 (by simp) (by simp [K.fields])
    obtain ⟨i3, rfl⟩ := conf_int h3
    have h4 : Conf x4 .int := ConfL.mem _ _ h 4 (by simp) (by simp [K.fields])
    obtain ⟨i4, rfl⟩ := conf_int h4
    have h5 : Conf x5 (.sl .ty) := ConfL.mem _ _ h 5 (by simp) (by simp [K.fields])
    have h6 : Conf x6 .int := ConfL.mem _ _ h 6 (by simp) (by simp [K.fields])
    obtain ⟨i6, rfl⟩ := conf_int h6
    have h7 : Conf x7 (.sl .ty) := ConfL.mem _ _ h 7 (by simp) (by simp [K.fields])
    have h8 : Conf x8 (.sl .tm) := ConfL.mem _ _ h 8 (by simp) (by simp [K.fields])
    exact ⟨i0, s1, s2, i3, i4, x5, i6, x7, x8, rfl, h5, h7, h8⟩
theorem conf_typing {ds : List D} (h : ConfL ds K.typing.fields) : ∃ s0 i1 d2 i3, ds = [.str s0, .int i1, d2, .int i3] ∧ Conf d2 (.sl .ty) := by
  have hl := ConfL.len _ _ h
  match ds, hl with
  | [x0, x1, x2, x3], _ =>
    have h0 : Conf x0 .str := ConfL.mem _ _ h 0 (by simp) (by simp [K.fields])
    obtain ⟨s0, rfl⟩ := conf_str h0
    have h1 : Conf x1 .int := ConfL.mem _ _ h 1 (by simp) (by simp [K.fields])
    obtain ⟨i1, rfl⟩ := conf_int h1
    have h2 : Conf x2 (.sl .ty) := ConfL.mem _ _ h 2 (by simp) (by simp [K.fields])
    have h3 : Conf x3 .int := ConfL.mem _ _ h 3 (by simp) (by simp [K.fields])
    obtain ⟨i3, rfl⟩ := conf_int h3
    exact ⟨s0, i1, x2, i3, rfl, h2⟩
theorem conf_param {ds : List D} (h : ConfL ds K.param.fields) : ∃ s0 i1 d2 b3, ds = [.str s0, .int i1, d2, .bool b3] ∧ Conf d2 (.sl .ty) := by
  have hl := ConfL.len _ _ h
  match ds, hl with
  | [x0, x1, x2, x3], _ =>
    have h0 : Conf x0 .str := ConfL.mem _ _ h 0 (by simp) (by simp [K.fields])
    obtain ⟨s0, rfl⟩ := conf_str h0
    have h1 : Conf x1 .int := ConfL.mem _ _ h 1 (by simp) (by simp [K.fields])
    obtain ⟨i1, rfl⟩ := conf_int h1
    have h2 : Conf x2 (.sl .ty) := ConfL.mem _ _ h 2 (by simp) (by simp [K.fields])
    have h3 : Conf x3 .bool := ConfL.mem _ _ h 3 (by simp) (by simp [K.fields])
    obtain ⟨b3, rfl⟩ := conf_bool h3
    exact ⟨s0, i1, x2, b3, rfl, h2⟩
theorem conf_item {ds : List D} (h : ConfL ds K.item.fields) : ∃ s0 i1, ds = [.str s0, .int i1] := by
  have hl := ConfL.len _ _ h
  match ds, hl with
  | [x0, x1], _ =>
    have h0 : Conf x0 .str := ConfL.mem _ _ h 0 (by simp) (by simp [K.fields])
    obtain ⟨s0, rfl⟩ := conf_str h0
    have h1 : Conf x1 .int := ConfL.mem _ _ h 1 (by simp) (by simp [K.fields])
    obtain ⟨i1, rfl⟩ := conf_int h1
    exact ⟨s0, i1, rfl⟩
theorem conf_instr {ds : List D} (h : ConfL ds K.instr.fields) : ∃ i0 i1, ds = [.int i0, .int i1] := by
  have hl := ConfL.len _ _ h
  match ds, hl with
  | [x0, x1], _ =>
    have h0 : Conf x0 .int := ConfL.mem _ _ h 0 (by simp) (by simp [K.fields])
    obtain ⟨i0, rfl⟩ := conf_int h0
    have h1 : Conf x1 .int := ConfL.mem _ _ h 1 (by simp) (by simp [K.fields])
    obtain ⟨i1, rfl⟩ := conf_int h1
    exact ⟨i0, i1, rfl⟩
theorem conf_entry {ds : List D} (h : ConfL ds K.entry.fields) : ∃ i0 s1 s2 i3 i4 d5 i6 d7 d8 d9, ds = [.int i0, .str s1, .str s2, .int i3, .int i4, d5, .int i6, d7, d8, d9] ∧ Conf d5 (.sl .ty) ∧ Conf d7 (.sl .ty) ∧ Conf d8 (.sl .tm) ∧ Conf d9 (.sl .instr) := by
  have hl := ConfL.len _ _ h
  match ds, hl with
  | [x0, x1, x2, x3, x4, x5, x6, x7, x8, x9], _ =>
    have h0 : Conf x0 .int := ConfL.mem _ _ h 0 (by simp) (by simp [K.fields])
    obtain ⟨i0, rfl⟩ := conf_int h0
    have h1 : Conf x1 .str := ConfL.mem _ _ h 1 (by simp) (by simp [K.fields])
    obtain ⟨s1, rfl⟩ := conf_str h1
    have h2 : Conf x2 .str := ConfL.mem _ _ h 2 (by simp) (by simp [K.fields])
    obtain ⟨s2, rfl⟩ := conf_str h2
    have h3 : Conf x3 .int := ConfL.mem _ _ h 3 (by simp) (by simp [K.fields])
    obtain ⟨i3, rfl⟩ := conf_int h3
    have h4 : Conf x4 .int := ConfL.mem _ _ h 4 (by simp) (by simp [K.fields])
    obtain ⟨i4, rfl⟩ := conf_int h4
    have h5 : Conf x5 (.sl .ty) := ConfL.mem _ _ h 5 (by simp) (by simp [K.fields])
    have h6 : Conf x6 .int := ConfL.mem _ _ h 6 (by simp) (by simp [K.fields])
    obtain ⟨i6, rfl⟩ := conf_int h6
    have h7 : Conf x7 (.sl .ty) := ConfL.mem _ _ h 7 (by simp) (by simp [K.fields])
    have h8 : Conf x8 (.sl .tm) := ConfL.mem _ _ h 8 (by simp) (by simp [K.fields])
    have h9 : Conf x9 (.sl .instr) := ConfL.mem _ _ h 9 (by simp) (by simp [K.fields])
    exact ⟨i0, s1, s2, i3, i4, x5, i6, x7, x8, x9, rfl, h5, h7, h8, h9⟩
theorem conf_shape {ds : List D} (h : ConfL ds K.shape.fields) : ∃ b0 i1 i2 i3, ds = [.bool b0, .int i1, .int i2, .int i3] := by
  have hl := ConfL.len _ _ h
  match ds, hl with
  | [x0, x1, x2, x3], _ =>
    have h0 : Conf x0 .bool := ConfL.mem _ _ h 0 (by simp) (by simp [K.fields])
    obtain ⟨b0, rfl⟩ := conf_bool h0
    have h1 : Conf x1 .int := ConfL.mem _ _ h 1 (by simp) (by simp [K.fields])
    obtain ⟨i1, rfl⟩ := conf_int h1
    have h2 : Conf x2 .int := ConfL.mem _ _ h 2 (by simp) (by simp [K.fields])
    obtain ⟨i2, rfl⟩ := conf_int h2
    have h3 : Conf x3 .int := ConfL.mem _ _ h 3 (by simp) (by simp [K.fields])
    obtain ⟨i3, rfl⟩ := conf_int h3
    exact ⟨b0, i1, i2, i3, rfl⟩
end Go.Proofs.Ytepjbiffebbelaa
