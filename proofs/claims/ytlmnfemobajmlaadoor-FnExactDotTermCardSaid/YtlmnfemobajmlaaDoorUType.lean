/-
  The laws' own helpers on a Type.
-/
import Derived.Test.YtlmnfemobajmlaaDoorUBase
import Derived.Test.YtlmnfemobajmlaaDoorHSzTy
import Derived.Test.YtlmnfemobajmlaaDoorHToTy
import Derived.Test.YtlmnfemobajmlaaDoorHEqTy
namespace Go.Proofs.YtlmnfemobajmlaaDoor
open Go.RowKit
set_option linter.unusedVariables false
theorem cf_Type {ds : List D} (h : ConfL ds K.ty.fields) : ∃ i0 d1, ds = [.int i0, d1] ∧ Conf d1 (.sl .ty) := by
  have hl := ConfL.len _ _ h
  match ds, hl with
  | [x0, x1], _ =>
    have h0 : Conf x0 .int := ConfL.mem _ _ h 0 (by simp) (by simp [K.fields])
    obtain ⟨i0, rfl⟩ := conf_int h0
    have h1 : Conf x1 (.sl .ty) := ConfL.mem _ _ h 1 (by simp) (by simp [K.fields])
    exact ⟨i0, x1, rfl, h1⟩
theorem shape_Type {w : World} {S : Nat} {ds : List D} {vs : List Value} (hc : ConfL ds K.ty.fields) (hr : RepVs w S ds vs) : ∃ i0 a1 n1 c1, vs = [.int .i64 i0, .slice a1 n1 c1] := by
  obtain ⟨i0, d1, rfl, cf1⟩ := cf_Type hc
  obtain ⟨v0, r0, rfl, q0, hr0⟩ := hr.cons1
  obtain rfl := rep_int q0
  obtain ⟨v1, r1, rfl, q1, hr1⟩ := hr0.cons1
  obtain rfl := hr1.nil1
  obtain ⟨a1, n1, c1, rfl⟩ := rep_sl cf1 q1
  exact ⟨i0, a1, n1, c1, rfl⟩
theorem U_eqType {ds es : List D} {vs us : List Value} {w : World} (hc : ConfL ds K.ty.fields) (hc' : ConfL es K.ty.fields) (hr : RepVs w w.heap.size ds vs) (hr' : RepVs w w.heap.size es us) :
    Calls Tryd.prog 41 #[.agg vs.toArray, .agg us.toArray] w fun e w' => e = .returned (.bool (eqL ds es)) ∧ Below w.heap.size w w' := by
  obtain ⟨i0x, d1x, rfl, cf1x⟩ := cf_Type hc
  obtain ⟨i0y, d1y, rfl, cf1y⟩ := cf_Type hc'
  obtain ⟨v0x, r0x, rfl, q0x, hr0x⟩ := hr.cons1
  obtain rfl := rep_int q0x
  obtain ⟨v1x, r1x, rfl, q1x, hr1x⟩ := hr0x.cons1
  obtain rfl := hr1x.nil1
  obtain ⟨v0y, r0y, rfl, q0y, hr'0y⟩ := hr'.cons1
  obtain rfl := rep_int q0y
  obtain ⟨v1y, r1y, rfl, q1y, hr'1y⟩ := hr'0y.cons1
  obtain rfl := hr'1y.nil1
  exact eqType_of i0x d1x i0y d1y v1x v1y w.heap.size w.heap.size w (eqTypeS_all _ cf1x) cf1y q1x q1y (Nat.le_refl _) (Nat.le_refl _)
theorem U_eqsType {ds : List D} {vs us : List Value} {w : World} (hc : ConfL ds K.ty.fields) (hr : RepVs w w.heap.size ds vs) (hr' : RepVs w w.heap.size ds us) :
    Calls Tryd.prog 41 #[.agg vs.toArray, .agg us.toArray] w fun e w' => e = .returned (.bool true) ∧ Below w.heap.size w w' := by
  have h := U_eqType hc hc hr hr'
  rwa [eqL_refl] at h
end Go.Proofs.YtlmnfemobajmlaaDoor
