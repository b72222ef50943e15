/-
  The laws' own helpers on a Sum.
-/
import Derived.Test.YtgjcilainojlfaaUBase
import Derived.Test.YtgjcilainojlfaaHEqL
namespace Go.Proofs.Ytgjcilainojlfaa
open Go.RowKit
set_option linter.unusedSimpArgs false
set_option linter.unusedVariables false
set_option linter.unusedVariables false
theorem cf_Sum {ds : List D} (h : ConfL ds [.int, .sl .item]) : ∃ i0 d1, ds = [.int i0, d1] ∧ Conf d1 (.sl .item) := by
  have hl := ConfL.len _ _ h
  match ds, hl with
  | [x0, x1], _ =>
    have h0 : Conf x0 .int := ConfL.mem _ _ h 0 (by simp) (by simp [K.fields])
    obtain ⟨i0, rfl⟩ := conf_int h0
    have h1 : Conf x1 (.sl .item) := ConfL.mem _ _ h 1 (by simp) (by simp [K.fields])
    exact ⟨i0, x1, rfl, h1⟩
theorem U_eqSum {ds es : List D} {vs us : List Value} {w : World} (hc : ConfL ds [.int, .sl .item]) (hc' : ConfL es [.int, .sl .item]) (hr : RepVs w w.heap.size ds vs) (hr' : RepVs w w.heap.size es us) :
    Calls Try.prog 10 #[.agg vs.toArray, .agg us.toArray] w fun e w' => e = .returned (.bool (eqL ds es)) ∧ Below w.heap.size w w' := by
  obtain ⟨i0x, d1x, rfl, cf1x⟩ := cf_Sum hc
  obtain ⟨i0y, d1y, rfl, cf1y⟩ := cf_Sum hc'
  obtain ⟨v0x, r0x, rfl, q0x, hr0x⟩ := hr.cons1
  obtain rfl := rep_int q0x
  obtain ⟨v1x, r1x, rfl, q1x, hr1x⟩ := hr0x.cons1
  obtain rfl := hr1x.nil1
  obtain ⟨v0y, r0y, rfl, q0y, hr'0y⟩ := hr'.cons1
  obtain rfl := rep_int q0y
  obtain ⟨v1y, r1y, rfl, q1y, hr'1y⟩ := hr'0y.cons1
  obtain rfl := hr'1y.nil1
  exact eqSum_of i0x d1x i0y d1y v1x v1y w.heap.size w.heap.size w (eqItemS_all _ cf1x) cf1y q1x q1y (Nat.le_refl _) (Nat.le_refl _)
theorem U_eqsSum {ds : List D} {vs us : List Value} {w : World} (hc : ConfL ds [.int, .sl .item]) (hr : RepVs w w.heap.size ds vs) (hr' : RepVs w w.heap.size ds us) :
    Calls Try.prog 10 #[.agg vs.toArray, .agg us.toArray] w fun e w' => e = .returned (.bool true) ∧ Below w.heap.size w w' := by
  have h := U_eqSum hc hc hr hr'
  rwa [eqL_refl] at h
end Go.Proofs.Ytgjcilainojlfaa
