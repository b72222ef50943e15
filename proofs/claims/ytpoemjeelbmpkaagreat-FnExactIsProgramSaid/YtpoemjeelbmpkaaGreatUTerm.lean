/-
  The laws' own helpers on a Term.
-/
import Derived.Test.YtpoemjeelbmpkaaGreatUBase
import Derived.Test.YtpoemjeelbmpkaaGreatHEqTm
namespace Go.Proofs.YtpoemjeelbmpkaaGreat
open Go.RowKit
set_option linter.unusedVariables false
theorem cf_Term {ds : List D} (h : ConfL ds K.tm.fields) : ∃ i0 s1 s2 i3 i4 d5 i6 d7 d8, ds = [.int i0, .str s1, .str s2, .int i3, .int i4, d5, .int i6, d7, d8] ∧ Conf d5 (.sl .ty) ∧ Conf d7 (.sl .ty) ∧ Conf d8 (.sl .tm) := by
  have hl := ConfL.len _ _ h
  match ds, hl with
  | [x0, x1, x2, x3, x4, x5, x6, x7, x8], _ =>
    have h0 : Conf x0 .int := ConfL.mem _ _ h 0 (by simp) (by simp [K.fields])
    obtain ⟨i0, rfl⟩ := conf_int h0
    have h1 : Conf x1 .str := ConfL.mem _ _ h 1 (by simp) (by simp [K.fields])
    obtain ⟨s1, rfl⟩ := conf_str h1
    have h2 : Conf x2 .str := ConfL.mem _ _ h 2 (by simp) (by simp [K.fields])
    obtain ⟨s2, rfl⟩ := conf_str h2
    have h3 : Conf x3 .int := ConfL.mem _ _ h 3 (by simp) (by simp [K.fields])
    obtain ⟨i3, rfl⟩ := conf_int h3
    have h4 : Conf x4 .int := ConfL.mem _ _ h 4 (by simp) (by simp [K.fields])
    obtain ⟨i4, rfl⟩ := conf_int h4
    have h5 : Conf x5 (.sl .ty) := ConfL.mem _ _ h 5 (by simp) (by simp [K.fields])
    have h6 : Conf x6 .int := ConfL.mem _ _ h 6 (by simp) (by simp [K.fields])
    obtain ⟨i6, rfl⟩ := conf_int h6
    have h7 : Conf x7 (.sl .ty) := ConfL.mem _ _ h 7 (by simp) (by simp [K.fields])
    have h8 : Conf x8 (.sl .tm) := ConfL.mem _ _ h 8 (by simp) (by simp [K.fields])
    exact ⟨i0, s1, s2, i3, i4, x5, i6, x7, x8, rfl, h5, h7, h8⟩
theorem U_szTerm {ds : List D} {vs : List Value} {w : World} {left : Int} (hc : ConfL ds K.tm.fields) (hs : StrBL ds) (hr : RepVs w w.heap.size ds vs) (h0 : 0 ≤ left) (h1 : left ≤ 1048576) :
    Calls Tryz.prog 4 #[.agg vs.toArray, .int .i64 left] w fun e w' => e = .returned (.int .i64 (szR left (szL ds))) ∧ Below w.heap.size w w' := by
  obtain ⟨i0, s1, s2, i3, i4, d5, i6, d7, d8, rfl, cf5, cf7, cf8⟩ := cf_Term hc
  obtain ⟨v0, r0, rfl, q0, hr0⟩ := hr.cons1
  obtain rfl := rep_int q0
  obtain ⟨v1, r1, rfl, q1, hr1⟩ := hr0.cons1
  obtain rfl := rep_str q1
  obtain ⟨v2, r2, rfl, q2, hr2⟩ := hr1.cons1
  obtain rfl := rep_str q2
  obtain ⟨v3, r3, rfl, q3, hr3⟩ := hr2.cons1
  obtain rfl := rep_int q3
  obtain ⟨v4, r4, rfl, q4, hr4⟩ := hr3.cons1
  obtain rfl := rep_int q4
  obtain ⟨v5, r5, rfl, q5, hr5⟩ := hr4.cons1
  obtain ⟨v6, r6, rfl, q6, hr6⟩ := hr5.cons1
  obtain rfl := rep_int q6
  obtain ⟨v7, r7, rfl, q7, hr7⟩ := hr6.cons1
  obtain ⟨v8, r8, rfl, q8, hr8⟩ := hr7.cons1
  obtain rfl := hr8.nil1
  obtain ⟨sb0, hs0⟩ := hs.cons1
  obtain ⟨sb1, hs1⟩ := hs0.cons1
  obtain ⟨sb2, hs2⟩ := hs1.cons1
  obtain ⟨sb3, hs3⟩ := hs2.cons1
  obtain ⟨sb4, hs4⟩ := hs3.cons1
  obtain ⟨sb5, hs5⟩ := hs4.cons1
  obtain ⟨sb6, hs6⟩ := hs5.cons1
  obtain ⟨sb7, hs7⟩ := hs6.cons1
  obtain ⟨sb8, hs8⟩ := hs7.cons1
  exact szTerm_of i0 s1 s2 i3 i4 d5 i6 d7 d8 v5 v7 v8 w.heap.size w left (szTypeS_all _ cf5 sb5) q5 (szTypeS_all _ cf7 sb7) q7 (szTermS_all _ cf8 sb8) q8 (Nat.le_refl _) h0 h1 (strB_str sb1) (strB_str sb2)
theorem U_toTerm {ds : List D} {vs : List Value} {w : World} (g : GivL w K.tm.fields ds vs) :
    Calls Tryz.prog 6 #[.agg vs.toArray] w fun e w' => ∃ us, e = .returned (.agg us.toArray) ∧ FreshL w' w.heap.size ds us ∧ Below w.heap.size w w' := by
  obtain ⟨hc, _, hz, hr⟩ := g
  obtain ⟨i0, s1, s2, i3, i4, d5, i6, d7, d8, rfl, cf5, cf7, cf8⟩ := cf_Term hc
  obtain ⟨v0, r0, rfl, q0, hr0⟩ := hr.cons1
  obtain rfl := rep_int q0
  obtain ⟨v1, r1, rfl, q1, hr1⟩ := hr0.cons1
  obtain rfl := rep_str q1
  obtain ⟨v2, r2, rfl, q2, hr2⟩ := hr1.cons1
  obtain rfl := rep_str q2
  obtain ⟨v3, r3, rfl, q3, hr3⟩ := hr2.cons1
  obtain rfl := rep_int q3
  obtain ⟨v4, r4, rfl, q4, hr4⟩ := hr3.cons1
  obtain rfl := rep_int q4
  obtain ⟨v5, r5, rfl, q5, hr5⟩ := hr4.cons1
  obtain ⟨v6, r6, rfl, q6, hr6⟩ := hr5.cons1
  obtain rfl := rep_int q6
  obtain ⟨v7, r7, rfl, q7, hr7⟩ := hr6.cons1
  obtain ⟨v8, r8, rfl, q8, hr8⟩ := hr7.cons1
  obtain rfl := hr8.nil1
  refine (toTerm_of i0 s1 s2 i3 i4 d5 i6 d7 d8 v5 v7 v8 w.heap.size w (toTypeS_all _ cf5) q5 (toTypeS_all _ cf7) q7 (toTermS_all _ cf8) q8 (Nat.le_refl _) hz).mono ?_
  rintro e w' ⟨a5, n5, c5, a7, n7, c7, a8, n8, c8, rfl, hf, hb⟩
  exact ⟨_, rfl, hf, hb⟩
theorem U_eqTerm {ds es : List D} {vs us : List Value} {w : World} (hc : ConfL ds K.tm.fields) (hc' : ConfL es K.tm.fields) (hr : RepVs w w.heap.size ds vs) (hr' : RepVs w w.heap.size es us) :
    Calls Tryz.prog 8 #[.agg vs.toArray, .agg us.toArray] w fun e w' => e = .returned (.bool (eqL ds es)) ∧ Below w.heap.size w w' := by
  obtain ⟨i0x, s1x, s2x, i3x, i4x, d5x, i6x, d7x, d8x, rfl, cf5x, cf7x, cf8x⟩ := cf_Term hc
  obtain ⟨i0y, s1y, s2y, i3y, i4y, d5y, i6y, d7y, d8y, rfl, cf5y, cf7y, cf8y⟩ := cf_Term hc'
  obtain ⟨v0x, r0x, rfl, q0x, hr0x⟩ := hr.cons1
  obtain rfl := rep_int q0x
  obtain ⟨v1x, r1x, rfl, q1x, hr1x⟩ := hr0x.cons1
  obtain rfl := rep_str q1x
  obtain ⟨v2x, r2x, rfl, q2x, hr2x⟩ := hr1x.cons1
  obtain rfl := rep_str q2x
  obtain ⟨v3x, r3x, rfl, q3x, hr3x⟩ := hr2x.cons1
  obtain rfl := rep_int q3x
  obtain ⟨v4x, r4x, rfl, q4x, hr4x⟩ := hr3x.cons1
  obtain rfl := rep_int q4x
  obtain ⟨v5x, r5x, rfl, q5x, hr5x⟩ := hr4x.cons1
  obtain ⟨v6x, r6x, rfl, q6x, hr6x⟩ := hr5x.cons1
  obtain rfl := rep_int q6x
  obtain ⟨v7x, r7x, rfl, q7x, hr7x⟩ := hr6x.cons1
  obtain ⟨v8x, r8x, rfl, q8x, hr8x⟩ := hr7x.cons1
  obtain rfl := hr8x.nil1
  obtain ⟨v0y, r0y, rfl, q0y, hr'0y⟩ := hr'.cons1
  obtain rfl := rep_int q0y
  obtain ⟨v1y, r1y, rfl, q1y, hr'1y⟩ := hr'0y.cons1
  obtain rfl := rep_str q1y
  obtain ⟨v2y, r2y, rfl, q2y, hr'2y⟩ := hr'1y.cons1
  obtain rfl := rep_str q2y
  obtain ⟨v3y, r3y, rfl, q3y, hr'3y⟩ := hr'2y.cons1
  obtain rfl := rep_int q3y
  obtain ⟨v4y, r4y, rfl, q4y, hr'4y⟩ := hr'3y.cons1
  obtain rfl := rep_int q4y
  obtain ⟨v5y, r5y, rfl, q5y, hr'5y⟩ := hr'4y.cons1
  obtain ⟨v6y, r6y, rfl, q6y, hr'6y⟩ := hr'5y.cons1
  obtain rfl := rep_int q6y
  obtain ⟨v7y, r7y, rfl, q7y, hr'7y⟩ := hr'6y.cons1
  obtain ⟨v8y, r8y, rfl, q8y, hr'8y⟩ := hr'7y.cons1
  obtain rfl := hr'8y.nil1
  exact eqTerm_of i0x s1x s2x i3x i4x d5x i6x d7x d8x i0y s1y s2y i3y i4y d5y i6y d7y d8y v5x v7x v8x v5y v7y v8y w.heap.size w.heap.size w (eqTypeS_all _ cf5x) cf5y q5x q5y (eqTypeS_all _ cf7x) cf7y q7x q7y (eqTermS_all _ cf8x) cf8y q8x q8y (Nat.le_refl _) (Nat.le_refl _)
theorem U_eqsTerm {ds : List D} {vs us : List Value} {w : World} (hc : ConfL ds K.tm.fields) (hr : RepVs w w.heap.size ds vs) (hr' : RepVs w w.heap.size ds us) :
    Calls Tryz.prog 8 #[.agg vs.toArray, .agg us.toArray] w fun e w' => e = .returned (.bool true) ∧ Below w.heap.size w w' := by
  have h := U_eqTerm hc hc hr hr'
  rwa [eqL_refl] at h
end Go.Proofs.YtpoemjeelbmpkaaGreat
