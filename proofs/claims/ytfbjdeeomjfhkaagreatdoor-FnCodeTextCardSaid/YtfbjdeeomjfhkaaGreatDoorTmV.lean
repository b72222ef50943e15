/-
  The nodes of terms, of both sides: arguments, names, fields.
-/
import Derived.Test.YtfbjdeeomjfhkaaGreatDoorAll
import Derived.Test.YtfbjdeeomjfhkaaGreatDoorNm
import Derived.Test.YtfbjdeeomjfhkaaGreatDoorEqT
namespace Go.Proofs.YtfbjdeeomjfhkaaGreatDoor
open Go.RowKit
set_option linter.unusedVariables false
set_option linter.unusedSimpArgs false
set_option maxRecDepth 20000
theorem pc (p : Prop) : (p = True) ∨ (p = False) := by
  by_cases h : p
  · exact .inl (eq_true h)
  · exact .inr (eq_false h)
def opAr (s : ByteArray) : Int := if s = ⟨#[43]⟩ then 2 else if s = ⟨#[45]⟩ then 2 else if s = ⟨#[42]⟩ then 2 else if s = ⟨#[61]⟩ then 2 else if s = ⟨#[60]⟩ then 2 else if s = ⟨#[38]⟩ then 2 else if s = ⟨#[124]⟩ then 2 else if s = ⟨#[33]⟩ then 1 else 0
theorem op_cases (s : ByteArray) : ((s = ⟨#[43]⟩) = True ∨ ((s = ⟨#[43]⟩) = False ∧ ((s = ⟨#[45]⟩) = True ∨ ((s = ⟨#[45]⟩) = False ∧ ((s = ⟨#[42]⟩) = True ∨ ((s = ⟨#[42]⟩) = False ∧ ((s = ⟨#[61]⟩) = True ∨ ((s = ⟨#[61]⟩) = False ∧ ((s = ⟨#[60]⟩) = True ∨ ((s = ⟨#[60]⟩) = False ∧ ((s = ⟨#[38]⟩) = True ∨ ((s = ⟨#[38]⟩) = False ∧ ((s = ⟨#[124]⟩) = True ∨ ((s = ⟨#[124]⟩) = False ∧ ((s = ⟨#[33]⟩) = True ∨ (s = ⟨#[33]⟩) = False))))))))))))))) := by
  refine (pc _).imp id fun h0 => ⟨h0, ?_⟩
  refine (pc _).imp id fun h1 => ⟨h1, ?_⟩
  refine (pc _).imp id fun h2 => ⟨h2, ?_⟩
  refine (pc _).imp id fun h3 => ⟨h3, ?_⟩
  refine (pc _).imp id fun h4 => ⟨h4, ?_⟩
  refine (pc _).imp id fun h5 => ⟨h5, ?_⟩
  refine (pc _).imp id fun h6 => ⟨h6, ?_⟩
  exact pc _
theorem opAr_rng (s : ByteArray) : 0 ≤ opAr s ∧ opAr s ≤ 2 := by
  unfold opAr
  rcases op_cases s with h0 | ⟨h0, h1 | ⟨h1, h2 | ⟨h2, h3 | ⟨h3, h4 | ⟨h4, h5 | ⟨h5, h6 | ⟨h6, h7 | h7⟩⟩⟩⟩⟩⟩⟩
  all_goals
    simp only [*, if_true, if_false]
    omega
def ks (k : Int) : Prop := k ≠ 1 ∧ k ≠ 2 ∧ k ≠ 3 ∧ k ≠ 4 ∧ k ≠ 5 ∧ k ≠ 6 ∧ k ≠ 7 ∧ k ≠ 8 ∧ k ≠ 9 ∧ k ≠ 10 ∧ k ≠ 11 ∧ k ≠ 12 ∧ k ≠ 13
theorem k_cases (k : Int) : k = 1 ∨ k = 2 ∨ k = 3 ∨ k = 4 ∨ k = 5 ∨ k = 6 ∨ k = 7 ∨ k = 8 ∨ k = 9 ∨ k = 10 ∨ k = 11 ∨ k = 12 ∨ k = 13 ∨ ((k = 1) = False ∧ (k = 2) = False ∧ (k = 3) = False ∧ (k = 4) = False ∧ (k = 5) = False ∧ (k = 6) = False ∧ (k = 7) = False ∧ (k = 8) = False ∧ (k = 9) = False ∧ (k = 10) = False ∧ (k = 11) = False ∧ (k = 12) = False ∧ (k = 13) = False) := by
  by_cases h : 1 ≤ k ∧ k ≤ 13
  · have : k = 1 ∨ k = 2 ∨ k = 3 ∨ k = 4 ∨ k = 5 ∨ k = 6 ∨ k = 7 ∨ k = 8 ∨ k = 9 ∨ k = 10 ∨ k = 11 ∨ k = 12 ∨ k = 13 := by omega
    rcases this with h | h | h | h | h | h | h | h | h | h | h | h | h
    all_goals simp only [h, true_or, or_true]
  · refine .inr (.inr (.inr (.inr (.inr (.inr (.inr (.inr (.inr (.inr (.inr (.inr (.inr ?_))))))))))))
    refine ⟨?_, ?_, ?_, ?_, ?_, ?_, ?_, ?_, ?_, ?_, ?_, ?_, ?_⟩ <;> exact eq_false (by omega)
def arF (d k : Int) (s : ByteArray) : Int := if k = 1 then 0 else if k = 2 then 0 else if k = 3 then 0 else if k = 4 then opAr s else if k = 5 then 3 else if k = 6 then 1 else if k = 7 then 2 else if k = 8 then 2 else if k = 9 then 1 else if k = 10 then 1 else if k = 11 then 1 else if k = 12 then 1 else if k = 13 then 1 else d
def zB (t : Ty) : Bool := decide (t.kind = 0) && decide ((t.args.length : Int) = 0)
def nmF (k : Int) (s o : ByteArray) : Bool := if k = 4 then decide (0 < opAr s) && decide (o = ⟨#[]⟩) else if k = 1 then nmB s && decide (o = ⟨#[]⟩) else if k = 6 then nmB s && decide (o = ⟨#[]⟩) else if k = 8 then nmB s && decide (o = ⟨#[]⟩) else if k = 9 then nmB s && (nmB o && !decide (s = o)) else decide (s = ⟨#[]⟩) && decide (o = ⟨#[]⟩)
theorem sz_so {t : Tm} {B : Nat} (h : szL (tmC t) ≤ B) : t.name.size ≤ B ∧ t.other.size ≤ B := by
  rw [tmC_eq] at h; simp only [szL, szD] at h; omega
end Go.Proofs.YtfbjdeeomjfhkaaGreatDoor
