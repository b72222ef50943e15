/-
  Equal types and terms, of both sides.
-/
import Derived.Test.YtfbjdeeomjfhkaaGreatDoorTyC
import Derived.Test.YtfbjdeeomjfhkaaGreatDoorLst
namespace Go.Proofs.YtfbjdeeomjfhkaaGreatDoor
open Go.RowKit
set_option linter.unusedVariables false
set_option linter.unusedSimpArgs false
set_option maxRecDepth 20000
theorem sz_partsE {t : Tm} {B : Nat} (h : szL (tmC t) ≤ B) : szL (tyC t.ty) ≤ B ∧ szL (tyC t.res) ≤ B ∧ t.args.length + szL (tmsC t.args) ≤ B := by
  rw [tmC_eq] at h; rw [tyC_eq, tyC_eq]; simp only [szL, szD, tysD, tmsD] at h ⊢; omega
/-- Whether two lists are alike, element by element. -/
def likeL {α : Type} (f : α → α → Bool) : List α → List α → Bool
  | [], [] => true
  | x :: xs, y :: ys => f x y && likeL f xs ys
  | [], _ :: _ => false
  | _ :: _, [] => false
theorem likeL_ne {α : Type} (f : α → α → Bool) : ∀ xs ys : List α, xs.length ≠ ys.length → likeL f xs ys = false
  | [], [], h => absurd rfl h
  | x :: xs, y :: ys, h => by rw [likeL, likeL_ne f xs ys (by simpa using h), Bool.and_false]
  | [], _ :: _, _ => rfl
  | _ :: _, [], _ => rfl
theorem likeL_step {α : Type} [Inhabited α] (f : α → α → Bool) (xs ys : List α) (k : Nat) (h : k < xs.length) (h2 : k < ys.length) : likeL f (xs.drop k) (ys.drop k) = (f xs[k]! ys[k]! && likeL f (xs.drop (k + 1)) (ys.drop (k + 1))) := by
  rw [List.drop_eq_getElem_cons h, List.drop_eq_getElem_cons h2, likeL, getElem!_pos xs k h, getElem!_pos ys k h2]
theorem likeL_end {α : Type} (f : α → α → Bool) (xs ys : List α) (k : Nat) (h : xs.length ≤ k) (h2 : ys.length ≤ k) : likeL f (xs.drop k) (ys.drop k) = true := by
  rw [List.drop_of_length_le h, List.drop_of_length_le h2]; rfl
mutual
def eqTy : Ty → Ty → Bool
  | .mk k xs, .mk l ys => decide (k = l) && eqTys xs ys
def eqTys : List Ty → List Ty → Bool
  | [], [] => true
  | x :: xs, y :: ys => eqTy x y && eqTys xs ys
  | [], _ :: _ => false
  | _ :: _, [] => false
end
theorem eqTys_L : ∀ xs ys : List Ty, eqTys xs ys = likeL eqTy xs ys
  | [], [] => by rw [eqTys, likeL]
  | x :: xs, y :: ys => by rw [eqTys, likeL, eqTys_L xs ys]
  | [], _ :: _ => by rw [eqTys, likeL]
  | _ :: _, [] => by rw [eqTys, likeL]
mutual
def eqTm : Tm → Tm → Bool
  | .mk k s o n t r xs, .mk k2 s2 o2 n2 t2 r2 ys => decide (k = k2) && (decide (s = s2) && (decide (o = o2) && (decide (n = n2) && (eqTy t t2 && (eqTy r r2 && eqTms xs ys)))))
def eqTms : List Tm → List Tm → Bool
  | [], [] => true
  | x :: xs, y :: ys => eqTm x y && eqTms xs ys
  | [], _ :: _ => false
  | _ :: _, [] => false
end
theorem eqTms_L : ∀ xs ys : List Tm, eqTms xs ys = likeL eqTm xs ys
  | [], [] => by rw [eqTms, likeL]
  | x :: xs, y :: ys => by rw [eqTms, likeL, eqTms_L xs ys]
  | [], _ :: _ => by rw [eqTms, likeL]
  | _ :: _, [] => by rw [eqTms, likeL]
theorem eqTm_eq (a b : Tm) : eqTm a b = (decide (a.kind = b.kind) && (decide (a.name = b.name) && (decide (a.other = b.other) && (decide (a.n = b.n) && (eqTy a.ty b.ty && (eqTy a.res b.res && likeL eqTm a.args b.args)))))) := by
  obtain ⟨k, s, o, n, t, r, xs⟩ := a
  obtain ⟨k2, s2, o2, n2, t2, r2, ys⟩ := b
  rw [eqTm, eqTms_L]; rfl
theorem eqTy_eq (a b : Ty) : eqTy a b = (decide (a.kind = b.kind) && likeL eqTy a.args b.args) := by
  obtain ⟨k, xs⟩ := a
  obtain ⟨k2, ys⟩ := b
  rw [eqTy, eqTys_L]; rfl
end Go.Proofs.YtfbjdeeomjfhkaaGreatDoor
