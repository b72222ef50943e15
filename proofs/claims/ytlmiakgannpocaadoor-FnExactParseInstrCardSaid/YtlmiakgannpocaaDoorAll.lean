/-
  All nodes of a type or a term; valid types of the program.
-/
import Derived.Test.YtlmiakgannpocaaDoorTyV
import Derived.Test.YtlmiakgannpocaaDoorTmC
namespace Go.Proofs.YtlmiakgannpocaaDoor
open Go.RowKit
set_option linter.unusedVariables false
set_option linter.unusedSimpArgs false
set_option maxRecDepth 20000
/-! the first element of a kind -/
def fg {α : Type} (p : α → Bool) : List α → Int → Int
  | [], _ => -1
  | x :: xs, i => if p x = true then i else fg p xs (i + 1)
theorem fg_step {α : Type} [Inhabited α] (p : α → Bool) (xs : List α) (k : Nat) (h : k < xs.length) : fg p (xs.drop k) k = if p xs[k]! = true then (k : Int) else fg p (xs.drop (k + 1)) ((k + 1 : Nat) : Int) := by
  rw [List.drop_eq_getElem_cons h, getElem!_pos xs k h]; rfl
theorem fg_end {α : Type} (p : α → Bool) (xs : List α) (k : Nat) (h : xs.length ≤ k) (i : Int) : fg p (xs.drop k) i = -1 := by rw [List.drop_of_length_le h]; rfl
theorem fg_any {α : Type} (p : α → Bool) : ∀ (xs : List α) (i : Int), 0 ≤ i → decide (0 ≤ fg p xs i) = xs.any p
  | [], i, _ => rfl
  | x :: xs, i, h => by
    rw [fg, List.any_cons]
    cases e : p x
    · rw [if_neg (by simp), fg_any p xs (i + 1) (by omega)]; rfl
    · rw [if_pos rfl, decide_eq_true h]; rfl
mutual
def allTy (p : Ty → Bool) : Ty → Bool
  | .mk k xs => p (.mk k xs) && allTys p xs
def allTys (p : Ty → Bool) : List Ty → Bool
  | [] => true
  | x :: xs => allTy p x && allTys p xs
end
theorem allTys_any (p : Ty → Bool) : ∀ xs : List Ty, allTys p xs = !xs.any fun x => !allTy p x
  | [] => rfl
  | x :: xs => by rw [allTys, List.any_cons, allTys_any p xs]; cases allTy p x <;> simp
mutual
def allTm (p : Tm → Bool) : Tm → Bool
  | .mk k s o n t r xs => p (.mk k s o n t r xs) && allTms p xs
def allTms (p : Tm → Bool) : List Tm → Bool
  | [] => true
  | x :: xs => allTm p x && allTms p xs
end
theorem allTms_any (p : Tm → Bool) : ∀ xs : List Tm, allTms p xs = !xs.any fun x => !allTm p x
  | [] => rfl
  | x :: xs => by rw [allTms, List.any_cons, allTms_any p xs]; cases allTm p x <;> simp
theorem allTm_eq (p : Tm → Bool) (t : Tm) : allTm p t = (p t && allTms p t.args) := by obtain ⟨k, s, o, n, ty, r, xs⟩ := t; rw [allTm]; rfl
def shTy (t : Ty) : Bool := shB t.kind t.args.length
mutual
theorem formT_all : ∀ t : Ty, formT t = allTy shTy t
  | .mk k xs => by rw [formT, allTy, formTs_all xs]; show _ = (shB k xs.length && _); rw [Bool.and_comm]
theorem formTs_all : ∀ xs : List Ty, formTs xs = allTys shTy xs
  | [] => by rw [formTs, allTys]
  | x :: xs => by rw [formTs, allTys, formT_all x, formTs_all xs]
end
end Go.Proofs.YtlmiakgannpocaaDoor
