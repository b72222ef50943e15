/-
  Sizes and depths of types, valid types of the reference, of both sides as far as they go.
-/
import Derived.Test.YtfbjdeeomjfhkaaGreatDoorTyC
import Derived.Test.YtfbjdeeomjfhkaaGreatDoorLst
import Derived.Test.YtfbjdeeomjfhkaaGreatDoorTmC
namespace Go.Proofs.YtfbjdeeomjfhkaaGreatDoor
open Go.RowKit
set_option linter.unusedVariables false
set_option linter.unusedSimpArgs false
set_option maxRecDepth 20000
mutual
def szT : Ty → Nat
  | .mk _ xs => 1 + szTs xs
def szTs : List Ty → Nat
  | [] => 0
  | x :: xs => szT x + szTs xs
end
mutual
def depT : Ty → Nat
  | .mk _ xs => depTs xs + 1
def depTs : List Ty → Nat
  | [] => 0
  | x :: xs => max (depT x) (depTs xs)
end
theorem szTs_app : ∀ (a b : List Ty), szTs (a ++ b) = szTs a + szTs b
  | [], b => by rw [List.nil_append, szTs]; omega
  | x :: a, b => by rw [List.cons_append, szTs, szTs, szTs_app a b]; omega
theorem depTs_app : ∀ (a b : List Ty), depTs (a ++ b) = max (depTs a) (depTs b)
  | [], b => by rw [List.nil_append, depTs]; omega
  | x :: a, b => by rw [List.cons_append, depTs, depTs, depTs_app a b]; omega
theorem szTs_snoc (xs : List Ty) (k : Nat) (h : k < xs.length) : szTs (xs.take (k + 1)) = szTs (xs.take k) + szT xs[k]! := by
  rw [take_snoc xs k h, szTs_app, szTs, szTs]; omega
theorem depTs_snoc (xs : List Ty) (k : Nat) (h : k < xs.length) : depTs (xs.take (k + 1)) = max (depTs (xs.take k)) (depT xs[k]!) := by
  rw [take_snoc xs k h, depTs_app, depTs, depTs]; omega
mutual
theorem szT_le : ∀ t : Ty, szT t ≤ szL (tyC t) + 1
  | .mk k xs => by
    have h := szTs_le xs
    simp only [tyC, szL, szD]
    rw [szT]; omega
theorem szTs_le : ∀ xs : List Ty, szTs xs ≤ szL (tysC xs) + xs.length
  | [] => by rw [szTs]; omega
  | x :: xs => by
    have h1 := szT_le x
    have h2 := szTs_le xs
    rw [szTs, tysC, szL_append, List.length_cons]; omega
end
mutual
theorem depT_le : ∀ t : Ty, depT t ≤ szT t
  | .mk k xs => by have h := depTs_le xs; rw [depT, szT]; omega
theorem depTs_le : ∀ xs : List Ty, depTs xs ≤ szTs xs
  | [] => by rw [depTs]; omega
  | x :: xs => by
    have h1 := depT_le x
    have h2 := depTs_le xs
    rw [depTs, szTs]; omega
end
theorem szTs_take (xs : List Ty) (k : Nat) : szTs (xs.take k) ≤ szTs xs := by
  have e : szTs xs = szTs (xs.take k) + szTs (xs.drop k) := by rw [← szTs_app, List.take_append_drop]
  omega
theorem depTs_take (xs : List Ty) (k : Nat) : depTs (xs.take k) ≤ depTs xs := by
  have e : depTs xs = max (depTs (xs.take k)) (depTs (xs.drop k)) := by rw [← depTs_app, List.take_append_drop]
  omega
mutual
/-- What is left of a bound behind a type's nodes; below 0 it is passed. -/
def lfT : Ty → Int → Int
  | .mk _ xs, l => lfTs xs (l - 1)
def lfTs : List Ty → Int → Int
  | [], l => l
  | x :: xs, l => if l < 0 then l else lfTs xs (lfT x l)
end
mutual
theorem lfT_ok : ∀ (t : Ty) (l : Int), (l < szT t → lfT t l < 0) ∧ (szT t ≤ l → lfT t l = l - szT t)
  | .mk k xs, l => by
    have h := lfTs_ok xs (l - 1)
    rw [lfT, szT]
    refine ⟨fun h1 => h.1 (by omega), fun h1 => ?_⟩
    rw [h.2 (by omega) (by omega)]; omega
theorem lfTs_ok : ∀ (xs : List Ty) (l : Int), (l < szTs xs → lfTs xs l < 0) ∧ (0 ≤ l → szTs xs ≤ l → lfTs xs l = l - szTs xs)
  | [], l => by rw [lfTs, szTs]; exact ⟨fun h => by omega, fun _ _ => by omega⟩
  | x :: xs, l => by
    have h1 := lfT_ok x l
    have h2 := lfTs_ok xs (lfT x l)
    rw [lfTs, szTs]
    by_cases h0 : l < 0
    · rw [if_pos h0]; exact ⟨fun _ => h0, fun h _ => by omega⟩
    · rw [if_neg h0]
      by_cases h3 : (szT x : Int) ≤ l
      · have h4 := h1.2 h3
        exact ⟨fun h => h2.1 (by omega), fun _ h => by rw [h2.2 (by omega) (by omega)]; omega⟩
      · have h4 := h1.1 (by omega)
        have h5 : lfTs xs (lfT x l) < 0 := by
          cases xs with
          | nil => rw [lfTs]; exact h4
          | cons y ys => rw [lfTs, if_pos h4]; exact h4
        exact ⟨fun _ => h5, fun _ h => by omega⟩
end
mutual
theorem lfT_rng : ∀ (t : Ty) (l : Int), 0 ≤ l → -1 ≤ lfT t l ∧ lfT t l ≤ l
  | .mk k xs, l, h => by
    have h1 := lfTs_rng xs (l - 1) (by omega)
    rw [lfT]; omega
theorem lfTs_rng : ∀ (xs : List Ty) (l : Int), -1 ≤ l → -1 ≤ lfTs xs l ∧ lfTs xs l ≤ l
  | [], l, h => by rw [lfTs]; omega
  | x :: xs, l, h => by
    rw [lfTs]
    split
    · omega
    · have h1 := lfT_rng x l (by omega)
      have h2 := lfTs_rng xs (lfT x l) (by omega)
      omega
end
theorem lfTs_neg (xs : List Ty) (l : Int) (h : l < 0) : lfTs xs l = l := by
  cases xs with
  | nil => rw [lfTs]
  | cons x xs => rw [lfTs, if_pos h]
theorem lfTs_step (xs : List Ty) (k : Nat) (l : Int) (h : k < xs.length) (h0 : 0 ≤ l) : lfTs (xs.drop k) l = lfTs (xs.drop (k + 1)) (lfT xs[k]! l) := by
  rw [List.drop_eq_getElem_cons h, lfTs, if_neg (by omega), getElem!_pos xs k h]
def shB (k : Int) (n : Nat) : Bool := if k = 1 ∨ k = 2 then decide ((n : Int) = 0) else if k = 3 then decide ((n : Int) = 2) else if k = 4 then decide ((n : Int) = 1) else false
mutual
def formT : Ty → Bool
  | .mk k xs => formTs xs && shB k xs.length
def formTs : List Ty → Bool
  | [] => true
  | x :: xs => formT x && formTs xs
end
theorem formTs_drop (xs : List Ty) (k : Nat) (h : k < xs.length) : formTs (xs.drop k) = (formT xs[k]! && formTs (xs.drop (k + 1))) := by
  rw [List.drop_eq_getElem_cons h, formTs, getElem!_pos xs k h]
/-- A valid type. -/
def vTy (t : Ty) : Bool := decide ((szT t : Int) ≤ 30) && (decide ((depT t : Int) ≤ 8) && formT t)
end Go.Proofs.YtfbjdeeomjfhkaaGreatDoor
/-
  All nodes of a type or a term; valid types of the program.
-/
namespace Go.Proofs.YtfbjdeeomjfhkaaGreatDoor
open Go.RowKit
set_option linter.unusedVariables false
set_option linter.unusedSimpArgs false
set_option maxRecDepth 20000
/-! the first element of a kind -/
def fg {α : Type} (p : α → Bool) : List α → Int → Int
  | [], _ => -1
  | x :: xs, i => if p x = true then i else fg p xs (i + 1)
theorem fg_step {α : Type} [Inhabited α] (p : α → Bool) (xs : List α) (k : Nat) (h : k < xs.length) : fg p (xs.drop k) k = if p xs[k]! = true then (k : Int) else fg p (xs.drop (k + 1)) ((k + 1 : Nat) : Int) := by
  rw [List.drop_eq_getElem_cons h, getElem!_pos xs k h]; rfl
theorem fg_end {α : Type} (p : α → Bool) (xs : List α) (k : Nat) (h : xs.length ≤ k) (i : Int) : fg p (xs.drop k) i = -1 := by rw [List.drop_of_length_le h]; rfl
theorem fg_any {α : Type} (p : α → Bool) : ∀ (xs : List α) (i : Int), 0 ≤ i → decide (0 ≤ fg p xs i) = xs.any p
  | [], i, _ => rfl
  | x :: xs, i, h => by
    rw [fg, List.any_cons]
    cases e : p x
    · rw [if_neg (by simp), fg_any p xs (i + 1) (by omega)]; rfl
    · rw [if_pos rfl, decide_eq_true h]; rfl
mutual
def allTy (p : Ty → Bool) : Ty → Bool
  | .mk k xs => p (.mk k xs) && allTys p xs
def allTys (p : Ty → Bool) : List Ty → Bool
  | [] => true
  | x :: xs => allTy p x && allTys p xs
end
theorem allTys_any (p : Ty → Bool) : ∀ xs : List Ty, allTys p xs = !xs.any fun x => !allTy p x
  | [] => rfl
  | x :: xs => by rw [allTys, List.any_cons, allTys_any p xs]; cases allTy p x <;> simp
mutual
def allTm (p : Tm → Bool) : Tm → Bool
  | .mk k s o n t r xs => p (.mk k s o n t r xs) && allTms p xs
def allTms (p : Tm → Bool) : List Tm → Bool
  | [] => true
  | x :: xs => allTm p x && allTms p xs
end
theorem allTms_any (p : Tm → Bool) : ∀ xs : List Tm, allTms p xs = !xs.any fun x => !allTm p x
  | [] => rfl
  | x :: xs => by rw [allTms, List.any_cons, allTms_any p xs]; cases allTm p x <;> simp
theorem allTm_eq (p : Tm → Bool) (t : Tm) : allTm p t = (p t && allTms p t.args) := by obtain ⟨k, s, o, n, ty, r, xs⟩ := t; rw [allTm]; rfl
def shTy (t : Ty) : Bool := shB t.kind t.args.length
mutual
theorem formT_all : ∀ t : Ty, formT t = allTy shTy t
  | .mk k xs => by rw [formT, allTy, formTs_all xs]; show _ = (shB k xs.length && _); rw [Bool.and_comm]
theorem formTs_all : ∀ xs : List Ty, formTs xs = allTys shTy xs
  | [] => by rw [formTs, allTys]
  | x :: xs => by rw [formTs, allTys, formT_all x, formTs_all xs]
end
end Go.Proofs.YtfbjdeeomjfhkaaGreatDoor
