/-
  Without stages, in plain data.
-/
import Derived.Test.YtfbjdeeomjfhkaaGreatDoorLst
import Derived.Test.YtfbjdeeomjfhkaaGreatDoorTyC
namespace Go.Proofs.YtfbjdeeomjfhkaaGreatDoor
open Go.RowKit
set_option linter.unusedVariables false
def inB (x lo hi : Int) : Bool := decide (lo ≤ x ∧ x ≤ hi)
theorem inB_and (x lo hi : Int) : (decide (lo ≤ x) && decide (x ≤ hi)) = inB x lo hi := by rw [inB]; by_cases h1 : lo ≤ x <;> by_cases h2 : x ≤ hi <;> simp [h1, h2]
mutual
/-- A type without its code marks. -/
def eraseTy : Ty → Ty
  | .mk k xs => match decide (k = 4), eraseTys xs with
    | true, [y] => y
    | _, ys => .mk k ys
def eraseTys : List Ty → List Ty
  | [] => []
  | x :: xs => eraseTy x :: eraseTys xs
end
theorem eraseTys_map : ∀ xs, eraseTys xs = xs.map eraseTy
  | [] => rfl
  | x :: xs => by rw [eraseTys, eraseTys_map xs]; rfl
theorem eraseTy_code (t : Ty) (h : t.kind = 4) (hl : t.args.length = 1) : eraseTy t = eraseTy (t.args[0]'(by omega)) := by
  obtain ⟨k, xs⟩ := t
  simp only [Ty.kind, Ty.args] at *
  match xs, hl with
  | [x], _ =>
    rw [eraseTy, eraseTys, eraseTys]
    simp [h]
theorem eraseTy_mk (t : Ty) (h : ¬ (t.kind = 4 ∧ t.args.length = 1)) : eraseTy t = .mk t.kind (t.args.map eraseTy) := by
  obtain ⟨k, xs⟩ := t
  simp only [Ty.kind, Ty.args] at *
  rw [eraseTy, eraseTys_map]
  split
  · rename_i y h1 h2
    exfalso
    refine h ⟨by simpa using h1, ?_⟩
    have := congrArg List.length h2
    simpa using this
  · rfl
theorem eraseTy_kind (t : Ty) (h : ¬ (t.kind = 4 ∧ t.args.length = 1)) : (eraseTy t).kind = t.kind := by rw [eraseTy_mk t h]; rfl
theorem eraseTy_args (t : Ty) (h : ¬ (t.kind = 4 ∧ t.args.length = 1)) : (eraseTy t).args = t.args.map eraseTy := by rw [eraseTy_mk t h]; rfl
mutual
/-- A term without its stages. -/
def eraseT : Tm → Tm
  | .mk k s o n t r xs => match inB k 10 13, eraseTs xs with
    | true, [y] => y
    | _, ys => .mk k s o n (eraseTy t) (eraseTy r) ys
def eraseTs : List Tm → List Tm
  | [] => []
  | x :: xs => eraseT x :: eraseTs xs
end
theorem eraseTs_map : ∀ xs, eraseTs xs = xs.map eraseT
  | [] => rfl
  | x :: xs => by rw [eraseTs, eraseTs_map xs]; rfl
theorem eraseT_one (t : Tm) (h : inB t.kind 10 13 = true) (hl : t.args.length = 1) : eraseT t = eraseT (t.args[0]'(by omega)) := by
  obtain ⟨k, s, o, n, ty, r, xs⟩ := t
  simp only [Tm.kind, Tm.args] at *
  match xs, hl with
  | [x], _ =>
    rw [eraseT, eraseTs, eraseTs, h]
    simp
theorem eraseT_mk (t : Tm) (h : ¬ (inB t.kind 10 13 = true ∧ t.args.length = 1)) : eraseT t = .mk t.kind t.name t.other t.n (eraseTy t.ty) (eraseTy t.res) (t.args.map eraseT) := by
  obtain ⟨k, s, o, n, ty, r, xs⟩ := t
  simp only [Tm.kind, Tm.args, Tm.name, Tm.other, Tm.n, Tm.ty, Tm.res] at *
  rw [eraseT, eraseTs_map]
  split
  · rename_i y h1 h2
    exfalso
    refine h ⟨h1, ?_⟩
    have := congrArg List.length h2
    simpa using this
  · rfl
theorem mk_kind (k : Int) (s o : ByteArray) (n : Int) (t r : Ty) (xs : List Tm) : (Tm.mk k s o n t r xs).kind = k := rfl
theorem mk_name (k : Int) (s o : ByteArray) (n : Int) (t r : Ty) (xs : List Tm) : (Tm.mk k s o n t r xs).name = s := rfl
theorem mk_other (k : Int) (s o : ByteArray) (n : Int) (t r : Ty) (xs : List Tm) : (Tm.mk k s o n t r xs).other = o := rfl
theorem mk_n (k : Int) (s o : ByteArray) (n : Int) (t r : Ty) (xs : List Tm) : (Tm.mk k s o n t r xs).n = n := rfl
theorem mk_ty (k : Int) (s o : ByteArray) (n : Int) (t r : Ty) (xs : List Tm) : (Tm.mk k s o n t r xs).ty = t := rfl
theorem mk_res (k : Int) (s o : ByteArray) (n : Int) (t r : Ty) (xs : List Tm) : (Tm.mk k s o n t r xs).res = r := rfl
theorem mk_args (k : Int) (s o : ByteArray) (n : Int) (t r : Ty) (xs : List Tm) : (Tm.mk k s o n t r xs).args = xs := rfl
def mapT (f : Tm → Tm) (t : Tm) : Tm := .mk t.kind t.name t.other t.n t.ty t.res (t.args.map f)
theorem mapT_kind (f : Tm → Tm) (t : Tm) : (mapT f t).kind = t.kind := rfl
theorem mapT_name (f : Tm → Tm) (t : Tm) : (mapT f t).name = t.name := rfl
theorem mapT_other (f : Tm → Tm) (t : Tm) : (mapT f t).other = t.other := rfl
theorem mapT_n (f : Tm → Tm) (t : Tm) : (mapT f t).n = t.n := rfl
theorem mapT_ty (f : Tm → Tm) (t : Tm) : (mapT f t).ty = t.ty := rfl
theorem mapT_res (f : Tm → Tm) (t : Tm) : (mapT f t).res = t.res := rfl
theorem mapT_len (f : Tm → Tm) (t : Tm) : (mapT f t).args.length = t.args.length := by simp [mapT, Tm.args]
theorem szL_tm (t : Tm) : szL (tmC t) = t.name.size + t.other.size + szL (tyC t.ty) + szL (tyC t.res) + (t.args.length + szL (tmsC t.args)) := by
  obtain ⟨k, s, o, n, ty, r, xs⟩ := t
  simp only [tmC, szL, szD, szL_append, Tm.name, Tm.other, Tm.ty, Tm.res, Tm.args]
  omega
theorem map_bang {α β : Type} [Inhabited α] [Inhabited β] (f : α → β) {xs : List α} {k : Nat} (h : k < xs.length) : (xs.map f)[k]! = f xs[k]! := by
  rw [getElem!_pos xs k h, getElem!_pos (xs.map f) k (by simpa using h), List.getElem_map]
theorem tysC_snocF (f : Ty → Ty) (xs : List Ty) (k : Nat) (h : k < xs.length) : tysC ((xs.take (k + 1)).map f) = tysC ((xs.take k).map f) ++ tyC (f xs[k]!) := by
  rw [tysC_flat, tysC_flat, take_snoc xs k h, List.map_append, flC_app, List.map_cons, List.map_nil, flC_one]
theorem tmsC_snocF (f : Tm → Tm) (xs : List Tm) (k : Nat) (h : k < xs.length) : tmsC ((xs.take (k + 1)).map f) = tmsC ((xs.take k).map f) ++ tmC (f xs[k]!) := by
  rw [tmsC_flat, tmsC_flat, take_snoc xs k h, List.map_append, flC_app, List.map_cons, List.map_nil, flC_one]
mutual
theorem erase_szTy : ∀ t : Ty, szL (tyC (eraseTy t)) ≤ szL (tyC t)
  | .mk k xs => by
    have h := erase_szTys xs
    simp only [tyC, szL, szD]
    rw [eraseTy]
    split
    · rename_i y h1 h2
      rw [h2] at h
      simp only [tysC, List.append_nil] at h
      omega
    · rename_i ys _ 
      have := congrArg List.length (eraseTys_map xs)
      simp only [tyC, szL, szD, List.length_map] at this ⊢
      omega
theorem erase_szTys : ∀ xs : List Ty, szL (tysC (eraseTys xs)) ≤ szL (tysC xs)
  | [] => by rw [eraseTys]; exact Nat.le_refl _
  | a :: xs => by
    have h1 := erase_szTy a
    have h2 := erase_szTys xs
    rw [eraseTys, tysC, tysC, szL_append, szL_append]; omega
end
mutual
theorem erase_szTm : ∀ t : Tm, szL (tmC (eraseT t)) ≤ szL (tmC t)
  | .mk k s o n t r xs => by
    have h := erase_szTms xs
    have h1 := erase_szTy t
    have h2 := erase_szTy r
    have e : ∀ t r xs, tmC (.mk k s o n t r xs) = [.int k, .str s, .str o, .int n] ++ (tyC t ++ (tyC r ++ [.rows 9 xs.length (tmsC xs)])) := fun _ _ _ => rfl
    rw [e, szL_append, szL_append, szL_append]
    simp only [szL, szD]
    rw [eraseT]
    split
    · rename_i y h3 h4
      rw [h4] at h
      simp only [tmsC, List.append_nil] at h
      omega
    · have := congrArg List.length (eraseTs_map xs)
      rw [e, szL_append, szL_append, szL_append]
      simp only [szL, szD, List.length_map] at this ⊢
      omega
theorem erase_szTms : ∀ xs : List Tm, szL (tmsC (eraseTs xs)) ≤ szL (tmsC xs)
  | [] => by rw [eraseTs]; exact Nat.le_refl _
  | a :: xs => by
    have h1 := erase_szTm a
    have h2 := erase_szTms xs
    rw [eraseTs, tmsC, tmsC, szL_append, szL_append]; omega
end
end Go.Proofs.YtfbjdeeomjfhkaaGreatDoor
/-
  Copies of terms, of the reference and of the program.
-/
namespace Go.Proofs.YtfbjdeeomjfhkaaGreatDoor
open Go.RowKit
set_option linter.unusedVariables false
set_option linter.unusedSimpArgs false
set_option maxRecDepth 20000
theorem sz_parts {t : Tm} {B : Nat} (h : szL (tmC t) ≤ B) : szL (tyC t.ty) ≤ B ∧ szL (tyC t.res) ≤ B ∧ t.args.length + szL (tmsC t.args) ≤ B := by
  rw [szL_tm] at h; omega
end Go.Proofs.YtfbjdeeomjfhkaaGreatDoor
