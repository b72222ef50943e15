/-
  Lists of typings, parameters, items, instructions and the like, and the cells in which they lie.
-/
import Derived.Test.YtgjcilainojlfaaTree
import Derived.Test.YtgjcilainojlfaaArg
import Derived.Test.YtgjcilainojlfaaPtr
namespace Go.Proofs.Ytgjcilainojlfaa
open Go.RowKit
set_option linter.unusedVariables false
set_option linter.unusedSimpArgs false
instance : Inhabited Ty := ⟨.mk 0 []⟩
instance : Inhabited Tm := ⟨.mk 0 default default 0 default default []⟩
/-- Elements' cells, one behind the other. -/
def flC {α : Type} (c : α → List D) : List α → List D
  | [] => []
  | x :: xs => c x ++ flC c xs
theorem flC_len {α : Type} {c : α → List D} {n : Nat} (hc : ∀ x, (c x).length = n) : ∀ xs : List α, (flC c xs).length = xs.length * n
  | [] => by simp [flC]
  | x :: xs => by rw [flC, List.length_append, hc, flC_len hc xs, List.length_cons, Nat.succ_mul]; omega
theorem flC_app {α : Type} (c : α → List D) : ∀ a b : List α, flC c (a ++ b) = flC c a ++ flC c b
  | [], b => rfl
  | x :: a, b => by rw [List.cons_append, flC, flC, flC_app c a b, List.append_assoc]
theorem flC_row {α : Type} [Inhabited α] {c : α → List D} {n : Nat} (hc : ∀ x, (c x).length = n) : ∀ (xs : List α) (k : Nat), k < xs.length → rowAt n (flC c xs) k = c xs[k]!
  | x :: xs, 0, _ => by
    rw [rowAt, flC, Nat.zero_mul, List.drop_zero, List.take_append_of_le_length (by rw [hc]; exact Nat.le_refl _), List.take_of_length_le (by rw [hc]; exact Nat.le_refl _)]; rfl
  | x :: xs, k + 1, h => by
    have := flC_row hc xs k (by simpa using h)
    rw [rowAt] at this ⊢
    rw [flC, Nat.succ_mul, List.drop_append, hc, List.drop_of_length_le (by rw [hc]; omega), List.nil_append, Nat.add_sub_cancel, this]
    simp
theorem flC_one {α : Type} (c : α → List D) (x : α) : flC c [x] = c x := by simp [flC]
theorem strs_row (xs : List ByteArray) (k : Nat) (h : k < xs.length) : rowAt 1 (xs.map D.str) k = [.str xs[k]!] := by
  have h2 : k < (xs.map D.str).length := by simpa using h
  rw [rowAt, Nat.mul_one, List.drop_eq_getElem_cons h2]
  simp [getElem!_pos xs k h]

theorem cast1 (k : Nat) : ((k + 1 : Nat) : Int) = (k : Int) + 1 := rfl
theorem mem_bang {α : Type} [Inhabited α] {xs : List α} {k : Nat} (h : k < xs.length) : xs[k]! ∈ xs := by rw [getElem!_pos xs k h]; exact List.getElem_mem h
def rn1 (a b : Nat) : Nat → Nat := fun i => if i = a then b else i
/-! what is a list of a kind -/
theorem lists_of {α : Type} (k : K) (F : List CK) (sz : Nat) (hF : k.fields = F) (hsz : F.length = sz) (c : α → List D) (hrow : ∀ ds, ConfL ds F → ∃ x, ds = c x) {d : D} (h : Conf d (.sl k)) : ∃ xs : List α, d = .rows sz xs.length (flC c xs) := by
  cases d <;> simp only [Conf] at h <;> first | (cases h; done) | skip
  rename_i sz' n cs
  obtain ⟨k0, e, h1, h2, h3, h4⟩ := h
  injection e with e
  subst e
  subst hF
  subst hsz
  obtain ⟨xs, hal, hc⟩ := rows_of k.fields c (flC c) rfl (fun a xs => by rw [flC]) n cs h4 fun j hj => hrow _ (conf_row n k.fields cs j h4 hj)
  exact ⟨xs, by rw [hal, ← hc, h1]⟩
structure Im where
  name : ByteArray
  coef : Int
  deriving Inhabited
def imC (t : Im) : List D := [.str t.name, .int t.coef]
def imsD (xs : List Im) : D := .rows 2 xs.length (flC imC xs)
theorem imC_len (t : Im) : (imC t).length = 2 := rfl
structure Ins where
  op : Int
  a : Int
  deriving Inhabited
def insC (t : Ins) : List D := [.int t.op, .int t.a]
def inssD (xs : List Ins) : D := .rows 2 xs.length (flC insC xs)
theorem insC_len (t : Ins) : (insC t).length = 2 := rfl
theorem ins_of {d : D} (h : Conf d (.sl .instr)) : ∃ xs, d = inssD xs :=
  lists_of .instr _ 2 rfl rfl insC (fun ds h => by
    obtain ⟨s0, i1, rfl⟩ := conf_instr h
    exact ⟨⟨s0, i1⟩, rfl⟩) h

structure Sm where
  const : Int
  items : List Im
  deriving Inhabited
def sumC (t : Sm) : List D := [.int t.const, imsD t.items]

/-! ## A contract used on memory -/
theorem rpd_nil (w : World) : RepPDs w [] [] := by unfold RepPDs; rfl
theorem rpd_cons {w : World} {p : PD} {ps : List PD} {v : Value} {vs : List Value} (h : RepPD w p v) (h2 : RepPDs w ps vs) : RepPDs w (p :: ps) (v :: vs) := by unfold RepPDs; exact ⟨v, vs, rfl, h, h2⟩
theorem rpd_int {w : World} (n : Int) : RepPD w (.one (.int n)) (.int .i64 n) := by unfold RepPD RepV; rfl
theorem rpd_one {w : World} {d : D} {v : Value} (h : RepV w w.heap.size d v) : RepPD w (.one d) v := by unfold RepPD; exact h
end Go.Proofs.Ytgjcilainojlfaa
