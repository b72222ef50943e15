/-
  Types and terms as trees, and the cells in which they lie.
-/
import Derived.Test.YtgjcilainojlfaaConf
namespace Go.Proofs.Ytgjcilainojlfaa
open Go.RowKit

inductive Ty where
  | mk (kind : Int) (args : List Ty)
inductive Tm where
  | mk (kind : Int) (name other : ByteArray) (n : Int) (ty res : Ty) (args : List Tm)

mutual
def tyC : Ty → List D
  | .mk k xs => [.int k, .rows 2 xs.length (tysC xs)]
def tysC : List Ty → List D
  | [] => []
  | a :: xs => tyC a ++ tysC xs
end
def tysD (xs : List Ty) : D := .rows 2 xs.length (tysC xs)
mutual
def tmC : Tm → List D
  | .mk k s o n t r xs => .int k :: .str s :: .str o :: .int n :: (tyC t ++ (tyC r ++ [.rows 9 xs.length (tmsC xs)]))
def tmsC : List Tm → List D
  | [] => []
  | a :: xs => tmC a ++ tmsC xs
end
def tmsD (xs : List Tm) : D := .rows 9 xs.length (tmsC xs)



/-! what is read xs a kind is a tree -/
theorem rows_of {α : Type} (F : List CK) (c : α → List D) (cs' : List α → List D) (hnil : cs' [] = []) (hcons : ∀ a xs, cs' (a :: xs) = c a ++ cs' xs)
    (n : Nat) : ∀ (cs : List D), ConfL cs (List.replicate n F).flatten → (∀ k, k < n → ∃ a, rowAt F.length cs k = c a) → ∃ xs : List α, xs.length = n ∧ cs = cs' xs := by
  induction n with
  | zero => intro cs h _; simp at h; have := ConfL.len _ _ h; exact ⟨[], rfl, by rw [hnil]; exact List.eq_nil_of_length_eq_zero (by simpa using this)⟩
  | succ n ih =>
    intro cs h hr
    rw [List.replicate_succ, List.flatten_cons] at h
    obtain ⟨h1, h2⟩ := ConfL.split cs F _ h
    obtain ⟨a, ha⟩ := hr 0 (by omega)
    obtain ⟨xs, hl, has⟩ := ih (cs.drop F.length) h2 fun k hk => by
      obtain ⟨b, hb⟩ := hr (k + 1) (by omega)
      refine ⟨b, ?_⟩
      rw [← hb]
      simp only [rowAt, List.drop_drop]
      rw [show (k + 1) * F.length = F.length + k * F.length by rw [Nat.succ_mul, Nat.add_comm]]
    refine ⟨a :: xs, by simp [hl], ?_⟩
    rw [hcons, ← ha, ← has]
    simp [rowAt]

/-! the other way round: a tree whose lists are not too long is of its kind -/
end Go.Proofs.Ytgjcilainojlfaa
