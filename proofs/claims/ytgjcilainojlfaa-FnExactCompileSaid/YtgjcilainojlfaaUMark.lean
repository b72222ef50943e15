/-
  Marks on structs: their slices' cells alone; ranges of blocks; changes in a range.
-/
import Derived.Test.YtgjcilainojlfaaUBase
import Derived.Test.YtgjcilainojlfaaMark
namespace Go.Proofs.Ytgjcilainojlfaa
open Go.RowKit
set_option linter.unusedVariables false
def cntS : List D → Nat
  | [] => 0
  | d :: ds => (if isScal d = true then 0 else cntD d) + cntS ds
def markS : List D → Int → List D
  | [], _ => []
  | d :: ds, c => (if isScal d = true then d else markD d c) :: markS ds (c + (if isScal d = true then 0 else cntD d : Nat))
theorem sc_int (n : Int) : isScal (.int n) = true := rfl
theorem sc_str (n : ByteArray) : isScal (.str n) = true := rfl
theorem sc_bool (n : Bool) : isScal (.bool n) = true := rfl
theorem scal_sl {d : D} {k : K} (h : Conf d (.sl k)) : isScal d = false := by
  obtain ⟨n, cs, rfl, _⟩ := conf_sl h
  rfl
theorem K.fields_le (k : K) : k.fields.length ≤ 10 := by cases k <;> decide
mutual
theorem cntD_bd0 : ∀ (d : D) (c : CK), Conf d c → cntD d ≤ (if isScal d = true then 1 else 0) + 10 * szD d
  | .int _, _, _ => by simp [cntD, isScal]
  | .bool _, _, _ => by simp [cntD, isScal]
  | .str _, _, _ => by simp [cntD, isScal]
  | .any, _, h => by unfold Conf at h; exact h.elim
  | .byt _, _, h => by unfold Conf at h; exact h.elim
  | .rows sz n cs, c, h => by
    unfold Conf at h
    obtain ⟨k, e, h1, h2, h3, h4⟩ := h
    have h5 := cntL_bd0 cs _ h4
    have h6 := K.fields_le k
    have h7 : n * sz ≤ n * 10 := Nat.mul_le_mul_left n (by omega)
    simp only [cntD, szD, isScal]
    simp
    omega
theorem cntL_bd0 : ∀ (ds : List D) (cs : List CK), ConfL ds cs → cntL ds ≤ ds.length + 10 * szL ds
  | [], _, _ => by simp [cntL]
  | d :: ds, cs, h => by
    unfold ConfL at h
    obtain ⟨c, r, rfl, h1, h2⟩ := h
    have h3 := cntD_bd0 d c h1
    have h4 := cntL_bd0 ds r h2
    simp only [cntL, szL, List.length_cons]
    split at h3 <;> omega
end
theorem cntD_bd {d : D} {k : K} (h : Conf d (.sl k)) : cntD d ≤ 10 * szD d := by
  have h1 := cntD_bd0 d _ h
  rw [scal_sl h] at h1
  simpa using h1
theorem cntS_bd : ∀ {ds : List D} {F : List CK}, ConfL ds F → cntS ds ≤ 10 * szL ds
  | [], _, _ => by simp [cntS]
  | d :: ds, F, h => by
    unfold ConfL at h
    obtain ⟨c, r, rfl, h1, h2⟩ := h
    have h3 := cntD_bd0 d c h1
    have h4 := cntS_bd h2
    simp only [cntS, szL]
    split
    · omega
    · rename_i hs; rw [if_neg hs] at h3; omega
end Go.Proofs.Ytgjcilainojlfaa
