/-
  One interface for the laws' own helpers: data, its values, and what is known of both.
-/
import Derived.Test.YtpoemjeelbmpkaaGreatConf
import Derived.Test.YtpoemjeelbmpkaaGreatArg
namespace Go.Proofs.YtpoemjeelbmpkaaGreat
open Go.RowKit
theorem RepVs.cons1 {w : World} {S : Nat} {d : D} {ds : List D} {vs : List Value} (h : RepVs w S (d :: ds) vs) : ∃ v r, vs = v :: r ∧ RepV w S d v ∧ RepVs w S ds r := by
  unfold RepVs at h; exact h
theorem RepVs.nil1 {w : World} {S : Nat} {vs : List Value} (h : RepVs w S [] vs) : vs = [] := by
  unfold RepVs at h; exact h
theorem rep_int {w : World} {S : Nat} {n : Int} {v : Value} (h : RepV w S (.int n) v) : v = .int .i64 n := by unfold RepV at h; exact h
theorem rep_str {w : World} {S : Nat} {n : ByteArray} {v : Value} (h : RepV w S (.str n) v) : v = .string n := by unfold RepV at h; exact h
theorem StrBL.cons1 {d : D} {ds : List D} (h : StrBL (d :: ds)) : StrB d ∧ StrBL ds := by unfold StrBL at h; exact h
theorem strB_str {s : ByteArray} (h : StrB (.str s)) : s.size ≤ maxLen := by unfold StrB at h; exact h

mutual
theorem eqD_refl : ∀ d : D, eqD d d = true
  | .int n => by simp [eqD]
  | .bool n => by simp [eqD]
  | .str n => by simp [eqD]
  | .any => by simp [eqD]
  | .byt n => by simp [eqD]
  | .rows sz n cs => by simp [eqD]
theorem eqL_refl : ∀ ds : List D, eqL ds ds = true
  | [] => by simp [eqL]
  | d :: ds => by simp [eqL]
end
/-- A struct's cells, all that a call may ask of them. -/
def GivL (w : World) (F : List CK) (ds : List D) (vs : List Value) : Prop := ConfL ds F ∧ StrBL ds ∧ szL ds ≤ 1048576 ∧ RepVs w w.heap.size ds vs
end Go.Proofs.YtpoemjeelbmpkaaGreat
