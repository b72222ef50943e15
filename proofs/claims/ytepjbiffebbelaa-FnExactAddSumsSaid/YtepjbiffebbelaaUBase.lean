/-
  One interface for the laws' own helpers: data, its values, and what is known of both.
-/
import Derived.Test.YtepjbiffebbelaaConf
import Derived.Test.YtepjbiffebbelaaArg
namespace Go.Proofs.Ytepjbiffebbelaa
open Go.RowKit
theorem RepVs.cons1 {w : World} {S : Nat} {d : D} {ds : List D} {vs : List Value} (h : RepVs w S (d :: ds) vs) : ∃ v r, vs = v :: r ∧ RepV w S d v ∧ RepVs w S ds r := by
  unfold RepVs at h; exact h
theorem RepVs.nil1 {w : World} {S : Nat} {vs : List Value} (h : RepVs w S [] vs) : vs = [] := by
  unfold RepVs at h; exact h
theorem rep_int {w : World} {S : Nat} {n : Int} {v : Value} (h : RepV w S (.int n) v) : v = .int .i64 n := by unfold RepV at h; exact h
theorem rep_str {w : World} {S : Nat} {n : ByteArray} {v : Value} (h : RepV w S (.str n) v) : v = .string n := by unfold RepV at h; exact h
theorem rep_bool {w : World} {S : Nat} {n : Bool} {v : Value} (h : RepV w S (.bool n) v) : v = .bool n := by unfold RepV at h; exact h
theorem rep_sl {w : World} {S : Nat} {d : D} {k : K} {v : Value} (hc : Conf d (.sl k)) (h : RepV w S d v) : ∃ a n c, v = .slice a n c := by
  obtain ⟨n, cs, rfl, _⟩ := conf_sl hc
  unfold RepV at h
  obtain ⟨a, c, e, _⟩ := h
  exact ⟨a, n, c, e⟩
theorem StrBL.cons1 {d : D} {ds : List D} (h : StrBL (d :: ds)) : StrB d ∧ StrBL ds := by unfold StrBL at h; exact h
theorem strB_str {s : ByteArray} (h : StrB (.str s)) : s.size ≤ maxLen := by unfold StrB at h; exact h
theorem RepV.step {w w' : World} {S : Nat} {d : D} {v : Value} (h : RepV w S d v) (hS : S ≤ w.heap.size) (hb : Below w.heap.size w w') : RepV w' S d v := h.later (hb.mono hS) (Nat.le_refl _)
theorem RepVs.step {w w' : World} {S : Nat} {d : List D} {v : List Value} (h : RepVs w S d v) (hS : S ≤ w.heap.size) (hb : Below w.heap.size w w') : RepVs w' S d v := h.later (hb.mono hS) (Nat.le_refl _)
theorem RepVs.up {w : World} {S S' : Nat} {d : List D} {v : List Value} (h : RepVs w S d v) (hS : S ≤ S') : RepVs w S' d v := h.later (Below.refl _ _) hS
theorem Blk.step {w w' : World} {g : Nat} {t : TypeId} {cs : Array Value} (h : Blk w g t cs) (hb : Below w.heap.size w w') : Blk w' g t cs := h.below hb h.lt

mutual
theorem eqD_refl : ∀ d : D, eqD d d = true
  | .int n => by simp [eqD]
  | .bool n => by simp [eqD]
  | .str n => by simp [eqD]
  | .any => by simp [eqD]
  | .byt n => by simp [eqD]
  | .rows sz n cs => by simp [eqD]
theorem eqL_refl : ∀ ds : List D, eqL ds ds = true
  | [] => by simp [eqL]
  | d :: ds => by simp [eqL]
end
/-- A struct's cells, all that a call may ask of them. -/
def GivL (w : World) (F : List CK) (ds : List D) (vs : List Value) : Prop := ConfL ds F ∧ StrBL ds ∧ szL ds ≤ 1048576 ∧ RepVs w w.heap.size ds vs
/-- A slice, all that a call may ask of it. -/
def Giv (w : World) (k : K) (d : D) (v : Value) : Prop := Conf d (.sl k) ∧ StrB d ∧ szD d ≤ 1048576 ∧ RepV w w.heap.size d v
theorem GivL.step {w w' : World} {F : List CK} {ds : List D} {vs : List Value} (h : GivL w F ds vs) (hb : Below w.heap.size w w') : GivL w' F ds vs :=
  ⟨h.1, h.2.1, h.2.2.1, h.2.2.2.later hb hb.size⟩
theorem Giv.step {w w' : World} {k : K} {d : D} {v : Value} (h : Giv w k d v) (hb : Below w.heap.size w w') : Giv w' k d v :=
  ⟨h.1, h.2.1, h.2.2.1, h.2.2.2.later hb hb.size⟩
theorem GivL.fresh {w w' : World} {F : List CK} {ds : List D} {vs us : List Value} {B : Nat} (h : GivL w F ds vs) (hf : FreshL w' B ds us) : GivL w' F ds us := ⟨h.1, h.2.1, h.2.2.1, hf.rep⟩
theorem Giv.fresh {w w' : World} {k : K} {d : D} {v u : Value} {B : Nat} (h : Giv w k d v) (hf : Fresh w' B d u) : Giv w' k d u := ⟨h.1, h.2.1, h.2.2.1, hf.rep⟩
theorem FreshL.drew {w : World} {B : Nat} {d : List D} {v : List Value} (h : FreshL w B d v) : FreshL w.drew B d v := h.later (Below.refl _ _).drew
theorem Fresh.drew {w : World} {B : Nat} {d : D} {v : Value} (h : Fresh w B d v) : Fresh w.drew B d v := h.later (Below.refl _ _).drew
theorem Blk.drew {w : World} {g : Nat} {t : TypeId} {cs : Array Value} (h : Blk w g t cs) : Blk w.drew g t cs := h
theorem RepVs.drew {w : World} {S : Nat} {d : List D} {v : List Value} (h : RepVs w S d v) (hS : S ≤ w.heap.size) : RepVs w.drew S d v := h.step hS (Below.refl _ _).drew
theorem RepV.drew {w : World} {S : Nat} {d : D} {v : Value} (h : RepV w S d v) (hS : S ≤ w.heap.size) : RepV w.drew S d v := h.step hS (Below.refl _ _).drew
end Go.Proofs.Ytepjbiffebbelaa
