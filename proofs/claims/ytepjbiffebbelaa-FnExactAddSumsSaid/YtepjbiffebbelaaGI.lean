/-
  What the code may lean on in the library's own variables: they are there from the beginning and never written.
-/
import Derived.Lib.LaidTab
import Derived.Lib.ItoaNum
import Derived.Lib.ItoaWalk
import Derived.Test.YtepjbiffebbelaaRows
namespace Go.Proofs.Ytepjbiffebbelaa
open Go.RowKit
set_option linter.unusedVariables false
/-- DotTerm's row says nothing of the errors: in its seat they are left out. -/
def GOn : Bool := true
def GErrL : List Nat := List.flatten [
  [0],
  []]
/-- The blocks of these variables. -/
def GBl : List Nat := []
/-- Some number lies in the variable g. -/
def CI (w : World) (g : Nat) : Prop := ∃ m, w.cell? ⟨g, 0, none⟩ = some (.int .i64 m)
/-- Some error, or none, lies in the variable g. -/
def CE (w : World) (g : Nat) : Prop := ∃ ev, w.cell? ⟨g, 0, none⟩ = some ev ∧ (ev = .nilIface ∨ ∃ te pe, ev = .iface te pe)
theorem cell_of {w w' : World} {g : Nat} (hb : w'.heap[g]? = w.heap[g]?) : w'.cell? ⟨g, 0, none⟩ = w.cell? ⟨g, 0, none⟩ := by
  unfold World.cell?
  show (match w'.heap[g]? with | some (.cells c _ _) => _ | _ => none) = _
  rw [hb]; rfl
theorem CI.of {w w' : World} {g : Nat} (h : CI w g) (hb : w'.heap[g]? = w.heap[g]?) : CI w' g := by
  obtain ⟨m, hm⟩ := h
  exact ⟨m, (cell_of hb).trans hm⟩
theorem CE.of {w w' : World} {g : Nat} (h : CE w g) (hb : w'.heap[g]? = w.heap[g]?) : CE w' g := by
  obtain ⟨m, hm, h2⟩ := h
  exact ⟨m, (cell_of hb).trans hm, h2⟩
def GPow (w : World) : Prop :=
  True
def GMax (w : World) : Prop :=
  CI w 0
def GSyn (w : World) : Prop :=
  True
def GRan (w : World) : Prop :=
  True
/-- What they hold. -/
def GTab (w : World) : Prop :=
  True
theorem GPow_of {w w' : World} (h : GPow w) (hb : ∀ k ∈ GBl, w'.heap[k]? = w.heap[k]?) : GPow w' := by
  trivial
theorem GTab_of {w w' : World} (h : GTab w) (hb : ∀ k ∈ GBl, w'.heap[k]? = w.heap[k]?) : GTab w' := by
  trivial
def GI (w : World) : Prop := (∀ k ∈ GBl, k < w.heap.size) ∧ GTab w
theorem GI_of {w w' : World} (h : GI w) (hs : w.heap.size ≤ w'.heap.size) (hb : ∀ k ∈ GBl, w'.heap[k]? = w.heap[k]?) : GI w' :=
  ⟨fun k hk => Nat.lt_of_lt_of_le (h.1 k hk) hs, GTab_of h.2 hb⟩
theorem GI_st {w : World} (h : GI w) {M : Nat → Prop} (hm : ∀ k ∈ GBl, ¬ M k) (w' : World) (hs : w.heap.size ≤ w'.heap.size) (hb : ∀ k, k < w.heap.size → ¬ M k → w'.heap[k]? = w.heap[k]?) : GI w' :=
  GI_of h hs fun k hk => hb k (h.1 k hk) (hm k hk)
theorem GI_bel {w w' : World} (h : GI w) (hb : Below w.heap.size w w') : GI w' := GI_of h hb.size fun k hk => hb.block k (h.1 k hk)
end Go.Proofs.Ytepjbiffebbelaa
