/-
  What a law's argument is, in plain words on memory.
-/
import Derived.Test.YtgjcilainojlfaaPar
import Derived.Test.YtgjcilainojlfaaTree
namespace Go.Proofs.Ytgjcilainojlfaa
open Go.RowKit Go.ChangeShapes Go.WideShapes Go.Deep
/-- The value is a slice of elements of the kind. -/
def Arg (w : World) (k : K) (v : Value) : Prop := ∃ d, Conf d (.sl k) ∧ RepV w w.heap.size d v ∧ StrB d
section
variable {H : Type} {enc : TypeId × Value → H} {P : Program} {w : World} {base : Nat} {spare : Nat → Bool} {held : Bool} {fuel : Nat} {t : TypeId} {x : DataW H × List MemPlace}
theorem arg_sl {k : K} {a : Option Addr} {l c : Nat} (h : OpenSl enc P w base spare held k t fuel) (hf : DataW.trod enc P w base spare held fuel t (Value.slice a l c).cells.toList = some x) : Arg w k (.slice a l c) := by
  obtain ⟨v, d, he, h1, h2, h3⟩ := h _ _ hf
  simp [Value.cells] at he
  subst he
  exact ⟨d, h1, h2, h3⟩
end
end Go.Proofs.Ytgjcilainojlfaa
