/-
  What a law's argument is, in plain words on memory.
-/
import Derived.Test.YtpoemjeelbmpkaaGreatPar
import Derived.Test.YtpoemjeelbmpkaaGreatTree
namespace Go.Proofs.YtpoemjeelbmpkaaGreat
open Go.RowKit Go.ChangeShapes Go.WideShapes Go.Deep
/-- The cells are a struct of these fields. -/
def ArgS (w : World) (F : List CK) (cs : Array Value) : Prop := ∃ ds, ConfL ds F ∧ RepVs w w.heap.size ds cs.toList ∧ StrBL ds
section
variable {H : Type} {enc : TypeId × Value → H} {P : Program} {w : World} {base : Nat} {spare : Nat → Bool} {held : Bool} {fuel : Nat} {t : TypeId} {x : DataW H × List MemPlace}
theorem arg_st {F : List CK} {cs : Array Value} (h : OpenEl enc P w base spare held F t fuel) (hf : DataW.trod enc P w base spare held fuel t (Value.agg cs).cells.toList = some x) : ArgS w F cs := h _ _ hf
end
end Go.Proofs.YtpoemjeelbmpkaaGreat
