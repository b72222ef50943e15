/-
  Lists of texts: the laws' copies and comparison.
-/
import Derived.Test.YtemlobcbepgbaaaInts
import Derived.Lib.SlicesS
namespace Go.Proofs.Ytemlobcbepgbaaa
open Go.RowKit
theorem string_info : (Try.prog.info? 9).map (fun i => (i.zero, i.size, i.bytes)) = some (some (.string ⟨#[]⟩), 1, 16) := by kernel_rfl
theorem ownVs_strs (w : World) : ∀ ns : List ByteArray, OwnVs w (ns.map .str) (ns.map Value.string) []
  | [] => by unfold OwnVs; exact ⟨rfl, rfl⟩
  | n :: ns => by
    simp only [List.map_cons]
    unfold OwnVs
    exact ⟨_, _, [], [], rfl, rfl, by unfold OwnV; exact ⟨rfl, rfl⟩, ownVs_strs w ns⟩

/-- Two lists are one: what the law's test of two slices says. -/
def eqSt (a b : List ByteArray) : Bool := decide (a = b)
end Go.Proofs.Ytemlobcbepgbaaa
