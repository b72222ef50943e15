/-
  Marks on structs: their slices' cells alone; ranges of blocks; changes in a range.
-/
import Derived.Test.YtpoemjeelbmpkaaGreatBase
import Derived.Test.YtpoemjeelbmpkaaGreatRng
import Derived.Test.YtpoemjeelbmpkaaGreatConf
import Derived.Test.YtpoemjeelbmpkaaGreatUBase
/-
  Marks: what the laws write into data that a call may not share, and how owned data takes them: plain words, no walk.
-/
/-
  markText of the laws: the letter m and a number's digits.
-/
namespace Go.Proofs.YtpoemjeelbmpkaaGreat
open Go.RowKit


end Go.Proofs.YtpoemjeelbmpkaaGreat

namespace Go.Proofs.YtpoemjeelbmpkaaGreat
open Go.RowKit



theorem OwnVs.len {w : World} : ∀ (ds : List D) (vs : List Value) (fp : List Nat), OwnVs w ds vs fp → vs.length = ds.length
  | [], vs, fp, h => by unfold OwnVs at h; rw [h.1]; rfl
  | d :: ds, vs, fp, h => by
    unfold OwnVs at h
    obtain ⟨v, r, f1, f2, rfl, rfl, _, h2⟩ := h
    simp [OwnVs.len ds r f2 h2]



section
variable {w : World} {sz n cap b off p : Nat} {A R C : List D} {fp : List Nat}
end
end Go.Proofs.YtpoemjeelbmpkaaGreat

namespace Go.Proofs.YtpoemjeelbmpkaaGreat
open Go.RowKit
set_option linter.unusedVariables false


end Go.Proofs.YtpoemjeelbmpkaaGreat
