import Derived.Test.YtaidalilfmjfgaaGreatMarkText
import Derived.Test.YtaidalilfmjfgaaGreatArg
namespace Go.Proofs.YtaidalilfmjfgaaGreat
open Go.RowKit
theorem Ao.len {w:World}:∀ (ds:List D) (vs:List Value) (fp:List Nat),Ao w ds vs fp→vs.length=ds.length
 | [],vs,fp,h=>by unfold Ao at h;rw [h.1];rfl
 | d :: ds,vs,fp,h=>by
  unfold Ao at h
  obtain ⟨v,r,f1,f2,rfl,rfl,_,h2⟩:=h
  simp [Ao.len ds r f2 h2]
section
variable {w:World} {sz n cap b off p:Nat} {A R C:List D} {fp:List Nat}
end
set_option linter.unusedVariables false
end Go.Proofs.YtaidalilfmjfgaaGreat
