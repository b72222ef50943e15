import Derived.Lib.LaidTab
import Derived.Lib.ItoaNum
import Derived.Lib.ItoaWalk
import Derived.Test.YtaidalilfmjfgaaGreatRows
namespace Go.Proofs.YtaidalilfmjfgaaGreat
open Go.RowKit
set_option linter.unusedVariables false
def GBl:List Nat:=[]
def aGm (w:World):Prop :=
 True
theorem aA0 {w w':World} (h:aGm w) (hb:∀ k ∈ GBl,w'.heap[k]? = w.heap[k]?):aGm w':=by
 trivial
def GI (w:World):Prop:=(∀ k ∈ GBl,k<w.heap.size)∧aGm w
theorem aG4 {w w':World} (h:GI w) (hs:w.heap.size≤w'.heap.size) (hb:∀ k ∈ GBl,w'.heap[k]? = w.heap[k]?):GI w' :=
 ⟨fun k hk=>Nat.lt_of_lt_of_le (h.1 k hk) hs,aA0 h.2 hb⟩
theorem Nq {w:World} (h:GI w) {M:Nat→Prop} (hm:∀ k ∈ GBl,¬ M k) (w':World) (hs:w.heap.size≤w'.heap.size) (hb:∀ k,k<w.heap.size→¬ M k→w'.heap[k]? = w.heap[k]?):GI w' :=
 aG4 h hs fun k hk=>hb k (h.1 k hk) (hm k hk)
end Go.Proofs.YtaidalilfmjfgaaGreat
