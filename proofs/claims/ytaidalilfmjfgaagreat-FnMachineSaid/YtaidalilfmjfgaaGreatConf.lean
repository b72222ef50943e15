import Derived.Test.YtaidalilfmjfgaaGreatBase
namespace Go.Proofs.YtaidalilfmjfgaaGreat
open Go.RowKit
inductive K where
 | ty | tm | typing | param | item | instr | entry | shape | strs | ints | bools
def rowAt {α:Type} (sz:Nat) (cs:List α) (k:Nat):List α:=(cs.drop (k * sz)).take sz
theorem Ey.row {w:World} {b off:Nat} {vs:List Value} (h:Ey w b off vs) (sz k:Nat):Ey w b (off+k * sz) (rowAt sz vs k):=by
 intro i hi
 simp only [rowAt,List.length_take,List.length_drop] at hi
 have:=h (k * sz+i) (by omega)
 rw [show off+k * sz+i=off+(k * sz+i) by omega,this]
 simp [rowAt]
mutual
def szD:D→Nat
 | .int _=>0
 | .bool _=>0
 | .str s=>s.size
 | .any=>0
 | .byt _=>0
 | .rows _ n cs=>n+szL cs
def szL:List D→Nat
 | []=>0
 | d :: ds=>szD d+szL ds
end
theorem Ah:∀ (a b:List D),szL (a++b)=szL a+szL b
 | [],b=>by simp [szL]
 | d :: a,b=>by simp [szL,Ah a b];omega
set_option linter.unusedVariables false
end Go.Proofs.YtaidalilfmjfgaaGreat
