import Derived.Test.YtaidalilfmjfgaaGreatDat
namespace Go.Proofs.YtaidalilfmjfgaaGreat
open Go.RowKit
set_option linter.unusedVariables false
set_option linter.unusedSimpArgs false
theorem SM {α:Type} [Inhabited α] (c:α→List D):∀ (ys:List α) (j:Nat),j<ys.length→szL (c ys[j]!)≤szL (flC c ys)
 | [],j,hj=>by simp at hj
 | y :: ys,j,hj=>by
  rw [flC,Ah]
  cases j with
  | zero=>simp
  | succ j=>have:=SM c ys j (by simpa using hj);simp only [List.getElem!_cons_succ];omega
theorem XI {α:Type} (c:α→List D) (B:Nat):∀ ys:List α,(∀ y ∈ ys,szL (c y)≤B)→szL (flC c ys)≤ys.length * B
 | [],_=>by simp [flC,szL]
 | y :: ys,h=>by
  have h1:=h y (List.mem_cons_self ..)
  have h2:=XI c B ys fun z hz=>h z (List.mem_cons_of_mem _ hz)
  rw [flC,Ah,List.length_cons,Nat.succ_mul]
  omega
theorem QU {α:Type} (c:α→List D):∀ (ys:List α) (y:α),y ∈ ys→szL (c y)≤szL (flC c ys)
 | [],y,h=>by cases h
 | z :: ys,y,h=>by
  rw [flC,Ah]
  rcases List.mem_cons.mp h with rfl | h
  ·omega
  ·have:=QU c ys y h;omega
end Go.Proofs.YtaidalilfmjfgaaGreat
