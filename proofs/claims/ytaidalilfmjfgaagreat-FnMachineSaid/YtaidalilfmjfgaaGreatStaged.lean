import Derived.Test.YtaidalilfmjfgaaGreatBy
namespace Go.Proofs.YtaidalilfmjfgaaGreat
open Go.Proofs.Tryz
open Go.RowKit
set_option linter.unusedVariables false
set_option linter.unusedSimpArgs false
set_option maxRecDepth 20000
theorem Pd (k:Int) (a b:Ty):szL (tyC (.mk k [a,b]))=2+(szL (tyC a)+szL (tyC b)):=by
 simp only [tyC,Ai,szL,szD,Ah,List.length_cons,List.length_nil,List.append_nil];omega
theorem Lj (k:Int) (a:Ty):szL (tyC (.mk k [a]))=1+szL (tyC a):=by
 simp only [tyC,Ai,szL,szD,List.length_cons,List.length_nil,List.append_nil];omega
theorem In (a b:Ty) (ha:szL (tyC a)≤1000000000) (hb:szL (tyC b)≤1000000000):Con prog 204 [.ag (tyC a),.ag (tyC b)] [.ag (tyC (.mk 3 [a,b]))]:=by
 refine Af func204 rfl rfl (by simp [ntmps204]) ?_
 refine byP ntmps204 ?_
 refine Ac (oT [0,2] (oF [1,3,4] (.cons 5 true (.cons 6 false .nil)))) (by kernel_rfl) DA (by kernel_rfl) (Aa 200 _ _ _ ?_)
 refine byQ ?_
 refine KD (Ba a ha) ?_
 refine rQ ?_
 refine AR (Ba b hb) rfl (Am ?_) ?_ (Aa 200 _ _ _ ?_)
 ·exact byQ tI
 ·simp only [okR]
 simp only [push_cast,↓reduceIte,Nat.reduceLT,Nat.reduceAdd,Nat.reduceMul,Nat.reduceLeDiff,Nat.reduceEqDiff,reduceCtorEq,Au,results204,Ty.kind,Ty.args,Ai]
theorem GW (a:Ty) (ha:szL (tyC a)≤1000000000):Con prog 203 [.ag (tyC a)] [.ag (tyC (.mk 4 [a]))]:=by
 refine Af func203 rfl rfl (by simp [ntmps203]) ?_
 refine byP ntmps203 ?_
 refine As (Ba a ha) rfl (Am ?_) ?_ (Aa 200 _ _ _ ?_)
 ·exact byQ tI
 ·simp only [okR]
 simp only [push_cast,↓reduceIte,Nat.reduceLT,Nat.reduceAdd,Nat.reduceLeDiff,Nat.reduceEqDiff,reduceCtorEq,Au,results203,Ty.kind,Ty.args,Ai]
end Go.Proofs.YtaidalilfmjfgaaGreat
