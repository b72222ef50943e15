import Derived.Test.YtaidalilfmjfgaaGreatTyC
import Derived.Test.YtaidalilfmjfgaaGreatLst
import Derived.Test.YtaidalilfmjfgaaGreatBy
namespace Go.Proofs.YtaidalilfmjfgaaGreat
open Go.RowKit
set_option linter.unusedVariables false
set_option linter.unusedSimpArgs false
set_option maxRecDepth 20000
theorem sz_two (k:Int) (a b:Ty):szL (tyC (.mk k [a,b]))=2+(szL (tyC a)+szL (tyC b)):=by
 simp only [tyC,tysC,szL,szD,szL_append,List.length_cons,List.length_nil,List.append_nil];omega
theorem sz_one (k:Int) (a:Ty):szL (tyC (.mk k [a]))=1+szL (tyC a):=by
 simp only [tyC,tysC,szL,szD,List.length_cons,List.length_nil,List.append_nil];omega
theorem con_l3Fun (a b:Ty) (ha:szL (tyC a)≤1000000000) (hb:szL (tyC b)≤1000000000):Con Tryz.prog 204 [.ag (tyC a),.ag (tyC b)] [.ag (tyC (.mk 3 [a,b]))]:=by
 refine con_run Tryz.func204 rfl rfl (by simp [Tryz.ntmps204]) ?_
 refine byP Tryz.ntmps204 ?_
 refine sw_drawn (.cons 0 true (.cons 2 true (.cons 1 false (.cons 3 false (.cons 4 false (.cons 5 true (.cons 6 false (.nil)))))))) (by kernel_rfl) fQ_panic (by kernel_rfl) (sw_run 200 _ _ _ ?_)
 refine byQ ?_
 refine sw_callD (con_l3Copy a ha) rfl (aAs_ok ?_) ?_ (sw_run 200 _ _ _ ?_)
 ·exact byQ True.intro
 ·simp only [okR]
 refine byQ ?_
 refine sw_callD (con_l3Copy b hb) rfl (aAs_ok ?_) ?_ (sw_run 200 _ _ _ ?_)
 ·exact byQ True.intro
 ·simp only [okR]
 simp only [push_cast,↓reduceIte,Nat.reduceLT,Nat.reduceAdd,Nat.reduceMul,Nat.reduceLeDiff,Nat.reduceEqDiff,reduceCtorEq,tyC_eq,Tryz.results204,Ty.kind,Ty.args,tysC]
theorem con_l3Code (a:Ty) (ha:szL (tyC a)≤1000000000):Con Tryz.prog 203 [.ag (tyC a)] [.ag (tyC (.mk 4 [a]))]:=by
 refine con_run Tryz.func203 rfl rfl (by simp [Tryz.ntmps203]) ?_
 refine byP Tryz.ntmps203 ?_
 refine sw_call (con_l3Copy a ha) rfl (aAs_ok ?_) ?_ (sw_run 200 _ _ _ ?_)
 ·exact byQ True.intro
 ·simp only [okR]
 simp only [push_cast,↓reduceIte,Nat.reduceLT,Nat.reduceAdd,Nat.reduceLeDiff,Nat.reduceEqDiff,reduceCtorEq,tyC_eq,Tryz.results203,Ty.kind,Ty.args,tysC]
end Go.Proofs.YtaidalilfmjfgaaGreat
