import Derived.Test.YtaidalilfmjfgaaGreatDat
import Derived.Test.YtaidalilfmjfgaaGreatTd
namespace Go.Proofs.YtaidalilfmjfgaaGreat
open Go.Proofs.Tryz
open Go.RowKit
set_option linter.unusedVariables false
set_option linter.unusedSimpArgs false
set_option maxRecDepth 20000
theorem Dy (xs:List Ty) (k:Nat) (h:k<xs.length):szL (tyC xs[k]!)≤szL (Ai xs):=by
 rw [Dp]
 have e:=Ax xs k h
 have:∀ (ys:List Ty) (j:Nat),j<ys.length→szL (tyC ys[j]!)≤szL (flC tyC ys):=by
  intro ys
  induction ys with
  | nil=>intro j hj;simp at hj
  | cons y ys ih =>
   intro j hj
   rw [flC,Ah]
   cases j with
   | zero=>simp
   | succ j=>have:=ih j (by simpa using hj);simp only [List.getElem!_cons_succ];omega
 exact this xs k h
theorem Bv (xs:List Tm) (k:Nat) (h:k<xs.length):szL (tmC xs[k]!)≤szL (Av xs):=by
 rw [At]
 have:∀ (ys:List Tm) (j:Nat),j<ys.length→szL (tmC ys[j]!)≤szL (flC tmC ys):=by
  intro ys
  induction ys with
  | nil=>intro j hj;simp at hj
  | cons y ys ih =>
   intro j hj
   rw [flC,Ah]
   cases j with
   | zero=>simp
   | succ j=>have:=ih j (by simpa using hj);simp only [List.getElem!_cons_succ];omega
 exact this xs k h
theorem BR (n lo hi:Int):Con prog 82 [.one (.int n),.one (.int lo),.one (.int hi)] [.one (.bool (decide (lo≤n) && decide (n≤hi)))]:=by
 refine Af func82 rfl rfl (by simp [ntmps82]) ?_
 simp only [push_cast,↓reduceIte,Nat.reduceLT,Nat.reduceAdd,Nat.reduceEqDiff,reduceCtorEq,ntmps82,results82]
 split
 ·simp [*]
 ·rename_i h;simp [h]
theorem BD (n lo hi:Int):Con prog 68 [.one (.int n),.one (.int lo),.one (.int hi)] [.one (.bool (decide (lo≤n) && decide (n≤hi)))]:=by
 refine Af func68 rfl rfl (by simp [ntmps68]) ?_
 simp only [push_cast,↓reduceIte,Nat.reduceLT,Nat.reduceAdd,Nat.reduceEqDiff,reduceCtorEq,ntmps68,results68]
 split
 ·simp [*]
 ·rename_i h;simp [h]
theorem Ba:∀ t:Ty,szL (tyC t)≤1000000000→Con prog 175 [.ag (tyC t)] [.ag (tyC t)]:=by
 refine Ty.ind fun kd xs ih hz => ?_
 have hz':xs.length+szL (Ai xs)≤1000000000:=by simpa [tyC,szL,szD] using hz
 refine Af func175 rfl rfl (by simp [ntmps175]) ?_
 simp only [push_cast,↓reduceIte,Nat.reduceLT,Nat.reduceAdd,Nat.reduceLeDiff,Nat.reduceEqDiff,reduceCtorEq,ntmps175,tyC]
 refine FA 2 1 26 rfl rfl ?_
 refine Al (fun k:Nat=>k≤xs.length) (fun k=>⟨27,[(4,.i k),(1,.bx 0 0),(2,.bx 1 0),(3,.bx 2 0)],[(0,[.i kd,.br (.rows 2 xs.length (Ai xs))]),(1,[.i 0,.nl 2]),(2,[.i kd,.sl 3])],[(3,some ⟨.rows 2 k (Ai (xs.take k)),some 26,true⟩)],4,[]⟩) (fun k=>xs.length-k) 0 id (Nat.zero_le _) ?_ ?_
 ·simp only [push_cast,Sub,EG,EL,ED,EH,inj,AV.ren,AV.rens,AV.lt,AV.lts,↓reduceIte,Nat.reduceLT,Nat.reduceAdd,Nat.reduceEqDiff,reduceCtorEq,Ai]
 ·rintro k hk
  refine Aa 200 _ _ _ ?_
  by_cases hlt:k<xs.length
  ·have hi:(k:Int)<(xs.length:Int):=by omega
   simp only [push_cast,↓reduceIte,Nat.reduceLT,Nat.reduceEqDiff,hi]
   refine Ac (.cons 0 true (.cons 1 true (.cons 2 true (.cons 3 true (.cons 4 true (.cons 5 true (.cons 6 true (.cons 7 false (.cons 8 false (.cons 9 false (.cons 10 true (.cons 11 false (.nil))))))))))))) (by kernel_rfl) AD (by kernel_rfl) (Aa 200 _ _ _ ?_)
   have hR:=Ax xs k hlt
   have hm:=Ab hlt
   have hs:szL (tyC xs[k]!)≤1000000000:=by
    have:=Dy xs k hlt
    omega
   simp only [push_cast,↓reduceIte,Nat.reduceLT,Nat.reduceAdd,Nat.reduceEqDiff,hR,Au,hi]
   refine AR (ih _ hm hs) rfl (Am ?_) ?_ (Aa 200 _ _ _ ?_)
   ·simp only [push_cast,aAs,aA,aDs,aD,↓reduceIte,Au]
   ·simp only [okR]
   simp only [push_cast,↓reduceIte,Nat.reduceLT,Nat.reduceAdd,Nat.reduceLeDiff,Nat.reduceEqDiff,Au]
   refine ⟨⟨fun o ho=>by omega,by unfold maxLen;omega,by omega⟩,by unfold inI;omega,k+1,rn1 3 6,by omega,by omega, ?_⟩
   simp only [push_cast,Sub,EG,EL,ED,EH,inj,AV.ren,AV.rens,AV.lt,AV.lts,↓reduceIte,Nat.reduceLT,Nat.reduceEqDiff,reduceCtorEq,rn1,Bx,Qb xs k hlt,Au]
  ·have hi:¬ (k:Int)<(xs.length:Int):=by omega
   obtain rfl:k=xs.length:=by omega
   simp only [push_cast,↓reduceIte,Nat.reduceLT,Nat.reduceEqDiff,hi]
   refine Aa 200 _ _ _ ?_
   simp only [push_cast,↓reduceIte,Nat.reduceLT,Nat.reduceAdd,Nat.reduceEqDiff,reduceCtorEq,List.take_length,results175]
end Go.Proofs.YtaidalilfmjfgaaGreat
