import Derived.Test.YtaidalilfmjfgaaGreatTree
import Derived.Test.YtaidalilfmjfgaaGreatDat
import Derived.Test.YtaidalilfmjfgaaGreatTd
namespace Go.Proofs.YtaidalilfmjfgaaGreat
open Go.RowKit
set_option linter.unusedVariables false
set_option linter.unusedSimpArgs false
set_option maxRecDepth 20000
theorem szL_tys' (xs : List Ty) (k : Nat) (h : k < xs.length) : szL (tyC xs[k]!) ≤ szL (tysC xs) := by
  rw [tysC_flat]
  have e := tysC_row' xs k h
  have : ∀ (ys : List Ty) (j : Nat), j < ys.length → szL (tyC ys[j]!) ≤ szL (flC tyC ys) := by
    intro ys
    induction ys with
    | nil => intro j hj; simp at hj
    | cons y ys ih =>
      intro j hj
      rw [flC, szL_append]
      cases j with
      | zero => simp
      | succ j => have := ih j (by simpa using hj); simp only [List.getElem!_cons_succ]; omega
  exact this xs k h
theorem szL_tms' (xs : List Tm) (k : Nat) (h : k < xs.length) : szL (tmC xs[k]!) ≤ szL (tmsC xs) := by
  rw [tmsC_flat]
  have : ∀ (ys : List Tm) (j : Nat), j < ys.length → szL (tmC ys[j]!) ≤ szL (flC tmC ys) := by
    intro ys
    induction ys with
    | nil => intro j hj; simp at hj
    | cons y ys ih =>
      intro j hj
      rw [flC, szL_append]
      cases j with
      | zero => simp
      | succ j => have := ih j (by simpa using hj); simp only [List.getElem!_cons_succ]; omega
  exact this xs k h
theorem con_within (n lo hi:Int):Con Tryz.prog 82 [.one (.int n),.one (.int lo),.one (.int hi)] [.one (.bool (decide (lo≤n) && decide (n≤hi)))]:=by
 refine con_run Tryz.func82 rfl rfl (by simp [Tryz.ntmps82]) ?_
 simp only [push_cast,↓reduceIte,Nat.reduceLT,Nat.reduceAdd,Nat.reduceEqDiff,reduceCtorEq,Tryz.ntmps82,Tryz.results82]
 split
 ·simp [*]
 ·rename_i h;simp [h]
theorem con_l1In (n lo hi:Int):Con Tryz.prog 68 [.one (.int n),.one (.int lo),.one (.int hi)] [.one (.bool (decide (lo≤n) && decide (n≤hi)))]:=by
 refine con_run Tryz.func68 rfl rfl (by simp [Tryz.ntmps68]) ?_
 simp only [push_cast,↓reduceIte,Nat.reduceLT,Nat.reduceAdd,Nat.reduceEqDiff,reduceCtorEq,Tryz.ntmps68,Tryz.results68]
 split
 ·simp [*]
 ·rename_i h;simp [h]
theorem con_l3Copy:∀ t:Ty,szL (tyC t)≤1000000000→Con Tryz.prog 175 [.ag (tyC t)] [.ag (tyC t)]:=by
 refine Ty.ind fun kd xs ih hz => ?_
 have hz':xs.length+szL (tysC xs)≤1000000000:=by simpa [tyC,szL,szD] using hz
 refine con_run Tryz.func175 rfl rfl (by simp [Tryz.ntmps175]) ?_
 simp only [push_cast,↓reduceIte,Nat.reduceLT,Nat.reduceAdd,Nat.reduceLeDiff,Nat.reduceEqDiff,reduceCtorEq,Tryz.ntmps175,tyC]
 refine sw_ownB 2 1 26 rfl rfl ?_
 refine sw_loop (fun k:Nat=>k≤xs.length) (fun k=>⟨27,[(4,.i k),(1,.bx 0 0),(2,.bx 1 0),(3,.bx 2 0)],[(0,[.i kd,.br (.rows 2 xs.length (tysC xs))]),(1,[.i 0,.nl 2]),(2,[.i kd,.sl 3])],[(3,some ⟨.rows 2 k (tysC (xs.take k)),some 26,true⟩)],4,[]⟩) (fun k=>xs.length-k) 0 id (Nat.zero_le _) ?_ ?_
 ·simp only [push_cast,Sub,subT,subB,subO,subP,inj,AV.ren,AV.rens,AV.lt,AV.lts,↓reduceIte,Nat.reduceLT,Nat.reduceAdd,Nat.reduceEqDiff,reduceCtorEq,tysC]
 ·rintro k hk
  refine sw_run 200 _ _ _ ?_
  by_cases hlt:k<xs.length
  ·have hi:(k:Int)<(xs.length:Int):=by omega
   simp only [push_cast,↓reduceIte,Nat.reduceLT,Nat.reduceEqDiff,hi]
   refine sw_drawn (.cons 0 true (.cons 1 true (.cons 2 true (.cons 3 true (.cons 4 true (.cons 5 true (.cons 6 true (.cons 7 false (.cons 8 false (.cons 9 false (.cons 10 true (.cons 11 false (.nil))))))))))))) (by kernel_rfl) qLp_panic (by kernel_rfl) (sw_run 200 _ _ _ ?_)
   have hR:=tysC_row' xs k hlt
   have hm:=mem_bang hlt
   have hs:szL (tyC xs[k]!)≤1000000000:=by
    have:=szL_tys' xs k hlt
    omega
   simp only [push_cast,↓reduceIte,Nat.reduceLT,Nat.reduceAdd,Nat.reduceEqDiff,hR,tyC_eq,hi]
   refine sw_callD (ih _ hm hs) rfl (aAs_ok ?_) ?_ (sw_run 200 _ _ _ ?_)
   ·simp only [push_cast,aAs,aA,aDs,aD,↓reduceIte,tyC_eq]
   ·simp only [okR]
   simp only [push_cast,↓reduceIte,Nat.reduceLT,Nat.reduceAdd,Nat.reduceLeDiff,Nat.reduceEqDiff,tyC_eq]
   refine ⟨⟨fun o ho=>by omega,by unfold maxLen;omega,by omega⟩,by unfold inI;omega,k+1,rn1 3 6,by omega,by omega, ?_⟩
   simp only [push_cast,Sub,subT,subB,subO,subP,inj,AV.ren,AV.rens,AV.lt,AV.lts,↓reduceIte,Nat.reduceLT,Nat.reduceEqDiff,reduceCtorEq,rn1,cast1,tysC_snoc' xs k hlt,tyC_eq]
  ·have hi:¬ (k:Int)<(xs.length:Int):=by omega
   obtain rfl:k=xs.length:=by omega
   simp only [push_cast,↓reduceIte,Nat.reduceLT,Nat.reduceEqDiff,hi]
   refine sw_run 200 _ _ _ ?_
   simp only [push_cast,↓reduceIte,Nat.reduceLT,Nat.reduceAdd,Nat.reduceEqDiff,reduceCtorEq,List.take_length,Tryz.results175]
end Go.Proofs.YtaidalilfmjfgaaGreat
