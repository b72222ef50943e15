import Derived.Test.YtaidalilfmjfgaaGreatTyC
import Derived.Test.YtaidalilfmjfgaaGreatLst
namespace Go.Proofs.YtaidalilfmjfgaaGreat
open Go.RowKit
set_option linter.unusedVariables false
set_option linter.unusedSimpArgs false
set_option maxRecDepth 20000
theorem sz_partsE {t:Tm} {B:Nat} (h:szL (tmC t)≤B):szL (tyC t.ty)≤B∧szL (tyC t.res)≤B∧t.args.length+szL (tmsC t.args)≤B:=by
 rw [tmC_eq] at h;rw [tyC_eq,tyC_eq];simp only [szL,szD,tysD,tmsD] at h ⊢; omega
def likeL {α:Type} (f:α→α→Bool):List α→List α→Bool
 | [],[]=>true
 | x :: xs,y :: ys=>f x y && likeL f xs ys
 | [],_ :: _=>false
 | _ :: _,[]=>false
theorem likeL_ne {α:Type} (f:α→α→Bool):∀ xs ys:List α,xs.length≠ys.length→likeL f xs ys=false
 | [],[],h=>absurd rfl h
 | x :: xs,y :: ys,h=>by rw [likeL,likeL_ne f xs ys (by simpa using h),Bool.and_false]
 | [],_ :: _,_=>rfl
 | _ :: _,[],_=>rfl
theorem likeL_step {α:Type} [Inhabited α] (f:α→α→Bool) (xs ys:List α) (k:Nat) (h:k<xs.length) (h2:k<ys.length):likeL f (xs.drop k) (ys.drop k)=(f xs[k]! ys[k]! && likeL f (xs.drop (k+1)) (ys.drop (k+1))):=by
 rw [List.drop_eq_getElem_cons h,List.drop_eq_getElem_cons h2,likeL,getElem!_pos xs k h,getElem!_pos ys k h2]
theorem likeL_end {α:Type} (f:α→α→Bool) (xs ys:List α) (k:Nat) (h:xs.length≤k) (h2:ys.length≤k):likeL f (xs.drop k) (ys.drop k)=true:=by
 rw [List.drop_of_length_le h,List.drop_of_length_le h2];rfl
mutual
def eqTy:Ty→Ty→Bool
 | .mk k xs,.mk l ys=>decide (k=l) && eqTys xs ys
def eqTys:List Ty→List Ty→Bool
 | [],[]=>true
 | x :: xs,y :: ys=>eqTy x y && eqTys xs ys
 | [],_ :: _=>false
 | _ :: _,[]=>false
end
theorem eqTys_L:∀ xs ys:List Ty,eqTys xs ys=likeL eqTy xs ys
 | [],[]=>by rw [eqTys,likeL]
 | x :: xs,y :: ys=>by rw [eqTys,likeL,eqTys_L xs ys]
 | [],_ :: _=>by rw [eqTys,likeL]
 | _ :: _,[]=>by rw [eqTys,likeL]
theorem con_EqFTy (g:FuncId) (f:Ty→Ty→Bool) (xs ys:List Ty) (hl:xs.length≤1000000000) (hp:∀ a ∈ xs,∀ b ∈ ys,Con Tryz.prog g [.ag (tyC a),.ag (tyC b)] [.one (.bool (f a b))]) :
  Con Tryz.prog 270 [.one (.rows 2 xs.length (tysC xs)),.one (.rows 2 ys.length (tysC ys)),.fn g []] [.one (.bool (likeL f xs ys))]:=by
 refine con_run Tryz.func270 rfl rfl (by simp [Tryz.ntmps270]) ?_
 by_cases hn:(xs.length:Int)=(ys.length:Int)
 case neg =>
  rw [likeL_ne f xs ys (by omega)]
  simp only [push_cast,↓reduceIte,Nat.reduceLT,Nat.reduceAdd,Nat.reduceEqDiff,reduceCtorEq,hn,Tryz.ntmps270,Tryz.results270]
 have hn2:xs.length=ys.length:=by omega
 simp only [push_cast,↓reduceIte,Nat.reduceLT,Nat.reduceAdd,Nat.reduceEqDiff,reduceCtorEq,hn2,Tryz.ntmps270]
 refine sw_loop (fun k:Nat=>k≤xs.length∧likeL f (xs.drop k) (ys.drop k)=likeL f xs ys) (fun k=>⟨32,[(17,.i k),(16,.i ys.length),(15,.br (.rows 2 ys.length (tysC xs))),(1,.br (.rows 2 ys.length (tysC ys))),(2,.fn g [])],[],[],0,[]⟩) (fun k=>xs.length-k) 0 id ⟨Nat.zero_le _,rfl⟩ ?_ ?_
 ·simp only [push_cast,Sub,subT,subB,subO,subP,inj,AV.ren,AV.rens,AV.lt,AV.lts,↓reduceIte,Nat.reduceEqDiff]
 ·rintro k ⟨hk,hf⟩
  refine sw_run 200 _ _ _ ?_
  by_cases hlt:k<xs.length
  ·have hi:(k:Int)<(ys.length:Int):=by omega
   have hR:=tysC_row' xs k hlt
   have hR2:=tysC_row' ys k (by omega)
   have hpc:=hp _ (mem_bang hlt) _ (mem_bang (show k<ys.length by omega))
   rw [likeL_step f xs ys k hlt (by omega)] at hf
   obtain ⟨b,hb⟩:∃ b,b=f xs[k]! ys[k]! := ⟨_,rfl⟩
   rw [← hb] at hf hpc
   simp only [push_cast,↓reduceIte,Nat.reduceLT,Nat.reduceAdd,Nat.reduceEqDiff,reduceCtorEq,hi,hR,hR2,tyC_eq]
   refine sw_call (hpc) rfl (aAs_ok ?_) ?_ (sw_run 200 _ _ _ ?_)
   ·simp only [push_cast,aAs,aA,aDs,aD,↓reduceIte,Nat.reduceEqDiff,tyC_eq]
   ·simp only [okR]
   cases b
   ·rw [Bool.false_and] at hf
    rw [← hf]
    simp only [push_cast,↓reduceIte,Nat.reduceLT,reduceCtorEq,Tryz.results270]
   ·rw [Bool.true_and] at hf
    simp only [push_cast,↓reduceIte,Nat.reduceLT,Nat.reduceEqDiff]
    refine ⟨by unfold inI;omega,k+1,id,⟨by omega,hf⟩,by omega, ?_⟩
    simp only [push_cast,Sub,subT,subB,subO,subP,inj,AV.ren,AV.rens,AV.lt,AV.lts,↓reduceIte,Nat.reduceEqDiff,cast1]
  ·have hi:¬ (k:Int)<(ys.length:Int):=by omega
   rw [likeL_end f xs ys k (by omega) (by omega)] at hf
   rw [← hf]
   simp only [push_cast,↓reduceIte,Nat.reduceLT,Nat.reduceEqDiff,hi]
   refine sw_run 200 _ _ _ ?_
   simp only [push_cast,↓reduceIte,Nat.reduceLT,reduceCtorEq,Tryz.results270]
theorem con_EqTyI:∀ t u:Ty,szL (tyC t)≤1000000000→Con Tryz.prog 245 [.ag (tyC t),.ag (tyC u)] [.one (.bool (eqTy t u))]:=by
 refine Ty.ind fun kd xs ih u hz => ?_
 obtain ⟨kd2,ys⟩:=u
 have hz':xs.length+szL (tysC xs)≤1000000000:=by simpa [tyC,szL,szD] using hz
 have hc:=con_EqFTy 245 eqTy xs ys (by omega) fun a ha b hb=>ih a ha b (by
  have:=szL_mem tyC xs a ha
  rw [← tysC_flat] at this
  omega)
 rw [eqTy,eqTys_L]
 refine con_run Tryz.func245 rfl rfl (by simp [Tryz.ntmps245]) ?_
 by_cases hn:kd=kd2
 case neg =>
  simp only [push_cast,↓reduceIte,Nat.reduceLT,Nat.reduceAdd,Nat.reduceEqDiff,reduceCtorEq,tyC,hn,Tryz.ntmps245,Tryz.results245]
 simp only [push_cast,↓reduceIte,Nat.reduceLT,Nat.reduceAdd,Nat.reduceEqDiff,reduceCtorEq,tyC,eq_true hn,Tryz.ntmps245]
 refine sw_call (hc) rfl (aAs_ok ?_) ?_ (sw_run 200 _ _ _ ?_)
 ·simp only [push_cast,aAs,aA,aD,↓reduceIte,Nat.reduceEqDiff]
 ·simp only [okR]
 simp only [push_cast,↓reduceIte,Nat.reduceLT,Nat.reduceEqDiff,reduceCtorEq,Tryz.results245]
theorem con_EqTyS:∀ t u:Ty,szL (tyC t)≤1000000000→Con Tryz.prog 114 [.ag (tyC t),.ag (tyC u)] [.one (.bool (eqTy t u))]:=by
 refine Ty.ind fun kd xs ih u hz => ?_
 obtain ⟨kd2,ys⟩:=u
 have hz':xs.length+szL (tysC xs)≤1000000000:=by simpa [tyC,szL,szD] using hz
 obtain ⟨r,hr⟩:∃ r,r=eqTy (.mk kd xs) (.mk kd2 ys):=⟨_,rfl⟩
 have hr0:=hr
 rw [eqTy,eqTys_L] at hr
 rw [← hr0]
 refine con_run Tryz.func114 rfl rfl (by simp [Tryz.ntmps114]) ?_
 by_cases hn:kd=kd2
 case neg =>
  rw [hr]
  simp only [push_cast,↓reduceIte,Nat.reduceLT,Nat.reduceAdd,Nat.reduceMul,Nat.reduceLeDiff,Nat.reduceEqDiff,reduceCtorEq,Int.reduceLT,Int.reduceLE,Int.reduceEq,Int.reduceNe,Int.reduceAdd,Int.reduceSub,Int.reduceMul,Int.reduceNeg,Int.reduceToNat,Nat.reduceSub,tyC,hn,Tryz.ntmps114,Tryz.results114]
 by_cases hm:(xs.length:Int)=(ys.length:Int)
 case neg =>
  rw [hr,likeL_ne eqTy xs ys (by omega),Bool.and_false]
  simp only [push_cast,↓reduceIte,Nat.reduceLT,Nat.reduceAdd,Nat.reduceMul,Nat.reduceLeDiff,Nat.reduceEqDiff,reduceCtorEq,Int.reduceLT,Int.reduceLE,Int.reduceEq,Int.reduceNe,Int.reduceAdd,Int.reduceSub,Int.reduceMul,Int.reduceNeg,Int.reduceToNat,Nat.reduceSub,tyC,eq_true hn,hm,Tryz.ntmps114,Tryz.results114]
 have hf0:r=likeL eqTy xs ys:=by rw [hr,decide_eq_true hn,Bool.true_and]
 simp only [push_cast,↓reduceIte,Nat.reduceLT,Nat.reduceAdd,Nat.reduceMul,Nat.reduceLeDiff,Nat.reduceEqDiff,reduceCtorEq,Int.reduceLT,Int.reduceLE,Int.reduceEq,Int.reduceNe,Int.reduceAdd,Int.reduceSub,Int.reduceMul,Int.reduceNeg,Int.reduceToNat,Nat.reduceSub,tyC,eq_true hn,eq_true hm,Tryz.ntmps114,Tryz.results114]
 refine sw_loop (fun k:Nat=>k≤(xs).length∧likeL eqTy ((xs).drop k) ((ys).drop k)=r) (fun k=>⟨39,[(5,.i k),(2,.bx 0 0),(3,.bx 1 0)],[(0,[.i kd,.br (.rows 2 xs.length (tysC xs))]),(1,[.i kd2,.br (.rows 2 ys.length (tysC ys))])],[],2,[]⟩) (fun k=>(xs).length-k) 0 id ⟨Nat.zero_le _,hf0.symm⟩ ?_ ?_
 ·simp only [push_cast,Sub,subT,subB,subO,subP,inj,AV.ren,AV.rens,AV.lt,AV.lts,↓reduceIte,Nat.reduceLT,Nat.reduceAdd,Nat.reduceMul,Nat.reduceLeDiff,Nat.reduceEqDiff,reduceCtorEq,Int.reduceLT,Int.reduceLE,Int.reduceEq,Int.reduceNe,Int.reduceAdd,Int.reduceSub,Int.reduceMul,Int.reduceNeg,Int.reduceToNat,Nat.reduceSub]
 ·rintro k ⟨hk,hf⟩
  refine sw_run 200 _ _ _ ?_
  by_cases hlt:k<(xs).length
  ·have hi:(k:Int)<((xs).length:Int):=by omega
   have hi2:(k:Int)<((ys).length:Int):=by omega
   have hR:=tysC_row' (xs) k hlt
   have hR2:=tysC_row' (ys) k (by omega)
   have hpc:=ih _ (mem_bang hlt) ys[k]! (by have:=szL_tys' xs k hlt;omega)
   rw [likeL_step eqTy _ _ k hlt (by omega)] at hf
   obtain ⟨c0,hb⟩:∃ c,c=eqTy (xs)[k]! (ys)[k]! := ⟨_,rfl⟩
   rw [← hb] at hf hpc
   simp only [push_cast,↓reduceIte,Nat.reduceLT,Nat.reduceAdd,Nat.reduceMul,Nat.reduceLeDiff,Nat.reduceEqDiff,reduceCtorEq,Int.reduceLT,Int.reduceLE,Int.reduceEq,Int.reduceNe,Int.reduceAdd,Int.reduceSub,Int.reduceMul,Int.reduceNeg,Int.reduceToNat,Nat.reduceSub,hi,hi2,hR,hR2,tyC_eq]
   refine sw_drawn (.cons 0 true (.cons 1 true (.cons 2 true (.cons 3 true (.cons 4 true (.cons 5 true (.cons 6 true (.cons 7 true (.cons 8 true (.cons 9 true (.cons 10 false (.cons 11 true (.nil))))))))))))) (by kernel_rfl) qLp_panic (by kernel_rfl) (sw_run 200 _ _ _ ?_)
   simp only [push_cast,↓reduceIte,Nat.reduceLT,Nat.reduceAdd,Nat.reduceMul,Nat.reduceLeDiff,Nat.reduceEqDiff,reduceCtorEq,Int.reduceLT,Int.reduceLE,Int.reduceEq,Int.reduceNe,Int.reduceAdd,Int.reduceSub,Int.reduceMul,Int.reduceNeg,Int.reduceToNat,Nat.reduceSub,hi,hi2,hR,hR2,tyC_eq]
   refine sw_callD (hpc) rfl (aAs_ok ?_) ?_ (sw_run 200 _ _ _ ?_)
   ·simp only [push_cast,aAs,aA,aDs,aD,↓reduceIte,Nat.reduceEqDiff,Nat.reduceLT,Nat.reduceAdd,reduceCtorEq,tyC_eq]
   ·simp only [okR]
   cases c0
   ·rw [Bool.false_and] at hf
    rw [← hf]
    simp only [push_cast,↓reduceIte,Nat.reduceLT,Nat.reduceAdd,Nat.reduceMul,Nat.reduceLeDiff,Nat.reduceEqDiff,reduceCtorEq,Int.reduceLT,Int.reduceLE,Int.reduceEq,Int.reduceNe,Int.reduceAdd,Int.reduceSub,Int.reduceMul,Int.reduceNeg,Int.reduceToNat,Nat.reduceSub,hi,hi2,hR,hR2,tyC_eq,Tryz.ntmps114,Tryz.results114]
   ·rw [Bool.true_and] at hf
    simp only [push_cast,↓reduceIte,Nat.reduceLT,Nat.reduceAdd,Nat.reduceMul,Nat.reduceLeDiff,Nat.reduceEqDiff,reduceCtorEq,Int.reduceLT,Int.reduceLE,Int.reduceEq,Int.reduceNe,Int.reduceAdd,Int.reduceSub,Int.reduceMul,Int.reduceNeg,Int.reduceToNat,Nat.reduceSub,hi,hi2,hR,hR2,tyC_eq]
    refine ⟨by unfold inI;omega,k+1,id,⟨by omega,hf⟩,by omega, ?_⟩
    simp only [push_cast,Sub,subT,subB,subO,subP,inj,AV.ren,AV.rens,AV.lt,AV.lts,↓reduceIte,Nat.reduceLT,Nat.reduceAdd,Nat.reduceMul,Nat.reduceLeDiff,Nat.reduceEqDiff,reduceCtorEq,Int.reduceLT,Int.reduceLE,Int.reduceEq,Int.reduceNe,Int.reduceAdd,Int.reduceSub,Int.reduceMul,Int.reduceNeg,Int.reduceToNat,Nat.reduceSub,cast1]
  ·have hi:¬ (k:Int)<((xs).length:Int):=by omega
   rw [likeL_end eqTy _ _ k (by omega) (by omega)] at hf
   rw [← hf]
   simp only [push_cast,↓reduceIte,Nat.reduceLT,Nat.reduceAdd,Nat.reduceMul,Nat.reduceLeDiff,Nat.reduceEqDiff,reduceCtorEq,Int.reduceLT,Int.reduceLE,Int.reduceEq,Int.reduceNe,Int.reduceAdd,Int.reduceSub,Int.reduceMul,Int.reduceNeg,Int.reduceToNat,Nat.reduceSub,hi]
   refine sw_run 200 _ _ _ ?_
   simp only [push_cast,↓reduceIte,Nat.reduceLT,Nat.reduceAdd,Nat.reduceMul,Nat.reduceLeDiff,Nat.reduceEqDiff,reduceCtorEq,Int.reduceLT,Int.reduceLE,Int.reduceEq,Int.reduceNe,Int.reduceAdd,Int.reduceSub,Int.reduceMul,Int.reduceNeg,Int.reduceToNat,Nat.reduceSub,Tryz.ntmps114,Tryz.results114]
end Go.Proofs.YtaidalilfmjfgaaGreat
