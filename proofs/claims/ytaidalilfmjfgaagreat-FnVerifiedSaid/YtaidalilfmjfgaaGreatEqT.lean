import Derived.Test.YtaidalilfmjfgaaGreatTyC
import Derived.Test.YtaidalilfmjfgaaGreatLst
import Derived.Test.YtaidalilfmjfgaaGreatBy
namespace Go.Proofs.YtaidalilfmjfgaaGreat
open Go.RowKit
set_option linter.unusedVariables false
set_option linter.unusedSimpArgs false
set_option maxRecDepth 20000
theorem sz_partsE {t:Tm} {B:Nat} (h:szL (tmC t)≤B):szL (tyC t.ty)≤B∧szL (tyC t.res)≤B∧t.args.length+szL (tmsC t.args)≤B:=by
 rw [tmC_eq] at h;rw [tyC_eq,tyC_eq];simp only [szL,szD,tysD,tmsD] at h ⊢; omega
def likeL {α:Type} (f:α→α→Bool):List α→List α→Bool
 | [],[]=>true
 | x :: xs,y :: ys=>f x y && likeL f xs ys
 | [],_ :: _=>false
 | _ :: _,[]=>false
theorem likeL_ne {α:Type} (f:α→α→Bool):∀ xs ys:List α,xs.length≠ys.length→likeL f xs ys=false
 | [],[],h=>absurd rfl h
 | x :: xs,y :: ys,h=>by rw [likeL,likeL_ne f xs ys (by simpa using h),Bool.and_false]
 | [],_ :: _,_=>rfl
 | _ :: _,[],_=>rfl
theorem likeL_step {α:Type} [Inhabited α] (f:α→α→Bool) (xs ys:List α) (k:Nat) (h:k<xs.length) (h2:k<ys.length):likeL f (xs.drop k) (ys.drop k)=(f xs[k]! ys[k]! && likeL f (xs.drop (k+1)) (ys.drop (k+1))):=by
 rw [List.drop_eq_getElem_cons h,List.drop_eq_getElem_cons h2,likeL,getElem!_pos xs k h,getElem!_pos ys k h2]
theorem likeL_end {α:Type} (f:α→α→Bool) (xs ys:List α) (k:Nat) (h:xs.length≤k) (h2:ys.length≤k):likeL f (xs.drop k) (ys.drop k)=true:=by
 rw [List.drop_of_length_le h,List.drop_of_length_le h2];rfl
mutual
def eqTy:Ty→Ty→Bool
 | .mk k xs,.mk l ys=>decide (k=l) && eqTys xs ys
def eqTys:List Ty→List Ty→Bool
 | [],[]=>true
 | x :: xs,y :: ys=>eqTy x y && eqTys xs ys
 | [],_ :: _=>false
 | _ :: _,[]=>false
end
theorem eqTys_L:∀ xs ys:List Ty,eqTys xs ys=likeL eqTy xs ys
 | [],[]=>by rw [eqTys,likeL]
 | x :: xs,y :: ys=>by rw [eqTys,likeL,eqTys_L xs ys]
 | [],_ :: _=>by rw [eqTys,likeL]
 | _ :: _,[]=>by rw [eqTys,likeL]
theorem con_EqTyS:∀ t u:Ty,szL (tyC t)≤1000000000→Con Tryz.prog 114 [.ag (tyC t),.ag (tyC u)] [.one (.bool (eqTy t u))]:=by
 refine Ty.ind fun kd xs ih u hz => ?_
 obtain ⟨kd2,ys⟩:=u
 have hz':xs.length+szL (tysC xs)≤1000000000:=by simpa [tyC,szL,szD] using hz
 obtain ⟨r,hr⟩:∃ r,r=eqTy (.mk kd xs) (.mk kd2 ys):=⟨_,rfl⟩
 have hr0:=hr
 rw [eqTy,eqTys_L] at hr
 rw [← hr0]
 refine con_run Tryz.func114 rfl rfl (by simp [Tryz.ntmps114]) ?_
 by_cases hn:kd=kd2
 case neg =>
  rw [hr]
  exact byP (fc tyC.eq_1 (fc hn (fc Tryz.ntmps114 Tryz.results114))) True.intro
 by_cases hm:(xs.length:Int)=(ys.length:Int)
 case neg =>
  rw [hr,likeL_ne eqTy xs ys (by omega),Bool.and_false]
  exact byP (fc tyC.eq_1 (fc (eq_true hn) (fc hm (fc Tryz.ntmps114 Tryz.results114)))) True.intro
 have hf0:r=likeL eqTy xs ys:=by rw [hr,decide_eq_true hn,Bool.true_and]
 refine byP (fc tyC.eq_1 (fc (eq_true hn) (fc (eq_true hm) (fc Tryz.ntmps114 Tryz.results114)))) ?_
 refine sw_loop (fun k:Nat=>k≤(xs).length∧likeL eqTy ((xs).drop k) ((ys).drop k)=r) (fun k=>⟨39,[(5,.i k),(2,.bx 0 0),(3,.bx 1 0)],[(0,[.i kd,.br (.rows 2 xs.length (tysC xs))]),(1,[.i kd2,.br (.rows 2 ys.length (tysC ys))])],[],2,[]⟩) (fun k=>(xs).length-k) 0 id ⟨Nat.zero_le _,hf0.symm⟩ ?_ ?_
 ·exact byQ True.intro
 ·rintro k ⟨hk,hf⟩
  refine sw_run 200 _ _ _ ?_
  by_cases hlt:k<(xs).length
  ·have hi:(k:Int)<((xs).length:Int):=by omega
   have hi2:(k:Int)<((ys).length:Int):=by omega
   have hR:=tysC_row' (xs) k hlt
   have hR2:=tysC_row' (ys) k (by omega)
   have hpc:=ih _ (mem_bang hlt) ys[k]! (by have:=szL_tys' xs k hlt;omega)
   rw [likeL_step eqTy _ _ k hlt (by omega)] at hf
   obtain ⟨c0,hb⟩:∃ c,c=eqTy (xs)[k]! (ys)[k]! := ⟨_,rfl⟩
   rw [← hb] at hf hpc
   refine byP (fc hi (fc hi2 (fc hR hR2))) ?_
   refine sw_drawn (.cons 0 true (.cons 1 true (.cons 2 true (.cons 3 true (.cons 4 true (.cons 5 true (.cons 6 true (.cons 7 true (.cons 8 true (.cons 9 true (.cons 10 false (.cons 11 true (.nil))))))))))))) (by kernel_rfl) qLp_panic (by kernel_rfl) (sw_run 200 _ _ _ ?_)
   refine byP (fc hi (fc hi2 (fc hR hR2))) ?_
   refine sw_callD (hpc) rfl (aAs_ok ?_) ?_ (sw_run 200 _ _ _ ?_)
   ·exact byQ True.intro
   ·simp only [okR]
   cases c0
   ·rw [Bool.false_and] at hf
    rw [← hf]
    exact byP (fc hi (fc hi2 (fc hR (fc hR2 (fc Tryz.ntmps114 Tryz.results114))))) True.intro
   ·rw [Bool.true_and] at hf
    refine byP (fc hi (fc hi2 (fc hR hR2))) ?_
    refine ⟨by unfold inI;omega,k+1,id,⟨by omega,hf⟩,by omega, ?_⟩
    exact byQ True.intro
  ·have hi:¬ (k:Int)<((xs).length:Int):=by omega
   rw [likeL_end eqTy _ _ k (by omega) (by omega)] at hf
   rw [← hf]
   refine byP hi ?_
   refine sw_run 200 _ _ _ ?_
   exact byP (fc Tryz.ntmps114 Tryz.results114) True.intro
end Go.Proofs.YtaidalilfmjfgaaGreat
