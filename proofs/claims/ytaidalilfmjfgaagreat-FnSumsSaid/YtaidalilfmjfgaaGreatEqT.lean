import Derived.Test.YtaidalilfmjfgaaGreatTyC
import Derived.Test.YtaidalilfmjfgaaGreatLst
import Derived.Test.YtaidalilfmjfgaaGreatBy
namespace Go.Proofs.YtaidalilfmjfgaaGreat
open Go.RowKit
set_option linter.unusedVariables false
set_option linter.unusedSimpArgs false
set_option maxRecDepth 20000
theorem sz_partsE {t:Tm} {B:Nat} (h:szL (tmC t)≤B):szL (tyC t.ty)≤B∧szL (tyC t.res)≤B∧t.args.length+szL (tmsC t.args)≤B:=by
 rw [tmC_eq] at h;rw [tyC_eq,tyC_eq];simp only [szL,szD,tysD,tmsD] at h ⊢; omega
def likeL {α:Type} (f:α→α→Bool):List α→List α→Bool
 | [],[]=>true
 | x :: xs,y :: ys=>f x y && likeL f xs ys
 | [],_ :: _=>false
 | _ :: _,[]=>false
theorem likeL_ne {α:Type} (f:α→α→Bool):∀ xs ys:List α,xs.length≠ys.length→likeL f xs ys=false
 | [],[],h=>absurd rfl h
 | x :: xs,y :: ys,h=>by rw [likeL,likeL_ne f xs ys (by simpa using h),Bool.and_false]
 | [],_ :: _,_=>rfl
 | _ :: _,[],_=>rfl
theorem likeL_step {α:Type} [Inhabited α] (f:α→α→Bool) (xs ys:List α) (k:Nat) (h:k<xs.length) (h2:k<ys.length):likeL f (xs.drop k) (ys.drop k)=(f xs[k]! ys[k]! && likeL f (xs.drop (k+1)) (ys.drop (k+1))):=by
 rw [List.drop_eq_getElem_cons h,List.drop_eq_getElem_cons h2,likeL,getElem!_pos xs k h,getElem!_pos ys k h2]
theorem likeL_end {α:Type} (f:α→α→Bool) (xs ys:List α) (k:Nat) (h:xs.length≤k) (h2:ys.length≤k):likeL f (xs.drop k) (ys.drop k)=true:=by
 rw [List.drop_of_length_le h,List.drop_of_length_le h2];rfl
mutual
def eqTy:Ty→Ty→Bool
 | .mk k xs,.mk l ys=>decide (k=l) && eqTys xs ys
def eqTys:List Ty→List Ty→Bool
 | [],[]=>true
 | x :: xs,y :: ys=>eqTy x y && eqTys xs ys
 | [],_ :: _=>false
 | _ :: _,[]=>false
end
theorem eqTys_L:∀ xs ys:List Ty,eqTys xs ys=likeL eqTy xs ys
 | [],[]=>by rw [eqTys,likeL]
 | x :: xs,y :: ys=>by rw [eqTys,likeL,eqTys_L xs ys]
 | [],_ :: _=>by rw [eqTys,likeL]
 | _ :: _,[]=>by rw [eqTys,likeL]
mutual
def eqTm:Tm→Tm→Bool
 | .mk k s o n t r xs,.mk k2 s2 o2 n2 t2 r2 ys=>decide (k=k2) && (decide (s=s2) && (decide (o=o2) && (decide (n=n2) && (eqTy t t2 && (eqTy r r2 && eqTms xs ys)))))
def eqTms:List Tm→List Tm→Bool
 | [],[]=>true
 | x :: xs,y :: ys=>eqTm x y && eqTms xs ys
 | [],_ :: _=>false
 | _ :: _,[]=>false
end
theorem eqTms_L:∀ xs ys:List Tm,eqTms xs ys=likeL eqTm xs ys
 | [],[]=>by rw [eqTms,likeL]
 | x :: xs,y :: ys=>by rw [eqTms,likeL,eqTms_L xs ys]
 | [],_ :: _=>by rw [eqTms,likeL]
 | _ :: _,[]=>by rw [eqTms,likeL]
theorem eqTm_eq (a b:Tm):eqTm a b=(decide (a.kind=b.kind) && (decide (a.name=b.name) && (decide (a.other=b.other) && (decide (a.n=b.n) && (eqTy a.ty b.ty && (eqTy a.res b.res && likeL eqTm a.args b.args)))))):=by
 obtain ⟨k,s,o,n,t,r,xs⟩:=a
 obtain ⟨k2,s2,o2,n2,t2,r2,ys⟩:=b
 rw [eqTm,eqTms_L];rfl
theorem con_EqFTy (g:FuncId) (f:Ty→Ty→Bool) (xs ys:List Ty) (hl:xs.length≤1000000000) (hp:∀ a ∈ xs,∀ b ∈ ys,Con Tryz.prog g [.ag (tyC a),.ag (tyC b)] [.one (.bool (f a b))]) :
  Con Tryz.prog 270 [.one (.rows 2 xs.length (tysC xs)),.one (.rows 2 ys.length (tysC ys)),.fn g []] [.one (.bool (likeL f xs ys))]:=by
 refine con_run Tryz.func270 rfl rfl (by simp [Tryz.ntmps270]) ?_
 by_cases hn:(xs.length:Int)=(ys.length:Int)
 case neg =>
  rw [likeL_ne f xs ys (by omega)]
  exact byP (fc hn (fc Tryz.ntmps270 Tryz.results270)) True.intro
 have hn2:xs.length=ys.length:=by omega
 refine byP (fc hn2 Tryz.ntmps270) ?_
 refine sw_loop (fun k:Nat=>k≤xs.length∧likeL f (xs.drop k) (ys.drop k)=likeL f xs ys) (fun k=>⟨32,[(17,.i k),(16,.i ys.length),(15,.br (.rows 2 ys.length (tysC xs))),(1,.br (.rows 2 ys.length (tysC ys))),(2,.fn g [])],[],[],0,[]⟩) (fun k=>xs.length-k) 0 id ⟨Nat.zero_le _,rfl⟩ ?_ ?_
 ·exact byQ True.intro
 ·rintro k ⟨hk,hf⟩
  refine sw_run 200 _ _ _ ?_
  by_cases hlt:k<xs.length
  ·have hi:(k:Int)<(ys.length:Int):=by omega
   have hR:=tysC_row' xs k hlt
   have hR2:=tysC_row' ys k (by omega)
   have hpc:=hp _ (mem_bang hlt) _ (mem_bang (show k<ys.length by omega))
   rw [likeL_step f xs ys k hlt (by omega)] at hf
   obtain ⟨b,hb⟩:∃ b,b=f xs[k]! ys[k]! := ⟨_,rfl⟩
   rw [← hb] at hf hpc
   refine byP (fc hi (fc hR hR2)) ?_
   refine sw_call (hpc) rfl (aAs_ok ?_) ?_ (sw_run 200 _ _ _ ?_)
   ·exact byQ True.intro
   ·simp only [okR]
   cases b
   ·rw [Bool.false_and] at hf
    rw [← hf]
    exact byP Tryz.results270 True.intro
   ·rw [Bool.true_and] at hf
    refine byQ ?_
    refine ⟨by unfold inI;omega,k+1,id,⟨by omega,hf⟩,by omega, ?_⟩
    exact byQ True.intro
  ·have hi:¬ (k:Int)<(ys.length:Int):=by omega
   rw [likeL_end f xs ys k (by omega) (by omega)] at hf
   rw [← hf]
   refine byP hi ?_
   refine sw_run 200 _ _ _ ?_
   exact byP Tryz.results270 True.intro
theorem con_EqTyI:∀ t u:Ty,szL (tyC t)≤1000000000→Con Tryz.prog 245 [.ag (tyC t),.ag (tyC u)] [.one (.bool (eqTy t u))]:=by
 refine Ty.ind fun kd xs ih u hz => ?_
 obtain ⟨kd2,ys⟩:=u
 have hz':xs.length+szL (tysC xs)≤1000000000:=by simpa [tyC,szL,szD] using hz
 have hc:=con_EqFTy 245 eqTy xs ys (by omega) fun a ha b hb=>ih a ha b (by
  have:=szL_mem tyC xs a ha
  rw [← tysC_flat] at this
  omega)
 rw [eqTy,eqTys_L]
 refine con_run Tryz.func245 rfl rfl (by simp [Tryz.ntmps245]) ?_
 by_cases hn:kd=kd2
 case neg =>
  exact byP (fc tyC.eq_1 (fc hn (fc Tryz.ntmps245 Tryz.results245))) True.intro
 refine byP (fc tyC.eq_1 (fc (eq_true hn) Tryz.ntmps245)) ?_
 refine sw_call (hc) rfl (aAs_ok ?_) ?_ (sw_run 200 _ _ _ ?_)
 ·exact byQ True.intro
 ·simp only [okR]
 exact byP Tryz.results245 True.intro
theorem con_EqTyS:∀ t u:Ty,szL (tyC t)≤1000000000→Con Tryz.prog 114 [.ag (tyC t),.ag (tyC u)] [.one (.bool (eqTy t u))]:=by
 refine Ty.ind fun kd xs ih u hz => ?_
 obtain ⟨kd2,ys⟩:=u
 have hz':xs.length+szL (tysC xs)≤1000000000:=by simpa [tyC,szL,szD] using hz
 obtain ⟨r,hr⟩:∃ r,r=eqTy (.mk kd xs) (.mk kd2 ys):=⟨_,rfl⟩
 have hr0:=hr
 rw [eqTy,eqTys_L] at hr
 rw [← hr0]
 refine con_run Tryz.func114 rfl rfl (by simp [Tryz.ntmps114]) ?_
 by_cases hn:kd=kd2
 case neg =>
  rw [hr]
  exact byP (fc tyC.eq_1 (fc hn (fc Tryz.ntmps114 Tryz.results114))) True.intro
 by_cases hm:(xs.length:Int)=(ys.length:Int)
 case neg =>
  rw [hr,likeL_ne eqTy xs ys (by omega),Bool.and_false]
  exact byP (fc tyC.eq_1 (fc (eq_true hn) (fc hm (fc Tryz.ntmps114 Tryz.results114)))) True.intro
 have hf0:r=likeL eqTy xs ys:=by rw [hr,decide_eq_true hn,Bool.true_and]
 refine byP (fc tyC.eq_1 (fc (eq_true hn) (fc (eq_true hm) (fc Tryz.ntmps114 Tryz.results114)))) ?_
 refine sw_loop (fun k:Nat=>k≤(xs).length∧likeL eqTy ((xs).drop k) ((ys).drop k)=r) (fun k=>⟨39,[(5,.i k),(2,.bx 0 0),(3,.bx 1 0)],[(0,[.i kd,.br (.rows 2 xs.length (tysC xs))]),(1,[.i kd2,.br (.rows 2 ys.length (tysC ys))])],[],2,[]⟩) (fun k=>(xs).length-k) 0 id ⟨Nat.zero_le _,hf0.symm⟩ ?_ ?_
 ·exact byQ True.intro
 ·rintro k ⟨hk,hf⟩
  refine sw_run 200 _ _ _ ?_
  by_cases hlt:k<(xs).length
  ·have hi:(k:Int)<((xs).length:Int):=by omega
   have hi2:(k:Int)<((ys).length:Int):=by omega
   have hR:=tysC_row' (xs) k hlt
   have hR2:=tysC_row' (ys) k (by omega)
   have hpc:=ih _ (mem_bang hlt) ys[k]! (by have:=szL_tys' xs k hlt;omega)
   rw [likeL_step eqTy _ _ k hlt (by omega)] at hf
   obtain ⟨c0,hb⟩:∃ c,c=eqTy (xs)[k]! (ys)[k]! := ⟨_,rfl⟩
   rw [← hb] at hf hpc
   refine byP (fc hi (fc hi2 (fc hR hR2))) ?_
   refine sw_drawn (.cons 0 true (.cons 1 true (.cons 2 true (.cons 3 true (.cons 4 true (.cons 5 true (.cons 6 true (.cons 7 true (.cons 8 true (.cons 9 true (.cons 10 false (.cons 11 true (.nil))))))))))))) (by kernel_rfl) qLp_panic (by kernel_rfl) (sw_run 200 _ _ _ ?_)
   refine byP (fc hi (fc hi2 (fc hR hR2))) ?_
   refine sw_callD (hpc) rfl (aAs_ok ?_) ?_ (sw_run 200 _ _ _ ?_)
   ·exact byQ True.intro
   ·simp only [okR]
   cases c0
   ·rw [Bool.false_and] at hf
    rw [← hf]
    exact byP (fc hi (fc hi2 (fc hR (fc hR2 (fc Tryz.ntmps114 Tryz.results114))))) True.intro
   ·rw [Bool.true_and] at hf
    refine byP (fc hi (fc hi2 (fc hR hR2))) ?_
    refine ⟨by unfold inI;omega,k+1,id,⟨by omega,hf⟩,by omega, ?_⟩
    exact byQ True.intro
  ·have hi:¬ (k:Int)<((xs).length:Int):=by omega
   rw [likeL_end eqTy _ _ k (by omega) (by omega)] at hf
   rw [← hf]
   refine byP hi ?_
   refine sw_run 200 _ _ _ ?_
   exact byP (fc Tryz.ntmps114 Tryz.results114) True.intro
theorem con_EqTmS:∀ a b:Tm,szL (tmC a)≤1000000000→Con Tryz.prog 44 [.ag (tmC a),.ag (tmC b)] [.one (.bool (eqTm a b))]:=by
 refine Tm.ind fun a ih b hz => ?_
 obtain ⟨h5,h7,h8⟩:=sz_partsE hz
 have hcT:=con_EqTyS a.ty b.ty h5
 have hcR:=con_EqTyS a.res b.res h7
 obtain ⟨cT,eT⟩:∃ c,c=eqTy a.ty b.ty:=⟨_,rfl⟩
 obtain ⟨cR,eR⟩:∃ c,c=eqTy a.res b.res:=⟨_,rfl⟩
 obtain ⟨r,hr⟩:∃ r,r=eqTm a b:=⟨_,rfl⟩
 have hr0:=hr
 rw [eqTm_eq,← eT,← eR] at hr
 rw [← eT] at hcT
 rw [← eR] at hcR
 rw [← hr0]
 refine con_run Tryz.func44 rfl rfl (by simp [Tryz.ntmps44]) ?_
 by_cases hk:a.kind=b.kind
 case neg =>
  rw [hr,decide_eq_false hk]
  exact byP (fc hk (fc Tryz.ntmps44 Tryz.results44)) True.intro
 by_cases hs:a.name=b.name
 case neg =>
  rw [hr,decide_eq_true hk,decide_eq_false hs]
  exact byP (fc (eq_true hk) (fc hs (fc Tryz.ntmps44 Tryz.results44))) True.intro
 by_cases ho:a.other=b.other
 case neg =>
  rw [hr,decide_eq_true hk,decide_eq_true hs,decide_eq_false ho]
  exact byP (fc (eq_true hk) (fc (eq_true hs) (fc ho (fc Tryz.ntmps44 Tryz.results44)))) True.intro
 by_cases hn:a.n=b.n
 case neg =>
  rw [hr,decide_eq_true hk,decide_eq_true hs,decide_eq_true ho,decide_eq_false hn]
  exact byP (fc (eq_true hk) (fc (eq_true hs) (fc (eq_true ho) (fc hn (fc Tryz.ntmps44 Tryz.results44))))) True.intro
 have hf:r=(cT && (cR && likeL eqTm a.args b.args)):=by rw [hr,decide_eq_true hk,decide_eq_true hs,decide_eq_true ho,decide_eq_true hn];rfl
 clear hr
 refine byP (fc (eq_true hk) (fc (eq_true hs) (fc (eq_true ho) (fc (eq_true hn) (fc Tryz.ntmps44 Tryz.results44))))) ?_
 refine sw_call (hcT) rfl (aAs_ok ?_) ?_ (sw_run 200 _ _ _ ?_)
 ·exact byQ True.intro
 ·simp only [okR]
 cases cT
 ·rw [hf]
  exact byP (fc Tryz.ntmps44 Tryz.results44) True.intro
 refine byQ ?_
 refine sw_call (hcR) rfl (aAs_ok ?_) ?_ (sw_run 200 _ _ _ ?_)
 ·exact byQ True.intro
 ·simp only [okR]
 cases cR
 ·rw [hf]
  exact byP (fc Tryz.ntmps44 Tryz.results44) True.intro
 by_cases hm:(a.args.length:Int)=(b.args.length:Int)
 case neg =>
  rw [hf,likeL_ne eqTm a.args b.args (by omega),Bool.and_false]
  exact byP (fc hm (fc Tryz.ntmps44 Tryz.results44)) True.intro
 have hf0:r=likeL eqTm a.args b.args:=hf
 refine byP (eq_true hm) ?_
 refine sw_loop (fun k:Nat=>k≤(a.args).length∧likeL eqTm ((a.args).drop k) ((b.args).drop k)=r) (fun k=>⟨76,[(5,.i k),(2,.bx 0 0),(3,.bx 1 0)],[(0,[.i a.kind,.s a.name,.s a.other,.i a.n,.i a.ty.kind,.br (.rows 2 a.ty.args.length (tysC a.ty.args)),.i a.res.kind,.br (.rows 2 a.res.args.length (tysC a.res.args)),.br (.rows 9 a.args.length (tmsC a.args))]),(1,[.i b.kind,.s b.name,.s b.other,.i b.n,.i b.ty.kind,.br (.rows 2 b.ty.args.length (tysC b.ty.args)),.i b.res.kind,.br (.rows 2 b.res.args.length (tysC b.res.args)),.br (.rows 9 b.args.length (tmsC b.args))])],[],2,[]⟩) (fun k=>(a.args).length-k) 0 id ⟨Nat.zero_le _,hf0.symm⟩ ?_ ?_
 ·exact byQ True.intro
 ·rintro k ⟨hk,hf⟩
  refine sw_run 200 _ _ _ ?_
  by_cases hlt:k<(a.args).length
  ·have hi:(k:Int)<((a.args).length:Int):=by omega
   have hi2:(k:Int)<((b.args).length:Int):=by omega
   have hR:=tmsC_row' (a.args) k hlt
   have hR2:=tmsC_row' (b.args) k (by omega)
   have hpc:=ih _ (mem_bang hlt) b.args[k]! (by have:=szL_tms' a.args k hlt;omega)
   rw [likeL_step eqTm _ _ k hlt (by omega)] at hf
   obtain ⟨c0,hb⟩:∃ c,c=eqTm (a.args)[k]! (b.args)[k]! := ⟨_,rfl⟩
   rw [← hb] at hf hpc
   refine byP (fc hi (fc hi2 (fc hR hR2))) ?_
   refine sw_drawn (.cons 0 true (.cons 1 true (.cons 2 true (.cons 3 true (.cons 4 true (.cons 5 true (.cons 6 true (.cons 7 true (.cons 8 true (.cons 9 true (.cons 10 false (.cons 11 true (.nil))))))))))))) (by kernel_rfl) qLp_panic (by kernel_rfl) (sw_run 200 _ _ _ ?_)
   refine byP (fc hi (fc hi2 (fc hR hR2))) ?_
   refine sw_callD (hpc) rfl (aAs_ok ?_) ?_ (sw_run 200 _ _ _ ?_)
   ·exact byQ True.intro
   ·simp only [okR]
   cases c0
   ·rw [Bool.false_and] at hf
    rw [← hf]
    exact byP (fc hi (fc hi2 (fc hR (fc hR2 (fc Tryz.ntmps44 Tryz.results44))))) True.intro
   ·rw [Bool.true_and] at hf
    refine byP (fc hi (fc hi2 (fc hR hR2))) ?_
    refine ⟨by unfold inI;omega,k+1,id,⟨by omega,hf⟩,by omega, ?_⟩
    exact byQ True.intro
  ·have hi:¬ (k:Int)<((a.args).length:Int):=by omega
   rw [likeL_end eqTm _ _ k (by omega) (by omega)] at hf
   rw [← hf]
   refine byP hi ?_
   refine sw_run 200 _ _ _ ?_
   exact byP (fc Tryz.ntmps44 Tryz.results44) True.intro
end Go.Proofs.YtaidalilfmjfgaaGreat
