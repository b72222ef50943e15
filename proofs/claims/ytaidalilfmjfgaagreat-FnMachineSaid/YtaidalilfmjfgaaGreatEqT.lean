import Derived.Test.YtaidalilfmjfgaaGreatBy
namespace Go.Proofs.YtaidalilfmjfgaaGreat
open Go.Proofs.Tryz
open Go.RowKit
set_option linter.unusedVariables false
set_option linter.unusedSimpArgs false
set_option maxRecDepth 20000
theorem Cq {t:Tm} {B:Nat} (h:szL (tmC t)≤B):szL (tyC t.ty)≤B∧szL (tyC t.res)≤B∧t.args.length+szL (Av t.args)≤B:=by
 rw [Ak] at h;rw [Au,Au];simp only [szL,szD,GB,aG0] at h ⊢; omega
def Fo {α:Type} (f:α→α→Bool):List α→List α→Bool
 | [],[]=>true
 | x :: xs,y :: ys=>f x y && Fo f xs ys
 | [],_ :: _=>false
 | _ :: _,[]=>false
theorem Pr {α:Type} (f:α→α→Bool):∀ xs ys:List α,xs.length≠ys.length→Fo f xs ys=false
 | [],[],h=>absurd rfl h
 | x :: xs,y :: ys,h=>by rw [Fo,Pr f xs ys (by simpa using h),Bool.and_false]
 | [],_ :: _,_=>rfl
 | _ :: _,[],_=>rfl
theorem Qf {α:Type} [Inhabited α] (f:α→α→Bool) (xs ys:List α) (k:Nat) (h:k<xs.length) (h2:k<ys.length):Fo f (xs.drop k) (ys.drop k)=(f xs[k]! ys[k]! && Fo f (xs.drop (k+1)) (ys.drop (k+1))):=by
 rw [List.drop_eq_getElem_cons h,List.drop_eq_getElem_cons h2,Fo,getElem!_pos xs k h,getElem!_pos ys k h2]
theorem Rj {α:Type} (f:α→α→Bool) (xs ys:List α) (k:Nat) (h:xs.length≤k) (h2:ys.length≤k):Fo f (xs.drop k) (ys.drop k)=true:=by
 rw [List.drop_of_length_le h,List.drop_of_length_le h2];rfl
mutual
def Da:Ty→Ty→Bool
 | .mk k xs,.mk l ys=>decide (k=l) && Fn xs ys
def Fn:List Ty→List Ty→Bool
 | [],[]=>true
 | x :: xs,y :: ys=>Da x y && Fn xs ys
 | [],_ :: _=>false
 | _ :: _,[]=>false
end
theorem MV:∀ xs ys:List Ty,Fn xs ys=Fo Da xs ys
 | [],[]=>by rw [Fn,Fo]
 | x :: xs,y :: ys=>by rw [Fn,Fo,MV xs ys]
 | [],_ :: _=>by rw [Fn,Fo]
 | _ :: _,[]=>by rw [Fn,Fo]
theorem Yi (a b:Ty):Da a b=(decide (a.kind=b.kind) && Fo Da a.args b.args):=by
 obtain ⟨k,xs⟩:=a
 obtain ⟨k2,ys⟩:=b
 rw [Da,MV];rfl
theorem FU:∀ t u:Ty,szL (tyC t)≤1000000000→Con prog 114 [.ag (tyC t),.ag (tyC u)] [.one (.bool (Da t u))]:=by
 refine Ty.ind fun kd xs ih u hz => ?_
 obtain ⟨kd2,ys⟩:=u
 have hz':xs.length+szL (Ai xs)≤1000000000:=by simpa [tyC,szL,szD] using hz
 obtain ⟨r,hr⟩:∃ r,r=Da (.mk kd xs) (.mk kd2 ys):=⟨_,rfl⟩
 have hr0:=hr
 rw [Da,MV] at hr
 rw [← hr0]
 refine Af func114 rfl rfl (by simp [ntmps114]) ?_
 by_cases hn:kd=kd2
 case neg =>
  rw [hr]
  exact byP (fc tyC.eq_1 (fc hn (fc ntmps114 results114))) tI
 by_cases hm:(xs.length:Int)=(ys.length:Int)
 case neg =>
  rw [hr,Pr Da xs ys (by omega),Bool.and_false]
  exact byP (fc tyC.eq_1 (fc (eq_true hn) (fc hm (fc ntmps114 results114)))) tI
 have hf0:r=Fo Da xs ys:=by rw [hr,decide_eq_true hn,Bool.true_and]
 refine byP (fc tyC.eq_1 (fc (eq_true hn) (fc (eq_true hm) (fc ntmps114 results114)))) ?_
 refine Al (fun k:Nat=>k≤(xs).length∧Fo Da ((xs).drop k) ((ys).drop k)=r) (fun k=>⟨39,[(5,.i k),(2,.bx 0 0),(3,.bx 1 0)],[(0,[.i kd,.br (.rows 2 xs.length (Ai xs))]),(1,[.i kd2,.br (.rows 2 ys.length (Ai ys))])],[],2,[]⟩) (fun k=>(xs).length-k) 0 id ⟨Nat.zero_le _,hf0.symm⟩ ?_ ?_
 ·exact byQ tI
 ·rintro k ⟨hk,hf⟩
  refine Aa 200 _ _ _ ?_
  by_cases hlt:k<(xs).length
  ·have hi:(k:Int)<((xs).length:Int):=by omega
   have hi2:(k:Int)<((ys).length:Int):=by omega
   have hR:=Ax (xs) k hlt
   have hR2:=Ax (ys) k (by omega)
   have hpc:=ih _ (Ab hlt) ys[k]! (by have:=Dy xs k hlt;omega)
   rw [Qf Da _ _ k hlt (by omega)] at hf
   obtain ⟨c0,hb⟩:∃ c,c=Da (xs)[k]! (ys)[k]! := ⟨_,rfl⟩
   rw [← hb] at hf hpc
   refine byP (fc hi (fc hi2 (fc hR hR2))) ?_
   refine Ac (oT [0,1,2,3,4,5,6,7,8,9] (.cons 10 false (.cons 11 true .nil))) (by kernel_rfl) AD (by kernel_rfl) (Aa 200 _ _ _ ?_)
   refine byP (fc hi (fc hi2 (fc hR hR2))) ?_
   refine AR (hpc) rfl (Am ?_) ?_ (Aa 200 _ _ _ ?_)
   ·exact byQ tI
   ·simp only [okR]
   cases c0
   ·rw [Bool.false_and] at hf
    rw [← hf]
    exact byP (fc hi (fc hi2 (fc hR (fc hR2 (fc ntmps114 results114))))) tI
   ·rw [Bool.true_and] at hf
    refine byP (fc hi (fc hi2 (fc hR hR2))) ?_
    refine ⟨by unfold inI;omega,k+1,id,⟨by omega,hf⟩,by omega, ?_⟩
    exact byQ tI
  ·have hi:¬ (k:Int)<((xs).length:Int):=by omega
   rw [Rj Da _ _ k (by omega) (by omega)] at hf
   rw [← hf]
   refine byP hi ?_
   exact rG (fc ntmps114 results114) tI
end Go.Proofs.YtaidalilfmjfgaaGreat
