import Derived.Test.YtaidalilfmjfgaaGreatInsV
namespace Go.Proofs.YtaidalilfmjfgaaGreat
open Go.Proofs.Tryz
open Go.RowKit
set_option linter.unusedVariables false
set_option linter.unusedSimpArgs false
set_option maxRecDepth 20000
def ffI (p:Ins→Bool):List Ins→Int→Int
 | [],_ => -1
 | x :: xs,i=>if p x=true then i else ffI p xs (i+1)
theorem Wb (p:Ins→Bool) (xs:List Ins) (k:Nat) (h:k<xs.length):ffI p (xs.drop k) k=if p xs[k]! = true then (k:Int) else ffI p (xs.drop (k+1)) ((k+1:Nat):Int):=by
 rw [List.drop_eq_getElem_cons h,getElem!_pos xs k h];rfl
theorem Zo (p:Ins→Bool) (xs:List Ins) (k:Nat) (h:xs.length≤k) (i:Int):ffI p (xs.drop k) i = -1:=by rw [List.drop_of_length_le h];rfl
theorem TC (p:Ins→Bool):∀ (xs:List Ins) (i:Int),0≤i→decide (0≤ffI p xs i)=xs.any p
 | [],i,_=>rfl
 | x :: xs,i,h=>by
  rw [ffI,List.any_cons]
  cases e:p x
  ·rw [if_neg (by simp),TC p xs (i+1) (by omega)];rfl
  ·rw [if_pos rfl,decide_eq_true h];rfl
theorem IX (p:Ins→Bool) (g:FuncId) (xs:List Ins) (hl:xs.length≤1000000000) (hp:∀ x ∈ xs,Con prog g [.ag (Bk x)] [.one (.bool (p x))]):Con prog 223 [.one (DO xs),.fn g []] [.one (.int (ffI p xs 0))]:=by
 refine Af func223 rfl rfl (by simp [ntmps223]) ?_
 refine byP (fc DO.eq_1 ntmps223) ?_
 refine Al (fun k:Nat=>k≤xs.length∧ffI p (xs.drop k) k=ffI p xs 0) (fun k=>⟨19,[(8,.i k),(7,.i xs.length),(0,.br (.rows 2 xs.length (flC Bk xs))),(1,.fn g [])],[],[],0,[]⟩) (fun k=>xs.length-k) 0 id ⟨Nat.zero_le _,rfl⟩ ?_ ?_
 ·exact byQ tI
 ·rintro k ⟨hk,hf⟩
  refine Aa 200 _ _ _ ?_
  by_cases hlt:k<xs.length
  ·have hi:(k:Int)<(xs.length:Int):=by omega
   have hR:=CR Gp xs k hlt
   have hpc:=hp _ (Ab hlt)
   rw [Wb p xs k hlt] at hf
   obtain ⟨b,hb⟩:∃ b,b=p xs[k]! := ⟨_,rfl⟩
   rw [← hb] at hf hpc
   simp only [Bk] at hR hpc
   refine byP (fc hi hR) ?_
   refine As (hpc) rfl (Am ?_) ?_ (Aa 200 _ _ _ ?_)
   ·exact byQ tI
   ·simp only [okR]
   cases b
   ·rw [if_neg (by simp)] at hf
    refine byQ ?_
    refine ⟨by unfold inI;omega,k+1,id,⟨by omega,hf⟩,by omega, ?_⟩
    exact byQ tI
   ·rw [if_pos rfl] at hf
    refine byP results223 ?_
    exact hf
  ·have hi:¬ (k:Int)<(xs.length:Int):=by omega
   rw [Zo p xs k (by omega)] at hf
   refine byP hi ?_
   refine Aa 200 _ _ _ ?_
   simp only [push_cast,↓reduceIte,Nat.reduceLT,reduceCtorEq,Int.reduceNeg,← hf,results223]
theorem GH (p:Ins→Bool) (g:FuncId) (xs:List Ins) (hl:xs.length≤1000000000) (hp:∀ x ∈ xs,Con prog g [.ag (Bk x)] [.one (.bool (p x))]):Con prog 148 [.one (DO xs),.fn g []] [.one (.bool (xs.any p))]:=by
 have hc:=IX p g xs hl hp
 rw [← TC p xs 0 (by omega)]
 simp only [DO] at hc ⊢
 refine Af func148 rfl rfl (by simp [ntmps148]) ?_
 refine byP ntmps148 ?_
 refine Kc hc ?_
 exact rG results148 tI
theorem PC (x:Ins):Con prog 149 [.ag (Bk x)] [.one (.bool (!Ec x))]:=by
 have h:=LV x
 simp only [Bk] at h ⊢
 refine Af func149 rfl rfl (by simp [ntmps149]) ?_
 refine byP ntmps149 ?_
 refine Kc h ?_
 exact rG results149 tI
def Hp (xs:List Ins):Bool:=decide (xs.length≤300) && xs.all Ec
theorem YK (xs:List Ins):xs.any (fun x => !Ec x) = !xs.all Ec:=by
 induction xs with
 | nil=>rfl
 | cons x xs ih=>rw [List.any_cons,List.all_cons,ih];cases Ec x <;> rfl
theorem KT (xs:List Ins) (hl:xs.length≤1000000000):Con prog 70 [.one (DO xs)] [.one (.bool (Hp xs))]:=by
 have hc:=GH (fun x => !Ec x) _ xs hl (fun x _=>PC x)
 rw [YK] at hc
 unfold Hp
 generalize xs.all Ec=b at *
 simp only [DO] at hc ⊢
 by_cases hk:xs.length≤300
 ·have hi:(xs.length:Int)≤300:=by omega
  rw [decide_eq_true hk]
  refine Af func70 rfl rfl (by simp [ntmps70]) ?_
  refine byP (fc hi ntmps70) ?_
  refine As (hc) rfl (Am ?_) ?_ (Aa 200 _ _ _ ?_)
  ·exact byQ tI
  ·simp only [okR]
  cases b <;> simp only [push_cast,↓reduceIte,Nat.reduceLT,Nat.reduceEqDiff,reduceCtorEq,results70]
 ·have hi:¬ (xs.length:Int)≤300:=by omega
  rw [decide_eq_false hk]
  refine Af func70 rfl rfl (by simp [ntmps70]) ?_
  exact byP (fc hi (fc ntmps70 results70)) tI
theorem WR (b:Bool):Con prog 147 [.one (.bool b)] [.one (.int (if b=true then 1 else 0))]:=by
 cases b
 all_goals
  refine Af func147 rfl rfl (by simp [ntmps147]) ?_
  exact byP (fc ntmps147 results147) tI
theorem MB (xs:List Ins) (hl:xs.length≤1000000000):Con prog 73 [.one (DO xs)] [.one (.bool (Hp xs))]:=by
 obtain ⟨R,hR⟩:∃ R,R=Hp xs:=⟨_,rfl⟩
 rw [← hR]
 unfold Hp at hR
 refine Af func73 rfl rfl (by simp [ntmps73]) ?_
 refine byP (fc DO.eq_1 ntmps73) ?_
 refine Al (fun k:Nat=>k≤xs.length∧∀ j,j<k→Ec xs[j]! = true) (fun k=>⟨19,[(3,.i k),(0,.br (.rows 2 xs.length (flC Bk xs)))],[],[],0,[]⟩) (fun k=>xs.length-k) 0 id ⟨Nat.zero_le _,fun j hj=>by omega⟩ ?_ ?_
 ·exact byQ tI
 ·rintro k ⟨hk,ha⟩
  refine Aa 200 _ _ _ ?_
  by_cases hlt:k<xs.length
  ·have hi:(k:Int)<(xs.length:Int):=by omega
   have hr:=CR Gp xs k hlt
   have hc:=Lv xs[k]!
   obtain ⟨b,hb⟩:∃ b,b=Ec xs[k]! := ⟨_,rfl⟩
   rw [← hb] at hc
   simp only [Bk] at hr hc
   refine byP (fc hi hr) ?_
   refine As (hc) rfl (Am ?_) ?_ (Aa 200 _ _ _ ?_)
   ·exact byQ tI
   ·simp only [okR]
   cases b
   ·have hx:xs.all Ec=false:=by
     rw [Bool.eq_false_iff]
     intro e
     rw [List.all_eq_true] at e
     have:=e _ (Ab hlt)
     rw [← hb] at this
     cases this
    rw [hx,Bool.and_false] at hR
    subst hR
    exact byP results73 tI
   ·refine byQ ?_
    refine ⟨by unfold inI;omega,k+1,id,⟨by omega,fun j hj => ?_⟩,by omega, ?_⟩
    ·by_cases e:j=k
     ·rw [e];exact hb.symm
     ·exact ha j (by omega)
    ·exact byQ tI
  ·have hi:¬ (k:Int)<(xs.length:Int):=by omega
   have hx:xs.all Ec=true:=by
    rw [List.all_eq_true]
    intro x hx
    obtain ⟨j,hj,rfl⟩:=List.mem_iff_getElem.1 hx
    have:=ha j (by omega)
    rwa [getElem!_pos xs j hj] at this
   rw [hx,Bool.and_true] at hR
   refine byP hi ?_
   refine Aa 200 _ _ _ ?_
   by_cases h3:xs.length≤300
   ·have h3i:(xs.length:Int)≤300:=by omega
    rw [decide_eq_true h3] at hR
    subst hR
    exact byP (fc h3i results73) tI
   ·have h3i:¬ (xs.length:Int)≤300:=by omega
    rw [decide_eq_false h3] at hR
    subst hR
    exact byP (fc h3i results73) tI
theorem VE (b:Bool):Con prog 67 [.one (.bool b)] [.one (.int (if b=true then 1 else 0))]:=by
 cases b
 all_goals
  refine Af func67 rfl rfl (by simp [ntmps67]) ?_
  exact byP (fc ntmps67 results67) tI
end Go.Proofs.YtaidalilfmjfgaaGreat
