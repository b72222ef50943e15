import Derived.Test.YtaidalilfmjfgaaGreatInsV
import Derived.Test.YtaidalilfmjfgaaGreatPtr
import Derived.Test.YtaidalilfmjfgaaGreatBy
namespace Go.Proofs.YtaidalilfmjfgaaGreat
open Go.RowKit
set_option linter.unusedVariables false
set_option linter.unusedSimpArgs false
set_option maxRecDepth 20000
def ffI (p:Ins→Bool):List Ins→Int→Int
 | [],_ => -1
 | x :: xs,i=>if p x=true then i else ffI p xs (i+1)
theorem ffI_step (p:Ins→Bool) (xs:List Ins) (k:Nat) (h:k<xs.length):ffI p (xs.drop k) k=if p xs[k]! = true then (k:Int) else ffI p (xs.drop (k+1)) ((k+1:Nat):Int):=by
 rw [List.drop_eq_getElem_cons h,getElem!_pos xs k h];rfl
theorem ffI_end (p:Ins→Bool) (xs:List Ins) (k:Nat) (h:xs.length≤k) (i:Int):ffI p (xs.drop k) i = -1:=by rw [List.drop_of_length_le h];rfl
theorem ffI_any (p : Ins → Bool) : ∀ (xs : List Ins) (i : Int), 0 ≤ i → decide (0 ≤ ffI p xs i) = xs.any p
  | [], i, _ => rfl
  | x :: xs, i, h => by
    rw [ffI, List.any_cons]
    cases e : p x
    · rw [if_neg (by simp), ffI_any p xs (i + 1) (by omega)]; rfl
    · rw [if_pos rfl, decide_eq_true h]; rfl
theorem con_IndexFuncX (p:Ins→Bool) (g:FuncId) (xs:List Ins) (hl:xs.length≤1000000000) (hp:∀ x ∈ xs,Con Tryz.prog g [.ag (insC x)] [.one (.bool (p x))]):Con Tryz.prog 223 [.one (inssD xs),.fn g []] [.one (.int (ffI p xs 0))]:=by
 refine con_run Tryz.func223 rfl rfl (by simp [Tryz.ntmps223]) ?_
 refine byP (fc inssD.eq_1 Tryz.ntmps223) ?_
 refine sw_loop (fun k:Nat=>k≤xs.length∧ffI p (xs.drop k) k=ffI p xs 0) (fun k=>⟨19,[(8,.i k),(7,.i xs.length),(0,.br (.rows 2 xs.length (flC insC xs))),(1,.fn g [])],[],[],0,[]⟩) (fun k=>xs.length-k) 0 id ⟨Nat.zero_le _,rfl⟩ ?_ ?_
 ·exact byQ True.intro
 ·rintro k ⟨hk,hf⟩
  refine sw_run 200 _ _ _ ?_
  by_cases hlt:k<xs.length
  ·have hi:(k:Int)<(xs.length:Int):=by omega
   have hR:=flC_row insC_len xs k hlt
   have hpc:=hp _ (mem_bang hlt)
   rw [ffI_step p xs k hlt] at hf
   obtain ⟨b,hb⟩:∃ b,b=p xs[k]! := ⟨_,rfl⟩
   rw [← hb] at hf hpc
   simp only [insC] at hR hpc
   refine byP (fc hi hR) ?_
   refine sw_call (hpc) rfl (aAs_ok ?_) ?_ (sw_run 200 _ _ _ ?_)
   ·exact byQ True.intro
   ·simp only [okR]
   cases b
   ·rw [if_neg (by simp)] at hf
    refine byQ ?_
    refine ⟨by unfold inI;omega,k+1,id,⟨by omega,hf⟩,by omega, ?_⟩
    exact byQ True.intro
   ·rw [if_pos rfl] at hf
    refine byP Tryz.results223 ?_
    exact hf
  ·have hi:¬ (k:Int)<(xs.length:Int):=by omega
   rw [ffI_end p xs k (by omega)] at hf
   refine byP hi ?_
   refine sw_run 200 _ _ _ ?_
   simp only [push_cast,↓reduceIte,Nat.reduceLT,reduceCtorEq,Int.reduceNeg,← hf,Tryz.results223]
theorem con_ContainsFuncX (p:Ins→Bool) (g:FuncId) (xs:List Ins) (hl:xs.length≤1000000000) (hp:∀ x ∈ xs,Con Tryz.prog g [.ag (insC x)] [.one (.bool (p x))]):Con Tryz.prog 148 [.one (inssD xs),.fn g []] [.one (.bool (xs.any p))]:=by
 have hc:=con_IndexFuncX p g xs hl hp
 rw [← ffI_any p xs 0 (by omega)]
 simp only [inssD] at hc ⊢
 refine con_run Tryz.func148 rfl rfl (by simp [Tryz.ntmps148]) ?_
 refine byP Tryz.ntmps148 ?_
 refine sw_call (hc) rfl (aAs_ok ?_) ?_ (sw_run 200 _ _ _ ?_)
 ·exact byQ True.intro
 ·simp only [okR]
 exact byP Tryz.results148 True.intro
theorem con_notIns (x:Ins):Con Tryz.prog 149 [.ag (insC x)] [.one (.bool (!insB x))]:=by
 have h:=con_IsInstrI x
 simp only [insC] at h ⊢
 refine con_run Tryz.func149 rfl rfl (by simp [Tryz.ntmps149]) ?_
 refine byP Tryz.ntmps149 ?_
 refine sw_call (h) rfl (aAs_ok ?_) ?_ (sw_run 200 _ _ _ ?_)
 ·exact byQ True.intro
 ·simp only [okR]
 exact byP Tryz.results149 True.intro
def codeB (xs:List Ins):Bool:=decide (xs.length≤300) && xs.all insB
theorem any_not (xs:List Ins):xs.any (fun x => !insB x) = !xs.all insB:=by
 induction xs with
 | nil=>rfl
 | cons x xs ih=>rw [List.any_cons,List.all_cons,ih];cases insB x <;> rfl
theorem con_areInstrs (xs:List Ins) (hl:xs.length≤1000000000):Con Tryz.prog 70 [.one (inssD xs)] [.one (.bool (codeB xs))]:=by
 have hc:=con_ContainsFuncX (fun x => !insB x) _ xs hl (fun x _=>con_notIns x)
 rw [any_not] at hc
 unfold codeB
 generalize xs.all insB=b at *
 simp only [inssD] at hc ⊢
 by_cases hk:xs.length≤300
 ·have hi:(xs.length:Int)≤300:=by omega
  rw [decide_eq_true hk]
  refine con_run Tryz.func70 rfl rfl (by simp [Tryz.ntmps70]) ?_
  refine byP (fc hi Tryz.ntmps70) ?_
  refine sw_call (hc) rfl (aAs_ok ?_) ?_ (sw_run 200 _ _ _ ?_)
  ·exact byQ True.intro
  ·simp only [okR]
  cases b <;> simp only [push_cast,↓reduceIte,Nat.reduceLT,Nat.reduceEqDiff,reduceCtorEq,Tryz.results70]
 ·have hi:¬ (xs.length:Int)≤300:=by omega
  rw [decide_eq_false hk]
  refine con_run Tryz.func70 rfl rfl (by simp [Tryz.ntmps70]) ?_
  exact byP (fc hi (fc Tryz.ntmps70 Tryz.results70)) True.intro
theorem con_bitI (b:Bool):Con Tryz.prog 147 [.one (.bool b)] [.one (.int (if b=true then 1 else 0))]:=by
 cases b
 all_goals
  refine con_run Tryz.func147 rfl rfl (by simp [Tryz.ntmps147]) ?_
  exact byP (fc Tryz.ntmps147 Tryz.results147) True.intro
theorem con_l23Code (xs:List Ins) (hl:xs.length≤1000000000):Con Tryz.prog 73 [.one (inssD xs)] [.one (.bool (codeB xs))]:=by
 obtain ⟨R,hR⟩:∃ R,R=codeB xs:=⟨_,rfl⟩
 rw [← hR]
 unfold codeB at hR
 refine con_run Tryz.func73 rfl rfl (by simp [Tryz.ntmps73]) ?_
 refine byP (fc inssD.eq_1 Tryz.ntmps73) ?_
 refine sw_loop (fun k:Nat=>k≤xs.length∧∀ j,j<k→insB xs[j]! = true) (fun k=>⟨19,[(3,.i k),(0,.br (.rows 2 xs.length (flC insC xs)))],[],[],0,[]⟩) (fun k=>xs.length-k) 0 id ⟨Nat.zero_le _,fun j hj=>by omega⟩ ?_ ?_
 ·exact byQ True.intro
 ·rintro k ⟨hk,ha⟩
  refine sw_run 200 _ _ _ ?_
  by_cases hlt:k<xs.length
  ·have hi:(k:Int)<(xs.length:Int):=by omega
   have hr:=flC_row insC_len xs k hlt
   have hc:=con_IsInstrS xs[k]!
   obtain ⟨b,hb⟩:∃ b,b=insB xs[k]! := ⟨_,rfl⟩
   rw [← hb] at hc
   simp only [insC] at hr hc
   refine byP (fc hi hr) ?_
   refine sw_call (hc) rfl (aAs_ok ?_) ?_ (sw_run 200 _ _ _ ?_)
   ·exact byQ True.intro
   ·simp only [okR]
   cases b
   ·have hx:xs.all insB=false:=by
     rw [Bool.eq_false_iff]
     intro e
     rw [List.all_eq_true] at e
     have:=e _ (mem_bang hlt)
     rw [← hb] at this
     cases this
    rw [hx,Bool.and_false] at hR
    subst hR
    exact byP Tryz.results73 True.intro
   ·refine byQ ?_
    refine ⟨by unfold inI;omega,k+1,id,⟨by omega,fun j hj => ?_⟩,by omega, ?_⟩
    ·by_cases e:j=k
     ·rw [e];exact hb.symm
     ·exact ha j (by omega)
    ·exact byQ True.intro
  ·have hi:¬ (k:Int)<(xs.length:Int):=by omega
   have hx:xs.all insB=true:=by
    rw [List.all_eq_true]
    intro x hx
    obtain ⟨j,hj,rfl⟩:=List.mem_iff_getElem.1 hx
    have:=ha j (by omega)
    rwa [getElem!_pos xs j hj] at this
   rw [hx,Bool.and_true] at hR
   refine byP hi ?_
   refine sw_run 200 _ _ _ ?_
   by_cases h3:xs.length≤300
   ·have h3i:(xs.length:Int)≤300:=by omega
    rw [decide_eq_true h3] at hR
    subst hR
    exact byP (fc h3i Tryz.results73) True.intro
   ·have h3i:¬ (xs.length:Int)≤300:=by omega
    rw [decide_eq_false h3] at hR
    subst hR
    exact byP (fc h3i Tryz.results73) True.intro
theorem con_bitS (b:Bool):Con Tryz.prog 67 [.one (.bool b)] [.one (.int (if b=true then 1 else 0))]:=by
 cases b
 all_goals
  refine con_run Tryz.func67 rfl rfl (by simp [Tryz.ntmps67]) ?_
  exact byP (fc Tryz.ntmps67 Tryz.results67) True.intro
end Go.Proofs.YtaidalilfmjfgaaGreat
