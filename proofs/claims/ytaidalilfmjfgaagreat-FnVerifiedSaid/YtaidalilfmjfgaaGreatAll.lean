import Derived.Test.YtaidalilfmjfgaaGreatTyC
import Derived.Test.YtaidalilfmjfgaaGreatLst
import Derived.Test.YtaidalilfmjfgaaGreatTmC
import Derived.Test.YtaidalilfmjfgaaGreatBy
namespace Go.Proofs.YtaidalilfmjfgaaGreat
open Go.RowKit
set_option linter.unusedVariables false
set_option linter.unusedSimpArgs false
set_option maxRecDepth 20000
mutual
def szT:Ty→Nat
 | .mk _ xs=>1+szTs xs
def szTs:List Ty→Nat
 | []=>0
 | x :: xs=>szT x+szTs xs
end
mutual
def depT:Ty→Nat
 | .mk _ xs=>depTs xs+1
def depTs:List Ty→Nat
 | []=>0
 | x :: xs=>max (depT x) (depTs xs)
end
theorem depTs_app:∀ (a b:List Ty),depTs (a++b)=max (depTs a) (depTs b)
 | [],b=>by rw [List.nil_append,depTs];omega
 | x :: a,b=>by rw [List.cons_append,depTs,depTs,depTs_app a b];omega
theorem depTs_snoc (xs:List Ty) (k:Nat) (h:k<xs.length):depTs (xs.take (k+1))=max (depTs (xs.take k)) (depT xs[k]!):=by
 rw [take_snoc xs k h,depTs_app,depTs,depTs];omega
mutual
theorem szT_le : ∀ t : Ty, szT t ≤ szL (tyC t) + 1
  | .mk k xs => by
    have h := szTs_le xs
    simp only [tyC, szL, szD]
    rw [szT]; omega
theorem szTs_le : ∀ xs : List Ty, szTs xs ≤ szL (tysC xs) + xs.length
  | [] => by rw [szTs]; omega
  | x :: xs => by
    have h1 := szT_le x
    have h2 := szTs_le xs
    rw [szTs, tysC, szL_append, List.length_cons]; omega
end
mutual
theorem depT_le:∀ t:Ty,depT t≤szT t
 | .mk k xs=>by have h:=depTs_le xs;rw [depT,szT];omega
theorem depTs_le : ∀ xs : List Ty, depTs xs ≤ szTs xs
  | [] => by rw [depTs]; omega
  | x :: xs => by
    have h1 := depT_le x
    have h2 := depTs_le xs
    rw [depTs, szTs]; omega
end
theorem con_l1Max (a b:Nat):Con Tryz.prog 76 [.one (.int a),.one (.int b)] [.one (.int ((max a b:Nat):Int))]:=by
 refine con_run Tryz.func76 rfl rfl (by simp [Tryz.ntmps76]) ?_
 by_cases h:(b:Int)<(a:Int)
 ·have e:max a b=a:=by omega
  rw [e]
  exact byP (fc h (fc Tryz.ntmps76 Tryz.results76)) True.intro
 ·have e:max a b=b:=by omega
  rw [e]
  exact byP (fc h (fc Tryz.ntmps76 Tryz.results76)) True.intro
theorem con_DepthTyS:∀ t:Ty,szL (tyC t)≤1000000000→Con Tryz.prog 230 [.ag (tyC t)] [.one (.int (depT t))]:=by
 refine Ty.ind fun kd xs ih hz => ?_
 have hz':xs.length+szL (tysC xs)≤1000000000:=by simpa [tyC,szL,szD] using hz
 have hd:=depTs_le xs
 have hs0:=szTs_le xs
 refine con_run Tryz.func230 rfl rfl (by simp [Tryz.ntmps230]) ?_
 refine byP (fc Tryz.ntmps230 tyC.eq_1) ?_
 refine sw_loop (fun k:Nat=>k≤xs.length) (fun k=>⟨22,[(4,.i k),(3,.i (depTs (xs.take k))),(1,.bx 0 0)],[(0,[.i kd,.br (.rows 2 xs.length (tysC xs))])],[],1,[]⟩) (fun k=>xs.length-k) 0 id (Nat.zero_le _) ?_ ?_
 ·exact byP depTs.eq_1 True.intro
 ·rintro k hk
  refine sw_run 200 _ _ _ ?_
  by_cases hlt:k<xs.length
  ·have hi:(k:Int)<(xs.length:Int):=by omega
   have hR:=tysC_row' xs k hlt
   have hm:=mem_bang hlt
   have hs:=szL_tys' xs k hlt
   have hst:=depTs_snoc xs k hlt
   have hrec:=ih _ hm (by omega)
   refine byP (fc hi hR) ?_
   refine sw_call hrec rfl (aAs_ok ?_) ?_ (sw_run 200 _ _ _ ?_)
   ·exact byQ True.intro
   ·simp only [okR]
   refine byQ ?_
   refine sw_call (con_l1Max (depTs (xs.take k)) (depT xs[k]!)) rfl (aAs_ok ?_) ?_ (sw_run 200 _ _ _ ?_)
   ·exact byQ True.intro
   ·simp only [okR]
   refine byQ ?_
   refine ⟨by unfold inI;omega,k+1,id,by omega,by omega, ?_⟩
   exact byP hst True.intro
  ·have hi:¬ (k:Int)<(xs.length:Int):=by omega
   obtain rfl:k=xs.length:=by omega
   have hT:((depT (.mk kd xs):Nat):Int)=(depTs xs:Int)+1:=by rw [depT];rfl
   rw [hT]
   refine byP hi ?_
   refine sw_run 200 _ _ _ ?_
   simp only [push_cast,↓reduceIte,Nat.reduceLT,Nat.reduceEqDiff,reduceCtorEq,List.take_length,Tryz.results230]
   unfold inI;omega
mutual
def lfT:Ty→Int→Int
 | .mk _ xs,l=>lfTs xs (l-1)
def lfTs:List Ty→Int→Int
 | [],l=>l
 | x :: xs,l=>if l<0 then l else lfTs xs (lfT x l)
end
mutual
theorem lfT_ok : ∀ (t : Ty) (l : Int), (l < szT t → lfT t l < 0) ∧ (szT t ≤ l → lfT t l = l - szT t)
  | .mk k xs, l => by
    have h := lfTs_ok xs (l - 1)
    rw [lfT, szT]
    refine ⟨fun h1 => h.1 (by omega), fun h1 => ?_⟩
    rw [h.2 (by omega) (by omega)]; omega
theorem lfTs_ok : ∀ (xs : List Ty) (l : Int), (l < szTs xs → lfTs xs l < 0) ∧ (0 ≤ l → szTs xs ≤ l → lfTs xs l = l - szTs xs)
  | [], l => by rw [lfTs, szTs]; exact ⟨fun h => by omega, fun _ _ => by omega⟩
  | x :: xs, l => by
    have h1 := lfT_ok x l
    have h2 := lfTs_ok xs (lfT x l)
    rw [lfTs, szTs]
    by_cases h0 : l < 0
    · rw [if_pos h0]; exact ⟨fun _ => h0, fun h _ => by omega⟩
    · rw [if_neg h0]
      by_cases h3 : (szT x : Int) ≤ l
      · have h4 := h1.2 h3
        exact ⟨fun h => h2.1 (by omega), fun _ h => by rw [h2.2 (by omega) (by omega)]; omega⟩
      · have h4 := h1.1 (by omega)
        have h5 : lfTs xs (lfT x l) < 0 := by
          cases xs with
          | nil => rw [lfTs]; exact h4
          | cons y ys => rw [lfTs, if_pos h4]; exact h4
        exact ⟨fun _ => h5, fun _ h => by omega⟩
end
mutual
theorem lfT_rng : ∀ (t : Ty) (l : Int), 0 ≤ l → -1 ≤ lfT t l ∧ lfT t l ≤ l
  | .mk k xs, l, h => by
    have h1 := lfTs_rng xs (l - 1) (by omega)
    rw [lfT]; omega
theorem lfTs_rng : ∀ (xs : List Ty) (l : Int), -1 ≤ l → -1 ≤ lfTs xs l ∧ lfTs xs l ≤ l
  | [], l, h => by rw [lfTs]; omega
  | x :: xs, l, h => by
    rw [lfTs]
    split
    · omega
    · have h1 := lfT_rng x l (by omega)
      have h2 := lfTs_rng xs (lfT x l) (by omega)
      omega
end
theorem lfTs_neg (xs:List Ty) (l:Int) (h:l<0):lfTs xs l=l:=by
 cases xs with
 | nil=>rw [lfTs]
 | cons x xs=>rw [lfTs,if_pos h]
theorem lfTs_step (xs:List Ty) (k:Nat) (l:Int) (h:k<xs.length) (h0:0≤l):lfTs (xs.drop k) l=lfTs (xs.drop (k+1)) (lfT xs[k]! l):=by
 rw [List.drop_eq_getElem_cons h,lfTs,if_neg (by omega),getElem!_pos xs k h]
theorem con_l3Left:∀ t:Ty,szL (tyC t)≤1000000000→∀ l:Int,0≤l→l≤1000000→Con Tryz.prog 229 [.ag (tyC t),.one (.int l)] [.one (.int (lfT t l))]:=by
 refine Ty.ind fun kd xs ih hz l h0 h1 => ?_
 have hz':xs.length+szL (tysC xs)≤1000000000:=by simpa [tyC,szL,szD] using hz
 have hT:lfT (.mk kd xs) l=lfTs xs (l-1):=by rw [lfT]
 rw [hT]
 refine con_run Tryz.func229 rfl rfl (by simp [Tryz.ntmps229]) ?_
 refine byP (fc Tryz.ntmps229 tyC.eq_1) ?_
 refine ⟨by unfold inI;omega, ?_⟩
 refine sw_loop (fun i:Nat × Int=>i.1≤xs.length∧lfTs (xs.drop i.1) i.2=lfTs xs (l-1) ∧ -1≤i.2∧i.2≤1000000) (fun i=>⟨27,[(5,.i i.1),(1,.i i.2),(2,.bx 0 0)],[(0,[.i kd,.br (.rows 2 xs.length (tysC xs))])],[],1,[]⟩) (fun i=>xs.length-i.1) (0,l-1) id ⟨Nat.zero_le _,rfl,by omega,by omega⟩ ?_ ?_
 ·exact byQ True.intro
 ·rintro ⟨k,c⟩ ⟨hk,hc,hc0,hc1⟩
  simp only at hk hc hc0 hc1 ⊢
  refine sw_run 200 _ _ _ ?_
  by_cases hlt:k<xs.length
  ·have hi:(k:Int)<(xs.length:Int):=by omega
   by_cases hn:0≤c
   ·have hR:=tysC_row' xs k hlt
    have hm:=mem_bang hlt
    have hs:=szL_tys' xs k hlt
    have hrec:=ih _ hm (by omega) c hn hc1
    have hst:=lfTs_step xs k c hlt hn
    have hrg:=lfT_rng xs[k]! c hn
    rw [hst] at hc
    refine byP (fc hi (fc hn hR)) ?_
    refine sw_call hrec rfl (aAs_ok ?_) ?_ (sw_run 200 _ _ _ ?_)
    ·exact byQ True.intro
    ·simp only [okR]
    refine byQ ?_
    refine ⟨by unfold inI;omega,(k+1,lfT xs[k]! c),id,⟨hlt,hc,hrg.1,by omega⟩,by simp only;omega, ?_⟩
    exact byQ True.intro
   ·rw [lfTs_neg _ c (by omega)] at hc
    refine byP (fc hi hn) ?_
    refine sw_run 200 _ _ _ ?_
    simp only [push_cast,↓reduceIte,Nat.reduceLT,Nat.reduceEqDiff,reduceCtorEq,← hc,Tryz.results229]
  ·have hi:¬ (k:Int)<(xs.length:Int):=by omega
   rw [List.drop_of_length_le (by omega),lfTs] at hc
   refine byP hi ?_
   refine sw_run 200 _ _ _ ?_
   simp only [push_cast,↓reduceIte,Nat.reduceLT,Nat.reduceEqDiff,reduceCtorEq,← hc,Tryz.results229]
def shB (k:Int) (n:Nat):Bool:=if k=1∨k=2 then decide ((n:Int)=0) else if k=3 then decide ((n:Int)=2) else if k=4 then decide ((n:Int)=1) else false
mutual
def formT:Ty→Bool
 | .mk k xs=>formTs xs && shB k xs.length
def formTs:List Ty→Bool
 | []=>true
 | x :: xs=>formT x && formTs xs
end
theorem formTs_drop (xs:List Ty) (k:Nat) (h:k<xs.length):formTs (xs.drop k)=(formT xs[k]! && formTs (xs.drop (k+1))):=by
 rw [List.drop_eq_getElem_cons h,formTs,getElem!_pos xs k h]
theorem con_l3Form:∀ t:Ty,szL (tyC t)≤1000000000→Con Tryz.prog 231 [.ag (tyC t)] [.one (.bool (formT t))]:=by
 refine Ty.ind fun kd xs ih hz => ?_
 have hz':xs.length+szL (tysC xs)≤1000000000:=by simpa [tyC,szL,szD] using hz
 have hT:formT (.mk kd xs)=(formTs xs && shB kd xs.length):=by rw [formT]
 rw [hT]
 refine con_run Tryz.func231 rfl rfl (by simp [Tryz.ntmps231]) ?_
 refine byP (fc Tryz.ntmps231 tyC.eq_1) ?_
 refine sw_loop (fun k:Nat=>k≤xs.length∧formTs (xs.drop k)=formTs xs) (fun k=>⟨39,[(3,.i k),(1,.bx 0 0)],[(0,[.i kd,.br (.rows 2 xs.length (tysC xs))])],[],1,[]⟩) (fun k=>xs.length-k) 0 id ⟨Nat.zero_le _,rfl⟩ ?_ ?_
 ·exact byQ True.intro
 ·rintro k ⟨hk,hf⟩
  refine sw_run 200 _ _ _ ?_
  by_cases hlt:k<xs.length
  ·have hi:(k:Int)<(xs.length:Int):=by omega
   have hR:=tysC_row' xs k hlt
   have hm:=mem_bang hlt
   have hs:=szL_tys' xs k hlt
   have hrec:=ih _ hm (by omega)
   rw [formTs_drop xs k hlt] at hf
   obtain ⟨b,hb⟩:∃ b,b=formT xs[k]! := ⟨_,rfl⟩
   rw [← hb] at hrec hf
   refine byP (fc hi hR) ?_
   refine sw_call hrec rfl (aAs_ok ?_) ?_ (sw_run 200 _ _ _ ?_)
   ·exact byQ True.intro
   ·simp only [okR]
   cases b
   ·rw [Bool.false_and] at hf
    simp only [push_cast,↓reduceIte,Nat.reduceLT,reduceCtorEq,← hf,Tryz.results231]
   ·refine byQ ?_
    refine ⟨by unfold inI;omega,k+1,id,⟨by omega,by simpa using hf⟩,by omega, ?_⟩
    exact byQ True.intro
  ·have hi:¬ (k:Int)<(xs.length:Int):=by omega
   rw [List.drop_of_length_le (by omega),formTs] at hf
   rw [← hf,Bool.true_and,shB]
   refine byP hi ?_
   refine sw_run 200 _ _ _ ?_
   by_cases e1:kd=1
   ·exact byP (fc (eq_true e1) Tryz.results231) True.intro
   by_cases e2:kd=2
   ·exact byP (fc e1 (fc (eq_true e2) Tryz.results231)) True.intro
   by_cases e3:kd=3
   ·exact byP (fc e1 (fc e2 (fc (eq_true e3) Tryz.results231))) True.intro
   by_cases e4:kd=4
   ·exact byP (fc e1 (fc e2 (fc e3 (fc (eq_true e4) Tryz.results231)))) True.intro
   exact byP (fc e1 (fc e2 (fc e3 (fc e4 Tryz.results231)))) True.intro
def vTy (t:Ty):Bool:=decide ((szT t:Int)≤30) && (decide ((depT t:Int)≤8) && formT t)
theorem con_ValidTyS (t:Ty) (hz:szL (tyC t)≤1000000000):Con Tryz.prog 172 [.ag (tyC t)] [.one (.bool (vTy t))]:=by
 have hl:=con_l3Left t hz 30 (by omega) (by omega)
 have hlo:=lfT_ok t 30
 have hd:=con_DepthTyS t hz
 have hf:=con_l3Form t hz
 refine con_run Tryz.func172 rfl rfl (by simp [Tryz.ntmps172]) ?_
 refine byP Tryz.ntmps172 ?_
 refine sw_call hl rfl (aAs_ok ?_) ?_ (sw_run 200 _ _ _ ?_)
 ·exact byQ True.intro
 ·simp only [okR]
 by_cases h1:(szT t:Int)≤30
 case neg =>
  have hneg:¬ 0≤lfT t 30:=by have:=hlo.1 (by omega);omega
  have hv:vTy t=false:=by rw [vTy,decide_eq_false h1];rfl
  rw [hv]
  exact byP (fc hneg Tryz.results172) True.intro
 have hpos:0≤lfT t 30:=by rw [hlo.2 (by omega)];omega
 refine byP hpos ?_
 refine sw_call hd rfl (aAs_ok ?_) ?_ (sw_run 200 _ _ _ ?_)
 ·exact byQ True.intro
 ·simp only [okR]
 by_cases h2:(depT t:Int)≤8
 case neg =>
  have hv:vTy t=false:=by rw [vTy,decide_eq_false h2,Bool.false_and,Bool.and_false]
  rw [hv]
  exact byP (fc h2 Tryz.results172) True.intro
 have hv:vTy t=formT t:=by rw [vTy,decide_eq_true h1,decide_eq_true h2];rfl
 rw [hv]
 refine byP h2 ?_
 refine sw_call hf rfl (aAs_ok ?_) ?_ (sw_run 200 _ _ _ ?_)
 ·exact byQ True.intro
 ·simp only [okR]
 exact byP Tryz.results172 True.intro
mutual
def allTm (p:Tm→Bool):Tm→Bool
 | .mk k s o n t r xs=>p (.mk k s o n t r xs) && allTms p xs
def allTms (p:Tm→Bool):List Tm→Bool
 | []=>true
 | x :: xs=>allTm p x && allTms p xs
end
theorem allTm_eq (p:Tm→Bool) (t:Tm):allTm p t=(p t && allTms p t.args):=by obtain ⟨k,s,o,n,ty,r,xs⟩:=t;rw [allTm];rfl
end Go.Proofs.YtaidalilfmjfgaaGreat
