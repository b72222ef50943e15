import Derived.Test.YtaidalilfmjfgaaGreatBy
namespace Go.Proofs.YtaidalilfmjfgaaGreat
open Go.Proofs.Tryz
open Go.RowKit
set_option linter.unusedVariables false
set_option linter.unusedSimpArgs false
set_option maxRecDepth 20000
mutual
def szT:Ty→Nat
 | .mk _ xs=>1+GL xs
def GL:List Ty→Nat
 | []=>0
 | x :: xs=>szT x+GL xs
end
mutual
def Un:Ty→Nat
 | .mk _ xs=>Ei xs+1
def Ei:List Ty→Nat
 | []=>0
 | x :: xs=>max (Un x) (Ei xs)
end
theorem LI:∀ (a b:List Ty),Ei (a++b)=max (Ei a) (Ei b)
 | [],b=>by rw [List.nil_append,Ei];omega
 | x :: a,b=>by rw [List.cons_append,Ei,Ei,LI a b];omega
theorem PK (xs:List Ty) (k:Nat) (h:k<xs.length):Ei (xs.take (k+1))=max (Ei (xs.take k)) (Un xs[k]!):=by
 rw [AH xs k h,LI,Ei,Ei];omega
mutual
theorem NN:∀ t:Ty,szT t≤szL (tyC t)+1
 | .mk k xs=>by
  have h:=Nh xs
  simp only [tyC,szL,szD]
  rw [szT];omega
theorem Nh:∀ xs:List Ty,GL xs≤szL (Ai xs)+xs.length
 | []=>by rw [GL];omega
 | x :: xs=>by
  have h1:=NN x
  have h2:=Nh xs
  rw [GL,Ai,Ah,List.length_cons];omega
end
mutual
theorem YV:∀ t:Ty,Un t≤szT t
 | .mk k xs=>by have h:=JQ xs;rw [Un,szT];omega
theorem JQ:∀ xs:List Ty,Ei xs≤GL xs
 | []=>by rw [Ei];omega
 | x :: xs=>by
  have h1:=YV x
  have h2:=JQ xs
  rw [Ei,GL];omega
end
theorem LN (a b:Nat):Con prog 76 [.one (.int a),.one (.int b)] [.one (.int ((max a b:Nat):Int))]:=by
 refine Af func76 rfl rfl (by simp [ntmps76]) ?_
 by_cases h:(b:Int)<(a:Int)
 ·have e:max a b=a:=by omega
  rw [e]
  exact byP (fc h (fc ntmps76 results76)) tI
 ·have e:max a b=b:=by omega
  rw [e]
  exact byP (fc h (fc ntmps76 results76)) tI
theorem Ly:∀ t:Ty,szL (tyC t)≤1000000000→Con prog 230 [.ag (tyC t)] [.one (.int (Un t))]:=by
 refine Ty.ind fun kd xs ih hz => ?_
 have hz':xs.length+szL (Ai xs)≤1000000000:=by simpa [tyC,szL,szD] using hz
 have hd:=JQ xs
 have hs0:=Nh xs
 refine Af func230 rfl rfl (by simp [ntmps230]) ?_
 refine byP (fc ntmps230 tyC.eq_1) ?_
 refine Al (fun k:Nat=>k≤xs.length) (fun k=>⟨22,[(4,.i k),(3,.i (Ei (xs.take k))),(1,.bx 0 0)],[(0,[.i kd,.br (.rows 2 xs.length (Ai xs))])],[],1,[]⟩) (fun k=>xs.length-k) 0 id (Nat.zero_le _) ?_ ?_
 ·exact byP Ei.eq_1 tI
 ·rintro k hk
  refine Aa 200 _ _ _ ?_
  by_cases hlt:k<xs.length
  ·have hi:(k:Int)<(xs.length:Int):=by omega
   have hR:=Ax xs k hlt
   have hm:=Ab hlt
   have hs:=Dy xs k hlt
   have hst:=PK xs k hlt
   have hrec:=ih _ hm (by omega)
   refine byP (fc hi hR) ?_
   refine Kc hrec ?_
   refine rQ ?_
   refine Kc (LN (Ei (xs.take k)) (Un xs[k]!)) ?_
   refine rQ ?_
   refine ⟨by unfold inI;omega,k+1,id,by omega,by omega, ?_⟩
   exact byP hst tI
  ·have hi:¬ (k:Int)<(xs.length:Int):=by omega
   obtain rfl:k=xs.length:=by omega
   have hT:((Un (.mk kd xs):Nat):Int)=(Ei xs:Int)+1:=by rw [Un];rfl
   rw [hT]
   refine byP hi ?_
   refine Aa 200 _ _ _ ?_
   simp only [push_cast,↓reduceIte,Nat.reduceLT,Nat.reduceEqDiff,reduceCtorEq,List.take_length,results230]
   unfold inI;omega
mutual
def lfT:Ty→Int→Int
 | .mk _ xs,l=>Ix xs (l-1)
def Ix:List Ty→Int→Int
 | [],l=>l
 | x :: xs,l=>if l<0 then l else Ix xs (lfT x l)
end
mutual
theorem Xm:∀ (t:Ty) (l:Int),(l<szT t→lfT t l<0)∧(szT t≤l→lfT t l=l-szT t)
 | .mk k xs,l=>by
  have h:=Re xs (l-1)
  rw [lfT,szT]
  refine ⟨fun h1=>h.1 (by omega),fun h1 => ?_⟩
  rw [h.2 (by omega) (by omega)];omega
theorem Re:∀ (xs:List Ty) (l:Int),(l<GL xs→Ix xs l<0)∧(0≤l→GL xs≤l→Ix xs l=l-GL xs)
 | [],l=>by rw [Ix,GL];exact ⟨fun h=>by omega,fun _ _=>by omega⟩
 | x :: xs,l=>by
  have h1:=Xm x l
  have h2:=Re xs (lfT x l)
  rw [Ix,GL]
  by_cases h0:l<0
  ·rw [if_pos h0];exact ⟨fun _=>h0,fun h _=>by omega⟩
  ·rw [if_neg h0]
   by_cases h3:(szT x:Int)≤l
   ·have h4:=h1.2 h3
    exact ⟨fun h=>h2.1 (by omega),fun _ h=>by rw [h2.2 (by omega) (by omega)];omega⟩
   ·have h4:=h1.1 (by omega)
    have h5:Ix xs (lfT x l)<0:=by
     cases xs with
     | nil=>rw [Ix];exact h4
     | cons y ys=>rw [Ix,if_pos h4];exact h4
    exact ⟨fun _=>h5,fun _ h=>by omega⟩
end
mutual
theorem Sv:∀ (t:Ty) (l:Int),0≤l → -1≤lfT t l∧lfT t l≤l
 | .mk k xs,l,h=>by
  have h1:=OM xs (l-1) (by omega)
  rw [lfT];omega
theorem OM:∀ (xs:List Ty) (l:Int),-1≤l → -1≤Ix xs l∧Ix xs l≤l
 | [],l,h=>by rw [Ix];omega
 | x :: xs,l,h=>by
  rw [Ix]
  split
  ·omega
  ·have h1:=Sv x l (by omega)
   have h2:=OM xs (lfT x l) (by omega)
   omega
end
theorem VF (xs:List Ty) (l:Int) (h:l<0):Ix xs l=l:=by
 cases xs with
 | nil=>rw [Ix]
 | cons x xs=>rw [Ix,if_pos h]
theorem Sz (xs:List Ty) (k:Nat) (l:Int) (h:k<xs.length) (h0:0≤l):Ix (xs.drop k) l=Ix (xs.drop (k+1)) (lfT xs[k]! l):=by
 rw [List.drop_eq_getElem_cons h,Ix,if_neg (by omega),getElem!_pos xs k h]
theorem PO:∀ t:Ty,szL (tyC t)≤1000000000→∀ l:Int,0≤l→l≤1000000→Con prog 229 [.ag (tyC t),.one (.int l)] [.one (.int (lfT t l))]:=by
 refine Ty.ind fun kd xs ih hz l h0 h1 => ?_
 have hz':xs.length+szL (Ai xs)≤1000000000:=by simpa [tyC,szL,szD] using hz
 have hT:lfT (.mk kd xs) l=Ix xs (l-1):=by rw [lfT]
 rw [hT]
 refine Af func229 rfl rfl (by simp [ntmps229]) ?_
 refine byP (fc ntmps229 tyC.eq_1) ?_
 refine ⟨by unfold inI;omega, ?_⟩
 refine Al (fun i:Nat × Int=>i.1≤xs.length∧Ix (xs.drop i.1) i.2=Ix xs (l-1) ∧ -1≤i.2∧i.2≤1000000) (fun i=>⟨27,[(5,.i i.1),(1,.i i.2),(2,.bx 0 0)],[(0,[.i kd,.br (.rows 2 xs.length (Ai xs))])],[],1,[]⟩) (fun i=>xs.length-i.1) (0,l-1) id ⟨Nat.zero_le _,rfl,by omega,by omega⟩ ?_ ?_
 ·exact byQ tI
 ·rintro ⟨k,c⟩ ⟨hk,hc,hc0,hc1⟩
  simp only at hk hc hc0 hc1 ⊢
  refine Aa 200 _ _ _ ?_
  by_cases hlt:k<xs.length
  ·have hi:(k:Int)<(xs.length:Int):=by omega
   by_cases hn:0≤c
   ·have hR:=Ax xs k hlt
    have hm:=Ab hlt
    have hs:=Dy xs k hlt
    have hrec:=ih _ hm (by omega) c hn hc1
    have hst:=Sz xs k c hlt hn
    have hrg:=Sv xs[k]! c hn
    rw [hst] at hc
    refine byP (fc hi (fc hn hR)) ?_
    refine Kc hrec ?_
    refine rQ ?_
    refine ⟨by unfold inI;omega,(k+1,lfT xs[k]! c),id,⟨hlt,hc,hrg.1,by omega⟩,by simp only;omega, ?_⟩
    exact byQ tI
   ·rw [VF _ c (by omega)] at hc
    refine byP (fc hi hn) ?_
    refine Aa 200 _ _ _ ?_
    simp only [push_cast,↓reduceIte,Nat.reduceLT,Nat.reduceEqDiff,reduceCtorEq,← hc,results229]
  ·have hi:¬ (k:Int)<(xs.length:Int):=by omega
   rw [List.drop_of_length_le (by omega),Ix] at hc
   refine byP hi ?_
   refine Aa 200 _ _ _ ?_
   simp only [push_cast,↓reduceIte,Nat.reduceLT,Nat.reduceEqDiff,reduceCtorEq,← hc,results229]
def shB (k:Int) (n:Nat):Bool:=if k=1∨k=2 then decide ((n:Int)=0) else if k=3 then decide ((n:Int)=2) else if k=4 then decide ((n:Int)=1) else false
mutual
def BE:Ty→Bool
 | .mk k xs=>Dc xs && shB k xs.length
def Dc:List Ty→Bool
 | []=>true
 | x :: xs=>BE x && Dc xs
end
theorem Mr (xs:List Ty) (k:Nat) (h:k<xs.length):Dc (xs.drop k)=(BE xs[k]! && Dc (xs.drop (k+1))):=by
 rw [List.drop_eq_getElem_cons h,Dc,getElem!_pos xs k h]
theorem PG:∀ t:Ty,szL (tyC t)≤1000000000→Con prog 231 [.ag (tyC t)] [.one (.bool (BE t))]:=by
 refine Ty.ind fun kd xs ih hz => ?_
 have hz':xs.length+szL (Ai xs)≤1000000000:=by simpa [tyC,szL,szD] using hz
 have hT:BE (.mk kd xs)=(Dc xs && shB kd xs.length):=by rw [BE]
 rw [hT]
 refine Af func231 rfl rfl (by simp [ntmps231]) ?_
 refine byP (fc ntmps231 tyC.eq_1) ?_
 refine Al (fun k:Nat=>k≤xs.length∧Dc (xs.drop k)=Dc xs) (fun k=>⟨39,[(3,.i k),(1,.bx 0 0)],[(0,[.i kd,.br (.rows 2 xs.length (Ai xs))])],[],1,[]⟩) (fun k=>xs.length-k) 0 id ⟨Nat.zero_le _,rfl⟩ ?_ ?_
 ·exact byQ tI
 ·rintro k ⟨hk,hf⟩
  refine Aa 200 _ _ _ ?_
  by_cases hlt:k<xs.length
  ·have hi:(k:Int)<(xs.length:Int):=by omega
   have hR:=Ax xs k hlt
   have hm:=Ab hlt
   have hs:=Dy xs k hlt
   have hrec:=ih _ hm (by omega)
   rw [Mr xs k hlt] at hf
   obtain ⟨b,hb⟩:∃ b,b=BE xs[k]! := ⟨_,rfl⟩
   rw [← hb] at hrec hf
   refine byP (fc hi hR) ?_
   refine As hrec rfl (Am ?_) ?_ (Aa 200 _ _ _ ?_)
   ·exact byQ tI
   ·simp only [okR]
   cases b
   ·rw [Bool.false_and] at hf
    simp only [push_cast,↓reduceIte,Nat.reduceLT,reduceCtorEq,← hf,results231]
   ·refine byQ ?_
    refine ⟨by unfold inI;omega,k+1,id,⟨by omega,by simpa using hf⟩,by omega, ?_⟩
    exact byQ tI
  ·have hi:¬ (k:Int)<(xs.length:Int):=by omega
   rw [List.drop_of_length_le (by omega),Dc] at hf
   rw [← hf,Bool.true_and,shB]
   refine byP hi ?_
   refine Aa 200 _ _ _ ?_
   by_cases e1:kd=1
   ·exact byP (fc (eq_true e1) results231) tI
   by_cases e2:kd=2
   ·exact byP (fc e1 (fc (eq_true e2) results231)) tI
   by_cases e3:kd=3
   ·exact byP (fc e1 (fc e2 (fc (eq_true e3) results231))) tI
   by_cases e4:kd=4
   ·exact byP (fc e1 (fc e2 (fc e3 (fc (eq_true e4) results231)))) tI
   exact byP (fc e1 (fc e2 (fc e3 (fc e4 results231)))) tI
def vTy (t:Ty):Bool:=decide ((szT t:Int)≤30) && (decide ((Un t:Int)≤8) && BE t)
theorem EQ (t:Ty) (hz:szL (tyC t)≤1000000000):Con prog 172 [.ag (tyC t)] [.one (.bool (vTy t))]:=by
 have hl:=PO t hz 30 (by omega) (by omega)
 have hlo:=Xm t 30
 have hd:=Ly t hz
 have hf:=PG t hz
 refine Af func172 rfl rfl (by simp [ntmps172]) ?_
 refine byP ntmps172 ?_
 refine As hl rfl (Am ?_) ?_ (Aa 200 _ _ _ ?_)
 ·exact byQ tI
 ·simp only [okR]
 by_cases h1:(szT t:Int)≤30
 case neg =>
  have hneg:¬ 0≤lfT t 30:=by have:=hlo.1 (by omega);omega
  have hv:vTy t=false:=by rw [vTy,decide_eq_false h1];rfl
  rw [hv]
  exact byP (fc hneg results172) tI
 have hpos:0≤lfT t 30:=by rw [hlo.2 (by omega)];omega
 refine byP hpos ?_
 refine As hd rfl (Am ?_) ?_ (Aa 200 _ _ _ ?_)
 ·exact byQ tI
 ·simp only [okR]
 by_cases h2:(Un t:Int)≤8
 case neg =>
  have hv:vTy t=false:=by rw [vTy,decide_eq_false h2,Bool.false_and,Bool.and_false]
  rw [hv]
  exact byP (fc h2 results172) tI
 have hv:vTy t=BE t:=by rw [vTy,decide_eq_true h1,decide_eq_true h2];rfl
 rw [hv]
 refine byP h2 ?_
 refine Kc hf ?_
 exact rG results172 tI
mutual
def Bn (p:Tm→Bool):Tm→Bool
 | .mk k s o n t r xs=>p (.mk k s o n t r xs) && BV p xs
def BV (p:Tm→Bool):List Tm→Bool
 | []=>true
 | x :: xs=>Bn p x && BV p xs
end
theorem Cv (p:Tm→Bool) (t:Tm):Bn p t=(p t && BV p t.args):=by obtain ⟨k,s,o,n,ty,r,xs⟩:=t;rw [Bn];rfl
end Go.Proofs.YtaidalilfmjfgaaGreat
