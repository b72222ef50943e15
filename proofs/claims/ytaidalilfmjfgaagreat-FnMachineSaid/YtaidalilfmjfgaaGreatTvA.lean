import Derived.Test.YtaidalilfmjfgaaGreatTmB
namespace Go.Proofs.YtaidalilfmjfgaaGreat
open Go.Proofs.Tryz
open Go.RowKit
set_option linter.unusedVariables false
set_option linter.unusedSimpArgs false
set_option maxRecDepth 20000
mutual
def nT:Tm→Nat
 | .mk _ _ _ _ _ _ xs=>1+nTs xs
def nTs:List Tm→Nat
 | []=>0
 | x :: xs=>nT x+nTs xs
end
mutual
def dT:Tm→Nat
 | .mk _ _ _ _ _ _ xs=>dTs xs+1
def dTs:List Tm→Nat
 | []=>0
 | x :: xs=>max (dT x) (dTs xs)
end
theorem Ik (t:Tm):nT t=1+nTs t.args:=by obtain ⟨k,s,o,n,ty,r,xs⟩:=t;rw [nT];rfl
theorem aH5 (t:Tm):dT t=dTs t.args+1:=by obtain ⟨k,s,o,n,ty,r,xs⟩:=t;rw [dT];rfl
theorem Np:∀ (a b:List Tm),nTs (a++b)=nTs a+nTs b
 | [],b=>by rw [List.nil_append,nTs];omega
 | x :: a,b=>by rw [List.cons_append,nTs,nTs,Np a b];omega
theorem MI:∀ (a b:List Tm),dTs (a++b)=max (dTs a) (dTs b)
 | [],b=>by rw [List.nil_append,dTs];omega
 | x :: a,b=>by rw [List.cons_append,dTs,dTs,MI a b];omega
theorem Kr (xs:List Tm) (k:Nat) (h:k<xs.length):nTs (xs.take (k+1))=nTs (xs.take k)+nT xs[k]! := by
 rw [AH xs k h,Np,nTs,nTs];omega
theorem VP (xs:List Tm) (k:Nat) (h:k<xs.length):dTs (xs.take (k+1))=max (dTs (xs.take k)) (dT xs[k]!):=by
 rw [AH xs k h,MI,dTs,dTs];omega
mutual
theorem aBS:∀ t:Tm,nT t≤szL (tmC t)+1
 | .mk k s o n ty r xs=>by
  have h:=Pf xs
  rw [BM,nT]
  show _≤s.size+o.size+szL (tyC ty)+szL (tyC r)+(xs.length+szL (Av xs))+1
  omega
theorem Pf:∀ xs:List Tm,nTs xs≤szL (Av xs)+xs.length
 | []=>by rw [nTs];omega
 | x :: xs=>by
  have h1:=aBS x
  have h2:=Pf xs
  rw [nTs,Av,Ah,List.length_cons];omega
end
mutual
theorem aFt:∀ t:Tm,dT t≤nT t
 | .mk k s o n ty r xs=>by have h:=QF xs;rw [dT,nT];omega
theorem QF:∀ xs:List Tm,dTs xs≤nTs xs
 | []=>by rw [dTs];omega
 | x :: xs=>by
  have h1:=aFt x
  have h2:=QF xs
  rw [dTs,nTs];omega
end
theorem HB (xs:List Tm) (k:Nat):nTs (xs.take k)≤nTs xs:=by
 have e:nTs xs=nTs (xs.take k)+nTs (xs.drop k):=by rw [← Np,List.take_append_drop]
 omega
theorem Wa (xs:List Tm) (k:Nat):dTs (xs.take k)≤dTs xs:=by
 have e:dTs xs=max (dTs (xs.take k)) (dTs (xs.drop k)):=by rw [← MI,List.take_append_drop]
 omega
mutual
def lfM:Tm→Int→Int
 | .mk _ _ _ _ _ _ xs,l=>Ig xs (l-1)
def Ig:List Tm→Int→Int
 | [],l=>l
 | x :: xs,l=>if l<0 then l else Ig xs (lfM x l)
end
theorem aDp (t:Tm) (l:Int):lfM t l=Ig t.args (l-1):=by obtain ⟨k,s,o,n,ty,r,xs⟩:=t;rw [lfM];rfl
mutual
theorem XJ:∀ (t:Tm) (l:Int),(l<nT t→lfM t l<0)∧(nT t≤l→lfM t l=l-nT t)
 | .mk k s o n ty r xs,l=>by
  have h:=Td xs (l-1)
  rw [lfM,nT]
  refine ⟨fun h1=>h.1 (by omega),fun h1 => ?_⟩
  rw [h.2 (by omega) (by omega)];omega
theorem Td:∀ (xs:List Tm) (l:Int),(l<nTs xs→Ig xs l<0)∧(0≤l→nTs xs≤l→Ig xs l=l-nTs xs)
 | [],l=>by rw [Ig,nTs];exact ⟨fun h=>by omega,fun _ _=>by omega⟩
 | x :: xs,l=>by
  have h1:=XJ x l
  have h2:=Td xs (lfM x l)
  rw [Ig,nTs]
  by_cases h0:l<0
  ·rw [if_pos h0];exact ⟨fun _=>h0,fun h _=>by omega⟩
  ·rw [if_neg h0]
   by_cases h3:(nT x:Int)≤l
   ·have h4:=h1.2 h3
    exact ⟨fun h=>h2.1 (by omega),fun _ h=>by rw [h2.2 (by omega) (by omega)];omega⟩
   ·have h4:=h1.1 (by omega)
    have h5:Ig xs (lfM x l)<0:=by
     cases xs with
     | nil=>rw [Ig];exact h4
     | cons y ys=>rw [Ig,if_pos h4];exact h4
    exact ⟨fun _=>h5,fun _ h=>by omega⟩
end
mutual
theorem Uh:∀ (t:Tm) (l:Int),0≤l → -1≤lfM t l∧lfM t l≤l
 | .mk k s o n ty r xs,l,h=>by
  have h1:=OD xs (l-1) (by omega)
  rw [lfM];omega
theorem OD:∀ (xs:List Tm) (l:Int),-1≤l → -1≤Ig xs l∧Ig xs l≤l
 | [],l,h=>by rw [Ig];omega
 | x :: xs,l,h=>by
  rw [Ig]
  split
  ·omega
  ·have h1:=Uh x l (by omega)
   have h2:=OD xs (lfM x l) (by omega)
   omega
end
theorem Xb (xs:List Tm) (l:Int) (h:l<0):Ig xs l=l:=by
 cases xs with
 | nil=>rw [Ig]
 | cons x xs=>rw [Ig,if_pos h]
theorem Rq (xs:List Tm) (k:Nat) (l:Int) (h:k<xs.length) (h0:0≤l):Ig (xs.drop k) l=Ig (xs.drop (k+1)) (lfM xs[k]! l):=by
 rw [List.drop_eq_getElem_cons h,Ig,if_neg (by omega),getElem!_pos xs k h]
def vTm (e:Tm):Bool:=Bn EO e && (decide ((nT e:Int)≤80) && decide ((dT e:Int)≤20))
theorem PE:∀ t:Tm,szL (tmC t)≤1000000000→Con prog 250 [.ag (tmC t)] [.one (.int (dT t))]:=by
 refine Tm.ind fun t ih hz => ?_
 have hze:=BM t
 have hs0:=Pf t.args
 have hd:=QF t.args
 rw [aH5]
 refine Af func250 rfl rfl (by simp [ntmps250]) ?_
 refine byP (fc ntmps250 results250) ?_
 refine Al (fun k:Nat=>k≤t.args.length) (fun k=>⟨22,[(4,.i k),(3,.i (dTs (t.args.take k))),(1,.bx 0 0)],[(0,[.i t.kind,.s t.name,.s t.other,.i t.n,.i t.ty.kind,.br (.rows 2 t.ty.args.length (Ai t.ty.args)),.i t.res.kind,.br (.rows 2 t.res.args.length (Ai t.res.args)),.br (.rows 9 t.args.length (Av t.args))])],[],1,[]⟩) (fun k=>t.args.length-k) 0 id (Nat.zero_le _) ?_ ?_
 ·exact byP (fc Int.natCast_zero (show dTs []=0 from by rw [dTs])) tI
 ·rintro k hk
  by_cases hlt:k<t.args.length
  ·have hi:(k:Int)<(t.args.length:Int):=by omega
   have hR:=Aj t.args k hlt
   have hs:=Bv t.args k hlt
   have hrec:=ih _ (Ab hlt) (by omega)
   have hst:=VP t.args k hlt
   have hle:=HB t.args (k+1)
   have hl1:=HB t.args k
   have hle2:=Wa t.args (k+1)
   rw [Ak] at hrec
   have hM:=LN (dTs (t.args.take k)) (dT t.args[k]!)
   refine rG (fc hi hR) ?_
   refine Kc hrec ?_
   refine rQ ?_
   refine Kc hM ?_
   refine rG hst.symm ?_
   exact ⟨by unfold inI;omega,k+1,id,by omega,by omega,byQ tI⟩
  ·have hi:¬ (k:Int)<(t.args.length:Int):=by omega
   obtain rfl:k=t.args.length:=by omega
   rw [List.take_length]
   refine rG hi ?_
   refine rG (fc ntmps250 results250) ?_
   unfold inI;omega
theorem Qk:∀ t:Tm,szL (tmC t)≤1000000000→∀ l:Int,0≤l→l≤1000000→Con prog 249 [.ag (tmC t),.one (.int l)] [.one (.int (lfM t l))]:=by
 refine Tm.ind fun t ih hz l h0 h1 => ?_
 have hze:=BM t
 rw [aDp]
 have hj:inI (l-1):=by unfold inI;omega
 refine Af func249 rfl rfl (by simp [ntmps249]) ?_
 refine byP (fc hj (fc ntmps249 results249)) ?_
 refine Al (fun i:Nat × Int=>i.1≤t.args.length∧Ig (t.args.drop i.1) i.2=Ig t.args (l-1) ∧ -1≤i.2∧i.2≤1000000) (fun i=>⟨27,[(5,.i i.1),(1,.i i.2),(2,.bx 0 0)],[(0,[.i t.kind,.s t.name,.s t.other,.i t.n,.i t.ty.kind,.br (.rows 2 t.ty.args.length (Ai t.ty.args)),.i t.res.kind,.br (.rows 2 t.res.args.length (Ai t.res.args)),.br (.rows 9 t.args.length (Av t.args))])],[],1,[]⟩) (fun i=>t.args.length-i.1) (0,l-1) id ⟨Nat.zero_le _,rfl,by omega,by omega⟩ ?_ ?_
 ·exact byP Int.natCast_zero tI
 ·rintro ⟨k,c⟩ ⟨hk,hc,hc0,hc1⟩
  simp only at hk hc hc0 hc1 ⊢
  by_cases hlt:k<t.args.length
  ·have hi:(k:Int)<(t.args.length:Int):=by omega
   by_cases hn:0≤c
   ·have hR:=Aj t.args k hlt
    have hs:=Bv t.args k hlt
    have hrec:=ih _ (Ab hlt) (by omega) c hn hc1
    have hst:=Rq t.args k c hlt hn
    have hrg:=Uh t.args[k]! c hn
    rw [hst] at hc
    rw [Ak] at hrec
    refine rG (fc hi (fc hn hR)) ?_
    refine Kc hrec ?_
    refine rQ ?_
    exact ⟨by unfold inI;omega,(k+1,lfM t.args[k]! c),id,⟨hlt,hc,hrg.1,by simp only;omega⟩,by simp only;omega,byQ tI⟩
   ·rw [Xb _ c (by omega)] at hc
    rw [← hc]
    refine rG (fc hi hn) ?_
    exact rG (fc ntmps249 results249) tI
  ·have hi:¬ (k:Int)<(t.args.length:Int):=by omega
   rw [List.drop_of_length_le (by omega),Ig] at hc
   rw [← hc]
   refine rG hi ?_
   exact rG (fc ntmps249 results249) tI
theorem PZ (t:Tm) (hz:szL (tmC t)≤1000000000):Con prog 195 [.ag (tmC t)] [.one (.bool (vTm t))]:=by
 have h1:=FD t hz
 have h2:=Qk t hz 80 (by omega) (by omega)
 have h3:=PE t hz
 have hlf:=XJ t 80
 have hV:vTm t=(decide (0≤lfM t 80) && (decide ((dT t:Int)≤20) && Bn EO t)):=by
  have e:decide ((nT t:Int)≤80)=decide (0≤lfM t 80):=by
   by_cases h:(nT t:Int)≤80
   ·rw [decide_eq_true h,decide_eq_true (by have:=hlf.2 h;omega)]
   ·rw [decide_eq_false h,decide_eq_false (by have:=hlf.1 (by omega);omega)]
  unfold vTm
  rw [e]
  cases decide (0≤lfM t 80) <;> cases decide ((dT t:Int)≤20) <;> cases Bn EO t <;> rfl
 rw [hV]
 rw [Ak] at h1 h2 h3
 generalize Bn EO t=c at *
 generalize lfM t 80=l at *
 by_cases h4:0≤l
 case neg =>
  rw [decide_eq_false h4]
  refine Af func195 rfl rfl (by simp [ntmps195]) ?_
  refine byP (fc ntmps195 results195) ?_
  refine Kc h2 ?_
  refine rG (fc h4 (fc ntmps195 results195)) ?_
  exact tI
 rw [decide_eq_true h4,Bool.true_and]
 by_cases h5:(dT t:Int)≤20
 case neg =>
  rw [decide_eq_false h5]
  refine Af func195 rfl rfl (by simp [ntmps195]) ?_
  refine byP (fc ntmps195 results195) ?_
  refine Kc h2 ?_
  refine rG h4 ?_
  refine Kc h3 ?_
  refine rG (fc h5 (fc ntmps195 results195)) ?_
  exact tI
 rw [decide_eq_true h5,Bool.true_and]
 refine Af func195 rfl rfl (by simp [ntmps195]) ?_
 refine byP (fc ntmps195 results195) ?_
 refine Kc h2 ?_
 refine rG h4 ?_
 refine Kc h3 ?_
 refine rG h5 ?_
 refine Kc h1 ?_
 refine rG (fc ntmps195 results195) ?_
 exact tI
theorem Lh:Con prog 85 [.one (.rows 4 0 [])] [.one (.bool true)]:=by
 refine Af func85 rfl rfl (by simp [ntmps85]) ?_
 refine byP (fc ntmps85 results85) ?_
 refine Al (fun k:Nat=>True) (fun k=>⟨38,[(3,.i 0),(0,.br (.rows 4 0 []))],[],[],0,[]⟩) (fun k=>0) 0 id tI ?_ ?_
 ·exact byQ tI
 ·rintro k hk
  refine rQ ?_
  refine rG (fc ntmps85 results85) ?_
  exact tI
end Go.Proofs.YtaidalilfmjfgaaGreat
