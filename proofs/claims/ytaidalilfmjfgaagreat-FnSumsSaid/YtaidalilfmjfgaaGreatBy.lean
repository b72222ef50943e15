import Derived.Test.YtaidalilfmjfgaaGreatConR
import Derived.Test.YtaidalilfmjfgaaGreatTmC
namespace Go.Proofs.YtaidalilfmjfgaaGreat
open Go.RowKit
set_option linter.unusedVariables false
set_option linter.unusedSimpArgs false
def AV.rpb (b:Nat) (cs:List AV):AV→AV
 | .bx b' 0=>if b'=b then .rp cs else .bx b' 0
 | v=>v
def AV.fzc (b:Nat) (cs:List AV) (d:D):AV→AV
 | .bx b' off=>if b'=b then .eb d 0 off else .bx b' off
 | .fn f cap => .fn f (cap.map (AV.rpb b cs))
 | v=>v
def fzcT (b:Nat) (cs:List AV) (d:D):List (Nat × AV)→List (Nat × AV)
 | []=>[]
 | (t,v) :: r=>(t,v.fzc b cs d) :: fzcT b cs d r
def AS.fzc (s:AS) (b:Nat) (cs:List AV) (ds:List D):AS:={ s with tm:=fzcT b cs (.rows ds.length 1 ds) s.tm,bx:=rmB b s.bx }
def AS.rpe (s:AS) (t:Nat) (ds:List D):AS:={ s with tm:=(t,.eb (.rows ds.length 1 ds) 0 0) :: s.tm }
theorem byP {F p q:Prop} (f:F) (h:q) (e:F→p=q:=by
 intro hf
 simp only [push_cast,hf,Sub,subT,subB,subO,subP,inj,AV.ren,AV.rens,AV.lt,AV.lts,↓reduceIte,Nat.reduceLT,Nat.reduceAdd,Nat.reduceMul,Nat.reduceLeDiff,Nat.reduceEqDiff,reduceCtorEq,Int.reduceLT,Int.reduceLE,Int.reduceEq,Int.reduceNe,Int.reduceAdd,Int.reduceSub,Int.reduceMul,Int.reduceNeg,Int.reduceToNat,Nat.reduceSub,s0P,mkPs,mkPA,mkC,fQF,fQP,xRetP,rRs,rOs,rC,rCs,eRs,eOs,eC,eCs,AS.em,AS.fzL,AS.fzN,AS.fz,fzT,fzB,AV.fz,AV.fzs,aftS,aftV,AS.kb,rmBs,rmB,mkO,packRA,flatR,mPs,mP,ePs,eP,bPs,bP,nPs,nP,aAs,aA,aDs,aD,rnL,cast1,tmC_eq,tyC_eq,AS.fzc,fzcT,AV.fzc,AV.rpb,AS.rpe,toR,okR] <;> exact rfl):p:=e f ▸ h
theorem byQ {p q:Prop} (h:q) (e:p=q:=by
 simp only [push_cast,Sub,subT,subB,subO,subP,inj,AV.ren,AV.rens,AV.lt,AV.lts,↓reduceIte,Nat.reduceLT,Nat.reduceAdd,Nat.reduceMul,Nat.reduceLeDiff,Nat.reduceEqDiff,reduceCtorEq,Int.reduceLT,Int.reduceLE,Int.reduceEq,Int.reduceNe,Int.reduceAdd,Int.reduceSub,Int.reduceMul,Int.reduceNeg,Int.reduceToNat,Nat.reduceSub,s0P,mkPs,mkPA,mkC,fQF,fQP,xRetP,rRs,rOs,rC,rCs,eRs,eOs,eC,eCs,AS.em,AS.fzL,AS.fzN,AS.fz,fzT,fzB,AV.fz,AV.fzs,aftS,aftV,AS.kb,rmBs,rmB,mkO,packRA,flatR,mPs,mP,ePs,eP,bPs,bP,nPs,nP,aAs,aA,aDs,aD,rnL,cast1,tmC_eq,tyC_eq,AS.fzc,fzcT,AV.fzc,AV.rpb,AS.rpe,toR,okR] <;> exact rfl):p:=e ▸ h
theorem fc {a b:Prop} (h:a) (k:b):a∧b:=⟨h,k⟩
end Go.Proofs.YtaidalilfmjfgaaGreat
