import Derived.Test.YtaidalilfmjfgaaGreatTmV
import Derived.Test.YtaidalilfmjfgaaGreatLp
namespace Go.Proofs.YtaidalilfmjfgaaGreat
open Go.Proofs.Tryz
open Go.RowKit
set_option linter.unusedVariables false
set_option linter.unusedSimpArgs false
set_option maxRecDepth 20000
def rgB (lo hi n:Int):Bool:=decide (lo≤n) && decide (n≤hi)
def WP (t:Tm):Bool:=if t.kind=1 then nmB t.name else if t.kind=2 then rgB 0 10006 t.n else if t.kind=3 then rgB 0 1 t.n else if t.kind=4 then decide (0<CQ t.name) else if t.kind=6 then nmB t.name && vTy t.ty else if t.kind=8 then nmB t.name else if t.kind=9 then nmB t.name && (nmB t.other && (!decide (t.name=t.other) && (vTy t.ty && vTy t.res))) else rgB 1 13 t.kind
def wN (t:Tm):ByteArray:=if t.kind=1 then t.name else if t.kind=8 then t.name else if t.kind=4 then t.name else if t.kind=6 then t.name else if t.kind=9 then t.name else ⟨#[]⟩
def wO (t:Tm):ByteArray:=if t.kind=9 then t.other else ⟨#[]⟩
def wI (t:Tm):Int:=if t.kind=2 then t.n else if t.kind=3 then t.n else 0
def wT (t:Tm):Ty:=if t.kind=6 then t.ty else if t.kind=9 then t.ty else .mk 0 []
def wR (t:Tm):Ty:=if t.kind=9 then t.res else .mk 0 []
def EO (t:Tm):Bool:=decide ((t.args.length:Int)=arF 0 t.kind t.name) && (WP t && (decide (t.name=wN t) && (decide (t.other=wO t) && (decide (t.n=wI t) && (Da t.ty (wT t) && Da t.res (wR t))))))
theorem Gy (t:Tm):EO t=(decide ((t.args.length:Int)=arF 0 t.kind t.name) && (WP t && (decide (t.name=wN t) && (decide (t.other=wO t) && (decide (t.n=wI t) && (Da t.ty (wT t) && Da t.res (wR t))))))):=rfl
theorem aEf {ops:Array Oper} {r:AN} {n i:Nat} {listed:Array Bool} (h:((Region.ready .any ops listed).contains i && Region.free .any ops listed i && !CV ops i && (JE ops i || (List.range ops.size).all fun j=>listed.getD j true || !CV ops j || j == i || MW ops listed i ops.size j))=true) (h2:Ag ops r n (listed.setIfInBounds i true)=true):Ag ops (.cons i true r) (n+1) listed=true:=by
 rw [Ag,h,h2];rfl
theorem aEG {ops:Array Oper} {r:AN} {n i:Nat} {listed:Array Bool} (h:(Region.ready .any ops listed == [i])=true) (h2:Ag ops r n (listed.setIfInBounds i true)=true):Ag ops (.cons i false r) (n+1) listed=true:=by
 rw [Ag,h,h2];rfl
theorem Km {i:Nat} {b:Bool} {r:AN} (h:Ae r=true) (h2:EF r=false):Ae (.cons i b r)=true:=by rw [Ae,h,h2];rfl
def Nl (id:Nat):Code→Option (Array Oper)
 | .region i ops _=>if i=id then some ops else none
 | .seq a b=>(Nl id a).orElse fun _=>Nl id b
 | .cond _ a b=>(Nl id a).orElse fun _=>Nl id b
 | .block _ c=>Nl id c
 | .loop c=>Nl id c
 | _=>none
def Wk (f:Func):Array Oper:=(f.body.bind (Nl 16)).getD #[]
def oF0:AN:=.nil
theorem w0:Ae oF0=true:=rfl
theorem c0:Ag (Wk Tryz.f187) oF0 0 #[true,true,true,true,true,true,true,true,true,true,true,true,true,true,true,true]=true:=by kernel_rfl
def oF1:AN:=.cons 15 false oF0
theorem w1:Ae oF1=true:=Km w0 rfl
theorem c1:Ag (Wk Tryz.f187) oF1 1 #[true,true,true,true,true,true,true,true,true,true,true,true,true,true,true,false]=true:=aEG (by kernel_rfl) c0
def oF2:AN:=.cons 14 true oF1
theorem w2:Ae oF2=true:=Km w1 rfl
theorem c2:Ag (Wk Tryz.f187) oF2 2 #[true,true,true,true,true,true,true,true,true,true,true,true,true,true,false,false]=true:=aEf (by kernel_rfl) c1
def oF3:AN:=.cons 13 false oF2
theorem w3:Ae oF3=true:=Km w2 rfl
theorem c3:Ag (Wk Tryz.f187) oF3 3 #[true,true,true,true,true,true,true,true,true,true,true,true,true,false,false,false]=true:=aEG (by kernel_rfl) c2
def oF4:AN:=.cons 12 true oF3
theorem w4:Ae oF4=true:=Km w3 rfl
theorem c4:Ag (Wk Tryz.f187) oF4 4 #[true,true,true,true,true,true,true,true,true,true,true,true,false,false,false,false]=true:=aEf (by kernel_rfl) c3
def oF5:AN:=.cons 11 false oF4
theorem c5:Ag (Wk Tryz.f187) oF5 5 #[true,true,true,true,true,true,true,true,true,true,true,false,false,false,false,false]=true:=aEG (by kernel_rfl) c4
def oF6:AN:=.cons 10 true oF5
theorem c6:Ag (Wk Tryz.f187) oF6 6 #[true,true,true,true,true,true,true,true,true,true,false,false,false,false,false,false]=true:=aEf (by kernel_rfl) c5
def oF7:AN:=.cons 9 false oF6
theorem c7:Ag (Wk Tryz.f187) oF7 7 #[true,true,true,true,true,true,true,true,true,false,false,false,false,false,false,false]=true:=aEG (by kernel_rfl) c6
def oF8:AN:=.cons 7 true oF2
theorem c8:Ag (Wk Tryz.f187) oF8 3 #[true,true,true,true,true,true,true,false,true,true,true,true,true,true,false,false]=true:=aEf (by kernel_rfl) c2
def Jf (k:Int):Int:=if k=2 then 10006 else if k=3 then 1 else 0
def aAB (t:Tm):Bool:=(if t.kind=6 then vTy t.ty else if t.kind=9 then vTy t.ty else !vTy t.ty && zB t.ty) && ((if t.kind=9 then vTy t.res else !vTy t.res && zB t.res) && (rgB 0 (Jf t.kind) t.n && nmF t.kind t.name t.other))
set_option maxHeartbeats 8000000 in
theorem LW (t:Tm) (hz:szL (tmC t)≤1000000000):Con prog 189 [.ag (tmC t)] [.one (.bool (aAB t))]:=by
 have hV:=EQ t.ty (Cq hz).1
 have hW:=EQ t.res (Cq hz).2.1
 have hZ:=JF t.ty
 have hZ2:=JF t.res
 have hL:Con prog 68 [.one (.int t.n),.one (.int 0),.one (.int (Jf t.kind))] [.one (.bool (rgB 0 (Jf t.kind) t.n))]:=BD t.n 0 (Jf t.kind)
 have hN:=MG t hz
 unfold aAB
 generalize vTy t.ty=v1 at *
 generalize vTy t.res=v2 at *
 generalize zB t.ty=z1 at *
 generalize zB t.res=z2 at *
 generalize rgB 0 (Jf t.kind) t.n=c at *
 generalize nmF t.kind t.name t.other=m at *
 obtain ⟨k,s,o,n,⟨tk,ta⟩,⟨rk,ra⟩,xs⟩:=t
 simp only [Tm.kind,Tm.n,Tm.ty,Tm.res,tmC,tyC] at hV hW hZ hZ2 hL hN ⊢
 clear hz
 rcases GX k with rfl | rfl | rfl | rfl | rfl | rfl | rfl | rfl | rfl | rfl | rfl | rfl | rfl | ⟨g1,g2,g3,g4,g5,g6,g7,g8,g9,g10,g11,g12,g13⟩
 case inr.inr.inr.inr.inr.inl =>
  simp only [Jf,if_true,if_false,Int.reduceEq] at hL ⊢
  refine Af func189 rfl rfl (by simp [ntmps189]) ?_
  refine byP ntmps189 ?_
  refine As hV rfl (Am ?_) ?_ (Aa 200 _ _ _ ?_)
  ·exact byQ tI
  ·simp only [okR]
  cases v1
  case false=>simp only [push_cast,↓reduceIte,Nat.reduceLT,Nat.reduceEqDiff,reduceCtorEq,results189]
  refine byQ ?_
  refine Ac (oT [0,1,2,3,4] (.cons 5 false (oT [6,7,8,9,10,11,12,13] (.cons 14 false (oT [15,16,17] .nil))))) (by kernel_rfl) DA (by kernel_rfl) (Aa 200 _ _ _ ?_)
  refine byQ ?_
  refine AR hW rfl (Am ?_) ?_ (Aa 200 _ _ _ ?_)
  ·exact byQ tI
  ·simp only [okR]
  cases v2
  case true=>simp only [push_cast,↓reduceIte,Nat.reduceLT,Nat.reduceEqDiff,reduceCtorEq,results189]
  refine byQ ?_
  refine AR hZ2 rfl (Am ?_) ?_ (Aa 200 _ _ _ ?_)
  ·exact byQ tI
  ·simp only [okR]
  cases z2
  case false=>simp only [push_cast,↓reduceIte,Nat.reduceLT,Nat.reduceEqDiff,reduceCtorEq,results189]
  refine byQ ?_
  refine As hL rfl (Am ?_) ?_ (Aa 200 _ _ _ ?_)
  ·exact byQ tI
  ·simp only [okR]
  cases c
  case false=>simp only [push_cast,↓reduceIte,Nat.reduceLT,Nat.reduceEqDiff,reduceCtorEq,results189]
  refine byQ ?_
  refine Kc hN ?_
  exact rG results189 tI
 case inr.inr.inr.inr.inr.inr.inr.inr.inl =>
  simp only [Jf,if_true,if_false,Int.reduceEq] at hL ⊢
  refine Af func189 rfl rfl (by simp [ntmps189]) ?_
  refine byP ntmps189 ?_
  refine As hV rfl (Am ?_) ?_ (Aa 200 _ _ _ ?_)
  ·exact byQ tI
  ·simp only [okR]
  cases v1
  case false=>simp only [push_cast,↓reduceIte,Nat.reduceLT,Nat.reduceEqDiff,reduceCtorEq,results189]
  refine byQ ?_
  refine Ac (oT [0,1,2,3,4] (.cons 5 false (oT [6,7,8,9,10,11,12,13] (.cons 14 false (oT [15,16,17] .nil))))) (by kernel_rfl) DA (by kernel_rfl) (Aa 200 _ _ _ ?_)
  refine byQ ?_
  refine AR hW rfl (Am ?_) ?_ (Aa 200 _ _ _ ?_)
  ·exact byQ tI
  ·simp only [okR]
  cases v2
  case false=>simp only [push_cast,↓reduceIte,Nat.reduceLT,Nat.reduceEqDiff,reduceCtorEq,results189]
  refine byQ ?_
  refine As hL rfl (Am ?_) ?_ (Aa 200 _ _ _ ?_)
  ·exact byQ tI
  ·simp only [okR]
  cases c
  case false=>simp only [push_cast,↓reduceIte,Nat.reduceLT,Nat.reduceEqDiff,reduceCtorEq,results189]
  refine byQ ?_
  refine Kc hN ?_
  exact rG results189 tI
 case inr.inr.inr.inr.inr.inr.inr.inr.inr.inr.inr.inr.inr =>
  simp only [Jf, *,if_false] at hL ⊢
  refine Af func189 rfl rfl (by simp [ntmps189]) ?_
  simp only [push_cast,↓reduceIte,Nat.reduceLT,Nat.reduceAdd,Nat.reduceLeDiff,Nat.reduceEqDiff, *,ntmps189]
  refine As hV rfl (Am ?_) ?_ (Aa 200 _ _ _ ?_)
  ·exact byQ tI
  ·simp only [okR]
  cases v1
  case true=>simp only [push_cast,↓reduceIte,Nat.reduceLT,Nat.reduceEqDiff,reduceCtorEq, *,results189]
  simp only [push_cast,↓reduceIte,Nat.reduceLT,Nat.reduceAdd,Nat.reduceLeDiff,Nat.reduceEqDiff, *]
  refine As hZ rfl (Am ?_) ?_ (Aa 200 _ _ _ ?_)
  ·exact byQ tI
  ·simp only [okR]
  cases z1
  case false=>simp only [push_cast,↓reduceIte,Nat.reduceLT,Nat.reduceEqDiff,reduceCtorEq, *,results189]
  simp only [push_cast,↓reduceIte,Nat.reduceLT,Nat.reduceEqDiff, *]
  refine Ac (oT [0,1,2,3,4] (.cons 5 false (oT [6,7,8,9,10,11,12,13] (.cons 14 false (oT [15,16,17] .nil))))) (by kernel_rfl) DA (by kernel_rfl) (Aa 200 _ _ _ ?_)
  simp only [push_cast,↓reduceIte,Nat.reduceLT,Nat.reduceAdd,Nat.reduceLeDiff,Nat.reduceEqDiff, *]
  refine AR hW rfl (Am ?_) ?_ (Aa 200 _ _ _ ?_)
  ·exact byQ tI
  ·simp only [okR]
  cases v2
  case true=>simp only [push_cast,↓reduceIte,Nat.reduceLT,Nat.reduceEqDiff,reduceCtorEq, *,results189]
  simp only [push_cast,↓reduceIte,Nat.reduceLT,Nat.reduceAdd,Nat.reduceLeDiff,Nat.reduceEqDiff, *]
  refine AR hZ2 rfl (Am ?_) ?_ (Aa 200 _ _ _ ?_)
  ·exact byQ tI
  ·simp only [okR]
  cases z2
  case false=>simp only [push_cast,↓reduceIte,Nat.reduceLT,Nat.reduceEqDiff,reduceCtorEq, *,results189]
  simp only [push_cast,↓reduceIte,Nat.reduceLT,Nat.reduceEqDiff, *]
  refine As hL rfl (Am ?_) ?_ (Aa 200 _ _ _ ?_)
  ·exact byQ tI
  ·simp only [okR]
  cases c
  case false=>simp only [push_cast,↓reduceIte,Nat.reduceLT,Nat.reduceEqDiff,reduceCtorEq, *,results189]
  simp only [push_cast,↓reduceIte,Nat.reduceLT,Nat.reduceAdd,Nat.reduceEqDiff, *]
  refine As hN rfl (Am ?_) ?_ (Aa 200 _ _ _ ?_)
  ·exact byQ tI
  ·simp only [okR]
  simp only [push_cast,↓reduceIte,Nat.reduceLT,Nat.reduceEqDiff,reduceCtorEq, *,results189]
 all_goals
  simp only [Jf,if_true,if_false,Int.reduceEq] at hL ⊢
  refine Af func189 rfl rfl (by simp [ntmps189]) ?_
  refine byP ntmps189 ?_
  refine As hV rfl (Am ?_) ?_ (Aa 200 _ _ _ ?_)
  ·exact byQ tI
  ·simp only [okR]
  cases v1
  case true=>simp only [push_cast,↓reduceIte,Nat.reduceLT,Nat.reduceEqDiff,reduceCtorEq,results189]
  refine byQ ?_
  refine As hZ rfl (Am ?_) ?_ (Aa 200 _ _ _ ?_)
  ·exact byQ tI
  ·simp only [okR]
  cases z1
  case false=>simp only [push_cast,↓reduceIte,Nat.reduceLT,Nat.reduceEqDiff,reduceCtorEq,results189]
  refine byQ ?_
  refine Ac (oT [0,1,2,3,4] (.cons 5 false (oT [6,7,8,9,10,11,12,13] (.cons 14 false (oT [15,16,17] .nil))))) (by kernel_rfl) DA (by kernel_rfl) (Aa 200 _ _ _ ?_)
  refine byQ ?_
  refine AR hW rfl (Am ?_) ?_ (Aa 200 _ _ _ ?_)
  ·exact byQ tI
  ·simp only [okR]
  cases v2
  case true=>simp only [push_cast,↓reduceIte,Nat.reduceLT,Nat.reduceEqDiff,reduceCtorEq,results189]
  refine byQ ?_
  refine AR hZ2 rfl (Am ?_) ?_ (Aa 200 _ _ _ ?_)
  ·exact byQ tI
  ·simp only [okR]
  cases z2
  case false=>simp only [push_cast,↓reduceIte,Nat.reduceLT,Nat.reduceEqDiff,reduceCtorEq,results189]
  refine byQ ?_
  refine As hL rfl (Am ?_) ?_ (Aa 200 _ _ _ ?_)
  ·exact byQ tI
  ·simp only [okR]
  cases c
  case false=>simp only [push_cast,↓reduceIte,Nat.reduceLT,Nat.reduceEqDiff,reduceCtorEq,results189]
  refine byQ ?_
  refine Kc hN ?_
  exact rG results189 tI
theorem aJf (t:Ty):(!vTy t && zB t)=zB t:=by
 obtain ⟨k,xs⟩:=t
 by_cases h:k=0∧xs=[]
 ·obtain ⟨rfl,rfl⟩:=h
  have h1:vTy (.mk 0 [])=false:=by simp [vTy,BE,Dc,shB]
  rw [h1];rfl
 ·have h2:zB (.mk k xs)=false:=by
   show (decide (k=0) && decide ((xs.length:Int)=0))=false
   by_cases h3:k=0
   ·have:xs≠[]:=fun e=>h ⟨h3,e⟩
    have h4:xs.length≠0:=fun e=>this (List.length_eq_zero_iff.mp e)
    rw [decide_eq_false (show ¬ (xs.length:Int)=0 by omega),Bool.and_false]
   ·rw [decide_eq_false h3,Bool.false_and]
  rw [h2,Bool.and_false]
mutual
theorem HV:∀ t:Ty,Da t t=true
 | .mk k xs=>by rw [Da,Jh xs,decide_eq_true rfl];rfl
theorem Jh:∀ xs:List Ty,Fn xs xs=true
 | []=>by rw [Fn]
 | x :: xs=>by rw [Fn,HV x,Jh xs];rfl
end
theorem Tl (t:Ty):Da t (.mk 0 [])=zB t:=by
 obtain ⟨k,xs⟩:=t
 show Da (.mk k xs) (.mk 0 [])=(decide (k=0) && decide ((xs.length:Int)=0))
 rw [Da]
 cases xs with
 | nil=>rw [Fn];rfl
 | cons x xs =>
  rw [Fn,decide_eq_false (show ¬ (((x :: xs).length:Nat):Int)=0 by rw [List.length_cons];omega)]
theorem ZG (n:Int):decide (n=0)=rgB 0 0 n:=by
 unfold rgB
 rcases (by omega:n<0∨n=0∨0<n) with h | h | h
 ·rw [decide_eq_false (by omega),decide_eq_false (show ¬ 0≤n by omega)];rfl
 ·subst h;rfl
 ·rw [decide_eq_false (by omega),decide_eq_false (show ¬ n≤0 by omega),Bool.and_false]
theorem Tn (k:Int) (h:(k=1)=False) (h2:(k=2)=False) (h3:(k=3)=False) (h4:(k=4)=False) (h5:(k=5)=False) (h6:(k=6)=False) (h7:(k=7)=False) (h8:(k=8)=False) (h9:(k=9)=False) (h10:(k=10)=False) (h11:(k=11)=False) (h12:(k=12)=False) (h13:(k=13)=False):rgB 1 13 k=false:=by
 replace h:=of_eq_false h;replace h2:=of_eq_false h2;replace h3:=of_eq_false h3;replace h4:=of_eq_false h4;replace h5:=of_eq_false h5;replace h6:=of_eq_false h6;replace h7:=of_eq_false h7;replace h8:=of_eq_false h8;replace h9:=of_eq_false h9;replace h10:=of_eq_false h10;replace h11:=of_eq_false h11;replace h12:=of_eq_false h12;replace h13:=of_eq_false h13
 unfold rgB
 by_cases a:1≤k
 ·rw [decide_eq_false (show ¬ k≤13 by omega),Bool.and_false]
 ·rw [decide_eq_false a,Bool.false_and]
theorem aJq:rgB 1 13 5=true:=rfl
theorem aJp:rgB 1 13 7=true:=rfl
theorem aHw:rgB 1 13 10=true:=rfl
theorem aF3:rgB 1 13 11=true:=rfl
theorem aFW:rgB 1 13 12=true:=rfl
theorem aHm:rgB 1 13 13=true:=rfl
theorem YP (t:Tm):EO t=(aAB t && decide ((t.args.length:Int)=arF (-1) t.kind t.name)):=by
 obtain ⟨k,s,o,n,ty,r,xs⟩:=t
 unfold EO aAB
 simp only [wN,wO,wI,wT,wR,WP,nmF,Tm.kind,Tm.name,Tm.other,Tm.n,Tm.ty,Tm.res,Tm.args]
 rcases GX k with rfl | rfl | rfl | rfl | rfl | rfl | rfl | rfl | rfl | rfl | rfl | rfl | rfl | ⟨g1,g2,g3,g4,g5,g6,g7,g8,g9,g10,g11,g12,g13⟩
 case inr.inr.inr.inr.inr.inr.inr.inr.inr.inr.inr.inr.inr =>
  have e:=Tn k g1 g2 g3 g4 g5 g6 g7 g8 g9 g10 g11 g12 g13
  have e2:decide ((xs.length:Int) = -1)=false:=decide_eq_false (by omega)
  simp only [arF,g1,g2,g3,g4,g5,g6,g7,g8,g9,g10,g11,g12,g13,if_false,e,e2,Bool.false_and,Bool.and_false]
 all_goals simp only [arF,Jf,if_true,if_false,Int.reduceEq,HV,Tl,aJf,ZG,decide_true,aJq,aJp,aHw,aF3,aFW,aHm,Bool.true_and,Bool.and_true]
 all_goals simp only [Bool.and_comm,Bool.and_left_comm,Bool.and_assoc]
 all_goals congr
theorem IE (p:Tm→Bool) (xs:List Tm) (k:Nat) (h:k<xs.length):BV p (xs.drop k)=(Bn p xs[k]! && BV p (xs.drop (k+1))):=by
 rw [List.drop_eq_getElem_cons h,BV,getElem!_pos xs k h]
theorem FD:∀ t:Tm,szL (tmC t)≤1000000000→Con prog 119 [.ag (tmC t)] [.one (.bool (Bn EO t))]:=by
 refine Tm.ind fun t ih hz => ?_
 have hT:Bn EO t=(BV EO t.args && (aAB t && decide ((t.args.length:Int)=arF (-1) t.kind t.name))):=by rw [Cv,YP,Bool.and_comm]
 rw [hT]
 have hF:=LW t hz
 have hA:=DD t
 have hz8:=(Cq hz).2.2
 generalize aAB t=c at *
 generalize arF (-1) t.kind t.name=ar at *
 clear hT
 refine Af func119 rfl rfl (by simp [ntmps119]) ?_
 refine byP ntmps119 ?_
 refine Al (fun k:Nat=>k≤t.args.length∧BV EO (t.args.drop k)=BV EO t.args) (fun k=>⟨28,[(3,.i k),(1,.bx 0 0)],[(0,[.i t.kind,.s t.name,.s t.other,.i t.n,.i t.ty.kind,.br (.rows 2 t.ty.args.length (Ai t.ty.args)),.i t.res.kind,.br (.rows 2 t.res.args.length (Ai t.res.args)),.br (.rows 9 t.args.length (Av t.args))])],[],1,[]⟩) (fun k=>t.args.length-k) 0 id ⟨Nat.zero_le _,rfl⟩ ?_ ?_
 ·exact byQ tI
 ·rintro k ⟨hk,hf⟩
  refine Aa 200 _ _ _ ?_
  by_cases hlt:k<t.args.length
  ·have hi:(k:Int)<(t.args.length:Int):=by omega
   have hR:=Aj t.args k hlt
   have hm:=Ab hlt
   have hs:=Bv t.args k hlt
   have hrec:=ih _ hm (by omega)
   rw [IE EO t.args k hlt] at hf
   obtain ⟨b,hb⟩:∃ b,b=Bn EO t.args[k]! := ⟨_,rfl⟩
   rw [← hb] at hrec hf
   refine byP (fc hi hR) ?_
   refine As hrec rfl (Am ?_) ?_ (Aa 200 _ _ _ ?_)
   ·exact byQ tI
   ·simp only [okR]
   cases b
   ·rw [Bool.false_and] at hf
    simp only [push_cast,↓reduceIte,Nat.reduceLT,reduceCtorEq,← hf,results119]
   ·refine byQ ?_
    refine ⟨by unfold inI;omega,k+1,id,⟨by omega,by simpa using hf⟩,by omega, ?_⟩
    exact byQ tI
  ·have hi:¬ (k:Int)<(t.args.length:Int):=by omega
   rw [List.drop_of_length_le (by omega),BV] at hf
   rw [← hf,Bool.true_and]
   refine byP hi ?_
   refine rQ ?_
   refine Ac (.cons 0 true (.cons 1 false (oT [2,3,4,5,6] (.cons 7 false (oT [8,9,10] .nil))))) (by kernel_rfl) DA (by kernel_rfl) (Aa 200 _ _ _ ?_)
   refine byQ ?_
   refine AR hF rfl (Am ?_) ?_ (Aa 200 _ _ _ ?_)
   ·exact byQ tI
   ·simp only [okR]
   cases c
   case false=>simp only [push_cast,↓reduceIte,Nat.reduceLT,Nat.reduceEqDiff,reduceCtorEq,results119]
   refine byQ ?_
   refine AR hA rfl (Am ?_) ?_ (Aa 200 _ _ _ ?_)
   ·exact byQ tI
   ·simp only [okR]
   rcases pc ((t.args.length:Int)=ar) with h | h
   all_goals simp only [push_cast,↓reduceIte,Nat.reduceLT,Nat.reduceEqDiff,reduceCtorEq,h,results119]
end Go.Proofs.YtaidalilfmjfgaaGreat
