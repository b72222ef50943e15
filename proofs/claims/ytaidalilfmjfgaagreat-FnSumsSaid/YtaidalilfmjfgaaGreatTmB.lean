import Derived.Test.YtaidalilfmjfgaaGreatTmW
import Derived.Test.YtaidalilfmjfgaaGreatTmX
import Derived.Test.YtaidalilfmjfgaaGreatTmY
import Derived.Test.YtaidalilfmjfgaaGreatBy
namespace Go.Proofs.YtaidalilfmjfgaaGreat
open Go.RowKit
set_option linter.unusedVariables false
set_option linter.unusedSimpArgs false
set_option maxRecDepth 20000
def mostI (k:Int):Int:=if k=2 then 10006 else if k=3 then 1 else 0
def fldB (t:Tm):Bool:=(if t.kind=6 then vTy t.ty else if t.kind=9 then vTy t.ty else !vTy t.ty && zB t.ty) && ((if t.kind=9 then vTy t.res else !vTy t.res && zB t.res) && (rgB 0 (mostI t.kind) t.n && nmF t.kind t.name t.other))
set_option maxHeartbeats 8000000 in
theorem con_l5Fields (t:Tm) (hz:szL (tmC t)≤1000000000):Con Tryz.prog 189 [.ag (tmC t)] [.one (.bool (fldB t))]:=by
 have hV:=con_ValidTyS t.ty (sz_partsE hz).1
 have hW:=con_ValidTyS t.res (sz_partsE hz).2.1
 have hZ:=con_l5Zero t.ty
 have hZ2:=con_l5Zero t.res
 have hL:Con Tryz.prog 68 [.one (.int t.n),.one (.int 0),.one (.int (mostI t.kind))] [.one (.bool (rgB 0 (mostI t.kind) t.n))]:=con_l1In t.n 0 (mostI t.kind)
 have hN:=con_l5Names t hz
 unfold fldB
 generalize vTy t.ty=v1 at *
 generalize vTy t.res=v2 at *
 generalize zB t.ty=z1 at *
 generalize zB t.res=z2 at *
 generalize rgB 0 (mostI t.kind) t.n=c at *
 generalize nmF t.kind t.name t.other=m at *
 obtain ⟨k,s,o,n,⟨tk,ta⟩,⟨rk,ra⟩,xs⟩:=t
 simp only [Tm.kind,Tm.n,Tm.ty,Tm.res,tmC,tyC] at hV hW hZ hZ2 hL hN ⊢
 clear hz
 rcases k_cases k with rfl | rfl | rfl | rfl | rfl | rfl | rfl | rfl | rfl | rfl | rfl | rfl | rfl | ⟨g1,g2,g3,g4,g5,g6,g7,g8,g9,g10,g11,g12,g13⟩
 case inr.inr.inr.inr.inr.inl =>
  simp only [mostI,if_true,if_false,Int.reduceEq] at hL ⊢
  refine con_run Tryz.func189 rfl rfl (by simp [Tryz.ntmps189]) ?_
  refine byP Tryz.ntmps189 ?_
  refine sw_call hV rfl (aAs_ok ?_) ?_ (sw_run 200 _ _ _ ?_)
  ·exact byQ True.intro
  ·simp only [okR]
  cases v1
  case false=>simp only [push_cast,↓reduceIte,Nat.reduceLT,Nat.reduceEqDiff,reduceCtorEq,Tryz.results189]
  refine byQ ?_
  refine sw_drawn (.cons 0 true (.cons 1 true (.cons 2 true (.cons 3 true (.cons 4 true (.cons 5 false (.cons 6 true (.cons 7 true (.cons 8 true (.cons 9 true (.cons 10 true (.cons 11 true (.cons 12 true (.cons 13 true (.cons 14 false (.cons 15 true (.cons 16 true (.cons 17 true (.nil))))))))))))))))))) (by kernel_rfl) fQ_panic (by kernel_rfl) (sw_run 200 _ _ _ ?_)
  refine byQ ?_
  refine sw_callD hW rfl (aAs_ok ?_) ?_ (sw_run 200 _ _ _ ?_)
  ·exact byQ True.intro
  ·simp only [okR]
  cases v2
  case true=>simp only [push_cast,↓reduceIte,Nat.reduceLT,Nat.reduceEqDiff,reduceCtorEq,Tryz.results189]
  refine byQ ?_
  refine sw_callD hZ2 rfl (aAs_ok ?_) ?_ (sw_run 200 _ _ _ ?_)
  ·exact byQ True.intro
  ·simp only [okR]
  cases z2
  case false=>simp only [push_cast,↓reduceIte,Nat.reduceLT,Nat.reduceEqDiff,reduceCtorEq,Tryz.results189]
  refine byQ ?_
  refine sw_call hL rfl (aAs_ok ?_) ?_ (sw_run 200 _ _ _ ?_)
  ·exact byQ True.intro
  ·simp only [okR]
  cases c
  case false=>simp only [push_cast,↓reduceIte,Nat.reduceLT,Nat.reduceEqDiff,reduceCtorEq,Tryz.results189]
  refine byQ ?_
  refine sw_call hN rfl (aAs_ok ?_) ?_ (sw_run 200 _ _ _ ?_)
  ·exact byQ True.intro
  ·simp only [okR]
  exact byP Tryz.results189 True.intro
 case inr.inr.inr.inr.inr.inr.inr.inr.inl =>
  simp only [mostI,if_true,if_false,Int.reduceEq] at hL ⊢
  refine con_run Tryz.func189 rfl rfl (by simp [Tryz.ntmps189]) ?_
  refine byP Tryz.ntmps189 ?_
  refine sw_call hV rfl (aAs_ok ?_) ?_ (sw_run 200 _ _ _ ?_)
  ·exact byQ True.intro
  ·simp only [okR]
  cases v1
  case false=>simp only [push_cast,↓reduceIte,Nat.reduceLT,Nat.reduceEqDiff,reduceCtorEq,Tryz.results189]
  refine byQ ?_
  refine sw_drawn (.cons 0 true (.cons 1 true (.cons 2 true (.cons 3 true (.cons 4 true (.cons 5 false (.cons 6 true (.cons 7 true (.cons 8 true (.cons 9 true (.cons 10 true (.cons 11 true (.cons 12 true (.cons 13 true (.cons 14 false (.cons 15 true (.cons 16 true (.cons 17 true (.nil))))))))))))))))))) (by kernel_rfl) fQ_panic (by kernel_rfl) (sw_run 200 _ _ _ ?_)
  refine byQ ?_
  refine sw_callD hW rfl (aAs_ok ?_) ?_ (sw_run 200 _ _ _ ?_)
  ·exact byQ True.intro
  ·simp only [okR]
  cases v2
  case false=>simp only [push_cast,↓reduceIte,Nat.reduceLT,Nat.reduceEqDiff,reduceCtorEq,Tryz.results189]
  refine byQ ?_
  refine sw_call hL rfl (aAs_ok ?_) ?_ (sw_run 200 _ _ _ ?_)
  ·exact byQ True.intro
  ·simp only [okR]
  cases c
  case false=>simp only [push_cast,↓reduceIte,Nat.reduceLT,Nat.reduceEqDiff,reduceCtorEq,Tryz.results189]
  refine byQ ?_
  refine sw_call hN rfl (aAs_ok ?_) ?_ (sw_run 200 _ _ _ ?_)
  ·exact byQ True.intro
  ·simp only [okR]
  exact byP Tryz.results189 True.intro
 case inr.inr.inr.inr.inr.inr.inr.inr.inr.inr.inr.inr.inr =>
  simp only [mostI, *,if_false] at hL ⊢
  refine con_run Tryz.func189 rfl rfl (by simp [Tryz.ntmps189]) ?_
  simp only [push_cast,↓reduceIte,Nat.reduceLT,Nat.reduceAdd,Nat.reduceLeDiff,Nat.reduceEqDiff, *,Tryz.ntmps189]
  refine sw_call hV rfl (aAs_ok ?_) ?_ (sw_run 200 _ _ _ ?_)
  ·exact byQ True.intro
  ·simp only [okR]
  cases v1
  case true=>simp only [push_cast,↓reduceIte,Nat.reduceLT,Nat.reduceEqDiff,reduceCtorEq, *,Tryz.results189]
  simp only [push_cast,↓reduceIte,Nat.reduceLT,Nat.reduceAdd,Nat.reduceLeDiff,Nat.reduceEqDiff, *]
  refine sw_call hZ rfl (aAs_ok ?_) ?_ (sw_run 200 _ _ _ ?_)
  ·exact byQ True.intro
  ·simp only [okR]
  cases z1
  case false=>simp only [push_cast,↓reduceIte,Nat.reduceLT,Nat.reduceEqDiff,reduceCtorEq, *,Tryz.results189]
  simp only [push_cast,↓reduceIte,Nat.reduceLT,Nat.reduceEqDiff, *]
  refine sw_drawn (.cons 0 true (.cons 1 true (.cons 2 true (.cons 3 true (.cons 4 true (.cons 5 false (.cons 6 true (.cons 7 true (.cons 8 true (.cons 9 true (.cons 10 true (.cons 11 true (.cons 12 true (.cons 13 true (.cons 14 false (.cons 15 true (.cons 16 true (.cons 17 true (.nil))))))))))))))))))) (by kernel_rfl) fQ_panic (by kernel_rfl) (sw_run 200 _ _ _ ?_)
  simp only [push_cast,↓reduceIte,Nat.reduceLT,Nat.reduceAdd,Nat.reduceLeDiff,Nat.reduceEqDiff, *]
  refine sw_callD hW rfl (aAs_ok ?_) ?_ (sw_run 200 _ _ _ ?_)
  ·exact byQ True.intro
  ·simp only [okR]
  cases v2
  case true=>simp only [push_cast,↓reduceIte,Nat.reduceLT,Nat.reduceEqDiff,reduceCtorEq, *,Tryz.results189]
  simp only [push_cast,↓reduceIte,Nat.reduceLT,Nat.reduceAdd,Nat.reduceLeDiff,Nat.reduceEqDiff, *]
  refine sw_callD hZ2 rfl (aAs_ok ?_) ?_ (sw_run 200 _ _ _ ?_)
  ·exact byQ True.intro
  ·simp only [okR]
  cases z2
  case false=>simp only [push_cast,↓reduceIte,Nat.reduceLT,Nat.reduceEqDiff,reduceCtorEq, *,Tryz.results189]
  simp only [push_cast,↓reduceIte,Nat.reduceLT,Nat.reduceEqDiff, *]
  refine sw_call hL rfl (aAs_ok ?_) ?_ (sw_run 200 _ _ _ ?_)
  ·exact byQ True.intro
  ·simp only [okR]
  cases c
  case false=>simp only [push_cast,↓reduceIte,Nat.reduceLT,Nat.reduceEqDiff,reduceCtorEq, *,Tryz.results189]
  simp only [push_cast,↓reduceIte,Nat.reduceLT,Nat.reduceAdd,Nat.reduceEqDiff, *]
  refine sw_call hN rfl (aAs_ok ?_) ?_ (sw_run 200 _ _ _ ?_)
  ·exact byQ True.intro
  ·simp only [okR]
  simp only [push_cast,↓reduceIte,Nat.reduceLT,Nat.reduceEqDiff,reduceCtorEq, *,Tryz.results189]
 all_goals
  simp only [mostI,if_true,if_false,Int.reduceEq] at hL ⊢
  refine con_run Tryz.func189 rfl rfl (by simp [Tryz.ntmps189]) ?_
  refine byP Tryz.ntmps189 ?_
  refine sw_call hV rfl (aAs_ok ?_) ?_ (sw_run 200 _ _ _ ?_)
  ·exact byQ True.intro
  ·simp only [okR]
  cases v1
  case true=>simp only [push_cast,↓reduceIte,Nat.reduceLT,Nat.reduceEqDiff,reduceCtorEq,Tryz.results189]
  refine byQ ?_
  refine sw_call hZ rfl (aAs_ok ?_) ?_ (sw_run 200 _ _ _ ?_)
  ·exact byQ True.intro
  ·simp only [okR]
  cases z1
  case false=>simp only [push_cast,↓reduceIte,Nat.reduceLT,Nat.reduceEqDiff,reduceCtorEq,Tryz.results189]
  refine byQ ?_
  refine sw_drawn (.cons 0 true (.cons 1 true (.cons 2 true (.cons 3 true (.cons 4 true (.cons 5 false (.cons 6 true (.cons 7 true (.cons 8 true (.cons 9 true (.cons 10 true (.cons 11 true (.cons 12 true (.cons 13 true (.cons 14 false (.cons 15 true (.cons 16 true (.cons 17 true (.nil))))))))))))))))))) (by kernel_rfl) fQ_panic (by kernel_rfl) (sw_run 200 _ _ _ ?_)
  refine byQ ?_
  refine sw_callD hW rfl (aAs_ok ?_) ?_ (sw_run 200 _ _ _ ?_)
  ·exact byQ True.intro
  ·simp only [okR]
  cases v2
  case true=>simp only [push_cast,↓reduceIte,Nat.reduceLT,Nat.reduceEqDiff,reduceCtorEq,Tryz.results189]
  refine byQ ?_
  refine sw_callD hZ2 rfl (aAs_ok ?_) ?_ (sw_run 200 _ _ _ ?_)
  ·exact byQ True.intro
  ·simp only [okR]
  cases z2
  case false=>simp only [push_cast,↓reduceIte,Nat.reduceLT,Nat.reduceEqDiff,reduceCtorEq,Tryz.results189]
  refine byQ ?_
  refine sw_call hL rfl (aAs_ok ?_) ?_ (sw_run 200 _ _ _ ?_)
  ·exact byQ True.intro
  ·simp only [okR]
  cases c
  case false=>simp only [push_cast,↓reduceIte,Nat.reduceLT,Nat.reduceEqDiff,reduceCtorEq,Tryz.results189]
  refine byQ ?_
  refine sw_call hN rfl (aAs_ok ?_) ?_ (sw_run 200 _ _ _ ?_)
  ·exact byQ True.intro
  ·simp only [okR]
  exact byP Tryz.results189 True.intro
theorem zB_v (t:Ty):(!vTy t && zB t)=zB t:=by
 obtain ⟨k,xs⟩:=t
 by_cases h:k=0∧xs=[]
 ·obtain ⟨rfl,rfl⟩:=h
  have h1:vTy (.mk 0 [])=false:=by simp [vTy,formT,formTs,shB]
  rw [h1];rfl
 ·have h2:zB (.mk k xs)=false:=by
   show (decide (k=0) && decide ((xs.length:Int)=0))=false
   by_cases h3:k=0
   ·have:xs≠[]:=fun e=>h ⟨h3,e⟩
    have h4:xs.length≠0:=fun e=>this (List.length_eq_zero_iff.mp e)
    rw [decide_eq_false (show ¬ (xs.length:Int)=0 by omega),Bool.and_false]
   ·rw [decide_eq_false h3,Bool.false_and]
  rw [h2,Bool.and_false]
mutual
theorem eqTy_refl:∀ t:Ty,eqTy t t=true
 | .mk k xs=>by rw [eqTy,eqTys_refl xs,decide_eq_true rfl];rfl
theorem eqTys_refl:∀ xs:List Ty,eqTys xs xs=true
 | []=>by rw [eqTys]
 | x :: xs=>by rw [eqTys,eqTy_refl x,eqTys_refl xs];rfl
end
theorem eqTy_zero (t : Ty) : eqTy t (.mk 0 []) = zB t := by
  obtain ⟨k, xs⟩ := t
  show eqTy (.mk k xs) (.mk 0 []) = (decide (k = 0) && decide ((xs.length : Int) = 0))
  rw [eqTy]
  cases xs with
  | nil => rw [eqTys]; rfl
  | cons x xs =>
    rw [eqTys, decide_eq_false (show ¬ (((x :: xs).length : Nat) : Int) = 0 by rw [List.length_cons]; omega)]
theorem rg_zero (n:Int):decide (n=0)=rgB 0 0 n:=by
 unfold rgB
 rcases (by omega:n<0∨n=0∨0<n) with h | h | h
 ·rw [decide_eq_false (by omega),decide_eq_false (show ¬ 0≤n by omega)];rfl
 ·subst h;rfl
 ·rw [decide_eq_false (by omega),decide_eq_false (show ¬ n≤0 by omega),Bool.and_false]
theorem rg_out (k:Int) (h:(k=1)=False) (h2:(k=2)=False) (h3:(k=3)=False) (h4:(k=4)=False) (h5:(k=5)=False) (h6:(k=6)=False) (h7:(k=7)=False) (h8:(k=8)=False) (h9:(k=9)=False) (h10:(k=10)=False) (h11:(k=11)=False) (h12:(k=12)=False) (h13:(k=13)=False):rgB 1 13 k=false:=by
 replace h:=of_eq_false h;replace h2:=of_eq_false h2;replace h3:=of_eq_false h3;replace h4:=of_eq_false h4;replace h5:=of_eq_false h5;replace h6:=of_eq_false h6;replace h7:=of_eq_false h7;replace h8:=of_eq_false h8;replace h9:=of_eq_false h9;replace h10:=of_eq_false h10;replace h11:=of_eq_false h11;replace h12:=of_eq_false h12;replace h13:=of_eq_false h13
 unfold rgB
 by_cases a:1≤k
 ·rw [decide_eq_false (show ¬ k≤13 by omega),Bool.and_false]
 ·rw [decide_eq_false a,Bool.false_and]
theorem rg_5:rgB 1 13 5=true:=rfl
theorem rg_7:rgB 1 13 7=true:=rfl
theorem rg_10:rgB 1 13 10=true:=rfl
theorem rg_11:rgB 1 13 11=true:=rfl
theorem rg_12:rgB 1 13 12=true:=rfl
theorem rg_13:rgB 1 13 13=true:=rfl
theorem fm_eq (t:Tm):isFm t=(fldB t && decide ((t.args.length:Int)=arF (-1) t.kind t.name)):=by
 obtain ⟨k,s,o,n,ty,r,xs⟩:=t
 unfold isFm fldB
 simp only [wN,wO,wI,wT,wR,isNm,nmF,Tm.kind,Tm.name,Tm.other,Tm.n,Tm.ty,Tm.res,Tm.args]
 rcases k_cases k with rfl | rfl | rfl | rfl | rfl | rfl | rfl | rfl | rfl | rfl | rfl | rfl | rfl | ⟨g1,g2,g3,g4,g5,g6,g7,g8,g9,g10,g11,g12,g13⟩
 case inr.inr.inr.inr.inr.inr.inr.inr.inr.inr.inr.inr.inr =>
  have e:=rg_out k g1 g2 g3 g4 g5 g6 g7 g8 g9 g10 g11 g12 g13
  have e2:decide ((xs.length:Int) = -1)=false:=decide_eq_false (by omega)
  simp only [arF,g1,g2,g3,g4,g5,g6,g7,g8,g9,g10,g11,g12,g13,if_false,e,e2,Bool.false_and,Bool.and_false]
 all_goals simp only [arF,mostI,if_true,if_false,Int.reduceEq,eqTy_refl,eqTy_zero,zB_v,rg_zero,decide_true,rg_5,rg_7,rg_10,rg_11,rg_12,rg_13,Bool.true_and,Bool.and_true]
 all_goals simp only [Bool.and_comm,Bool.and_left_comm,Bool.and_assoc]
 all_goals congr
theorem allTms_drop (p:Tm→Bool) (xs:List Tm) (k:Nat) (h:k<xs.length):allTms p (xs.drop k)=(allTm p xs[k]! && allTms p (xs.drop (k+1))):=by
 rw [List.drop_eq_getElem_cons h,allTms,getElem!_pos xs k h]
theorem con_IsTermS:∀ t:Tm,szL (tmC t)≤1000000000→Con Tryz.prog 119 [.ag (tmC t)] [.one (.bool (allTm isFm t))]:=by
 refine Tm.ind fun t ih hz => ?_
 have hT:allTm isFm t=(allTms isFm t.args && (fldB t && decide ((t.args.length:Int)=arF (-1) t.kind t.name))):=by rw [allTm_eq,fm_eq,Bool.and_comm]
 rw [hT]
 have hF:=con_l5Fields t hz
 have hA:=con_arityS t
 have hz8:=(sz_partsE hz).2.2
 generalize fldB t=c at *
 generalize arF (-1) t.kind t.name=ar at *
 clear hT
 refine con_run Tryz.func119 rfl rfl (by simp [Tryz.ntmps119]) ?_
 refine byP Tryz.ntmps119 ?_
 refine sw_loop (fun k:Nat=>k≤t.args.length∧allTms isFm (t.args.drop k)=allTms isFm t.args) (fun k=>⟨28,[(3,.i k),(1,.bx 0 0)],[(0,[.i t.kind,.s t.name,.s t.other,.i t.n,.i t.ty.kind,.br (.rows 2 t.ty.args.length (tysC t.ty.args)),.i t.res.kind,.br (.rows 2 t.res.args.length (tysC t.res.args)),.br (.rows 9 t.args.length (tmsC t.args))])],[],1,[]⟩) (fun k=>t.args.length-k) 0 id ⟨Nat.zero_le _,rfl⟩ ?_ ?_
 ·exact byQ True.intro
 ·rintro k ⟨hk,hf⟩
  refine sw_run 200 _ _ _ ?_
  by_cases hlt:k<t.args.length
  ·have hi:(k:Int)<(t.args.length:Int):=by omega
   have hR:=tmsC_row' t.args k hlt
   have hm:=mem_bang hlt
   have hs:=szL_tms' t.args k hlt
   have hrec:=ih _ hm (by omega)
   rw [allTms_drop isFm t.args k hlt] at hf
   obtain ⟨b,hb⟩:∃ b,b=allTm isFm t.args[k]! := ⟨_,rfl⟩
   rw [← hb] at hrec hf
   refine byP (fc hi hR) ?_
   refine sw_call hrec rfl (aAs_ok ?_) ?_ (sw_run 200 _ _ _ ?_)
   ·exact byQ True.intro
   ·simp only [okR]
   cases b
   ·rw [Bool.false_and] at hf
    simp only [push_cast,↓reduceIte,Nat.reduceLT,reduceCtorEq,← hf,Tryz.results119]
   ·refine byQ ?_
    refine ⟨by unfold inI;omega,k+1,id,⟨by omega,by simpa using hf⟩,by omega, ?_⟩
    exact byQ True.intro
  ·have hi:¬ (k:Int)<(t.args.length:Int):=by omega
   rw [List.drop_of_length_le (by omega),allTms] at hf
   rw [← hf,Bool.true_and]
   refine byP hi ?_
   refine sw_run 200 _ _ _ ?_
   refine byQ ?_
   refine sw_drawn (.cons 0 true (.cons 1 false (.cons 2 true (.cons 3 true (.cons 4 true (.cons 5 true (.cons 6 true (.cons 7 false (.cons 8 true (.cons 9 true (.cons 10 true (.nil)))))))))))) (by kernel_rfl) fQ_panic (by kernel_rfl) (sw_run 200 _ _ _ ?_)
   refine byQ ?_
   refine sw_callD hF rfl (aAs_ok ?_) ?_ (sw_run 200 _ _ _ ?_)
   ·exact byQ True.intro
   ·simp only [okR]
   cases c
   case false=>simp only [push_cast,↓reduceIte,Nat.reduceLT,Nat.reduceEqDiff,reduceCtorEq,Tryz.results119]
   refine byQ ?_
   refine sw_callD hA rfl (aAs_ok ?_) ?_ (sw_run 200 _ _ _ ?_)
   ·exact byQ True.intro
   ·simp only [okR]
   rcases pc ((t.args.length:Int)=ar) with h | h
   all_goals simp only [push_cast,↓reduceIte,Nat.reduceLT,Nat.reduceEqDiff,reduceCtorEq,h,Tryz.results119]
theorem con_isForm (t:Tm) (hz:szL (tmC t)≤1000000000):Con Tryz.prog 187 [.ag (tmC t)] [.one (.bool (isFm t))]:=by
 rcases k_cases t.kind with h | h | h | h | h | h | h | h | h | h | h | h | h | h
 ·exact con_isFormA t hz (.inl h)
 ·exact con_isFormB t hz (.inl h)
 ·exact con_isFormB t hz (.inr h)
 ·exact con_isFormA t hz (.inr (.inr h))
 ·exact con_isFormE t hz (by simp only [h,true_or])
 ·exact con_isFormC t hz h
 ·exact con_isFormE t hz (by simp only [h,true_or,or_true])
 ·exact con_isFormA t hz (.inr (.inl h))
 ·exact con_isFormD t hz h
 ·exact con_isFormE t hz (by simp only [h,true_or,or_true])
 ·exact con_isFormE t hz (by simp only [h,true_or,or_true])
 ·exact con_isFormE t hz (by simp only [h,true_or,or_true])
 ·exact con_isFormE t hz (by simp only [h,or_true])
 ·exact con_isFormG t hz h
theorem con_IsTermI (t:Tm) (hz:szL (tmC t)≤1000000000):Con Tryz.prog 112 [.ag (tmC t)] [.one (.bool (allTm isFm t))]:=by
 have hc:=con_allTerms isFm 187 1000000000 (Nat.le_refl _) con_isForm t hz
 generalize allTm isFm t=b at *
 refine con_run Tryz.func112 rfl rfl (by simp [Tryz.ntmps112]) ?_
 refine byP Tryz.ntmps112 ?_
 refine sw_call hc rfl (aAs_ok ?_) ?_ (sw_run 200 _ _ _ ?_)
 ·exact byQ True.intro
 ·simp only [okR]
 exact byP Tryz.results112 True.intro
end Go.Proofs.YtaidalilfmjfgaaGreat
