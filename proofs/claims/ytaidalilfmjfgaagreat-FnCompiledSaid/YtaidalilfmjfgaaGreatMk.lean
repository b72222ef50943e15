import Derived.Test.YtaidalilfmjfgaaGreatTmC
namespace Go.Proofs.YtaidalilfmjfgaaGreat
open Go.RowKit
set_option linter.unusedVariables false
set_option linter.unusedSimpArgs false
set_option maxRecDepth 20000
theorem tyk (k:Int) (xs:List Ty):(Ty.mk k xs).kind=k:=rfl
theorem tya (k:Int) (xs:List Ty):(Ty.mk k xs).args=xs:=rfl
def e0:ByteArray:=⟨#[]⟩
def ty0:Ty:=.mk 0 []
def tVar (s:ByteArray):Tm:=.mk 1 s e0 0 ty0 ty0 []
def tNode (k:Int) (xs:List Tm):Tm:=.mk k e0 e0 0 ty0 ty0 xs
def tOp (s:ByteArray) (xs:List Tm):Tm:=.mk 4 s e0 0 ty0 ty0 xs
def tLam (s:ByteArray) (t:Ty) (e:Tm):Tm:=.mk 6 s e0 0 t ty0 [e]
def t0:Tm:=.mk 0 e0 e0 0 ty0 ty0 []
theorem sz_ms1 (a:Tm):szL (tmsC [a])=szL (tmC a):=by rw [tmsC,tmsC,List.append_nil]
theorem con_l5Var (s:ByteArray):Con Tryz.prog 116 [.one (.str s)] [.ag (tmC (tVar s))]:=by
 refine con_run Tryz.func116 rfl rfl (by simp [Tryz.ntmps116]) ?_
 simp only [push_cast,↓reduceIte,Nat.reduceLT,Nat.reduceAdd,Nat.reduceLeDiff,Nat.reduceEqDiff,reduceCtorEq,tVar,ty0,e0,tmC_eq,mk_kind,mk_name,mk_other,mk_n,mk_ty,mk_res,mk_args,tyk,tya,tysC,List.length_cons,List.length_nil,tmsC,Tryz.ntmps116,Tryz.results116]
theorem con_l3Int:Con Tryz.prog 201 [] [.ag (tyC (.mk 1 []))]:=by
 refine con_run Tryz.func201 rfl rfl (by simp [Tryz.ntmps201]) ?_
 simp only [push_cast,↓reduceIte,Nat.reduceLT,Nat.reduceAdd,Nat.reduceLeDiff,reduceCtorEq,tyC_eq,tyk,tya,tysC,List.length_cons,List.length_nil,Tryz.ntmps201,Tryz.results201]
theorem con_l5Node (kd:Int) (xs:List Tm) (hz:xs.length+szL (tmsC xs)≤1000000000):Con Tryz.prog 188 [.one (.int kd),.one (.rows 9 xs.length (tmsC xs))] [.ag (tmC (tNode kd xs))]:=by
 refine con_run Tryz.func188 rfl rfl (by simp [Tryz.ntmps188]) ?_
 simp only [push_cast,↓reduceIte,Nat.reduceLT,Nat.reduceAdd,Nat.reduceLeDiff,Nat.reduceEqDiff,reduceCtorEq,Tryz.ntmps188]
 refine sw_ownB 1 8 29 rfl rfl ?_
 refine sw_loop (fun k:Nat=>k≤xs.length) (fun k=>⟨26,[(6,.i k),(1,.br (.rows 9 xs.length (tmsC xs))),(4,.bx 0 0),(5,.bx 1 0)],[(0,[.i 0,.s ⟨#[]⟩,.s ⟨#[]⟩,.i 0,.i 0,.nl 2,.i 0,.nl 2,.nl 9]),(1,[.i kd,.s ⟨#[]⟩,.s ⟨#[]⟩,.i 0,.i 0,.nl 2,.i 0,.nl 2,.sl 2])],[(2,some ⟨.rows 9 k (tmsC (xs.take k)),some 29,true⟩)],3,[]⟩) (fun k=>xs.length-k) 0 id (Nat.zero_le _) ?_ ?_
 ·simp only [push_cast,Sub,subT,subB,subO,subP,inj,AV.ren,AV.rens,AV.lt,AV.lts,↓reduceIte,Nat.reduceLT,Nat.reduceAdd,Nat.reduceEqDiff,reduceCtorEq,tmsC]
 ·rintro k hk
  refine sw_run 200 _ _ _ ?_
  by_cases hlt:k<xs.length
  ·have hi:(k:Int)<(xs.length:Int):=by omega
   have hR:=tmsC_row' xs k hlt
   have hs:=szL_tms' xs k hlt
   simp only [push_cast,↓reduceIte,Nat.reduceLT,Nat.reduceEqDiff,hi,tmC_eq]
   refine sw_drawn (.cons 0 true (.cons 1 true (.cons 2 true (.cons 3 true (.cons 4 true (.cons 5 true (.cons 6 false (.cons 7 false (.cons 8 false (.cons 9 true (.cons 10 false (.nil)))))))))))) (by kernel_rfl) qLp_panic (by kernel_rfl) (sw_run 200 _ _ _ ?_)
   simp only [push_cast,↓reduceIte,Nat.reduceLT,Nat.reduceAdd,Nat.reduceEqDiff,hi,hR,tmC_eq]
   refine sw_callD (con_l5Copy xs[k]! (by omega)) rfl (aAs_ok ?_) ?_ (sw_run 200 _ _ _ ?_)
   ·simp only [push_cast,aAs,aA,aDs,aD,↓reduceIte,tmC_eq]
   ·simp only [okR]
   simp only [push_cast,↓reduceIte,Nat.reduceLT,Nat.reduceAdd,Nat.reduceLeDiff,Nat.reduceEqDiff,tmC_eq]
   refine ⟨⟨fun o ho=>by omega,by unfold maxLen;omega,by omega⟩,by unfold inI;omega,k+1,rn1 2 7,by omega,by omega, ?_⟩
   simp only [push_cast,Sub,subT,subB,subO,subP,inj,AV.ren,AV.rens,AV.lt,AV.lts,↓reduceIte,Nat.reduceLT,Nat.reduceEqDiff,reduceCtorEq,rn1,cast1,tmsC_snoc' xs k hlt,tmC_eq]
  ·have hi:¬ (k:Int)<(xs.length:Int):=by omega
   obtain rfl:k=xs.length:=by omega
   simp only [push_cast,↓reduceIte,Nat.reduceLT,Nat.reduceEqDiff,hi]
   refine sw_run 200 _ _ _ ?_
   simp only [push_cast,↓reduceIte,Nat.reduceLT,Nat.reduceAdd,Nat.reduceEqDiff,reduceCtorEq,List.take_length,tNode,ty0,e0,tmC_eq,mk_kind,mk_name,mk_other,mk_n,mk_ty,mk_res,mk_args,tyk,tya,tysC,List.length_nil,Tryz.results188]
theorem con_l5Op (s:ByteArray) (xs:List Tm) (hz:xs.length+szL (tmsC xs)≤1000000000):Con Tryz.prog 117 [.one (.str s),.one (.rows 9 xs.length (tmsC xs))] [.ag (tmC (tOp s xs))]:=by
 refine con_run Tryz.func117 rfl rfl (by simp [Tryz.ntmps117]) ?_
 simp only [push_cast,↓reduceIte,Nat.reduceLT,Nat.reduceEqDiff,Tryz.ntmps117]
 refine sw_call (con_l5Node 4 xs hz) rfl (aAs_ok ?_) ?_ (sw_run 200 _ _ _ ?_)
 ·simp only [push_cast,aAs,aA,aD,↓reduceIte]
 ·simp only [okR]
 simp only [push_cast,↓reduceIte,Nat.reduceLT,Nat.reduceAdd,Nat.reduceLeDiff,Nat.reduceEqDiff,reduceCtorEq,tOp,tNode,ty0,e0,tmC_eq,mk_kind,mk_name,mk_other,mk_n,mk_ty,mk_res,mk_args,tyk,tya,tysC,List.length_nil,Tryz.results117]
theorem con_l5Lam (s:ByteArray) (t:Ty) (e:Tm) (hz:szL (tmC e)≤100000000) (ht:szL (tyC t)≤1000000000):Con Tryz.prog 256 [.one (.str s),.ag (tyC t),.ag (tmC e)] [.ag (tmC (tLam s t e))]:=by
 have hz1:=sz_ms1 e
 have hc:=con_l5Node 6 [e] (by rw [hz1];simp;omega)
 simp only [List.length_cons,List.length_nil,Nat.zero_add] at hc
 refine con_run Tryz.func256 rfl rfl (by simp [Tryz.ntmps256]) ?_
 simp only [push_cast,↓reduceIte,Nat.reduceLT,Nat.reduceAdd,Nat.reduceLeDiff,Nat.reduceEqDiff,tmC_eq e,tyC_eq t,Tryz.ntmps256]
 refine sw_call (hc) rfl (aAs_ok ?_) ?_ (sw_run 200 _ _ _ ?_)
 ·simp only [push_cast,aAs,aA,aD,↓reduceIte,tmC_eq,tmsC]
 ·simp only [okR]
 simp only [push_cast,↓reduceIte,Nat.reduceLT,Nat.reduceAdd,Nat.reduceLeDiff,Nat.reduceEqDiff,reduceCtorEq,tNode,tLam,ty0,e0,tmC_eq,mk_kind,mk_name,mk_other,mk_n,mk_ty,mk_res,mk_args,tyk,tya,tysC,List.length_cons,List.length_nil,tmsC]
 refine sw_call (con_l3Copy t ht) rfl (aAs_ok ?_) ?_ (sw_run 200 _ _ _ ?_)
 ·simp only [push_cast,aAs,aA,aDs,aD,↓reduceIte,tyC_eq]
 ·simp only [okR]
 simp only [push_cast,↓reduceIte,Nat.reduceLT,Nat.reduceAdd,Nat.reduceLeDiff,Nat.reduceEqDiff,reduceCtorEq,tyC_eq,List.length_cons,Tryz.results256]
end Go.Proofs.YtaidalilfmjfgaaGreat
