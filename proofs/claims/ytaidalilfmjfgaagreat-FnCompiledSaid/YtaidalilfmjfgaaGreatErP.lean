import Derived.Test.YtaidalilfmjfgaaGreatTmC
namespace Go.Proofs.YtaidalilfmjfgaaGreat
open Go.RowKit
set_option linter.unusedVariables false
set_option linter.unusedSimpArgs false
set_option maxRecDepth 20000
theorem con_EraseTyS:∀ t:Ty,szL (tyC t)≤1000000000→Con Tryz.prog 199 [.ag (tyC t)] [.ag (tyC (eraseTy t))]:=by
 refine Ty.ind fun kd xs ih hz => ?_
 have hz':xs.length+szL (tysC xs)≤1000000000:=by simpa [tyC,szL,szD] using hz
 by_cases hc:kd=4∧xs.length=1
 ·obtain ⟨hk,hl⟩:=hc
  have he:eraseTy (.mk kd xs)=eraseTy xs[0]! := by rw [eraseTy_code (.mk kd xs) hk hl,getElem!_pos xs 0 (by omega)];rfl
  rw [he]
  subst hk
  have hm:=mem_bang (xs:=xs) (k:=0) (by omega)
  have hs:=szL_tys' xs 0 (by omega)
  have hR:=tysC_row' xs 0 (by omega)
  have hl':(xs.length:Int)=1:=by omega
  refine con_run Tryz.func199 rfl rfl (by simp [Tryz.ntmps199]) ?_
  simp only [push_cast,↓reduceIte,Nat.reduceLT,Nat.reduceAdd,Nat.reduceEqDiff,reduceCtorEq,Int.reduceLT,Tryz.ntmps199,tyC,hl',hR,tyC_eq]
  refine sw_call (ih _ hm (by omega)) rfl (aAs_ok ?_) ?_ (sw_run 200 _ _ _ ?_)
  ·simp only [push_cast,aAs,aA,aDs,aD,↓reduceIte,tyC_eq]
  ·simp only [okR]
  simp only [push_cast,↓reduceIte,Nat.reduceLT,Nat.reduceAdd,Nat.reduceEqDiff,reduceCtorEq,tyC_eq,Tryz.results199]
 ·have he:eraseTy (.mk kd xs) = .mk kd (xs.map eraseTy):=eraseTy_mk _ hc
  rw [he]
  refine con_run Tryz.func199 rfl rfl (by simp [Tryz.ntmps199]) ?_
  simp only [tyC]
  by_cases hk:kd=4
  ·have hl:¬ ((xs.length:Int)=1):=fun h=>hc ⟨hk,by omega⟩
   subst hk
   simp only [push_cast,↓reduceIte,Nat.reduceLT,Nat.reduceAdd,Nat.reduceLeDiff,Nat.reduceEqDiff,reduceCtorEq,Tryz.ntmps199,hl]
   refine sw_ownB 2 1 26 rfl rfl ?_
   refine sw_loop (fun k:Nat=>k≤xs.length) (fun k=>⟨41,[(4,.i k),(1,.bx 0 0),(2,.bx 1 0),(3,.bx 2 0)],[(0,[.i 4,.br (.rows 2 xs.length (tysC xs))]),(1,[.i 0,.nl 2]),(2,[.i 4,.sl 3])],[(3,some ⟨.rows 2 k (tysC ((xs.take k).map eraseTy)),some 26,true⟩)],4,[]⟩) (fun k=>xs.length-k) 0 id (Nat.zero_le _) ?_ ?_
   ·simp only [push_cast,Sub,subT,subB,subO,subP,inj,AV.ren,AV.rens,AV.lt,AV.lts,↓reduceIte,Nat.reduceLT,Nat.reduceAdd,Nat.reduceEqDiff,reduceCtorEq,List.map_nil,tysC]
   ·rintro k hk'
    refine sw_run 200 _ _ _ ?_
    by_cases hlt:k<xs.length
    ·have hi:(k:Int)<(xs.length:Int):=by omega
     have hR:=tysC_row' xs k hlt
     have hm:=mem_bang hlt
     have hs:=szL_tys' xs k hlt
     simp only [push_cast,↓reduceIte,Nat.reduceLT,Nat.reduceEqDiff,hi]
     refine sw_drawn (.cons 0 true (.cons 1 true (.cons 2 true (.cons 3 true (.cons 4 true (.cons 5 true (.cons 6 true (.cons 7 false (.cons 8 false (.cons 9 false (.cons 10 true (.cons 11 false (.nil))))))))))))) (by kernel_rfl) qLp_panic (by kernel_rfl) (sw_run 200 _ _ _ ?_)
     simp only [push_cast,↓reduceIte,Nat.reduceLT,Nat.reduceAdd,Nat.reduceEqDiff,hi,hR,tyC_eq]
     refine sw_callD (ih _ hm (by omega)) rfl (aAs_ok ?_) ?_ (sw_run 200 _ _ _ ?_)
     ·simp only [push_cast,aAs,aA,aDs,aD,↓reduceIte,tyC_eq]
     ·simp only [okR]
     simp only [push_cast,↓reduceIte,Nat.reduceLT,Nat.reduceAdd,Nat.reduceLeDiff,Nat.reduceEqDiff,tyC_eq]
     refine ⟨⟨fun o ho=>by omega,by unfold maxLen;omega,by omega⟩,by unfold inI;omega,k+1,rn1 3 6,by omega,by omega, ?_⟩
     simp only [push_cast,Sub,subT,subB,subO,subP,inj,AV.ren,AV.rens,AV.lt,AV.lts,↓reduceIte,Nat.reduceLT,Nat.reduceEqDiff,reduceCtorEq,rn1,cast1,tysC_snocF eraseTy xs k hlt,tyC_eq]
    ·have hi:¬ (k:Int)<(xs.length:Int):=by omega
     obtain rfl:k=xs.length:=by omega
     simp only [push_cast,↓reduceIte,Nat.reduceLT,Nat.reduceEqDiff,hi]
     refine sw_run 200 _ _ _ ?_
     simp only [push_cast,↓reduceIte,Nat.reduceLT,Nat.reduceAdd,Nat.reduceEqDiff,reduceCtorEq,List.take_length,List.length_map,Tryz.results199]
  ·have hl:True:=trivial
   simp only [push_cast,↓reduceIte,Nat.reduceLT,Nat.reduceAdd,Nat.reduceLeDiff,Nat.reduceEqDiff,reduceCtorEq,Tryz.ntmps199,hk]
   refine sw_ownB 2 1 26 rfl rfl ?_
   refine sw_loop (fun k:Nat=>k≤xs.length) (fun k=>⟨41,[(4,.i k),(1,.bx 0 0),(2,.bx 1 0),(3,.bx 2 0)],[(0,[.i kd,.br (.rows 2 xs.length (tysC xs))]),(1,[.i 0,.nl 2]),(2,[.i kd,.sl 3])],[(3,some ⟨.rows 2 k (tysC ((xs.take k).map eraseTy)),some 26,true⟩)],4,[]⟩) (fun k=>xs.length-k) 0 id (Nat.zero_le _) ?_ ?_
   ·simp only [push_cast,Sub,subT,subB,subO,subP,inj,AV.ren,AV.rens,AV.lt,AV.lts,↓reduceIte,Nat.reduceLT,Nat.reduceAdd,Nat.reduceEqDiff,reduceCtorEq,List.map_nil,tysC]
   ·rintro k hk'
    refine sw_run 200 _ _ _ ?_
    by_cases hlt:k<xs.length
    ·have hi:(k:Int)<(xs.length:Int):=by omega
     have hR:=tysC_row' xs k hlt
     have hm:=mem_bang hlt
     have hs:=szL_tys' xs k hlt
     simp only [push_cast,↓reduceIte,Nat.reduceLT,Nat.reduceEqDiff,hi]
     refine sw_drawn (.cons 0 true (.cons 1 true (.cons 2 true (.cons 3 true (.cons 4 true (.cons 5 true (.cons 6 true (.cons 7 false (.cons 8 false (.cons 9 false (.cons 10 true (.cons 11 false (.nil))))))))))))) (by kernel_rfl) qLp_panic (by kernel_rfl) (sw_run 200 _ _ _ ?_)
     simp only [push_cast,↓reduceIte,Nat.reduceLT,Nat.reduceAdd,Nat.reduceEqDiff,hi,hR,tyC_eq]
     refine sw_callD (ih _ hm (by omega)) rfl (aAs_ok ?_) ?_ (sw_run 200 _ _ _ ?_)
     ·simp only [push_cast,aAs,aA,aDs,aD,↓reduceIte,tyC_eq]
     ·simp only [okR]
     simp only [push_cast,↓reduceIte,Nat.reduceLT,Nat.reduceAdd,Nat.reduceLeDiff,Nat.reduceEqDiff,tyC_eq]
     refine ⟨⟨fun o ho=>by omega,by unfold maxLen;omega,by omega⟩,by unfold inI;omega,k+1,rn1 3 6,by omega,by omega, ?_⟩
     simp only [push_cast,Sub,subT,subB,subO,subP,inj,AV.ren,AV.rens,AV.lt,AV.lts,↓reduceIte,Nat.reduceLT,Nat.reduceEqDiff,reduceCtorEq,rn1,cast1,tysC_snocF eraseTy xs k hlt,tyC_eq]
    ·have hi:¬ (k:Int)<(xs.length:Int):=by omega
     obtain rfl:k=xs.length:=by omega
     simp only [push_cast,↓reduceIte,Nat.reduceLT,Nat.reduceEqDiff,hi]
     refine sw_run 200 _ _ _ ?_
     simp only [push_cast,↓reduceIte,Nat.reduceLT,Nat.reduceAdd,Nat.reduceEqDiff,reduceCtorEq,List.take_length,List.length_map,Tryz.results199]
theorem con_EraseS:∀ t:Tm,szL (tmC t)≤1000000000→Con Tryz.prog 128 [.ag (tmC t)] [.ag (tmC (eraseT t))]:=by
 refine Tm.ind fun t ih hz => ?_
 obtain ⟨h5,h7,h8⟩:=sz_parts hz
 have hst:=by
  have h:=con_l1In t.kind 10 13
  rw [inB_and] at h
  exact h
 by_cases hc:inB t.kind 10 13=true∧t.args.length=1
 ·obtain ⟨hk,hl⟩:=hc
  have he:eraseT t=eraseT t.args[0]! := by rw [eraseT_one _ hk hl,getElem!_pos t.args 0 (by omega)]
  rw [he]
  rw [hk] at hst
  have hm:=mem_bang (xs:=t.args) (k:=0) (by omega)
  have hs:=szL_tms' t.args 0 (by omega)
  have hR:=tmsC_row' t.args 0 (by omega)
  have hl':(t.args.length:Int)=1:=by omega
  refine con_run Tryz.func128 rfl rfl (by simp [Tryz.ntmps128]) ?_
  simp only [push_cast,↓reduceIte,Nat.reduceLT,Nat.reduceAdd,Nat.reduceEqDiff,reduceCtorEq,Tryz.ntmps128,tmC_eq]
  refine sw_call (hst) rfl (aAs_ok ?_) ?_ (sw_run 200 _ _ _ ?_)
  ·simp only [push_cast,aAs,aA,aD,↓reduceIte]
  ·simp only [okR]
  simp only [push_cast,↓reduceIte,Nat.reduceLT,Nat.reduceAdd,Nat.reduceEqDiff,reduceCtorEq,Int.reduceLT,hl',hR,tmC_eq]
  refine sw_call (ih _ hm (by omega)) rfl (aAs_ok ?_) ?_ (sw_run 200 _ _ _ ?_)
  ·simp only [push_cast,aAs,aA,aDs,aD,↓reduceIte,tmC_eq]
  ·simp only [okR]
  simp only [push_cast,↓reduceIte,Nat.reduceLT,Nat.reduceAdd,Nat.reduceEqDiff,reduceCtorEq,tmC_eq,Tryz.results128]
 ·have he:eraseT t = .mk t.kind t.name t.other t.n (eraseTy t.ty) (eraseTy t.res) (t.args.map eraseT):=eraseT_mk _ hc
  rw [he,tmC_eq (.mk _ _ _ _ _ _ _),mk_kind,mk_name,mk_other,mk_n,mk_ty,mk_res,mk_args]
  refine con_run Tryz.func128 rfl rfl (by simp [Tryz.ntmps128]) ?_
  simp only [push_cast,↓reduceIte,Nat.reduceLT,Nat.reduceAdd,Nat.reduceEqDiff,reduceCtorEq,Tryz.ntmps128,tmC_eq]
  refine sw_call (hst) rfl (aAs_ok ?_) ?_ (sw_run 200 _ _ _ ?_)
  ·simp only [push_cast,aAs,aA,aD,↓reduceIte]
  ·simp only [okR]
  by_cases hk:inB t.kind 10 13=true
  ·have hl:¬ ((t.args.length:Int)=1):=fun h=>hc ⟨hk,by omega⟩
   simp only [push_cast,↓reduceIte,Nat.reduceLT,Nat.reduceEqDiff,reduceCtorEq,hk,hl]
   refine sw_drawnK ⟨53,[(3,.bx 4 0),(1,.bx 0 0),(2,.bx 1 0)],[(0,[.i t.kind,.s t.name,.s t.other,.i t.n,.i t.ty.kind,.br (.rows 2 t.ty.args.length (tysC t.ty.args)),.i t.res.kind,.br (.rows 2 t.res.args.length (tysC t.res.args)),.br (.rows 9 t.args.length (tmsC t.args))]),(1,[.i 0,.s ⟨#[]⟩,.s ⟨#[]⟩,.i 0,.i 0,.nl 2,.i 0,.nl 2,.nl 9]),(4,[.i t.kind,.s t.name,.s t.other,.i t.n,.i (eraseTy t.ty).kind,.sl 2,.i (eraseTy t.res).kind,.sl 3,.nl 9])],[(2,some ⟨.rows 2 (eraseTy t.ty).args.length (tysC (eraseTy t.ty).args),none,true⟩),(3,some ⟨.rows 2 (eraseTy t.res).args.length (tysC (eraseTy t.res).args),none,true⟩)],5,[]⟩ (.cons 0 true (.cons 1 true (.cons 2 true (.cons 3 true (.cons 4 true (.cons 5 true (.cons 6 true (.cons 7 true (.cons 8 true (.cons 9 true (.cons 11 true (.cons 12 true (.fork (.alt 10 (.fork (.alt 13 (.cons 14 true (.cons 15 false (.cons 16 false (.nil)))) (.alt 15 (.cons 13 false (.cons 14 true (.cons 16 false (.nil)))) (.last)))) (.alt 15 (.cons 10 false (.cons 13 false (.cons 14 true (.cons 16 false (.nil))))) (.last)))))))))))))))) (by kernel_rfl) (by kernel_rfl) (sw_run 200 _ _ _ ?_) (sw_run 200 _ _ _ ?_)
   ·simp only [push_cast,↓reduceIte,Nat.reduceLT,Nat.reduceAdd,Nat.reduceLeDiff,Nat.reduceEqDiff,reduceCtorEq]
    refine ⟨?_, ?_⟩
    ·refine sw_callD (con_EraseTyS t.ty h5) rfl (aAs_ok ?_) ?_ (sw_run 200 _ _ _ ?_)
     ·simp only [push_cast,aAs,aA,aDs,aD,↓reduceIte,Nat.reduceEqDiff,tyC_eq]
     ·simp only [okR]
     simp only [push_cast,↓reduceIte,Nat.reduceLT,Nat.reduceAdd,tyC_eq]
     refine ⟨?_, ?_⟩
     ·refine sw_callD (con_EraseTyS t.res h7) rfl (aAs_ok ?_) ?_ (sw_run 200 _ _ _ ?_)
      ·simp only [push_cast,aAs,aA,aDs,aD,↓reduceIte,Nat.reduceEqDiff,tyC_eq]
      ·simp only [okR]
      simp only [push_cast,↓reduceIte,Nat.reduceLT,Nat.reduceAdd,Nat.reduceLeDiff,Nat.reduceEqDiff,tyC_eq,qK]
      refine ⟨id, ?_⟩
      simp only [push_cast,Sub,subT,subB,subO,subP,inj,AV.ren,AV.rens,AV.lt,AV.lts,↓reduceIte,Nat.reduceLT,Nat.reduceEqDiff,reduceCtorEq]
     ·refine sw_callD (con_EraseTyS t.res h7) rfl (aAs_ok ?_) ?_ (sw_run 200 _ _ _ ?_)
      ·simp only [push_cast,aAs,aA,aDs,aD,↓reduceIte,Nat.reduceEqDiff,tyC_eq]
      ·simp only [okR]
      simp only [push_cast,↓reduceIte,Nat.reduceLT,Nat.reduceAdd,Nat.reduceLeDiff,Nat.reduceEqDiff,tyC_eq,qK]
      refine ⟨rn2 3 4 4 3, ?_⟩
      simp only [push_cast,Sub,subT,subB,subO,subP,inj,AV.ren,AV.rens,AV.lt,AV.lts,↓reduceIte,Nat.reduceLT,Nat.reduceEqDiff,reduceCtorEq,rn2]
    ·refine sw_callD (con_EraseTyS t.ty h5) rfl (aAs_ok ?_) ?_ (sw_run 200 _ _ _ ?_)
     ·simp only [push_cast,aAs,aA,aDs,aD,↓reduceIte,Nat.reduceEqDiff,tyC_eq]
     ·simp only [okR]
     simp only [push_cast,↓reduceIte,Nat.reduceLT,Nat.reduceAdd,tyC_eq]
     refine sw_callD (con_EraseTyS t.res h7) rfl (aAs_ok ?_) ?_ (sw_run 200 _ _ _ ?_)
     ·simp only [push_cast,aAs,aA,aDs,aD,↓reduceIte,Nat.reduceEqDiff,tyC_eq]
     ·simp only [okR]
     simp only [push_cast,↓reduceIte,Nat.reduceLT,Nat.reduceAdd,Nat.reduceLeDiff,Nat.reduceEqDiff,tyC_eq,qK]
     refine ⟨rn3 2 3 3 4 4 2, ?_⟩
     simp only [push_cast,Sub,subT,subB,subO,subP,inj,AV.ren,AV.rens,AV.lt,AV.lts,↓reduceIte,Nat.reduceLT,Nat.reduceEqDiff,reduceCtorEq,rn3]
   simp only [push_cast,↓reduceIte,Nat.reduceLT]
   refine sw_ownB 4 8 29 rfl rfl ?_
   refine sw_loop (fun k:Nat=>k≤t.args.length) (fun k=>⟨53,[(4,.i k),(1,.bx 0 0),(2,.bx 1 0),(3,.bx 4 0)],[(0,[.i t.kind,.s t.name,.s t.other,.i t.n,.i t.ty.kind,.br (.rows 2 t.ty.args.length (tysC t.ty.args)),.i t.res.kind,.br (.rows 2 t.res.args.length (tysC t.res.args)),.br (.rows 9 t.args.length (tmsC t.args))]),(1,[.i 0,.s ⟨#[]⟩,.s ⟨#[]⟩,.i 0,.i 0,.nl 2,.i 0,.nl 2,.nl 9]),(4,[.i t.kind,.s t.name,.s t.other,.i t.n,.i (eraseTy t.ty).kind,.sl 2,.i (eraseTy t.res).kind,.sl 3,.sl 5])],[(2,some ⟨.rows 2 (eraseTy t.ty).args.length (tysC (eraseTy t.ty).args),none,true⟩),(3,some ⟨.rows 2 (eraseTy t.res).args.length (tysC (eraseTy t.res).args),none,true⟩),(5,some ⟨.rows 9 k (tmsC ((t.args.take k).map eraseT)),some 29,true⟩)],6,[]⟩) (fun k=>t.args.length-k) 0 id (Nat.zero_le _) ?_ ?_
   ·simp only [push_cast,Sub,subT,subB,subO,subP,inj,AV.ren,AV.rens,AV.lt,AV.lts,↓reduceIte,Nat.reduceLT,Nat.reduceAdd,Nat.reduceEqDiff,reduceCtorEq,List.map_nil,tmsC]
   ·rintro k hk'
    refine sw_run 200 _ _ _ ?_
    by_cases hlt:k<t.args.length
    ·have hi:(k:Int)<(t.args.length:Int):=by omega
     have hR:=tmsC_row' t.args k hlt
     have hm:=mem_bang hlt
     have hs:=szL_tms' t.args k hlt
     simp only [push_cast,↓reduceIte,Nat.reduceLT,Nat.reduceEqDiff,hi]
     refine sw_drawn (.cons 0 true (.cons 1 true (.cons 2 true (.cons 3 true (.cons 4 true (.cons 5 true (.cons 6 true (.cons 7 false (.cons 8 false (.cons 9 false (.cons 10 true (.cons 11 false (.nil))))))))))))) (by kernel_rfl) qLp_panic (by kernel_rfl) (sw_run 200 _ _ _ ?_)
     simp only [push_cast,↓reduceIte,Nat.reduceLT,Nat.reduceAdd,Nat.reduceEqDiff,hi,hR,tmC_eq]
     refine sw_callD (ih _ hm (by omega)) rfl (aAs_ok ?_) ?_ (sw_run 200 _ _ _ ?_)
     ·simp only [push_cast,aAs,aA,aDs,aD,↓reduceIte,tmC_eq]
     ·simp only [okR]
     simp only [push_cast,↓reduceIte,Nat.reduceLT,Nat.reduceAdd,Nat.reduceLeDiff,Nat.reduceEqDiff,tmC_eq]
     refine ⟨⟨fun o ho=>by omega,by unfold maxLen;omega,by omega⟩,by unfold inI;omega,k+1,rn1 5 10,by omega,by omega, ?_⟩
     simp only [push_cast,Sub,subT,subB,subO,subP,inj,AV.ren,AV.rens,AV.lt,AV.lts,↓reduceIte,Nat.reduceLT,Nat.reduceEqDiff,reduceCtorEq,rn1,cast1,tmsC_snocF eraseT t.args k hlt,tmC_eq]
    ·have hi:¬ (k:Int)<(t.args.length:Int):=by omega
     obtain rfl:k=t.args.length:=by omega
     simp only [push_cast,↓reduceIte,Nat.reduceLT,Nat.reduceEqDiff,hi]
     refine sw_run 200 _ _ _ ?_
     simp only [push_cast,↓reduceIte,Nat.reduceLT,Nat.reduceAdd,Nat.reduceEqDiff,reduceCtorEq,List.take_length,List.length_map,Tryz.results128]
  ·have hl:True:=trivial
   replace hk:inB t.kind 10 13=false:=by simpa using hk
   simp only [push_cast,↓reduceIte,Nat.reduceLT,Nat.reduceEqDiff,hk]
   refine sw_drawnK ⟨53,[(3,.bx 4 0),(1,.bx 0 0),(2,.bx 1 0)],[(0,[.i t.kind,.s t.name,.s t.other,.i t.n,.i t.ty.kind,.br (.rows 2 t.ty.args.length (tysC t.ty.args)),.i t.res.kind,.br (.rows 2 t.res.args.length (tysC t.res.args)),.br (.rows 9 t.args.length (tmsC t.args))]),(1,[.i 0,.s ⟨#[]⟩,.s ⟨#[]⟩,.i 0,.i 0,.nl 2,.i 0,.nl 2,.nl 9]),(4,[.i t.kind,.s t.name,.s t.other,.i t.n,.i (eraseTy t.ty).kind,.sl 2,.i (eraseTy t.res).kind,.sl 3,.nl 9])],[(2,some ⟨.rows 2 (eraseTy t.ty).args.length (tysC (eraseTy t.ty).args),none,true⟩),(3,some ⟨.rows 2 (eraseTy t.res).args.length (tysC (eraseTy t.res).args),none,true⟩)],5,[]⟩ (.cons 0 true (.cons 1 true (.cons 2 true (.cons 3 true (.cons 4 true (.cons 5 true (.cons 6 true (.cons 7 true (.cons 8 true (.cons 9 true (.cons 11 true (.cons 12 true (.fork (.alt 10 (.fork (.alt 13 (.cons 14 true (.cons 15 false (.cons 16 false (.nil)))) (.alt 15 (.cons 13 false (.cons 14 true (.cons 16 false (.nil)))) (.last)))) (.alt 15 (.cons 10 false (.cons 13 false (.cons 14 true (.cons 16 false (.nil))))) (.last)))))))))))))))) (by kernel_rfl) (by kernel_rfl) (sw_run 200 _ _ _ ?_) (sw_run 200 _ _ _ ?_)
   ·simp only [push_cast,↓reduceIte,Nat.reduceLT,Nat.reduceAdd,Nat.reduceLeDiff,Nat.reduceEqDiff,reduceCtorEq]
    refine ⟨?_, ?_⟩
    ·refine sw_callD (con_EraseTyS t.ty h5) rfl (aAs_ok ?_) ?_ (sw_run 200 _ _ _ ?_)
     ·simp only [push_cast,aAs,aA,aDs,aD,↓reduceIte,Nat.reduceEqDiff,tyC_eq]
     ·simp only [okR]
     simp only [push_cast,↓reduceIte,Nat.reduceLT,Nat.reduceAdd,tyC_eq]
     refine ⟨?_, ?_⟩
     ·refine sw_callD (con_EraseTyS t.res h7) rfl (aAs_ok ?_) ?_ (sw_run 200 _ _ _ ?_)
      ·simp only [push_cast,aAs,aA,aDs,aD,↓reduceIte,Nat.reduceEqDiff,tyC_eq]
      ·simp only [okR]
      simp only [push_cast,↓reduceIte,Nat.reduceLT,Nat.reduceAdd,Nat.reduceLeDiff,Nat.reduceEqDiff,tyC_eq,qK]
      refine ⟨id, ?_⟩
      simp only [push_cast,Sub,subT,subB,subO,subP,inj,AV.ren,AV.rens,AV.lt,AV.lts,↓reduceIte,Nat.reduceLT,Nat.reduceEqDiff,reduceCtorEq]
     ·refine sw_callD (con_EraseTyS t.res h7) rfl (aAs_ok ?_) ?_ (sw_run 200 _ _ _ ?_)
      ·simp only [push_cast,aAs,aA,aDs,aD,↓reduceIte,Nat.reduceEqDiff,tyC_eq]
      ·simp only [okR]
      simp only [push_cast,↓reduceIte,Nat.reduceLT,Nat.reduceAdd,Nat.reduceLeDiff,Nat.reduceEqDiff,tyC_eq,qK]
      refine ⟨rn2 3 4 4 3, ?_⟩
      simp only [push_cast,Sub,subT,subB,subO,subP,inj,AV.ren,AV.rens,AV.lt,AV.lts,↓reduceIte,Nat.reduceLT,Nat.reduceEqDiff,reduceCtorEq,rn2]
    ·refine sw_callD (con_EraseTyS t.ty h5) rfl (aAs_ok ?_) ?_ (sw_run 200 _ _ _ ?_)
     ·simp only [push_cast,aAs,aA,aDs,aD,↓reduceIte,Nat.reduceEqDiff,tyC_eq]
     ·simp only [okR]
     simp only [push_cast,↓reduceIte,Nat.reduceLT,Nat.reduceAdd,tyC_eq]
     refine sw_callD (con_EraseTyS t.res h7) rfl (aAs_ok ?_) ?_ (sw_run 200 _ _ _ ?_)
     ·simp only [push_cast,aAs,aA,aDs,aD,↓reduceIte,Nat.reduceEqDiff,tyC_eq]
     ·simp only [okR]
     simp only [push_cast,↓reduceIte,Nat.reduceLT,Nat.reduceAdd,Nat.reduceLeDiff,Nat.reduceEqDiff,tyC_eq,qK]
     refine ⟨rn3 2 3 3 4 4 2, ?_⟩
     simp only [push_cast,Sub,subT,subB,subO,subP,inj,AV.ren,AV.rens,AV.lt,AV.lts,↓reduceIte,Nat.reduceLT,Nat.reduceEqDiff,reduceCtorEq,rn3]
   simp only [push_cast,↓reduceIte,Nat.reduceLT]
   refine sw_ownB 4 8 29 rfl rfl ?_
   refine sw_loop (fun k:Nat=>k≤t.args.length) (fun k=>⟨53,[(4,.i k),(1,.bx 0 0),(2,.bx 1 0),(3,.bx 4 0)],[(0,[.i t.kind,.s t.name,.s t.other,.i t.n,.i t.ty.kind,.br (.rows 2 t.ty.args.length (tysC t.ty.args)),.i t.res.kind,.br (.rows 2 t.res.args.length (tysC t.res.args)),.br (.rows 9 t.args.length (tmsC t.args))]),(1,[.i 0,.s ⟨#[]⟩,.s ⟨#[]⟩,.i 0,.i 0,.nl 2,.i 0,.nl 2,.nl 9]),(4,[.i t.kind,.s t.name,.s t.other,.i t.n,.i (eraseTy t.ty).kind,.sl 2,.i (eraseTy t.res).kind,.sl 3,.sl 5])],[(2,some ⟨.rows 2 (eraseTy t.ty).args.length (tysC (eraseTy t.ty).args),none,true⟩),(3,some ⟨.rows 2 (eraseTy t.res).args.length (tysC (eraseTy t.res).args),none,true⟩),(5,some ⟨.rows 9 k (tmsC ((t.args.take k).map eraseT)),some 29,true⟩)],6,[]⟩) (fun k=>t.args.length-k) 0 id (Nat.zero_le _) ?_ ?_
   ·simp only [push_cast,Sub,subT,subB,subO,subP,inj,AV.ren,AV.rens,AV.lt,AV.lts,↓reduceIte,Nat.reduceLT,Nat.reduceAdd,Nat.reduceEqDiff,reduceCtorEq,List.map_nil,tmsC]
   ·rintro k hk'
    refine sw_run 200 _ _ _ ?_
    by_cases hlt:k<t.args.length
    ·have hi:(k:Int)<(t.args.length:Int):=by omega
     have hR:=tmsC_row' t.args k hlt
     have hm:=mem_bang hlt
     have hs:=szL_tms' t.args k hlt
     simp only [push_cast,↓reduceIte,Nat.reduceLT,Nat.reduceEqDiff,hi]
     refine sw_drawn (.cons 0 true (.cons 1 true (.cons 2 true (.cons 3 true (.cons 4 true (.cons 5 true (.cons 6 true (.cons 7 false (.cons 8 false (.cons 9 false (.cons 10 true (.cons 11 false (.nil))))))))))))) (by kernel_rfl) qLp_panic (by kernel_rfl) (sw_run 200 _ _ _ ?_)
     simp only [push_cast,↓reduceIte,Nat.reduceLT,Nat.reduceAdd,Nat.reduceEqDiff,hi,hR,tmC_eq]
     refine sw_callD (ih _ hm (by omega)) rfl (aAs_ok ?_) ?_ (sw_run 200 _ _ _ ?_)
     ·simp only [push_cast,aAs,aA,aDs,aD,↓reduceIte,tmC_eq]
     ·simp only [okR]
     simp only [push_cast,↓reduceIte,Nat.reduceLT,Nat.reduceAdd,Nat.reduceLeDiff,Nat.reduceEqDiff,tmC_eq]
     refine ⟨⟨fun o ho=>by omega,by unfold maxLen;omega,by omega⟩,by unfold inI;omega,k+1,rn1 5 10,by omega,by omega, ?_⟩
     simp only [push_cast,Sub,subT,subB,subO,subP,inj,AV.ren,AV.rens,AV.lt,AV.lts,↓reduceIte,Nat.reduceLT,Nat.reduceEqDiff,reduceCtorEq,rn1,cast1,tmsC_snocF eraseT t.args k hlt,tmC_eq]
    ·have hi:¬ (k:Int)<(t.args.length:Int):=by omega
     obtain rfl:k=t.args.length:=by omega
     simp only [push_cast,↓reduceIte,Nat.reduceLT,Nat.reduceEqDiff,hi]
     refine sw_run 200 _ _ _ ?_
     simp only [push_cast,↓reduceIte,Nat.reduceLT,Nat.reduceAdd,Nat.reduceEqDiff,reduceCtorEq,List.take_length,List.length_map,Tryz.results128]
end Go.Proofs.YtaidalilfmjfgaaGreat
