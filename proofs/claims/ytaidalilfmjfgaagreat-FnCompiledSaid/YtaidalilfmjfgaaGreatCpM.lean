import Derived.Test.YtaidalilfmjfgaaGreatFv
import Derived.Test.YtaidalilfmjfgaaGreatCpL
import Derived.Test.YtaidalilfmjfgaaGreatCpS
namespace Go.Proofs.YtaidalilfmjfgaaGreat
open Go.RowKit
set_option linter.unusedVariables false
set_option linter.unusedSimpArgs false
set_option maxRecDepth 20000
theorem woL_snoc (ns:List ByteArray) (y:ByteArray) (xs:List ByteArray):woL (ns++[y]) xs=woL [y] (woL ns xs):=by
 rw [woL,woL,woL,List.filter_filter]
 congr 1;funext z
 rw [← Bool.decide_and]
 congr 1
 rw [fi_out,fi_out,fi_out];simp [and_comm]
theorem szL_bd (k:Int) (nm ot:ByteArray) (c:Nat):(bdN k nm ot c).length≤2:=by
 unfold bdN
 split <;> (try split) <;> (try split) <;> simp
theorem con_FreeS:∀ t:Tm,szL (tmC t)≤3000000→Con Tryz.prog 139 [.ag (tmC t)] [.one (strsD (freeT t))]:=by
 refine Tm.ind fun t ih hz => ?_
 obtain ⟨h5,h7,h8⟩:=sz_parts hz
 have hT:=freeT_eq t
 have hB:=con_bdS t (by omega)
 rw [frF] at hT
 by_cases h1:t.kind=1
 ·rw [if_pos h1] at hT
  refine con_run Tryz.func139 rfl rfl (by simp [Tryz.ntmps139]) ?_
  simp only [push_cast,↓reduceIte,Nat.reduceLT,Nat.reduceAdd,Nat.reduceLeDiff,Nat.reduceEqDiff,reduceCtorEq,tmC_eq,hT,eq_true h1,List.length_cons,List.map_cons,Tryz.ntmps139,Tryz.results139]
 rw [if_neg h1,List.length_map] at hT
 have hnl:=szL_bd t.kind t.name t.other t.args.length
 generalize hn:bdN t.kind t.name t.other t.args.length=ns at hT hB hnl
 generalize hp:bdP t.kind t.args.length=p at hT hB
 simp only [strsD] at hB
 refine con_run Tryz.func139 rfl rfl (by simp [Tryz.ntmps139]) ?_
 simp only [push_cast,↓reduceIte,Nat.reduceLT,Nat.reduceAdd,Nat.reduceEqDiff,tmC_eq,h1,Tryz.ntmps139]
 refine sw_call (hB) rfl (aAs_ok ?_) ?_ (sw_run 200 _ _ _ ?_)
 ·simp only [push_cast,aAs,aA,aDs,aD,↓reduceIte,tmC_eq]
 ·simp only [okR]
 simp only [push_cast,↓reduceIte,Nat.reduceLT,Nat.reduceAdd,Nat.reduceEqDiff]
 refine sw_loop (fun k:Nat=>k≤t.args.length) (fun k=>⟨55,[(6,.i k),(5,.sl 2),(4,.i p),(3,.sl 1),(1,.bx 0 0)],[(0,[.i t.kind,.s t.name,.s t.other,.i t.n,.i t.ty.kind,.br (.rows 2 t.ty.args.length (tysC t.ty.args)),.i t.res.kind,.br (.rows 2 t.res.args.length (tysC t.res.args)),.br (.rows 9 t.args.length (tmsC t.args))])],[(2,some ⟨.rows 1 (frU ns p (t.args.map freeT) k).length ((frU ns p (t.args.map freeT) k).map D.str),if k=0 then some 9 else none,true⟩),(1,some ⟨.rows 1 ns.length (ns.map D.str),none,true⟩)],3,[]⟩) (fun k=>t.args.length-k) 0 id (Nat.zero_le _) ?_ ?_
 ·simp only [push_cast,Sub,subT,subB,subO,subP,inj,AV.ren,AV.rens,AV.lt,AV.lts,↓reduceIte,Nat.reduceLT,Nat.reduceEqDiff,frU,List.length_nil,List.map_nil]
 ·rintro k hk
  refine sw_run 200 _ _ _ ?_
  by_cases hlt:k<t.args.length
  ·have hi:(k:Int)<(t.args.length:Int):=by omega
   have hR:=tmsC_row' t.args k hlt
   have hm:=mem_bang hlt
   have hs:=szL_tms' t.args k hlt
   have hrec:=ih _ hm (by omega)
   have hfs:=free_sz t.args[k]!
   have hfl:(freeT t.args[k]!).length≤sL (freeT t.args[k]!):=by rw [sL];omega
   have hus:=frU_sz ns p (t.args.map freeT) k (by rw [List.length_map];omega)
   have hu2:=sum_take (t.args.map freeT) k
   have hu3:=free_szs t.args
   rw [freeTs_map] at hu3
   simp only [strsD] at hrec
   simp only [push_cast,↓reduceIte,Nat.reduceLT,Nat.reduceAdd,Nat.reduceEqDiff,hi,hR,tmC_eq]
   refine sw_call (hrec) rfl (aAs_ok ?_) ?_ (sw_run 200 _ _ _ ?_)
   ·simp only [push_cast,aAs,aA,aDs,aD,↓reduceIte,tmC_eq]
   ·simp only [okR]
   simp only [push_cast,↓reduceIte,Nat.reduceLT,Nat.reduceAdd]
   by_cases hq:(k:Int)=p
   ·have hst:frU ns p (t.args.map freeT) (k+1)=uniR (frU ns p (t.args.map freeT) k) (woL ns (freeT t.args[k]!)):=by rw [frU,if_pos hq,map_bang freeT hlt]
    refine sw_loop (fun i:Nat=>i≤ns.length) (fun i=>⟨55,[(8,.i i),(7,.sl 3),(6,.i k),(5,.sl 2),(4,.i p),(3,.sl 1),(1,.bx 0 0)],[(0,[.i t.kind,.s t.name,.s t.other,.i t.n,.i t.ty.kind,.br (.rows 2 t.ty.args.length (tysC t.ty.args)),.i t.res.kind,.br (.rows 2 t.res.args.length (tysC t.res.args)),.br (.rows 9 t.args.length (tmsC t.args))])],[(3,some ⟨.rows 1 (woL (ns.take i) (freeT t.args[k]!)).length ((woL (ns.take i) (freeT t.args[k]!)).map D.str),none,true⟩),(2,some ⟨.rows 1 (frU ns p (t.args.map freeT) k).length ((frU ns p (t.args.map freeT) k).map D.str),if k=0 then some 9 else none,true⟩),(1,some ⟨.rows 1 ns.length (ns.map D.str),none,true⟩)],4,[]⟩) (fun i=>ns.length-i) 0 id (Nat.zero_le _) ?_ ?_
    ·simp only [push_cast,Sub,subT,subB,subO,subP,inj,AV.ren,AV.rens,AV.lt,AV.lts,↓reduceIte,Nat.reduceLT,Nat.reduceEqDiff,woL_nil]
    ·rintro i hi0
     refine sw_run 200 _ _ _ ?_
     have hwz:=woL_sz (ns.take i) (freeT t.args[k]!)
     have hwl:(woL (ns.take i) (freeT t.args[k]!)).length≤sL (woL (ns.take i) (freeT t.args[k]!)):=by rw [sL];omega
     by_cases hlt2:i<ns.length
     ·have hi2:(i:Int)<(ns.length:Int):=by omega
      have hR2:=strs_row ns i hlt2
      have hW:=con_WithoutS (woL (ns.take i) (freeT t.args[k]!)) ns[i]! (by omega)
      have hws:woL (ns.take (i+1)) (freeT t.args[k]!)=woL [ns[i]!] (woL (ns.take i) (freeT t.args[k]!)):=by rw [take_snoc ns i hlt2,woL_snoc]
      simp only [strsD] at hW
      simp only [push_cast,↓reduceIte,Nat.reduceLT,Nat.reduceEqDiff,hi2,hR2,eq_true hq]
      refine sw_call (hW) rfl (aAs_ok ?_) ?_ (sw_run 200 _ _ _ ?_)
      ·simp only [push_cast,aAs,aA,aD,↓reduceIte,Nat.reduceEqDiff]
      ·simp only [okR]
      simp only [push_cast,↓reduceIte,Nat.reduceLT,Nat.reduceAdd,Nat.reduceEqDiff]
      refine ⟨by unfold inI;omega,i+1,rnL [(3,4)],by omega,by omega, ?_⟩
      simp only [push_cast,Sub,subT,subB,subO,subP,inj,AV.ren,AV.rens,AV.lt,AV.lts,↓reduceIte,Nat.reduceLT,Nat.reduceEqDiff,reduceCtorEq,rnL,cast1,hws]
     ·have hi2:¬ (i:Int)<(ns.length:Int):=by omega
      obtain rfl:i=ns.length:=by omega
      rw [List.take_length] at hwz hwl
      simp only [push_cast,↓reduceIte,Nat.reduceLT,Nat.reduceEqDiff,hi2,List.take_length]
      have hU:=con_UniteS (frU ns p (t.args.map freeT) k) (woL ns (freeT t.args[k]!)) (by omega) (by omega)
      simp only [strsD] at hU
      refine sw_run 200 _ _ _ ?_
      simp only [push_cast,↓reduceIte,Nat.reduceLT,Nat.reduceEqDiff]
      refine sw_call (hU) rfl (aAs_ok ?_) ?_ (sw_run 200 _ _ _ ?_)
      ·simp only [push_cast,aAs,aA,aD,↓reduceIte,Nat.reduceEqDiff]
      ·simp only [okR]
      simp only [push_cast,↓reduceIte,Nat.reduceLT,Nat.reduceAdd,Nat.reduceEqDiff]
      refine ⟨by unfold inI;omega,k+1,rnL [(2,4)],by omega,by omega, ?_⟩
      simp only [push_cast,Sub,subT,subB,subO,subP,inj,AV.ren,AV.rens,AV.lt,AV.lts,↓reduceIte,Nat.reduceLT,Nat.reduceEqDiff,reduceCtorEq,rnL,cast1,hst]
   ·have hst:frU ns p (t.args.map freeT) (k+1)=uniR (frU ns p (t.args.map freeT) k) (freeT t.args[k]!):=by rw [frU,if_neg hq,map_bang freeT hlt]
    refine sw_loop (fun i:Nat=>i=0) (fun i=>⟨55,[(8,.i i),(7,.sl 3),(6,.i k),(5,.sl 2),(4,.i p),(3,.sl 1),(1,.bx 0 0)],[(0,[.i t.kind,.s t.name,.s t.other,.i t.n,.i t.ty.kind,.br (.rows 2 t.ty.args.length (tysC t.ty.args)),.i t.res.kind,.br (.rows 2 t.res.args.length (tysC t.res.args)),.br (.rows 9 t.args.length (tmsC t.args))])],[(3,some ⟨.rows 1 (freeT t.args[k]!).length ((freeT t.args[k]!).map D.str),none,true⟩),(2,some ⟨.rows 1 (frU ns p (t.args.map freeT) k).length ((frU ns p (t.args.map freeT) k).map D.str),if k=0 then some 9 else none,true⟩),(1,some ⟨.rows 1 ns.length (ns.map D.str),none,true⟩)],4,[]⟩) (fun i=>0) 0 id rfl ?_ ?_
    ·simp only [push_cast,Sub,subT,subB,subO,subP,inj,AV.ren,AV.rens,AV.lt,AV.lts,↓reduceIte,Nat.reduceLT,Nat.reduceEqDiff]
    ·rintro i rfl
     refine sw_run 200 _ _ _ ?_
     by_cases hlt2:0<ns.length
     ·have hi2:(0:Int)<(ns.length:Int):=by omega
      simp only [push_cast,↓reduceIte,Nat.reduceLT,Nat.reduceEqDiff,hi2,hq]
      have hU:=con_UniteS (frU ns p (t.args.map freeT) k) (freeT t.args[k]!) (by omega) (by omega)
      simp only [strsD] at hU
      refine sw_run 200 _ _ _ ?_
      simp only [push_cast,↓reduceIte,Nat.reduceLT,Nat.reduceEqDiff]
      refine sw_call (hU) rfl (aAs_ok ?_) ?_ (sw_run 200 _ _ _ ?_)
      ·simp only [push_cast,aAs,aA,aD,↓reduceIte,Nat.reduceEqDiff]
      ·simp only [okR]
      simp only [push_cast,↓reduceIte,Nat.reduceLT,Nat.reduceAdd,Nat.reduceEqDiff]
      refine ⟨by unfold inI;omega,k+1,rnL [(2,4)],by omega,by omega, ?_⟩
      simp only [push_cast,Sub,subT,subB,subO,subP,inj,AV.ren,AV.rens,AV.lt,AV.lts,↓reduceIte,Nat.reduceLT,Nat.reduceEqDiff,reduceCtorEq,rnL,cast1,hst]
     ·have hi2:¬ (0:Int)<(ns.length:Int):=by omega
      simp only [push_cast,↓reduceIte,Nat.reduceLT,Nat.reduceEqDiff,hi2]
      have hU:=con_UniteS (frU ns p (t.args.map freeT) k) (freeT t.args[k]!) (by omega) (by omega)
      simp only [strsD] at hU
      refine sw_run 200 _ _ _ ?_
      simp only [push_cast,↓reduceIte,Nat.reduceLT,Nat.reduceEqDiff]
      refine sw_call (hU) rfl (aAs_ok ?_) ?_ (sw_run 200 _ _ _ ?_)
      ·simp only [push_cast,aAs,aA,aD,↓reduceIte,Nat.reduceEqDiff]
      ·simp only [okR]
      simp only [push_cast,↓reduceIte,Nat.reduceLT,Nat.reduceAdd,Nat.reduceEqDiff]
      refine ⟨by unfold inI;omega,k+1,rnL [(2,4)],by omega,by omega, ?_⟩
      simp only [push_cast,Sub,subT,subB,subO,subP,inj,AV.ren,AV.rens,AV.lt,AV.lts,↓reduceIte,Nat.reduceLT,Nat.reduceEqDiff,reduceCtorEq,rnL,cast1,hst]
  ·have hi:¬ (k:Int)<(t.args.length:Int):=by omega
   obtain rfl:k=t.args.length:=by omega
   simp only [push_cast,↓reduceIte,Nat.reduceLT,Nat.reduceEqDiff,hi]
   refine sw_run 200 _ _ _ ?_
   simp only [push_cast,↓reduceIte,Nat.reduceLT,Nat.reduceEqDiff,reduceCtorEq,hT,Tryz.results139]
theorem con_ClosedS (t:Tm) (hz:szL (tmC t)≤3000000):Con Tryz.prog 61 [.ag (tmC t)] [.one (.bool (decide (((freeT t).length:Int)=0)))]:=by
 have hc:=con_FreeS t hz
 simp only [strsD] at hc
 refine con_run Tryz.func61 rfl rfl (by simp [Tryz.ntmps61]) ?_
 simp only [push_cast,↓reduceIte,Nat.reduceLT,Nat.reduceAdd,Nat.reduceEqDiff,tmC_eq,Tryz.ntmps61]
 refine sw_call (hc) rfl (aAs_ok ?_) ?_ (sw_run 200 _ _ _ ?_)
 ·simp only [push_cast,aAs,aA,aDs,aD,↓reduceIte,tmC_eq]
 ·simp only [okR]
 simp only [push_cast,↓reduceIte,Nat.reduceLT,Nat.reduceAdd,reduceCtorEq,Tryz.results61]
theorem con_UniteP (a b:List ByteArray) (ha:sL a≤100000000) (hb:sL b≤100000000):ConP Tryz.prog 214 [.b (.one (strsD a)),.b (.one (strsD b))] [] [.one (.a 9 (strsD (uniR a b)))]:=by
 have hla:a.length≤sL a:=by rw [sL];omega
 have hlb:b.length≤sL b:=by rw [sL];omega
 have hcc:=con_Concat [a,b] (by simp only [List.flatten_cons,List.flatten_nil,List.append_nil,List.length_append];omega) (by simp)
 simp only [List.flatten_cons,List.flatten_nil,List.append_nil,List.length_cons,List.length_nil,List.map_cons,List.map_nil,strsD,Nat.zero_add,Nat.reduceAdd] at hcc
 refine con_runP Tryz.func214 rfl rfl (by simp [Tryz.ntmps214]) rfl ?_
 simp only [push_cast,s0P,mkPs,mkPA,↓reduceIte,Nat.reduceLT,Nat.reduceAdd,Nat.reduceLeDiff,Nat.reduceEqDiff,reduceCtorEq,Tryz.ntmps214]
 refine sw_call (hcc) rfl (aAs_ok ?_) ?_ (sw_run 200 _ _ _ ?_)
 ·simp only [push_cast,aAs,aA,aD,↓reduceIte]
 ·simp only [okR]
 simp only [push_cast,↓reduceIte,Nat.reduceLT,Nat.reduceAdd]
 refine sw_loop (fun k:Nat=>k≤(a++b).length) (fun k=>⟨28,[(14,.i k),(13,.i (a++b).length),(12,.sl 0),(5,.sl 1)],[],[(0,some ⟨.rows 1 (a++b).length ((a++b).map D.str),none,true⟩),(1,some ⟨.rows 1 (uni [] (a++b) k).length ((uni [] (a++b) k).map D.str),some 9,true⟩)],2,[]⟩) (fun k=>(a++b).length-k) 0 (rnL [(0,2),(1,0)]) (Nat.zero_le _) ?_ ?_
 ·simp only [push_cast,Sub,subT,subB,subO,subP,inj,AV.ren,AV.lt,↓reduceIte,Nat.reduceLT,Nat.reduceEqDiff,reduceCtorEq,rnL,uni,List.length_nil,List.map_nil,List.length_append,List.map_append]
 ·rintro k hk
  refine sw_run 200 _ _ _ ?_
  by_cases hlt:k<(a++b).length
  ·have hi:(k:Int)<((a++b).length:Int):=by omega
   have hab:(a++b).length=a.length+b.length:=List.length_append
   have hR:=strs_row (a++b) k hlt
   have hsz:=uni_sz [] (a++b) k hk
   rw [sL_app] at hsz
   have h0:sL []=0:=rfl
   have hlu:(uni [] (a++b) k).length≤sL (uni [] (a++b) k):=by rw [sL];omega
   have hct:=con_Contains (uni [] (a++b) k) (a++b)[k]! (by omega)
   have hst:uni [] (a++b) (k+1)=if 0≤fi (a++b)[k]! (uni [] (a++b) k) 0 then uni [] (a++b) k else uni [] (a++b) k++[(a++b)[k]!]:=rfl
   by_cases hc:0≤fi (a++b)[k]! (uni [] (a++b) k) 0
   ·rw [decide_eq_true hc] at hct
    rw [if_pos hc] at hst
    simp only [push_cast,↓reduceIte,Nat.reduceLT,Nat.reduceEqDiff,hi,hR]
    refine sw_call (hct) rfl (aAs_ok ?_) ?_ (sw_run 200 _ _ _ ?_)
    ·simp only [push_cast,aAs,aA,aD,↓reduceIte,Nat.reduceEqDiff]
    ·simp only [okR]
    simp only [push_cast,↓reduceIte,Nat.reduceLT,Nat.reduceEqDiff]
    refine ⟨by unfold inI;omega,k+1,id,by omega,by omega, ?_⟩
    simp only [push_cast,Sub,subT,subB,subO,subP,inj,AV.ren,AV.lt,↓reduceIte,Nat.reduceLT,Nat.reduceEqDiff,reduceCtorEq,cast1,hst]
   ·rw [decide_eq_false hc] at hct
    rw [if_neg hc] at hst
    simp only [push_cast,↓reduceIte,Nat.reduceLT,Nat.reduceEqDiff,hi,hR]
    refine sw_call (hct) rfl (aAs_ok ?_) ?_ (sw_run 200 _ _ _ ?_)
    ·simp only [push_cast,aAs,aA,aD,↓reduceIte,Nat.reduceEqDiff]
    ·simp only [okR]
    simp only [push_cast,↓reduceIte,Nat.reduceLT,Nat.reduceAdd,Nat.reduceLeDiff,Nat.reduceEqDiff,reduceCtorEq]
    refine ⟨⟨fun _ d hd=>by rw [hd];rfl,fun o ho=>by omega,by unfold maxLen;omega,by omega⟩,by unfold inI;omega,k+1,rnL [(1,3)],by omega,by omega, ?_⟩
    simp only [push_cast,Sub,subT,subB,subO,subP,inj,AV.ren,AV.lt,↓reduceIte,Nat.reduceLT,Nat.reduceEqDiff,reduceCtorEq,rnL,cast1,hst,List.length_append,List.map_append,List.map_cons,List.map_nil]
  ·have hi:¬ (k:Int)<((a++b).length:Int):=by omega
   obtain rfl:k=(a++b).length:=by omega
   simp only [push_cast,↓reduceIte,Nat.reduceLT,Nat.reduceEqDiff,hi]
   refine sw_run 200 _ _ _ ?_
   simp only [push_cast,fQP,xRetP,rRs,rOs,rC,eRs,eOs,eC,↓reduceIte,Nat.reduceLT,Nat.reduceEqDiff,reduceCtorEq,uniR,Tryz.results214]
theorem con_FreeP:∀ t:Tm,szL (tmC t)≤3000000→ConP Tryz.prog 135 [.b (.ag (tmC t))] [] [.one (.a 9 (strsD (freeT t)))]:=by
 refine Tm.ind fun t ih hz => ?_
 obtain ⟨h5,h7,h8⟩:=sz_parts hz
 have hT:=freeT_eq t
 have hB:=con_bdI t (by omega)
 rw [frF] at hT
 by_cases h1:t.kind=1
 ·rw [if_pos h1] at hT
  refine con_runP Tryz.func135 rfl rfl (by simp [Tryz.ntmps135]) rfl ?_
  simp only [push_cast,s0P,mkPs,mkPA,fQP,xRetP,rRs,rOs,rC,eRs,eOs,eC,↓reduceIte,Nat.reduceLT,Nat.reduceAdd,Nat.reduceLeDiff,Nat.reduceEqDiff,reduceCtorEq,tmC_eq,hT,eq_true h1,List.length_cons,List.map_cons,Tryz.ntmps135,Tryz.results135]
 rw [if_neg h1,List.length_map] at hT
 have hnl:(bdN t.kind t.name t.other t.args.length).length≤2:=by rw [bdN];split <;> (try split) <;> (try split) <;> simp
 generalize hn:bdN t.kind t.name t.other t.args.length=ns at hT hB hnl
 generalize hp:bdP t.kind t.args.length=p at hT hB
 simp only [strsD] at hB
 refine con_runP Tryz.func135 rfl rfl (by simp [Tryz.ntmps135]) rfl ?_
 simp only [push_cast,s0P,mkPs,mkPA,↓reduceIte,Nat.reduceLT,Nat.reduceAdd,Nat.reduceEqDiff,tmC_eq,h1,Tryz.ntmps135]
 refine sw_call (hB) rfl (aAs_ok ?_) ?_ (sw_run 200 _ _ _ ?_)
 ·simp only [push_cast,aAs,aA,aDs,aD,↓reduceIte,tmC_eq]
 ·simp only [okR]
 simp only [push_cast,↓reduceIte,Nat.reduceLT,Nat.reduceAdd,Nat.reduceEqDiff,reduceCtorEq]
 refine sw_loop (fun k:Nat=>k≤t.args.length) (fun k=>⟨42,[(24,.i k),(23,.i t.args.length),(22,.br (.rows 9 t.args.length (tmsC t.args))),(5,.sl 2),(4,.i p),(3,.bx 0 0)],[(0,[.sl 1])],[(2,some ⟨.rows 1 (frU ns p (t.args.map freeT) k).length ((frU ns p (t.args.map freeT) k).map D.str),some 9,true⟩),(1,some ⟨.rows 1 ns.length (ns.map D.str),none,true⟩)],3,[]⟩) (fun k=>t.args.length-k) 0 (rnL [(0,2),(2,3)]) (Nat.zero_le _) ?_ ?_
 ·simp only [push_cast,Sub,subT,subB,subO,subP,inj,AV.ren,AV.rens,AV.lt,AV.lts,↓reduceIte,Nat.reduceLT,Nat.reduceEqDiff,rnL,frU,List.length_nil,List.map_nil]
 ·rintro k hk
  refine sw_run 200 _ _ _ ?_
  by_cases hlt:k<t.args.length
  ·have hi:(k:Int)<(t.args.length:Int):=by omega
   have hR:=tmsC_row' t.args k hlt
   have hm:=mem_bang hlt
   have hs:=szL_tms' t.args k hlt
   have hrec:=ih _ hm (by omega)
   have hfs:=free_sz t.args[k]!
   have hfl:(freeT t.args[k]!).length≤sL (freeT t.args[k]!):=by rw [sL];omega
   have hwz:=woL_sz ns (freeT t.args[k]!)
   have hus:=frU_sz ns p (t.args.map freeT) k (by rw [List.length_map];omega)
   have hu2:=sum_take (t.args.map freeT) k
   have hu3:=free_szs t.args
   rw [freeTs_map] at hu3
   simp only [strsD] at hrec
   simp only [push_cast,↓reduceIte,Nat.reduceLT,Nat.reduceAdd,Nat.reduceEqDiff,hi,hR,tmC_eq]
   refine sw_callP (hrec) rfl rfl rfl rfl ?_ ?_ ?_ (sw_run 200 _ _ _ ?_)
   ·simp only [push_cast,AS.kb,rmBs,mPs,mP,ePs,eP,bPs,bP,aA,aDs,aD,↓reduceIte,tmC_eq]
   ·simp only [push_cast,ePs,eP,↓reduceIte,tmC_eq]
   ·simp only [push_cast,bPs,bP,↓reduceIte,tmC_eq]
   by_cases hq:(k:Int)=p
   ·have hD:=con_DelNm ns (freeT t.args[k]!) (by omega) (by omega)
    simp only [strsD] at hD
    simp only [push_cast,mkC,aftS,aftV,AS.kb,rmBs,mkO,packRA,flatR,ePs,eP,bPs,bP,↓reduceIte,Nat.reduceLT,Nat.reduceAdd,Nat.reduceEqDiff,eq_true hq]
    refine sw_callP (hD) rfl rfl rfl rfl ?_ ?_ ?_ (sw_run 200 _ _ _ ?_)
    ·simp only [push_cast,rC,eC,AS.kb,rmBs,mPs,mP,ePs,eP,bPs,bP,aAs,aA,aD,↓reduceIte,Nat.reduceEqDiff,reduceCtorEq]
    ·simp only [push_cast,eC,ePs,eP,↓reduceIte,Nat.reduceEqDiff]
    ·simp only [push_cast,bPs,bP,↓reduceIte,Nat.reduceEqDiff]
    have hst:frU ns p (t.args.map freeT) (k+1)=uniR (frU ns p (t.args.map freeT) k) (woL ns (freeT t.args[k]!)):=by rw [frU,if_pos hq,map_bang freeT hlt]
    have hU:=con_UniteP (frU ns p (t.args.map freeT) k) (woL ns (freeT t.args[k]!)) (by omega) (by omega)
    simp only [strsD] at hU
    simp only [push_cast,mkC,eC,aftS,aftV,AS.kb,rmBs,mkO,packRA,flatR,ePs,eP,bPs,bP,↓reduceIte,Nat.reduceLT,Nat.reduceAdd,Nat.reduceEqDiff]
    refine sw_callP (hU) rfl rfl rfl rfl ?_ ?_ ?_ (sw_run 200 _ _ _ ?_)
    ·simp only [push_cast,AS.kb,rmBs,mPs,mP,ePs,eP,bPs,bP,aA,aD,↓reduceIte,Nat.reduceEqDiff]
    ·simp only [push_cast,ePs,eP,↓reduceIte,Nat.reduceEqDiff]
    ·simp only [push_cast,bPs,bP,↓reduceIte,Nat.reduceEqDiff]
    simp only [push_cast,mkC,aftS,aftV,AS.kb,rmBs,mkO,packRA,flatR,ePs,eP,bPs,bP,↓reduceIte,Nat.reduceLT,Nat.reduceAdd,Nat.reduceEqDiff]
    refine ⟨by unfold inI;omega,k+1,rnL [(2,6)],by omega,by omega, ?_⟩
    simp only [push_cast,Sub,subT,subB,subO,subP,inj,AV.ren,AV.rens,AV.lt,AV.lts,↓reduceIte,Nat.reduceLT,Nat.reduceEqDiff,reduceCtorEq,rnL,cast1,hst]
   ·have hst:frU ns p (t.args.map freeT) (k+1)=uniR (frU ns p (t.args.map freeT) k) (freeT t.args[k]!):=by rw [frU,if_neg hq,map_bang freeT hlt]
    have hU:=con_UniteP (frU ns p (t.args.map freeT) k) (freeT t.args[k]!) (by omega) (by omega)
    simp only [strsD] at hU
    simp only [push_cast,mkC,aftS,aftV,AS.kb,rmBs,mkO,packRA,flatR,ePs,eP,bPs,bP,↓reduceIte,Nat.reduceLT,Nat.reduceAdd,Nat.reduceEqDiff,hq]
    refine sw_callP (hU) rfl rfl rfl rfl ?_ ?_ ?_ (sw_run 200 _ _ _ ?_)
    ·simp only [push_cast,AS.kb,rmBs,mPs,mP,ePs,eP,bPs,bP,aA,aD,↓reduceIte,Nat.reduceEqDiff]
    ·simp only [push_cast,ePs,eP,↓reduceIte,Nat.reduceEqDiff]
    ·simp only [push_cast,bPs,bP,↓reduceIte,Nat.reduceEqDiff]
    simp only [push_cast,mkC,aftS,aftV,AS.kb,rmBs,mkO,packRA,flatR,ePs,eP,bPs,bP,↓reduceIte,Nat.reduceLT,Nat.reduceAdd,Nat.reduceEqDiff]
    refine ⟨by unfold inI;omega,k+1,rnL [(2,5)],by omega,by omega, ?_⟩
    simp only [push_cast,Sub,subT,subB,subO,subP,inj,AV.ren,AV.rens,AV.lt,AV.lts,↓reduceIte,Nat.reduceLT,Nat.reduceEqDiff,reduceCtorEq,rnL,cast1,hst]
  ·have hi:¬ (k:Int)<(t.args.length:Int):=by omega
   obtain rfl:k=t.args.length:=by omega
   simp only [push_cast,↓reduceIte,Nat.reduceLT,Nat.reduceEqDiff,hi]
   refine sw_run 200 _ _ _ ?_
   simp only [push_cast,fQP,xRetP,rRs,rOs,rC,eRs,eOs,eC,↓reduceIte,Nat.reduceLT,Nat.reduceEqDiff,reduceCtorEq,hT,Tryz.results135]
theorem con_ClosedI (t:Tm) (hz:szL (tmC t)≤3000000):Con Tryz.prog 57 [.ag (tmC t)] [.one (.bool (decide (((freeT t).length:Int)=0)))]:=by
 have hc:=con_FreeP t hz
 simp only [strsD] at hc
 refine con_run Tryz.func57 rfl rfl (by simp [Tryz.ntmps57]) ?_
 simp only [push_cast,↓reduceIte,Nat.reduceLT,Nat.reduceAdd,Nat.reduceEqDiff,tmC_eq,Tryz.ntmps57]
 refine sw_callP (hc) rfl rfl rfl rfl ?_ ?_ ?_ (sw_run 200 _ _ _ ?_)
 ·simp only [push_cast,AS.kb,rmBs,mPs,mP,ePs,eP,bPs,bP,aA,aDs,aD,↓reduceIte,tmC_eq]
 ·simp only [push_cast,ePs,eP,↓reduceIte,tmC_eq]
 ·simp only [push_cast,bPs,bP,↓reduceIte,tmC_eq]
 simp only [push_cast,mkC,aftS,aftV,AS.kb,rmBs,mkO,packRA,flatR,ePs,eP,bPs,bP,↓reduceIte,Nat.reduceLT,Nat.reduceAdd,reduceCtorEq,Tryz.results57]
theorem con_CompI (e : Tm) (hz : szL (tmC e) ≤ 2000000) : Con Tryz.prog 9 [.ag (tmC e)] [.one (inssD (cmR e).1), .one (.bool (cmR e).2)] := by
  have hC := con_ClosedI e (by omega)
  unfold cmR cmB inssD
  have hP : Con Tryz.prog 56 [.ag (tmC e)] [.one (.bool (plT e))] := by rw [← pl_same]; exact con_IsPlainI e (by omega)
  cases hp : plT e with
  | false =>
    rw [hp] at hP
    simp only [Bool.false_and, Bool.false_eq_true, if_false, List.length_nil, flC]
    refine con_run Tryz.func9 rfl rfl (by simp [Tryz.ntmps9]) ?_
    simp only [push_cast, ↓reduceIte, Nat.reduceLT, Nat.reduceAdd, Nat.reduceEqDiff, tmC_eq, Tryz.ntmps9]
    refine sw_call (hP) rfl (aAs_ok ?_) ?_ (sw_run 200 _ _ _ ?_)
    · simp only [push_cast, aAs, aA, aDs, aD, ↓reduceIte, tmC_eq]
    · simp only [okR]
    simp only [push_cast, ↓reduceIte, Nat.reduceLT, Nat.reduceEqDiff, reduceCtorEq, Tryz.results9]
  | true =>
  rw [hp] at hP
  by_cases hl : ((freeT e).length : Int) = 0
  case neg =>
    rw [decide_eq_false hl] at hC
    simp only [decide_eq_false hl, Bool.and_false, Bool.false_eq_true, if_false, List.length_nil, flC]
    refine con_run Tryz.func9 rfl rfl (by simp [Tryz.ntmps9]) ?_
    simp only [push_cast, ↓reduceIte, Nat.reduceLT, Nat.reduceAdd, Nat.reduceEqDiff, tmC_eq, Tryz.ntmps9]
    refine sw_call (hP) rfl (aAs_ok ?_) ?_ (sw_run 200 _ _ _ ?_)
    · simp only [push_cast, aAs, aA, aDs, aD, ↓reduceIte, tmC_eq]
    · simp only [okR]
    simp only [push_cast, ↓reduceIte, Nat.reduceLT, Nat.reduceAdd, Nat.reduceEqDiff]
    refine sw_call (hC) rfl (aAs_ok ?_) ?_ (sw_run 200 _ _ _ ?_)
    · simp only [push_cast, aAs, aA, aDs, aD, ↓reduceIte, Nat.reduceEqDiff, tmC_eq]
    · simp only [okR]
    simp only [push_cast, ↓reduceIte, Nat.reduceLT, Nat.reduceEqDiff, reduceCtorEq, Tryz.results9]
  rw [decide_eq_true hl] at hC
  simp only [decide_eq_true hl, Bool.and_true, if_true]
  have hf : freeT e = [] := List.eq_nil_of_length_eq_zero (by omega)
  obtain ⟨hr, hcv, hok⟩ := okS_first hz hp hf
  have c0 := con_cpI e [] ⟨[], []⟩ hr hp hcv
  have hin := inL_first hok
  obtain ⟨s1, hs1⟩ : ∃ s1, s1 = cpT e [] ⟨[], []⟩ := ⟨_, rfl⟩
  rw [← hs1] at c0 hin hok
  have hb := hok.code
  rw [putC_len] at hb
  have hPut := con_putC s1 10 0 (by omega)
  simp only [strsD, csP_eq, List.length_nil, List.map_nil, flC] at c0
  refine con_run Tryz.func9 rfl rfl (by simp [Tryz.ntmps9]) ?_
  simp only [push_cast, ↓reduceIte, Nat.reduceLT, Nat.reduceAdd, Nat.reduceEqDiff, tmC_eq, Tryz.ntmps9]
  refine sw_call (hP) rfl (aAs_ok ?_) ?_ (sw_run 200 _ _ _ ?_)
  · simp only [push_cast, aAs, aA, aDs, aD, ↓reduceIte, tmC_eq]
  · simp only [okR]
  simp only [push_cast, ↓reduceIte, Nat.reduceLT, Nat.reduceAdd, Nat.reduceEqDiff]
  refine sw_call (hC) rfl (aAs_ok ?_) ?_ (sw_run 200 _ _ _ ?_)
  · simp only [push_cast, aAs, aA, aDs, aD, ↓reduceIte, Nat.reduceEqDiff, tmC_eq]
  · simp only [okR]
  simp only [push_cast, ↓reduceIte, Nat.reduceLT, Nat.reduceAdd, Nat.reduceEqDiff, reduceCtorEq]
  refine sw_callPR (c0) rfl rfl rfl ?_ ?_ ?_ (sw_run 200 _ _ _ ?_)
  · simp only [push_cast, mPs, mP, rCs, rC, aA, aDs, aD, AS.em, ↓reduceIte, Nat.reduceEqDiff, tmC_eq]
  · simp only [push_cast, eCs, eC, ePs, eP, ↓reduceIte, Nat.reduceEqDiff, tmC_eq]
  · simp only [push_cast, bPs, bP, ↓reduceIte, Nat.reduceEqDiff, tmC_eq]
  simp only [push_cast, mkC, eC, eCs, aftS, aftV, AS.kb, rmBs, rmB, mkO, packRA, flatR, ePs, eP, bPs, bP, ↓reduceIte, Nat.reduceLT, Nat.reduceAdd, Nat.reduceEqDiff, reduceCtorEq, tmC_eq]
  refine sw_callV (hPut) rfl rfl rfl rfl rfl (by decide) ?_ (sw_run 200 _ _ _ ?_)
  · simp only [push_cast, AS.kb, rmBs, rmB, mPs, mP, aA, aD, ↓reduceIte, reduceCtorEq]
  simp only [push_cast, AS.kb, rmBs, rmB, ↓reduceIte, Nat.reduceLT, Nat.reduceAdd, reduceCtorEq, aftV2]
  refine sw_loop (fun p : Nat × Nat × CS => InL e p.1 p.2.1 p.2.2) (fun p => ⟨77, [(5, .i p.2.1), (4, .bx 1 0)], [(1, [.sl 2, .sl 3])], [(2, some ⟨.rows 2 p.2.2.code.length (flC insC p.2.2.code), some 37, true⟩), (3, some ⟨.rows 11 p.2.2.q.length (flC wtC p.2.2.q), some 96, false⟩)], 4, []⟩) (fun p => p.1) (400, 0, putC s1 10 0) (rnL [(2, 4)]) hin ?_ ?_
  · simp only [push_cast, Sub, subT, subB, subO, subP, inj, AV.ren, AV.rens, AV.lt, AV.lts, ↓reduceIte, Nat.reduceLT, Nat.reduceEqDiff, rnL, putC_q]
  · rintro ⟨f, i, s⟩ hI
    simp only at hI
    refine sw_run 200 _ _ _ ?_
    have hle := hI.le
    have hok2 := hI.ok
    have hcs := hok2.code
    have hqs := hok2.q
    have his := hok2.some
    by_cases hlt : i < s.q.length
    · have hi2 : (i : Int) < (s.q.length : Int) := by omega
      by_cases h300 : s.code.length ≤ 300
      · have hc3 : (s.code.length : Int) ≤ 300 := by omega
        have hR := wtC_row s.q i hlt
        have hm := mem_bang hlt
        obtain ⟨f', rfl, hst⟩ := inL_step hI hlt h300
        have hrm := fun k a => okS_room hok2 hm h300 k a
        obtain ⟨_, hp0, hp1⟩ := hok2.wt _ hm
        obtain ⟨x, hx⟩ : ∃ x, x = s.q[i]! := ⟨_, rfl⟩
        rw [← hx] at hR hm hst hrm hp0 hp1
        obtain ⟨hroom, hpl, hcov⟩ := hrm x.pl.toNat s.code.length
        have c1 := con_cpI x.body x.nms (setA s x.pl.toNat s.code.length) hroom hpl hcov
        have w1 := set_code s x.pl.toNat s.code.length (by omega)
        obtain ⟨s2, hs2⟩ : ∃ s2, s2 = cpT x.body x.nms (setA s x.pl.toNat s.code.length) := ⟨_, rfl⟩
        rw [← hs2] at c1 hst
        have hb2 := hst.ok.code
        rw [putC_len] at hb2
        have hP2 := con_putC s2 10 0 (by omega)
        simp only [strsD, csP_eq, setA_q, setA_len] at c1
        simp only [push_cast, ↓reduceIte, Nat.reduceLT, Nat.reduceAdd, Nat.reduceEqDiff, hi2, hc3, hR]
        refine sw_drawn (.cons 0 true (.cons 1 true (.cons 2 true (.cons 3 true (.cons 4 true (.cons 5 true (.cons 6 true (.cons 7 true (.cons 8 true (.cons 9 true (.cons 10 true (.cons 11 true (.cons 12 true (.cons 13 false (.nil))))))))))))))) (by kernel_rfl) qLp_panic (by kernel_rfl) (sw_run 200 _ _ _ ?_)
        simp only [push_cast, ↓reduceIte, Nat.reduceLT, Nat.reduceAdd, Nat.reduceEqDiff, hp0, hp1, w1]
        refine sw_callPR (c1) rfl rfl rfl ?_ ?_ ?_ (sw_run 200 _ _ _ ?_)
        · simp only [push_cast, mPs, mP, rCs, rC, aA, aDs, aD, AS.em, ↓reduceIte, Nat.reduceEqDiff, tmC_eq]
        · simp only [push_cast, eCs, eC, ePs, eP, ↓reduceIte, Nat.reduceEqDiff, tmC_eq]
        · simp only [push_cast, bPs, bP, ↓reduceIte, Nat.reduceEqDiff, tmC_eq]
        simp only [push_cast, mkC, eC, eCs, aftS, aftV, AS.kb, rmBs, rmB, mkO, packRA, flatR, ePs, eP, bPs, bP, ↓reduceIte, Nat.reduceLT, Nat.reduceAdd, Nat.reduceEqDiff]
        refine sw_callV (hP2) rfl rfl rfl rfl rfl (by decide) ?_ (sw_run 200 _ _ _ ?_)
        · simp only [push_cast, AS.kb, rmBs, rmB, mPs, mP, aA, aD, ↓reduceIte, Nat.reduceEqDiff]
        simp only [push_cast, AS.kb, rmBs, rmB, ↓reduceIte, Nat.reduceLT, Nat.reduceAdd, Nat.reduceEqDiff, aftV2]
        refine ⟨by unfold inI; omega, (f', i + 1, putC s2 10 0), rnL [(2, 7), (3, 6)], hst, by simp only; omega, ?_⟩
        simp only [push_cast, Sub, subT, subB, subO, subP, inj, AV.ren, AV.rens, AV.lt, AV.lts, ↓reduceIte, Nat.reduceLT, Nat.reduceEqDiff, rnL, cast1, putC_q]
      · have hc3 : ¬ (s.code.length : Int) ≤ 300 := by omega
        have hd := inL_done hI (fun h => h300 h.2)
        have h4 : 300 < s.code.length := by omega
        have h5 : (300 : Int) < (s.code.length : Int) := by omega
        simp only [push_cast, ↓reduceIte, Nat.reduceLT, Nat.reduceEqDiff, hi2, hc3]
        refine sw_run 200 _ _ _ ?_
        simp only [push_cast, ↓reduceIte, Nat.reduceLT, Nat.reduceEqDiff, reduceCtorEq, ← hd, h4, h5, flC, Tryz.results9]
    · have hi2 : ¬ (i : Int) < (s.q.length : Int) := by omega
      have hd := inL_done hI (fun h => hlt h.1)
      simp only [push_cast, ↓reduceIte, Nat.reduceLT, Nat.reduceEqDiff, hi2]
      refine sw_run 200 _ _ _ ?_
      by_cases h4 : 300 < s.code.length
      · have h5 : (300 : Int) < (s.code.length : Int) := by omega
        simp only [push_cast, ↓reduceIte, Nat.reduceLT, Nat.reduceEqDiff, reduceCtorEq, ← hd, h4, h5, flC, Tryz.results9]
      · have h5 : ¬ (300 : Int) < (s.code.length : Int) := by omega
        simp only [push_cast, ↓reduceIte, Nat.reduceLT, Nat.reduceEqDiff, reduceCtorEq, ← hd, h4, h5, Tryz.results9]
theorem con_CompS (e : Tm) (hz : szL (tmC e) ≤ 2000000) : Con Tryz.prog 10 [.ag (tmC e)] [.one (inssD (cmR e).1), .one (.bool (cmR e).2)] := by
  have hC := con_ClosedS e (by omega)
  unfold cmR cmB inssD
  have hP : Con Tryz.prog 60 [.ag (tmC e)] [.one (.bool (plT e))] := con_IsPlainS e (by omega)
  cases hp : plT e with
  | false =>
    rw [hp] at hP
    simp only [Bool.false_and, Bool.false_eq_true, if_false, List.length_nil, flC]
    refine con_run Tryz.func10 rfl rfl (by simp [Tryz.ntmps10]) ?_
    simp only [push_cast, ↓reduceIte, Nat.reduceLT, Nat.reduceAdd, Nat.reduceEqDiff, tmC_eq, Tryz.ntmps10]
    refine sw_call (hP) rfl (aAs_ok ?_) ?_ (sw_run 200 _ _ _ ?_)
    · simp only [push_cast, aAs, aA, aDs, aD, ↓reduceIte, tmC_eq]
    · simp only [okR]
    simp only [push_cast, ↓reduceIte, Nat.reduceLT, Nat.reduceAdd, Nat.reduceEqDiff, reduceCtorEq, Tryz.results10]
  | true =>
  rw [hp] at hP
  by_cases hl : ((freeT e).length : Int) = 0
  case neg =>
    rw [decide_eq_false hl] at hC
    simp only [decide_eq_false hl, Bool.and_false, Bool.false_eq_true, if_false, List.length_nil, flC]
    refine con_run Tryz.func10 rfl rfl (by simp [Tryz.ntmps10]) ?_
    simp only [push_cast, ↓reduceIte, Nat.reduceLT, Nat.reduceAdd, Nat.reduceEqDiff, tmC_eq, Tryz.ntmps10]
    refine sw_call (hP) rfl (aAs_ok ?_) ?_ (sw_run 200 _ _ _ ?_)
    · simp only [push_cast, aAs, aA, aDs, aD, ↓reduceIte, tmC_eq]
    · simp only [okR]
    simp only [push_cast, ↓reduceIte, Nat.reduceLT, Nat.reduceAdd, Nat.reduceEqDiff]
    refine sw_call (hC) rfl (aAs_ok ?_) ?_ (sw_run 200 _ _ _ ?_)
    · simp only [push_cast, aAs, aA, aDs, aD, ↓reduceIte, Nat.reduceEqDiff, tmC_eq]
    · simp only [okR]
    simp only [push_cast, ↓reduceIte, Nat.reduceLT, Nat.reduceAdd, Nat.reduceEqDiff, reduceCtorEq, Tryz.results10]
  rw [decide_eq_true hl] at hC
  simp only [decide_eq_true hl, Bool.and_true, if_true]
  have hf : freeT e = [] := List.eq_nil_of_length_eq_zero (by omega)
  obtain ⟨hr, hcv, hok⟩ := okS_first hz hp hf
  have c0 := con_cpS e [] ⟨[], []⟩ hr hp hcv
  have hin := inL_first hok
  obtain ⟨s1, hs1⟩ : ∃ s1, s1 = cpT e [] ⟨[], []⟩ := ⟨_, rfl⟩
  rw [← hs1] at c0 hin hok
  have hb := hok.code
  rw [putC_len] at hb
  have hPut := con_putS s1 10 0 (by omega)
  simp only [strsD, csP_eq, List.length_nil, List.map_nil, flC] at c0
  refine con_run Tryz.func10 rfl rfl (by simp [Tryz.ntmps10]) ?_
  simp only [push_cast, ↓reduceIte, Nat.reduceLT, Nat.reduceAdd, Nat.reduceEqDiff, tmC_eq, Tryz.ntmps10]
  refine sw_call (hP) rfl (aAs_ok ?_) ?_ (sw_run 200 _ _ _ ?_)
  · simp only [push_cast, aAs, aA, aDs, aD, ↓reduceIte, tmC_eq]
  · simp only [okR]
  simp only [push_cast, ↓reduceIte, Nat.reduceLT, Nat.reduceAdd, Nat.reduceEqDiff]
  refine sw_call (hC) rfl (aAs_ok ?_) ?_ (sw_run 200 _ _ _ ?_)
  · simp only [push_cast, aAs, aA, aDs, aD, ↓reduceIte, Nat.reduceEqDiff, tmC_eq]
  · simp only [okR]
  simp only [push_cast, ↓reduceIte, Nat.reduceLT, Nat.reduceAdd, Nat.reduceEqDiff, reduceCtorEq]
  refine sw_fzE 2 rfl ?_
  simp only [push_cast, AS.fz, fzT, fzB, AV.fz, AV.fzs, ↓reduceIte]
  refine sw_callPR (c0) rfl rfl rfl ?_ ?_ ?_ (sw_run 200 _ _ _ ?_)
  · simp only [push_cast, mPs, mP, rCs, rC, aA, aDs, aD, AS.em, ↓reduceIte, Nat.reduceEqDiff, tmC_eq]
  · simp only [push_cast, eCs, eC, ePs, eP, ↓reduceIte, Nat.reduceEqDiff, tmC_eq]
  · simp only [push_cast, bPs, bP, ↓reduceIte, Nat.reduceEqDiff, tmC_eq]
  simp only [push_cast, mkC, eC, eCs, aftS, aftV, AS.kb, rmBs, rmB, mkO, packRA, flatR, ePs, eP, bPs, bP, ↓reduceIte, Nat.reduceLT, Nat.reduceAdd, Nat.reduceEqDiff, reduceCtorEq, tmC_eq]
  refine sw_callV (hPut) rfl rfl rfl rfl rfl (by decide) ?_ (sw_run 200 _ _ _ ?_)
  · simp only [push_cast, AS.kb, rmBs, rmB, mPs, mP, aA, aD, ↓reduceIte, reduceCtorEq]
  simp only [push_cast, AS.kb, rmBs, rmB, ↓reduceIte, Nat.reduceLT, Nat.reduceAdd, reduceCtorEq, aftV2]
  refine sw_loop (fun p : Nat × Nat × CS => InL e p.1 p.2.1 p.2.2) (fun p => ⟨80, [(5, .i p.2.1), (4, .bx 1 0)], [(1, [.sl 2, .sl 3])], [(2, some ⟨.rows 2 p.2.2.code.length (flC insC p.2.2.code), some 37, true⟩), (3, some ⟨.rows 11 p.2.2.q.length (flC wtC p.2.2.q), some 104, false⟩)], 4, []⟩) (fun p => p.1) (400, 0, putC s1 10 0) (rnL [(2, 5), (3, 4)]) hin ?_ ?_
  · simp only [push_cast, Sub, subT, subB, subO, subP, inj, AV.ren, AV.rens, AV.lt, AV.lts, ↓reduceIte, Nat.reduceLT, Nat.reduceEqDiff, rnL, putC_q]
  · rintro ⟨f, i, s⟩ hI
    simp only at hI
    refine sw_run 200 _ _ _ ?_
    have hle := hI.le
    have hok2 := hI.ok
    have hcs := hok2.code
    have hqs := hok2.q
    have his := hok2.some
    by_cases hlt : i < s.q.length
    · have hi2 : (i : Int) < (s.q.length : Int) := by omega
      by_cases h300 : s.code.length ≤ 300
      · have hc3 : (s.code.length : Int) ≤ 300 := by omega
        have hR := wtC_row s.q i hlt
        have hm := mem_bang hlt
        obtain ⟨f', rfl, hst⟩ := inL_step hI hlt h300
        have hrm := fun k a => okS_room hok2 hm h300 k a
        obtain ⟨_, hp0, hp1⟩ := hok2.wt _ hm
        obtain ⟨x, hx⟩ : ∃ x, x = s.q[i]! := ⟨_, rfl⟩
        rw [← hx] at hR hm hst hrm hp0 hp1
        obtain ⟨hroom, hpl, hcov⟩ := hrm x.pl.toNat s.code.length
        have c1 := con_cpS x.body x.nms (setA s x.pl.toNat s.code.length) hroom hpl hcov
        have w1 := set_code s x.pl.toNat s.code.length (by omega)
        obtain ⟨s2, hs2⟩ : ∃ s2, s2 = cpT x.body x.nms (setA s x.pl.toNat s.code.length) := ⟨_, rfl⟩
        rw [← hs2] at c1 hst
        have hb2 := hst.ok.code
        rw [putC_len] at hb2
        have hP2 := con_putS s2 10 0 (by omega)
        simp only [strsD, csP_eq, setA_q, setA_len] at c1
        simp only [push_cast, ↓reduceIte, Nat.reduceLT, Nat.reduceAdd, Nat.reduceEqDiff, hi2, hc3, hR]
        refine sw_drawn (.cons 0 true (.cons 1 true (.cons 2 true (.cons 3 true (.cons 4 true (.cons 5 true (.cons 6 true (.cons 7 true (.cons 8 true (.cons 9 true (.cons 10 true (.cons 11 true (.cons 12 true (.cons 13 false (.nil))))))))))))))) (by kernel_rfl) qLp_panic (by kernel_rfl) (sw_run 200 _ _ _ ?_)
        simp only [push_cast, ↓reduceIte, Nat.reduceLT, Nat.reduceAdd, Nat.reduceEqDiff, hp0, hp1, w1]
        refine sw_callPR (c1) rfl rfl rfl ?_ ?_ ?_ (sw_run 200 _ _ _ ?_)
        · simp only [push_cast, mPs, mP, rCs, rC, aA, aDs, aD, AS.em, ↓reduceIte, Nat.reduceEqDiff, tmC_eq]
        · simp only [push_cast, eCs, eC, ePs, eP, ↓reduceIte, Nat.reduceEqDiff, tmC_eq]
        · simp only [push_cast, bPs, bP, ↓reduceIte, Nat.reduceEqDiff, tmC_eq]
        simp only [push_cast, mkC, eC, eCs, aftS, aftV, AS.kb, rmBs, rmB, mkO, packRA, flatR, ePs, eP, bPs, bP, ↓reduceIte, Nat.reduceLT, Nat.reduceAdd, Nat.reduceEqDiff]
        refine sw_callV (hP2) rfl rfl rfl rfl rfl (by decide) ?_ (sw_run 200 _ _ _ ?_)
        · simp only [push_cast, AS.kb, rmBs, rmB, mPs, mP, aA, aD, ↓reduceIte, Nat.reduceEqDiff]
        simp only [push_cast, AS.kb, rmBs, rmB, ↓reduceIte, Nat.reduceLT, Nat.reduceAdd, Nat.reduceEqDiff, aftV2]
        refine ⟨by unfold inI; omega, (f', i + 1, putC s2 10 0), rnL [(2, 7), (3, 6)], hst, by simp only; omega, ?_⟩
        simp only [push_cast, Sub, subT, subB, subO, subP, inj, AV.ren, AV.rens, AV.lt, AV.lts, ↓reduceIte, Nat.reduceLT, Nat.reduceEqDiff, rnL, cast1, putC_q]
      · have hc3 : ¬ (s.code.length : Int) ≤ 300 := by omega
        have hd := inL_done hI (fun h => h300 h.2)
        have h4 : 300 < s.code.length := by omega
        have h5 : (300 : Int) < (s.code.length : Int) := by omega
        simp only [push_cast, ↓reduceIte, Nat.reduceLT, Nat.reduceEqDiff, hi2, hc3]
        refine sw_run 200 _ _ _ ?_
        simp only [push_cast, ↓reduceIte, Nat.reduceLT, Nat.reduceAdd, Nat.reduceEqDiff, reduceCtorEq, ← hd, h4, h5, flC, Tryz.results10]
    · have hi2 : ¬ (i : Int) < (s.q.length : Int) := by omega
      have hd := inL_done hI (fun h => hlt h.1)
      simp only [push_cast, ↓reduceIte, Nat.reduceLT, Nat.reduceEqDiff, hi2]
      refine sw_run 200 _ _ _ ?_
      by_cases h4 : 300 < s.code.length
      · have h5 : (300 : Int) < (s.code.length : Int) := by omega
        simp only [push_cast, ↓reduceIte, Nat.reduceLT, Nat.reduceAdd, Nat.reduceEqDiff, reduceCtorEq, ← hd, h4, h5, flC, Tryz.results10]
      · have h5 : ¬ (300 : Int) < (s.code.length : Int) := by omega
        simp only [push_cast, ↓reduceIte, Nat.reduceLT, Nat.reduceEqDiff, reduceCtorEq, ← hd, h4, h5, Tryz.results10]
end Go.Proofs.YtaidalilfmjfgaaGreat
