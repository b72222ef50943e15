import Derived.Test.YtaidalilfmjfgaaGreatTyC
import Derived.Test.YtaidalilfmjfgaaGreatLst
namespace Go.Proofs.YtaidalilfmjfgaaGreat
open Go.RowKit
set_option linter.unusedVariables false
set_option linter.unusedSimpArgs false
set_option maxRecDepth 20000
def isBaseT (t:Ty):Bool:=(decide (t.kind=1) || decide (t.kind=2)) && decide (t.args.length=0)
theorem con_IsBase (t:Ty):Con Tryz.prog 248 [.ag (tyC t)] [.one (.bool (isBaseT t))]:=by
 refine con_run Tryz.func248 rfl rfl (by simp [Tryz.ntmps248]) ?_
 simp only [argT,argA,fQ,tysD,xRet,rPs,xRes,flatA,rD,eq_self,xRun,vE,vP,vSub,vLoad,vFld,vBin,vBinT,isAg,isBo,vLen,isCutO,isB,bv,gT,gW,gN,gV,isU,isPick,pkC,pkA,pkB,isCall,AS.pt,AS.kn,AS.ev,AS.box,AS.rd,look,cav,avB,AV.cells,AV.whole,AV.one,eatsOf,td0,td1,td2,td3,td4,td5,td6,Option.bind,Option.getD,Option.isSome,List.map,List.getElem?_cons_zero,List.getElem?_cons_succ,List.all,List.nodup_nil,↓reduceIte,Nat.reduceLT,Nat.reduceEqDiff,Nat.zero_add,Nat.add_zero,ne_eq,not_false_eq_true,true_and,and_true,or_false,Bool.and_true,Bool.not_true,Bool.not_false,Bool.false_eq_true,Bool.true_eq_false,reduceCtorEq,and_self,decide_eq_true_eq,decide_eq_false_iff_not,Nat.succ_ne_zero,Tryz.ntmps248,Tryz.results248,tyC_eq]
 unfold isBaseT
 split
 ·split
  ·simp [*]
  ·simp [*]
 ·simp_all
def lastTg (xs:List Tg) (s:ByteArray):Nat→Int
 | 0 => -1
 | k+1=>if xs[k]!.name=s then k else lastTg xs s k
theorem con_last (xs : List Tg) (s : ByteArray) (hl : xs.length ≤ 1000000000) : Con Tryz.prog 233 [.one (tgsD xs), .one (.str s)] [.one (.int (lastTg xs s xs.length))] := by
  refine con_run Tryz.func233 rfl rfl (by simp [Tryz.ntmps233]) ?_
  simp only [argT, argA, eq_self, xRun, vE, vP, vBin, vBinT, isAg, isBo, vLen, isCutO, gN, isPick, isCall, AS.pt, AS.ev, AS.rd, look, cav, avB, td0, td1, td2, td3, td4, td5, td6, Option.getD, ↓reduceIte, Nat.reduceLT, Nat.zero_add, true_and, Bool.false_eq_true, reduceCtorEq, Int.reduceNeg, Tryz.ntmps233, tgsD]
  refine ⟨by unfold inI; omega, ?_⟩
  refine sw_loop (fun k : Nat => k ≤ xs.length ∧ lastTg xs s k = lastTg xs s xs.length) (fun k => ⟨21, [(5, .i (k - 1)), (0, .br (.rows 4 xs.length (flC tgC xs))), (1, .s s)], [], [], 0, []⟩) (fun k => k) xs.length id ⟨Nat.le_refl _, rfl⟩ ?_ ?_
  · simp only [Sub, subT, subB, subO, subP, inj, AV.ren, AV.lt, eq_self, look, td0, td1, td2, td3, td4, td5, td6, List.map, List.nodup_nil, ↓reduceIte, Nat.reduceEqDiff, reduceCtorEq, and_self, Nat.succ_ne_zero]
  · rintro k ⟨hk, hlast⟩
    refine sw_run 200 _ _ _ ?_
    cases k with
    | zero =>
      have hc : (((0 : Nat) : Int) - 1) = -1 := by omega
      have h0 : ¬ (0 : Int) ≤ -1 := by omega
      simp only [qLp, eq_self, xRun, vE, vP, vBin, vBinT, isAg, isBo, isCutO, isB, bv, gN, isPick, isCall, popTo, AS.pt, AS.ev, look, cav, td0, td1, td2, td3, td4, td5, td6, Option.getD, Option.isSome, ↓reduceIte, Nat.reduceLT, true_and, Bool.false_eq_true, Int.reduceSub, Int.reduceNeg, Int.natCast_zero, decide_false, h0, qLp]
      refine sw_run 200 _ _ _ ?_
      simp only [fQ, xRet, rPs, xRes, flatA, rD, eq_self, xRun, vE, vP, isCutO, gN, isPick, isCall, AS.pt, AS.ev, look, cav, eatsOf, td0, td1, td2, td3, td4, td5, td6, List.map, List.nodup_nil, ↓reduceIte, Nat.reduceLT, or_false, Bool.false_eq_true, reduceCtorEq, Int.reduceNeg, and_self, Tryz.results233, ← hlast, lastTg]
    | succ k =>
      have hR := flC_row tgC_len xs k (by omega)
      have hc : (((k + 1 : Nat) : Int) - 1) = k := by omega
      have h0 : (0 : Int) ≤ (k : Int) := by omega
      have h1 : (k : Int) < (xs.length : Int) := by omega
      simp only [fQ, qLp, tysD, rowD, xRet, rPs, xRes, flatA, rD, eq_self, xRun, vE, vP, vSub, vLoad, vFld, vIdx, vBin, vBinT, isAg, isBo, isCutO, isB, bv, gN, isPick, isCall, AS.pt, AS.ev, look, cav, avB, eatsOf, td0, td1, td2, td3, td4, td5, td6, Option.getD, Option.isSome, List.map, List.getElem?_cons_zero, List.nodup_nil, ↓reduceIte, Nat.reduceLT, Nat.reduceEqDiff, Nat.add_zero, ne_eq, not_false_eq_true, true_and, and_true, or_false, Bool.false_eq_true, reduceCtorEq, Int.toNat_natCast, decide_true, and_self, decide_eq_true_eq, Nat.succ_ne_zero, Tryz.results233, hc, hR, tgC, h0, h1, qLp]
      split
      · rename_i h; rw [← hlast, lastTg, if_pos h]
      · rename_i h
        refine ⟨by unfold inI; omega, k, id, ⟨by omega, by rw [← hlast, lastTg, if_neg h]⟩, by omega, ?_⟩
        simp only [Sub, subT, subB, subO, subP, inj, AV.ren, AV.lt, eq_self, look, td0, td1, td2, td3, td4, td5, td6, List.map, List.nodup_nil, ↓reduceIte, Nat.reduceEqDiff, reduceCtorEq, and_self, Nat.succ_ne_zero]
def safeB (xs:List Tg) (n:Int) (k:Nat):Prop:=isBaseT xs[k]!.ty=true∧xs[k]!.level≤n∧lastTg xs xs[k]!.name xs.length=k
instance (xs : List Tg) (n : Int) (k : Nat) : Decidable (safeB xs n k) := by unfold safeB; infer_instance
def safeTg (xs:List Tg) (n:Int):Nat→List Tg
 | 0=>[]
 | k+1=>if safeB xs n k then safeTg xs n k++[xs[k]!] else safeTg xs n k
theorem safeTg_len (xs:List Tg) (n:Int):∀ k,(safeTg xs n k).length≤k
 | 0=>Nat.le_refl _
 | k+1=>by have:=safeTg_len xs n k;rw [safeTg];split <;> simp <;> omega
theorem con_SafeCtxS (xs:List Tg) (n:Int) (hz:szD (tgsD xs)≤1000000000):Con Tryz.prog 266 [.one (tgsD xs),.one (.int n)] [.one (tgsD (safeTg xs n xs.length))]:=by
 have hz':xs.length+szL (flC tgC xs)≤1000000000:=by simpa [tgsD,szD] using hz
 refine con_run Tryz.func266 rfl rfl (by simp [Tryz.ntmps266]) ?_
 simp only [argT,argA,eq_self,xRun,vE,vP,vRow,isCutO,xFill,gN,isPick,isCall,AS.pt,AS.ev,AS.mk',kill,look,cav,avB,cDs,eatsOf,td0,td1,td2,td3,td4,td5,td6,Option.getD,Option.isSome,List.map,List.foldr,List.all,List.replicate,List.nodup_nil,↓reduceIte,Nat.reduceLT,Nat.zero_add,Nat.zero_mul,true_and,or_true,Bool.false_eq_true,and_self,Nat.zero_le,Tryz.ntmps266,tgsD]
 refine sw_loop (fun k:Nat=>k≤xs.length) (fun k=>⟨61,[(6,.i k),(5,.sl 0),(0,.br (.rows 4 xs.length (flC tgC xs))),(1,.i n)],[],[(0,some ⟨.rows 4 (safeTg xs n k).length (flC tgC (safeTg xs n k)),some 199,true⟩)],1,[]⟩) (fun k=>xs.length-k) 0 id (Nat.zero_le _) ?_ ?_
 ·simp only [Sub,subT,subB,subO,subP,inj,AV.ren,AV.lt,eq_self,AS.owf,look,td0,td1,td2,td3,td4,td5,td6,Option.bind,List.map,List.length,List.not_mem_nil,List.nodup_cons,List.nodup_nil,↓reduceIte,Nat.reduceLT,Nat.reduceEqDiff,not_false_eq_true,id_eq,reduceCtorEq,Int.natCast_zero,and_self,Nat.succ_ne_zero,safeTg,flC,Int.natCast_zero]
 ·rintro k hk
  refine sw_run 200 _ _ _ ?_
  by_cases hlt:k<xs.length
  ·have hi:(k:Int)<(xs.length:Int):=by omega
   have hR:=flC_row tgC_len xs k hlt
   have hsr:=szL_flC tgC xs k hlt
   obtain ⟨b1,hb1⟩:∃ b,b=isBaseT xs[k]!.ty:=⟨_,rfl⟩
   have hw:=con_IsBase xs[k]!.ty
   rw [← hb1,tyC_eq] at hw
   have hla:=safeTg_len xs n k
   simp only [tysD,rowD,eq_self,xRun,vE,vP,vSub,vLoad,vFld,vIdx,vBin,vBinT,isAg,isBo,vLen,isCutO,isB,bv,gN,isPick,isCall,AS.pt,AS.ev,AS.rd,look,avB,td0,td1,td2,td3,td4,td5,td6,Option.getD,List.map,List.take,List.drop,List.length,↓reduceIte,Nat.reduceLT,Nat.reduceAdd,Nat.reduceLeDiff,Nat.reduceEqDiff,Nat.zero_add,ne_eq,not_false_eq_true,true_and,Bool.false_eq_true,reduceCtorEq,Int.toNat_natCast,Int.natCast_nonneg,decide_true,and_self,Nat.succ_ne_zero,hi,hR,tgC]
   refine sw_call hw rfl (aAs_ok ?_) ?_ (sw_run 200 _ _ _ ?_)
   ·simp only [aAs,aA,aDs,aD,tysD,AS.ev,look,Option.getD,List.map,List.append_nil,↓reduceIte,eq_self,and_self]
   ·simp only [okR]
   have hno:¬ safeB xs n k→safeTg xs n (k+1)=safeTg xs n k:=fun h=>by rw [safeTg,if_neg h]
   cases b1
   ·have hse:=hno (fun h=>by rw [safeB,← hb1] at h;cases h.1)
    simp only [mkR,flatD,packA,retA,List.headD_cons,qLp,eq_self,xRun,vE,vP,vBin,vBinT,isAg,isBo,isCutO,isB,bv,gT,gW,gN,gV,isU,isPick,pkC,pkB,isCall,AS.pt,AS.kn,AS.ev,look,cav,td0,td1,td2,td3,td4,td5,td6,Option.bind,Option.getD,Option.isSome,List.getElem?_cons_zero,List.getElem?_cons_succ,↓reduceIte,Nat.reduceLT,Nat.reduceEqDiff,true_and,Bool.not_true,Bool.false_eq_true,and_self,qLp]
    refine ⟨by unfold inI;omega,k+1,id,by omega,by omega, ?_⟩
    simp only [Sub,subT,subB,subO,subP,inj,AV.ren,AV.lt,eq_self,AS.owf,look,td0,td1,td2,td3,td4,td5,td6,Option.bind,List.map,List.not_mem_nil,List.nodup_cons,List.nodup_nil,↓reduceIte,Nat.reduceLT,Nat.reduceEqDiff,not_false_eq_true,id_eq,reduceCtorEq,and_self,Nat.succ_ne_zero,cast1,hse]
   ·by_cases hv:xs[k]!.level≤n
    ·simp only [mkR,flatD,packA,retA,List.headD_cons,tysD,rowD,eq_self,xRun,vE,vP,vSub,vLoad,vFld,vIdx,vBin,vBinT,isAg,isBo,isCutO,isB,bv,gT,gW,gN,gV,isU,isPick,pkC,pkA,isCall,AS.pt,AS.kn,AS.ev,look,avB,td0,td1,td2,td3,td4,td5,td6,Option.bind,Option.getD,Option.isSome,List.map,List.getElem?_cons_zero,List.getElem?_cons_succ,↓reduceIte,Nat.reduceLT,Nat.reduceEqDiff,Nat.zero_add,Nat.add_zero,ne_eq,not_false_eq_true,true_and,Bool.false_eq_true,reduceCtorEq,Int.toNat_natCast,Int.natCast_nonneg,decide_true,and_self,Nat.succ_ne_zero,hi,hR,tgC,hv]
     refine sw_call (con_last xs xs[k]!.name (by omega)) rfl (aAs_ok ?_) ?_ (sw_run 200 _ _ _ ?_)
     ·simp only [aAs,aA,aD,AS.ev,look,Option.getD,List.map,List.append_nil,↓reduceIte,Nat.reduceEqDiff,eq_self,and_self,tgsD]
     ·simp only [okR]
     by_cases hl:lastTg xs xs[k]!.name xs.length=k
     ·have hse:safeTg xs n (k+1)=safeTg xs n k++[xs[k]!]:=by rw [safeTg,if_pos ⟨hb1.symm,hv,hl⟩]
      simp only [mkR,flatD,packA,retA,List.headD_cons,eq_self,xRun,vE,vP,vBin,vBinT,isAg,isBo,isCutO,isB,bv,gT,gW,gN,gV,isU,isPick,pkC,pkA,isCall,AS.pt,AS.kn,AS.ev,look,td0,td1,td2,td3,td4,td5,td6,Option.bind,Option.getD,Option.isSome,List.getElem?_cons_zero,List.getElem?_cons_succ,↓reduceIte,Nat.reduceLT,Nat.reduceEqDiff,true_and,Bool.false_eq_true,decide_true,and_self,hl]
      refine sw_drawn (.cons 0 true (.cons 1 true (.cons 2 true (.cons 3 true (.cons 4 true (.cons 5 true (.cons 6 true (.cons 7 true (.cons 8 true (.cons 9 true (.cons 10 true (.cons 12 true (.cons 13 true (.cons 14 true (.cons 15 true (.cons 16 true (.cons 11 false (.cons 17 true (.cons 18 false (.cons 19 false (.cons 20 true (.nil)))))))))))))))))))))) (by kernel_rfl) qLp_panic (by kernel_rfl) (sw_run 200 _ _ _ ?_)
      simp only [tysD,rowD,eq_self,xRun,vP,vSub,vLoad,vFld,vIdx,gN,isPick,isCall,AS.pt,AS.ev,look,avB,td0,td1,td2,td3,td4,td5,td6,Option.getD,Option.isSome,List.map,List.take,List.drop,List.length,List.getElem?_cons_zero,List.getElem?_cons_succ,↓reduceIte,Nat.reduceLT,Nat.reduceAdd,Nat.reduceLeDiff,Nat.reduceEqDiff,Nat.zero_add,Nat.add_zero,ne_eq,not_false_eq_true,true_and,Bool.false_eq_true,reduceCtorEq,Int.toNat_natCast,Int.natCast_nonneg,and_self,Nat.succ_ne_zero,hi,hR,tgC]
      have hs:szL (tyC xs[k]!.ty)≤1000000000:=by rw [tyC_eq];simp only [tgC,szL,szD] at hsr ⊢; omega
      refine sw_callD (con_l3Copy _ hs) rfl (aAs_ok ?_) ?_ (sw_run 200 _ _ _ ?_)
      ·simp only [aAs,aA,aDs,aD,tysD,AS.ev,look,Option.getD,List.map,List.append_nil,↓reduceIte,Nat.reduceEqDiff,eq_self,and_self,tyC_eq]
      ·simp only [okR]
      simp only [mkR,flatD,packA,retA,qLp,tysD,eq_self,xRun,vE,vP,vBin,vBinT,isAg,isBo,vBuild,vRow,vApp,apP,apC,isCl,isCutO,xFill,appL,appR,gN,isPick,isCall,AS.pt,AS.ev,AS.mk',AS.owf,kill,look,cav,setRowG,AV.cells,AV.whole,AV.one,cD,cDs,eatsOf,dpOf,td0,td1,td2,td3,td4,td5,td6,Option.bind,Option.getD,Option.map,Option.isSome,List.map,List.take,List.length,List.getElem?_cons_zero,List.getElem?_cons_succ,List.set,List.foldr,List.all,List.replicate,List.mem_cons,List.not_mem_nil,List.nodup_cons,List.nodup_nil,List.nil_append,List.cons_append,List.append_nil,↓reduceIte,Nat.reduceLT,Nat.reduceAdd,Nat.reduceLeDiff,Nat.reduceEqDiff,Nat.zero_add,Nat.zero_mul,Nat.one_mul,not_false_eq_true,true_and,or_false,or_true,Bool.and_true,Bool.false_eq_true,id_eq,reduceCtorEq,and_self,Nat.succ_ne_zero,Nat.le_refl,tyC_eq,qLp]
      refine ⟨⟨fun o ho=>by omega,by unfold maxLen;omega,by omega⟩,by unfold inI;omega,k+1,rn1 0 3,by omega,by omega, ?_⟩
      simp only [Sub,subT,subB,subO,subP,inj,AV.ren,AV.lt,tysD,eq_self,AS.owf,look,td0,td1,td2,td3,td4,td5,td6,Option.bind,List.map,List.length,List.not_mem_nil,List.nodup_cons,List.nodup_nil,↓reduceIte,Nat.reduceLT,Nat.reduceEqDiff,Nat.zero_add,not_false_eq_true,id_eq,reduceCtorEq,and_self,Nat.succ_ne_zero,rn1,cast1,hse,flC_app,flC_one,List.length_append,tgC,tysD]
     ·have hse:=hno (fun h=>hl h.2.2)
      simp only [mkR,flatD,packA,retA,List.headD_cons,qLp,eq_self,xRun,vE,vP,vBin,vBinT,isAg,isBo,isCutO,isB,bv,gT,gW,gN,gV,isU,isPick,pkC,pkA,isCall,AS.pt,AS.kn,AS.ev,look,cav,td0,td1,td2,td3,td4,td5,td6,Option.bind,Option.getD,Option.isSome,List.getElem?_cons_zero,List.getElem?_cons_succ,↓reduceIte,Nat.reduceLT,Nat.reduceEqDiff,true_and,Bool.false_eq_true,decide_false,and_self,hl,qLp]
      refine ⟨by unfold inI;omega,k+1,id,by omega,by omega, ?_⟩
      simp only [Sub,subT,subB,subO,subP,inj,AV.ren,AV.lt,eq_self,AS.owf,look,td0,td1,td2,td3,td4,td5,td6,Option.bind,List.map,List.not_mem_nil,List.nodup_cons,List.nodup_nil,↓reduceIte,Nat.reduceLT,Nat.reduceEqDiff,not_false_eq_true,id_eq,reduceCtorEq,and_self,Nat.succ_ne_zero,cast1,hse]
    ·have hse:=hno (fun h=>hv h.2.1)
     simp only [mkR,flatD,packA,retA,List.headD_cons,qLp,tysD,rowD,eq_self,xRun,vE,vP,vSub,vLoad,vFld,vIdx,vBin,vBinT,isAg,isBo,isCutO,isB,bv,gT,gW,gN,gV,isU,isPick,pkC,pkA,pkB,isCall,AS.pt,AS.kn,AS.ev,look,cav,avB,td0,td1,td2,td3,td4,td5,td6,Option.bind,Option.getD,Option.isSome,List.map,List.getElem?_cons_zero,List.getElem?_cons_succ,↓reduceIte,Nat.reduceLT,Nat.reduceEqDiff,Nat.zero_add,ne_eq,not_false_eq_true,true_and,Bool.not_true,Bool.false_eq_true,reduceCtorEq,Int.toNat_natCast,Int.natCast_nonneg,decide_false,and_self,Nat.succ_ne_zero,hi,hR,tgC,hv,qLp]
     refine ⟨by unfold inI;omega,k+1,id,by omega,by omega, ?_⟩
     simp only [Sub,subT,subB,subO,subP,inj,AV.ren,AV.lt,eq_self,AS.owf,look,td0,td1,td2,td3,td4,td5,td6,Option.bind,List.map,List.not_mem_nil,List.nodup_cons,List.nodup_nil,↓reduceIte,Nat.reduceLT,Nat.reduceEqDiff,not_false_eq_true,id_eq,reduceCtorEq,and_self,Nat.succ_ne_zero,cast1,hse]
  ·have hi:¬ (k:Int)<(xs.length:Int):=by omega
   obtain rfl:k=xs.length:=by omega
   simp only [qLp,eq_self,xRun,vE,vP,vBin,vBinT,isAg,isBo,vLen,isCutO,isB,bv,gN,isPick,isCall,popTo,AS.pt,AS.ev,AS.rd,look,td0,td1,td2,td3,td4,td5,td6,Option.getD,Option.isSome,↓reduceIte,Nat.reduceLT,Nat.reduceEqDiff,true_and,Bool.false_eq_true,reduceCtorEq,decide_false,hi]
   refine sw_run 200 _ _ _ ?_
   simp only [fQ,xRet,rPs,xRes,flatA,rD,eq_self,xRun,vE,vP,isCutO,gN,isPick,isCall,AS.pt,AS.ev,AS.owf,look,eatsOf,td0,td1,td2,td3,td4,td5,td6,Option.bind,Option.getD,List.map,List.not_mem_nil,List.nodup_cons,List.nodup_nil,↓reduceIte,Nat.reduceLT,Nat.reduceEqDiff,not_false_eq_true,or_false,Bool.false_eq_true,id_eq,reduceCtorEq,and_self,Tryz.results266]
end Go.Proofs.YtaidalilfmjfgaaGreat
