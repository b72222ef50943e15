import Derived.Test.YtaidalilfmjfgaaGreatTyC
import Derived.Test.YtaidalilfmjfgaaGreatLst
import Derived.Test.YtaidalilfmjfgaaGreatDrm
import Derived.Test.YtaidalilfmjfgaaGreatEqT
import Derived.Test.YtaidalilfmjfgaaGreatMk
import Derived.Test.YtaidalilfmjfgaaGreatConR
namespace Go.Proofs.YtaidalilfmjfgaaGreat
open Go.RowKit
set_option linter.unusedVariables false
set_option linter.unusedSimpArgs false
set_option maxRecDepth 20000
def isBaseT (t:Ty):Bool:=(decide (t.kind=1) || decide (t.kind=2)) && decide (t.args.length=0)
theorem con_IsBase (t:Ty):Con Tryz.prog 248 [.ag (tyC t)] [.one (.bool (isBaseT t))]:=by
 refine con_run Tryz.func248 rfl rfl (by simp [Tryz.ntmps248]) ?_
 simp only [argT,argA,fQ,tysD,xRet,rPs,xRes,flatA,rD,eq_self,xRun,vE,vP,vSub,vLoad,vFld,vBin,vBinT,isAg,isBo,vLen,isCutO,isB,bv,gT,gW,gN,gV,isU,isPick,pkC,pkA,pkB,isCall,AS.pt,AS.kn,AS.ev,AS.box,AS.rd,look,cav,avB,AV.cells,AV.whole,AV.one,eatsOf,td0,td1,td2,td3,td4,td5,td6,Option.bind,Option.getD,Option.isSome,List.map,List.getElem?_cons_zero,List.getElem?_cons_succ,List.all,List.nodup_nil,↓reduceIte,Nat.reduceLT,Nat.reduceEqDiff,Nat.zero_add,Nat.add_zero,ne_eq,not_false_eq_true,true_and,and_true,or_false,Bool.and_true,Bool.not_true,Bool.not_false,Bool.false_eq_true,Bool.true_eq_false,reduceCtorEq,and_self,decide_eq_true_eq,decide_eq_false_iff_not,Nat.succ_ne_zero,Tryz.ntmps248,Tryz.results248,tyC_eq]
 unfold isBaseT
 split
 ·split
  ·simp [*]
  ·simp [*]
 ·simp_all
def lastTg (xs:List Tg) (s:ByteArray):Nat→Int
 | 0 => -1
 | k+1=>if xs[k]!.name=s then k else lastTg xs s k
theorem con_last (xs : List Tg) (s : ByteArray) (hl : xs.length ≤ 1000000000) : Con Tryz.prog 233 [.one (tgsD xs), .one (.str s)] [.one (.int (lastTg xs s xs.length))] := by
  refine con_run Tryz.func233 rfl rfl (by simp [Tryz.ntmps233]) ?_
  simp only [argT, argA, eq_self, xRun, vE, vP, vBin, vBinT, isAg, isBo, vLen, isCutO, gN, isPick, isCall, AS.pt, AS.ev, AS.rd, look, cav, avB, td0, td1, td2, td3, td4, td5, td6, Option.getD, ↓reduceIte, Nat.reduceLT, Nat.zero_add, true_and, Bool.false_eq_true, reduceCtorEq, Int.reduceNeg, Tryz.ntmps233, tgsD]
  refine ⟨by unfold inI; omega, ?_⟩
  refine sw_loop (fun k : Nat => k ≤ xs.length ∧ lastTg xs s k = lastTg xs s xs.length) (fun k => ⟨21, [(5, .i (k - 1)), (0, .br (.rows 4 xs.length (flC tgC xs))), (1, .s s)], [], [], 0, []⟩) (fun k => k) xs.length id ⟨Nat.le_refl _, rfl⟩ ?_ ?_
  · simp only [Sub, subT, subB, subO, subP, inj, AV.ren, AV.lt, eq_self, look, td0, td1, td2, td3, td4, td5, td6, List.map, List.nodup_nil, ↓reduceIte, Nat.reduceEqDiff, reduceCtorEq, and_self, Nat.succ_ne_zero]
  · rintro k ⟨hk, hlast⟩
    refine sw_run 200 _ _ _ ?_
    cases k with
    | zero =>
      have hc : (((0 : Nat) : Int) - 1) = -1 := by omega
      have h0 : ¬ (0 : Int) ≤ -1 := by omega
      simp only [qLp, eq_self, xRun, vE, vP, vBin, vBinT, isAg, isBo, isCutO, isB, bv, gN, isPick, isCall, popTo, AS.pt, AS.ev, look, cav, td0, td1, td2, td3, td4, td5, td6, Option.getD, Option.isSome, ↓reduceIte, Nat.reduceLT, true_and, Bool.false_eq_true, Int.reduceSub, Int.reduceNeg, Int.natCast_zero, decide_false, h0, qLp]
      refine sw_run 200 _ _ _ ?_
      simp only [fQ, xRet, rPs, xRes, flatA, rD, eq_self, xRun, vE, vP, isCutO, gN, isPick, isCall, AS.pt, AS.ev, look, cav, eatsOf, td0, td1, td2, td3, td4, td5, td6, List.map, List.nodup_nil, ↓reduceIte, Nat.reduceLT, or_false, Bool.false_eq_true, reduceCtorEq, Int.reduceNeg, and_self, Tryz.results233, ← hlast, lastTg]
    | succ k =>
      have hR := flC_row tgC_len xs k (by omega)
      have hc : (((k + 1 : Nat) : Int) - 1) = k := by omega
      have h0 : (0 : Int) ≤ (k : Int) := by omega
      have h1 : (k : Int) < (xs.length : Int) := by omega
      simp only [fQ, qLp, tysD, rowD, xRet, rPs, xRes, flatA, rD, eq_self, xRun, vE, vP, vSub, vLoad, vFld, vIdx, vBin, vBinT, isAg, isBo, isCutO, isB, bv, gN, isPick, isCall, AS.pt, AS.ev, look, cav, avB, eatsOf, td0, td1, td2, td3, td4, td5, td6, Option.getD, Option.isSome, List.map, List.getElem?_cons_zero, List.nodup_nil, ↓reduceIte, Nat.reduceLT, Nat.reduceEqDiff, Nat.add_zero, ne_eq, not_false_eq_true, true_and, and_true, or_false, Bool.false_eq_true, reduceCtorEq, Int.toNat_natCast, decide_true, and_self, decide_eq_true_eq, Nat.succ_ne_zero, Tryz.results233, hc, hR, tgC, h0, h1, qLp]
      split
      · rename_i h; rw [← hlast, lastTg, if_pos h]
      · rename_i h
        refine ⟨by unfold inI; omega, k, id, ⟨by omega, by rw [← hlast, lastTg, if_neg h]⟩, by omega, ?_⟩
        simp only [Sub, subT, subB, subO, subP, inj, AV.ren, AV.lt, eq_self, look, td0, td1, td2, td3, td4, td5, td6, List.map, List.nodup_nil, ↓reduceIte, Nat.reduceEqDiff, reduceCtorEq, and_self, Nat.succ_ne_zero]
def safeB (xs:List Tg) (n:Int) (k:Nat):Prop:=isBaseT xs[k]!.ty=true∧xs[k]!.level≤n∧lastTg xs xs[k]!.name xs.length=k
instance (xs : List Tg) (n : Int) (k : Nat) : Decidable (safeB xs n k) := by unfold safeB; infer_instance
def safeTg (xs:List Tg) (n:Int):Nat→List Tg
 | 0=>[]
 | k+1=>if safeB xs n k then safeTg xs n k++[xs[k]!] else safeTg xs n k
theorem safeTg_len (xs:List Tg) (n:Int):∀ k,(safeTg xs n k).length≤k
 | 0=>Nat.le_refl _
 | k+1=>by have:=safeTg_len xs n k;rw [safeTg];split <;> simp <;> omega
theorem con_SafeCtxS (xs:List Tg) (n:Int) (hz:szD (tgsD xs)≤1000000000):Con Tryz.prog 266 [.one (tgsD xs),.one (.int n)] [.one (tgsD (safeTg xs n xs.length))]:=by
 have hz':xs.length+szL (flC tgC xs)≤1000000000:=by simpa [tgsD,szD] using hz
 refine con_run Tryz.func266 rfl rfl (by simp [Tryz.ntmps266]) ?_
 simp only [argT,argA,eq_self,xRun,vE,vP,vRow,isCutO,xFill,gN,isPick,isCall,AS.pt,AS.ev,AS.mk',kill,look,cav,avB,cDs,eatsOf,td0,td1,td2,td3,td4,td5,td6,Option.getD,Option.isSome,List.map,List.foldr,List.all,List.replicate,List.nodup_nil,↓reduceIte,Nat.reduceLT,Nat.zero_add,Nat.zero_mul,true_and,or_true,Bool.false_eq_true,and_self,Nat.zero_le,Tryz.ntmps266,tgsD]
 refine sw_loop (fun k:Nat=>k≤xs.length) (fun k=>⟨61,[(6,.i k),(5,.sl 0),(0,.br (.rows 4 xs.length (flC tgC xs))),(1,.i n)],[],[(0,some ⟨.rows 4 (safeTg xs n k).length (flC tgC (safeTg xs n k)),some 199,true⟩)],1,[]⟩) (fun k=>xs.length-k) 0 id (Nat.zero_le _) ?_ ?_
 ·simp only [Sub,subT,subB,subO,subP,inj,AV.ren,AV.lt,eq_self,AS.owf,look,td0,td1,td2,td3,td4,td5,td6,Option.bind,List.map,List.length,List.not_mem_nil,List.nodup_cons,List.nodup_nil,↓reduceIte,Nat.reduceLT,Nat.reduceEqDiff,not_false_eq_true,id_eq,reduceCtorEq,Int.natCast_zero,and_self,Nat.succ_ne_zero,safeTg,flC,Int.natCast_zero]
 ·rintro k hk
  refine sw_run 200 _ _ _ ?_
  by_cases hlt:k<xs.length
  ·have hi:(k:Int)<(xs.length:Int):=by omega
   have hR:=flC_row tgC_len xs k hlt
   have hsr:=szL_flC tgC xs k hlt
   obtain ⟨b1,hb1⟩:∃ b,b=isBaseT xs[k]!.ty:=⟨_,rfl⟩
   have hw:=con_IsBase xs[k]!.ty
   rw [← hb1,tyC_eq] at hw
   have hla:=safeTg_len xs n k
   simp only [tysD,rowD,eq_self,xRun,vE,vP,vSub,vLoad,vFld,vIdx,vBin,vBinT,isAg,isBo,vLen,isCutO,isB,bv,gN,isPick,isCall,AS.pt,AS.ev,AS.rd,look,avB,td0,td1,td2,td3,td4,td5,td6,Option.getD,List.map,List.take,List.drop,List.length,↓reduceIte,Nat.reduceLT,Nat.reduceAdd,Nat.reduceLeDiff,Nat.reduceEqDiff,Nat.zero_add,ne_eq,not_false_eq_true,true_and,Bool.false_eq_true,reduceCtorEq,Int.toNat_natCast,Int.natCast_nonneg,decide_true,and_self,Nat.succ_ne_zero,hi,hR,tgC]
   refine sw_call hw rfl (aAs_ok ?_) ?_ (sw_run 200 _ _ _ ?_)
   ·simp only [aAs,aA,aDs,aD,tysD,AS.ev,look,Option.getD,List.map,List.append_nil,↓reduceIte,eq_self,and_self]
   ·simp only [okR]
   have hno:¬ safeB xs n k→safeTg xs n (k+1)=safeTg xs n k:=fun h=>by rw [safeTg,if_neg h]
   cases b1
   ·have hse:=hno (fun h=>by rw [safeB,← hb1] at h;cases h.1)
    simp only [mkR,flatD,packA,retA,List.headD_cons,qLp,eq_self,xRun,vE,vP,vBin,vBinT,isAg,isBo,isCutO,isB,bv,gT,gW,gN,gV,isU,isPick,pkC,pkB,isCall,AS.pt,AS.kn,AS.ev,look,cav,td0,td1,td2,td3,td4,td5,td6,Option.bind,Option.getD,Option.isSome,List.getElem?_cons_zero,List.getElem?_cons_succ,↓reduceIte,Nat.reduceLT,Nat.reduceEqDiff,true_and,Bool.not_true,Bool.false_eq_true,and_self,qLp]
    refine ⟨by unfold inI;omega,k+1,id,by omega,by omega, ?_⟩
    simp only [Sub,subT,subB,subO,subP,inj,AV.ren,AV.lt,eq_self,AS.owf,look,td0,td1,td2,td3,td4,td5,td6,Option.bind,List.map,List.not_mem_nil,List.nodup_cons,List.nodup_nil,↓reduceIte,Nat.reduceLT,Nat.reduceEqDiff,not_false_eq_true,id_eq,reduceCtorEq,and_self,Nat.succ_ne_zero,cast1,hse]
   ·by_cases hv:xs[k]!.level≤n
    ·simp only [mkR,flatD,packA,retA,List.headD_cons,tysD,rowD,eq_self,xRun,vE,vP,vSub,vLoad,vFld,vIdx,vBin,vBinT,isAg,isBo,isCutO,isB,bv,gT,gW,gN,gV,isU,isPick,pkC,pkA,isCall,AS.pt,AS.kn,AS.ev,look,avB,td0,td1,td2,td3,td4,td5,td6,Option.bind,Option.getD,Option.isSome,List.map,List.getElem?_cons_zero,List.getElem?_cons_succ,↓reduceIte,Nat.reduceLT,Nat.reduceEqDiff,Nat.zero_add,Nat.add_zero,ne_eq,not_false_eq_true,true_and,Bool.false_eq_true,reduceCtorEq,Int.toNat_natCast,Int.natCast_nonneg,decide_true,and_self,Nat.succ_ne_zero,hi,hR,tgC,hv]
     refine sw_call (con_last xs xs[k]!.name (by omega)) rfl (aAs_ok ?_) ?_ (sw_run 200 _ _ _ ?_)
     ·simp only [aAs,aA,aD,AS.ev,look,Option.getD,List.map,List.append_nil,↓reduceIte,Nat.reduceEqDiff,eq_self,and_self,tgsD]
     ·simp only [okR]
     by_cases hl:lastTg xs xs[k]!.name xs.length=k
     ·have hse:safeTg xs n (k+1)=safeTg xs n k++[xs[k]!]:=by rw [safeTg,if_pos ⟨hb1.symm,hv,hl⟩]
      simp only [mkR,flatD,packA,retA,List.headD_cons,eq_self,xRun,vE,vP,vBin,vBinT,isAg,isBo,isCutO,isB,bv,gT,gW,gN,gV,isU,isPick,pkC,pkA,isCall,AS.pt,AS.kn,AS.ev,look,td0,td1,td2,td3,td4,td5,td6,Option.bind,Option.getD,Option.isSome,List.getElem?_cons_zero,List.getElem?_cons_succ,↓reduceIte,Nat.reduceLT,Nat.reduceEqDiff,true_and,Bool.false_eq_true,decide_true,and_self,hl]
      refine sw_drawn (.cons 0 true (.cons 1 true (.cons 2 true (.cons 3 true (.cons 4 true (.cons 5 true (.cons 6 true (.cons 7 true (.cons 8 true (.cons 9 true (.cons 10 true (.cons 12 true (.cons 13 true (.cons 14 true (.cons 15 true (.cons 16 true (.cons 11 false (.cons 17 true (.cons 18 false (.cons 19 false (.cons 20 true (.nil)))))))))))))))))))))) (by kernel_rfl) qLp_panic (by kernel_rfl) (sw_run 200 _ _ _ ?_)
      simp only [tysD,rowD,eq_self,xRun,vP,vSub,vLoad,vFld,vIdx,gN,isPick,isCall,AS.pt,AS.ev,look,avB,td0,td1,td2,td3,td4,td5,td6,Option.getD,Option.isSome,List.map,List.take,List.drop,List.length,List.getElem?_cons_zero,List.getElem?_cons_succ,↓reduceIte,Nat.reduceLT,Nat.reduceAdd,Nat.reduceLeDiff,Nat.reduceEqDiff,Nat.zero_add,Nat.add_zero,ne_eq,not_false_eq_true,true_and,Bool.false_eq_true,reduceCtorEq,Int.toNat_natCast,Int.natCast_nonneg,and_self,Nat.succ_ne_zero,hi,hR,tgC]
      have hs:szL (tyC xs[k]!.ty)≤1000000000:=by rw [tyC_eq];simp only [tgC,szL,szD] at hsr ⊢; omega
      refine sw_callD (con_l3Copy _ hs) rfl (aAs_ok ?_) ?_ (sw_run 200 _ _ _ ?_)
      ·simp only [aAs,aA,aDs,aD,tysD,AS.ev,look,Option.getD,List.map,List.append_nil,↓reduceIte,Nat.reduceEqDiff,eq_self,and_self,tyC_eq]
      ·simp only [okR]
      simp only [mkR,flatD,packA,retA,qLp,tysD,eq_self,xRun,vE,vP,vBin,vBinT,isAg,isBo,vBuild,vRow,vApp,apP,apC,isCl,isCutO,xFill,appL,appR,gN,isPick,isCall,AS.pt,AS.ev,AS.mk',AS.owf,kill,look,cav,setRowG,AV.cells,AV.whole,AV.one,cD,cDs,eatsOf,dpOf,td0,td1,td2,td3,td4,td5,td6,Option.bind,Option.getD,Option.map,Option.isSome,List.map,List.take,List.length,List.getElem?_cons_zero,List.getElem?_cons_succ,List.set,List.foldr,List.all,List.replicate,List.mem_cons,List.not_mem_nil,List.nodup_cons,List.nodup_nil,List.nil_append,List.cons_append,List.append_nil,↓reduceIte,Nat.reduceLT,Nat.reduceAdd,Nat.reduceLeDiff,Nat.reduceEqDiff,Nat.zero_add,Nat.zero_mul,Nat.one_mul,not_false_eq_true,true_and,or_false,or_true,Bool.and_true,Bool.false_eq_true,id_eq,reduceCtorEq,and_self,Nat.succ_ne_zero,Nat.le_refl,tyC_eq,qLp]
      refine ⟨⟨fun o ho=>by omega,by unfold maxLen;omega,by omega⟩,by unfold inI;omega,k+1,rn1 0 3,by omega,by omega, ?_⟩
      simp only [Sub,subT,subB,subO,subP,inj,AV.ren,AV.lt,tysD,eq_self,AS.owf,look,td0,td1,td2,td3,td4,td5,td6,Option.bind,List.map,List.length,List.not_mem_nil,List.nodup_cons,List.nodup_nil,↓reduceIte,Nat.reduceLT,Nat.reduceEqDiff,Nat.zero_add,not_false_eq_true,id_eq,reduceCtorEq,and_self,Nat.succ_ne_zero,rn1,cast1,hse,flC_app,flC_one,List.length_append,tgC,tysD]
     ·have hse:=hno (fun h=>hl h.2.2)
      simp only [mkR,flatD,packA,retA,List.headD_cons,qLp,eq_self,xRun,vE,vP,vBin,vBinT,isAg,isBo,isCutO,isB,bv,gT,gW,gN,gV,isU,isPick,pkC,pkA,isCall,AS.pt,AS.kn,AS.ev,look,cav,td0,td1,td2,td3,td4,td5,td6,Option.bind,Option.getD,Option.isSome,List.getElem?_cons_zero,List.getElem?_cons_succ,↓reduceIte,Nat.reduceLT,Nat.reduceEqDiff,true_and,Bool.false_eq_true,decide_false,and_self,hl,qLp]
      refine ⟨by unfold inI;omega,k+1,id,by omega,by omega, ?_⟩
      simp only [Sub,subT,subB,subO,subP,inj,AV.ren,AV.lt,eq_self,AS.owf,look,td0,td1,td2,td3,td4,td5,td6,Option.bind,List.map,List.not_mem_nil,List.nodup_cons,List.nodup_nil,↓reduceIte,Nat.reduceLT,Nat.reduceEqDiff,not_false_eq_true,id_eq,reduceCtorEq,and_self,Nat.succ_ne_zero,cast1,hse]
    ·have hse:=hno (fun h=>hv h.2.1)
     simp only [mkR,flatD,packA,retA,List.headD_cons,qLp,tysD,rowD,eq_self,xRun,vE,vP,vSub,vLoad,vFld,vIdx,vBin,vBinT,isAg,isBo,isCutO,isB,bv,gT,gW,gN,gV,isU,isPick,pkC,pkA,pkB,isCall,AS.pt,AS.kn,AS.ev,look,cav,avB,td0,td1,td2,td3,td4,td5,td6,Option.bind,Option.getD,Option.isSome,List.map,List.getElem?_cons_zero,List.getElem?_cons_succ,↓reduceIte,Nat.reduceLT,Nat.reduceEqDiff,Nat.zero_add,ne_eq,not_false_eq_true,true_and,Bool.not_true,Bool.false_eq_true,reduceCtorEq,Int.toNat_natCast,Int.natCast_nonneg,decide_false,and_self,Nat.succ_ne_zero,hi,hR,tgC,hv,qLp]
     refine ⟨by unfold inI;omega,k+1,id,by omega,by omega, ?_⟩
     simp only [Sub,subT,subB,subO,subP,inj,AV.ren,AV.lt,eq_self,AS.owf,look,td0,td1,td2,td3,td4,td5,td6,Option.bind,List.map,List.not_mem_nil,List.nodup_cons,List.nodup_nil,↓reduceIte,Nat.reduceLT,Nat.reduceEqDiff,not_false_eq_true,id_eq,reduceCtorEq,and_self,Nat.succ_ne_zero,cast1,hse]
  ·have hi:¬ (k:Int)<(xs.length:Int):=by omega
   obtain rfl:k=xs.length:=by omega
   simp only [qLp,eq_self,xRun,vE,vP,vBin,vBinT,isAg,isBo,vLen,isCutO,isB,bv,gN,isPick,isCall,popTo,AS.pt,AS.ev,AS.rd,look,td0,td1,td2,td3,td4,td5,td6,Option.getD,Option.isSome,↓reduceIte,Nat.reduceLT,Nat.reduceEqDiff,true_and,Bool.false_eq_true,reduceCtorEq,decide_false,hi]
   refine sw_run 200 _ _ _ ?_
   simp only [fQ,xRet,rPs,xRes,flatA,rD,eq_self,xRun,vE,vP,isCutO,gN,isPick,isCall,AS.pt,AS.ev,AS.owf,look,eatsOf,td0,td1,td2,td3,td4,td5,td6,Option.bind,Option.getD,List.map,List.not_mem_nil,List.nodup_cons,List.nodup_nil,↓reduceIte,Nat.reduceLT,Nat.reduceEqDiff,not_false_eq_true,or_false,Bool.false_eq_true,id_eq,reduceCtorEq,and_self,Tryz.results266]
def tmZ (t:Tm):RD:=.ag [.r (.int t.kind),.r (.str t.name),.r (.str t.other),.r (.int t.n),.r (.int t.ty.kind),.r (.rows 2 t.ty.args.length (tysC t.ty.args)),.r (.int t.res.kind),.r (.rows 2 t.res.args.length (tysC t.res.args)),.r (.rows 9 t.args.length (tmsC t.args))]
def tmZs (x:Tm × Nat × Int):List RD:=[tmZ x.1]
theorem drM2:(∀ v i h,tmZs (v,i,h)=[tmZ v])∧(∀ t,tmZ t = .ag [.r (.int t.kind),.r (.str t.name),.r (.str t.other),.r (.int t.n),.r (.int t.ty.kind),.r (.rows 2 t.ty.args.length (tysC t.ty.args)),.r (.int t.res.kind),.r (.rows 2 t.res.args.length (tysC t.res.args)),.r (.rows 9 t.args.length (tmsC t.args))]):=⟨fun _ _ _=>rfl,fun _=>rfl⟩
theorem drM3:(∀ v i h,tyRo (v,i,h)=[tyR v])∧(∀ t,tyR t = .ag [.o (.int t.kind),.o (.rows 2 t.args.length (tysC t.args))]):=⟨fun _ _ _=>rfl,fun _=>rfl⟩
set_option maxHeartbeats 8000000 in
theorem con_bent (zs:List Int) (hz:BytOk zs) (i:Nat) (hi:i≤zs.length) (h:Int):ConX Tryz.prog 64 [.p (curA zs i h)] (tmI zs 1100) (tmO zs) tmZs:=by
 have hB:=fun n hn hn2 i hi h=>con_Below zs hz n hn hn2 i hi h
 refine con_runXF [0,1,2,3,4,5,6,7,8,9] Tryz.func64 rfl rfl (by simp [Tryz.ntmps64]) (fun _ _=>rfl) ?_
 refine byP (fc (drF zs) (fc Tryz.ntmps64 Tryz.results64)) ?_
 refine sw_callXR (hB 4 (by decide) (by decide) i hi h) rfl rfl rfl (byP (drF zs) True.intro) (byP (drF zs) True.intro) (byP (drF zs) True.intro) ?_
 rintro ⟨u,i1,h1⟩ ⟨hu,hi1⟩
 simp only at hu hi1
 obtain ⟨d,hd⟩:∃ d:Nat,1+u=(d:Int):=⟨(1+u).toNat,by omega⟩
 have hin:inI (d:Int):=by unfold inI;omega
 have hA:=con_any zs hz d (by omega) (by omega) i1 hi1 h1
 have h3:3 ^ d≤81:=Nat.le_trans (Nat.pow_le_pow_right (by decide) (show d≤4 by omega)) (by decide)
 refine sw_run 200 _ _ _ (byP (fc (drF zs) (fc hd hin)) ?_)
 refine sw_callXR (hA) rfl rfl rfl (byP (drF zs) True.intro) (byP (drF zs) True.intro) (byP (drF zs) True.intro) ?_
 rintro ⟨e,i2,h2⟩ ⟨he,hi2⟩
 simp only at he hi2
 have he2:e.name.size+e.other.size+szL (tyC e.ty)+szL (tyC e.res)+(e.args.length+szL (tmsC e.args))≤805:=by rw [← szL_tm];omega
 clear h3 he
 refine sw_run 200 _ _ _ (byP (drF zs) ?_)
 refine sw_callXR (hB 14 (by decide) (by decide) i2 hi2 h2) rfl rfl rfl (byP (drF zs) True.intro) (byP (drF zs) True.intro) (byP (drF zs) True.intro) ?_
 rintro ⟨v,i3,h3⟩ ⟨hv,hi3⟩
 simp only at hv hi3
 by_cases v0:v=0
 ·refine sw_run 200 _ _ _ (byP (fc (drF zs) (fc (eq_true v0) (fc Tryz.ntmps64 Tryz.results64))) ?_)
  refine sw_callXR (hB 15 (by decide) (by decide) i3 hi3 h3) rfl rfl rfl (byP (drF zs) True.intro) (byP (drF zs) True.intro) (byP (drF zs) True.intro) ?_
  rintro ⟨n,i4,h4⟩ ⟨hn,hi4⟩
  simp only at hn hi4
  refine sw_run 200 _ _ _ (byP (fc (drF zs) (fc Tryz.ntmps64 Tryz.results64)) ?_)
  refine ⟨.inl rfl,(Tm.mk n e.name e.other e.n e.ty e.res e.args,i4,h4),⟨?_,hi4⟩, ?_⟩
  ·show szL (tmC (Tm.mk n e.name e.other e.n e.ty e.res e.args))≤1100
   rw [szL_tm]
   simp only [mk_kind,mk_name,mk_other,mk_n,mk_ty,mk_res,mk_args]
   omega
  refine byP (fc (drF zs) (fc drM2 (fc mk_kind (fc mk_name (fc mk_other (fc mk_n (fc mk_ty (fc mk_res (fc mk_args (fc Tryz.ntmps64 Tryz.results64)))))))))) ?_
  repeat' (with_reducible apply And.intro)
  all_goals first | exact True.intro | rfl
 by_cases v1:v=1
 ·have hP:∀ (i:Nat),i≤zs.length→∀ h:Int,ConX Tryz.prog 81 [.p (curA zs i h),.b (.one (.rows 1 5 [.int 0,.int 1,.int 10006,.int 10007,.int (-1)]))] (pkI zs [0,1,10006,10007,-1]) (curO zs) curR:=fun i hi h=>con_PickInt zs hz [0,1,10006,10007,-1] (by decide) (by decide) i hi h
  refine sw_run 200 _ _ _ (byP (fc (drF zs) (fc v0 (fc (eq_true v1) (fc Tryz.ntmps64 Tryz.results64)))) ?_)
  refine sw_fzE 4 rfl ?_
  refine byQ ?_
  refine sw_callXR (hP i3 hi3 h3) rfl rfl rfl (byP (drF zs) True.intro) (byP (drF zs) True.intro) (byP (drF zs) True.intro) ?_
  rintro ⟨n,i4,h4⟩ ⟨hn,hi4⟩
  simp only at hn hi4
  refine sw_run 200 _ _ _ (byP (fc (drF zs) (fc Tryz.ntmps64 Tryz.results64)) ?_)
  refine ⟨.inl rfl,(Tm.mk e.kind e.name e.other n e.ty e.res e.args,i4,h4),⟨?_,hi4⟩, ?_⟩
  ·show szL (tmC (Tm.mk e.kind e.name e.other n e.ty e.res e.args))≤1100
   rw [szL_tm]
   simp only [mk_kind,mk_name,mk_other,mk_n,mk_ty,mk_res,mk_args]
   omega
  refine byP (fc (drF zs) (fc drM2 (fc mk_kind (fc mk_name (fc mk_other (fc mk_n (fc mk_ty (fc mk_res (fc mk_args (fc Tryz.ntmps64 Tryz.results64)))))))))) ?_
  repeat' (with_reducible apply And.intro)
  all_goals first | exact True.intro | rfl
 by_cases v2:v=2
 ·have hP:∀ (i:Nat),i≤zs.length→∀ h:Int,ConX Tryz.prog 145 [.p (curA zs i h),.b (.one (.rows 1 5 [.str ⟨#[]⟩,.str ⟨#[120]⟩,.str ⟨#[108,101,116]⟩,.str ⟨#[97,98,99,100,101]⟩,.str ⟨#[43]⟩]))] (txI zs [⟨#[]⟩,⟨#[120]⟩,⟨#[108,101,116]⟩,⟨#[97,98,99,100,101]⟩,⟨#[43]⟩]) (txO zs) txR:=fun i hi h=>con_Pick zs hz [⟨#[]⟩,⟨#[120]⟩,⟨#[108,101,116]⟩,⟨#[97,98,99,100,101]⟩,⟨#[43]⟩] (by decide) (by decide) i hi h
  refine sw_run 200 _ _ _ (byP (fc (drF zs) (fc v0 (fc v1 (fc (eq_true v2) (fc Tryz.ntmps64 Tryz.results64))))) ?_)
  refine sw_fzE 4 rfl ?_
  refine byQ ?_
  refine sw_callXR (hP i3 hi3 h3) rfl rfl rfl (byP (drF zs) True.intro) (byP (drF zs) True.intro) (byP (drF zs) True.intro) ?_
  rintro ⟨n,i4,h4⟩ ⟨hn,hi4⟩
  simp only at hn hi4
  have hn1:n.size≤5:=by
   simp only [List.mem_cons,List.not_mem_nil,or_false] at hn
   rcases hn with rfl | rfl | rfl | rfl | rfl <;> decide
  refine sw_run 200 _ _ _ (byP (fc (drF zs) (fc Tryz.ntmps64 Tryz.results64)) ?_)
  refine ⟨.inl rfl,(Tm.mk e.kind n e.other e.n e.ty e.res e.args,i4,h4),⟨?_,hi4⟩, ?_⟩
  ·show szL (tmC (Tm.mk e.kind n e.other e.n e.ty e.res e.args))≤1100
   rw [szL_tm]
   simp only [mk_kind,mk_name,mk_other,mk_n,mk_ty,mk_res,mk_args]
   omega
  refine byP (fc (drF zs) (fc drM2 (fc mk_kind (fc mk_name (fc mk_other (fc mk_n (fc mk_ty (fc mk_res (fc mk_args (fc Tryz.ntmps64 Tryz.results64)))))))))) ?_
  repeat' (with_reducible apply And.intro)
  all_goals first | exact True.intro | rfl
 by_cases v3:v=3
 ·have hX:=con_varA ⟨#[120]⟩
  have hst:tmsC (e.args++[.mk 1 ⟨#[120]⟩ ⟨#[]⟩ 0 (.mk 0 []) (.mk 0 []) []])=tmsC e.args++[.int 1,.str ⟨#[120]⟩,.str ⟨#[]⟩,.int 0,.int 0,.rows 2 0 [],.int 0,.rows 2 0 [],.rows 9 0 []]:=by rw [tmsC_flat,tmsC_flat,flC_app,flC_one];rfl
  have hln:(e.args++[Tm.mk 1 ⟨#[120]⟩ ⟨#[]⟩ 0 (.mk 0 []) (.mk 0 []) []]).length=e.args.length+1:=by simp
  refine sw_run 200 _ _ _ (byP (fc (drF zs) (fc v0 (fc v1 (fc v2 (fc (eq_true v3) (fc Tryz.ntmps64 Tryz.results64)))))) ?_)
  refine sw_drawn (.cons 0 true (.cons 1 true (.cons 2 false (.cons 3 false (.cons 4 false (.cons 5 true (.cons 6 false (.nil)))))))) (by kernel_rfl) fQXF_panic (by kernel_rfl) ?_
  refine sw_run 200 _ _ _ (byQ ?_)
  refine sw_callDPB (cap:=[]) (hX) rfl rfl rfl (byQ True.intro) ?_
  refine sw_run 200 _ _ _ (byQ ?_)
  refine ⟨⟨fun o ho=>by omega,by unfold maxLen;omega,by omega⟩, ?_⟩
  refine ⟨.inl rfl,(Tm.mk e.kind e.name e.other e.n e.ty e.res (e.args++[.mk 1 ⟨#[120]⟩ ⟨#[]⟩ 0 (.mk 0 []) (.mk 0 []) []]),i3,h3),⟨?_,hi3⟩, ?_⟩
  ·show szL (tmC (Tm.mk e.kind e.name e.other e.n e.ty e.res (e.args++[.mk 1 ⟨#[120]⟩ ⟨#[]⟩ 0 (.mk 0 []) (.mk 0 []) []])))≤1100
   rw [szL_tm]
   simp only [mk_kind,mk_name,mk_other,mk_n,mk_ty,mk_res,mk_args]
   rw [hst,hln,szL_append];show _+(_+1+(_+1))≤_;omega
  refine byP (fc (drF zs) (fc drM2 (fc hst (fc hln (fc mk_kind (fc mk_name (fc mk_other (fc mk_n (fc mk_ty (fc mk_res (fc mk_args (fc Tryz.ntmps64 Tryz.results64)))))))))))) ?_
  repeat' (with_reducible apply And.intro)
  all_goals first | exact True.intro | rfl
 by_cases v4:v=4
 ·refine sw_run 200 _ _ _ (byP (fc (drF zs) (fc v0 (fc v1 (fc v2 (fc v3 (fc (eq_true v4) (fc Tryz.ntmps64 Tryz.results64))))))) ?_)
  refine sw_callXR (con_l3Bent zs hz i3 hi3 h3) rfl rfl rfl (byP (drF zs) True.intro) (byP (drF zs) True.intro) (byP (drF zs) True.intro) ?_
  rintro ⟨t,i4,h4⟩ ⟨ht,hi4⟩
  simp only at ht hi4
  refine sw_run 200 _ _ _ (byP (fc (drF zs) (fc drM3 (fc Tryz.ntmps64 Tryz.results64))) ?_)
  refine ⟨.inl rfl,(Tm.mk e.kind e.name e.other e.n t e.res e.args,i4,h4),⟨?_,hi4⟩, ?_⟩
  ·show szL (tmC (Tm.mk e.kind e.name e.other e.n t e.res e.args))≤1100
   rw [szL_tm]
   simp only [mk_kind,mk_name,mk_other,mk_n,mk_ty,mk_res,mk_args]
   omega
  refine byP (fc (drF zs) (fc drM2 (fc mk_kind (fc mk_name (fc mk_other (fc mk_n (fc mk_ty (fc mk_res (fc mk_args (fc Tryz.ntmps64 Tryz.results64)))))))))) ?_
  repeat' (with_reducible apply And.intro)
  all_goals first | exact True.intro | rfl
 by_cases v5:v=5
 ·have hP:∀ (i:Nat),i≤zs.length→∀ h:Int,ConX Tryz.prog 145 [.p (curA zs i h),.b (.one (.rows 1 2 [.str ⟨#[120]⟩,.str ⟨#[122]⟩]))] (txI zs [⟨#[120]⟩,⟨#[122]⟩]) (txO zs) txR:=fun i hi h=>con_Pick zs hz [⟨#[120]⟩,⟨#[122]⟩] (by decide) (by decide) i hi h
  refine sw_run 200 _ _ _ (byP (fc (drF zs) (fc v0 (fc v1 (fc v2 (fc v3 (fc v4 (fc (eq_true v5) (fc Tryz.ntmps64 Tryz.results64)))))))) ?_)
  refine sw_fzE 4 rfl ?_
  refine byQ ?_
  refine sw_callXR (hP i3 hi3 h3) rfl rfl rfl (byP (drF zs) True.intro) (byP (drF zs) True.intro) (byP (drF zs) True.intro) ?_
  rintro ⟨n,i4,h4⟩ ⟨hn,hi4⟩
  simp only at hn hi4
  have hn1:n.size≤5:=by
   simp only [List.mem_cons,List.not_mem_nil,or_false] at hn
   rcases hn with rfl | rfl <;> decide
  refine sw_run 200 _ _ _ (byP (fc (drF zs) (fc Tryz.ntmps64 Tryz.results64)) ?_)
  refine ⟨.inl rfl,(Tm.mk e.kind e.name n e.n e.ty e.res e.args,i4,h4),⟨?_,hi4⟩, ?_⟩
  ·show szL (tmC (Tm.mk e.kind e.name n e.n e.ty e.res e.args))≤1100
   rw [szL_tm]
   simp only [mk_kind,mk_name,mk_other,mk_n,mk_ty,mk_res,mk_args]
   omega
  refine byP (fc (drF zs) (fc drM2 (fc mk_kind (fc mk_name (fc mk_other (fc mk_n (fc mk_ty (fc mk_res (fc mk_args (fc Tryz.ntmps64 Tryz.results64)))))))))) ?_
  repeat' (with_reducible apply And.intro)
  all_goals first | exact True.intro | rfl
 ·refine sw_run 200 _ _ _ (byP (fc (drF zs) (fc v0 (fc v1 (fc v2 (fc v3 (fc v4 (fc v5 (fc Tryz.ntmps64 Tryz.results64)))))))) ?_)
  refine ⟨.inl rfl,(e,i3,h3),⟨?_,hi3⟩, ?_⟩
  ·show szL (tmC (e))≤1100
   rw [szL_tm]
   omega
  refine byP (fc (drF zs) (fc drM2 (fc mk_kind (fc mk_name (fc mk_other (fc mk_n (fc mk_ty (fc mk_res (fc mk_args (fc Tryz.ntmps64 Tryz.results64)))))))))) ?_
  repeat' (with_reducible apply And.intro)
  all_goals first | exact True.intro | rfl
def gI:Ty:=.mk 1 []
def gB:Ty:=.mk 2 []
def gC (t:Ty):Ty:=.mk 4 [t]
def tyZ (t:Ty):RD:=.ag [.r (.int t.kind),.r (.rows 2 t.args.length (tysC t.args))]
def tyZs (x:Ty × Nat × Int):List RD:=[tyZ x.1]
theorem drZ (zs:List Int):(∀ i h,curA zs i h=[.r (.rows 1 zs.length (zs.map D.byt)),.o (.int i),.o (.int h)])∧(∀ v i h,curO zs (v,i,h)=[curA zs i h])∧(∀ v i h,curR (v,i,h)=[.one (.o (.int v))])∧(∀ v i h,bitO zs (v,i,h)=[curA zs i h])∧(∀ v i h,bitR (v,i,h)=[.one (.o (.bool v))])∧(∀ v i h,txO zs (v,i,h)=[curA zs i h])∧(∀ v i h,txR (v,i,h)=[.one (.o (.str v))])∧(∀ v i h,tyO zs (v,i,h)=[curA zs i h])∧(∀ v i h,tyZs (v,i,h)=[tyZ v])∧(∀ v i h,tmO zs (v,i,h)=[curA zs i h])∧(∀ v i h,tmZs (v,i,h)=[tmZ v])∧(∀ t,tyZ t = .ag [.r (.int t.kind),.r (.rows 2 t.args.length (tysC t.args))])∧(∀ t,tmZ t = .ag [.r (.int t.kind),.r (.str t.name),.r (.str t.other),.r (.int t.n),.r (.int t.ty.kind),.r (.rows 2 t.ty.args.length (tysC t.ty.args)),.r (.int t.res.kind),.r (.rows 2 t.res.args.length (tysC t.res.args)),.r (.rows 9 t.args.length (tmsC t.args))]) :=
 ⟨fun _ _=>rfl,fun _ _ _=>rfl,fun _ _ _=>rfl,fun _ _ _=>rfl,fun _ _ _=>rfl,fun _ _ _=>rfl,fun _ _ _=>rfl,fun _ _ _=>rfl,fun _ _ _=>rfl,fun _ _ _=>rfl,fun _ _ _=>rfl,fun _=>rfl,fun _=>rfl⟩
theorem g_kind {t : Ty} (h : formT t = true) : (t.kind = 1 ∧ t.args = []) ∨ (t.kind = 2 ∧ t.args = []) ∨ (t.kind = 3 ∧ t.args.length = 2 ∧ formT t.args[0]! = true ∧ formT t.args[1]! = true ∧ szL (tyC t) = 2 + (szL (tyC t.args[0]!) + szL (tyC t.args[1]!))) ∨ (t.kind = 4 ∧ t.args.length = 1 ∧ formT t.args[0]! = true ∧ szL (tyC t) = 1 + szL (tyC t.args[0]!)) := by
  obtain ⟨k, xs⟩ := t
  rw [formT] at h
  simp only [Bool.and_eq_true] at h
  obtain ⟨h1, h2⟩ := h
  simp only [Ty.kind, Ty.args]
  unfold shB at h2
  split at h2
  · rename_i hk
    have : xs = [] := List.eq_nil_of_length_eq_zero (by simpa using h2)
    rcases hk with hk | hk
    · exact .inl ⟨hk, this⟩
    · exact .inr (.inl ⟨hk, this⟩)
  · split at h2
    · rename_i hk
      have hl : xs.length = 2 := by have := of_decide_eq_true h2; omega
      match xs, hl with
      | [a, b], _ =>
        simp only [formTs, Bool.and_eq_true] at h1
        exact .inr (.inr (.inl ⟨hk, rfl, h1.1, h1.2.1, sz_two k a b⟩))
    · split at h2
      · rename_i hk
        have hl : xs.length = 1 := by have := of_decide_eq_true h2; omega
        match xs, hl with
        | [a], _ =>
          simp only [formTs, Bool.and_eq_true] at h1
          exact .inr (.inr (.inr ⟨hk, rfl, h1.1, sz_one k a⟩))
      · cases h2
def gOk (g:Tg):Prop:=g.name.size≤1∧formT g.ty=true∧szL (tyC g.ty)≤30
def Cx (m:Nat) (ctx:List Tg):Prop:=ctx.length≤m∧∀ g ∈ ctx,gOk g
theorem tg_sz (g:Tg):szL (tgC g)=g.name.size+szL (tyC g.ty):=by
 obtain ⟨n,⟨k,xs⟩,l⟩:=g
 simp only [tgC,tysD,tyC,szL,szD,Ty.args]
theorem cx_sz {m:Nat} {ctx:List Tg} (h:Cx m ctx):szL (flC tgC ctx)≤m * 31:=by
 refine Nat.le_trans (szL_fl tgC 31 ctx fun g hg => ?_) (Nat.mul_le_mul_right _ h.1)
 have:=h.2 g hg
 rw [tg_sz]
 have h1:=this.1
 have h2:=this.2.2
 omega
theorem cx_app {m:Nat} {ctx:List Tg} (h:Cx m ctx) {g:Tg} (hg:gOk g):Cx (m+1) (ctx++[g]) :=
 ⟨by have:=h.1;simp;omega,fun x hx=>by
  rcases List.mem_append.1 hx with hx | hx
  ·exact h.2 x hx
  ·rw [List.mem_singleton.1 hx];exact hg⟩
theorem safe_mem (ctx : List Tg) (n : Int) : ∀ k, k ≤ ctx.length → ∀ g ∈ safeTg ctx n k, g ∈ ctx
  | 0, _, g, h => by rw [safeTg] at h; cases h
  | k + 1, hk, g, h => by
    rw [safeTg] at h
    split at h
    · rcases List.mem_append.1 h with h | h
      · exact safe_mem ctx n k (by omega) g h
      · rw [List.mem_singleton.1 h]; exact mem_bang hk
    · exact safe_mem ctx n k (by omega) g h
theorem cx_safe {m:Nat} {ctx:List Tg} (h:Cx m ctx) (n:Int):Cx m (safeTg ctx n ctx.length) :=
 ⟨Nat.le_trans (safeTg_len ctx n _) h.1,fun g hg=>h.2 g (safe_mem ctx n _ (Nat.le_refl _) g hg)⟩
mutual
def mostT:Ty→Nat
 | .mk k xs=>if k=4 then 1+mostL xs else 0
def mostL:List Ty→Nat
 | []=>0
 | a :: _=>mostT a
end
theorem mostT_eq {t:Ty} (hk:t.kind=4) (hl:t.args.length=1):mostT t=1+mostT t.args[0]! := by
 obtain ⟨k,xs⟩:=t
 simp only [Ty.kind] at hk
 simp only [Ty.args] at hl ⊢
 match xs,hl with
 | [a],_=>rw [mostT,if_pos hk,mostL];rfl
theorem mostT_no {t:Ty} (hk:¬ t.kind=4):mostT t=0:=by
 obtain ⟨k,xs⟩:=t
 simp only [Ty.kind] at hk
 rw [mostT,if_neg hk]
theorem most_le : ∀ (m : Nat) (t : Ty), szL (tyC t) ≤ m → formT t = true → mostT t ≤ m
  | m, t, h, hf => by
    rcases g_kind hf with g | g | g | g
    · rw [mostT_no (by omega)]; omega
    · rw [mostT_no (by omega)]; omega
    · rw [mostT_no (by omega)]; omega
    · obtain ⟨hk, hl, hf0, hs⟩ := g
      rw [mostT_eq hk hl]
      cases m with
      | zero => omega
      | succ m =>
        have := most_le m t.args[0]! (by omega) hf0
        omega
theorem sz_node (k:Int) (xs:List Tm):szL (tmC (tNode k xs))=xs.length+szL (tmsC xs):=by
 rw [szL_tm];show 0+0+0+0+_=_;simp only [tNode,Tm.args];omega
theorem sz_op (s:ByteArray) (xs:List Tm):szL (tmC (tOp s xs))=s.size+(xs.length+szL (tmsC xs)):=by
 rw [szL_tm];show s.size+0+0+0+_=_;simp only [tOp,Tm.args];omega
theorem sz_lam (s:ByteArray) (t:Ty) (e:Tm):szL (tmC (tLam s t e))=s.size+szL (tyC t)+(1+szL (tmC e)):=by
 rw [szL_tm];show s.size+0+szL (tyC t)+0+_=_
 simp only [tLam,Tm.args,List.length_cons,List.length_nil,tmsC,List.append_nil]
 omega
def tLet (s:ByteArray) (a b:Tm):Tm:=.mk 8 s e0 0 ty0 ty0 [a,b]
theorem sz_let (s:ByteArray) (a b:Tm):szL (tmC (tLet s a b))=s.size+(2+(szL (tmC a)+szL (tmC b))):=by
 rw [szL_tm];show s.size+0+0+0+_=_
 simp only [tLet,Tm.args,List.length_cons,List.length_nil,tmsC,List.append_nil,szL_append]
 omega
theorem con_gB:ConP Tryz.prog 202 [] [] [tyZ gB]:=by
 refine conR (args:=[]) (rs:=[.ag (tyC gB)]) ?_ trivial
 refine con_run Tryz.func202 rfl rfl (by simp [Tryz.ntmps202]) ?_
 refine byP (fc Tryz.ntmps202 Tryz.results202) ?_
 exact ⟨rfl,rfl,rfl⟩
theorem con_gI:ConP Tryz.prog 201 [] [] [tyZ gI]:=by
 refine conR (args:=[]) (rs:=[.ag (tyC gI)]) ?_ trivial
 refine con_run Tryz.func201 rfl rfl (by simp [Tryz.ntmps201]) ?_
 refine byP (fc Tryz.ntmps201 Tryz.results201) ?_
 exact ⟨rfl,rfl,rfl⟩
theorem tyZ_R (t:Ty):toR (.ag (tyC t))=tyZ t:=by rw [tyC_eq];rfl
theorem tmZ_R (t:Tm):toR (.ag (tmC t))=tmZ t:=by rw [tmC_eq];rfl
theorem conTy {f:FuncId} {args:List PD} {t:Ty} (h:Con Tryz.prog f args [.ag (tyC t)]):ConP Tryz.prog f (args.map PA.b) [] [tyZ t]:=by
 have:=conR h trivial
 rw [List.map_cons,List.map_nil,tyZ_R] at this
 exact this
theorem conTm {f:FuncId} {args:List PD} {t:Tm} (h:Con Tryz.prog f args [.ag (tmC t)]):ConP Tryz.prog f (args.map PA.b) [] [tmZ t]:=by
 have:=conR h trivial
 rw [List.map_cons,List.map_nil,tmZ_R] at this
 exact this
theorem con_gC (t:Ty) (ht:szL (tyC t)≤1000000):ConP Tryz.prog 203 [.b (.ag [.int t.kind,.rows 2 t.args.length (tysC t.args)])] [] [tyZ (gC t)]:=by
 have:=conTy (con_l3Code t (by omega))
 rw [tyC_eq] at this
 exact this
theorem con_gF (a b:Ty) (ha:szL (tyC a)≤1000000) (hb:szL (tyC b)≤1000000):ConP Tryz.prog 204 [.b (.ag [.int a.kind,.rows 2 a.args.length (tysC a.args)]),.b (.ag [.int b.kind,.rows 2 b.args.length (tysC b.args)])] [] [tyZ (.mk 3 [a,b])]:=by
 have:=conTy (con_l3Fun a b (by omega) (by omega))
 rw [tyC_eq,tyC_eq] at this
 exact this
theorem tmL1 (e:Tm):tmsC [e]=tmC e:=by rw [tmsC,tmsC,List.append_nil]
theorem tmL2 (a b:Tm):tmsC [a,b]=tmC a++tmC b:=by rw [tmsC,tmL1]
theorem tmL3 (a b c:Tm):tmsC [a,b,c]=tmC a++(tmC b++tmC c):=by rw [tmsC,tmL2]
theorem con_node1 (k:Int) (e:Tm) (hz:szL (tmC e)≤1000000):ConP Tryz.prog 188 [.b (.one (.int k)),.b (.one (.rows 9 1 (tmC e)))] [] [tmZ (tNode k [e])]:=by
 have:=conTm (con_l5Node k [e] (by rw [tmL1];simp only [List.length_cons,List.length_nil];omega))
 rw [tmL1] at this
 exact this
theorem con_node2 (k:Int) (a b:Tm) (ha:szL (tmC a)≤1000000) (hb:szL (tmC b)≤1000000):ConP Tryz.prog 188 [.b (.one (.int k)),.b (.one (.rows 9 2 (tmC a++tmC b)))] [] [tmZ (tNode k [a,b])]:=by
 have:=conTm (con_l5Node k [a,b] (by rw [tmL2,szL_append];simp only [List.length_cons,List.length_nil];omega))
 rw [tmL2] at this
 exact this
theorem con_node3 (k:Int) (a b c:Tm) (ha:szL (tmC a)≤1000000) (hb:szL (tmC b)≤1000000) (hc:szL (tmC c)≤1000000):ConP Tryz.prog 188 [.b (.one (.int k)),.b (.one (.rows 9 3 (tmC a++(tmC b++tmC c))))] [] [tmZ (tNode k [a,b,c])]:=by
 have:=conTm (con_l5Node k [a,b,c] (by rw [tmL3,szL_append,szL_append];simp only [List.length_cons,List.length_nil];omega))
 rw [tmL3] at this
 exact this
theorem con_op1 (s:ByteArray) (e:Tm) (hz:szL (tmC e)≤1000000):ConP Tryz.prog 117 [.b (.one (.str s)),.b (.one (.rows 9 1 (tmC e)))] [] [tmZ (tOp s [e])]:=by
 have:=conTm (con_l5Op s [e] (by rw [tmL1];simp only [List.length_cons,List.length_nil];omega))
 rw [tmL1] at this
 exact this
theorem con_op2 (s:ByteArray) (a b:Tm) (ha:szL (tmC a)≤1000000) (hb:szL (tmC b)≤1000000):ConP Tryz.prog 117 [.b (.one (.str s)),.b (.one (.rows 9 2 (tmC a++tmC b)))] [] [tmZ (tOp s [a,b])]:=by
 have:=conTm (con_l5Op s [a,b] (by rw [tmL2,szL_append];simp only [List.length_cons,List.length_nil];omega))
 rw [tmL2] at this
 exact this
theorem con_lamZ (s:ByteArray) (t:Ty) (e:Tm) (hz:szL (tmC e)≤1000000) (ht:szL (tyC t)≤1000000):ConP Tryz.prog 256 [.b (.one (.str s)),.b (.ag [.int t.kind,.rows 2 t.args.length (tysC t.args)]),.b (.ag (tmC e))] [] [tmZ (tLam s t e)]:=by
 have:=conTm (con_l5Lam s t e (by omega) (by omega))
 rw [tyC_eq] at this
 exact this
theorem con_letZ (s:ByteArray) (a b:Tm) (ha:szL (tmC a)≤1000000) (hb:szL (tmC b)≤1000000):ConP Tryz.prog 274 [.b (.one (.str s)),.b (.ag (tmC a)),.b (.ag (tmC b))] [] [tmZ (tLet s a b)]:=by
 refine conTm (args:=[.one (.str s),.ag (tmC a),.ag (tmC b)]) ?_
 have hN:=con_l5Node 8 [a,b] (by rw [tmL2,szL_append];simp only [List.length_cons,List.length_nil];omega)
 rw [tmL2] at hN
 refine con_run Tryz.func274 rfl rfl (by simp [Tryz.ntmps274]) ?_
 refine byP (fc Tryz.ntmps274 Tryz.results274) ?_
 refine sw_call (hN) rfl (aAs_ok (byQ True.intro)) (byQ True.intro) ?_
 refine sw_run 200 _ _ _ (byP (fc Tryz.ntmps274 Tryz.results274) ?_)
 exact ⟨rfl,rfl,rfl,rfl,rfl,rfl,rfl,rfl,rfl⟩
theorem con_withZ (xs:List Tg) (s:ByteArray) (t:Ty) (n:Int) (hl:xs.length≤1000000):ConP Tryz.prog 257 [.b (.one (.rows 4 xs.length (flC tgC xs))),.b (.one (.str s)),.b (.ag [.int t.kind,.rows 2 t.args.length (tysC t.args)]),.b (.one (.int n))] [] [.one (.r (.rows 4 (xs++[(⟨s,t,n⟩:Tg)]).length (flC tgC (xs++[(⟨s,t,n⟩:Tg)]))))]:=by
 rw [List.length_append,flC_app,flC_one]
 simp only [tgC,tysD,List.length_cons,List.length_nil,Nat.zero_add]
 refine con_runPF [0,1,2,3,4,5] Tryz.func257 rfl rfl (by simp [Tryz.ntmps257]) rfl ?_
 refine byP (fc Tryz.ntmps257 Tryz.results257) ?_
 exact ⟨⟨fun _ _=>trivial,by unfold maxLen;omega,by omega⟩,fun o h=>by omega,by unfold maxLen;omega,by omega⟩
theorem con_safeZ {m:Nat} (xs:List Tg) (n:Int) (h:Cx m xs) (hm:m≤1000000):ConP Tryz.prog 266 [.b (.one (.rows 4 xs.length (flC tgC xs))),.b (.one (.int n))] [] [.one (.r (.rows 4 (safeTg xs n xs.length).length (flC tgC (safeTg xs n xs.length))))] :=
 conR (con_SafeCtxS xs n (by
  have h1:=cx_sz h
  have h2:=h.1
  show xs.length+szL (flC tgC xs)≤_
  omega)) trivial
theorem con_most : ∀ (m : Nat) (t : Ty), szL (tyC t) ≤ m → m ≤ 1000 → formT t = true → Con Tryz.prog 275 [.ag [.int t.kind, .rows 2 t.args.length (tysC t.args)]] [.one (.int (mostT t))]
  | m, t, hz, hm, hf => by
    by_cases hk : t.kind = 4
    · rcases g_kind hf with g | g | g | g
      all_goals try (exfalso; omega)
      obtain ⟨_, hl, hf0, hs⟩ := g
      cases m with
      | zero => omega
      | succ m =>
        have ih := con_most m t.args[0]! (by omega) (by omega) hf0
        have hb := most_le m t.args[0]! (by omega) hf0
        have i0 : (0 : Int) < (t.args.length : Int) := by omega
        have r0 := tysC_row' t.args 0 (by omega)
        have hin : inI (1 + (mostT t.args[0]! : Int)) := by unfold inI; omega
        have he : (mostT t : Int) = 1 + (mostT t.args[0]! : Int) := by rw [mostT_eq hk hl]; omega
        rw [he]
        refine con_run Tryz.func275 rfl rfl (by simp [Tryz.ntmps275]) ?_
        refine byP (fc hk (fc i0 (fc r0 (fc Tryz.ntmps275 Tryz.results275)))) ?_
        refine sw_call (ih) rfl (aAs_ok (byQ True.intro)) (byQ True.intro) ?_
        refine sw_run 200 _ _ _ (byP (fc Tryz.ntmps275 Tryz.results275) ?_)
        exact hin
    · rw [mostT_no hk]
      refine con_run Tryz.func275 rfl rfl (by simp [Tryz.ntmps275]) ?_
      exact byP (fc hk (fc Tryz.ntmps275 Tryz.results275)) True.intro
def pcI (zs:List Int) (x:Ty × Nat × Int):Prop:=(szL (tyC x.1)≤2∧formT x.1=true)∧x.2.1≤zs.length
theorem con_pick9 (zs:List Int) (hz:BytOk zs) (n:Int) (i:Nat) (hi:i≤zs.length) (h:Int):ConX Tryz.prog 273 [.p (curA zs i h),.b (.one (.int n))] (pcI zs) (tyO zs) tyZs:=by
 have hO:=fun m hm hm2 i hi h=>con_Once zs hz m hm hm2 i hi h
 have p1:szL (tyC gI)≤2∧formT gI=true:=by decide
 have p2:szL (tyC (.mk 3 [gI,gI]))≤2∧formT (.mk 3 [gI,gI])=true:=by decide
 have p3:szL (tyC (gC gI))≤2∧formT (gC gI)=true:=by decide
 have hC:=con_gC gI (by decide)
 have hF:=con_gF gI gI (by decide) (by decide)
 refine con_runX Tryz.func273 rfl rfl (by simp [Tryz.ntmps273]) (fun _ _=>rfl) ?_
 refine byP (fc (drZ zs) (fc Tryz.ntmps273 Tryz.results273)) ?_
 refine sw_callPR (con_gI) rfl rfl rfl (byP (drZ zs) True.intro) (byP (drZ zs) True.intro) (byP (drZ zs) True.intro) ?_
 by_cases hn:n<2
 ·refine sw_run 200 _ _ _ (byP (fc (drZ zs) (fc hn (fc Tryz.ntmps273 Tryz.results273))) ?_)
  refine sw_callXR (hO 2 (by decide) (by decide) i hi h) rfl rfl rfl (byP (drZ zs) True.intro) (byP (drZ zs) True.intro) (byP (drZ zs) True.intro) ?_
  rintro ⟨b,i1,h1⟩ hi1
  have hi1':i1≤zs.length:=hi1
  cases b
  ·refine sw_run 200 _ _ _ (byP (fc (drZ zs) (fc Tryz.ntmps273 Tryz.results273)) ?_)
   refine sw_callXR (hO 3 (by decide) (by decide) i1 hi1' h1) rfl rfl rfl (byP (drZ zs) True.intro) (byP (drZ zs) True.intro) (byP (drZ zs) True.intro) ?_
   rintro ⟨b2,i2,h2⟩ hi2
   have hi2':i2≤zs.length:=hi2
   cases b2
   ·refine sw_run 200 _ _ _ (byP (fc (drZ zs) (fc Tryz.ntmps273 Tryz.results273)) ?_)
    refine ⟨.inl rfl,(gI,i2,h2),⟨by assumption,hi2'⟩, ?_⟩
    refine byP (fc (drZ zs) (fc Tryz.ntmps273 Tryz.results273)) ?_
    repeat' (with_reducible apply And.intro)
    all_goals first | exact True.intro | rfl
   ·refine sw_run 200 _ _ _ (byP (fc (drZ zs) (fc Tryz.ntmps273 Tryz.results273)) ?_)
    refine sw_callPR (hF) rfl rfl rfl (byP (drZ zs) True.intro) (byP (drZ zs) True.intro) (byP (drZ zs) True.intro) ?_
    refine sw_run 200 _ _ _ (byP (fc (drZ zs) (fc Tryz.ntmps273 Tryz.results273)) ?_)
    refine ⟨.inl rfl,(.mk 3 [gI,gI],i2,h2),⟨by assumption,hi2'⟩, ?_⟩
    refine byP (fc (drZ zs) (fc Tryz.ntmps273 Tryz.results273)) ?_
    repeat' (with_reducible apply And.intro)
    all_goals first | exact True.intro | rfl
  ·refine sw_run 200 _ _ _ (byP (fc (drZ zs) (fc Tryz.ntmps273 Tryz.results273)) ?_)
   refine sw_callPR (hC) rfl rfl rfl (byP (drZ zs) True.intro) (byP (drZ zs) True.intro) (byP (drZ zs) True.intro) ?_
   refine sw_run 200 _ _ _ (byP (fc (drZ zs) (fc Tryz.ntmps273 Tryz.results273)) ?_)
   refine ⟨.inl rfl,(gC gI,i1,h1),⟨by assumption,hi1'⟩, ?_⟩
   refine byP (fc (drZ zs) (fc Tryz.ntmps273 Tryz.results273)) ?_
   repeat' (with_reducible apply And.intro)
   all_goals first | exact True.intro | rfl
 ·refine sw_run 200 _ _ _ (byP (fc (drZ zs) (fc hn (fc Tryz.ntmps273 Tryz.results273))) ?_)
  refine sw_callXR (hO 3 (by decide) (by decide) i hi h) rfl rfl rfl (byP (drZ zs) True.intro) (byP (drZ zs) True.intro) (byP (drZ zs) True.intro) ?_
  rintro ⟨b2,i2,h2⟩ hi2
  have hi2':i2≤zs.length:=hi2
  cases b2
  ·refine sw_run 200 _ _ _ (byP (fc (drZ zs) (fc Tryz.ntmps273 Tryz.results273)) ?_)
   refine ⟨.inl rfl,(gI,i2,h2),⟨by assumption,hi2'⟩, ?_⟩
   refine byP (fc (drZ zs) (fc Tryz.ntmps273 Tryz.results273)) ?_
   repeat' (with_reducible apply And.intro)
   all_goals first | exact True.intro | rfl
  ·refine sw_run 200 _ _ _ (byP (fc (drZ zs) (fc Tryz.ntmps273 Tryz.results273)) ?_)
   refine sw_callPR (hF) rfl rfl rfl (byP (drZ zs) True.intro) (byP (drZ zs) True.intro) (byP (drZ zs) True.intro) ?_
   refine sw_run 200 _ _ _ (byP (fc (drZ zs) (fc Tryz.ntmps273 Tryz.results273)) ?_)
   refine ⟨.inl rfl,(.mk 3 [gI,gI],i2,h2),⟨by assumption,hi2'⟩, ?_⟩
   refine byP (fc (drZ zs) (fc Tryz.ntmps273 Tryz.results273)) ?_
   repeat' (with_reducible apply And.intro)
   all_goals first | exact True.intro | rfl
end Go.Proofs.YtaidalilfmjfgaaGreat
