import Derived.Test.YtaidalilfmjfgaaGreatFv
namespace Go.Proofs.YtaidalilfmjfgaaGreat
open Go.Proofs.Tryz
open Go.RowKit
set_option linter.unusedVariables false
set_option linter.unusedSimpArgs false
set_option maxRecDepth 20000
theorem Vw (ns:List ByteArray) (y:ByteArray) (xs:List ByteArray):woL (ns++[y]) xs=woL [y] (woL ns xs):=by
 rw [woL,woL,woL,List.filter_filter]
 congr 1;funext z
 rw [← Bool.decide_and]
 congr 1
 rw [Jo,Jo,Jo];simp [and_comm]
theorem OZ (k:Int) (nm ot:ByteArray) (c:Nat):(bdN k nm ot c).length≤2:=by
 unfold bdN
 split <;> (try split) <;> (try split) <;> simp
theorem Gn:∀ t:Tm,szL (tmC t)≤40000000→Con prog 139 [.ag (tmC t)] [.one (Bl (AE t))]:=by
 refine Tm.ind fun t ih hz => ?_
 obtain ⟨h5,h7,h8⟩:=CJ hz
 have hT:=CW t
 have hB:=JX t (by omega)
 rw [frF] at hT
 by_cases h1:t.kind=1
 ·rw [if_pos h1] at hT
  refine Af func139 rfl rfl (by simp [ntmps139]) ?_
  exact byP (fc hT (fc (eq_true h1) (fc ntmps139 results139))) tI
 rw [if_neg h1,List.length_map] at hT
 have hnl:=OZ t.kind t.name t.other t.args.length
 generalize hn:bdN t.kind t.name t.other t.args.length=ns at hT hB hnl
 generalize hp:bdP t.kind t.args.length=p at hT hB
 simp only [Bl] at hB
 refine Af func139 rfl rfl (by simp [ntmps139]) ?_
 refine byP (fc h1 (fc ntmps139 results139)) ?_
 refine Kc hB ?_
 refine rQ ?_
 refine Al (fun k:Nat=>k≤t.args.length) (fun k=>⟨55,[(6,.i k),(5,.sl 2),(4,.i p),(3,.sl 1),(1,.bx 0 0)],[(0,[.i t.kind,.s t.name,.s t.other,.i t.n,.i t.ty.kind,.br (.rows 2 t.ty.args.length (Ai t.ty.args)),.i t.res.kind,.br (.rows 2 t.res.args.length (Ai t.res.args)),.br (.rows 9 t.args.length (Av t.args))])],[(2,some ⟨.rows 1 (frU ns p (t.args.map AE) k).length ((frU ns p (t.args.map AE) k).map D.str),if k=0 then some 9 else none,true⟩),(1,some ⟨.rows 1 ns.length (ns.map D.str),none,true⟩)],3,[]⟩) (fun k=>t.args.length-k) 0 id (Nat.zero_le _) ?_ ?_
 ·exact byP frU.eq_1 tI
 ·rintro k hk
  refine Aa 200 _ _ _ ?_
  by_cases hlt:k<t.args.length
  ·have hi:(k:Int)<(t.args.length:Int):=by omega
   have hR:=Aj t.args k hlt
   have hm:=Ab hlt
   have hs:=Bv t.args k hlt
   have hrec:=ih _ hm (by omega)
   have hfs:=Ka t.args[k]!
   have hfl:(AE t.args[k]!).length≤sL (AE t.args[k]!):=by rw [sL];omega
   have hus:=Tz ns p (t.args.map AE) k (by rw [List.length_map];omega)
   have hu2:=Wz (t.args.map AE) k
   have hu3:=JG t.args
   rw [GP] at hu3
   simp only [Bl] at hrec
   refine byP (fc hi hR) ?_
   refine Kc hrec ?_
   refine rQ ?_
   by_cases hq:(k:Int)=p
   ·have hst:frU ns p (t.args.map AE) (k+1)=Ml (frU ns p (t.args.map AE) k) (woL ns (AE t.args[k]!)):=by rw [frU,if_pos hq,AU AE hlt]
    refine Al (fun i:Nat=>i≤ns.length) (fun i=>⟨55,[(8,.i i),(7,.sl 3),(6,.i k),(5,.sl 2),(4,.i p),(3,.sl 1),(1,.bx 0 0)],[(0,[.i t.kind,.s t.name,.s t.other,.i t.n,.i t.ty.kind,.br (.rows 2 t.ty.args.length (Ai t.ty.args)),.i t.res.kind,.br (.rows 2 t.res.args.length (Ai t.res.args)),.br (.rows 9 t.args.length (Av t.args))])],[(3,some ⟨.rows 1 (woL (ns.take i) (AE t.args[k]!)).length ((woL (ns.take i) (AE t.args[k]!)).map D.str),none,true⟩),(2,some ⟨.rows 1 (frU ns p (t.args.map AE) k).length ((frU ns p (t.args.map AE) k).map D.str),if k=0 then some 9 else none,true⟩),(1,some ⟨.rows 1 ns.length (ns.map D.str),none,true⟩)],4,[]⟩) (fun i=>ns.length-i) 0 id (Nat.zero_le _) ?_ ?_
    ·exact byP aAD tI
    ·rintro i hi0
     refine Aa 200 _ _ _ ?_
     have hwz:=Tq (ns.take i) (AE t.args[k]!)
     have hwl:(woL (ns.take i) (AE t.args[k]!)).length≤sL (woL (ns.take i) (AE t.args[k]!)):=by rw [sL];omega
     by_cases hlt2:i<ns.length
     ·have hi2:(i:Int)<(ns.length:Int):=by omega
      have hR2:=Cc ns i hlt2
      have hW:=Lr (woL (ns.take i) (AE t.args[k]!)) ns[i]! (by omega)
      have hws:woL (ns.take (i+1)) (AE t.args[k]!)=woL [ns[i]!] (woL (ns.take i) (AE t.args[k]!)):=by rw [AH ns i hlt2,Vw]
      simp only [Bl] at hW
      refine byP (fc hi2 (fc hR2 (eq_true hq))) ?_
      refine Kc hW ?_
      refine rQ ?_
      refine ⟨by unfold inI;omega,i+1,rnL [(3,4)],by omega,by omega, ?_⟩
      exact byP hws tI
     ·have hi2:¬ (i:Int)<(ns.length:Int):=by omega
      obtain rfl:i=ns.length:=by omega
      rw [List.take_length] at hwz hwl
      simp only [push_cast,↓reduceIte,Nat.reduceLT,Nat.reduceAdd,Nat.reduceMul,Nat.reduceLeDiff,Nat.reduceEqDiff,reduceCtorEq,Int.reduceLT,Int.reduceLE,Int.reduceEq,Int.reduceNe,Int.reduceAdd,Int.reduceSub,Int.reduceMul,Int.reduceNeg,Int.reduceToNat,Nat.reduceSub,hi2,List.take_length]
      have hU:=GC (frU ns p (t.args.map AE) k) (woL ns (AE t.args[k]!)) (by omega) (by omega)
      simp only [Bl] at hU
      refine Aa 200 _ _ _ ?_
      simp only [push_cast,↓reduceIte,Nat.reduceLT,Nat.reduceAdd,Nat.reduceMul,Nat.reduceLeDiff,Nat.reduceEqDiff,reduceCtorEq,Int.reduceLT,Int.reduceLE,Int.reduceEq,Int.reduceNe,Int.reduceAdd,Int.reduceSub,Int.reduceMul,Int.reduceNeg,Int.reduceToNat,Nat.reduceSub]
      refine Kc hU ?_
      refine rQ ?_
      refine ⟨by unfold inI;omega,k+1,rnL [(2,4)],by omega,by omega, ?_⟩
      exact byP hst tI
   ·have hst:frU ns p (t.args.map AE) (k+1)=Ml (frU ns p (t.args.map AE) k) (AE t.args[k]!):=by rw [frU,if_neg hq,AU AE hlt]
    refine Al (fun i:Nat=>i=0) (fun i=>⟨55,[(8,.i i),(7,.sl 3),(6,.i k),(5,.sl 2),(4,.i p),(3,.sl 1),(1,.bx 0 0)],[(0,[.i t.kind,.s t.name,.s t.other,.i t.n,.i t.ty.kind,.br (.rows 2 t.ty.args.length (Ai t.ty.args)),.i t.res.kind,.br (.rows 2 t.res.args.length (Ai t.res.args)),.br (.rows 9 t.args.length (Av t.args))])],[(3,some ⟨.rows 1 (AE t.args[k]!).length ((AE t.args[k]!).map D.str),none,true⟩),(2,some ⟨.rows 1 (frU ns p (t.args.map AE) k).length ((frU ns p (t.args.map AE) k).map D.str),if k=0 then some 9 else none,true⟩),(1,some ⟨.rows 1 ns.length (ns.map D.str),none,true⟩)],4,[]⟩) (fun i=>0) 0 id rfl ?_ ?_
    ·exact byQ tI
    ·rintro i rfl
     refine Aa 200 _ _ _ ?_
     by_cases hlt2:0<ns.length
     ·have hi2:(0:Int)<(ns.length:Int):=by omega
      refine byP (fc hi2 hq) ?_
      have hU:=GC (frU ns p (t.args.map AE) k) (AE t.args[k]!) (by omega) (by omega)
      simp only [Bl] at hU
      refine rQ ?_
      refine Kc hU ?_
      refine rQ ?_
      refine ⟨by unfold inI;omega,k+1,rnL [(2,4)],by omega,by omega, ?_⟩
      exact byP hst tI
     ·have hi2:¬ (0:Int)<(ns.length:Int):=by omega
      refine byP hi2 ?_
      have hU:=GC (frU ns p (t.args.map AE) k) (AE t.args[k]!) (by omega) (by omega)
      simp only [Bl] at hU
      refine rQ ?_
      refine Kc hU ?_
      refine rQ ?_
      refine ⟨by unfold inI;omega,k+1,rnL [(2,4)],by omega,by omega, ?_⟩
      exact byP hst tI
  ·have hi:¬ (k:Int)<(t.args.length:Int):=by omega
   obtain rfl:k=t.args.length:=by omega
   refine byP hi ?_
   exact rG (fc hT (fc ntmps139 results139)) tI
theorem Nd (t:Tm) (hz:szL (tmC t)≤40000000):Con prog 61 [.ag (tmC t)] [.one (.bool (decide (((AE t).length:Int)=0)))]:=by
 have hc:=Gn t hz
 simp only [Bl] at hc
 refine Af func61 rfl rfl (by simp [ntmps61]) ?_
 refine byP (fc ntmps61 results61) ?_
 refine Kc hc ?_
 exact rG (fc ntmps61 results61) tI
end Go.Proofs.YtaidalilfmjfgaaGreat
