import Derived.Test.YtaidalilfmjfgaaGreatDrm
import Derived.Test.YtaidalilfmjfgaaGreatInsV
import Derived.Test.YtaidalilfmjfgaaGreatFv
import Derived.Test.YtaidalilfmjfgaaGreatBy
import Derived.Test.YtaidalilfmjfgaaGreatPq
import Derived.Test.YtaidalilfmjfgaaGreatCpL
import Derived.Test.YtaidalilfmjfgaaGreatCpS
import Derived.Test.YtaidalilfmjfgaaGreatShI
namespace Go.Proofs.YtaidalilfmjfgaaGreat
open Go.RowKit
set_option linter.unusedVariables false
set_option linter.unusedSimpArgs false
set_option maxRecDepth 20000
def inR (x:Ins × Nat × Int):List RD:=[.ag [.o (.int x.1.op),.o (.int x.1.a)]]
def inO (zs:List Int) (x:Ins × Nat × Int):List (List CD):=[curA zs x.2.1 x.2.2]
def inIn (zs:List Int) (x:Ins × Nat × Int):Prop:=((-1≤x.1.op∧x.1.op≤13) ∧ -1≤x.1.a∧x.1.a≤10007)∧x.2.1≤zs.length
theorem vdF (zs:List Int):(∀ v i h,inO zs (v,i,h)=[curA zs i h])∧(∀ op a i h,inR (⟨op,a⟩,i,h)=[.ag [.o (.int op),.o (.int a)]]):=⟨fun _ _ _=>rfl,fun _ _ _ _=>rfl⟩
theorem con_insD (zs:List Int) (hz:BytOk zs) (i:Nat) (hi:i≤zs.length) (h:Int):ConX Tryz.prog 162 [.p (curA zs i h)] (inIn zs) (inO zs) inR:=by
 have hB:=fun n hn hn2 i hi h=>con_Below zs hz n hn hn2 i hi h
 refine con_runX Tryz.func162 rfl rfl (by simp [Tryz.ntmps162]) (fun _ _=>rfl) ?_
 refine byP (fc (drF zs) (fc (vdF zs) (fc Tryz.ntmps162 Tryz.results162))) ?_
 refine sw_callXR (hB 12 (by decide) (by decide) i hi h) rfl rfl rfl (byP (drF zs) True.intro) (byP (drF zs) True.intro) (byP (drF zs) True.intro) ?_
 rintro ⟨v,i1,h1⟩ ⟨hv,hi1⟩
 simp only at hv hi1
 have hv':v=0∨v=1∨v=2∨v=3∨v=4∨v=5∨v=6∨v=7∨8≤v:=by omega
 rcases hv' with rfl | rfl | rfl | rfl | rfl | rfl | rfl | rfl | h8
 ·have in1:inI 1:=by unfold inI;omega
  refine sw_run 200 _ _ _ (byP (fc (drF zs) (fc in1 (fc Tryz.ntmps162 Tryz.results162))) ?_)
  refine sw_callXR (hB 5 (by decide) (by decide) i1 hi1 h1) rfl rfl rfl (byP (drF zs) True.intro) (byP (drF zs) True.intro) (byP (drF zs) True.intro) ?_
  rintro ⟨n,i2,h2⟩ ⟨hn,hi2⟩
  simp only at hn hi2
  refine sw_run 200 _ _ _ (byP (fc (drF zs) (fc Tryz.ntmps162 Tryz.results162)) ?_)
  refine ⟨.inl rfl,(⟨1,n⟩,i2,h2),⟨by simp only;omega,hi2⟩, ?_⟩
  refine byP (fc (drF zs) (fc (vdF zs) (fc Tryz.ntmps162 Tryz.results162))) ?_
  exact True.intro
 ·have in1:inI 2:=by unfold inI;omega
  refine sw_run 200 _ _ _ (byP (fc (drF zs) (fc in1 (fc Tryz.ntmps162 Tryz.results162))) ?_)
  refine sw_callXR (hB 2 (by decide) (by decide) i1 hi1 h1) rfl rfl rfl (byP (drF zs) True.intro) (byP (drF zs) True.intro) (byP (drF zs) True.intro) ?_
  rintro ⟨n,i2,h2⟩ ⟨hn,hi2⟩
  simp only at hn hi2
  refine sw_run 200 _ _ _ (byP (fc (drF zs) (fc Tryz.ntmps162 Tryz.results162)) ?_)
  refine ⟨.inl rfl,(⟨2,n⟩,i2,h2),⟨by simp only;omega,hi2⟩, ?_⟩
  refine byP (fc (drF zs) (fc (vdF zs) (fc Tryz.ntmps162 Tryz.results162))) ?_
  exact True.intro
 ·have in1:inI 3:=by unfold inI;omega
  refine sw_run 200 _ _ _ (byP (fc (drF zs) (fc in1 (fc Tryz.ntmps162 Tryz.results162))) ?_)
  refine sw_callXR (hB 3 (by decide) (by decide) i1 hi1 h1) rfl rfl rfl (byP (drF zs) True.intro) (byP (drF zs) True.intro) (byP (drF zs) True.intro) ?_
  rintro ⟨n,i2,h2⟩ ⟨hn,hi2⟩
  simp only at hn hi2
  refine sw_run 200 _ _ _ (byP (fc (drF zs) (fc Tryz.ntmps162 Tryz.results162)) ?_)
  refine ⟨.inl rfl,(⟨3,n⟩,i2,h2),⟨by simp only;omega,hi2⟩, ?_⟩
  refine byP (fc (drF zs) (fc (vdF zs) (fc Tryz.ntmps162 Tryz.results162))) ?_
  exact True.intro
 ·have in1:inI 4:=by unfold inI;omega
  refine sw_run 200 _ _ _ (byP (fc (drF zs) (fc in1 (fc Tryz.ntmps162 Tryz.results162))) ?_)
  refine sw_callXR (hB 8 (by decide) (by decide) i1 hi1 h1) rfl rfl rfl (byP (drF zs) True.intro) (byP (drF zs) True.intro) (byP (drF zs) True.intro) ?_
  rintro ⟨n,i2,h2⟩ ⟨hn,hi2⟩
  simp only at hn hi2
  have hin:inI (1+n):=by unfold inI;omega
  refine sw_run 200 _ _ _ (byP (fc (drF zs) (fc hin (fc Tryz.ntmps162 Tryz.results162))) ?_)
  refine ⟨.inl rfl,(⟨4,1+n⟩,i2,h2),⟨by simp only;omega,hi2⟩, ?_⟩
  refine byP (fc (drF zs) (fc (vdF zs) (fc Tryz.ntmps162 Tryz.results162))) ?_
  exact True.intro
 ·have in1:inI 5:=by unfold inI;omega
  refine sw_run 200 _ _ _ (byP (fc (drF zs) (fc in1 (fc Tryz.ntmps162 Tryz.results162))) ?_)
  refine sw_callXR (hB 12 (by decide) (by decide) i1 hi1 h1) rfl rfl rfl (byP (drF zs) True.intro) (byP (drF zs) True.intro) (byP (drF zs) True.intro) ?_
  rintro ⟨n,i2,h2⟩ ⟨hn,hi2⟩
  simp only at hn hi2
  refine sw_run 200 _ _ _ (byP (fc (drF zs) (fc Tryz.ntmps162 Tryz.results162)) ?_)
  refine ⟨.inl rfl,(⟨5,n⟩,i2,h2),⟨by simp only;omega,hi2⟩, ?_⟩
  refine byP (fc (drF zs) (fc (vdF zs) (fc Tryz.ntmps162 Tryz.results162))) ?_
  exact True.intro
 ·have in1:inI 6:=by unfold inI;omega
  refine sw_run 200 _ _ _ (byP (fc (drF zs) (fc in1 (fc Tryz.ntmps162 Tryz.results162))) ?_)
  refine sw_callXR (hB 12 (by decide) (by decide) i1 hi1 h1) rfl rfl rfl (byP (drF zs) True.intro) (byP (drF zs) True.intro) (byP (drF zs) True.intro) ?_
  rintro ⟨n,i2,h2⟩ ⟨hn,hi2⟩
  simp only at hn hi2
  refine sw_run 200 _ _ _ (byP (fc (drF zs) (fc Tryz.ntmps162 Tryz.results162)) ?_)
  refine ⟨.inl rfl,(⟨6,n⟩,i2,h2),⟨by simp only;omega,hi2⟩, ?_⟩
  refine byP (fc (drF zs) (fc (vdF zs) (fc Tryz.ntmps162 Tryz.results162))) ?_
  exact True.intro
 ·have in1:inI 7:=by unfold inI;omega
  refine sw_run 200 _ _ _ (byP (fc (drF zs) (fc in1 (fc Tryz.ntmps162 Tryz.results162))) ?_)
  refine sw_callXR (hB 12 (by decide) (by decide) i1 hi1 h1) rfl rfl rfl (byP (drF zs) True.intro) (byP (drF zs) True.intro) (byP (drF zs) True.intro) ?_
  rintro ⟨n,i2,h2⟩ ⟨hn,hi2⟩
  simp only at hn hi2
  refine sw_run 200 _ _ _ (byP (fc (drF zs) (fc Tryz.ntmps162 Tryz.results162)) ?_)
  refine ⟨.inl rfl,(⟨7,n⟩,i2,h2),⟨by simp only;omega,hi2⟩, ?_⟩
  refine byP (fc (drF zs) (fc (vdF zs) (fc Tryz.ntmps162 Tryz.results162))) ?_
  exact True.intro
 ·have in1:inI 8:=by unfold inI;omega
  refine sw_run 200 _ _ _ (byP (fc (drF zs) (fc in1 (fc Tryz.ntmps162 Tryz.results162))) ?_)
  refine sw_callXR (hB 12 (by decide) (by decide) i1 hi1 h1) rfl rfl rfl (byP (drF zs) True.intro) (byP (drF zs) True.intro) (byP (drF zs) True.intro) ?_
  rintro ⟨n,i2,h2⟩ ⟨hn,hi2⟩
  simp only at hn hi2
  refine sw_run 200 _ _ _ (byP (fc (drF zs) (fc Tryz.ntmps162 Tryz.results162)) ?_)
  refine ⟨.inl rfl,(⟨8,n⟩,i2,h2),⟨by simp only;omega,hi2⟩, ?_⟩
  refine byP (fc (drF zs) (fc (vdF zs) (fc Tryz.ntmps162 Tryz.results162))) ?_
  exact True.intro
 ·have hin:inI (1+v):=by unfold inI;omega
  have n1:¬ 1+v=1:=by omega
  have n2:¬ 1+v=2:=by omega
  have n3:¬ 1+v=3:=by omega
  have n4:¬ 1+v=4:=by omega
  have n5:¬ 1+v=5:=by omega
  have n6:¬ 1+v=6:=by omega
  have n7:¬ 1+v=7:=by omega
  have n8:¬ 1+v=8:=by omega
  refine sw_run 200 _ _ _ (byP (fc (drF zs) (fc hin (fc n1 (fc n2 (fc n3 (fc n4 (fc n5 (fc n6 (fc n7 (fc n8 (fc Tryz.ntmps162 Tryz.results162))))))))))) ?_)
  refine ⟨.inl rfl,(⟨1+v,0⟩,i1,h1),⟨by simp only;omega,hi1⟩, ?_⟩
  refine byP (fc (drF zs) (fc (vdF zs) (fc Tryz.ntmps162 Tryz.results162))) ?_
  exact True.intro
theorem con_insB (zs:List Int) (hz:BytOk zs) (i:Nat) (hi:i≤zs.length) (h:Int):ConX Tryz.prog 80 [.p (curA zs i h)] (inIn zs) (inO zs) inR:=by
 have hB:=fun n hn hn2 i hi h=>con_Below zs hz n hn hn2 i hi h
 have hP:∀ (i:Nat),i≤zs.length→∀ h:Int,ConX Tryz.prog 81 [.p (curA zs i h),.b (.one (.rows 1 6 [.int (-1),.int 0,.int 299,.int 300,.int 10006,.int 10007]))] (pkI zs [-1,0,299,300,10006,10007]) (curO zs) curR:=fun i hi h=>con_PickInt zs hz [-1,0,299,300,10006,10007] (by decide) (by decide) i hi h
 refine con_runX Tryz.func80 rfl rfl (by simp [Tryz.ntmps80]) (fun _ _=>rfl) ?_
 refine byP (fc (drF zs) (fc (vdF zs) (fc Tryz.ntmps80 Tryz.results80))) ?_
 refine sw_callXR (con_insD zs hz i hi h) rfl rfl rfl (byP (drF zs) True.intro) (byP (drF zs) True.intro) (byP (drF zs) True.intro) ?_
 rintro ⟨⟨op,a⟩,i1,h1⟩ ⟨⟨ho,ha⟩,hi1⟩
 simp only at ho ha hi1
 refine sw_run 200 _ _ _ (byP (fc (drF zs) (fc (vdF zs) (fc Tryz.ntmps80 Tryz.results80))) ?_)
 refine sw_callXR (hB 8 (by decide) (by decide) i1 hi1 h1) rfl rfl rfl (byP (drF zs) True.intro) (byP (drF zs) True.intro) (byP (drF zs) True.intro) ?_
 rintro ⟨v,i2,h2⟩ ⟨hv,hi2⟩
 simp only at hv hi2
 by_cases v0:v=0
 ·refine sw_run 200 _ _ _ (byP (fc (drF zs) (fc (eq_true v0) (fc Tryz.ntmps80 Tryz.results80))) ?_)
  refine sw_callXR (hB 15 (by decide) (by decide) i2 hi2 h2) rfl rfl rfl (byP (drF zs) True.intro) (byP (drF zs) True.intro) (byP (drF zs) True.intro) ?_
  rintro ⟨n,i3,h3⟩ ⟨hn,hi3⟩
  simp only at hn hi3
  have hin:inI (n-1):=by unfold inI;omega
  refine sw_run 200 _ _ _ (byP (fc (drF zs) (fc hin (fc Tryz.ntmps80 Tryz.results80))) ?_)
  refine ⟨.inl rfl,(⟨n-1,a⟩,i3,h3),⟨by simp only;omega,hi3⟩, ?_⟩
  refine byP (fc (drF zs) (fc (vdF zs) (fc Tryz.ntmps80 Tryz.results80))) ?_
  exact True.intro
 by_cases v1:v=1
 ·refine sw_run 200 _ _ _ (byP (fc (drF zs) (fc v0 (fc (eq_true v1) (fc Tryz.ntmps80 Tryz.results80)))) ?_)
  refine sw_fzE 3 rfl ?_
  refine byQ ?_
  refine sw_callXR (hP i2 hi2 h2) rfl rfl rfl (byP (drF zs) True.intro) (byP (drF zs) True.intro) (byP (drF zs) True.intro) ?_
  rintro ⟨n,i3,h3⟩ ⟨hn,hi3⟩
  simp only at hn hi3
  have hn2 : -1≤n∧n≤10007:=by
   simp only [List.mem_cons,List.not_mem_nil,or_false] at hn
   omega
  refine sw_run 200 _ _ _ (byP (fc (drF zs) (fc Tryz.ntmps80 Tryz.results80)) ?_)
  refine ⟨.inl rfl,(⟨op,n⟩,i3,h3),⟨by simp only;omega,hi3⟩, ?_⟩
  refine byP (fc (drF zs) (fc (vdF zs) (fc Tryz.ntmps80 Tryz.results80))) ?_
  exact True.intro
 ·refine sw_run 200 _ _ _ (byP (fc (drF zs) (fc v0 (fc v1 (fc Tryz.ntmps80 Tryz.results80)))) ?_)
  refine ⟨.inl rfl,(⟨op,a⟩,i2,h2),⟨by simp only;omega,hi2⟩, ?_⟩
  refine byP (fc (drF zs) (fc (vdF zs) (fc Tryz.ntmps80 Tryz.results80))) ?_
  exact True.intro
theorem woL_snoc (ns:List ByteArray) (y:ByteArray) (xs:List ByteArray):woL (ns++[y]) xs=woL [y] (woL ns xs):=by
 rw [woL,woL,woL,List.filter_filter]
 congr 1;funext z
 rw [← Bool.decide_and]
 congr 1
 rw [fi_out,fi_out,fi_out];simp [and_comm]
theorem szL_bd (k:Int) (nm ot:ByteArray) (c:Nat):(bdN k nm ot c).length≤2:=by
 unfold bdN
 split <;> (try split) <;> (try split) <;> simp
theorem con_FreeS:∀ t:Tm,szL (tmC t)≤3000000→Con Tryz.prog 139 [.ag (tmC t)] [.one (strsD (freeT t))]:=by
 refine Tm.ind fun t ih hz => ?_
 obtain ⟨h5,h7,h8⟩:=sz_parts hz
 have hT:=freeT_eq t
 have hB:=con_bdS t (by omega)
 rw [frF] at hT
 by_cases h1:t.kind=1
 ·rw [if_pos h1] at hT
  refine con_run Tryz.func139 rfl rfl (by simp [Tryz.ntmps139]) ?_
  exact byP (fc hT (fc (eq_true h1) (fc Tryz.ntmps139 Tryz.results139))) True.intro
 rw [if_neg h1,List.length_map] at hT
 have hnl:=szL_bd t.kind t.name t.other t.args.length
 generalize hn:bdN t.kind t.name t.other t.args.length=ns at hT hB hnl
 generalize hp:bdP t.kind t.args.length=p at hT hB
 simp only [strsD] at hB
 refine con_run Tryz.func139 rfl rfl (by simp [Tryz.ntmps139]) ?_
 refine byP (fc h1 Tryz.ntmps139) ?_
 refine sw_call (hB) rfl (aAs_ok ?_) ?_ (sw_run 200 _ _ _ ?_)
 ·exact byQ True.intro
 ·simp only [okR]
 refine byQ ?_
 refine sw_loop (fun k:Nat=>k≤t.args.length) (fun k=>⟨55,[(6,.i k),(5,.sl 2),(4,.i p),(3,.sl 1),(1,.bx 0 0)],[(0,[.i t.kind,.s t.name,.s t.other,.i t.n,.i t.ty.kind,.br (.rows 2 t.ty.args.length (tysC t.ty.args)),.i t.res.kind,.br (.rows 2 t.res.args.length (tysC t.res.args)),.br (.rows 9 t.args.length (tmsC t.args))])],[(2,some ⟨.rows 1 (frU ns p (t.args.map freeT) k).length ((frU ns p (t.args.map freeT) k).map D.str),if k=0 then some 9 else none,true⟩),(1,some ⟨.rows 1 ns.length (ns.map D.str),none,true⟩)],3,[]⟩) (fun k=>t.args.length-k) 0 id (Nat.zero_le _) ?_ ?_
 ·exact byP frU.eq_1 True.intro
 ·rintro k hk
  refine sw_run 200 _ _ _ ?_
  by_cases hlt:k<t.args.length
  ·have hi:(k:Int)<(t.args.length:Int):=by omega
   have hR:=tmsC_row' t.args k hlt
   have hm:=mem_bang hlt
   have hs:=szL_tms' t.args k hlt
   have hrec:=ih _ hm (by omega)
   have hfs:=free_sz t.args[k]!
   have hfl:(freeT t.args[k]!).length≤sL (freeT t.args[k]!):=by rw [sL];omega
   have hus:=frU_sz ns p (t.args.map freeT) k (by rw [List.length_map];omega)
   have hu2:=sum_take (t.args.map freeT) k
   have hu3:=free_szs t.args
   rw [freeTs_map] at hu3
   simp only [strsD] at hrec
   refine byP (fc hi hR) ?_
   refine sw_call (hrec) rfl (aAs_ok ?_) ?_ (sw_run 200 _ _ _ ?_)
   ·exact byQ True.intro
   ·simp only [okR]
   refine byQ ?_
   by_cases hq:(k:Int)=p
   ·have hst:frU ns p (t.args.map freeT) (k+1)=uniR (frU ns p (t.args.map freeT) k) (woL ns (freeT t.args[k]!)):=by rw [frU,if_pos hq,map_bang freeT hlt]
    refine sw_loop (fun i:Nat=>i≤ns.length) (fun i=>⟨55,[(8,.i i),(7,.sl 3),(6,.i k),(5,.sl 2),(4,.i p),(3,.sl 1),(1,.bx 0 0)],[(0,[.i t.kind,.s t.name,.s t.other,.i t.n,.i t.ty.kind,.br (.rows 2 t.ty.args.length (tysC t.ty.args)),.i t.res.kind,.br (.rows 2 t.res.args.length (tysC t.res.args)),.br (.rows 9 t.args.length (tmsC t.args))])],[(3,some ⟨.rows 1 (woL (ns.take i) (freeT t.args[k]!)).length ((woL (ns.take i) (freeT t.args[k]!)).map D.str),none,true⟩),(2,some ⟨.rows 1 (frU ns p (t.args.map freeT) k).length ((frU ns p (t.args.map freeT) k).map D.str),if k=0 then some 9 else none,true⟩),(1,some ⟨.rows 1 ns.length (ns.map D.str),none,true⟩)],4,[]⟩) (fun i=>ns.length-i) 0 id (Nat.zero_le _) ?_ ?_
    ·exact byP woL_nil True.intro
    ·rintro i hi0
     refine sw_run 200 _ _ _ ?_
     have hwz:=woL_sz (ns.take i) (freeT t.args[k]!)
     have hwl:(woL (ns.take i) (freeT t.args[k]!)).length≤sL (woL (ns.take i) (freeT t.args[k]!)):=by rw [sL];omega
     by_cases hlt2:i<ns.length
     ·have hi2:(i:Int)<(ns.length:Int):=by omega
      have hR2:=strs_row ns i hlt2
      have hW:=con_WithoutS (woL (ns.take i) (freeT t.args[k]!)) ns[i]! (by omega)
      have hws:woL (ns.take (i+1)) (freeT t.args[k]!)=woL [ns[i]!] (woL (ns.take i) (freeT t.args[k]!)):=by rw [take_snoc ns i hlt2,woL_snoc]
      simp only [strsD] at hW
      refine byP (fc hi2 (fc hR2 (eq_true hq))) ?_
      refine sw_call (hW) rfl (aAs_ok ?_) ?_ (sw_run 200 _ _ _ ?_)
      ·exact byQ True.intro
      ·simp only [okR]
      refine byQ ?_
      refine ⟨by unfold inI;omega,i+1,rnL [(3,4)],by omega,by omega, ?_⟩
      exact byP hws True.intro
     ·have hi2:¬ (i:Int)<(ns.length:Int):=by omega
      obtain rfl:i=ns.length:=by omega
      rw [List.take_length] at hwz hwl
      simp only [push_cast,↓reduceIte,Nat.reduceLT,Nat.reduceEqDiff,hi2,List.take_length]
      have hU:=con_UniteS (frU ns p (t.args.map freeT) k) (woL ns (freeT t.args[k]!)) (by omega) (by omega)
      simp only [strsD] at hU
      refine sw_run 200 _ _ _ ?_
      simp only [push_cast,↓reduceIte,Nat.reduceLT,Nat.reduceEqDiff]
      refine sw_call (hU) rfl (aAs_ok ?_) ?_ (sw_run 200 _ _ _ ?_)
      ·simp only [push_cast,aAs,aA,aD,↓reduceIte,Nat.reduceEqDiff]
      ·simp only [okR]
      refine byQ ?_
      refine ⟨by unfold inI;omega,k+1,rnL [(2,4)],by omega,by omega, ?_⟩
      exact byP hst True.intro
   ·have hst:frU ns p (t.args.map freeT) (k+1)=uniR (frU ns p (t.args.map freeT) k) (freeT t.args[k]!):=by rw [frU,if_neg hq,map_bang freeT hlt]
    refine sw_loop (fun i:Nat=>i=0) (fun i=>⟨55,[(8,.i i),(7,.sl 3),(6,.i k),(5,.sl 2),(4,.i p),(3,.sl 1),(1,.bx 0 0)],[(0,[.i t.kind,.s t.name,.s t.other,.i t.n,.i t.ty.kind,.br (.rows 2 t.ty.args.length (tysC t.ty.args)),.i t.res.kind,.br (.rows 2 t.res.args.length (tysC t.res.args)),.br (.rows 9 t.args.length (tmsC t.args))])],[(3,some ⟨.rows 1 (freeT t.args[k]!).length ((freeT t.args[k]!).map D.str),none,true⟩),(2,some ⟨.rows 1 (frU ns p (t.args.map freeT) k).length ((frU ns p (t.args.map freeT) k).map D.str),if k=0 then some 9 else none,true⟩),(1,some ⟨.rows 1 ns.length (ns.map D.str),none,true⟩)],4,[]⟩) (fun i=>0) 0 id rfl ?_ ?_
    ·exact byQ True.intro
    ·rintro i rfl
     refine sw_run 200 _ _ _ ?_
     by_cases hlt2:0<ns.length
     ·have hi2:(0:Int)<(ns.length:Int):=by omega
      refine byP (fc hi2 hq) ?_
      have hU:=con_UniteS (frU ns p (t.args.map freeT) k) (freeT t.args[k]!) (by omega) (by omega)
      simp only [strsD] at hU
      refine sw_run 200 _ _ _ ?_
      refine byQ ?_
      refine sw_call (hU) rfl (aAs_ok ?_) ?_ (sw_run 200 _ _ _ ?_)
      ·exact byQ True.intro
      ·simp only [okR]
      refine byQ ?_
      refine ⟨by unfold inI;omega,k+1,rnL [(2,4)],by omega,by omega, ?_⟩
      exact byP hst True.intro
     ·have hi2:¬ (0:Int)<(ns.length:Int):=by omega
      refine byP hi2 ?_
      have hU:=con_UniteS (frU ns p (t.args.map freeT) k) (freeT t.args[k]!) (by omega) (by omega)
      simp only [strsD] at hU
      refine sw_run 200 _ _ _ ?_
      refine byQ ?_
      refine sw_call (hU) rfl (aAs_ok ?_) ?_ (sw_run 200 _ _ _ ?_)
      ·exact byQ True.intro
      ·simp only [okR]
      refine byQ ?_
      refine ⟨by unfold inI;omega,k+1,rnL [(2,4)],by omega,by omega, ?_⟩
      exact byP hst True.intro
  ·have hi:¬ (k:Int)<(t.args.length:Int):=by omega
   obtain rfl:k=t.args.length:=by omega
   refine byP hi ?_
   refine sw_run 200 _ _ _ ?_
   exact byP (fc hT Tryz.results139) True.intro
theorem con_ClosedS (t:Tm) (hz:szL (tmC t)≤3000000):Con Tryz.prog 61 [.ag (tmC t)] [.one (.bool (decide (((freeT t).length:Int)=0)))]:=by
 have hc:=con_FreeS t hz
 simp only [strsD] at hc
 refine con_run Tryz.func61 rfl rfl (by simp [Tryz.ntmps61]) ?_
 refine byP Tryz.ntmps61 ?_
 refine sw_call (hc) rfl (aAs_ok ?_) ?_ (sw_run 200 _ _ _ ?_)
 ·exact byQ True.intro
 ·simp only [okR]
 exact byP Tryz.results61 True.intro
theorem con_erZ (e:Tm) (he:szL (tmC e)≤1000000):ConP Tryz.prog 128 [.b (.ag [.int e.kind,.str e.name,.str e.other,.int e.n,.int e.ty.kind,.rows 2 e.ty.args.length (tysC e.ty.args),.int e.res.kind,.rows 2 e.res.args.length (tysC e.res.args),.rows 9 e.args.length (tmsC e.args)])] [] [tmZ (eraseT e)]:=by
 have:=conTm (con_EraseS e (by omega))
 rw [tmC_eq] at this
 exact this
set_option maxHeartbeats 4000000 in
theorem con_plain14 (zs:List Int) (hz:BytOk zs) (i:Nat) (hi:i≤zs.length) (h:Int):ConX Tryz.prog 130 [.p (curA zs i h)] (tmI zs 200000) (tmO zs) tmZs:=by
 have hB:=fun n hn hn2 i hi h=>con_Below zs hz n hn hn2 i hi h
 have cI:ConP Tryz.prog 201 [] [] [.ag [.r (.int 1),.r (.rows 2 0 [])]]:=con_gI
 refine con_runXF [0,1,2,3,4,5,6,7,8,9,10,11,12] Tryz.func130 rfl rfl (by simp [Tryz.ntmps130]) (fun _ _=>rfl) ?_
 refine byP (fc (drZ zs) (fc Tryz.ntmps130 Tryz.results130)) ?_
 refine sw_callPR (cI) rfl rfl rfl (byQ True.intro) (byQ True.intro) (byQ True.intro) ?_
 refine sw_run 200 _ _ _ (byQ ?_)
 refine sw_callXR (hB 3 (by decide) (by decide) i hi h) rfl rfl rfl (byP (drZ zs) True.intro) (byP (drZ zs) True.intro) (byP (drZ zs) True.intro) ?_
 rintro ⟨w,i3,h3⟩ ⟨hw,hi3⟩
 simp only at hw hi3
 obtain ⟨d,hd⟩:∃ d:Nat,3+w=(d:Int):=⟨(3+w).toNat,by omega⟩
 have hd5:d≤5:=by omega
 have hin:inI (d:Int):=by unfold inI;omega
 have z0:tsz gI=0:=rfl
 have hG:ConX Tryz.prog 205 [.p (curA zs i3 h3),.b (.one (.rows 4 0 [])),.b (.ag [.int 1,.rows 2 0 []]),.b (.one (.int 0)),.b (.one (.int d))] (tmI zs (gsz (tsz gI) d)) (tmO zs) tmZs:=con_gen zs hz d (by omega) [] gI 0 i3 h3 ⟨Nat.zero_le _,fun g hg=>by cases hg⟩ (by decide) (by omega) (Int.le_refl _) (by omega) hi3
 have hgb:=gsz_b (tsz gI) d (by omega) (by omega)
 refine sw_run 200 _ _ _ (byP (fc (drZ zs) (fc hd hin)) ?_)
 first | (refine sw_fzE 2 rfl ?_) | (refine sw_fzE 3 rfl ?_)
 refine byQ ?_
 refine sw_callXR (hG) rfl rfl rfl (byP (drZ zs) True.intro) (byP (drZ zs) True.intro) (byP (drZ zs) True.intro) ?_
 rintro ⟨e,i4,h4⟩ ⟨he,hi4⟩
 simp only at he hi4
 have her:=erase_szTm e
 refine sw_run 200 _ _ _ (byP (drZ zs) ?_)
 refine sw_callPR (con_erZ e (by omega)) rfl rfl rfl (byQ True.intro) (byQ True.intro) (byQ True.intro) ?_
 refine sw_run 200 _ _ _ (byP (fc (drZ zs) (fc Tryz.ntmps130 Tryz.results130)) ?_)
 refine ⟨.inl rfl,(eraseT e,i4,h4),⟨by show szL (tmC (eraseT e))≤200000;omega,hi4⟩, ?_⟩
 refine byP (fc (drZ zs) (fc tmF (fc mkF (fc Tryz.ntmps130 Tryz.results130)))) ?_
 repeat' (with_reducible apply And.intro)
 all_goals first | exact True.intro | rfl
set_option maxHeartbeats 4000000 in
theorem con_plain22 (zs:List Int) (hz:BytOk zs) (i:Nat) (hi:i≤zs.length) (h:Int):ConX Tryz.prog 54 [.p (curA zs i h)] (tmI zs 200000) (tmO zs) tmZs:=by
 have hO:=fun n hn hn2 i hi h=>con_Once zs hz n hn hn2 i hi h
 refine con_runXF [0,1,2,3,4,5,6,7,8,9,10,11,12] Tryz.func54 rfl rfl (by simp [Tryz.ntmps54]) (fun _ _=>rfl) ?_
 refine byP (fc (drZ zs) (fc Tryz.ntmps54 Tryz.results54)) ?_
 refine sw_callXR (hO 3 (by decide) (by decide) i hi h) rfl rfl rfl (byP (drZ zs) True.intro) (byP (drZ zs) True.intro) (byP (drZ zs) True.intro) ?_
 rintro ⟨b,i1,h1⟩ hi1
 have hi1':i1≤zs.length:=hi1
 cases b
 case true =>
  refine sw_run 200 _ _ _ (byP (drZ zs) ?_)
  refine sw_callXR (con_closed zs hz i1 hi1' h1) rfl rfl rfl (byP (drZ zs) True.intro) (byP (drZ zs) True.intro) (byP (drZ zs) True.intro) ?_
  rintro ⟨e,i4,h4⟩ ⟨he,hi4⟩
  simp only at he hi4
  have her:=erase_szTm e
  refine sw_run 200 _ _ _ (byP (drZ zs) ?_)
  refine sw_callPR (con_erZ e (by omega)) rfl rfl rfl (byQ True.intro) (byQ True.intro) (byQ True.intro) ?_
  refine sw_run 200 _ _ _ (byP (fc (drZ zs) (fc Tryz.ntmps54 Tryz.results54)) ?_)
  refine ⟨.inl rfl,(eraseT e,i4,h4),⟨by show szL (tmC (eraseT e))≤200000;omega,hi4⟩, ?_⟩
  refine byP (fc (drZ zs) (fc tmF (fc mkF (fc Tryz.ntmps54 Tryz.results54)))) ?_
  repeat' (with_reducible apply And.intro)
  all_goals first | exact True.intro | rfl
 case false =>
  refine sw_run 200 _ _ _ (byP (drZ zs) ?_)
  refine sw_callXR (hO 10 (by decide) (by decide) i1 hi1' h1) rfl rfl rfl (byP (drZ zs) True.intro) (byP (drZ zs) True.intro) (byP (drZ zs) True.intro) ?_
  rintro ⟨b2,i2,h2⟩ hi2
  have hi2':i2≤zs.length:=hi2
  cases b2
  case true =>
   refine sw_run 200 _ _ _ (byP (drZ zs) ?_)
   refine sw_callXR (con_bent zs hz i2 hi2' h2) rfl rfl rfl (byP (drZ zs) True.intro) (byP (drZ zs) True.intro) (byP (drZ zs) True.intro) ?_
   rintro ⟨e,i4,h4⟩ ⟨he,hi4⟩
   simp only at he hi4
   refine sw_run 200 _ _ _ (byP (fc (drZ zs) (fc Tryz.ntmps54 Tryz.results54)) ?_)
   refine ⟨.inl rfl,(e,i4,h4),⟨by show szL (tmC e)≤200000;omega,hi4⟩, ?_⟩
   refine byP (fc (drZ zs) (fc tmF (fc mkF (fc Tryz.ntmps54 Tryz.results54)))) ?_
   repeat' (with_reducible apply And.intro)
   all_goals first | exact True.intro | rfl
  case false =>
   refine sw_run 200 _ _ _ (byP (drZ zs) ?_)
   refine sw_callXR (con_plain14 zs hz i2 hi2' h2) rfl rfl rfl (byP (drZ zs) True.intro) (byP (drZ zs) True.intro) (byP (drZ zs) True.intro) ?_
   rintro ⟨e,i4,h4⟩ ⟨he,hi4⟩
   simp only at he hi4
   refine sw_run 200 _ _ _ (byP (fc (drZ zs) (fc Tryz.ntmps54 Tryz.results54)) ?_)
   refine ⟨.inl rfl,(e,i4,h4),⟨by show szL (tmC e)≤200000;omega,hi4⟩, ?_⟩
   refine byP (fc (drZ zs) (fc tmF (fc mkF (fc Tryz.ntmps54 Tryz.results54)))) ?_
   repeat' (with_reducible apply And.intro)
   all_goals first | exact True.intro | rfl
def dmI (m:Nat) (x:Tm):Prop:=szL (tmC x)≤m
def dmO (x:Tm):List (List CD):=[]
def dmR (x:Tm):List RD:=[tmZ x]
theorem dmF (zs:List Int):(∀ x,dmO x=[])∧(∀ x,dmR x=[tmZ x])∧bytD zs = .rows 1 zs.length (zs.map D.byt):=⟨fun _=>rfl,fun _=>rfl,rfl⟩
theorem con_drawC (zs:List Int) (hz:BytOk zs):ConX Tryz.prog 8 [.b (.one (bytD zs))] (dmI 200000) dmO dmR:=by
 refine con_runXF [0,1,2,3,4,5,6,7,8,9,10,11,12] Tryz.func8 rfl rfl (by simp [Tryz.ntmps8]) (fun _ _=>rfl) ?_
 refine byP (fc (dmF zs) (fc Tryz.ntmps8 Tryz.results8)) ?_
 refine sw_callN con_New rfl rfl hz.1 hz.2 fun h => ?_
 refine sw_run 200 _ _ _ (byP (fc (drZ zs) (dmF zs)) ?_)
 refine sw_callXR (con_plain22 zs hz 0 (Nat.zero_le _) h) rfl rfl rfl (byP (fc (drZ zs) Int.natCast_zero) True.intro) (byP (fc (drZ zs) Int.natCast_zero) True.intro) (byP (fc (drZ zs) Int.natCast_zero) True.intro) ?_
 rintro ⟨e,i4,h4⟩ ⟨he,hi4⟩
 simp only at he hi4
 refine sw_run 200 _ _ _ (byP (fc (drZ zs) (fc Tryz.ntmps8 Tryz.results8)) ?_)
 refine ⟨.inl rfl,e,he, ?_⟩
 refine byP (fc (dmF zs) (fc (drZ zs) (fc tmF (fc mkF (fc Tryz.ntmps8 Tryz.results8))))) ?_
 repeat' (with_reducible apply And.intro)
 all_goals first | exact True.intro | rfl
theorem con_CompR (e : Tm) (hz : szL (tmC e) ≤ 2000000) : ConP Tryz.prog 10 [.b (.ag (tmC e))] [] [.one (.a 37 (inssD (cmR e).1)), .one (.o (.bool (cmR e).2))] := by
  have hC := con_ClosedS e (by omega)
  unfold cmR cmB inssD
  have hP : Con Tryz.prog 60 [.ag (tmC e)] [.one (.bool (plT e))] := con_IsPlainS e (by omega)
  cases hp : plT e with
  | false =>
    rw [hp] at hP
    simp only [Bool.false_and, Bool.false_eq_true, if_false, List.length_nil, flC]
    refine con_runP Tryz.func10 rfl rfl (by simp [Tryz.ntmps10]) rfl ?_
    refine byP Tryz.ntmps10 ?_
    refine sw_call (hP) rfl (aAs_ok ?_) ?_ (sw_run 200 _ _ _ ?_)
    · exact byQ True.intro
    · simp only [okR]
    exact byP Tryz.results10 True.intro
  | true =>
  rw [hp] at hP
  by_cases hl : ((freeT e).length : Int) = 0
  case neg =>
    rw [decide_eq_false hl] at hC
    simp only [decide_eq_false hl, Bool.and_false, Bool.false_eq_true, if_false, List.length_nil, flC]
    refine con_runP Tryz.func10 rfl rfl (by simp [Tryz.ntmps10]) rfl ?_
    refine byP Tryz.ntmps10 ?_
    refine sw_call (hP) rfl (aAs_ok ?_) ?_ (sw_run 200 _ _ _ ?_)
    · exact byQ True.intro
    · simp only [okR]
    refine byQ ?_
    refine sw_call (hC) rfl (aAs_ok ?_) ?_ (sw_run 200 _ _ _ ?_)
    · exact byQ True.intro
    · simp only [okR]
    exact byP Tryz.results10 True.intro
  rw [decide_eq_true hl] at hC
  simp only [decide_eq_true hl, Bool.and_true, if_true]
  have hf : freeT e = [] := List.eq_nil_of_length_eq_zero (by omega)
  obtain ⟨hr, hcv, hok⟩ := okS_first hz hp hf
  have c0 := con_cpS e [] ⟨[], []⟩ hr hp hcv
  have hin := inL_first hok
  obtain ⟨s1, hs1⟩ : ∃ s1, s1 = cpT e [] ⟨[], []⟩ := ⟨_, rfl⟩
  rw [← hs1] at c0 hin hok
  have hb := hok.code
  rw [putC_len] at hb
  have hPut := con_putS s1 10 0 (by omega)
  simp only [strsD, csP_eq, List.length_nil, List.map_nil, flC] at c0
  refine con_runP Tryz.func10 rfl rfl (by simp [Tryz.ntmps10]) rfl ?_
  refine byP Tryz.ntmps10 ?_
  refine sw_call (hP) rfl (aAs_ok ?_) ?_ (sw_run 200 _ _ _ ?_)
  · exact byQ True.intro
  · simp only [okR]
  refine byQ ?_
  refine sw_call (hC) rfl (aAs_ok ?_) ?_ (sw_run 200 _ _ _ ?_)
  · exact byQ True.intro
  · simp only [okR]
  refine byQ ?_
  refine sw_fzE 2 rfl ?_
  refine byQ ?_
  refine sw_callPR (c0) rfl rfl rfl ?_ ?_ ?_ (sw_run 200 _ _ _ ?_)
  · exact byQ True.intro
  · exact byQ True.intro
  · exact byQ True.intro
  refine byQ ?_
  refine sw_callV (hPut) rfl rfl rfl rfl rfl (by decide) ?_ (sw_run 200 _ _ _ ?_)
  · exact byQ True.intro
  refine byP aftV2.eq_1 ?_
  refine sw_loop (fun p : Nat × Nat × CS => InL e p.1 p.2.1 p.2.2) (fun p => ⟨80, [(5, .i p.2.1), (4, .bx 1 0)], [(1, [.sl 2, .sl 3])], [(2, some ⟨.rows 2 p.2.2.code.length (flC insC p.2.2.code), some 37, true⟩), (3, some ⟨.rows 11 p.2.2.q.length (flC wtC p.2.2.q), some 104, false⟩)], 4, []⟩) (fun p => p.1) (400, 0, putC s1 10 0) (rnL [(2, 5), (3, 4)]) hin ?_ ?_
  · exact byP putC_q True.intro
  · rintro ⟨f, i, s⟩ hI
    simp only at hI
    refine sw_run 200 _ _ _ ?_
    have hle := hI.le
    have hok2 := hI.ok
    have hcs := hok2.code
    have hqs := hok2.q
    have his := hok2.some
    by_cases hlt : i < s.q.length
    · have hi2 : (i : Int) < (s.q.length : Int) := by omega
      by_cases h300 : s.code.length ≤ 300
      · have hc3 : (s.code.length : Int) ≤ 300 := by omega
        have hR := wtC_row s.q i hlt
        have hm := mem_bang hlt
        obtain ⟨f', rfl, hst⟩ := inL_step hI hlt h300
        have hrm := fun k a => okS_room hok2 hm h300 k a
        obtain ⟨_, hp0, hp1⟩ := hok2.wt _ hm
        obtain ⟨x, hx⟩ : ∃ x, x = s.q[i]! := ⟨_, rfl⟩
        rw [← hx] at hR hm hst hrm hp0 hp1
        obtain ⟨hroom, hpl, hcov⟩ := hrm x.pl.toNat s.code.length
        have c1 := con_cpS x.body x.nms (setA s x.pl.toNat s.code.length) hroom hpl hcov
        have w1 := set_code s x.pl.toNat s.code.length (by omega)
        obtain ⟨s2, hs2⟩ : ∃ s2, s2 = cpT x.body x.nms (setA s x.pl.toNat s.code.length) := ⟨_, rfl⟩
        rw [← hs2] at c1 hst
        have hb2 := hst.ok.code
        rw [putC_len] at hb2
        have hP2 := con_putS s2 10 0 (by omega)
        simp only [strsD, csP_eq, setA_q, setA_len] at c1
        refine byP (fc hi2 (fc hc3 hR)) ?_
        refine sw_drawn (.cons 0 true (.cons 1 true (.cons 2 true (.cons 3 true (.cons 4 true (.cons 5 true (.cons 6 true (.cons 7 true (.cons 8 true (.cons 9 true (.cons 10 true (.cons 11 true (.cons 12 true (.cons 13 false (.nil))))))))))))))) (by kernel_rfl) qLp_panic (by kernel_rfl) (sw_run 200 _ _ _ ?_)
        refine byP (fc hp0 (fc hp1 w1)) ?_
        refine sw_callPR (c1) rfl rfl rfl ?_ ?_ ?_ (sw_run 200 _ _ _ ?_)
        · exact byQ True.intro
        · exact byQ True.intro
        · exact byQ True.intro
        refine byQ ?_
        refine sw_callV (hP2) rfl rfl rfl rfl rfl (by decide) ?_ (sw_run 200 _ _ _ ?_)
        · exact byQ True.intro
        refine byP aftV2.eq_1 ?_
        refine ⟨by unfold inI; omega, (f', i + 1, putC s2 10 0), rnL [(2, 7), (3, 6)], hst, by simp only; omega, ?_⟩
        exact byP putC_q True.intro
      · have hc3 : ¬ (s.code.length : Int) ≤ 300 := by omega
        have hd := inL_done hI (fun h => h300 h.2)
        have h4 : 300 < s.code.length := by omega
        have h5 : (300 : Int) < (s.code.length : Int) := by omega
        refine byP (fc hi2 hc3) ?_
        refine sw_run 200 _ _ _ ?_
        simp only [push_cast, fQP, xRetP, rRs, rOs, rC, eRs, eOs, eC, ↓reduceIte, Nat.reduceLT, Nat.reduceAdd, Nat.reduceEqDiff, reduceCtorEq, ← hd, h4, h5, flC, Tryz.results10]
    · have hi2 : ¬ (i : Int) < (s.q.length : Int) := by omega
      have hd := inL_done hI (fun h => hlt h.1)
      refine byP hi2 ?_
      refine sw_run 200 _ _ _ ?_
      by_cases h4 : 300 < s.code.length
      · have h5 : (300 : Int) < (s.code.length : Int) := by omega
        simp only [push_cast, fQP, xRetP, rRs, rOs, rC, eRs, eOs, eC, ↓reduceIte, Nat.reduceLT, Nat.reduceAdd, Nat.reduceEqDiff, reduceCtorEq, ← hd, h4, h5, flC, Tryz.results10]
      · have h5 : ¬ (300 : Int) < (s.code.length : Int) := by omega
        simp only [push_cast, fQP, xRetP, rRs, rOs, rC, eRs, eOs, eC, ↓reduceIte, Nat.reduceLT, Nat.reduceEqDiff, reduceCtorEq, ← hd, h4, h5, Tryz.results10]
def lsI (zs:List Int) (m:Nat) (x:List Ins × Nat × Int):Prop:=x.1.length≤m∧x.2.1≤zs.length
def lsO (zs:List Int) (x:List Ins × Nat × Int):List (List CD):=[curA zs x.2.1 x.2.2]
def lsR (x:List Ins × Nat × Int):List RD:=[.one (.a 37 (.rows 2 x.1.length (flC insC x.1)))]
theorem lsF (zs:List Int):(∀ L i h,lsO zs (L,i,h)=[curA zs i h])∧(∀ L i h,lsR (L,i,h)=[.one (.a 37 (.rows 2 L.length (flC insC L)))])∧∀ L,inssD L = .rows 2 L.length (flC insC L):=⟨fun _ _ _=>rfl,fun _ _ _=>rfl,fun _=>rfl⟩
theorem ins_snoc (l:List Ins) (op a:Int):flC insC (l++[⟨op,a⟩])=flC insC l++[.int op,.int a]:=by rw [flC_app,flC_one];rfl
set_option maxHeartbeats 4000000 in
theorem con_prog (zs:List Int) (hz:BytOk zs) (i:Nat) (hi:i≤zs.length) (h:Int):ConX Tryz.prog 78 [.p (curA zs i h)] (lsI zs 300) (lsO zs) lsR:=by
 have hB:=fun n hn hn2 i hi h=>con_Below zs hz n hn hn2 i hi h
 have hO:=fun n hn hn2 i hi h=>con_Once zs hz n hn hn2 i hi h
 refine con_runX Tryz.func78 rfl rfl (by simp [Tryz.ntmps78]) (fun _ _=>rfl) ?_
 refine byP (fc (drZ zs) (fc Tryz.ntmps78 Tryz.results78)) ?_
 refine sw_callXR (con_plain22 zs hz i hi h) rfl rfl rfl (byP (drZ zs) True.intro) (byP (drZ zs) True.intro) (byP (drZ zs) True.intro) ?_
 rintro ⟨e,i1,h1⟩ ⟨he,hi1⟩
 simp only at he hi1
 have hC:=con_CompR e (by omega)
 have hlen:=cm_len e
 rw [tmC_eq] at hC
 generalize (cmR e).2=ok at *
 generalize (cmR e).1=L at *
 simp only [inssD] at hC
 refine sw_run 200 _ _ _ (byP (drZ zs) ?_)
 refine sw_callP (hC) rfl rfl rfl rfl (byQ True.intro) (byQ True.intro) (byQ True.intro) ?_
 by_cases h0:(L.length:Int)=0
 ·refine sw_run 200 _ _ _ (byP (fc (drZ zs) (eq_true h0)) ?_)
  refine sw_callXR (hB 6 (by decide) (by decide) i1 hi1 h1) rfl rfl rfl (byP (drZ zs) True.intro) (byP (drZ zs) True.intro) (byP (drZ zs) True.intro) ?_
  rintro ⟨n,j0,g0⟩ ⟨hn,hj0⟩
  simp only at hn hj0
  obtain ⟨m,hm⟩:∃ m:Nat,1+n=(m:Int):=⟨(1+n).toNat,by omega⟩
  have hm6:m≤6:=by omega
  have hin:inI (m:Int):=by unfold inI;omega
  refine sw_run 200 _ _ _ (byP (fc (drZ zs) (fc hm hin)) ?_)
  refine sw_loop (fun x:List Ins × Nat × Int=>x.1.length≤m∧x.2.1≤zs.length) (fun x=>⟨46,[(6,.i x.1.length),(5,.i m),(3,.sl 1),(0,.bx 0 0)],[(0,[.br (.rows 1 zs.length (zs.map D.byt)),.i x.2.1,.i x.2.2])],[(1,some ⟨.rows 2 x.1.length (flC insC x.1),some 37,true⟩)],2,[0]⟩) (fun x=>m-x.1.length) ([],j0,g0) (rnL [(1,2)]) ⟨Nat.zero_le _,hj0⟩ ?_ ?_
  ·exact byP (fc Int.natCast_zero (fc (show flC insC []=[] from rfl) (show ([]:List Ins).length=0 from rfl))) True.intro
  rintro ⟨l,i3,h3⟩ ⟨hl,hi3⟩
  simp only at hl hi3 ⊢
  by_cases hlt:l.length<m
  ·have hj:(l.length:Int)<(m:Int):=by omega
   refine sw_run 200 _ _ _ (byP hj ?_)
   refine sw_callXR (con_insD zs hz i3 hi3 h3) rfl rfl rfl (byP (drZ zs) True.intro) (byP (drZ zs) True.intro) (byP (drZ zs) True.intro) ?_
   rintro ⟨⟨op,a⟩,i4,h4⟩ ⟨⟨ho,ha⟩,hi4⟩
   simp only at ho ha hi4
   have hst:=ins_snoc l op a
   have hln:(l++([⟨op,a⟩]:List Ins)).length=l.length+1:=by simp
   refine sw_run 200 _ _ _ (byP (fc (drZ zs) (vdF zs)) ?_)
   refine ⟨⟨fun h=>h.elim,fun o e1 e2=>by omega,by unfold maxLen;omega,by omega⟩,by unfold inI;omega,(l++[⟨op,a⟩],i4,h4),rnL [(1,3)],⟨by simp only [hln];omega,hi4⟩,by simp only [hln];omega, ?_⟩
   exact byP (fc hst hln) True.intro
  ·have hj:¬ (l.length:Int)<(m:Int):=by omega
   refine sw_run 200 _ _ _ (byP hj ?_)
   refine sw_run 200 _ _ _ ?_
   refine byP (fc (drZ zs) (fc Tryz.ntmps78 Tryz.results78)) ?_
   refine ⟨.inl rfl,(l,i3,h3),⟨by show l.length≤300;omega,hi3⟩, ?_⟩
   refine byP (fc (drZ zs) (fc (lsF zs) (fc Tryz.ntmps78 Tryz.results78))) ?_
   repeat' (with_reducible apply And.intro)
   all_goals first | exact True.intro | rfl
 refine sw_run 200 _ _ _ (byP (fc (drZ zs) h0) ?_)
 refine sw_callXR (hO 6 (by decide) (by decide) i1 hi1 h1) rfl rfl rfl (byP (drZ zs) True.intro) (byP (drZ zs) True.intro) (byP (drZ zs) True.intro) ?_
 rintro ⟨b,i2,h2⟩ hi2
 have hi2':i2≤zs.length:=hi2
 cases b
 case true =>
  refine sw_run 200 _ _ _ (byP (drZ zs) ?_)
  refine sw_callXR (hB 6 (by decide) (by decide) i2 hi2' h2) rfl rfl rfl (byP (drZ zs) True.intro) (byP (drZ zs) True.intro) (byP (drZ zs) True.intro) ?_
  rintro ⟨n,j0,g0⟩ ⟨hn,hj0⟩
  simp only at hn hj0
  obtain ⟨m,hm⟩:∃ m:Nat,1+n=(m:Int):=⟨(1+n).toNat,by omega⟩
  have hm6:m≤6:=by omega
  have hin:inI (m:Int):=by unfold inI;omega
  refine sw_run 200 _ _ _ (byP (fc (drZ zs) (fc hm hin)) ?_)
  refine sw_loop (fun x:List Ins × Nat × Int=>x.1.length≤m∧x.2.1≤zs.length) (fun x=>⟨46,[(6,.i x.1.length),(5,.i m),(3,.sl 1),(0,.bx 0 0)],[(0,[.br (.rows 1 zs.length (zs.map D.byt)),.i x.2.1,.i x.2.2])],[(1,some ⟨.rows 2 x.1.length (flC insC x.1),some 37,true⟩)],2,[0]⟩) (fun x=>m-x.1.length) ([],j0,g0) (rnL [(1,2)]) ⟨Nat.zero_le _,hj0⟩ ?_ ?_
  ·exact byP (fc Int.natCast_zero (fc (show flC insC []=[] from rfl) (show ([]:List Ins).length=0 from rfl))) True.intro
  rintro ⟨l,i3,h3⟩ ⟨hl,hi3⟩
  simp only at hl hi3 ⊢
  by_cases hlt:l.length<m
  ·have hj:(l.length:Int)<(m:Int):=by omega
   refine sw_run 200 _ _ _ (byP hj ?_)
   refine sw_callXR (con_insD zs hz i3 hi3 h3) rfl rfl rfl (byP (drZ zs) True.intro) (byP (drZ zs) True.intro) (byP (drZ zs) True.intro) ?_
   rintro ⟨⟨op,a⟩,i4,h4⟩ ⟨⟨ho,ha⟩,hi4⟩
   simp only at ho ha hi4
   have hst:=ins_snoc l op a
   have hln:(l++([⟨op,a⟩]:List Ins)).length=l.length+1:=by simp
   refine sw_run 200 _ _ _ (byP (fc (drZ zs) (vdF zs)) ?_)
   refine ⟨⟨fun h=>h.elim,fun o e1 e2=>by omega,by unfold maxLen;omega,by omega⟩,by unfold inI;omega,(l++[⟨op,a⟩],i4,h4),rnL [(1,3)],⟨by simp only [hln];omega,hi4⟩,by simp only [hln];omega, ?_⟩
   exact byP (fc hst hln) True.intro
  ·have hj:¬ (l.length:Int)<(m:Int):=by omega
   refine sw_run 200 _ _ _ (byP hj ?_)
   refine sw_run 200 _ _ _ ?_
   refine byP (fc (drZ zs) (fc Tryz.ntmps78 Tryz.results78)) ?_
   refine ⟨.inl rfl,(l,i3,h3),⟨by show l.length≤300;omega,hi3⟩, ?_⟩
   refine byP (fc (drZ zs) (fc (lsF zs) (fc Tryz.ntmps78 Tryz.results78))) ?_
   repeat' (with_reducible apply And.intro)
   all_goals first | exact True.intro | rfl
 refine sw_run 200 _ _ _ (byP (drZ zs) ?_)
 refine sw_callXR (hO 3 (by decide) (by decide) i2 hi2' h2) rfl rfl rfl (byP (drZ zs) True.intro) (byP (drZ zs) True.intro) (byP (drZ zs) True.intro) ?_
 rintro ⟨b,i3,h3⟩ hi3
 have hi3':i3≤zs.length:=hi3
 cases b
 case false =>
  refine sw_run 200 _ _ _ (byP (fc (drZ zs) (fc Tryz.ntmps78 Tryz.results78)) ?_)
  refine ⟨.inl rfl,(L,i3,h3),⟨hlen,hi3'⟩, ?_⟩
  refine byP (fc (drZ zs) (fc (lsF zs) (fc Tryz.ntmps78 Tryz.results78))) ?_
  repeat' (with_reducible apply And.intro)
  all_goals first | exact True.intro | rfl
 have hpos:0<L.length:=by omega
 refine sw_run 200 _ _ _ (byP (drZ zs) ?_)
 refine sw_callXR (hB L.length (by omega) (by omega) i3 hi3' h3) rfl rfl rfl (byP (drZ zs) True.intro) (byP (drZ zs) True.intro) (byP (drZ zs) True.intro) ?_
 rintro ⟨k,i4,h4⟩ ⟨hk,hi4⟩
 simp only at hk hi4
 refine sw_run 200 _ _ _ (byP (drZ zs) ?_)
 refine sw_callXR (con_insD zs hz i4 hi4 h4) rfl rfl rfl (byP (drZ zs) True.intro) (byP (drZ zs) True.intro) (byP (drZ zs) True.intro) ?_
 rintro ⟨⟨op,a⟩,i5,h5⟩ ⟨⟨ho,ha⟩,hi5⟩
 simp only at ho ha hi5
 have hk0:=hk.1
 have hkl:k<(L.length:Int):=by omega
 have hset:=flC_set insC_len L k.toNat ⟨op,a⟩ (by omega)
 have hset':((flC insC L).set (k.toNat * 2) (.int op)).set (k.toNat * 2+1) (.int a)=flC insC (L.set k.toNat ⟨op,a⟩):=hset
 have hll:(L.set k.toNat ⟨op,a⟩).length=L.length:=by simp
 refine sw_run 200 _ _ _ (byP (fc (drZ zs) (fc (vdF zs) (fc hk0 (fc hkl (fc hset' (fc Tryz.ntmps78 Tryz.results78)))))) ?_)
 refine ⟨.inl rfl,(L.set k.toNat ⟨op,a⟩,i5,h5),⟨by show (L.set k.toNat ⟨op,a⟩).length≤300;omega,hi5⟩, ?_⟩
 refine byP (fc (drZ zs) (fc (lsF zs) (fc hll (fc Tryz.ntmps78 Tryz.results78)))) ?_
 repeat' (with_reducible apply And.intro)
 all_goals first | exact True.intro | rfl
def rlI (x:List Ins × Int):Prop:=x.1.length≤301∧0≤x.2∧x.2≤3001
def rlO (x:List Ins × Int):List (List CD):=[]
def rlR (x:List Ins × Int):List RD:=[.one (.a 37 (.rows 2 x.1.length (flC insC x.1))),.one (.o (.int x.2))]
theorem rlF:(∀ L n,rlO (L,n)=[])∧(∀ L n,rlR (L,n)=[.one (.a 37 (.rows 2 L.length (flC insC L))),.one (.o (.int n))]):=⟨fun _ _=>rfl,fun _ _=>rfl⟩
theorem con_runD (zs:List Int) (hz:BytOk zs):ConX Tryz.prog 24 [.b (.one (bytD zs))] rlI rlO rlR:=by
 have hO:=fun n hn hn2 i hi h=>con_Once zs hz n hn hn2 i hi h
 have hP:∀ (i:Nat),i≤zs.length→∀ h:Int,ConX Tryz.prog 81 [.p (curA zs i h),.b (.one (.rows 1 5 [.int 500,.int 1000,.int 3,.int 0,.int 3001]))] (pkI zs [500,1000,3,0,3001]) (curO zs) curR:=fun i hi h=>con_PickInt zs hz [500,1000,3,0,3001] (by decide) (by decide) i hi h
 refine con_runX Tryz.func24 rfl rfl (by simp [Tryz.ntmps24]) (fun _ _=>rfl) ?_
 refine byP (fc (dmF zs) (fc Tryz.ntmps24 Tryz.results24)) ?_
 refine sw_callN con_New rfl rfl hz.1 hz.2 fun h => ?_
 refine sw_run 200 _ _ _ (byP (fc (drZ zs) (dmF zs)) ?_)
 refine sw_callXR (con_prog zs hz 0 (Nat.zero_le _) h) rfl rfl rfl (byP (fc (drZ zs) Int.natCast_zero) True.intro) (byP (fc (drZ zs) Int.natCast_zero) True.intro) (byP (fc (drZ zs) Int.natCast_zero) True.intro) ?_
 rintro ⟨L,i1,h1⟩ ⟨hL,hi1⟩
 simp only at hL hi1
 refine sw_run 200 _ _ _ (byP (fc (drZ zs) (lsF zs)) ?_)
 refine sw_callXR (hO 12 (by decide) (by decide) i1 hi1 h1) rfl rfl rfl (byP (drZ zs) True.intro) (byP (drZ zs) True.intro) (byP (drZ zs) True.intro) ?_
 rintro ⟨b,i2,h2⟩ hi2
 have hi2':i2≤zs.length:=hi2
 cases b
 case true =>
  refine sw_run 200 _ _ _ (byP (drZ zs) ?_)
  refine sw_callXR (con_insB zs hz i2 hi2' h2) rfl rfl rfl (byP (drZ zs) True.intro) (byP (drZ zs) True.intro) (byP (drZ zs) True.intro) ?_
  rintro ⟨⟨op,a⟩,i3,h3⟩ ⟨⟨ho,ha⟩,hi3⟩
  simp only at ho ha hi3
  have hst:=ins_snoc L op a
  have hln:(L++([⟨op,a⟩]:List Ins)).length=L.length+1:=by simp
  refine sw_run 200 _ _ _ (byP (fc (drZ zs) (vdF zs)) ?_)
  refine ⟨⟨fun h=>h.elim,fun o e1 e2=>by omega,by unfold maxLen;omega,by omega⟩, ?_⟩
  refine sw_fzE 4 rfl ?_
  refine byQ ?_
  refine sw_callXR (hP i3 hi3 h3) rfl rfl rfl (byP (drZ zs) True.intro) (byP (drZ zs) True.intro) (byP (drZ zs) True.intro) ?_
  rintro ⟨n,i4,h4⟩ ⟨hn,hi4⟩
  have hn2:0≤n∧n≤3001:=by
   simp only [List.mem_cons,List.not_mem_nil,or_false] at hn
   omega
  refine sw_run 200 _ _ _ (byP (fc (drZ zs) (fc Tryz.ntmps24 Tryz.results24)) ?_)
  refine ⟨.inl rfl,(L++[⟨op,a⟩],n),⟨by show (L++([⟨op,a⟩]:List Ins)).length≤301;omega,hn2⟩, ?_⟩
  refine byP (fc (drZ zs) (fc rlF (fc hst (fc hln (fc Tryz.ntmps24 Tryz.results24))))) ?_
  repeat' (with_reducible apply And.intro)
  all_goals first | exact True.intro | rfl
 case false =>
  refine sw_run 200 _ _ _ (byP (drZ zs) ?_)
  refine sw_fzE 2 rfl ?_
  refine byQ ?_
  refine sw_callXR (hP i2 hi2' h2) rfl rfl rfl (byP (drZ zs) True.intro) (byP (drZ zs) True.intro) (byP (drZ zs) True.intro) ?_
  rintro ⟨n,i4,h4⟩ ⟨hn,hi4⟩
  have hn2:0≤n∧n≤3001:=by
   simp only [List.mem_cons,List.not_mem_nil,or_false] at hn
   omega
  refine sw_run 200 _ _ _ (byP (fc (drZ zs) (fc Tryz.ntmps24 Tryz.results24)) ?_)
  refine ⟨.inl rfl,(L,n),⟨by show L.length≤301;omega,hn2⟩, ?_⟩
  refine byP (fc (drZ zs) (fc rlF (fc Tryz.ntmps24 Tryz.results24))) ?_
  repeat' (with_reducible apply And.intro)
  all_goals first | exact True.intro | rfl
def vdI (x:List Ins):Prop:=x.length≤301
def vdO (x:List Ins):List (List CD):=[]
def vdR (x:List Ins):List RD:=[.one (.a 37 (.rows 2 x.length (flC insC x)))]
theorem vdG:(∀ L,vdO L=[])∧(∀ L,vdR L=[.one (.a 37 (.rows 2 L.length (flC insC L)))]):=⟨fun _=>rfl,fun _=>rfl⟩
theorem con_l24 (zs:List Int) (hz:BytOk zs):ConX Tryz.prog 69 [.b (.one (bytD zs))] vdI vdO vdR:=by
 refine con_runX Tryz.func69 rfl rfl (by simp [Tryz.ntmps69]) (fun _ _=>rfl) ?_
 refine byP (fc (dmF zs) (fc Tryz.ntmps69 Tryz.results69)) ?_
 refine sw_callXR (con_runD zs hz) rfl rfl rfl (byP (dmF zs) True.intro) (byP (dmF zs) True.intro) (byP (dmF zs) True.intro) ?_
 rintro ⟨L,n⟩ ⟨hL,hn⟩
 simp only at hL hn
 refine sw_run 200 _ _ _ (byP (fc rlF (fc Tryz.ntmps69 Tryz.results69)) ?_)
 refine ⟨.inl rfl,L,hL, ?_⟩
 refine byP (fc vdG (fc Tryz.ntmps69 Tryz.results69)) ?_
 repeat' (with_reducible apply And.intro)
 all_goals first | exact True.intro | rfl
theorem con_verD (zs:List Int) (hz:BytOk zs):ConX Tryz.prog 16 [.b (.one (bytD zs))] vdI vdO vdR:=by
 refine con_runX Tryz.func16 rfl rfl (by simp [Tryz.ntmps16]) (fun _ _=>rfl) ?_
 refine byP (fc (dmF zs) (fc Tryz.ntmps16 Tryz.results16)) ?_
 refine sw_callXR (con_l24 zs hz) rfl rfl rfl (byP (dmF zs) True.intro) (byP (dmF zs) True.intro) (byP (dmF zs) True.intro) ?_
 rintro L hL
 have hL':L.length≤301:=hL
 refine sw_run 200 _ _ _ (byP (fc vdG (fc Tryz.ntmps16 Tryz.results16)) ?_)
 refine ⟨.inl rfl,L,hL, ?_⟩
 refine byP (fc vdG (fc Tryz.ntmps16 Tryz.results16)) ?_
 repeat' (with_reducible apply And.intro)
 all_goals first | exact True.intro | rfl
end Go.Proofs.YtaidalilfmjfgaaGreat
