import Derived.Test.YtaidalilfmjfgaaGreatCox
import Derived.Test.YtaidalilfmjfgaaGreatDat
import Derived.Test.YtaidalilfmjfgaaGreatTd
import Derived.Test.YtaidalilfmjfgaaGreatBy
import Derived.Test.YtaidalilfmjfgaaGreatTyC
import Derived.Test.YtaidalilfmjfgaaGreatLst
import Derived.Test.YtaidalilfmjfgaaGreatAll
import Derived.Test.YtaidalilfmjfgaaGreatMk
import Derived.Test.YtaidalilfmjfgaaGreatPtr
namespace Go.Proofs.YtaidalilfmjfgaaGreat
open Go.RowKit
set_option linter.unusedVariables false
set_option linter.unusedSimpArgs false
set_option maxRecDepth 20000
theorem andI_rng (x:Int) (m:Nat) (hm:m<2 ^ 62):0≤andI x (m:Int)∧andI x (m:Int)≤m:=by
 unfold andI
 have h1:(BitVec.ofInt IntKind.i64.bits x &&& BitVec.ofInt IntKind.i64.bits (m:Int)).toNat≤m:=by
  rw [BitVec.toNat_and]
  refine Nat.le_trans Nat.and_le_right ?_
  rw [BitVec.toNat_ofInt]
  have:(m:Int) % ((2 ^ IntKind.i64.bits:Nat):Int)=m:=Int.emod_eq_of_lt (by omega) (by
   have:IntKind.i64.bits=64:=rfl
   rw [this];omega)
  rw [this];omega
 have h2:inI ((BitVec.ofInt IntKind.i64.bits x &&& BitVec.ofInt IntKind.i64.bits (m:Int)).toNat:Int):=by unfold inI;omega
 rw [wrap_in h2]
 omega
theorem byt_row (zs:List Int) (k:Nat) (h:k<zs.length):rowAt 1 (zs.map D.byt) k=[.byt zs[k]!]:=by
 unfold rowAt
 rw [Nat.mul_one,List.drop_eq_getElem_cons (by simpa using h),List.take_succ_cons,List.take_zero,getElem!_pos zs k h]
 simp
def curA (zs:List Int) (i:Nat) (h:Int):List CD:=[.r (bytD zs),.o (.int i),.o (.int h)]
theorem con_New:NewC Tryz.prog 55:=by
 refine new_of (t:=2) Tryz.func55 rfl rfl (by simp [Tryz.ntmps55]) rfl fun zs hl hz=>XW_of_SW (sw_run 200 _ _ _ ?_)
 have hi0:inI (26583+(zs.length:Int)):=by unfold inI;omega
 refine byP (fc bytD.eq_1 (fc hi0 Tryz.ntmps55)) ?_
 refine sw_loop (fun x:Nat × Int=>x.1≤zs.length∧0≤x.2∧x.2≤2000000000) (fun x=>⟨32,[(4,.i x.1),(3,.i x.2),(0,.br (.rows 1 zs.length (zs.map D.byt)))],[],[],0,[]⟩) (fun x=>zs.length-x.1) (0,26583+(zs.length:Int)) id ⟨Nat.zero_le _,by omega,by omega⟩ ?_ ?_
 ·exact byQ True.intro
 rintro ⟨k,h⟩ ⟨hk,hh1,hh2⟩
 simp only at hk hh1 hh2
 refine sw_run 200 _ _ _ ?_
 by_cases hlt:k<zs.length
 case neg =>
  have hi:¬ (k:Int)<(zs.length:Int):=by omega
  refine byP hi ?_
  refine sw_run 200 _ _ _ ?_
  refine byQ ?_
  exact ⟨0,h,rfl,rfl⟩
 have hi:(k:Int)<(zs.length:Int):=by omega
 by_cases h4:(k:Int)<4000
 case neg =>
  refine byP (fc (eq_true hi) h4) ?_
  refine sw_run 200 _ _ _ ?_
  refine byQ ?_
  exact ⟨0,h,rfl,rfl⟩
 have hR:=byt_row zs k hlt
 have hb:=hz zs[k]! (mem_bang hlt)
 generalize zs[k]! = z at *
 have i1:inI (h * 131):=by unfold inI;omega
 have i2:inI (h * 131+z):=by unfold inI;omega
 have i3:inI (h * 131+z+7):=by unfold inI;omega
 have i4:inI z:=by unfold inI;omega
 have i5:inI ((k:Int)+1):=by unfold inI;omega
 have hr:=andI_rng (h * 131+z+7) 1073741823 (by decide)
 rw [show ((1073741823:Nat):Int)=1073741823 from rfl] at hr
 refine byP (fc (eq_true hi) (fc (eq_true h4) (fc hR (fc i1 (fc i2 (fc i3 (fc i4 i5))))))) ?_
 generalize andI (h * 131+z+7) 1073741823=h' at *
 refine ⟨by kernel_rfl,(k+1,h'),id,⟨by simp only;omega,by simp only;omega,by simp only;omega⟩,by simp only;omega, ?_⟩
 exact byQ True.intro
def CurI (zs:List Int) (m:Int) (x:Int × Nat × Int):Prop:=(0≤x.1∧x.1≤m)∧x.2.1≤zs.length
def curO (zs:List Int) (x:Int × Nat × Int):List (List CD):=[curA zs x.2.1 x.2.2]
def curR (x:Int × Nat × Int):List RD:=[.one (.o (.int x.1))]
def BytOk (zs:List Int):Prop:=zs.length≤1000000000∧∀ n ∈ zs,0≤n∧n<256
theorem con_Byte (zs:List Int) (hz:BytOk zs) (i:Nat) (hi:i≤zs.length) (h:Int):ConX Tryz.prog 171 [.p (curA zs i h)] (CurI zs 255) (curO zs) curR:=by
 obtain ⟨hl,hzs⟩:=hz
 refine con_ofX' Tryz.func171 rfl rfl (by simp [Tryz.ntmps171]) (fun _ _=>rfl) (sw_stop1 (sw_run 200 _ _ _ ?_))
 simp only [push_cast,s0P,mkPs,mkPA,mkC,↓reduceIte,Nat.reduceLT,curA,bytD,Tryz.ntmps171]
 refine sw_uncut (sw_stop1 (sw_head 5 _ _ _ ?_))
 simp only [xHead,true_and]
 refine sw_step 5 _ _ _ _ _ ?_
 simp only [push_cast,↓reduceIte,Nat.reduceLT,reduceCtorEq,xStep]
 refine sw_ex rfl (sw_wrap rfl rfl (.inr rfl) fun k1=>sw_ex rfl (sw_wrap rfl rfl (.inl rfl) fun k2=>sw_run 200 _ _ _ ?_))
 simp only [push_cast,↓reduceIte,Nat.reduceLT,Nat.reduceAdd,Nat.reduceEqDiff]
 refine sw_uncut (sw_run 200 _ _ _ ?_)
 simp only [push_cast,↓reduceIte]
 have hx:=andI_rng (xorI (k2.fdiv (2 ^ min 33 IntKind.i64.bits)) (k2.fdiv (2 ^ min 45 IntKind.i64.bits))) 255 (by decide)
 rw [show ((255:Nat):Int)=255 from rfl] at hx
 refine sw_drawnK (⟨58,[(3,.i (andI (xorI (k2.fdiv (2 ^ min 33 IntKind.i64.bits)) (k2.fdiv (2 ^ min 45 IntKind.i64.bits))) 255)),(0,.bx 0 0)],[(0,[.br (.rows 1 zs.length (zs.map D.byt)),.i i,.i k2])],[],1,[0]⟩) (.cons 0 true (.cons 5 true (.fork (.alt 1 (.cons 2 true (.cons 3 true (.cons 4 true (.cons 6 false (.cons 7 true (.cons 8 true (.cons 9 true (.cons 10 true (.cons 11 true (.cons 12 true (.nil))))))))))) (.alt 6 (.cons 7 true (.cons 8 true (.cons 9 true (.cons 1 false (.cons 2 true (.cons 3 true (.cons 4 true (.cons 10 true (.cons 11 true (.cons 12 true (.nil))))))))))) (.last)))))) (by kernel_rfl) (by kernel_rfl) (sw_run 200 _ _ _ ?_) (sw_run 200 _ _ _ ?_)
 ·simp only [push_cast,↓reduceIte,Nat.reduceLT,Nat.reduceEqDiff,reduceCtorEq,Int.reduceLE,Int.reduceToNat,Int.reduceLE,oc_int]
  (try repeat' (with_reducible apply And.intro))
  all_goals first
   | (refine ⟨rfl,id, ?_⟩;simp only [push_cast,Sub,subT,subB,subO,subP,inj,AV.ren,AV.rens,AV.lt,AV.lts,↓reduceIte,Nat.reduceLT,reduceCtorEq];done)
   | kernel_rfl
 generalize (andI (xorI (k2.fdiv (2 ^ min 33 IntKind.i64.bits)) (k2.fdiv (2 ^ min 45 IntKind.i64.bits))) 255)=x0 at *
 by_cases hlt:(i:Int)<(zs.length:Int)
 ·have hR:=byt_row zs i (by omega)
  have hb:=hzs zs[i]! (mem_bang (by omega))
  generalize zs[i]! = z at *
  have i2:inI (x0+z):=by unfold inI;omega
  have i4:inI z:=by unfold inI;omega
  have i5:inI ((i:Int)+1):=by unfold inI;omega
  have hr:=andI_rng (x0+z) 255 (by decide)
  rw [show ((255:Nat):Int)=255 from rfl] at hr
  simp only [push_cast,↓reduceIte]
  refine sw_drawnK (⟨58,[(34,.b true),(3,.i x0),(0,.bx 0 0)],[(0,[.br (.rows 1 zs.length (zs.map D.byt)),.i i,.i k2])],[],1,[0]⟩) (.cons 0 true (.cons 4 true (.fork (.alt 1 (.cons 2 true (.cons 3 true (.cons 5 false (.cons 6 true (.cons 7 true (.cons 8 true (.cons 9 true (.nil)))))))) (.alt 5 (.cons 6 true (.cons 7 true (.cons 8 true (.cons 1 false (.cons 2 true (.cons 3 true (.cons 9 true (.nil)))))))) (.last)))))) (by kernel_rfl) (by kernel_rfl) (sw_run 200 _ _ _ ?_) (sw_run 200 _ _ _ ?_)
  ·simp only [push_cast,↓reduceIte,Nat.reduceLT,Nat.reduceEqDiff,reduceCtorEq,eq_true hlt]
   (try repeat' (with_reducible apply And.intro))
   all_goals first
    | (refine ⟨rfl,id, ?_⟩;simp only [push_cast,Sub,subT,subB,subO,subP,inj,AV.ren,AV.rens,AV.lt,AV.lts,↓reduceIte,Nat.reduceLT,Nat.reduceEqDiff,reduceCtorEq];done)
    | kernel_rfl
  simp only [push_cast,↓reduceIte]
  refine sw_drawnK (⟨58,[(3,.i (andI (x0+z) 255)),(0,.bx 0 0)],[(0,[.br (.rows 1 zs.length (zs.map D.byt)),.i i,.i k2])],[],1,[0]⟩) (.cons 0 true (.cons 1 true (.cons 5 true (.fork (.alt 2 (.cons 3 true (.cons 4 true (.cons 6 false (.cons 7 true (.cons 8 true (.cons 9 true (.cons 10 true (.cons 11 true (.cons 12 true (.cons 13 true (.cons 14 true (.nil)))))))))))) (.alt 6 (.cons 7 true (.cons 8 true (.cons 2 false (.cons 3 true (.cons 4 true (.cons 9 true (.cons 10 true (.cons 11 true (.cons 12 true (.cons 13 true (.cons 14 true (.nil)))))))))))) (.last))))))) (by kernel_rfl) (by kernel_rfl) (sw_run 200 _ _ _ ?_) (sw_run 200 _ _ _ ?_)
  ·simp only [push_cast,↓reduceIte,Nat.reduceLT,Nat.reduceEqDiff,reduceCtorEq,hR,i2,i4,hlt]
   (try repeat' (with_reducible apply And.intro))
   all_goals first
    | (refine ⟨rfl,id, ?_⟩;simp only [push_cast,Sub,subT,subB,subO,subP,inj,AV.ren,AV.rens,AV.lt,AV.lts,↓reduceIte,Nat.reduceLT,reduceCtorEq];done)
    | kernel_rfl
  generalize andI (x0+z) 255=x1 at *
  simp only [push_cast,↓reduceIte,Nat.reduceLT,Nat.reduceAdd,Nat.reduceLeDiff,Nat.reduceEqDiff,reduceCtorEq,i5]
  refine ⟨.inl rfl,(x1,i+1,k2),⟨hr,by simp only;omega⟩, ?_⟩
  simp only [push_cast,xRetP,rRs,rOs,rC,rCs,eRs,eOs,eC,eCs,aD,↓reduceIte,curO,curA,curR,bytD,cast1,Tryz.results171]
 ·simp only [push_cast,↓reduceIte]
  refine sw_drawnK (⟨58,[(34,.b false),(3,.i x0),(0,.bx 0 0)],[(0,[.br (.rows 1 zs.length (zs.map D.byt)),.i i,.i k2])],[],1,[0]⟩) (.cons 0 true (.cons 4 true (.fork (.alt 1 (.cons 2 true (.cons 3 true (.cons 5 false (.cons 6 true (.cons 7 true (.cons 8 true (.cons 9 true (.nil)))))))) (.alt 5 (.cons 6 true (.cons 7 true (.cons 8 true (.cons 1 false (.cons 2 true (.cons 3 true (.cons 9 true (.nil)))))))) (.last)))))) (by kernel_rfl) (by kernel_rfl) (sw_run 200 _ _ _ ?_) (sw_run 200 _ _ _ ?_)
  ·simp only [push_cast,↓reduceIte,Nat.reduceLT,Nat.reduceEqDiff,reduceCtorEq,hlt]
   (try repeat' (with_reducible apply And.intro))
   all_goals first
    | (refine ⟨rfl,id, ?_⟩;simp only [push_cast,Sub,subT,subB,subO,subP,inj,AV.ren,AV.rens,AV.lt,AV.lts,↓reduceIte,Nat.reduceLT,Nat.reduceEqDiff,reduceCtorEq];done)
    | kernel_rfl
  simp only [push_cast,↓reduceIte,Nat.reduceLT,Nat.reduceEqDiff]
  refine ⟨.inl rfl,(x0,i,k2),⟨hx,hi⟩, ?_⟩
  simp only [push_cast,xRetP,rRs,rOs,rC,rCs,eRs,eOs,eC,eCs,aD,↓reduceIte,curO,curA,curR,bytD,Tryz.results171]
theorem emod_rng {x n:Int} (h:0<n) (h0:0≤x):0≤x.tmod n∧x.tmod n≤n-1:=⟨Int.tmod_nonneg _ h0,by have:=Int.tmod_lt_of_pos x h;omega⟩
theorem con_Below (zs:List Int) (hz:BytOk zs) (n:Int) (hn:0<n) (hn2:n≤1000000000) (i:Nat) (hi:i≤zs.length) (h:Int):ConX Tryz.prog 84 [.p (curA zs i h),.b (.one (.int n))] (CurI zs (n-1)) (curO zs) curR:=by
 have hB:=fun i hi h=>con_Byte zs hz i hi h
 have hn0:¬ n≤0:=by omega
 have hnz:¬ n=0:=by omega
 refine con_runX Tryz.func84 rfl rfl (by simp [Tryz.ntmps84]) (fun _ _=>rfl) ?_
 by_cases h256:n≤256
 ·refine byP (fc curA.eq_1 (fc bytD.eq_1 (fc hn0 (fc (eq_true h256) Tryz.ntmps84)))) ?_
  refine sw_callXR (hB i hi h) rfl rfl rfl ?_ ?_ ?_ ?_
  ·exact byP (fc curA.eq_1 bytD.eq_1) True.intro
  ·exact byP (fc curA.eq_1 bytD.eq_1) True.intro
  ·exact byP (fc curA.eq_1 bytD.eq_1) True.intro
  rintro ⟨v,i',h'⟩ ⟨hv,hi'⟩
  simp only at hv hi'
  refine sw_run 200 _ _ _ ?_
  have hm:=emod_rng (x:=v) hn hv.1
  refine byP (fc curO.eq_1 (fc curA.eq_1 (fc curR.eq_1 (fc bytD.eq_1 hnz)))) ?_
  refine ⟨.inl rfl,(v.tmod n,i',h'),⟨hm,hi'⟩, ?_⟩
  exact byP (fc curO.eq_1 (fc curA.eq_1 (fc curR.eq_1 (fc bytD.eq_1 Tryz.results84)))) True.intro
 ·refine byP (fc curA.eq_1 (fc bytD.eq_1 (fc hn0 (fc h256 Tryz.ntmps84)))) ?_
  refine sw_callXR (hB i hi h) rfl rfl rfl ?_ ?_ ?_ ?_
  ·exact byP (fc curA.eq_1 bytD.eq_1) True.intro
  ·exact byP (fc curA.eq_1 bytD.eq_1) True.intro
  ·exact byP (fc curA.eq_1 bytD.eq_1) True.intro
  rintro ⟨x1,i1,h1⟩ ⟨hx1,hi1⟩
  simp only at hx1 hi1
  refine sw_run 200 _ _ _ ?_
  refine byP (fc curO.eq_1 (fc curA.eq_1 (fc curR.eq_1 bytD.eq_1))) ?_
  refine sw_callXR (hB i1 hi1 h1) rfl rfl rfl ?_ ?_ ?_ ?_
  ·exact byP (fc curA.eq_1 bytD.eq_1) True.intro
  ·exact byP (fc curA.eq_1 bytD.eq_1) True.intro
  ·exact byP (fc curA.eq_1 bytD.eq_1) True.intro
  rintro ⟨x2,i2,h2⟩ ⟨hx2,hi2⟩
  simp only at hx2 hi2
  refine sw_run 200 _ _ _ ?_
  refine byP (fc curO.eq_1 (fc curA.eq_1 (fc curR.eq_1 bytD.eq_1))) ?_
  refine sw_callXR (hB i2 hi2 h2) rfl rfl rfl ?_ ?_ ?_ ?_
  ·exact byP (fc curA.eq_1 bytD.eq_1) True.intro
  ·exact byP (fc curA.eq_1 bytD.eq_1) True.intro
  ·exact byP (fc curA.eq_1 bytD.eq_1) True.intro
  rintro ⟨x3,i3,h3⟩ ⟨hx3,hi3⟩
  simp only at hx3 hi3
  refine sw_run 200 _ _ _ ?_
  refine byP (fc curO.eq_1 (fc curA.eq_1 (fc curR.eq_1 bytD.eq_1))) ?_
  refine sw_callXR (hB i3 hi3 h3) rfl rfl rfl ?_ ?_ ?_ ?_
  ·exact byP (fc curA.eq_1 bytD.eq_1) True.intro
  ·exact byP (fc curA.eq_1 bytD.eq_1) True.intro
  ·exact byP (fc curA.eq_1 bytD.eq_1) True.intro
  rintro ⟨x4,i4,h4⟩ ⟨hx4,hi4⟩
  simp only at hx4 hi4
  refine sw_run 200 _ _ _ ?_
  have e1:inI (x1 * 16777216):=by unfold inI;omega
  have e2:inI (x2 * 65536):=by unfold inI;omega
  have e3:inI (x1 * 16777216+x2 * 65536):=by unfold inI;omega
  have e4:inI (x3 * 256):=by unfold inI;omega
  have e5:inI (x1 * 16777216+x2 * 65536+x3 * 256):=by unfold inI;omega
  have e6:inI (x1 * 16777216+x2 * 65536+x3 * 256+x4):=by unfold inI;omega
  have hm:=emod_rng (x:=x1 * 16777216+x2 * 65536+x3 * 256+x4) hn (by omega)
  refine byP (fc curO.eq_1 (fc curA.eq_1 (fc curR.eq_1 (fc bytD.eq_1 (fc hnz (fc e1 (fc e2 (fc e3 (fc e4 (fc e5 e6)))))))))) ?_
  refine ⟨.inl rfl,((x1 * 16777216+x2 * 65536+x3 * 256+x4).tmod n,i4,h4),⟨hm,hi4⟩, ?_⟩
  exact byP (fc curO.eq_1 (fc curA.eq_1 (fc curR.eq_1 (fc bytD.eq_1 Tryz.results84)))) True.intro
def bitI (zs:List Int) (x:Bool × Nat × Int):Prop:=x.2.1≤zs.length
def bitO (zs:List Int) (x:Bool × Nat × Int):List (List CD):=[curA zs x.2.1 x.2.2]
def bitR (x:Bool × Nat × Int):List RD:=[.one (.o (.bool x.1))]
theorem con_Once (zs:List Int) (hz:BytOk zs) (n:Int) (hn:0<n) (hn2:n≤1000000000) (i:Nat) (hi:i≤zs.length) (h:Int):ConX Tryz.prog 79 [.p (curA zs i h),.b (.one (.int n))] (bitI zs) (bitO zs) bitR:=by
 refine con_runX Tryz.func79 rfl rfl (by simp [Tryz.ntmps79]) (fun _ _=>rfl) ?_
 refine byP (fc curA.eq_1 (fc bytD.eq_1 Tryz.ntmps79)) ?_
 refine sw_callXR (con_Below zs hz n hn hn2 i hi h) rfl rfl rfl ?_ ?_ ?_ ?_
 ·exact byP (fc curA.eq_1 bytD.eq_1) True.intro
 ·exact byP (fc curA.eq_1 bytD.eq_1) True.intro
 ·exact byP (fc curA.eq_1 bytD.eq_1) True.intro
 rintro ⟨v,i',h'⟩ ⟨hv,hi'⟩
 simp only at hv hi'
 refine sw_run 200 _ _ _ ?_
 refine byP (fc curO.eq_1 (fc curA.eq_1 (fc curR.eq_1 bytD.eq_1))) ?_
 refine ⟨.inl rfl,(decide (v=0),i',h'),hi', ?_⟩
 exact byP (fc bitO.eq_1 (fc curA.eq_1 (fc bitR.eq_1 (fc bytD.eq_1 Tryz.results79)))) True.intro
def pkI (zs ns:List Int) (x:Int × Nat × Int):Prop:=x.1 ∈ ns∧x.2.1≤zs.length
theorem con_PickInt (zs:List Int) (hz:BytOk zs) (ns:List Int) (hn:0<ns.length) (hn2:ns.length≤1000000000) (i:Nat) (hi:i≤zs.length) (h:Int):ConX Tryz.prog 81 [.p (curA zs i h),.b (.one (intsD ns))] (pkI zs ns) (curO zs) curR:=by
 refine con_runX Tryz.func81 rfl rfl (by simp [Tryz.ntmps81]) (fun _ _=>rfl) ?_
 refine byP (fc curA.eq_1 (fc bytD.eq_1 Tryz.ntmps81)) ?_
 refine sw_callXR (con_Below zs hz (ns.length:Int) (by omega) (by omega) i hi h) rfl rfl rfl ?_ ?_ ?_ ?_
 ·exact byP (fc curA.eq_1 bytD.eq_1) True.intro
 ·exact byP (fc curA.eq_1 bytD.eq_1) True.intro
 ·exact byP (fc curA.eq_1 bytD.eq_1) True.intro
 rintro ⟨v,i',h'⟩ ⟨hv,hi'⟩
 simp only at hv hi'
 refine sw_run 200 _ _ _ ?_
 have hlt:v.toNat<ns.length:=by omega
 have hv2:v<(ns.length:Int):=by omega
 have hR:=ints_row ns v.toNat hlt
 refine byP (fc curO.eq_1 (fc curA.eq_1 (fc curR.eq_1 (fc bytD.eq_1 (fc hv.1 (fc hv2 hR)))))) ?_
 refine ⟨.inl rfl,(ns[v.toNat]!,i',h'),⟨mem_bang hlt,hi'⟩, ?_⟩
 exact byP (fc curO.eq_1 (fc curA.eq_1 (fc curR.eq_1 (fc bytD.eq_1 Tryz.results81)))) True.intro
def txI (zs:List Int) (ns:List ByteArray) (x:ByteArray × Nat × Int):Prop:=x.1 ∈ ns∧x.2.1≤zs.length
def txO (zs:List Int) (x:ByteArray × Nat × Int):List (List CD):=[curA zs x.2.1 x.2.2]
def txR (x:ByteArray × Nat × Int):List RD:=[.one (.o (.str x.1))]
theorem con_Pick (zs:List Int) (hz:BytOk zs) (ns:List ByteArray) (hn:0<ns.length) (hn2:ns.length≤1000000000) (i:Nat) (hi:i≤zs.length) (h:Int):ConX Tryz.prog 145 [.p (curA zs i h),.b (.one (strsD ns))] (txI zs ns) (txO zs) txR:=by
 refine con_runX Tryz.func145 rfl rfl (by simp [Tryz.ntmps145]) (fun _ _=>rfl) ?_
 refine byP (fc curA.eq_1 (fc bytD.eq_1 Tryz.ntmps145)) ?_
 refine sw_callXR (con_Below zs hz (ns.length:Int) (by omega) (by omega) i hi h) rfl rfl rfl ?_ ?_ ?_ ?_
 ·exact byP (fc curA.eq_1 bytD.eq_1) True.intro
 ·exact byP (fc curA.eq_1 bytD.eq_1) True.intro
 ·exact byP (fc curA.eq_1 bytD.eq_1) True.intro
 rintro ⟨v,i',h'⟩ ⟨hv,hi'⟩
 simp only at hv hi'
 refine sw_run 200 _ _ _ ?_
 have hlt:v.toNat<ns.length:=by omega
 have hv2:v<(ns.length:Int):=by omega
 have hR:=strs_row ns v.toNat hlt
 refine byP (fc curO.eq_1 (fc curA.eq_1 (fc curR.eq_1 (fc bytD.eq_1 (fc hv.1 (fc hv2 hR)))))) ?_
 refine ⟨.inl rfl,(ns[v.toNat]!,i',h'),⟨mem_bang hlt,hi'⟩, ?_⟩
 exact byP (fc txO.eq_1 (fc curA.eq_1 (fc txR.eq_1 (fc bytD.eq_1 Tryz.results145)))) True.intro
theorem sz_two (k:Int) (a b:Ty):szL (tyC (.mk k [a,b]))=2+(szL (tyC a)+szL (tyC b)):=by
 simp only [tyC,tysC,szL,szD,szL_append,List.length_cons,List.length_nil,List.append_nil];omega
theorem sz_one (k:Int) (a:Ty):szL (tyC (.mk k [a]))=1+szL (tyC a):=by
 simp only [tyC,tysC,szL,szD,List.length_cons,List.length_nil,List.append_nil];omega
theorem con_l3Fun (a b:Ty) (ha:szL (tyC a)≤1000000000) (hb:szL (tyC b)≤1000000000):Con Tryz.prog 204 [.ag (tyC a),.ag (tyC b)] [.ag (tyC (.mk 3 [a,b]))]:=by
 refine con_run Tryz.func204 rfl rfl (by simp [Tryz.ntmps204]) ?_
 refine byP Tryz.ntmps204 ?_
 refine sw_drawn (.cons 0 true (.cons 2 true (.cons 1 false (.cons 3 false (.cons 4 false (.cons 5 true (.cons 6 false (.nil)))))))) (by kernel_rfl) fQ_panic (by kernel_rfl) (sw_run 200 _ _ _ ?_)
 refine byQ ?_
 refine sw_callD (con_l3Copy a ha) rfl (aAs_ok ?_) ?_ (sw_run 200 _ _ _ ?_)
 ·exact byQ True.intro
 ·simp only [okR]
 refine byQ ?_
 refine sw_callD (con_l3Copy b hb) rfl (aAs_ok ?_) ?_ (sw_run 200 _ _ _ ?_)
 ·exact byQ True.intro
 ·simp only [okR]
 simp only [push_cast,↓reduceIte,Nat.reduceLT,Nat.reduceAdd,Nat.reduceMul,Nat.reduceLeDiff,Nat.reduceEqDiff,reduceCtorEq,tyC_eq,Tryz.results204,Ty.kind,Ty.args,tysC]
theorem con_l3Code (a:Ty) (ha:szL (tyC a)≤1000000000):Con Tryz.prog 203 [.ag (tyC a)] [.ag (tyC (.mk 4 [a]))]:=by
 refine con_run Tryz.func203 rfl rfl (by simp [Tryz.ntmps203]) ?_
 refine byP Tryz.ntmps203 ?_
 refine sw_call (con_l3Copy a ha) rfl (aAs_ok ?_) ?_ (sw_run 200 _ _ _ ?_)
 ·exact byQ True.intro
 ·simp only [okR]
 simp only [push_cast,↓reduceIte,Nat.reduceLT,Nat.reduceAdd,Nat.reduceLeDiff,Nat.reduceEqDiff,reduceCtorEq,tyC_eq,Tryz.results203,Ty.kind,Ty.args,tysC]
def bs (l:List UInt8):ByteArray:=⟨l.toArray⟩
mutual
def txT:Ty→List UInt8
 | .mk k xs=>if k=1 then [73] else if k=2 then [66] else if k=3 then [40]++((txTs xs).getD 0 []++[62]++(txTs xs).getD 1 []++[41]) else [60]++((txTs xs).getD 0 []++[62])
def txTs:List Ty→List (List UInt8)
 | []=>[]
 | x :: r=>txT x :: txTs r
end
def ct (c:UInt8):List UInt8→Bool × List UInt8
 | []=>(false,[])
 | x :: r=>if x=c then (true,r) else (false,x :: r)
def tk (s:List UInt8) (c:UInt8) (at_:Nat):Bool:=decide (s[at_]? = some c)
theorem bs_size (l:List UInt8):(bs l).size=l.length:=by simp [bs,ByteArray.size]
theorem bs_app (a b:List UInt8):bs a++bs b=bs (a++b):=by
 apply ByteArray.ext
 rw [ByteArray.data_append];simp [bs]
theorem txTs_len : ∀ xs : List Ty, (∀ a ∈ xs, (txT a).length ≤ 3 * szT a) → ((txTs xs).getD 0 []).length + ((txTs xs).getD 1 []).length ≤ 3 * szTs xs
  | [], _ => by simp [txTs]
  | [a], h => by
    have := h a (by simp)
    simp [txTs, szTs]; omega
  | a :: b :: r, h => by
    have h1 := h a (by simp)
    have h2 := h b (by simp)
    simp [txTs, szTs]; omega
theorem txT_len:∀ t:Ty,(txT t).length≤3 * szT t:=by
 refine Ty.ind fun k xs ih => ?_
 have h:=txTs_len xs ih
 rw [txT,szT]
 repeat' split
 all_goals simp only [List.length_append,List.length_cons,List.length_nil]
 all_goals omega
theorem tx3 (a b:Ty):txT (.mk 3 [a,b])=[40]++txT a++[62]++txT b++[41]:=by simp [txT,txTs]
theorem tx4 (a:Ty):txT (.mk 4 [a])=[60]++txT a++[62]:=by simp [txT,txTs]
theorem form_cases {k : Int} {xs : List Ty} (h : formT (.mk k xs) = true) : (k = 1 ∧ xs = []) ∨ (k = 2 ∧ xs = []) ∨ (∃ a b, k = 3 ∧ xs = [a, b] ∧ formT a = true ∧ formT b = true) ∨ ∃ a, k = 4 ∧ xs = [a] ∧ formT a = true := by
  rw [formT] at h
  simp only [Bool.and_eq_true, shB] at h
  obtain ⟨h1, h2⟩ := h
  split at h2
  · rename_i e
    have h3 : xs.length = 0 := by have := of_decide_eq_true h2; omega
    obtain rfl := List.eq_nil_of_length_eq_zero h3
    rcases e with e | e
    · exact .inl ⟨e, rfl⟩
    · exact .inr (.inl ⟨e, rfl⟩)
  · split at h2
    · rename_i e
      have h3 : xs.length = 2 := by have := of_decide_eq_true h2; omega
      match xs, h3 with
      | [a, b], _ =>
        simp only [formTs, Bool.and_eq_true, Bool.and_true] at h1
        exact .inr (.inr (.inl ⟨a, b, e, rfl, h1.1, h1.2⟩))
    · split at h2
      · rename_i e
        have h3 : xs.length = 1 := by have := of_decide_eq_true h2; omega
        match xs, h3 with
        | [a], _ =>
          simp only [formTs, Bool.and_true] at h1
          exact .inr (.inr (.inr ⟨a, e, rfl, h1⟩))
      · cases h2
theorem ch_b (c:UInt8):(⟨#[c]⟩:ByteArray)=bs [c]:=rfl
theorem tys_sz2 (a b:Ty):szL (tyC (.mk 3 [a,b]))=2+(szL (tyC a)+szL (tyC b)):=by simp [tyC,tysC,szL,szD,szL_append]
theorem tys_sz1 (a:Ty):szL (tyC (.mk 4 [a]))=1+szL (tyC a):=by simp [tyC,tysC,szL,szD]
theorem con_textS:∀ t:Ty,formT t=true→szL (tyC t)≤1000000000→Con Tryz.prog 295 [.ag (tyC t)] [.one (.str (bs (txT t)))]:=by
 refine Ty.ind fun k xs ih hf hz => ?_
 rcases form_cases hf with ⟨rfl,rfl⟩ | ⟨rfl,rfl⟩ | ⟨a,b,rfl,rfl,ha,hb⟩ | ⟨a,rfl,rfl,ha⟩
 ·refine con_run Tryz.func295 rfl rfl (by simp [Tryz.ntmps295]) ?_
  refine byP (fc tyC.eq_1 (fc tysC.eq_1 (fc txT.eq_1 (fc Tryz.ntmps295 Tryz.results295)))) ?_
  rfl
 ·refine con_run Tryz.func295 rfl rfl (by simp [Tryz.ntmps295]) ?_
  refine byP (fc tyC.eq_1 (fc tysC.eq_1 (fc txT.eq_1 (fc Tryz.ntmps295 Tryz.results295)))) ?_
  rfl
 ·rw [tys_sz2] at hz
  have h1:=ih a (by simp) ha (by omega)
  have h2:=ih b (by simp) hb (by omega)
  have l1:=txT_len a
  have l2:=txT_len b
  have l3:=szT_le a
  have l4:=szT_le b
  have r0:rowAt 2 (tysC [a,b]) 0=[.int a.kind,tysD a.args]:=by rw [tysC_row' [a,b] 0 (by simp),← tyC_eq];rfl
  have r1:rowAt 2 (tysC [a,b]) 1=[.int b.kind,tysD b.args]:=by rw [tysC_row' [a,b] 1 (by simp),← tyC_eq];rfl
  refine con_run Tryz.func295 rfl rfl (by simp [Tryz.ntmps295]) ?_
  refine byP (fc tyC.eq_1 Tryz.ntmps295) ?_
  refine sw_drawn (.cons 0 true (.cons 1 true (.cons 2 true (.cons 3 true (.cons 7 true (.cons 8 true (.cons 9 true (.cons 10 true (.cons 4 false (.cons 5 true (.cons 6 true (.cons 11 false (.cons 12 true (.cons 13 true (.cons 14 true (.nil)))))))))))))))) (by kernel_rfl) fQ_panic (by kernel_rfl) (sw_run 200 _ _ _ ?_)
  simp only [push_cast,↓reduceIte,Nat.reduceLT,Nat.reduceAdd,Nat.reduceEqDiff,Int.reduceLE,r0,r1]
  refine ⟨by omega,by omega, ?_⟩
  refine sw_callD (h1) rfl (aAs_ok ?_) ?_ (sw_run 200 _ _ _ ?_)
  ·exact byQ True.intro
  ·simp only [okR]
  refine byP (fc ch_b (fc bs_app bs_size)) ?_
  refine ⟨by (try simp only [List.length_append,List.length_cons,List.length_nil]);unfold maxLen;omega,by (try simp only [List.length_append,List.length_cons,List.length_nil]);unfold maxLen;omega, ?_⟩
  refine sw_callD (h2) rfl (aAs_ok ?_) ?_ (sw_run 200 _ _ _ ?_)
  ·exact byQ True.intro
  ·simp only [okR]
  refine byP (fc bs_app (fc bs_size (fc tx3 Tryz.results295))) ?_
  exact ⟨by (try simp only [List.length_append,List.length_cons,List.length_nil]);unfold maxLen;omega,by (try simp only [List.length_append,List.length_cons,List.length_nil]);unfold maxLen;omega⟩
 ·rw [tys_sz1] at hz
  have h1:=ih a (by simp) ha (by omega)
  have l1:=txT_len a
  have l3:=szT_le a
  have r0:rowAt 2 (tysC [a]) 0=[.int a.kind,tysD a.args]:=by rw [tysC_row' [a] 0 (by simp),← tyC_eq];rfl
  refine con_run Tryz.func295 rfl rfl (by simp [Tryz.ntmps295]) ?_
  simp only [push_cast,↓reduceIte,Nat.reduceLT,Nat.reduceAdd,Nat.reduceEqDiff,Int.reduceEq,tyC,r0,Tryz.ntmps295]
  refine ⟨by omega, ?_⟩
  refine sw_call (h1) rfl (aAs_ok ?_) ?_ (sw_run 200 _ _ _ ?_)
  ·exact byQ True.intro
  ·simp only [okR]
  refine byP (fc ch_b (fc bs_app (fc bs_size (fc tx4 Tryz.results295)))) ?_
  exact ⟨by (try simp only [List.length_append,List.length_cons,List.length_nil]);unfold maxLen;omega,by (try simp only [List.length_append,List.length_cons,List.length_nil]);unfold maxLen;omega⟩
def tyR (t:Ty):RD:=.ag [.o (.int t.kind),.o (.rows 2 t.args.length (tysC t.args))]
def tyI' (zs:List Int) (m:Nat) (x:Ty × Nat × Int):Prop:=szL (tyC x.1)≤m∧x.2.1≤zs.length
def tyO (zs:List Int) (x:Ty × Nat × Int):List (List CD):=[curA zs x.2.1 x.2.2]
def tyA (t:Ty):RD:=.ag [.o (.int t.kind),.a 26 (.rows 2 t.args.length (tysC t.args))]
def tyRs (x:Ty × Nat × Int):List RD:=[tyA x.1]
theorem con_l3FunA (a b:Ty) (ha:szL (tyC a)≤1000000000) (hb:szL (tyC b)≤1000000000):ConP Tryz.prog 204 [.b (.ag (tyC a)),.b (.ag (tyC b))] [] [tyA (.mk 3 [a,b])]:=by
 refine con_runP Tryz.func204 rfl rfl (by simp [Tryz.ntmps204]) rfl ?_
 refine byP Tryz.ntmps204 ?_
 refine sw_drawn (.cons 0 true (.cons 2 true (.cons 1 false (.cons 3 false (.cons 4 false (.cons 5 true (.cons 6 false (.nil)))))))) (by kernel_rfl) fQP_panic (by kernel_rfl) (sw_run 200 _ _ _ ?_)
 refine byQ ?_
 refine sw_callD (con_l3Copy a ha) rfl (aAs_ok ?_) ?_ (sw_run 200 _ _ _ ?_)
 ·exact byQ True.intro
 ·simp only [okR]
 refine byQ ?_
 refine sw_callD (con_l3Copy b hb) rfl (aAs_ok ?_) ?_ (sw_run 200 _ _ _ ?_)
 ·exact byQ True.intro
 ·simp only [okR]
 simp only [push_cast,fQP,xRetP,rRs,rOs,rC,rCs,eRs,eOs,eC,eCs,↓reduceIte,Nat.reduceLT,Nat.reduceAdd,Nat.reduceMul,Nat.reduceLeDiff,Nat.reduceEqDiff,reduceCtorEq,tyC_eq,tyA,Ty.kind,Ty.args,tysC,Tryz.results204]
theorem con_l3CodeA (a:Ty) (ha:szL (tyC a)≤1000000000):ConP Tryz.prog 203 [.b (.ag (tyC a))] [] [tyA (.mk 4 [a])]:=by
 refine con_runP Tryz.func203 rfl rfl (by simp [Tryz.ntmps203]) rfl ?_
 refine byP Tryz.ntmps203 ?_
 refine sw_call (con_l3Copy a ha) rfl (aAs_ok ?_) ?_ (sw_run 200 _ _ _ ?_)
 ·exact byQ True.intro
 ·simp only [okR]
 simp only [push_cast,fQP,xRetP,rRs,rOs,rC,rCs,eRs,eOs,eC,eCs,↓reduceIte,Nat.reduceLT,Nat.reduceAdd,Nat.reduceLeDiff,Nat.reduceEqDiff,reduceCtorEq,tyC_eq,tyA,Ty.kind,Ty.args,tysC,Tryz.results203]
theorem con_l3Draw (zs : List Int) (hz : BytOk zs) : ∀ (d : Nat), 1 ≤ d → d ≤ 10 → ∀ (i : Nat), i ≤ zs.length → ∀ (h : Int), ConX Tryz.prog 222 [.p (curA zs i h), .b (.one (.int d))] (tyI' zs (2 ^ d - 2)) (tyO zs) tyRs
  | 0, h1, _, _, _, _ => absurd h1 (by decide)
  | d + 1, _, hd, i, hi, h => by
    refine con_runX Tryz.func222 rfl rfl (by simp [Tryz.ntmps222]) (fun _ _ => rfl) ?_
    have hP := fun i hi h => con_PickInt zs hz [1, 1, 2] (by decide) (by decide) i hi h
    have hO := fun i hi h => con_Once zs hz 2 (by decide) (by decide) i hi h
    have hfin : ∀ (v : Int) (i' : Nat) (h' : Int), i' ≤ zs.length → tyI' zs (2 ^ (d + 1) - 2) (.mk v [], i', h') := fun v i' h' hi' => ⟨Nat.le_trans (show szL (tyC (.mk v [])) ≤ 0 from Nat.le_refl _) (Nat.zero_le _), hi'⟩
    by_cases hd1 : d = 0
    · subst hd1
      have hc : ((1 : Nat) : Int) < 2 := by decide
      refine byP (fc curA.eq_1 (fc bytD.eq_1 Tryz.ntmps222)) ?_
      refine sw_fzE 2 rfl ?_
      refine sw_callXR (hP i hi h) rfl rfl rfl ?_ ?_ ?_ ?_
      · exact byP (fc curA.eq_1 bytD.eq_1) True.intro
      · exact byP (fc curA.eq_1 bytD.eq_1) True.intro
      · exact byP (fc curA.eq_1 bytD.eq_1) True.intro
      rintro ⟨v, i', h'⟩ ⟨hv, hi'⟩
      simp only at hv hi'
      refine sw_run 200 _ _ _ ?_
      refine byP (fc curO.eq_1 (fc curA.eq_1 (fc curR.eq_1 bytD.eq_1))) ?_
      refine ⟨.inl rfl, (.mk v [], i', h'), hfin _ _ _ hi', ?_⟩
      exact byP (fc tyO.eq_1 (fc curA.eq_1 (fc tyRs.eq_1 (fc tyA.eq_1 (fc bytD.eq_1 (fc Ty.kind.eq_1 (fc Ty.args.eq_1 (fc tysC.eq_1 Tryz.results222)))))))) True.intro
    · have hc : ¬ (d : Int) + 1 < 2 := by omega
      have hs : (d : Int) + 1 - 1 = (d : Int) := by omega
      have hin : inI (d : Int) := by unfold inI; omega
      have ih := fun i hi h => con_l3Draw zs hz d (by omega) (by omega) i hi h
      have hp : 2 ≤ 2 ^ d := by
        obtain ⟨e, rfl⟩ : ∃ e, d = e + 1 := ⟨d - 1, by omega⟩
        rw [Nat.pow_succ]; have := Nat.one_le_two_pow (n := e); omega
      have hp2 : 2 ^ (d + 1) = 2 * 2 ^ d := by rw [Nat.pow_succ]; omega
      have hp3 : 2 ^ d ≤ 1024 := Nat.le_trans (Nat.pow_le_pow_right (by decide) (show d ≤ 10 by omega)) (by decide)
      refine byP (fc curA.eq_1 (fc bytD.eq_1 (fc hc Tryz.ntmps222))) ?_
      refine sw_callXR (hO i hi h) rfl rfl rfl ?_ ?_ ?_ ?_
      · exact byP (fc curA.eq_1 bytD.eq_1) True.intro
      · exact byP (fc curA.eq_1 bytD.eq_1) True.intro
      · exact byP (fc curA.eq_1 bytD.eq_1) True.intro
      rintro ⟨b1, i1, h1⟩ hi1
      have hi1' : i1 ≤ zs.length := hi1
      refine sw_run 200 _ _ _ ?_
      cases b1
      case true =>
        refine byP (fc bitO.eq_1 (fc curA.eq_1 (fc bitR.eq_1 bytD.eq_1))) ?_
        refine sw_fzE 2 rfl ?_
        refine sw_callXR (hP i1 hi1' h1) rfl rfl rfl ?_ ?_ ?_ ?_
        · exact byP (fc curA.eq_1 bytD.eq_1) True.intro
        · exact byP (fc curA.eq_1 bytD.eq_1) True.intro
        · exact byP (fc curA.eq_1 bytD.eq_1) True.intro
        rintro ⟨v, i', h'⟩ ⟨hv, hi'⟩
        simp only at hv hi'
        refine sw_run 200 _ _ _ ?_
        refine byP (fc curO.eq_1 (fc curA.eq_1 (fc curR.eq_1 bytD.eq_1))) ?_
        refine ⟨.inl rfl, (.mk v [], i', h'), hfin _ _ _ hi', ?_⟩
        exact byP (fc tyO.eq_1 (fc curA.eq_1 (fc tyRs.eq_1 (fc tyA.eq_1 (fc bytD.eq_1 (fc Ty.kind.eq_1 (fc Ty.args.eq_1 (fc tysC.eq_1 Tryz.results222)))))))) True.intro
      case false =>
        refine byP (fc bitO.eq_1 (fc curA.eq_1 (fc bitR.eq_1 bytD.eq_1))) ?_
        refine sw_callXR (hO i1 hi1' h1) rfl rfl rfl ?_ ?_ ?_ ?_
        · exact byP (fc curA.eq_1 bytD.eq_1) True.intro
        · exact byP (fc curA.eq_1 bytD.eq_1) True.intro
        · exact byP (fc curA.eq_1 bytD.eq_1) True.intro
        rintro ⟨b2, i2, h2⟩ hi2
        have hi2' : i2 ≤ zs.length := hi2
        refine sw_run 200 _ _ _ ?_
        cases b2
        case true =>
          refine byP (fc bitO.eq_1 (fc curA.eq_1 (fc bitR.eq_1 (fc bytD.eq_1 (fc hs hin))))) ?_
          refine sw_callXR (ih i2 hi2' h2) rfl rfl rfl ?_ ?_ ?_ ?_
          · exact byP (fc curA.eq_1 bytD.eq_1) True.intro
          · exact byP (fc curA.eq_1 bytD.eq_1) True.intro
          · exact byP (fc curA.eq_1 bytD.eq_1) True.intro
          rintro ⟨t, i3, h3⟩ ⟨ht, hi3⟩
          simp only at ht hi3
          refine sw_run 200 _ _ _ ?_
          refine byP (fc tyO.eq_1 (fc curA.eq_1 (fc tyRs.eq_1 (fc tyA.eq_1 bytD.eq_1)))) ?_
          refine sw_callP (con_l3CodeA t (by omega)) rfl rfl rfl rfl ?_ ?_ ?_ (sw_run 200 _ _ _ ?_)
          · exact byQ True.intro
          · exact byQ True.intro
          · exact byQ True.intro
          refine byP (fc tyA.eq_1 (fc Ty.kind.eq_1 Ty.args.eq_1)) ?_
          refine ⟨.inl rfl, (.mk 4 [t], i3, h3), ⟨by rw [sz_one]; omega, hi3⟩, ?_⟩
          exact byP (fc tyO.eq_1 (fc curA.eq_1 (fc tyRs.eq_1 (fc tyA.eq_1 (fc bytD.eq_1 (fc Ty.kind.eq_1 (fc Ty.args.eq_1 Tryz.results222))))))) True.intro
        case false =>
          refine byP (fc bitO.eq_1 (fc curA.eq_1 (fc bitR.eq_1 (fc bytD.eq_1 (fc hs hin))))) ?_
          refine sw_callXR (ih i2 hi2' h2) rfl rfl rfl ?_ ?_ ?_ ?_
          · exact byP (fc curA.eq_1 bytD.eq_1) True.intro
          · exact byP (fc curA.eq_1 bytD.eq_1) True.intro
          · exact byP (fc curA.eq_1 bytD.eq_1) True.intro
          rintro ⟨a, i3, h3⟩ ⟨ha, hi3⟩
          simp only at ha hi3
          refine sw_run 200 _ _ _ ?_
          refine byP (fc tyO.eq_1 (fc curA.eq_1 (fc tyRs.eq_1 (fc tyA.eq_1 bytD.eq_1)))) ?_
          refine sw_drawn (.cons 1 true (.cons 2 true (.cons 3 true (.fork (.alt 0 (.cons 4 false (.cons 5 false (.cons 6 false (.nil)))) (.alt 4 (.cons 0 true (.cons 5 false (.cons 6 false (.nil)))) (.last))))))) (by kernel_rfl) fQX_panic (by kernel_rfl) (sw_run 200 _ _ _ ?_)
          refine byP (fc hs hin) ?_
          (try repeat' (with_reducible apply And.intro))
          all_goals
            refine sw_callDXR (ih i3 hi3 h3) rfl rfl rfl ?_ ?_ ?_ rfl ?_
            · exact byP (fc curA.eq_1 bytD.eq_1) True.intro
            · exact byP (fc curA.eq_1 bytD.eq_1) True.intro
            · exact byP (fc curA.eq_1 bytD.eq_1) True.intro
            rintro ⟨b, i4, h4⟩ ⟨hb, hi4⟩
            simp only at hb hi4
            refine sw_run 200 _ _ _ ?_
            refine byP (fc tyO.eq_1 (fc curA.eq_1 (fc tyRs.eq_1 (fc tyA.eq_1 bytD.eq_1)))) ?_
            refine sw_callDXB (conX_P (con_l3FunA a b (by omega) (by omega))) rfl rfl rfl (fun _ _ => rfl) ?_ ?_
            · exact byQ True.intro
            rintro _ _
            refine sw_run 200 _ _ _ ?_
            refine byP (fc tyA.eq_1 (fc Ty.kind.eq_1 Ty.args.eq_1)) ?_
            refine ⟨.inl rfl, (.mk 3 [a, b], i4, h4), ⟨by rw [sz_two]; omega, hi4⟩, ?_⟩
            exact byP (fc tyO.eq_1 (fc curA.eq_1 (fc tyRs.eq_1 (fc tyA.eq_1 (fc bytD.eq_1 (fc Ty.kind.eq_1 (fc Ty.args.eq_1 Tryz.results222))))))) True.intro
def tyRo (x:Ty × Nat × Int):List RD:=[tyR x.1]
theorem con_l3Bent (zs:List Int) (hz:BytOk zs) (i:Nat) (hi:i≤zs.length) (h:Int):ConX Tryz.prog 146 [.p (curA zs i h)] (tyI' zs 200) (tyO zs) tyRo:=by
 refine con_runX Tryz.func146 rfl rfl (by simp [Tryz.ntmps146]) (fun _ _=>rfl) ?_
 have hB:=fun n hn hn2 i hi h=>con_Below zs hz n hn hn2 i hi h
 simp only [push_cast,s0P,mkPs,mkPA,mkC,↓reduceIte,Nat.reduceLT,Nat.reduceAdd,reduceCtorEq,curA,bytD,Tryz.ntmps146]
 have hD:ConX Tryz.prog 222 [.p (curA zs i h),.b (.one (.int 4))] (tyI' zs 14) (tyO zs) tyRs:=con_l3Draw zs hz 4 (by decide) (by decide) i hi h
 refine sw_callXR (hD) rfl rfl rfl ?_ ?_ ?_ ?_
 ·simp only [push_cast,rC,rCs,AS.em,mPs,mP,aA,aD,↓reduceIte,reduceCtorEq,curA,bytD]
 ·simp only [push_cast,eC,eCs,ePs,eP,↓reduceIte,reduceCtorEq,curA,bytD]
 ·simp only [push_cast,bPs,bP,↓reduceIte,curA,bytD]
 rintro ⟨t,i1,h1⟩ ⟨ht,hi1⟩
 simp only at ht hi1
 have ht':=ht
 refine sw_run 200 _ _ _ ?_
 simp only [push_cast,mkC,eC,eCs,aftS,aftV,AS.kb,rmBs,rmB,mkO,packRA,flatR,ePs,eP,bPs,bP,↓reduceIte,Nat.reduceLT,Nat.reduceAdd,Nat.reduceEqDiff,reduceCtorEq,tyO,curA,tyRs,tyA,bytD]
 refine sw_callXR (hB 10 (by decide) (by decide) i1 hi1 h1) rfl rfl rfl ?_ ?_ ?_ ?_
 ·simp only [push_cast,rC,rCs,AS.em,mPs,mP,aA,aD,↓reduceIte,reduceCtorEq,curA,bytD]
 ·simp only [push_cast,eC,eCs,ePs,eP,↓reduceIte,reduceCtorEq,curA,bytD]
 ·simp only [push_cast,bPs,bP,↓reduceIte,curA,bytD]
 rintro ⟨v,i2,h2⟩ ⟨hv,hi2⟩
 simp only at hv hi2
 refine sw_run 200 _ _ _ ?_
 by_cases v0:v=0
 ·simp only [push_cast,mkC,eC,eCs,aftS,aftV,AS.kb,rmBs,rmB,mkO,packRA,flatR,ePs,eP,bPs,bP,↓reduceIte,Nat.reduceLT,reduceCtorEq,curO,curA,curR,bytD,eq_true v0]
  refine sw_callXR (hB 6 (by decide) (by decide) i2 hi2 h2) rfl rfl rfl ?_ ?_ ?_ ?_
  ·simp only [push_cast,rC,rCs,AS.em,mPs,mP,aA,aD,↓reduceIte,curA,bytD]
  ·simp only [push_cast,eC,eCs,ePs,eP,↓reduceIte,curA,bytD]
  ·simp only [push_cast,bPs,bP,↓reduceIte,curA,bytD]
  rintro ⟨k,i3,h3⟩ ⟨hk,hi3⟩
  simp only at hk hi3
  refine sw_run 200 _ _ _ ?_
  simp only [push_cast,mkC,eC,eCs,aftS,aftV,AS.kb,rmBs,rmB,mkO,packRA,flatR,ePs,eP,bPs,bP,↓reduceIte,Nat.reduceLT,Nat.reduceAdd,Nat.reduceLeDiff,Nat.reduceEqDiff,curO,curA,curR,bytD]
  refine ⟨.inl rfl,(.mk k t.args,i3,h3),⟨?_,hi3⟩, ?_⟩
  ·obtain ⟨tk,ta⟩:=t
   exact Nat.le_trans ht' (by decide)
  ·simp only [push_cast,xRetP,rRs,rOs,rC,rCs,eRs,eOs,eC,eCs,aD,↓reduceIte,Nat.reduceAdd,Nat.reduceEqDiff,reduceCtorEq,tyO,curA,tyRo,tyR,bytD,tyk,tya,Tryz.results146]
 by_cases v1:v=1
 ·simp only [push_cast,mkC,eC,eCs,aftS,aftV,AS.kb,rmBs,rmB,mkO,packRA,flatR,ePs,eP,bPs,bP,↓reduceIte,Nat.reduceLT,Nat.reduceEqDiff,reduceCtorEq,curO,curA,curR,bytD,v0,eq_true v1]
  refine sw_drawn (.cons 0 true (.cons 1 true (.cons 2 false (.cons 3 false (.cons 4 false (.cons 5 true (.cons 6 false (.nil)))))))) (by kernel_rfl) fQX_panic (by kernel_rfl) (sw_run 200 _ _ _ ?_)
  simp only [push_cast,↓reduceIte,Nat.reduceLT,Nat.reduceEqDiff]
  refine sw_callD con_l3Int rfl (aAs_ok ?_) ?_ (sw_run 200 _ _ _ ?_)
  ·simp only [push_cast,aAs]
  ·simp only [okR]
  simp only [push_cast,↓reduceIte,Nat.reduceLT,Nat.reduceAdd,Nat.reduceLeDiff,Nat.reduceEqDiff,tyC_eq,tyk,tya,tysC,List.length_nil]
  have hlen:t.args.length≤14:=by
   obtain ⟨tk,ta⟩:=t
   simp only [tyC,szL,szD] at ht'
   show ta.length≤14
   omega
  have hone:tysC [Ty.mk 1 []]=[D.int 1,D.rows 2 0 []]:=rfl
  refine ⟨⟨fun o ho=>by omega,by unfold maxLen;omega,by omega⟩,.inl rfl,(.mk t.kind (t.args++[.mk 1 []]),i2,h2),⟨?_,hi2⟩, ?_⟩
  ·obtain ⟨tk,ta⟩:=t
   simp only [tyC,szL,szD] at ht'
   simp only [tyk,tya,tyC,tysC_append,hone,szL,szD,szL_append,List.length_append,List.length_cons,List.length_nil]
   omega
  ·simp only [push_cast,xRetP,rRs,rOs,rC,rCs,eRs,eOs,eC,eCs,aD,↓reduceIte,Nat.reduceAdd,Nat.reduceEqDiff,reduceCtorEq,tyO,curA,tyRo,tyR,bytD,tyk,tya,tysC_append,hone,List.length_append,Tryz.results146]
 by_cases v2:v=2
 ·simp only [push_cast,mkC,eC,eCs,aftS,aftV,AS.kb,rmBs,rmB,mkO,packRA,flatR,ePs,eP,bPs,bP,↓reduceIte,Nat.reduceLT,Nat.reduceEqDiff,reduceCtorEq,curO,curA,curR,bytD,v0,v1,eq_true v2]
  refine sw_callXR (hB 6 (by decide) (by decide) i2 hi2 h2) rfl rfl rfl ?_ ?_ ?_ ?_
  ·simp only [push_cast,rC,rCs,AS.em,mPs,mP,aA,aD,↓reduceIte,curA,bytD]
  ·simp only [push_cast,eC,eCs,ePs,eP,↓reduceIte,curA,bytD]
  ·simp only [push_cast,bPs,bP,↓reduceIte,curA,bytD]
  rintro ⟨n,i3,h3⟩ ⟨hn,hi3⟩
  simp only at hn hi3
  have hin:inI (1+n):=by unfold inI;omega
  refine sw_run 200 _ _ _ ?_
  simp only [push_cast,mkC,eC,eCs,aftS,aftV,AS.kb,rmBs,rmB,mkO,packRA,flatR,ePs,eP,bPs,bP,↓reduceIte,Nat.reduceLT,curO,curA,curR,bytD,hin]
  refine sw_loop (fun x:Ty × Nat=>szL (tyC x.1)≤14+x.2∧x.2≤6∧(x.2:Int)≤1+n) (fun x=>⟨46,[(5,.i x.2),(4,.i (1+n)),(3,.bx 3 0),(2,.bx 1 0),(0,.bx 0 0)],[(0,[.br (.rows 1 zs.length (zs.map D.byt)),.i i3,.i h3]),(1,[.i 0,.nl 2]),(3,[.i x.1.kind,.sl 2])],[(2,some ⟨.rows 2 x.1.args.length (tysC x.1.args),some 26,true⟩)],4,[0]⟩) (fun x=>7-x.2) (t,0) id ?_ ?_ ?_
  ·exact ⟨by simp only;omega,by simp only;omega,by simp only;omega⟩
  ·simp only [push_cast,Sub,subT,subB,subO,subP,inj,AV.ren,AV.rens,AV.lt,AV.lts,↓reduceIte,Nat.reduceLT,Nat.reduceEqDiff,reduceCtorEq]
  ·rintro ⟨u,k⟩ hI
   simp only at hI
   refine sw_run 200 _ _ _ ?_
   by_cases hlt:(k:Int)<1+n
   ·have hin2:inI ((k:Int)+1):=by unfold inI;omega
    simp only [push_cast,↓reduceIte,Nat.reduceLT,Nat.reduceAdd,Nat.reduceEqDiff,hlt]
    refine sw_callP (con_l3CodeA u (by omega)) rfl rfl rfl rfl ?_ ?_ ?_ (sw_run 200 _ _ _ ?_)
    ·simp only [push_cast,AS.kb,rmBs,mPs,mP,ePs,eP,bPs,bP,aA,aDs,aD,↓reduceIte,tyC_eq]
    ·simp only [push_cast,ePs,eP,↓reduceIte,tyC_eq]
    ·simp only [push_cast,bPs,bP,↓reduceIte,tyC_eq]
    simp only [push_cast,mkC,aftS,aftV,AS.kb,rmBs,mkO,packRA,flatR,ePs,eP,bPs,bP,↓reduceIte,Nat.reduceLT,Nat.reduceAdd,Nat.reduceEqDiff,tyA,tyk,tya,hin2]
    refine ⟨(.mk 4 [u],k+1),rnL [(0,0),(1,1),(2,4),(3,3)],⟨by rw [sz_one];omega,by simp only;omega,by simp only;omega⟩,by simp only;omega, ?_⟩
    simp only [push_cast,Sub,subT,subB,subO,subP,inj,AV.ren,AV.rens,AV.lt,AV.lts,↓reduceIte,Nat.reduceLT,Nat.reduceEqDiff,reduceCtorEq,rnL,cast1,tyk,tya]
   ·simp only [push_cast,↓reduceIte,Nat.reduceLT,Nat.reduceEqDiff,hlt]
    refine sw_run 200 _ _ _ ?_
    simp only [push_cast,↓reduceIte,Nat.reduceLT,Nat.reduceAdd,Nat.reduceEqDiff]
    refine ⟨.inl rfl,(u,i3,h3),⟨by simp only;omega,hi3⟩, ?_⟩
    simp only [push_cast,xRetP,rRs,rOs,rC,rCs,eRs,eOs,eC,eCs,aD,↓reduceIte,Nat.reduceAdd,Nat.reduceEqDiff,reduceCtorEq,tyO,curA,tyRo,tyR,bytD,Tryz.results146]
 by_cases v3:v=3
 ·simp only [push_cast,mkC,eC,eCs,aftS,aftV,AS.kb,rmBs,rmB,mkO,packRA,flatR,ePs,eP,bPs,bP,↓reduceIte,Nat.reduceLT,Nat.reduceEqDiff,reduceCtorEq,curO,curA,curR,bytD,v0,v1,v2,eq_true v3]
  refine sw_loop (fun x:Ty × Nat=>szL (tyC x.1)+2≤16 * 2 ^ x.2∧x.2≤3) (fun x=>⟨46,[(6,.i x.2),(3,.bx 3 0),(2,.bx 1 0),(0,.bx 0 0)],[(0,[.br (.rows 1 zs.length (zs.map D.byt)),.i i2,.i h2]),(1,[.i 0,.nl 2]),(3,[.i x.1.kind,.sl 2])],[(2,some ⟨.rows 2 x.1.args.length (tysC x.1.args),some 26,true⟩)],4,[0]⟩) (fun x=>4-x.2) (t,0) id ?_ ?_ ?_
  ·exact ⟨by simp only;omega,by simp only;omega⟩
  ·simp only [push_cast,Sub,subT,subB,subO,subP,inj,AV.ren,AV.rens,AV.lt,AV.lts,↓reduceIte,Nat.reduceLT,Nat.reduceEqDiff,reduceCtorEq]
  ·rintro ⟨u,k⟩ hI
   simp only at hI
   refine sw_run 200 _ _ _ ?_
   by_cases hlt:(k:Int)<3
   ·have hin2:inI ((k:Int)+1):=by unfold inI;omega
    have hp:2 ^ k≤8:=Nat.le_trans (Nat.pow_le_pow_right (by decide) (show k≤3 by omega)) (by decide)
    simp only [push_cast,↓reduceIte,Nat.reduceLT,Nat.reduceAdd,Nat.reduceEqDiff,hlt]
    refine sw_callP (con_l3FunA u u (by omega) (by omega)) rfl rfl rfl rfl ?_ ?_ ?_ (sw_run 200 _ _ _ ?_)
    ·simp only [push_cast,AS.kb,rmBs,mPs,mP,ePs,eP,bPs,bP,aA,aDs,aD,↓reduceIte,Nat.reduceEqDiff,tyC_eq]
    ·simp only [push_cast,ePs,eP,↓reduceIte,Nat.reduceEqDiff,tyC_eq]
    ·simp only [push_cast,bPs,bP,↓reduceIte,Nat.reduceEqDiff,tyC_eq]
    simp only [push_cast,mkC,aftS,aftV,AS.kb,rmBs,mkO,packRA,flatR,ePs,eP,bPs,bP,↓reduceIte,Nat.reduceLT,Nat.reduceAdd,Nat.reduceEqDiff,tyA,tyk,tya,hin2]
    refine ⟨(.mk 3 [u,u],k+1),rnL [(0,0),(1,1),(2,4),(3,3)],⟨by rw [sz_two,Nat.pow_succ];omega,by simp only;omega⟩,by simp only;omega, ?_⟩
    simp only [push_cast,Sub,subT,subB,subO,subP,inj,AV.ren,AV.rens,AV.lt,AV.lts,↓reduceIte,Nat.reduceLT,Nat.reduceAdd,Nat.reduceEqDiff,reduceCtorEq,rnL,cast1,tyk,tya]
   ·have hp:2 ^ k≤8:=Nat.le_trans (Nat.pow_le_pow_right (by decide) (show k≤3 by omega)) (by decide)
    simp only [push_cast,↓reduceIte,Nat.reduceLT,hlt]
    refine sw_run 200 _ _ _ ?_
    simp only [push_cast,↓reduceIte,Nat.reduceLT,Nat.reduceAdd,Nat.reduceEqDiff]
    refine ⟨.inl rfl,(u,i2,h2),⟨by simp only;omega,hi2⟩, ?_⟩
    simp only [push_cast,xRetP,rRs,rOs,rC,rCs,eRs,eOs,eC,eCs,aD,↓reduceIte,Nat.reduceAdd,Nat.reduceEqDiff,reduceCtorEq,tyO,curA,tyRo,tyR,bytD,Tryz.results146]
 ·simp only [push_cast,mkC,eC,eCs,aftS,aftV,AS.kb,rmBs,rmB,mkO,packRA,flatR,ePs,eP,bPs,bP,↓reduceIte,Nat.reduceLT,Nat.reduceAdd,Nat.reduceEqDiff,reduceCtorEq,curO,curA,curR,bytD,v0,v1,v2,v3]
  refine ⟨.inl rfl,(t,i2,h2),⟨Nat.le_trans ht' (by decide),hi2⟩, ?_⟩
  simp only [push_cast,xRetP,rRs,rOs,rC,rCs,eRs,eOs,eC,eCs,aD,↓reduceIte,Nat.reduceAdd,Nat.reduceEqDiff,reduceCtorEq,tyO,curA,tyRo,tyR,bytD,Tryz.results146]
end Go.Proofs.YtaidalilfmjfgaaGreat
