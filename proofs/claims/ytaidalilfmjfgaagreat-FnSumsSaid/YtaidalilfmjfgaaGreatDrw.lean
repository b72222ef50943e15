import Derived.Test.YtaidalilfmjfgaaGreatCox
import Derived.Test.YtaidalilfmjfgaaGreatDat
import Derived.Test.YtaidalilfmjfgaaGreatTd
import Derived.Test.YtaidalilfmjfgaaGreatBy
namespace Go.Proofs.YtaidalilfmjfgaaGreat
open Go.RowKit
set_option linter.unusedVariables false
set_option linter.unusedSimpArgs false
set_option maxRecDepth 20000
theorem andI_rng (x:Int) (m:Nat) (hm:m<2 ^ 62):0≤andI x (m:Int)∧andI x (m:Int)≤m:=by
 unfold andI
 have h1:(BitVec.ofInt IntKind.i64.bits x &&& BitVec.ofInt IntKind.i64.bits (m:Int)).toNat≤m:=by
  rw [BitVec.toNat_and]
  refine Nat.le_trans Nat.and_le_right ?_
  rw [BitVec.toNat_ofInt]
  have:(m:Int) % ((2 ^ IntKind.i64.bits:Nat):Int)=m:=Int.emod_eq_of_lt (by omega) (by
   have:IntKind.i64.bits=64:=rfl
   rw [this];omega)
  rw [this];omega
 have h2:inI ((BitVec.ofInt IntKind.i64.bits x &&& BitVec.ofInt IntKind.i64.bits (m:Int)).toNat:Int):=by unfold inI;omega
 rw [wrap_in h2]
 omega
theorem byt_row (zs:List Int) (k:Nat) (h:k<zs.length):rowAt 1 (zs.map D.byt) k=[.byt zs[k]!]:=by
 unfold rowAt
 rw [Nat.mul_one,List.drop_eq_getElem_cons (by simpa using h),List.take_succ_cons,List.take_zero,getElem!_pos zs k h]
 simp
def curA (zs:List Int) (i:Nat) (h:Int):List CD:=[.r (bytD zs),.o (.int i),.o (.int h)]
theorem con_New:NewC Tryz.prog 55:=by
 refine new_of (t:=2) Tryz.func55 rfl rfl (by simp [Tryz.ntmps55]) rfl fun zs hl hz=>XW_of_SW (sw_run 200 _ _ _ ?_)
 have hi0:inI (26583+(zs.length:Int)):=by unfold inI;omega
 refine byP (fc bytD.eq_1 (fc hi0 Tryz.ntmps55)) ?_
 refine sw_loop (fun x:Nat × Int=>x.1≤zs.length∧0≤x.2∧x.2≤2000000000) (fun x=>⟨32,[(4,.i x.1),(3,.i x.2),(0,.br (.rows 1 zs.length (zs.map D.byt)))],[],[],0,[]⟩) (fun x=>zs.length-x.1) (0,26583+(zs.length:Int)) id ⟨Nat.zero_le _,by omega,by omega⟩ ?_ ?_
 ·exact byQ True.intro
 rintro ⟨k,h⟩ ⟨hk,hh1,hh2⟩
 simp only at hk hh1 hh2
 refine sw_run 200 _ _ _ ?_
 by_cases hlt:k<zs.length
 case neg =>
  have hi:¬ (k:Int)<(zs.length:Int):=by omega
  refine byP hi ?_
  refine sw_run 200 _ _ _ ?_
  refine byQ ?_
  exact ⟨0,h,rfl,rfl⟩
 have hi:(k:Int)<(zs.length:Int):=by omega
 by_cases h4:(k:Int)<4000
 case neg =>
  refine byP (fc (eq_true hi) h4) ?_
  refine sw_run 200 _ _ _ ?_
  refine byQ ?_
  exact ⟨0,h,rfl,rfl⟩
 have hR:=byt_row zs k hlt
 have hb:=hz zs[k]! (mem_bang hlt)
 generalize zs[k]! = z at *
 have i1:inI (h * 131):=by unfold inI;omega
 have i2:inI (h * 131+z):=by unfold inI;omega
 have i3:inI (h * 131+z+7):=by unfold inI;omega
 have i4:inI z:=by unfold inI;omega
 have i5:inI ((k:Int)+1):=by unfold inI;omega
 have hr:=andI_rng (h * 131+z+7) 1073741823 (by decide)
 rw [show ((1073741823:Nat):Int)=1073741823 from rfl] at hr
 refine byP (fc (eq_true hi) (fc (eq_true h4) (fc hR (fc i1 (fc i2 (fc i3 (fc i4 i5))))))) ?_
 generalize andI (h * 131+z+7) 1073741823=h' at *
 refine ⟨by kernel_rfl,(k+1,h'),id,⟨by simp only;omega,by simp only;omega,by simp only;omega⟩,by simp only;omega, ?_⟩
 exact byQ True.intro
def CurI (zs:List Int) (m:Int) (x:Int × Nat × Int):Prop:=(0≤x.1∧x.1≤m)∧x.2.1≤zs.length
def curO (zs:List Int) (x:Int × Nat × Int):List (List CD):=[curA zs x.2.1 x.2.2]
def curR (x:Int × Nat × Int):List RD:=[.one (.o (.int x.1))]
def BytOk (zs:List Int):Prop:=zs.length≤1000000000∧∀ n ∈ zs,0≤n∧n<256
theorem con_Byte (zs:List Int) (hz:BytOk zs) (i:Nat) (hi:i≤zs.length) (h:Int):ConX Tryz.prog 171 [.p (curA zs i h)] (CurI zs 255) (curO zs) curR:=by
 obtain ⟨hl,hzs⟩:=hz
 refine con_ofX' Tryz.func171 rfl rfl (by simp [Tryz.ntmps171]) (fun _ _=>rfl) (sw_stop1 (sw_run 200 _ _ _ ?_))
 simp only [push_cast,s0P,mkPs,mkPA,mkC,↓reduceIte,Nat.reduceLT,curA,bytD,Tryz.ntmps171]
 refine sw_uncut (sw_stop1 (sw_head 5 _ _ _ ?_))
 simp only [xHead,true_and]
 refine sw_step 5 _ _ _ _ _ ?_
 simp only [push_cast,↓reduceIte,Nat.reduceLT,reduceCtorEq,xStep]
 refine sw_ex rfl (sw_wrap rfl rfl (.inr rfl) fun k1=>sw_ex rfl (sw_wrap rfl rfl (.inl rfl) fun k2=>sw_run 200 _ _ _ ?_))
 simp only [push_cast,↓reduceIte,Nat.reduceLT,Nat.reduceAdd,Nat.reduceEqDiff]
 refine sw_uncut (sw_run 200 _ _ _ ?_)
 simp only [push_cast,↓reduceIte]
 have hx:=andI_rng (xorI (k2.fdiv (2 ^ min 33 IntKind.i64.bits)) (k2.fdiv (2 ^ min 45 IntKind.i64.bits))) 255 (by decide)
 rw [show ((255:Nat):Int)=255 from rfl] at hx
 refine sw_drawnK (⟨58,[(3,.i (andI (xorI (k2.fdiv (2 ^ min 33 IntKind.i64.bits)) (k2.fdiv (2 ^ min 45 IntKind.i64.bits))) 255)),(0,.bx 0 0)],[(0,[.br (.rows 1 zs.length (zs.map D.byt)),.i i,.i k2])],[],1,[0]⟩) (.cons 0 true (.cons 5 true (.fork (.alt 1 (.cons 2 true (.cons 3 true (.cons 4 true (.cons 6 false (.cons 7 true (.cons 8 true (.cons 9 true (.cons 10 true (.cons 11 true (.cons 12 true (.nil))))))))))) (.alt 6 (.cons 7 true (.cons 8 true (.cons 9 true (.cons 1 false (.cons 2 true (.cons 3 true (.cons 4 true (.cons 10 true (.cons 11 true (.cons 12 true (.nil))))))))))) (.last)))))) (by kernel_rfl) (by kernel_rfl) (sw_run 200 _ _ _ ?_) (sw_run 200 _ _ _ ?_)
 ·simp only [push_cast,↓reduceIte,Nat.reduceLT,Nat.reduceEqDiff,reduceCtorEq,Int.reduceLE,Int.reduceToNat,Int.reduceLE,oc_int]
  (try repeat' (with_reducible apply And.intro))
  all_goals first
   | (refine ⟨rfl,id, ?_⟩;simp only [push_cast,Sub,subT,subB,subO,subP,inj,AV.ren,AV.rens,AV.lt,AV.lts,↓reduceIte,Nat.reduceLT,reduceCtorEq];done)
   | kernel_rfl
 generalize (andI (xorI (k2.fdiv (2 ^ min 33 IntKind.i64.bits)) (k2.fdiv (2 ^ min 45 IntKind.i64.bits))) 255)=x0 at *
 by_cases hlt:(i:Int)<(zs.length:Int)
 ·have hR:=byt_row zs i (by omega)
  have hb:=hzs zs[i]! (mem_bang (by omega))
  generalize zs[i]! = z at *
  have i2:inI (x0+z):=by unfold inI;omega
  have i4:inI z:=by unfold inI;omega
  have i5:inI ((i:Int)+1):=by unfold inI;omega
  have hr:=andI_rng (x0+z) 255 (by decide)
  rw [show ((255:Nat):Int)=255 from rfl] at hr
  simp only [push_cast,↓reduceIte]
  refine sw_drawnK (⟨58,[(34,.b true),(3,.i x0),(0,.bx 0 0)],[(0,[.br (.rows 1 zs.length (zs.map D.byt)),.i i,.i k2])],[],1,[0]⟩) (.cons 0 true (.cons 4 true (.fork (.alt 1 (.cons 2 true (.cons 3 true (.cons 5 false (.cons 6 true (.cons 7 true (.cons 8 true (.cons 9 true (.nil)))))))) (.alt 5 (.cons 6 true (.cons 7 true (.cons 8 true (.cons 1 false (.cons 2 true (.cons 3 true (.cons 9 true (.nil)))))))) (.last)))))) (by kernel_rfl) (by kernel_rfl) (sw_run 200 _ _ _ ?_) (sw_run 200 _ _ _ ?_)
  ·simp only [push_cast,↓reduceIte,Nat.reduceLT,Nat.reduceEqDiff,reduceCtorEq,eq_true hlt]
   (try repeat' (with_reducible apply And.intro))
   all_goals first
    | (refine ⟨rfl,id, ?_⟩;simp only [push_cast,Sub,subT,subB,subO,subP,inj,AV.ren,AV.rens,AV.lt,AV.lts,↓reduceIte,Nat.reduceLT,Nat.reduceEqDiff,reduceCtorEq];done)
    | kernel_rfl
  simp only [push_cast,↓reduceIte]
  refine sw_drawnK (⟨58,[(3,.i (andI (x0+z) 255)),(0,.bx 0 0)],[(0,[.br (.rows 1 zs.length (zs.map D.byt)),.i i,.i k2])],[],1,[0]⟩) (.cons 0 true (.cons 1 true (.cons 5 true (.fork (.alt 2 (.cons 3 true (.cons 4 true (.cons 6 false (.cons 7 true (.cons 8 true (.cons 9 true (.cons 10 true (.cons 11 true (.cons 12 true (.cons 13 true (.cons 14 true (.nil)))))))))))) (.alt 6 (.cons 7 true (.cons 8 true (.cons 2 false (.cons 3 true (.cons 4 true (.cons 9 true (.cons 10 true (.cons 11 true (.cons 12 true (.cons 13 true (.cons 14 true (.nil)))))))))))) (.last))))))) (by kernel_rfl) (by kernel_rfl) (sw_run 200 _ _ _ ?_) (sw_run 200 _ _ _ ?_)
  ·simp only [push_cast,↓reduceIte,Nat.reduceLT,Nat.reduceEqDiff,reduceCtorEq,hR,i2,i4,hlt]
   (try repeat' (with_reducible apply And.intro))
   all_goals first
    | (refine ⟨rfl,id, ?_⟩;simp only [push_cast,Sub,subT,subB,subO,subP,inj,AV.ren,AV.rens,AV.lt,AV.lts,↓reduceIte,Nat.reduceLT,reduceCtorEq];done)
    | kernel_rfl
  generalize andI (x0+z) 255=x1 at *
  simp only [push_cast,↓reduceIte,Nat.reduceLT,Nat.reduceAdd,Nat.reduceLeDiff,Nat.reduceEqDiff,reduceCtorEq,i5]
  refine ⟨.inl rfl,(x1,i+1,k2),⟨hr,by simp only;omega⟩, ?_⟩
  simp only [push_cast,xRetP,rRs,rOs,rC,rCs,eRs,eOs,eC,eCs,aD,↓reduceIte,curO,curA,curR,bytD,cast1,Tryz.results171]
 ·simp only [push_cast,↓reduceIte]
  refine sw_drawnK (⟨58,[(34,.b false),(3,.i x0),(0,.bx 0 0)],[(0,[.br (.rows 1 zs.length (zs.map D.byt)),.i i,.i k2])],[],1,[0]⟩) (.cons 0 true (.cons 4 true (.fork (.alt 1 (.cons 2 true (.cons 3 true (.cons 5 false (.cons 6 true (.cons 7 true (.cons 8 true (.cons 9 true (.nil)))))))) (.alt 5 (.cons 6 true (.cons 7 true (.cons 8 true (.cons 1 false (.cons 2 true (.cons 3 true (.cons 9 true (.nil)))))))) (.last)))))) (by kernel_rfl) (by kernel_rfl) (sw_run 200 _ _ _ ?_) (sw_run 200 _ _ _ ?_)
  ·simp only [push_cast,↓reduceIte,Nat.reduceLT,Nat.reduceEqDiff,reduceCtorEq,hlt]
   (try repeat' (with_reducible apply And.intro))
   all_goals first
    | (refine ⟨rfl,id, ?_⟩;simp only [push_cast,Sub,subT,subB,subO,subP,inj,AV.ren,AV.rens,AV.lt,AV.lts,↓reduceIte,Nat.reduceLT,Nat.reduceEqDiff,reduceCtorEq];done)
    | kernel_rfl
  simp only [push_cast,↓reduceIte,Nat.reduceLT,Nat.reduceEqDiff]
  refine ⟨.inl rfl,(x0,i,k2),⟨hx,hi⟩, ?_⟩
  simp only [push_cast,xRetP,rRs,rOs,rC,rCs,eRs,eOs,eC,eCs,aD,↓reduceIte,curO,curA,curR,bytD,Tryz.results171]
theorem emod_rng {x n:Int} (h:0<n) (h0:0≤x):0≤x.tmod n∧x.tmod n≤n-1:=⟨Int.tmod_nonneg _ h0,by have:=Int.tmod_lt_of_pos x h;omega⟩
theorem con_Below (zs:List Int) (hz:BytOk zs) (n:Int) (hn:0<n) (hn2:n≤1000000000) (i:Nat) (hi:i≤zs.length) (h:Int):ConX Tryz.prog 84 [.p (curA zs i h),.b (.one (.int n))] (CurI zs (n-1)) (curO zs) curR:=by
 have hB:=fun i hi h=>con_Byte zs hz i hi h
 have hn0:¬ n≤0:=by omega
 have hnz:¬ n=0:=by omega
 refine con_runX Tryz.func84 rfl rfl (by simp [Tryz.ntmps84]) (fun _ _=>rfl) ?_
 by_cases h256:n≤256
 ·refine byP (fc curA.eq_1 (fc bytD.eq_1 (fc hn0 (fc (eq_true h256) Tryz.ntmps84)))) ?_
  refine sw_callXR (hB i hi h) rfl rfl rfl ?_ ?_ ?_ ?_
  ·exact byP (fc curA.eq_1 bytD.eq_1) True.intro
  ·exact byP (fc curA.eq_1 bytD.eq_1) True.intro
  ·exact byP (fc curA.eq_1 bytD.eq_1) True.intro
  rintro ⟨v,i',h'⟩ ⟨hv,hi'⟩
  simp only at hv hi'
  refine sw_run 200 _ _ _ ?_
  have hm:=emod_rng (x:=v) hn hv.1
  refine byP (fc curO.eq_1 (fc curA.eq_1 (fc curR.eq_1 (fc bytD.eq_1 hnz)))) ?_
  refine ⟨.inl rfl,(v.tmod n,i',h'),⟨hm,hi'⟩, ?_⟩
  exact byP (fc curO.eq_1 (fc curA.eq_1 (fc curR.eq_1 (fc bytD.eq_1 Tryz.results84)))) True.intro
 ·refine byP (fc curA.eq_1 (fc bytD.eq_1 (fc hn0 (fc h256 Tryz.ntmps84)))) ?_
  refine sw_callXR (hB i hi h) rfl rfl rfl ?_ ?_ ?_ ?_
  ·exact byP (fc curA.eq_1 bytD.eq_1) True.intro
  ·exact byP (fc curA.eq_1 bytD.eq_1) True.intro
  ·exact byP (fc curA.eq_1 bytD.eq_1) True.intro
  rintro ⟨x1,i1,h1⟩ ⟨hx1,hi1⟩
  simp only at hx1 hi1
  refine sw_run 200 _ _ _ ?_
  refine byP (fc curO.eq_1 (fc curA.eq_1 (fc curR.eq_1 bytD.eq_1))) ?_
  refine sw_callXR (hB i1 hi1 h1) rfl rfl rfl ?_ ?_ ?_ ?_
  ·exact byP (fc curA.eq_1 bytD.eq_1) True.intro
  ·exact byP (fc curA.eq_1 bytD.eq_1) True.intro
  ·exact byP (fc curA.eq_1 bytD.eq_1) True.intro
  rintro ⟨x2,i2,h2⟩ ⟨hx2,hi2⟩
  simp only at hx2 hi2
  refine sw_run 200 _ _ _ ?_
  refine byP (fc curO.eq_1 (fc curA.eq_1 (fc curR.eq_1 bytD.eq_1))) ?_
  refine sw_callXR (hB i2 hi2 h2) rfl rfl rfl ?_ ?_ ?_ ?_
  ·exact byP (fc curA.eq_1 bytD.eq_1) True.intro
  ·exact byP (fc curA.eq_1 bytD.eq_1) True.intro
  ·exact byP (fc curA.eq_1 bytD.eq_1) True.intro
  rintro ⟨x3,i3,h3⟩ ⟨hx3,hi3⟩
  simp only at hx3 hi3
  refine sw_run 200 _ _ _ ?_
  refine byP (fc curO.eq_1 (fc curA.eq_1 (fc curR.eq_1 bytD.eq_1))) ?_
  refine sw_callXR (hB i3 hi3 h3) rfl rfl rfl ?_ ?_ ?_ ?_
  ·exact byP (fc curA.eq_1 bytD.eq_1) True.intro
  ·exact byP (fc curA.eq_1 bytD.eq_1) True.intro
  ·exact byP (fc curA.eq_1 bytD.eq_1) True.intro
  rintro ⟨x4,i4,h4⟩ ⟨hx4,hi4⟩
  simp only at hx4 hi4
  refine sw_run 200 _ _ _ ?_
  have e1:inI (x1 * 16777216):=by unfold inI;omega
  have e2:inI (x2 * 65536):=by unfold inI;omega
  have e3:inI (x1 * 16777216+x2 * 65536):=by unfold inI;omega
  have e4:inI (x3 * 256):=by unfold inI;omega
  have e5:inI (x1 * 16777216+x2 * 65536+x3 * 256):=by unfold inI;omega
  have e6:inI (x1 * 16777216+x2 * 65536+x3 * 256+x4):=by unfold inI;omega
  have hm:=emod_rng (x:=x1 * 16777216+x2 * 65536+x3 * 256+x4) hn (by omega)
  refine byP (fc curO.eq_1 (fc curA.eq_1 (fc curR.eq_1 (fc bytD.eq_1 (fc hnz (fc e1 (fc e2 (fc e3 (fc e4 (fc e5 e6)))))))))) ?_
  refine ⟨.inl rfl,((x1 * 16777216+x2 * 65536+x3 * 256+x4).tmod n,i4,h4),⟨hm,hi4⟩, ?_⟩
  exact byP (fc curO.eq_1 (fc curA.eq_1 (fc curR.eq_1 (fc bytD.eq_1 Tryz.results84)))) True.intro
def bitI (zs:List Int) (x:Bool × Nat × Int):Prop:=x.2.1≤zs.length
def bitO (zs:List Int) (x:Bool × Nat × Int):List (List CD):=[curA zs x.2.1 x.2.2]
def bitR (x:Bool × Nat × Int):List RD:=[.one (.o (.bool x.1))]
theorem con_Once (zs:List Int) (hz:BytOk zs) (n:Int) (hn:0<n) (hn2:n≤1000000000) (i:Nat) (hi:i≤zs.length) (h:Int):ConX Tryz.prog 79 [.p (curA zs i h),.b (.one (.int n))] (bitI zs) (bitO zs) bitR:=by
 refine con_runX Tryz.func79 rfl rfl (by simp [Tryz.ntmps79]) (fun _ _=>rfl) ?_
 refine byP (fc curA.eq_1 (fc bytD.eq_1 Tryz.ntmps79)) ?_
 refine sw_callXR (con_Below zs hz n hn hn2 i hi h) rfl rfl rfl ?_ ?_ ?_ ?_
 ·exact byP (fc curA.eq_1 bytD.eq_1) True.intro
 ·exact byP (fc curA.eq_1 bytD.eq_1) True.intro
 ·exact byP (fc curA.eq_1 bytD.eq_1) True.intro
 rintro ⟨v,i',h'⟩ ⟨hv,hi'⟩
 simp only at hv hi'
 refine sw_run 200 _ _ _ ?_
 refine byP (fc curO.eq_1 (fc curA.eq_1 (fc curR.eq_1 bytD.eq_1))) ?_
 refine ⟨.inl rfl,(decide (v=0),i',h'),hi', ?_⟩
 exact byP (fc bitO.eq_1 (fc curA.eq_1 (fc bitR.eq_1 (fc bytD.eq_1 Tryz.results79)))) True.intro
def pkI (zs ns:List Int) (x:Int × Nat × Int):Prop:=x.1 ∈ ns∧x.2.1≤zs.length
theorem con_PickInt (zs:List Int) (hz:BytOk zs) (ns:List Int) (hn:0<ns.length) (hn2:ns.length≤1000000000) (i:Nat) (hi:i≤zs.length) (h:Int):ConX Tryz.prog 81 [.p (curA zs i h),.b (.one (intsD ns))] (pkI zs ns) (curO zs) curR:=by
 refine con_runX Tryz.func81 rfl rfl (by simp [Tryz.ntmps81]) (fun _ _=>rfl) ?_
 refine byP (fc curA.eq_1 (fc bytD.eq_1 Tryz.ntmps81)) ?_
 refine sw_callXR (con_Below zs hz (ns.length:Int) (by omega) (by omega) i hi h) rfl rfl rfl ?_ ?_ ?_ ?_
 ·exact byP (fc curA.eq_1 bytD.eq_1) True.intro
 ·exact byP (fc curA.eq_1 bytD.eq_1) True.intro
 ·exact byP (fc curA.eq_1 bytD.eq_1) True.intro
 rintro ⟨v,i',h'⟩ ⟨hv,hi'⟩
 simp only at hv hi'
 refine sw_run 200 _ _ _ ?_
 have hlt:v.toNat<ns.length:=by omega
 have hv2:v<(ns.length:Int):=by omega
 have hR:=ints_row ns v.toNat hlt
 refine byP (fc curO.eq_1 (fc curA.eq_1 (fc curR.eq_1 (fc bytD.eq_1 (fc hv.1 (fc hv2 hR)))))) ?_
 refine ⟨.inl rfl,(ns[v.toNat]!,i',h'),⟨mem_bang hlt,hi'⟩, ?_⟩
 exact byP (fc curO.eq_1 (fc curA.eq_1 (fc curR.eq_1 (fc bytD.eq_1 Tryz.results81)))) True.intro
def txI (zs:List Int) (ns:List ByteArray) (x:ByteArray × Nat × Int):Prop:=x.1 ∈ ns∧x.2.1≤zs.length
def txO (zs:List Int) (x:ByteArray × Nat × Int):List (List CD):=[curA zs x.2.1 x.2.2]
def txR (x:ByteArray × Nat × Int):List RD:=[.one (.o (.str x.1))]
theorem con_Pick (zs:List Int) (hz:BytOk zs) (ns:List ByteArray) (hn:0<ns.length) (hn2:ns.length≤1000000000) (i:Nat) (hi:i≤zs.length) (h:Int):ConX Tryz.prog 145 [.p (curA zs i h),.b (.one (strsD ns))] (txI zs ns) (txO zs) txR:=by
 refine con_runX Tryz.func145 rfl rfl (by simp [Tryz.ntmps145]) (fun _ _=>rfl) ?_
 refine byP (fc curA.eq_1 (fc bytD.eq_1 Tryz.ntmps145)) ?_
 refine sw_callXR (con_Below zs hz (ns.length:Int) (by omega) (by omega) i hi h) rfl rfl rfl ?_ ?_ ?_ ?_
 ·exact byP (fc curA.eq_1 bytD.eq_1) True.intro
 ·exact byP (fc curA.eq_1 bytD.eq_1) True.intro
 ·exact byP (fc curA.eq_1 bytD.eq_1) True.intro
 rintro ⟨v,i',h'⟩ ⟨hv,hi'⟩
 simp only at hv hi'
 refine sw_run 200 _ _ _ ?_
 have hlt:v.toNat<ns.length:=by omega
 have hv2:v<(ns.length:Int):=by omega
 have hR:=strs_row ns v.toNat hlt
 refine byP (fc curO.eq_1 (fc curA.eq_1 (fc curR.eq_1 (fc bytD.eq_1 (fc hv.1 (fc hv2 hR)))))) ?_
 refine ⟨.inl rfl,(ns[v.toNat]!,i',h'),⟨mem_bang hlt,hi'⟩, ?_⟩
 exact byP (fc txO.eq_1 (fc curA.eq_1 (fc txR.eq_1 (fc bytD.eq_1 Tryz.results145)))) True.intro
end Go.Proofs.YtaidalilfmjfgaaGreat
