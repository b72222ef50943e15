import Derived.Test.YtaidalilfmjfgaaGreatMk
import Derived.Test.YtaidalilfmjfgaaGreatStaged
import Derived.Test.YtaidalilfmjfgaaGreatTmV
import Derived.Test.YtaidalilfmjfgaaGreatClo
namespace Go.Proofs.YtaidalilfmjfgaaGreat
open Go.Proofs.Tryz
open Go.RowKit
set_option linter.unusedVariables false
set_option linter.unusedSimpArgs false
set_option maxRecDepth 20000
theorem KS (x:Int) (m:Nat) (hm:m<2 ^ 62):0≤RA x (m:Int)∧RA x (m:Int)≤m:=by
 unfold RA
 have h1:(BitVec.ofInt IntKind.i64.bits x &&& BitVec.ofInt IntKind.i64.bits (m:Int)).toNat≤m:=by
  rw [BitVec.toNat_and]
  refine Nat.le_trans Nat.and_le_right ?_
  rw [BitVec.toNat_ofInt]
  have:(m:Int) % ((2 ^ IntKind.i64.bits:Nat):Int)=m:=Int.emod_eq_of_lt (by omega) (by
   have:IntKind.i64.bits=64:=rfl
   rw [this];omega)
  rw [this];omega
 have h2:inI ((BitVec.ofInt IntKind.i64.bits x &&& BitVec.ofInt IntKind.i64.bits (m:Int)).toNat:Int):=by unfold inI;omega
 rw [FG h2]
 omega
theorem TM (zs:List Int) (k:Nat) (h:k<zs.length):rowAt 1 (zs.map D.byt) k=[.byt zs[k]!]:=by
 unfold rowAt
 rw [Nat.mul_one,List.drop_eq_getElem_cons (by simpa using h),List.take_succ_cons,List.take_zero,getElem!_pos zs k h]
 simp
def AK (zs:List Int) (i:Nat) (h:Int):List CD:=[.r (Bg zs),.o (.int i),.o (.int h)]
theorem Mq:aGN prog 55:=by
 refine aCP (t:=2) func55 rfl rfl (by simp [ntmps55]) rfl fun zs hl hz=>Dm (Aa 200 _ _ _ ?_)
 have hi0:inI (26583+(zs.length:Int)):=by unfold inI;omega
 refine byP (fc Bg.eq_1 (fc hi0 ntmps55)) ?_
 refine Al (fun x:Nat × Int=>x.1≤zs.length∧0≤x.2∧x.2≤2000000000) (fun x=>⟨32,[(4,.i x.1),(3,.i x.2),(0,.br (.rows 1 zs.length (zs.map D.byt)))],[],[],0,[]⟩) (fun x=>zs.length-x.1) (0,26583+(zs.length:Int)) id ⟨Nat.zero_le _,by omega,by omega⟩ ?_ ?_
 ·exact byQ tI
 rintro ⟨k,h⟩ ⟨hk,hh1,hh2⟩
 simp only at hk hh1 hh2
 refine Aa 200 _ _ _ ?_
 by_cases hlt:k<zs.length
 case neg =>
  have hi:¬ (k:Int)<(zs.length:Int):=by omega
  refine byP hi ?_
  refine rQ ?_
  exact ⟨0,h,rfl,rfl⟩
 have hi:(k:Int)<(zs.length:Int):=by omega
 by_cases h4:(k:Int)<4000
 case neg =>
  refine byP (fc (eq_true hi) h4) ?_
  refine rQ ?_
  exact ⟨0,h,rfl,rfl⟩
 have hR:=TM zs k hlt
 have hb:=hz zs[k]! (Ab hlt)
 generalize zs[k]! = z at *
 have i1:inI (h * 131):=by unfold inI;omega
 have i2:inI (h * 131+z):=by unfold inI;omega
 have i3:inI (h * 131+z+7):=by unfold inI;omega
 have i4:inI z:=by unfold inI;omega
 have i5:inI ((k:Int)+1):=by unfold inI;omega
 have hr:=KS (h * 131+z+7) 1073741823 (by decide)
 rw [show ((1073741823:Nat):Int)=1073741823 from rfl] at hr
 refine byP (fc (eq_true hi) (fc (eq_true h4) (fc hR (fc i1 (fc i2 (fc i3 (fc i4 i5))))))) ?_
 generalize RA (h * 131+z+7) 1073741823=h' at *
 refine ⟨by kernel_rfl,(k+1,h'),id,⟨by simp only;omega,by simp only;omega,by simp only;omega⟩,by simp only;omega, ?_⟩
 exact byQ tI
def aIR (zs:List Int) (m:Int) (x:Int × Nat × Int):Prop:=(0≤x.1∧x.1≤m)∧x.2.1≤zs.length
def Fv (zs:List Int) (x:Int × Nat × Int):List (List CD):=[AK zs x.2.1 x.2.2]
def Fu (x:Int × Nat × Int):List RD:=[.one (.o (.int x.1))]
def CT (zs:List Int):Prop:=zs.length≤1000000000∧∀ n ∈ zs,0≤n∧n<256
theorem Vg (zs:List Int) (hz:CT zs) (i:Nat) (hi:i≤zs.length) (h:Int):Bz prog 171 [.p (AK zs i h)] (aIR zs 255) (Fv zs) Fu:=by
 obtain ⟨hl,hzs⟩:=hz
 refine WT func171 rfl rfl (by simp [ntmps171]) (fun _ _=>rfl) (OQ (Aa 200 _ _ _ ?_))
 simp only [push_cast,s0P,Gx,EN,mkC,↓reduceIte,Nat.reduceLT,AK,Bg,ntmps171]
 refine NU (OQ (IL 5 _ _ _ ?_))
 simp only [DI,true_and]
 refine TK 5 _ _ _ _ _ ?_
 simp only [push_cast,↓reduceIte,Nat.reduceLT,reduceCtorEq,Ye]
 refine aCJ rfl (Tx rfl rfl (.inr rfl) fun k1=>aCJ rfl (Tx rfl rfl (.inl rfl) fun k2=>Aa 200 _ _ _ ?_))
 simp only [push_cast,↓reduceIte,Nat.reduceLT,Nat.reduceAdd,Nat.reduceEqDiff]
 refine NU (Aa 200 _ _ _ ?_)
 simp only [push_cast,↓reduceIte]
 have hx:=KS (aBb (k2.fdiv (2 ^ min 33 IntKind.i64.bits)) (k2.fdiv (2 ^ min 45 IntKind.i64.bits))) 255 (by decide)
 rw [show ((255:Nat):Int)=255 from rfl] at hx
 refine Cs (⟨58,[(3,.i (RA (aBb (k2.fdiv (2 ^ min 33 IntKind.i64.bits)) (k2.fdiv (2 ^ min 45 IntKind.i64.bits))) 255)),(0,.bx 0 0)],[(0,[.br (.rows 1 zs.length (zs.map D.byt)),.i i,.i k2])],[],1,[0]⟩) (oT [0,5] (.fork (.alt 1 (oT [2,3,4] (.cons 6 false (oT [7,8,9,10,11,12] .nil))) (.alt 6 (oT [7,8,9] (.cons 1 false (oT [2,3,4,10,11,12] .nil))) .last)))) (by kernel_rfl) (by kernel_rfl) (Aa 200 _ _ _ ?_) (Aa 200 _ _ _ ?_)
 ·simp only [push_cast,↓reduceIte,Nat.reduceLT,Nat.reduceEqDiff,reduceCtorEq,Int.reduceLE,Int.reduceToNat,Int.reduceLE,aCK]
  (try repeat' (with_reducible apply And.intro))
  all_goals first
   | (refine ⟨rfl,id, ?_⟩;simp only [push_cast,Sub,EG,EL,ED,EH,inj,AV.ren,AV.rens,AV.lt,AV.lts,↓reduceIte,Nat.reduceLT,reduceCtorEq];done)
   | kernel_rfl
 generalize (RA (aBb (k2.fdiv (2 ^ min 33 IntKind.i64.bits)) (k2.fdiv (2 ^ min 45 IntKind.i64.bits))) 255)=x0 at *
 by_cases hlt:(i:Int)<(zs.length:Int)
 ·have hR:=TM zs i (by omega)
  have hb:=hzs zs[i]! (Ab (by omega))
  generalize zs[i]! = z at *
  have i2:inI (x0+z):=by unfold inI;omega
  have i4:inI z:=by unfold inI;omega
  have i5:inI ((i:Int)+1):=by unfold inI;omega
  have hr:=KS (x0+z) 255 (by decide)
  rw [show ((255:Nat):Int)=255 from rfl] at hr
  simp only [push_cast,↓reduceIte]
  refine Cs (⟨58,[(34,.b true),(3,.i x0),(0,.bx 0 0)],[(0,[.br (.rows 1 zs.length (zs.map D.byt)),.i i,.i k2])],[],1,[0]⟩) (oT [0,4] (.fork (.alt 1 (oT [2,3] (.cons 5 false (oT [6,7,8,9] .nil))) (.alt 5 (oT [6,7,8] (.cons 1 false (oT [2,3,9] .nil))) .last)))) (by kernel_rfl) (by kernel_rfl) (Aa 200 _ _ _ ?_) (Aa 200 _ _ _ ?_)
  ·simp only [push_cast,↓reduceIte,Nat.reduceLT,Nat.reduceEqDiff,reduceCtorEq,eq_true hlt]
   (try repeat' (with_reducible apply And.intro))
   all_goals first
    | (refine ⟨rfl,id, ?_⟩;simp only [push_cast,Sub,EG,EL,ED,EH,inj,AV.ren,AV.rens,AV.lt,AV.lts,↓reduceIte,Nat.reduceLT,Nat.reduceEqDiff,reduceCtorEq];done)
    | kernel_rfl
  simp only [push_cast,↓reduceIte]
  refine Cs (⟨58,[(3,.i (RA (x0+z) 255)),(0,.bx 0 0)],[(0,[.br (.rows 1 zs.length (zs.map D.byt)),.i i,.i k2])],[],1,[0]⟩) (oT [0,1,5] (.fork (.alt 2 (oT [3,4] (.cons 6 false (oT [7,8,9,10,11,12,13,14] .nil))) (.alt 6 (oT [7,8] (.cons 2 false (oT [3,4,9,10,11,12,13,14] .nil))) .last)))) (by kernel_rfl) (by kernel_rfl) (Aa 200 _ _ _ ?_) (Aa 200 _ _ _ ?_)
  ·simp only [push_cast,↓reduceIte,Nat.reduceLT,Nat.reduceEqDiff,reduceCtorEq,hR,i2,i4,hlt]
   (try repeat' (with_reducible apply And.intro))
   all_goals first
    | (refine ⟨rfl,id, ?_⟩;simp only [push_cast,Sub,EG,EL,ED,EH,inj,AV.ren,AV.rens,AV.lt,AV.lts,↓reduceIte,Nat.reduceLT,reduceCtorEq];done)
    | kernel_rfl
  generalize RA (x0+z) 255=x1 at *
  simp only [push_cast,↓reduceIte,Nat.reduceLT,Nat.reduceAdd,Nat.reduceLeDiff,Nat.reduceEqDiff,reduceCtorEq,i5]
  refine ⟨.inl rfl,(x1,i+1,k2),⟨hr,by simp only;omega⟩, ?_⟩
  simp only [push_cast,CC,rRs,rOs,rC,rCs,eRs,eOs,eC,eCs,aD,↓reduceIte,Fv,AK,Fu,Bg,Bx,results171]
 ·simp only [push_cast,↓reduceIte]
  refine Cs (⟨58,[(34,.b false),(3,.i x0),(0,.bx 0 0)],[(0,[.br (.rows 1 zs.length (zs.map D.byt)),.i i,.i k2])],[],1,[0]⟩) (oT [0,4] (.fork (.alt 1 (oT [2,3] (.cons 5 false (oT [6,7,8,9] .nil))) (.alt 5 (oT [6,7,8] (.cons 1 false (oT [2,3,9] .nil))) .last)))) (by kernel_rfl) (by kernel_rfl) (Aa 200 _ _ _ ?_) (Aa 200 _ _ _ ?_)
  ·simp only [push_cast,↓reduceIte,Nat.reduceLT,Nat.reduceEqDiff,reduceCtorEq,hlt]
   (try repeat' (with_reducible apply And.intro))
   all_goals first
    | (refine ⟨rfl,id, ?_⟩;simp only [push_cast,Sub,EG,EL,ED,EH,inj,AV.ren,AV.rens,AV.lt,AV.lts,↓reduceIte,Nat.reduceLT,Nat.reduceEqDiff,reduceCtorEq];done)
    | kernel_rfl
  simp only [push_cast,↓reduceIte,Nat.reduceLT,Nat.reduceEqDiff]
  refine ⟨.inl rfl,(x0,i,k2),⟨hx,hi⟩, ?_⟩
  simp only [push_cast,CC,rRs,rOs,rC,rCs,eRs,eOs,eC,eCs,aD,↓reduceIte,Fv,AK,Fu,Bg,results171]
theorem NW {x n:Int} (h:0<n) (h0:0≤x):0≤x.tmod n∧x.tmod n≤n-1:=⟨Int.tmod_nonneg _ h0,by have:=Int.tmod_lt_of_pos x h;omega⟩
theorem BA (zs:List Int) (hz:CT zs) (n:Int) (hn:0<n) (hn2:n≤1000000000) (i:Nat) (hi:i≤zs.length) (h:Int):Bz prog 84 [.p (AK zs i h),.b (.one (.int n))] (aIR zs (n-1)) (Fv zs) Fu:=by
 have hB:=fun i hi h=>Vg zs hz i hi h
 have hn0:¬ n≤0:=by omega
 have hnz:¬ n=0:=by omega
 refine AF func84 rfl rfl (by simp [ntmps84]) (fun _ _=>rfl) ?_
 by_cases h256:n≤256
 ·refine byP (fc AK.eq_1 (fc Bg.eq_1 (fc hn0 (fc (eq_true h256) ntmps84)))) ?_
  refine Bh (hB i hi h) rfl rfl rfl ?_ ?_ ?_ ?_
  ·exact byP (fc AK.eq_1 Bg.eq_1) tI
  ·exact byP (fc AK.eq_1 Bg.eq_1) tI
  ·exact byP (fc AK.eq_1 Bg.eq_1) tI
  rintro ⟨v,i',h'⟩ ⟨hv,hi'⟩
  simp only at hv hi'
  refine Aa 200 _ _ _ ?_
  have hm:=NW (x:=v) hn hv.1
  refine byP (fc Fv.eq_1 (fc AK.eq_1 (fc Fu.eq_1 (fc Bg.eq_1 hnz)))) ?_
  refine ⟨.inl rfl,(v.tmod n,i',h'),⟨hm,hi'⟩, ?_⟩
  exact byP (fc Fv.eq_1 (fc AK.eq_1 (fc Fu.eq_1 (fc Bg.eq_1 results84)))) tI
 ·refine byP (fc AK.eq_1 (fc Bg.eq_1 (fc hn0 (fc h256 ntmps84)))) ?_
  refine Bh (hB i hi h) rfl rfl rfl ?_ ?_ ?_ ?_
  ·exact byP (fc AK.eq_1 Bg.eq_1) tI
  ·exact byP (fc AK.eq_1 Bg.eq_1) tI
  ·exact byP (fc AK.eq_1 Bg.eq_1) tI
  rintro ⟨x1,i1,h1⟩ ⟨hx1,hi1⟩
  simp only at hx1 hi1
  refine rG (fc Fv.eq_1 (fc AK.eq_1 (fc Fu.eq_1 Bg.eq_1))) ?_
  refine Bh (hB i1 hi1 h1) rfl rfl rfl ?_ ?_ ?_ ?_
  ·exact byP (fc AK.eq_1 Bg.eq_1) tI
  ·exact byP (fc AK.eq_1 Bg.eq_1) tI
  ·exact byP (fc AK.eq_1 Bg.eq_1) tI
  rintro ⟨x2,i2,h2⟩ ⟨hx2,hi2⟩
  simp only at hx2 hi2
  refine rG (fc Fv.eq_1 (fc AK.eq_1 (fc Fu.eq_1 Bg.eq_1))) ?_
  refine Bh (hB i2 hi2 h2) rfl rfl rfl ?_ ?_ ?_ ?_
  ·exact byP (fc AK.eq_1 Bg.eq_1) tI
  ·exact byP (fc AK.eq_1 Bg.eq_1) tI
  ·exact byP (fc AK.eq_1 Bg.eq_1) tI
  rintro ⟨x3,i3,h3⟩ ⟨hx3,hi3⟩
  simp only at hx3 hi3
  refine rG (fc Fv.eq_1 (fc AK.eq_1 (fc Fu.eq_1 Bg.eq_1))) ?_
  refine Bh (hB i3 hi3 h3) rfl rfl rfl ?_ ?_ ?_ ?_
  ·exact byP (fc AK.eq_1 Bg.eq_1) tI
  ·exact byP (fc AK.eq_1 Bg.eq_1) tI
  ·exact byP (fc AK.eq_1 Bg.eq_1) tI
  rintro ⟨x4,i4,h4⟩ ⟨hx4,hi4⟩
  simp only at hx4 hi4
  refine Aa 200 _ _ _ ?_
  have e1:inI (x1 * 16777216):=by unfold inI;omega
  have e2:inI (x2 * 65536):=by unfold inI;omega
  have e3:inI (x1 * 16777216+x2 * 65536):=by unfold inI;omega
  have e4:inI (x3 * 256):=by unfold inI;omega
  have e5:inI (x1 * 16777216+x2 * 65536+x3 * 256):=by unfold inI;omega
  have e6:inI (x1 * 16777216+x2 * 65536+x3 * 256+x4):=by unfold inI;omega
  have hm:=NW (x:=x1 * 16777216+x2 * 65536+x3 * 256+x4) hn (by omega)
  refine byP (fc Fv.eq_1 (fc AK.eq_1 (fc Fu.eq_1 (fc Bg.eq_1 (fc hnz (fc e1 (fc e2 (fc e3 (fc e4 (fc e5 e6)))))))))) ?_
  refine ⟨.inl rfl,((x1 * 16777216+x2 * 65536+x3 * 256+x4).tmod n,i4,h4),⟨hm,hi4⟩, ?_⟩
  exact byP (fc Fv.eq_1 (fc AK.eq_1 (fc Fu.eq_1 (fc Bg.eq_1 results84)))) tI
def aJD (zs:List Int) (x:Bool × Nat × Int):Prop:=x.2.1≤zs.length
def Xu (zs:List Int) (x:Bool × Nat × Int):List (List CD):=[AK zs x.2.1 x.2.2]
def XK (x:Bool × Nat × Int):List RD:=[.one (.o (.bool x.1))]
theorem CX (zs:List Int) (hz:CT zs) (n:Int) (hn:0<n) (hn2:n≤1000000000) (i:Nat) (hi:i≤zs.length) (h:Int):Bz prog 79 [.p (AK zs i h),.b (.one (.int n))] (aJD zs) (Xu zs) XK:=by
 refine AF func79 rfl rfl (by simp [ntmps79]) (fun _ _=>rfl) ?_
 refine byP (fc AK.eq_1 (fc Bg.eq_1 ntmps79)) ?_
 refine Bh (BA zs hz n hn hn2 i hi h) rfl rfl rfl ?_ ?_ ?_ ?_
 ·exact byP (fc AK.eq_1 Bg.eq_1) tI
 ·exact byP (fc AK.eq_1 Bg.eq_1) tI
 ·exact byP (fc AK.eq_1 Bg.eq_1) tI
 rintro ⟨v,i',h'⟩ ⟨hv,hi'⟩
 simp only at hv hi'
 refine rG (fc Fv.eq_1 (fc AK.eq_1 (fc Fu.eq_1 Bg.eq_1))) ?_
 refine ⟨.inl rfl,(decide (v=0),i',h'),hi', ?_⟩
 exact byP (fc Xu.eq_1 (fc AK.eq_1 (fc XK.eq_1 (fc Bg.eq_1 results79)))) tI
def pkI (zs ns:List Int) (x:Int × Nat × Int):Prop:=x.1 ∈ ns∧x.2.1≤zs.length
theorem Df (zs:List Int) (hz:CT zs) (ns:List Int) (hn:0<ns.length) (hn2:ns.length≤1000000000) (i:Nat) (hi:i≤zs.length) (h:Int):Bz prog 81 [.p (AK zs i h),.b (.one (aCQ ns))] (pkI zs ns) (Fv zs) Fu:=by
 refine AF func81 rfl rfl (by simp [ntmps81]) (fun _ _=>rfl) ?_
 refine byP (fc AK.eq_1 (fc Bg.eq_1 ntmps81)) ?_
 refine Bh (BA zs hz (ns.length:Int) (by omega) (by omega) i hi h) rfl rfl rfl ?_ ?_ ?_ ?_
 ·exact byP (fc AK.eq_1 Bg.eq_1) tI
 ·exact byP (fc AK.eq_1 Bg.eq_1) tI
 ·exact byP (fc AK.eq_1 Bg.eq_1) tI
 rintro ⟨v,i',h'⟩ ⟨hv,hi'⟩
 simp only at hv hi'
 refine Aa 200 _ _ _ ?_
 have hlt:v.toNat<ns.length:=by omega
 have hv2:v<(ns.length:Int):=by omega
 have hR:=Vx ns v.toNat hlt
 refine byP (fc Fv.eq_1 (fc AK.eq_1 (fc Fu.eq_1 (fc Bg.eq_1 (fc hv.1 (fc hv2 hR)))))) ?_
 refine ⟨.inl rfl,(ns[v.toNat]!,i',h'),⟨Ab hlt,hi'⟩, ?_⟩
 exact byP (fc Fv.eq_1 (fc AK.eq_1 (fc Fu.eq_1 (fc Bg.eq_1 results81)))) tI
def txI (zs:List Int) (ns:List ByteArray) (x:ByteArray × Nat × Int):Prop:=x.1 ∈ ns∧x.2.1≤zs.length
def txO (zs:List Int) (x:ByteArray × Nat × Int):List (List CD):=[AK zs x.2.1 x.2.2]
def txR (x:ByteArray × Nat × Int):List RD:=[.one (.o (.str x.1))]
theorem CK (zs:List Int) (hz:CT zs) (ns:List ByteArray) (hn:0<ns.length) (hn2:ns.length≤1000000000) (i:Nat) (hi:i≤zs.length) (h:Int):Bz prog 145 [.p (AK zs i h),.b (.one (Bl ns))] (txI zs ns) (txO zs) txR:=by
 refine AF func145 rfl rfl (by simp [ntmps145]) (fun _ _=>rfl) ?_
 refine byP (fc AK.eq_1 (fc Bg.eq_1 ntmps145)) ?_
 refine Bh (BA zs hz (ns.length:Int) (by omega) (by omega) i hi h) rfl rfl rfl ?_ ?_ ?_ ?_
 ·exact byP (fc AK.eq_1 Bg.eq_1) tI
 ·exact byP (fc AK.eq_1 Bg.eq_1) tI
 ·exact byP (fc AK.eq_1 Bg.eq_1) tI
 rintro ⟨v,i',h'⟩ ⟨hv,hi'⟩
 simp only at hv hi'
 refine Aa 200 _ _ _ ?_
 have hlt:v.toNat<ns.length:=by omega
 have hv2:v<(ns.length:Int):=by omega
 have hR:=Cc ns v.toNat hlt
 refine byP (fc Fv.eq_1 (fc AK.eq_1 (fc Fu.eq_1 (fc Bg.eq_1 (fc hv.1 (fc hv2 hR)))))) ?_
 refine ⟨.inl rfl,(ns[v.toNat]!,i',h'),⟨Ab hlt,hi'⟩, ?_⟩
 exact byP (fc txO.eq_1 (fc AK.eq_1 (fc txR.eq_1 (fc Bg.eq_1 results145)))) tI
def bs (l:List UInt8):ByteArray:=⟨l.toArray⟩
mutual
def txT:Ty→List UInt8
 | .mk k xs=>if k=1 then [73] else if k=2 then [66] else if k=3 then [40]++((QM xs).getD 0 []++[62]++(QM xs).getD 1 []++[41]) else [60]++((QM xs).getD 0 []++[62])
def QM:List Ty→List (List UInt8)
 | []=>[]
 | x :: r=>txT x :: QM r
end
def ct (c:UInt8):List UInt8→Bool × List UInt8
 | []=>(false,[])
 | x :: r=>if x=c then (true,r) else (false,x :: r)
def tk (s:List UInt8) (c:UInt8) (at_:Nat):Bool:=decide (s[at_]? = some c)
theorem Ke (l:List UInt8):(bs l).size=l.length:=by simp [bs,ByteArray.size]
theorem Uc (a b:List UInt8):bs a++bs b=bs (a++b):=by
 apply ByteArray.ext
 rw [ByteArray.data_append];simp [bs]
theorem WL:∀ xs:List Ty,(∀ a ∈ xs,(txT a).length≤3 * szT a)→((QM xs).getD 0 []).length+((QM xs).getD 1 []).length≤3 * GL xs
 | [],_=>by simp [QM]
 | [a],h=>by
  have:=h a (by simp)
  simp [QM,GL];omega
 | a :: b :: r,h=>by
  have h1:=h a (by simp)
  have h2:=h b (by simp)
  simp [QM,GL];omega
theorem KC:∀ t:Ty,(txT t).length≤3 * szT t:=by
 refine Ty.ind fun k xs ih => ?_
 have h:=WL xs ih
 rw [txT,szT]
 repeat' split
 all_goals simp only [List.length_append,List.length_cons,List.length_nil]
 all_goals omega
theorem tx3 (a b:Ty):txT (.mk 3 [a,b])=[40]++txT a++[62]++txT b++[41]:=by simp [txT,QM]
theorem tx4 (a:Ty):txT (.mk 4 [a])=[60]++txT a++[62]:=by simp [txT,QM]
theorem PN {k:Int} {xs:List Ty} (h:BE (.mk k xs)=true):(k=1∧xs=[])∨(k=2∧xs=[])∨(∃ a b,k=3∧xs=[a,b]∧BE a=true∧BE b=true)∨∃ a,k=4∧xs=[a]∧BE a=true:=by
 rw [BE] at h
 simp only [Bool.and_eq_true,shB] at h
 obtain ⟨h1,h2⟩:=h
 split at h2
 ·rename_i e
  have h3:xs.length=0:=by have:=of_decide_eq_true h2;omega
  obtain rfl:=List.eq_nil_of_length_eq_zero h3
  rcases e with e | e
  ·exact .inl ⟨e,rfl⟩
  ·exact .inr (.inl ⟨e,rfl⟩)
 ·split at h2
  ·rename_i e
   have h3:xs.length=2:=by have:=of_decide_eq_true h2;omega
   match xs,h3 with
   | [a,b],_ =>
    simp only [Dc,Bool.and_eq_true,Bool.and_true] at h1
    exact .inr (.inr (.inl ⟨a,b,e,rfl,h1.1,h1.2⟩))
  ·split at h2
   ·rename_i e
    have h3:xs.length=1:=by have:=of_decide_eq_true h2;omega
    match xs,h3 with
    | [a],_ =>
     simp only [Dc,Bool.and_true] at h1
     exact .inr (.inr (.inr ⟨a,e,rfl,h1⟩))
   ·cases h2
theorem aIQ (c:UInt8):(⟨#[c]⟩:ByteArray)=bs [c]:=rfl
theorem Yk (a b:Ty):szL (tyC (.mk 3 [a,b]))=2+(szL (tyC a)+szL (tyC b)):=by simp [tyC,Ai,szL,szD,Ah]
theorem aAH (a:Ty):szL (tyC (.mk 4 [a]))=1+szL (tyC a):=by simp [tyC,Ai,szL,szD]
theorem IU:∀ t:Ty,BE t=true→szL (tyC t)≤1000000000→Con prog 295 [.ag (tyC t)] [.one (.str (bs (txT t)))]:=by
 refine Ty.ind fun k xs ih hf hz => ?_
 rcases PN hf with ⟨rfl,rfl⟩ | ⟨rfl,rfl⟩ | ⟨a,b,rfl,rfl,ha,hb⟩ | ⟨a,rfl,rfl,ha⟩
 ·refine Af func295 rfl rfl (by simp [ntmps295]) ?_
  refine byP (fc tyC.eq_1 (fc Ai.eq_1 (fc txT.eq_1 (fc ntmps295 results295)))) ?_
  rfl
 ·refine Af func295 rfl rfl (by simp [ntmps295]) ?_
  refine byP (fc tyC.eq_1 (fc Ai.eq_1 (fc txT.eq_1 (fc ntmps295 results295)))) ?_
  rfl
 ·rw [Yk] at hz
  have h1:=ih a (by simp) ha (by omega)
  have h2:=ih b (by simp) hb (by omega)
  have l1:=KC a
  have l2:=KC b
  have l3:=NN a
  have l4:=NN b
  have r0:rowAt 2 (Ai [a,b]) 0=[.int a.kind,GB a.args]:=by rw [Ax [a,b] 0 (by simp),← Au];rfl
  have r1:rowAt 2 (Ai [a,b]) 1=[.int b.kind,GB b.args]:=by rw [Ax [a,b] 1 (by simp),← Au];rfl
  refine Af func295 rfl rfl (by simp [ntmps295]) ?_
  refine byP (fc tyC.eq_1 ntmps295) ?_
  refine Ac (oT [0,1,2,3,7,8,9,10] (.cons 4 false (oT [5,6] (.cons 11 false (oT [12,13,14] .nil))))) (by kernel_rfl) DA (by kernel_rfl) (Aa 200 _ _ _ ?_)
  simp only [push_cast,↓reduceIte,Nat.reduceLT,Nat.reduceAdd,Nat.reduceEqDiff,Int.reduceLE,r0,r1]
  refine ⟨by omega,by omega, ?_⟩
  refine KD h1 ?_
  refine rG (fc aIQ (fc Uc Ke)) ?_
  refine ⟨by (try simp only [List.length_append,List.length_cons,List.length_nil]);unfold maxLen;omega,by (try simp only [List.length_append,List.length_cons,List.length_nil]);unfold maxLen;omega, ?_⟩
  refine KD h2 ?_
  refine rG (fc Uc (fc Ke (fc tx3 results295))) ?_
  exact ⟨by (try simp only [List.length_append,List.length_cons,List.length_nil]);unfold maxLen;omega,by (try simp only [List.length_append,List.length_cons,List.length_nil]);unfold maxLen;omega⟩
 ·rw [aAH] at hz
  have h1:=ih a (by simp) ha (by omega)
  have l1:=KC a
  have l3:=NN a
  have r0:rowAt 2 (Ai [a]) 0=[.int a.kind,GB a.args]:=by rw [Ax [a] 0 (by simp),← Au];rfl
  refine Af func295 rfl rfl (by simp [ntmps295]) ?_
  simp only [push_cast,↓reduceIte,Nat.reduceLT,Nat.reduceAdd,Nat.reduceEqDiff,Int.reduceEq,tyC,r0,ntmps295]
  refine ⟨by omega, ?_⟩
  refine Kc h1 ?_
  refine rG (fc aIQ (fc Uc (fc Ke (fc tx4 results295)))) ?_
  exact ⟨by (try simp only [List.length_append,List.length_cons,List.length_nil]);unfold maxLen;omega,by (try simp only [List.length_append,List.length_cons,List.length_nil]);unfold maxLen;omega⟩
def tyR (t:Ty):RD:=.ag [.o (.int t.kind),.o (.rows 2 t.args.length (Ai t.args))]
def aCV (zs:List Int) (m:Nat) (x:Ty × Nat × Int):Prop:=szL (tyC x.1)≤m∧x.2.1≤zs.length
def tyO (zs:List Int) (x:Ty × Nat × Int):List (List CD):=[AK zs x.2.1 x.2.2]
def tyA (t:Ty):RD:=.ag [.o (.int t.kind),.a 26 (.rows 2 t.args.length (Ai t.args))]
def QC (x:Ty × Nat × Int):List RD:=[tyA x.1]
theorem Jw (a b:Ty) (ha:szL (tyC a)≤1000000000) (hb:szL (tyC b)≤1000000000):Bc prog 204 [.b (.ag (tyC a)),.b (.ag (tyC b))] [] [tyA (.mk 3 [a,b])]:=by
 refine Ad func204 rfl rfl (by simp [ntmps204]) rfl ?_
 refine byP ntmps204 ?_
 refine Ac (oT [0,2] (oF [1,3,4] (.cons 5 true (.cons 6 false .nil)))) (by kernel_rfl) Ar (by kernel_rfl) (Aa 200 _ _ _ ?_)
 refine byQ ?_
 refine KD (Ba a ha) ?_
 refine rQ ?_
 refine AR (Ba b hb) rfl (Am ?_) ?_ (Aa 200 _ _ _ ?_)
 ·exact byQ tI
 ·simp only [okR]
 simp only [push_cast,fQP,CC,rRs,rOs,rC,rCs,eRs,eOs,eC,eCs,↓reduceIte,Nat.reduceLT,Nat.reduceAdd,Nat.reduceMul,Nat.reduceLeDiff,Nat.reduceEqDiff,reduceCtorEq,Au,tyA,Ty.kind,Ty.args,Ai,results204]
theorem IP (a:Ty) (ha:szL (tyC a)≤1000000000):Bc prog 203 [.b (.ag (tyC a))] [] [tyA (.mk 4 [a])]:=by
 refine Ad func203 rfl rfl (by simp [ntmps203]) rfl ?_
 refine byP ntmps203 ?_
 refine As (Ba a ha) rfl (Am ?_) ?_ (Aa 200 _ _ _ ?_)
 ·exact byQ tI
 ·simp only [okR]
 simp only [push_cast,fQP,CC,rRs,rOs,rC,rCs,eRs,eOs,eC,eCs,↓reduceIte,Nat.reduceLT,Nat.reduceAdd,Nat.reduceLeDiff,Nat.reduceEqDiff,reduceCtorEq,Au,tyA,Ty.kind,Ty.args,Ai,results203]
theorem GO (zs:List Int) (hz:CT zs):∀ (d:Nat),1≤d→d≤10→∀ (i:Nat),i≤zs.length→∀ (h:Int),Bz prog 222 [.p (AK zs i h),.b (.one (.int d))] (aCV zs (2 ^ d-2)) (tyO zs) QC
 | 0,h1,_,_,_,_=>absurd h1 (by decide)
 | d+1,_,hd,i,hi,h=>by
  refine AF func222 rfl rfl (by simp [ntmps222]) (fun _ _=>rfl) ?_
  have hP:=fun i hi h=>Df zs hz [1,1,2] (by decide) (by decide) i hi h
  have hO:=fun i hi h=>CX zs hz 2 (by decide) (by decide) i hi h
  have hfin:∀ (v:Int) (i':Nat) (h':Int),i'≤zs.length→aCV zs (2 ^ (d+1)-2) (.mk v [],i',h'):=fun v i' h' hi'=>⟨Nat.le_trans (show szL (tyC (.mk v []))≤0 from Nat.le_refl _) (Nat.zero_le _),hi'⟩
  by_cases hd1:d=0
  ·subst hd1
   have hc:((1:Nat):Int)<2:=by decide
   refine byP (fc AK.eq_1 (fc Bg.eq_1 ntmps222)) ?_
   refine AX 2 rfl ?_
   refine Bh (hP i hi h) rfl rfl rfl ?_ ?_ ?_ ?_
   ·exact byP (fc AK.eq_1 Bg.eq_1) tI
   ·exact byP (fc AK.eq_1 Bg.eq_1) tI
   ·exact byP (fc AK.eq_1 Bg.eq_1) tI
   rintro ⟨v,i',h'⟩ ⟨hv,hi'⟩
   simp only at hv hi'
   refine rG (fc Fv.eq_1 (fc AK.eq_1 (fc Fu.eq_1 Bg.eq_1))) ?_
   refine ⟨.inl rfl,(.mk v [],i',h'),hfin _ _ _ hi', ?_⟩
   exact byP (fc tyO.eq_1 (fc AK.eq_1 (fc QC.eq_1 (fc tyA.eq_1 (fc Bg.eq_1 (fc Ty.kind.eq_1 (fc Ty.args.eq_1 (fc Ai.eq_1 results222)))))))) tI
  ·have hc:¬ (d:Int)+1<2:=by omega
   have hs:(d:Int)+1-1=(d:Int):=by omega
   have hin:inI (d:Int):=by unfold inI;omega
   have ih:=fun i hi h=>GO zs hz d (by omega) (by omega) i hi h
   have hp:2≤2 ^ d:=by
    obtain ⟨e,rfl⟩:∃ e,d=e+1:=⟨d-1,by omega⟩
    rw [Nat.pow_succ];have:=Nat.one_le_two_pow (n:=e);omega
   have hp2:2 ^ (d+1)=2 * 2 ^ d:=by rw [Nat.pow_succ];omega
   have hp3:2 ^ d≤1024:=Nat.le_trans (Nat.pow_le_pow_right (by decide) (show d≤10 by omega)) (by decide)
   refine byP (fc AK.eq_1 (fc Bg.eq_1 (fc hc ntmps222))) ?_
   refine Bh (hO i hi h) rfl rfl rfl ?_ ?_ ?_ ?_
   ·exact byP (fc AK.eq_1 Bg.eq_1) tI
   ·exact byP (fc AK.eq_1 Bg.eq_1) tI
   ·exact byP (fc AK.eq_1 Bg.eq_1) tI
   rintro ⟨b1,i1,h1⟩ hi1
   have hi1':i1≤zs.length:=hi1
   refine Aa 200 _ _ _ ?_
   cases b1
   case true =>
    refine byP (fc Xu.eq_1 (fc AK.eq_1 (fc XK.eq_1 Bg.eq_1))) ?_
    refine AX 2 rfl ?_
    refine Bh (hP i1 hi1' h1) rfl rfl rfl ?_ ?_ ?_ ?_
    ·exact byP (fc AK.eq_1 Bg.eq_1) tI
    ·exact byP (fc AK.eq_1 Bg.eq_1) tI
    ·exact byP (fc AK.eq_1 Bg.eq_1) tI
    rintro ⟨v,i',h'⟩ ⟨hv,hi'⟩
    simp only at hv hi'
    refine rG (fc Fv.eq_1 (fc AK.eq_1 (fc Fu.eq_1 Bg.eq_1))) ?_
    refine ⟨.inl rfl,(.mk v [],i',h'),hfin _ _ _ hi', ?_⟩
    exact byP (fc tyO.eq_1 (fc AK.eq_1 (fc QC.eq_1 (fc tyA.eq_1 (fc Bg.eq_1 (fc Ty.kind.eq_1 (fc Ty.args.eq_1 (fc Ai.eq_1 results222)))))))) tI
   case false =>
    refine byP (fc Xu.eq_1 (fc AK.eq_1 (fc XK.eq_1 Bg.eq_1))) ?_
    refine Bh (hO i1 hi1' h1) rfl rfl rfl ?_ ?_ ?_ ?_
    ·exact byP (fc AK.eq_1 Bg.eq_1) tI
    ·exact byP (fc AK.eq_1 Bg.eq_1) tI
    ·exact byP (fc AK.eq_1 Bg.eq_1) tI
    rintro ⟨b2,i2,h2⟩ hi2
    have hi2':i2≤zs.length:=hi2
    refine Aa 200 _ _ _ ?_
    cases b2
    case true =>
     refine byP (fc Xu.eq_1 (fc AK.eq_1 (fc XK.eq_1 (fc Bg.eq_1 (fc hs hin))))) ?_
     refine Bh (ih i2 hi2' h2) rfl rfl rfl ?_ ?_ ?_ ?_
     ·exact byP (fc AK.eq_1 Bg.eq_1) tI
     ·exact byP (fc AK.eq_1 Bg.eq_1) tI
     ·exact byP (fc AK.eq_1 Bg.eq_1) tI
     rintro ⟨t,i3,h3⟩ ⟨ht,hi3⟩
     simp only at ht hi3
     refine rG (fc tyO.eq_1 (fc AK.eq_1 (fc QC.eq_1 (fc tyA.eq_1 Bg.eq_1)))) ?_
     refine FV (IP t (by omega)) rfl rfl rfl rfl ?_ ?_ ?_ (Aa 200 _ _ _ ?_)
     ·exact byQ tI
     ·exact byQ tI
     ·exact byQ tI
     refine byP (fc tyA.eq_1 (fc Ty.kind.eq_1 Ty.args.eq_1)) ?_
     refine ⟨.inl rfl,(.mk 4 [t],i3,h3),⟨by rw [Lj];omega,hi3⟩, ?_⟩
     exact byP (fc tyO.eq_1 (fc AK.eq_1 (fc QC.eq_1 (fc tyA.eq_1 (fc Bg.eq_1 (fc Ty.kind.eq_1 (fc Ty.args.eq_1 results222))))))) tI
    case false =>
     refine byP (fc Xu.eq_1 (fc AK.eq_1 (fc XK.eq_1 (fc Bg.eq_1 (fc hs hin))))) ?_
     refine Bh (ih i2 hi2' h2) rfl rfl rfl ?_ ?_ ?_ ?_
     ·exact byP (fc AK.eq_1 Bg.eq_1) tI
     ·exact byP (fc AK.eq_1 Bg.eq_1) tI
     ·exact byP (fc AK.eq_1 Bg.eq_1) tI
     rintro ⟨a,i3,h3⟩ ⟨ha,hi3⟩
     simp only at ha hi3
     refine rG (fc tyO.eq_1 (fc AK.eq_1 (fc QC.eq_1 (fc tyA.eq_1 Bg.eq_1)))) ?_
     refine Ac (oT [1,2,3] (.fork (.alt 0 (oF [4,5,6] .nil) (.alt 4 (.cons 0 true (oF [5,6] .nil)) .last)))) (by kernel_rfl) Bs (by kernel_rfl) (Aa 200 _ _ _ ?_)
     refine byP (fc hs hin) ?_
     (try repeat' (with_reducible apply And.intro))
     all_goals
      refine Ay (ih i3 hi3 h3) rfl rfl rfl ?_ ?_ ?_ rfl ?_
      ·exact byP (fc AK.eq_1 Bg.eq_1) tI
      ·exact byP (fc AK.eq_1 Bg.eq_1) tI
      ·exact byP (fc AK.eq_1 Bg.eq_1) tI
      rintro ⟨b,i4,h4⟩ ⟨hb,hi4⟩
      simp only at hb hi4
      refine rG (fc tyO.eq_1 (fc AK.eq_1 (fc QC.eq_1 (fc tyA.eq_1 Bg.eq_1)))) ?_
      refine PM (RC (Jw a b (by omega) (by omega))) rfl rfl rfl (fun _ _=>rfl) ?_ ?_
      ·exact byQ tI
      rintro _ _
      refine rG (fc tyA.eq_1 (fc Ty.kind.eq_1 Ty.args.eq_1)) ?_
      refine ⟨.inl rfl,(.mk 3 [a,b],i4,h4),⟨by rw [Pd];omega,hi4⟩, ?_⟩
      exact byP (fc tyO.eq_1 (fc AK.eq_1 (fc QC.eq_1 (fc tyA.eq_1 (fc Bg.eq_1 (fc Ty.kind.eq_1 (fc Ty.args.eq_1 results222))))))) tI
def Yw (x:Ty × Nat × Int):List RD:=[tyR x.1]
theorem PU (zs:List Int) (hz:CT zs) (i:Nat) (hi:i≤zs.length) (h:Int):Bz prog 146 [.p (AK zs i h)] (aCV zs 200) (tyO zs) Yw:=by
 refine AF func146 rfl rfl (by simp [ntmps146]) (fun _ _=>rfl) ?_
 have hB:=fun n hn hn2 i hi h=>BA zs hz n hn hn2 i hi h
 simp only [push_cast,s0P,Gx,EN,mkC,↓reduceIte,Nat.reduceLT,Nat.reduceAdd,reduceCtorEq,AK,Bg,ntmps146]
 have hD:Bz prog 222 [.p (AK zs i h),.b (.one (.int 4))] (aCV zs 14) (tyO zs) QC:=GO zs hz 4 (by decide) (by decide) i hi h
 refine Bh (hD) rfl rfl rfl ?_ ?_ ?_ ?_
 ·simp only [push_cast,rC,rCs,AS.em,mPs,mP,aA,aD,↓reduceIte,reduceCtorEq,AK,Bg]
 ·simp only [push_cast,eC,eCs,ePs,eP,↓reduceIte,reduceCtorEq,AK,Bg]
 ·simp only [push_cast,bPs,bP,↓reduceIte,AK,Bg]
 rintro ⟨t,i1,h1⟩ ⟨ht,hi1⟩
 simp only at ht hi1
 have ht':=ht
 refine Aa 200 _ _ _ ?_
 simp only [push_cast,mkC,eC,eCs,Eh,En,AS.kb,EW,rmB,mkO,BN,Br,ePs,eP,bPs,bP,↓reduceIte,Nat.reduceLT,Nat.reduceAdd,Nat.reduceEqDiff,reduceCtorEq,tyO,AK,QC,tyA,Bg]
 refine Bh (hB 10 (by decide) (by decide) i1 hi1 h1) rfl rfl rfl ?_ ?_ ?_ ?_
 ·simp only [push_cast,rC,rCs,AS.em,mPs,mP,aA,aD,↓reduceIte,reduceCtorEq,AK,Bg]
 ·simp only [push_cast,eC,eCs,ePs,eP,↓reduceIte,reduceCtorEq,AK,Bg]
 ·simp only [push_cast,bPs,bP,↓reduceIte,AK,Bg]
 rintro ⟨v,i2,h2⟩ ⟨hv,hi2⟩
 simp only at hv hi2
 refine Aa 200 _ _ _ ?_
 by_cases v0:v=0
 ·simp only [push_cast,mkC,eC,eCs,Eh,En,AS.kb,EW,rmB,mkO,BN,Br,ePs,eP,bPs,bP,↓reduceIte,Nat.reduceLT,reduceCtorEq,Fv,AK,Fu,Bg,eq_true v0]
  refine Bh (hB 6 (by decide) (by decide) i2 hi2 h2) rfl rfl rfl ?_ ?_ ?_ ?_
  ·simp only [push_cast,rC,rCs,AS.em,mPs,mP,aA,aD,↓reduceIte,AK,Bg]
  ·simp only [push_cast,eC,eCs,ePs,eP,↓reduceIte,AK,Bg]
  ·simp only [push_cast,bPs,bP,↓reduceIte,AK,Bg]
  rintro ⟨k,i3,h3⟩ ⟨hk,hi3⟩
  simp only at hk hi3
  refine Aa 200 _ _ _ ?_
  simp only [push_cast,mkC,eC,eCs,Eh,En,AS.kb,EW,rmB,mkO,BN,Br,ePs,eP,bPs,bP,↓reduceIte,Nat.reduceLT,Nat.reduceAdd,Nat.reduceLeDiff,Nat.reduceEqDiff,Fv,AK,Fu,Bg]
  refine ⟨.inl rfl,(.mk k t.args,i3,h3),⟨?_,hi3⟩, ?_⟩
  ·obtain ⟨tk,ta⟩:=t
   exact Nat.le_trans ht' (by decide)
  ·simp only [push_cast,CC,rRs,rOs,rC,rCs,eRs,eOs,eC,eCs,aD,↓reduceIte,Nat.reduceAdd,Nat.reduceEqDiff,reduceCtorEq,tyO,AK,Yw,tyR,Bg,tyk,tya,results146]
 by_cases v1:v=1
 ·simp only [push_cast,mkC,eC,eCs,Eh,En,AS.kb,EW,rmB,mkO,BN,Br,ePs,eP,bPs,bP,↓reduceIte,Nat.reduceLT,Nat.reduceEqDiff,reduceCtorEq,Fv,AK,Fu,Bg,v0,eq_true v1]
  refine Ac (oT [0,1] (oF [2,3,4] (.cons 5 true (.cons 6 false .nil)))) (by kernel_rfl) Bs (by kernel_rfl) (Aa 200 _ _ _ ?_)
  simp only [push_cast,↓reduceIte,Nat.reduceLT,Nat.reduceEqDiff]
  refine AR SP rfl (Am ?_) ?_ (Aa 200 _ _ _ ?_)
  ·simp only [push_cast,aAs]
  ·simp only [okR]
  simp only [push_cast,↓reduceIte,Nat.reduceLT,Nat.reduceAdd,Nat.reduceLeDiff,Nat.reduceEqDiff,Au,tyk,tya,Ai,List.length_nil]
  have hlen:t.args.length≤14:=by
   obtain ⟨tk,ta⟩:=t
   simp only [tyC,szL,szD] at ht'
   show ta.length≤14
   omega
  have hone:Ai [Ty.mk 1 []]=[D.int 1,D.rows 2 0 []]:=rfl
  refine ⟨⟨fun o ho=>by omega,by unfold maxLen;omega,by omega⟩,.inl rfl,(.mk t.kind (t.args++[.mk 1 []]),i2,h2),⟨?_,hi2⟩, ?_⟩
  ·obtain ⟨tk,ta⟩:=t
   simp only [tyC,szL,szD] at ht'
   simp only [tyk,tya,tyC,FJ,hone,szL,szD,Ah,List.length_append,List.length_cons,List.length_nil]
   omega
  ·simp only [push_cast,CC,rRs,rOs,rC,rCs,eRs,eOs,eC,eCs,aD,↓reduceIte,Nat.reduceAdd,Nat.reduceEqDiff,reduceCtorEq,tyO,AK,Yw,tyR,Bg,tyk,tya,FJ,hone,List.length_append,results146]
 by_cases v2:v=2
 ·simp only [push_cast,mkC,eC,eCs,Eh,En,AS.kb,EW,rmB,mkO,BN,Br,ePs,eP,bPs,bP,↓reduceIte,Nat.reduceLT,Nat.reduceEqDiff,reduceCtorEq,Fv,AK,Fu,Bg,v0,v1,eq_true v2]
  refine Bh (hB 6 (by decide) (by decide) i2 hi2 h2) rfl rfl rfl ?_ ?_ ?_ ?_
  ·simp only [push_cast,rC,rCs,AS.em,mPs,mP,aA,aD,↓reduceIte,AK,Bg]
  ·simp only [push_cast,eC,eCs,ePs,eP,↓reduceIte,AK,Bg]
  ·simp only [push_cast,bPs,bP,↓reduceIte,AK,Bg]
  rintro ⟨n,i3,h3⟩ ⟨hn,hi3⟩
  simp only at hn hi3
  have hin:inI (1+n):=by unfold inI;omega
  refine Aa 200 _ _ _ ?_
  simp only [push_cast,mkC,eC,eCs,Eh,En,AS.kb,EW,rmB,mkO,BN,Br,ePs,eP,bPs,bP,↓reduceIte,Nat.reduceLT,Fv,AK,Fu,Bg,hin]
  refine Al (fun x:Ty × Nat=>szL (tyC x.1)≤14+x.2∧x.2≤6∧(x.2:Int)≤1+n) (fun x=>⟨46,[(5,.i x.2),(4,.i (1+n)),(3,.bx 3 0),(2,.bx 1 0),(0,.bx 0 0)],[(0,[.br (.rows 1 zs.length (zs.map D.byt)),.i i3,.i h3]),(1,[.i 0,.nl 2]),(3,[.i x.1.kind,.sl 2])],[(2,some ⟨.rows 2 x.1.args.length (Ai x.1.args),some 26,true⟩)],4,[0]⟩) (fun x=>7-x.2) (t,0) id ?_ ?_ ?_
  ·exact ⟨by simp only;omega,by simp only;omega,by simp only;omega⟩
  ·simp only [push_cast,Sub,EG,EL,ED,EH,inj,AV.ren,AV.rens,AV.lt,AV.lts,↓reduceIte,Nat.reduceLT,Nat.reduceEqDiff,reduceCtorEq]
  ·rintro ⟨u,k⟩ hI
   simp only at hI
   refine Aa 200 _ _ _ ?_
   by_cases hlt:(k:Int)<1+n
   ·have hin2:inI ((k:Int)+1):=by unfold inI;omega
    simp only [push_cast,↓reduceIte,Nat.reduceLT,Nat.reduceAdd,Nat.reduceEqDiff,hlt]
    refine FV (IP u (by omega)) rfl rfl rfl rfl ?_ ?_ ?_ (Aa 200 _ _ _ ?_)
    ·simp only [push_cast,AS.kb,EW,mPs,mP,ePs,eP,bPs,bP,aA,aDs,aD,↓reduceIte,Au]
    ·simp only [push_cast,ePs,eP,↓reduceIte,Au]
    ·simp only [push_cast,bPs,bP,↓reduceIte,Au]
    simp only [push_cast,mkC,Eh,En,AS.kb,EW,mkO,BN,Br,ePs,eP,bPs,bP,↓reduceIte,Nat.reduceLT,Nat.reduceAdd,Nat.reduceEqDiff,tyA,tyk,tya,hin2]
    refine ⟨(.mk 4 [u],k+1),rnL [(0,0),(1,1),(2,4),(3,3)],⟨by rw [Lj];omega,by simp only;omega,by simp only;omega⟩,by simp only;omega, ?_⟩
    simp only [push_cast,Sub,EG,EL,ED,EH,inj,AV.ren,AV.rens,AV.lt,AV.lts,↓reduceIte,Nat.reduceLT,Nat.reduceEqDiff,reduceCtorEq,rnL,Bx,tyk,tya]
   ·simp only [push_cast,↓reduceIte,Nat.reduceLT,Nat.reduceEqDiff,hlt]
    refine Aa 200 _ _ _ ?_
    simp only [push_cast,↓reduceIte,Nat.reduceLT,Nat.reduceAdd,Nat.reduceEqDiff]
    refine ⟨.inl rfl,(u,i3,h3),⟨by simp only;omega,hi3⟩, ?_⟩
    simp only [push_cast,CC,rRs,rOs,rC,rCs,eRs,eOs,eC,eCs,aD,↓reduceIte,Nat.reduceAdd,Nat.reduceEqDiff,reduceCtorEq,tyO,AK,Yw,tyR,Bg,results146]
 by_cases v3:v=3
 ·simp only [push_cast,mkC,eC,eCs,Eh,En,AS.kb,EW,rmB,mkO,BN,Br,ePs,eP,bPs,bP,↓reduceIte,Nat.reduceLT,Nat.reduceEqDiff,reduceCtorEq,Fv,AK,Fu,Bg,v0,v1,v2,eq_true v3]
  refine Al (fun x:Ty × Nat=>szL (tyC x.1)+2≤16 * 2 ^ x.2∧x.2≤3) (fun x=>⟨46,[(6,.i x.2),(3,.bx 3 0),(2,.bx 1 0),(0,.bx 0 0)],[(0,[.br (.rows 1 zs.length (zs.map D.byt)),.i i2,.i h2]),(1,[.i 0,.nl 2]),(3,[.i x.1.kind,.sl 2])],[(2,some ⟨.rows 2 x.1.args.length (Ai x.1.args),some 26,true⟩)],4,[0]⟩) (fun x=>4-x.2) (t,0) id ?_ ?_ ?_
  ·exact ⟨by simp only;omega,by simp only;omega⟩
  ·simp only [push_cast,Sub,EG,EL,ED,EH,inj,AV.ren,AV.rens,AV.lt,AV.lts,↓reduceIte,Nat.reduceLT,Nat.reduceEqDiff,reduceCtorEq]
  ·rintro ⟨u,k⟩ hI
   simp only at hI
   refine Aa 200 _ _ _ ?_
   by_cases hlt:(k:Int)<3
   ·have hin2:inI ((k:Int)+1):=by unfold inI;omega
    have hp:2 ^ k≤8:=Nat.le_trans (Nat.pow_le_pow_right (by decide) (show k≤3 by omega)) (by decide)
    simp only [push_cast,↓reduceIte,Nat.reduceLT,Nat.reduceAdd,Nat.reduceEqDiff,hlt]
    refine FV (Jw u u (by omega) (by omega)) rfl rfl rfl rfl ?_ ?_ ?_ (Aa 200 _ _ _ ?_)
    ·simp only [push_cast,AS.kb,EW,mPs,mP,ePs,eP,bPs,bP,aA,aDs,aD,↓reduceIte,Nat.reduceEqDiff,Au]
    ·simp only [push_cast,ePs,eP,↓reduceIte,Nat.reduceEqDiff,Au]
    ·simp only [push_cast,bPs,bP,↓reduceIte,Nat.reduceEqDiff,Au]
    simp only [push_cast,mkC,Eh,En,AS.kb,EW,mkO,BN,Br,ePs,eP,bPs,bP,↓reduceIte,Nat.reduceLT,Nat.reduceAdd,Nat.reduceEqDiff,tyA,tyk,tya,hin2]
    refine ⟨(.mk 3 [u,u],k+1),rnL [(0,0),(1,1),(2,4),(3,3)],⟨by rw [Pd,Nat.pow_succ];omega,by simp only;omega⟩,by simp only;omega, ?_⟩
    simp only [push_cast,Sub,EG,EL,ED,EH,inj,AV.ren,AV.rens,AV.lt,AV.lts,↓reduceIte,Nat.reduceLT,Nat.reduceAdd,Nat.reduceEqDiff,reduceCtorEq,rnL,Bx,tyk,tya]
   ·have hp:2 ^ k≤8:=Nat.le_trans (Nat.pow_le_pow_right (by decide) (show k≤3 by omega)) (by decide)
    simp only [push_cast,↓reduceIte,Nat.reduceLT,hlt]
    refine Aa 200 _ _ _ ?_
    simp only [push_cast,↓reduceIte,Nat.reduceLT,Nat.reduceAdd,Nat.reduceEqDiff]
    refine ⟨.inl rfl,(u,i2,h2),⟨by simp only;omega,hi2⟩, ?_⟩
    simp only [push_cast,CC,rRs,rOs,rC,rCs,eRs,eOs,eC,eCs,aD,↓reduceIte,Nat.reduceAdd,Nat.reduceEqDiff,reduceCtorEq,tyO,AK,Yw,tyR,Bg,results146]
 ·simp only [push_cast,mkC,eC,eCs,Eh,En,AS.kb,EW,rmB,mkO,BN,Br,ePs,eP,bPs,bP,↓reduceIte,Nat.reduceLT,Nat.reduceAdd,Nat.reduceEqDiff,reduceCtorEq,Fv,AK,Fu,Bg,v0,v1,v2,v3]
  refine ⟨.inl rfl,(t,i2,h2),⟨Nat.le_trans ht' (by decide),hi2⟩, ?_⟩
  simp only [push_cast,CC,rRs,rOs,rC,rCs,eRs,eOs,eC,eCs,aD,↓reduceIte,Nat.reduceAdd,Nat.reduceEqDiff,reduceCtorEq,tyO,AK,Yw,tyR,Bg,results146]
theorem QN {P:Program} {Q:QE} {all rest:List Oper} {st:List It} {s:AS} (o:Nat) {I:Cb} (hI:s.owf o=some I) (h:SW P (.ops all rest :: st) (s.fz o I.d) Q):SW P (.ops all rest :: st) s Q:=fun w0 G a w hr=>h w0 _ a w (hr.fz hI)
def aJa (P:Program) (fn:Func) {ι:Type} (I:ι→Prop) (outs:ι→List (List CD)) (rs:ι→List RD) (os:List Nat) (e:Exit) (s:AS):Prop:=fQX P fn I outs rs e (AS.fzL os s)
theorem AG {P:Program} {fn:Func} {ι:Type} {I:ι→Prop} {outs:ι→List (List CD)} {rs:ι→List RD} {os:List Nat}:∀ c s,¬ aJa P fn I outs rs os (.panic c) s:=fun c s h=>Bs c _ h
theorem AL {P : Program} {ι : Type} {I : ι → Prop} {f : FuncId} {fn : Func} {c : Code} {args : List PA} {outs : ι → List (List CD)} {rs : ι → List RD} (os : List Nat) (hf : P.funcs[f]? = some fn) (hb : fn.body = some c) (hn : (fn.name == "runtime.NumGoroutine") = false) (hnt : args.length ≤ fn.ntmps) (hno : ∀ x, I x → nPs args = (outs x).length)
  (h:Ct P 400 [.code c] (s0P fn.ntmps args) (aJa P fn I outs rs os)):Bz P f args I outs rs :=
 MM hf hb hn hnt hno fun w0 G a w hr=>wp_mono (Dm (Aa 400 _ _ _ h) w0 G a w hr) fun e a' w' ⟨G',s',hr',hq⟩=>by
  obtain ⟨G2,h2⟩:=Rel.fzL os hr'
  exact ⟨G2,_,h2,hq⟩
def tmA (t:Tm):RD:=.ag [.o (.int t.kind),.o (.str t.name),.o (.str t.other),.o (.int t.n),.o (.int t.ty.kind),.r (.rows 2 t.ty.args.length (Ai t.ty.args)),.o (.int t.res.kind),.r (.rows 2 t.res.args.length (Ai t.res.args)),.q 29 (.rows 9 t.args.length (Av t.args))]
def tmI (zs:List Int) (m:Nat) (x:Tm × Nat × Int):Prop:=szL (tmC x.1)≤m∧x.2.1≤zs.length
def tmO (zs:List Int) (x:Tm × Nat × Int):List (List CD):=[AK zs x.2.1 x.2.2]
def aHD (x:Tm × Nat × Int):List RD:=[tmA x.1]
theorem drF (zs:List Int):(∀ i h,AK zs i h=[.r (.rows 1 zs.length (zs.map D.byt)),.o (.int i),.o (.int h)])∧(∀ v i h,Fv zs (v,i,h)=[AK zs i h])∧(∀ v i h,Fu (v,i,h)=[.one (.o (.int v))])∧(∀ v i h,Xu zs (v,i,h)=[AK zs i h])∧(∀ v i h,XK (v,i,h)=[.one (.o (.bool v))])∧(∀ v i h,txO zs (v,i,h)=[AK zs i h])∧(∀ v i h,txR (v,i,h)=[.one (.o (.str v))])∧(∀ v i h,tyO zs (v,i,h)=[AK zs i h])∧(∀ v i h,QC (v,i,h)=[tyA v])∧(∀ v i h,tmO zs (v,i,h)=[AK zs i h])∧(∀ v i h,aHD (v,i,h)=[tmA v])∧(∀ t,tyA t = .ag [.o (.int t.kind),.a 26 (.rows 2 t.args.length (Ai t.args))])∧(∀ t,tmA t = .ag [.o (.int t.kind),.o (.str t.name),.o (.str t.other),.o (.int t.n),.o (.int t.ty.kind),.r (.rows 2 t.ty.args.length (Ai t.ty.args)),.o (.int t.res.kind),.r (.rows 2 t.res.args.length (Ai t.res.args)),.q 29 (.rows 9 t.args.length (Av t.args))]) :=
 ⟨fun _ _=>rfl,fun _ _ _=>rfl,fun _ _ _=>rfl,fun _ _ _=>rfl,fun _ _ _=>rfl,fun _ _ _=>rfl,fun _ _ _=>rfl,fun _ _ _=>rfl,fun _ _ _=>rfl,fun _ _ _=>rfl,fun _ _ _=>rfl,fun _=>rfl,fun _=>rfl⟩
theorem JI (k:Int) (s o:ByteArray) (n:Int) (t r:Ty) (l:List Tm):szL (tmC (.mk k s o n t r l))=s.size+o.size+szL (tyC t)+szL (tyC r)+(l.length+szL (Av l)):=BM _
def AnI (zs:List Int) (b m:Nat) (x:List Tm × Nat × Int):Prop:=x.1.length≤m∧(∀ t ∈ x.1,szL (tmC t)≤b)∧x.2.1≤zs.length
theorem Jy:∀ (l:List Tm) (b:Nat),(∀ t ∈ l,szL (tmC t)≤b)→szL (Av l)≤l.length * b
 | [],b,_=>by rw [List.length_nil,Nat.zero_mul];exact Nat.le_refl _
 | x :: l,b,h=>by
  have h1:=h x (List.mem_cons_self ..)
  have h2:=Jy l b fun t ht=>h t (List.mem_cons_of_mem _ ht)
  rw [Av,Ah,List.length_cons,Nat.succ_mul];omega
theorem KQ (n:Int):Bc prog 115 [.b (.one (.int n))] [] [.ag [.o (.int 2),.o (.str ⟨#[]⟩),.o (.str ⟨#[]⟩),.o (.int n),.o (.int 0),.r (.rows 2 0 []),.o (.int 0),.r (.rows 2 0 []),.q 29 (.rows 9 0 [])]]:=by
 refine Ad func115 rfl rfl (by simp [ntmps115]) rfl ?_
 exact byP (fc ntmps115 results115) tI
theorem FT (n:Int):Bc prog 238 [.b (.one (.int n))] [] [.ag [.o (.int 3),.o (.str ⟨#[]⟩),.o (.str ⟨#[]⟩),.o (.int n),.o (.int 0),.r (.rows 2 0 []),.o (.int 0),.r (.rows 2 0 []),.q 29 (.rows 9 0 [])]]:=by
 refine Ad func238 rfl rfl (by simp [ntmps238]) rfl ?_
 exact byP (fc ntmps238 results238) tI
theorem Hw (s:ByteArray):Bc prog 116 [.b (.one (.str s))] [] [.ag [.o (.int 1),.o (.str s),.o (.str ⟨#[]⟩),.o (.int 0),.o (.int 0),.r (.rows 2 0 []),.o (.int 0),.r (.rows 2 0 []),.q 29 (.rows 9 0 [])]]:=by
 refine Ad func116 rfl rfl (by simp [ntmps116]) rfl ?_
 exact byP (fc ntmps116 results116) tI
theorem OR (zs:List Int) (hz:CT zs) (i:Nat) (hi:i≤zs.length) (h:Int):Bz prog 221 [.p (AK zs i h)] (tmI zs 25) (tmO zs) aHD:=by
 have hB:=fun n hn hn2 i hi h=>BA zs hz n hn hn2 i hi h
 have hP:∀ (i:Nat),i≤zs.length→∀ h:Int,Bz prog 81 [.p (AK zs i h),.b (.one (.rows 1 5 [.int 0,.int 1,.int 2,.int 3,.int 10006]))] (pkI zs [0,1,2,3,10006]) (Fv zs) Fu:=fun i hi h=>Df zs hz [0,1,2,3,10006] (by decide) (by decide) i hi h
 have hN:∀ (i:Nat),i≤zs.length→∀ h:Int,Bz prog 145 [.p (AK zs i h),.b (.one (.rows 1 3 [.str ⟨#[120]⟩,.str ⟨#[121]⟩,.str ⟨#[102]⟩]))] (txI zs [⟨#[120]⟩,⟨#[121]⟩,⟨#[102]⟩]) (txO zs) txR:=fun i hi h=>CK zs hz [⟨#[120]⟩,⟨#[121]⟩,⟨#[102]⟩] (by decide) (by decide) i hi h
 refine AF func221 rfl rfl (by simp [ntmps221]) (fun _ _=>rfl) ?_
 refine byP (fc (drF zs) (fc ntmps221 results221)) ?_
 refine KX (drF zs) (hB 4 (by decide) (by decide) i hi h) ?_
 rintro ⟨v,i1,h1⟩ ⟨hv,hi1⟩
 simp only at hv hi1
 by_cases v0:v=0
 ·refine rG (fc (drF zs) (fc (eq_true v0) (fc ntmps221 results221))) ?_
  refine AX 2 rfl ?_
  refine byQ ?_
  refine KX (drF zs) (hP i1 hi1 h1) ?_
  rintro ⟨n,i2,h2⟩ ⟨hn,hi2⟩
  simp only at hn hi2
  refine rG (drF zs) ?_
  refine KR (KQ n) ?_
  refine rG (fc ntmps221 results221) ?_
  refine ⟨.inl rfl,(Tm.mk 2 ⟨#[]⟩ ⟨#[]⟩ n (.mk 0 []) (.mk 0 []) [],i2,h2),⟨by rw [JI];show 0+0+0+0+(0+0)≤25;omega,by assumption⟩, ?_⟩
  refine byP (fc (drF zs) (fc ntmps221 results221)) ?_
  exact ⟨rfl,rfl,rfl,rfl,rfl,rfl,rfl,rfl,rfl⟩
 by_cases v1:v=1
 ·refine rG (fc (drF zs) (fc v0 (fc (eq_true v1) (fc ntmps221 results221)))) ?_
  refine KX (drF zs) (hB 2 (by decide) (by decide) i1 hi1 h1) ?_
  rintro ⟨n,i2,h2⟩ ⟨hn,hi2⟩
  simp only at hn hi2
  refine rG (drF zs) ?_
  refine KR (FT n) ?_
  refine rG (fc ntmps221 results221) ?_
  refine ⟨.inl rfl,(Tm.mk 3 ⟨#[]⟩ ⟨#[]⟩ n (.mk 0 []) (.mk 0 []) [],i2,h2),⟨by rw [JI];show 0+0+0+0+(0+0)≤25;omega,by assumption⟩, ?_⟩
  refine byP (fc (drF zs) (fc ntmps221 results221)) ?_
  exact ⟨rfl,rfl,rfl,rfl,rfl,rfl,rfl,rfl,rfl⟩
 ·refine rG (fc (drF zs) (fc v0 (fc v1 (fc ntmps221 results221)))) ?_
  refine AX 2 rfl ?_
  refine byQ ?_
  refine KX (drF zs) (hN i1 hi1 h1) ?_
  rintro ⟨n,i2,h2⟩ ⟨hn,hi2⟩
  simp only at hn hi2
  have hn1:n.size≤1:=by
   simp only [List.mem_cons,List.not_mem_nil,or_false] at hn
   rcases hn with rfl | rfl | rfl <;> decide
  refine rG (drF zs) ?_
  refine KR (Hw n) ?_
  refine rG (fc ntmps221 results221) ?_
  refine ⟨.inl rfl,(.mk 1 n ⟨#[]⟩ 0 (.mk 0 []) (.mk 0 []) [],i2,h2),⟨?_,hi2⟩, ?_⟩
  ·show szL (tmC (.mk 1 n ⟨#[]⟩ 0 (.mk 0 []) (.mk 0 []) []))≤25
   rw [JI]
   show n.size+0+0+0+(0+0)≤25
   omega
  refine byP (fc (drF zs) (fc ntmps221 results221)) ?_
  exact ⟨rfl,rfl,rfl,rfl,rfl,rfl,rfl,rfl,rfl⟩
set_option maxHeartbeats 8000000 in
theorem GT (zs:List Int) (hz:CT zs):∀ (d:Nat),1≤d→d≤4→∀ (i:Nat),i≤zs.length→∀ (h:Int),Bz prog 144 [.p (AK zs i h),.b (.one (.int d))] (tmI zs (10 * 3 ^ d-5)) (tmO zs) aHD
 | 0,h1,_,_,_,_=>absurd h1 (by decide)
 | d+1,_,hd,i,hi,h=>by
  have hP:∀ (i:Nat),i≤zs.length→∀ h:Int,Bz prog 81 [.p (AK zs i h),.b (.one (.rows 1 12 [.int 4,.int 5,.int 6,.int 7,.int 8,.int 9,.int 10,.int 11,.int 12,.int 13,.int 10,.int 4]))] (pkI zs [4,5,6,7,8,9,10,11,12,13,10,4]) (Fv zs) Fu:=fun i hi h=>Df zs hz [4,5,6,7,8,9,10,11,12,13,10,4] (by decide) (by decide) i hi h
  have hN8:∀ (i:Nat),i≤zs.length→∀ h:Int,Bz prog 145 [.p (AK zs i h),.b (.one (.rows 1 8 [.str ⟨#[43]⟩,.str ⟨#[45]⟩,.str ⟨#[42]⟩,.str ⟨#[61]⟩,.str ⟨#[60]⟩,.str ⟨#[38]⟩,.str ⟨#[124]⟩,.str ⟨#[33]⟩]))] (txI zs [⟨#[43]⟩,⟨#[45]⟩,⟨#[42]⟩,⟨#[61]⟩,⟨#[60]⟩,⟨#[38]⟩,⟨#[124]⟩,⟨#[33]⟩]) (txO zs) txR:=fun i hi h=>CK zs hz [⟨#[43]⟩,⟨#[45]⟩,⟨#[42]⟩,⟨#[61]⟩,⟨#[60]⟩,⟨#[38]⟩,⟨#[124]⟩,⟨#[33]⟩] (by decide) (by decide) i hi h
  have hN3:∀ (i:Nat),i≤zs.length→∀ h:Int,Bz prog 145 [.p (AK zs i h),.b (.one (.rows 1 3 [.str ⟨#[120]⟩,.str ⟨#[121]⟩,.str ⟨#[102]⟩]))] (txI zs [⟨#[120]⟩,⟨#[121]⟩,⟨#[102]⟩]) (txO zs) txR:=fun i hi h=>CK zs hz [⟨#[120]⟩,⟨#[121]⟩,⟨#[102]⟩] (by decide) (by decide) i hi h
  have hN2:∀ (i:Nat),i≤zs.length→∀ h:Int,Bz prog 145 [.p (AK zs i h),.b (.one (.rows 1 2 [.str ⟨#[122]⟩,.str ⟨#[119]⟩]))] (txI zs [⟨#[122]⟩,⟨#[119]⟩]) (txO zs) txR:=fun i hi h=>CK zs hz [⟨#[122]⟩,⟨#[119]⟩] (by decide) (by decide) i hi h
  have hT2:∀ (i:Nat),i≤zs.length→∀ h:Int,Bz prog 222 [.p (AK zs i h),.b (.one (.int 2))] (aCV zs 2) (tyO zs) QC:=fun i hi h=>GO zs hz 2 (by decide) (by decide) i hi h
  have hO:=fun i hi h=>CX zs hz 5 (by decide) (by decide) i hi h
  have hpw:3 ^ (d+1)=3 * 3 ^ d:=by rw [Nat.pow_succ];omega
  have hp1:1≤3 ^ d:=Nat.one_le_pow _ _ (by decide)
  refine AF func144 rfl rfl (by simp [ntmps144]) (fun _ _=>rfl) ?_
  by_cases hd1:d=0
  ·subst hd1
   have hc:((0+1:Nat):Int)<2:=by decide
   refine byP (fc (drF zs) (fc (eq_true hc) (fc ntmps144 results144))) ?_
   refine KX (drF zs) (OR zs hz i hi h) ?_
   rintro ⟨t,i9,h9⟩ ⟨ht,hi9⟩
   simp only at ht hi9
   refine rG (fc (drF zs) (fc ntmps144 results144)) ?_
   refine ⟨.inl rfl,(t,i9,h9),⟨by show _≤10 * 3 ^ (_+1)-5;simp only;omega,hi9⟩, ?_⟩
   exact byP (fc (drF zs) (fc ntmps144 results144)) tI
  ·have hc:¬ ((d:Int)+1<2):=by omega
   refine byP (fc (drF zs) (fc hc (fc ntmps144 results144))) ?_
   refine KX (drF zs) (hO i hi h) ?_
   rintro ⟨b,i1,h1⟩ hi1
   have hi1':i1≤zs.length:=hi1
   cases b
   case true =>
    refine rG (fc (drF zs) (fc ntmps144 results144)) ?_
    refine KX (drF zs) (OR zs hz i1 hi1' h1) ?_
    rintro ⟨t,i9,h9⟩ ⟨ht,hi9⟩
    simp only at ht hi9
    refine rG (fc (drF zs) (fc ntmps144 results144)) ?_
    refine ⟨.inl rfl,(t,i9,h9),⟨by show _≤10 * 3 ^ (_+1)-5;simp only;omega,hi9⟩, ?_⟩
    exact byP (fc (drF zs) (fc ntmps144 results144)) tI
   case false =>
    refine rG (fc (drF zs) (fc ntmps144 results144)) ?_
    refine AX 2 rfl ?_
    refine byQ ?_
    refine KX (drF zs) (hP i1 hi1' h1) ?_
    rintro ⟨v,i2,h2⟩ ⟨hv,hi2⟩
    simp only at hv hi2
    by_cases k4:v=4
    ·subst k4
     refine rG (drF zs) ?_
     refine AX 4 rfl ?_
     refine byQ ?_
     refine KX (drF zs) (hN8 i2 hi2 h2) ?_
     rintro ⟨s,i5,h5⟩ ⟨hs5,hi5⟩
     simp only at hs5 hi5
     have hs1:s.size≤1:=by
      simp only [List.mem_cons,List.not_mem_nil,or_false] at hs5
      rcases hs5 with rfl | rfl | rfl | rfl | rfl | rfl | rfl | rfl <;> decide
     obtain ⟨m,hm,hm3⟩:∃ m:Nat,arF (-1) 4 s=(m:Int)∧m≤3:=by
      simp only [List.mem_cons,List.not_mem_nil,or_false] at hs5
      rcases hs5 with rfl | rfl | rfl | rfl | rfl | rfl | rfl | rfl
      all_goals first | exact ⟨2,rfl,by omega⟩ | exact ⟨1,rfl,by omega⟩
     have hA:Con prog 190 [.ag [.int 4,.str s,.str ⟨#[]⟩,.int 0,.int 0,.rows 2 0 [],.int 0,.rows 2 0 [],.rows 9 0 []]] [.one (.int (arF (-1) 4 s))]:=DD (.mk 4 s ⟨#[]⟩ 0 (.mk 0 []) (.mk 0 []) [])
     rw [hm] at hA
     refine rG (drF zs) ?_
     refine Kc hA ?_
     refine rQ ?_
     refine FK 3 8 29 rfl rfl ?_
     refine byQ ?_
     refine Al (AnI zs (10 * 3 ^ d-5) m) (fun x=>⟨74,[(7,.i x.1.length),(6,.i m),(5,.bx 2 0),(4,.bx 1 0),(1,.i ((d:Int)+1)),(0,.bx 0 0)],[(0,[.br (.rows 1 zs.length (zs.map D.byt)),.i x.2.1,.i x.2.2]),(1,[.i 0,.s ⟨#[]⟩,.s ⟨#[]⟩,.i 0,.i 0,.nl 2,.i 0,.nl 2,.nl 9]),(2,[.i 4,.s s,.s ⟨#[]⟩,.i 0,.i 0,.nl 2,.i 0,.nl 2,.sl 3])],[(3,some ⟨.rows 9 x.1.length (Av x.1),some 29,false⟩)],4,[0]⟩) (fun x=>m-x.1.length) ([],i5,h5) (rnL [(2,3),(3,5)]) ⟨Nat.zero_le _,(fun t ht=>by cases ht),hi5⟩ ?_ ?_
     ·exact byP (fc Int.natCast_zero (fc (show Av []=[] from rfl) (show ([]:List Tm).length=0 from rfl))) tI
     rintro ⟨l,i3,h3⟩ ⟨hl,hsz,hi3⟩
     simp only at hl hsz hi3 ⊢
     by_cases hlt:l.length<m
     ·have hj:(l.length:Int)<(m:Int):=by omega
      have ih:=GT zs hz d (by omega) (by omega) i3 hi3 h3
      have hs:(d:Int)+1-1=(d:Int):=by omega
      have hin:inI (d:Int):=by unfold inI;omega
      refine rG hj ?_
      refine Ac (oT [0,2,3,4] (.fork (.alt 1 (oF [5,6,7] (.cons 8 true (.cons 9 false .nil))) (.alt 5 (.cons 1 true (oF [6,7] (.cons 8 true (.cons 9 false .nil)))) .last)))) (by kernel_rfl) AD (by kernel_rfl) ?_
      refine rG (fc hs hin) ?_
      repeat' (with_reducible apply And.intro)
      all_goals
       refine Ay (ih) rfl rfl rfl (byP (drF zs) tI) (byP (drF zs) tI) (byP (drF zs) tI) rfl ?_
       rintro ⟨t,i4,h4⟩ ⟨ht,hi4⟩
       simp only at ht hi4
       have hst:Av (l++[t])=Av l++[.int t.kind,.str t.name,.str t.other,.int t.n,.int t.ty.kind,.rows 2 t.ty.args.length (Ai t.ty.args),.int t.res.kind,.rows 2 t.res.args.length (Ai t.res.args),.rows 9 t.args.length (Av t.args)]:=by rw [At,At,AM,AA,Ak];rfl
       have hln:(l++[t]).length=l.length+1:=by simp
       refine rG (drF zs) ?_
       refine ⟨⟨fun o ho=>by omega,by unfold maxLen;omega,by omega⟩,by unfold inI;omega,(l++[t],i4,h4),rnL [(3,6)],⟨by simp only [hln];omega,fun u hu => ?_,hi4⟩,by simp only [hln];omega, ?_⟩
       ·rcases List.mem_append.1 hu with hu | hu
        ·exact hsz u hu
        ·rw [List.mem_singleton.1 hu];exact ht
       ·exact byP (fc hst hln) tI
     ·have hj:¬ (l.length:Int)<(m:Int):=by omega
      have hb:=Jy l _ hsz
      have hm':l.length * (10 * 3 ^ d-5)≤3 * (10 * 3 ^ d-5):=Nat.mul_le_mul_right _ (by omega)
      have hz3:szL (tmC (.mk 4 s ⟨#[]⟩ 0 (.mk 0 []) (.mk 0 []) l))≤10 * 3 ^ (d+1)-5:=by
       rw [JI]
       show s.size+0+0+0+_≤_
       omega
      refine rG hj ?_
      refine rG (fc ntmps144 results144) ?_
      refine ⟨.inl rfl,(.mk 4 s ⟨#[]⟩ 0 (.mk 0 []) (.mk 0 []) l,i3,h3),⟨hz3,hi3⟩, ?_⟩
      refine byP (fc (drF zs) (fc ntmps144 results144)) ?_
      repeat' (with_reducible apply And.intro)
      all_goals rfl
    by_cases k6:v=6
    ·subst k6
     refine rG (drF zs) ?_
     refine AX 4 rfl ?_
     refine byQ ?_
     refine KX (drF zs) (hN3 i2 hi2 h2) ?_
     rintro ⟨s,i5,h5⟩ ⟨hs5,hi5⟩
     simp only at hs5 hi5
     have hs1:s.size≤1:=by
      simp only [List.mem_cons,List.not_mem_nil,or_false] at hs5
      rcases hs5 with rfl | rfl | rfl <;> decide
     obtain ⟨m,hm,hm3⟩:∃ m:Nat,arF (-1) 6 s=(m:Int)∧m≤3:=⟨1,rfl,by omega⟩
     refine rG (drF zs) ?_
     refine KX (drF zs) (hT2 i5 hi5 h5) ?_
     rintro ⟨ty,i6,h6⟩ ⟨hty,hi6⟩
     simp only at hty hi6
     refine QN 5 rfl ?_
     have hA:Con prog 190 [.ag [.int 6,.str s,.str ⟨#[]⟩,.int 0,.int ty.kind,.rows 2 ty.args.length (Ai ty.args),.int 0,.rows 2 0 [],.rows 9 0 []]] [.one (.int (arF (-1) 6 s))]:=by have:=DD (.mk 6 s ⟨#[]⟩ 0 ty (.mk 0 []) []);rw [Ak] at this;exact this
     rw [hm] at hA
     refine rG (drF zs) ?_
     refine Kc hA ?_
     refine rQ ?_
     refine FK 3 8 29 rfl rfl ?_
     refine byQ ?_
     refine Al (AnI zs (10 * 3 ^ d-5) m) (fun x=>⟨74,[(7,.i x.1.length),(6,.i m),(5,.bx 2 0),(4,.bx 1 0),(1,.i ((d:Int)+1)),(0,.bx 0 0)],[(0,[.br (.rows 1 zs.length (zs.map D.byt)),.i x.2.1,.i x.2.2]),(1,[.i 0,.s ⟨#[]⟩,.s ⟨#[]⟩,.i 0,.i 0,.nl 2,.i 0,.nl 2,.nl 9]),(2,[.i 6,.s s,.s ⟨#[]⟩,.i 0,.i ty.kind,.br (.rows 2 ty.args.length (Ai ty.args)),.i 0,.nl 2,.sl 3])],[(3,some ⟨.rows 9 x.1.length (Av x.1),some 29,false⟩)],4,[0]⟩) (fun x=>m-x.1.length) ([],i6,h6) (rnL [(2,3),(3,6)]) ⟨Nat.zero_le _,(fun t ht=>by cases ht),hi6⟩ ?_ ?_
     ·exact byP (fc Int.natCast_zero (fc (show Av []=[] from rfl) (show ([]:List Tm).length=0 from rfl))) tI
     rintro ⟨l,i3,h3⟩ ⟨hl,hsz,hi3⟩
     simp only at hl hsz hi3 ⊢
     by_cases hlt:l.length<m
     ·have hj:(l.length:Int)<(m:Int):=by omega
      have ih:=GT zs hz d (by omega) (by omega) i3 hi3 h3
      have hs:(d:Int)+1-1=(d:Int):=by omega
      have hin:inI (d:Int):=by unfold inI;omega
      refine rG hj ?_
      refine Ac (oT [0,2,3,4] (.fork (.alt 1 (oF [5,6,7] (.cons 8 true (.cons 9 false .nil))) (.alt 5 (.cons 1 true (oF [6,7] (.cons 8 true (.cons 9 false .nil)))) .last)))) (by kernel_rfl) AD (by kernel_rfl) ?_
      refine rG (fc hs hin) ?_
      repeat' (with_reducible apply And.intro)
      all_goals
       refine Ay (ih) rfl rfl rfl (byP (drF zs) tI) (byP (drF zs) tI) (byP (drF zs) tI) rfl ?_
       rintro ⟨t,i4,h4⟩ ⟨ht,hi4⟩
       simp only at ht hi4
       have hst:Av (l++[t])=Av l++[.int t.kind,.str t.name,.str t.other,.int t.n,.int t.ty.kind,.rows 2 t.ty.args.length (Ai t.ty.args),.int t.res.kind,.rows 2 t.res.args.length (Ai t.res.args),.rows 9 t.args.length (Av t.args)]:=by rw [At,At,AM,AA,Ak];rfl
       have hln:(l++[t]).length=l.length+1:=by simp
       refine rG (drF zs) ?_
       refine ⟨⟨fun o ho=>by omega,by unfold maxLen;omega,by omega⟩,by unfold inI;omega,(l++[t],i4,h4),rnL [(3,6)],⟨by simp only [hln];omega,fun u hu => ?_,hi4⟩,by simp only [hln];omega, ?_⟩
       ·rcases List.mem_append.1 hu with hu | hu
        ·exact hsz u hu
        ·rw [List.mem_singleton.1 hu];exact ht
       ·exact byP (fc hst hln) tI
     ·have hj:¬ (l.length:Int)<(m:Int):=by omega
      have hb:=Jy l _ hsz
      have hm':l.length * (10 * 3 ^ d-5)≤3 * (10 * 3 ^ d-5):=Nat.mul_le_mul_right _ (by omega)
      have hz3:szL (tmC (.mk 6 s ⟨#[]⟩ 0 ty (.mk 0 []) l))≤10 * 3 ^ (d+1)-5:=by
       rw [JI]
       show s.size+0+szL (tyC ty)+0+_≤_
       omega
      refine rG hj ?_
      refine rG (fc ntmps144 results144) ?_
      refine ⟨.inl rfl,(.mk 6 s ⟨#[]⟩ 0 ty (.mk 0 []) l,i3,h3),⟨hz3,hi3⟩, ?_⟩
      refine byP (fc (drF zs) (fc ntmps144 results144)) ?_
      repeat' (with_reducible apply And.intro)
      all_goals rfl
    by_cases k8:v=8
    ·subst k8
     refine rG (drF zs) ?_
     refine AX 4 rfl ?_
     refine byQ ?_
     refine KX (drF zs) (hN3 i2 hi2 h2) ?_
     rintro ⟨s,i5,h5⟩ ⟨hs5,hi5⟩
     simp only at hs5 hi5
     have hs1:s.size≤1:=by
      simp only [List.mem_cons,List.not_mem_nil,or_false] at hs5
      rcases hs5 with rfl | rfl | rfl <;> decide
     obtain ⟨m,hm,hm3⟩:∃ m:Nat,arF (-1) 8 s=(m:Int)∧m≤3:=⟨2,rfl,by omega⟩
     have hA:Con prog 190 [.ag [.int 8,.str s,.str ⟨#[]⟩,.int 0,.int 0,.rows 2 0 [],.int 0,.rows 2 0 [],.rows 9 0 []]] [.one (.int (arF (-1) 8 s))]:=DD (.mk 8 s ⟨#[]⟩ 0 (.mk 0 []) (.mk 0 []) [])
     rw [hm] at hA
     refine rG (drF zs) ?_
     refine Kc hA ?_
     refine rQ ?_
     refine FK 3 8 29 rfl rfl ?_
     refine byQ ?_
     refine Al (AnI zs (10 * 3 ^ d-5) m) (fun x=>⟨74,[(7,.i x.1.length),(6,.i m),(5,.bx 2 0),(4,.bx 1 0),(1,.i ((d:Int)+1)),(0,.bx 0 0)],[(0,[.br (.rows 1 zs.length (zs.map D.byt)),.i x.2.1,.i x.2.2]),(1,[.i 0,.s ⟨#[]⟩,.s ⟨#[]⟩,.i 0,.i 0,.nl 2,.i 0,.nl 2,.nl 9]),(2,[.i 8,.s s,.s ⟨#[]⟩,.i 0,.i 0,.nl 2,.i 0,.nl 2,.sl 3])],[(3,some ⟨.rows 9 x.1.length (Av x.1),some 29,false⟩)],4,[0]⟩) (fun x=>m-x.1.length) ([],i5,h5) (rnL [(2,3),(3,5)]) ⟨Nat.zero_le _,(fun t ht=>by cases ht),hi5⟩ ?_ ?_
     ·exact byP (fc Int.natCast_zero (fc (show Av []=[] from rfl) (show ([]:List Tm).length=0 from rfl))) tI
     rintro ⟨l,i3,h3⟩ ⟨hl,hsz,hi3⟩
     simp only at hl hsz hi3 ⊢
     by_cases hlt:l.length<m
     ·have hj:(l.length:Int)<(m:Int):=by omega
      have ih:=GT zs hz d (by omega) (by omega) i3 hi3 h3
      have hs:(d:Int)+1-1=(d:Int):=by omega
      have hin:inI (d:Int):=by unfold inI;omega
      refine rG hj ?_
      refine Ac (oT [0,2,3,4] (.fork (.alt 1 (oF [5,6,7] (.cons 8 true (.cons 9 false .nil))) (.alt 5 (.cons 1 true (oF [6,7] (.cons 8 true (.cons 9 false .nil)))) .last)))) (by kernel_rfl) AD (by kernel_rfl) ?_
      refine rG (fc hs hin) ?_
      repeat' (with_reducible apply And.intro)
      all_goals
       refine Ay (ih) rfl rfl rfl (byP (drF zs) tI) (byP (drF zs) tI) (byP (drF zs) tI) rfl ?_
       rintro ⟨t,i4,h4⟩ ⟨ht,hi4⟩
       simp only at ht hi4
       have hst:Av (l++[t])=Av l++[.int t.kind,.str t.name,.str t.other,.int t.n,.int t.ty.kind,.rows 2 t.ty.args.length (Ai t.ty.args),.int t.res.kind,.rows 2 t.res.args.length (Ai t.res.args),.rows 9 t.args.length (Av t.args)]:=by rw [At,At,AM,AA,Ak];rfl
       have hln:(l++[t]).length=l.length+1:=by simp
       refine rG (drF zs) ?_
       refine ⟨⟨fun o ho=>by omega,by unfold maxLen;omega,by omega⟩,by unfold inI;omega,(l++[t],i4,h4),rnL [(3,6)],⟨by simp only [hln];omega,fun u hu => ?_,hi4⟩,by simp only [hln];omega, ?_⟩
       ·rcases List.mem_append.1 hu with hu | hu
        ·exact hsz u hu
        ·rw [List.mem_singleton.1 hu];exact ht
       ·exact byP (fc hst hln) tI
     ·have hj:¬ (l.length:Int)<(m:Int):=by omega
      have hb:=Jy l _ hsz
      have hm':l.length * (10 * 3 ^ d-5)≤3 * (10 * 3 ^ d-5):=Nat.mul_le_mul_right _ (by omega)
      have hz3:szL (tmC (.mk 8 s ⟨#[]⟩ 0 (.mk 0 []) (.mk 0 []) l))≤10 * 3 ^ (d+1)-5:=by
       rw [JI]
       show s.size+0+0+0+_≤_
       omega
      refine rG hj ?_
      refine rG (fc ntmps144 results144) ?_
      refine ⟨.inl rfl,(.mk 8 s ⟨#[]⟩ 0 (.mk 0 []) (.mk 0 []) l,i3,h3),⟨hz3,hi3⟩, ?_⟩
      refine byP (fc (drF zs) (fc ntmps144 results144)) ?_
      repeat' (with_reducible apply And.intro)
      all_goals rfl
    by_cases k9:v=9
    ·subst k9
     refine rG (drF zs) ?_
     refine AX 4 rfl ?_
     refine byQ ?_
     refine KX (drF zs) (hN3 i2 hi2 h2) ?_
     rintro ⟨s,i5,h5⟩ ⟨hs5,hi5⟩
     simp only at hs5 hi5
     have hs1:s.size≤1:=by
      simp only [List.mem_cons,List.not_mem_nil,or_false] at hs5
      rcases hs5 with rfl | rfl | rfl <;> decide
     obtain ⟨m,hm,hm3⟩:∃ m:Nat,arF (-1) 9 s=(m:Int)∧m≤3:=⟨1,rfl,by omega⟩
     refine rG (drF zs) ?_
     refine KX (drF zs) (hT2 i5 hi5 h5) ?_
     rintro ⟨ty,i6,h6⟩ ⟨hty,hi6⟩
     simp only at hty hi6
     refine QN 5 rfl ?_
     refine rG (drF zs) ?_
     refine AX 6 rfl ?_
     refine byQ ?_
     refine KX (drF zs) (hN2 i6 hi6 h6) ?_
     rintro ⟨s2,i7,h7⟩ ⟨hs7,hi7⟩
     simp only at hs7 hi7
     have hs2:s2.size≤1:=by
      simp only [List.mem_cons,List.not_mem_nil,or_false] at hs7
      rcases hs7 with rfl | rfl <;> decide
     refine rG (drF zs) ?_
     refine KX (drF zs) (hT2 i7 hi7 h7) ?_
     rintro ⟨tr,i8,h8⟩ ⟨htr,hi8⟩
     simp only at htr hi8
     refine QN 7 rfl ?_
     have hA:Con prog 190 [.ag [.int 9,.str s,.str s2,.int 0,.int ty.kind,.rows 2 ty.args.length (Ai ty.args),.int tr.kind,.rows 2 tr.args.length (Ai tr.args),.rows 9 0 []]] [.one (.int (arF (-1) 9 s))]:=by have:=DD (.mk 9 s s2 0 ty tr []);rw [Ak] at this;exact this
     rw [hm] at hA
     refine rG (drF zs) ?_
     refine Kc hA ?_
     refine rQ ?_
     refine FK 3 8 29 rfl rfl ?_
     refine byQ ?_
     refine Al (AnI zs (10 * 3 ^ d-5) m) (fun x=>⟨74,[(7,.i x.1.length),(6,.i m),(5,.bx 2 0),(4,.bx 1 0),(1,.i ((d:Int)+1)),(0,.bx 0 0)],[(0,[.br (.rows 1 zs.length (zs.map D.byt)),.i x.2.1,.i x.2.2]),(1,[.i 0,.s ⟨#[]⟩,.s ⟨#[]⟩,.i 0,.i 0,.nl 2,.i 0,.nl 2,.nl 9]),(2,[.i 9,.s s,.s s2,.i 0,.i ty.kind,.br (.rows 2 ty.args.length (Ai ty.args)),.i tr.kind,.br (.rows 2 tr.args.length (Ai tr.args)),.sl 3])],[(3,some ⟨.rows 9 x.1.length (Av x.1),some 29,false⟩)],4,[0]⟩) (fun x=>m-x.1.length) ([],i8,h8) (rnL [(2,3),(3,8)]) ⟨Nat.zero_le _,(fun t ht=>by cases ht),hi8⟩ ?_ ?_
     ·exact byP (fc Int.natCast_zero (fc (show Av []=[] from rfl) (show ([]:List Tm).length=0 from rfl))) tI
     rintro ⟨l,i3,h3⟩ ⟨hl,hsz,hi3⟩
     simp only at hl hsz hi3 ⊢
     by_cases hlt:l.length<m
     ·have hj:(l.length:Int)<(m:Int):=by omega
      have ih:=GT zs hz d (by omega) (by omega) i3 hi3 h3
      have hs:(d:Int)+1-1=(d:Int):=by omega
      have hin:inI (d:Int):=by unfold inI;omega
      refine rG hj ?_
      refine Ac (oT [0,2,3,4] (.fork (.alt 1 (oF [5,6,7] (.cons 8 true (.cons 9 false .nil))) (.alt 5 (.cons 1 true (oF [6,7] (.cons 8 true (.cons 9 false .nil)))) .last)))) (by kernel_rfl) AD (by kernel_rfl) ?_
      refine rG (fc hs hin) ?_
      repeat' (with_reducible apply And.intro)
      all_goals
       refine Ay (ih) rfl rfl rfl (byP (drF zs) tI) (byP (drF zs) tI) (byP (drF zs) tI) rfl ?_
       rintro ⟨t,i4,h4⟩ ⟨ht,hi4⟩
       simp only at ht hi4
       have hst:Av (l++[t])=Av l++[.int t.kind,.str t.name,.str t.other,.int t.n,.int t.ty.kind,.rows 2 t.ty.args.length (Ai t.ty.args),.int t.res.kind,.rows 2 t.res.args.length (Ai t.res.args),.rows 9 t.args.length (Av t.args)]:=by rw [At,At,AM,AA,Ak];rfl
       have hln:(l++[t]).length=l.length+1:=by simp
       refine rG (drF zs) ?_
       refine ⟨⟨fun o ho=>by omega,by unfold maxLen;omega,by omega⟩,by unfold inI;omega,(l++[t],i4,h4),rnL [(3,6)],⟨by simp only [hln];omega,fun u hu => ?_,hi4⟩,by simp only [hln];omega, ?_⟩
       ·rcases List.mem_append.1 hu with hu | hu
        ·exact hsz u hu
        ·rw [List.mem_singleton.1 hu];exact ht
       ·exact byP (fc hst hln) tI
     ·have hj:¬ (l.length:Int)<(m:Int):=by omega
      have hb:=Jy l _ hsz
      have hm':l.length * (10 * 3 ^ d-5)≤3 * (10 * 3 ^ d-5):=Nat.mul_le_mul_right _ (by omega)
      have hz3:szL (tmC (.mk 9 s s2 0 ty tr l))≤10 * 3 ^ (d+1)-5:=by
       rw [JI]
       show s.size+s2.size+szL (tyC ty)+szL (tyC tr)+_≤_
       omega
      refine rG hj ?_
      refine rG (fc ntmps144 results144) ?_
      refine ⟨.inl rfl,(.mk 9 s s2 0 ty tr l,i3,h3),⟨hz3,hi3⟩, ?_⟩
      refine byP (fc (drF zs) (fc ntmps144 results144)) ?_
      repeat' (with_reducible apply And.intro)
      all_goals rfl
    have hA:Con prog 190 [.ag [.int v,.str ⟨#[]⟩,.str ⟨#[]⟩,.int 0,.int 0,.rows 2 0 [],.int 0,.rows 2 0 [],.rows 9 0 []]] [.one (.int (arF (-1) v ⟨#[]⟩))]:=DD (.mk v ⟨#[]⟩ ⟨#[]⟩ 0 (.mk 0 []) (.mk 0 []) [])
    obtain ⟨m,hm,hm3⟩:∃ m:Nat,arF (-1) v ⟨#[]⟩=(m:Int)∧m≤3:=by
     have hv':v=5∨v=7∨v=10∨v=11∨v=12∨v=13:=by simp at hv;omega
     rcases hv' with rfl | rfl | rfl | rfl | rfl | rfl
     ·exact ⟨3,rfl,by omega⟩
     ·exact ⟨2,rfl,by omega⟩
     ·exact ⟨1,rfl,by omega⟩
     ·exact ⟨1,rfl,by omega⟩
     ·exact ⟨1,rfl,by omega⟩
     ·exact ⟨1,rfl,by omega⟩
    rw [hm] at hA
    refine rG (fc (drF zs) (fc k4 (fc k6 (fc k8 k9)))) ?_
    refine Kc hA ?_
    refine rQ ?_
    refine FK 3 8 29 rfl rfl ?_
    refine byQ ?_
    refine Al (AnI zs (10 * 3 ^ d-5) m) (fun x=>⟨74,[(7,.i x.1.length),(6,.i m),(5,.bx 2 0),(4,.bx 1 0),(1,.i ((d:Int)+1)),(0,.bx 0 0)],[(0,[.br (.rows 1 zs.length (zs.map D.byt)),.i x.2.1,.i x.2.2]),(1,[.i 0,.s ⟨#[]⟩,.s ⟨#[]⟩,.i 0,.i 0,.nl 2,.i 0,.nl 2,.nl 9]),(2,[.i v,.s ⟨#[]⟩,.s ⟨#[]⟩,.i 0,.i 0,.nl 2,.i 0,.nl 2,.sl 3])],[(3,some ⟨.rows 9 x.1.length (Av x.1),some 29,false⟩)],4,[0]⟩) (fun x=>m-x.1.length) ([],i2,h2) (rnL [(2,3),(3,4)]) ⟨Nat.zero_le _,(fun t ht=>by cases ht),hi2⟩ ?_ ?_
    ·exact byP (fc Int.natCast_zero (fc (show Av []=[] from rfl) (show ([]:List Tm).length=0 from rfl))) tI
    rintro ⟨l,i3,h3⟩ ⟨hl,hsz,hi3⟩
    simp only at hl hsz hi3 ⊢
    by_cases hlt:l.length<m
    ·have hj:(l.length:Int)<(m:Int):=by omega
     have ih:=GT zs hz d (by omega) (by omega) i3 hi3 h3
     have hs:(d:Int)+1-1=(d:Int):=by omega
     have hin:inI (d:Int):=by unfold inI;omega
     refine rG hj ?_
     refine Ac (oT [0,2,3,4] (.fork (.alt 1 (oF [5,6,7] (.cons 8 true (.cons 9 false .nil))) (.alt 5 (.cons 1 true (oF [6,7] (.cons 8 true (.cons 9 false .nil)))) .last)))) (by kernel_rfl) AD (by kernel_rfl) ?_
     refine rG (fc hs hin) ?_
     repeat' (with_reducible apply And.intro)
     all_goals
      refine Ay (ih) rfl rfl rfl (byP (drF zs) tI) (byP (drF zs) tI) (byP (drF zs) tI) rfl ?_
      rintro ⟨t,i4,h4⟩ ⟨ht,hi4⟩
      simp only at ht hi4
      have hst:Av (l++[t])=Av l++[.int t.kind,.str t.name,.str t.other,.int t.n,.int t.ty.kind,.rows 2 t.ty.args.length (Ai t.ty.args),.int t.res.kind,.rows 2 t.res.args.length (Ai t.res.args),.rows 9 t.args.length (Av t.args)]:=by rw [At,At,AM,AA,Ak];rfl
      have hln:(l++[t]).length=l.length+1:=by simp
      refine rG (drF zs) ?_
      refine ⟨⟨fun o ho=>by omega,by unfold maxLen;omega,by omega⟩,by unfold inI;omega,(l++[t],i4,h4),rnL [(3,6)],⟨by simp only [hln];omega,fun u hu => ?_,hi4⟩,by simp only [hln];omega, ?_⟩
      ·rcases List.mem_append.1 hu with hu | hu
       ·exact hsz u hu
       ·rw [List.mem_singleton.1 hu];exact ht
      ·exact byP (fc hst hln) tI
    ·have hj:¬ (l.length:Int)<(m:Int):=by omega
     have hb:=Jy l _ hsz
     have hm':l.length * (10 * 3 ^ d-5)≤3 * (10 * 3 ^ d-5):=Nat.mul_le_mul_right _ (by omega)
     have hz3:szL (tmC (.mk v ⟨#[]⟩ ⟨#[]⟩ 0 (.mk 0 []) (.mk 0 []) l))≤10 * 3 ^ (d+1)-5:=by
      rw [JI]
      show 0+0+0+0+_≤_
      omega
     refine rG hj ?_
     refine rG (fc ntmps144 results144) ?_
     refine ⟨.inl rfl,(.mk v ⟨#[]⟩ ⟨#[]⟩ 0 (.mk 0 []) (.mk 0 []) l,i3,h3),⟨hz3,hi3⟩, ?_⟩
     refine byP (fc (drF zs) (fc ntmps144 results144)) ?_
     repeat' (with_reducible apply And.intro)
     all_goals rfl
end Go.Proofs.YtaidalilfmjfgaaGreat
