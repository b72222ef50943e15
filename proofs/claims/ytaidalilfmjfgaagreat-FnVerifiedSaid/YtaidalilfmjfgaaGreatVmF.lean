import Derived.Test.YtaidalilfmjfgaaGreatNm
import Derived.Test.YtaidalilfmjfgaaGreatNum
import Derived.Sort.Walk0
import Derived.Test.YtaidalilfmjfgaaGreatUMark
import Derived.Test.YtaidalilfmjfgaaGreatCdB
import Derived.Test.YtaidalilfmjfgaaGreatBy
import Derived.Test.YtaidalilfmjfgaaGreatInsV
import Derived.Test.YtaidalilfmjfgaaGreatClo
namespace Go.Proofs.YtaidalilfmjfgaaGreat
open Go.RowKit
set_option linter.unusedVariables false
set_option linter.unusedSimpArgs false
set_option maxRecDepth 20000
theorem tmodM (n:Int):n.tmod 10007=if 0≤n then n % 10007 else -((-n) % 10007):=by
 split
 ·rename_i h;exact Int.tmod_eq_emod_of_nonneg h
 ·rename_i h
  have:n.tmod 10007 = -((-n).tmod 10007):=by rw [Int.neg_tmod];omega
  rw [this,Int.tmod_eq_emod_of_nonneg (by omega)]
theorem con_ReduceS (n:Int):Con Tryz.prog 102 [.one (.int n)] [.one (.int (n % 10007))]:=by
 have h:=tmodM n
 have hb : -10006≤n.tmod 10007∧n.tmod 10007≤10006:=by rw [h];split <;> omega
 refine con_run Tryz.func102 rfl rfl (by simp [Tryz.ntmps102]) ?_
 by_cases hn:n.tmod 10007<0
 ·have h2:n.tmod 10007+10007=n % 10007:=by rw [h] at hn ⊢; split at hn <;> split <;> omega
  simp only [argT,argA,fQ,xRet,rPs,xRes,flatA,rD,eq_self,xRun,vE,vP,vBin,vBinT,isAg,isBo,isCutO,isB,bv,gN,isPick,isCall,AS.pt,AS.ev,look,cav,avB,eatsOf,td0,td1,td2,td3,td4,td5,td6,Option.getD,List.map,List.nodup_nil,↓reduceIte,Nat.reduceLT,Nat.reduceEqDiff,ne_eq,not_false_eq_true,true_and,and_true,or_false,Bool.false_eq_true,reduceCtorEq,Int.reduceEq,decide_true,and_self,hn,h2,Tryz.ntmps102,Tryz.results102]
  unfold inI;omega
 ·have h2:n.tmod 10007=n % 10007:=by rw [h] at hn ⊢; split at hn <;> split <;> omega
  rw [h2] at hn
  simp only [argT,argA,fQ,xRet,rPs,xRes,flatA,rD,eq_self,xRun,vE,vP,vBin,vBinT,isAg,isBo,isCutO,isB,bv,gN,isPick,isCall,AS.pt,AS.ev,look,cav,avB,eatsOf,td0,td1,td2,td3,td4,td5,td6,Option.getD,List.map,List.nodup_nil,↓reduceIte,Nat.reduceLT,Nat.reduceEqDiff,ne_eq,not_false_eq_true,or_false,Bool.false_eq_true,reduceCtorEq,Int.reduceEq,decide_false,and_self,h2,hn,Tryz.ntmps102,Tryz.results102]
def bI (b:Bool):Int:=if b=true then 1 else 0
def apW (s:ByteArray) (a b:Int):Int:=if s=⟨#[43]⟩ then (a+b) % 10007 else if s=⟨#[45]⟩ then (a-b) % 10007 else if s=⟨#[42]⟩ then (a * b) % 10007 else if s=⟨#[61]⟩ then bI (decide (a=b)) else if s=⟨#[60]⟩ then bI (decide (a<b)) else if s=⟨#[38]⟩ then bI (decide (a=1) && decide (b=1)) else if s=⟨#[124]⟩ then bI (decide (a=1) || decide (b=1)) else if s=⟨#[33]⟩ then bI (decide (a=0)) else 0
def apB (s:ByteArray):Bool:=if s=⟨#[43]⟩ then true else if s=⟨#[45]⟩ then true else if s=⟨#[42]⟩ then true else if s=⟨#[61]⟩ then true else if s=⟨#[60]⟩ then true else if s=⟨#[38]⟩ then true else if s=⟨#[124]⟩ then true else if s=⟨#[33]⟩ then true else false
def apV (s:ByteArray) (a b:Int):Int:=if (numB a && numB b)=true then apW s a b else 0
def apK (s:ByteArray) (a b:Int):Bool:=(numB a && numB b) && apB s
theorem num_rng {a:Int} (h:numB a=true):0≤a∧a≤10006:=by
 unfold numB at h
 simpa only [Bool.and_eq_true,decide_eq_true_eq] using h
theorem num_mul {a b:Int} (ha:0≤a∧a≤10006) (hb:0≤b∧b≤10006):inI (a * b):=by
 have h1:0≤a * b:=Int.mul_nonneg ha.1 hb.1
 have h2:a * b≤10006 * 10006:=Int.mul_le_mul ha.2 hb.2 hb.1 (by omega)
 unfold inI;omega
set_option maxRecDepth 10000 in
theorem con_ApplyS (s : ByteArray) (a b : Int) : Con Tryz.prog 198 [.one (.str s), .one (.int a), .one (.int b)] [.one (.int (apV s a b)), .one (.bool (apK s a b))] := by
  have hA : Con Tryz.prog 68 [.one (.int a), .one (.int 0), .one (.int 10006)] [.one (.bool (numB a))] := con_l1In a 0 10006
  have hB : Con Tryz.prog 68 [.one (.int b), .one (.int 0), .one (.int 10006)] [.one (.bool (numB b))] := con_l1In b 0 10006
  unfold apV apK
  cases h1 : numB a with
  | false =>
    rw [h1] at hA
    refine con_run Tryz.func198 rfl rfl (by simp [Tryz.ntmps198]) ?_
    refine byP Tryz.ntmps198 ?_
    refine sw_call (hA) rfl (aAs_ok ?_) ?_ (sw_run 200 _ _ _ ?_)
    · exact byQ True.intro
    · simp only [okR]
    exact byP Tryz.results198 True.intro
  | true =>
    rw [h1] at hA
    cases h2 : numB b with
    | false =>
      rw [h2] at hB
      refine con_run Tryz.func198 rfl rfl (by simp [Tryz.ntmps198]) ?_
      refine byP Tryz.ntmps198 ?_
      refine sw_call (hA) rfl (aAs_ok ?_) ?_ (sw_run 200 _ _ _ ?_)
      · exact byQ True.intro
      · simp only [okR]
      refine byQ ?_
      refine sw_call (hB) rfl (aAs_ok ?_) ?_ (sw_run 200 _ _ _ ?_)
      · exact byQ True.intro
      · simp only [okR]
      exact byP Tryz.results198 True.intro
    | true =>
      rw [h2] at hB
      have ha := num_rng h1
      have hb := num_rng h2
      have i1 : inI (a + b) := by unfold inI; omega
      have i2 : inI (a - b) := by unfold inI; omega
      have i3 := num_mul ha hb
      have hR := con_ReduceS
      have hT := con_bitS
      unfold apW apB
      refine con_run Tryz.func198 rfl rfl (by simp [Tryz.ntmps198]) ?_
      refine byP Tryz.ntmps198 ?_
      refine sw_call (hA) rfl (aAs_ok ?_) ?_ (sw_run 200 _ _ _ ?_)
      · exact byQ True.intro
      · simp only [okR]
      refine byQ ?_
      refine sw_call (hB) rfl (aAs_ok ?_) ?_ (sw_run 200 _ _ _ ?_)
      · exact byQ True.intro
      · simp only [okR]
      rcases op_cases s with h0 | ⟨h0, h1 | ⟨h1, h2 | ⟨h2, h3 | ⟨h3, h4 | ⟨h4, h5 | ⟨h5, h6 | ⟨h6, h7 | h7⟩⟩⟩⟩⟩⟩⟩
      · refine byP (fc h0 i1) ?_
        refine sw_call (hR (a + b)) rfl (aAs_ok ?_) ?_ (sw_run 200 _ _ _ ?_)
        · exact byQ True.intro
        · simp only [okR]
        exact byP Tryz.results198 True.intro
      · refine byP (fc h0 (fc h1 i2)) ?_
        refine sw_call (hR (a - b)) rfl (aAs_ok ?_) ?_ (sw_run 200 _ _ _ ?_)
        · exact byQ True.intro
        · simp only [okR]
        exact byP Tryz.results198 True.intro
      · refine byP (fc h0 (fc h1 (fc h2 i3))) ?_
        refine sw_call (hR (a * b)) rfl (aAs_ok ?_) ?_ (sw_run 200 _ _ _ ?_)
        · exact byQ True.intro
        · simp only [okR]
        exact byP Tryz.results198 True.intro
      · refine byP (fc h0 (fc h1 (fc h2 h3))) ?_
        refine sw_call (hT (decide (a = b))) rfl (aAs_ok ?_) ?_ (sw_run 200 _ _ _ ?_)
        · exact byQ True.intro
        · simp only [okR]
        exact byP (fc bI.eq_1 Tryz.results198) True.intro
      · refine byP (fc h0 (fc h1 (fc h2 (fc h3 h4)))) ?_
        refine sw_call (hT (decide (a < b))) rfl (aAs_ok ?_) ?_ (sw_run 200 _ _ _ ?_)
        · exact byQ True.intro
        · simp only [okR]
        exact byP (fc bI.eq_1 Tryz.results198) True.intro
      · by_cases e : a = 1
        · refine byP (fc e (fc h0 (fc h1 (fc h2 (fc h3 (fc h4 h5)))))) ?_
          refine sw_call (hT (decide (b = 1))) rfl (aAs_ok ?_) ?_ (sw_run 200 _ _ _ ?_)
          · exact byQ True.intro
          · simp only [okR]
          exact byP (fc bI.eq_1 Tryz.results198) True.intro
        · refine byP (fc e (fc h0 (fc h1 (fc h2 (fc h3 (fc h4 h5)))))) ?_
          refine sw_call (hT false) rfl (aAs_ok ?_) ?_ (sw_run 200 _ _ _ ?_)
          · exact byQ True.intro
          · simp only [okR]
          exact byP (fc bI.eq_1 Tryz.results198) True.intro
      · by_cases e : a = 1
        · refine byP (fc e (fc h0 (fc h1 (fc h2 (fc h3 (fc h4 (fc h5 h6))))))) ?_
          refine sw_call (hT true) rfl (aAs_ok ?_) ?_ (sw_run 200 _ _ _ ?_)
          · exact byQ True.intro
          · simp only [okR]
          simp only [push_cast, ↓reduceIte, Nat.reduceLT, Nat.reduceEqDiff, reduceCtorEq, bI, Bool.true_or, Tryz.results198]
        · refine byP (fc e (fc h0 (fc h1 (fc h2 (fc h3 (fc h4 (fc h5 h6))))))) ?_
          refine sw_call (hT (decide (b = 1))) rfl (aAs_ok ?_) ?_ (sw_run 200 _ _ _ ?_)
          · exact byQ True.intro
          · simp only [okR]
          simp only [push_cast, ↓reduceIte, Nat.reduceLT, Nat.reduceEqDiff, reduceCtorEq, bI, Bool.false_or, Tryz.results198]
      · refine byP (fc h0 (fc h1 (fc h2 (fc h3 (fc h4 (fc h5 (fc h6 h7))))))) ?_
        refine sw_call (hT (decide (a = 0))) rfl (aAs_ok ?_) ?_ (sw_run 200 _ _ _ ?_)
        · exact byQ True.intro
        · simp only [okR]
        exact byP (fc bI.eq_1 Tryz.results198) True.intro
      · exact byP (fc h0 (fc h1 (fc h2 (fc h3 (fc h4 (fc h5 (fc h6 (fc h7 Tryz.results198)))))))) True.intro
inductive Vl where
 | num (n:Int)
 | fn (rc:Bool) (pl:Int) (cx:List Vl)
instance : Inhabited Vl := ⟨.num 0⟩
def Vl.n:Vl→Int | .num n=>n | .fn _ _ _=>0
def Vl.f:Vl→Bool | .num _=>false | .fn _ _ _=>true
def Vl.r:Vl→Bool | .num _=>false | .fn r _ _=>r
def Vl.p:Vl→Int | .num _=>0 | .fn _ p _=>p
def Vl.c:Vl→List Vl | .num _=>[] | .fn _ _ c=>c
def Vl.m:Vl→Int | .num n=>n | .fn _ p _=>p
theorem nm_f (n:Int):(Vl.num n).f=false:=rfl
theorem nm_r (n:Int):(Vl.num n).r=false:=rfl
theorem nm_c (n:Int):(Vl.num n).c=[]:=rfl
theorem nm_m (n:Int):(Vl.num n).m=n:=rfl
theorem fn_f (r:Bool) (p:Int) (c:List Vl):(Vl.fn r p c).f=true:=rfl
theorem fn_r (r:Bool) (p:Int) (c:List Vl):(Vl.fn r p c).r=r:=rfl
theorem fn_c (r:Bool) (p:Int) (c:List Vl):(Vl.fn r p c).c=c:=rfl
theorem fn_m (r:Bool) (p:Int) (c:List Vl):(Vl.fn r p c).m=p:=rfl
mutual
def vlS:Vl→List D
 | .num n=>[.bool false,.int n,.bool false,.rows 4 0 []]
 | .fn rc pl cx=>[.bool true,.int pl,.bool rc,.rows 4 cx.length (vlSs cx)]
def vlSs:List Vl→List D
 | []=>[]
 | v :: l=>vlS v++vlSs l
end
theorem vlSs_flat:∀ l,vlSs l=flC vlS l
 | []=>by unfold vlSs flC;rfl
 | v :: l=>by rw [vlSs,flC,vlSs_flat l]
def vsS (l:List Vl):D:=.rows 4 l.length (flC vlS l)
theorem vlS_eq (v:Vl):vlS v=[.bool v.f,.int v.m,.bool v.r,.rows 4 v.c.length (flC vlS v.c)]:=by
 cases v with
 | num n=>unfold vlS;rfl
 | fn r p c=>unfold vlS;rw [vlSs_flat];rfl
theorem vlS_len (v:Vl):(vlS v).length=4:=by rw [vlS_eq];rfl
theorem flC_drop {α:Type} {c:α→List D} {n:Nat} (hc:∀ x,(c x).length=n):∀ (xs:List α) (k:Nat),(flC c xs).drop (k * n)=flC c (xs.drop k)
 | [],k=>by simp [flC]
 | x :: xs,0=>by simp
 | x :: xs,k+1=>by rw [flC,Nat.succ_mul,List.drop_append,hc,List.drop_of_length_le (by rw [hc];omega),List.nil_append,Nat.add_sub_cancel,flC_drop hc xs k,List.drop_succ_cons]
theorem flC_take {α:Type} {c:α→List D} {n:Nat} (hc:∀ x,(c x).length=n):∀ (xs:List α) (k:Nat),(flC c xs).take (k * n)=flC c (xs.take k)
 | [],k=>by simp [flC]
 | x :: xs,0=>by simp [flC]
 | x :: xs,k+1=>by rw [flC,Nat.succ_mul,List.take_append,hc,List.take_of_length_le (by rw [hc];omega),Nat.add_sub_cancel,flC_take hc xs k,List.take_succ_cons,flC]
theorem cut_flC {α:Type} {c:α→List D} {n:Nat} (hc:∀ x,(c x).length=n) (xs:List α) (a b:Nat):cutD (.rows n xs.length (flC c xs)) a b = .rows n (b-a) (flC c ((xs.drop a).take (b-a))):=by
 unfold cutD
 simp only
 rw [flC_drop hc,flC_take hc]
structure Frm where
 pc:Int
 st:List Vl
 nm:List Vl
 deriving Inhabited
def frS (f:Frm):List D:=[.int f.pc,vsS f.st,vsS f.nm]
theorem frS_len (f:Frm):(frS f).length=3:=rfl
structure Mch where
 pc:Int
 st:List Vl
 nm:List Vl
 fr:List Frm
def mcS (m:Mch) (s:Int):List CD:=[.o (.int m.pc),.r (.rows 4 m.st.length (flC vlS m.st)),.r (.rows 4 m.nm.length (flC vlS m.nm)),.r (.rows 3 m.fr.length (flC frS m.fr)),.o (.int s)]
def vlQ (v:Vl):List CD:=[.o (.bool v.f),.o (.int v.m),.o (.bool v.r),.r (.rows 4 v.c.length (flC vlS v.c))]
def pushM (m:Mch) (v:Vl):Mch:=⟨m.pc,m.st++[v],m.nm,m.fr⟩
def popM (m:Mch) (k:Nat):Mch:=⟨m.pc,m.st.take (m.st.length-k),m.nm,m.fr⟩
def topM (m:Mch) (k:Nat):List Vl:=m.st.drop (m.st.length-k)
theorem top_len (m:Mch) (k:Nat):(topM m k).length=m.st.length-(m.st.length-k):=by unfold topM;rw [List.length_drop]
theorem pop_len (m:Mch) (k:Nat):(popM m k).st.length=m.st.length-k:=by unfold popM;simp only [List.length_take];omega
theorem vc1:((1:Nat):Int)=1:=rfl
theorem vc2:((2:Nat):Int)=2:=rfl
theorem in1:inI 1:=by unfold inI;omega
theorem in2:inI 2:=by unfold inI;omega
theorem list_one {α:Type} [Inhabited α] {l:List α} (h:l.length=1):l=[l[0]!]:=by
 match l,h with
 | [a],_=>rfl
theorem list_two {α:Type} [Inhabited α] {l:List α} (h:l.length=2):l=[l[0]!,l[1]!]:=by
 match l,h with
 | [a,b],_=>rfl
def opM (m:Mch) (s:ByteArray):Int × Mch :=
 if m.st.length<(opAr s).toNat then (4,m)
 else if (topM m (opAr s).toNat).any Vl.f=true then (3,popM m (opAr s).toNat)
 else (0,pushM (popM m (opAr s).toNat) (.num (apV s ((topM m (opAr s).toNat)[0]!).n (if opAr s=2 then ((topM m (opAr s).toNat)[1]!).n else 0))))
def callN (f x:Vl):List Vl:=(if f.r=true then f.c++[f] else f.c)++[x]
def callM (m:Mch):Int × Mch :=
 if m.st.length<2 then (4,m)
 else if ((topM m 2)[0]!).f=false then (3,popM m 2)
 else (0,⟨((topM m 2)[0]!).p,[],callN (topM m 2)[0]! (topM m 2)[1]!,m.fr++[⟨m.pc,(popM m 2).st,m.nm⟩]⟩)
def retM (m:Mch) (d:Vl):Int × Mch × Vl :=
 if m.st.length≠1 then (4,m,d)
 else if m.fr.length=0 then (1,m,m.st[0]!)
 else (0,⟨(m.fr[m.fr.length-1]!).pc,(m.fr[m.fr.length-1]!).st++[m.st[0]!],(m.fr[m.fr.length-1]!).nm,m.fr.take (m.fr.length-1)⟩,d)
def pcM (m:Mch) (p:Int):Mch:=⟨p,m.st,m.nm,m.fr⟩
def nmM (m:Mch) (l:List Vl):Mch:=⟨m.pc,m.st,l,m.fr⟩
def exM (m:Mch) (d:Vl) (x:Ins):Int × Mch × Vl :=
 if x.op=1∨x.op=2 then (0,pushM m (.num x.a),d)
 else if x.op=3 then (if m.nm.length≤x.a.toNat then (4,m,d) else (0,pushM m (m.nm[m.nm.length-1-x.a.toNat]!),d))
 else if x.op=4 then ((opM m (opB x.a)).1,(opM m (opB x.a)).2,d)
 else if x.op=5 then (0,pcM m x.a,d)
 else if x.op=6 then (if m.st.length<1 then (4,m,d) else if ((topM m 1)[0]!).f=true then (3,popM m 1,d) else if ((topM m 1)[0]!).n=0 then (0,pcM (popM m 1) x.a,d) else (0,popM m 1,d))
 else if x.op=7∨x.op=8 then (0,pushM m (.fn (decide (x.op=8)) x.a m.nm),d)
 else if x.op=9 then ((callM m).1,(callM m).2,d)
 else if x.op=10 then retM m d
 else if x.op=11 then (if m.st.length<1 then (4,m,d) else (0,nmM (popM m 1) (m.nm++[(topM m 1)[0]!]),d))
 else (if m.nm.length=0 then (4,m,d) else (0,nmM m (m.nm.take (m.nm.length-1)),d))
structure SzM (m:Mch):Prop where
 pc:0≤m.pc∧m.pc≤1000000
 st:m.st.length≤90000
 nm:m.nm.length≤90000
 fr:m.fr.length≤90000
 ct:∀ v ∈ m.st,v.c.length≤90000
 fs:∀ f ∈ m.fr,f.st.length≤90000
inductive Gd (n:Nat):Vl→Prop
 | num (a:Int):Gd n (.num a)
 | fn (r:Bool) (p:Int) (c:List Vl) (hp:0≤p∧p≤299) (hl:c.length≤n) (hc:∀ v ∈ c,Gd n v):Gd n (.fn r p c)
theorem Gd.mono {n k:Nat} (h:n≤k) {v:Vl} (hv:Gd n v):Gd k v:=by
 induction hv with
 | num a=>exact .num a
 | fn r p c hp hl hc ih=>exact .fn r p c hp (by omega) ih
theorem Gd.c {n:Nat} {v:Vl} (h:Gd n v):v.c.length≤n∧(∀ u ∈ v.c,Gd n u)∧(v.f=true→0≤v.p∧v.p≤299):=by
 cases h with
 | num a=>exact ⟨Nat.zero_le _,fun u hu=>(by simp [Vl.c] at hu),fun e=>(by cases e)⟩
 | fn r p c hp hl hc=>exact ⟨hl,hc,fun _=>hp⟩
structure GM (n:Nat) (m:Mch):Prop where
 pc:0≤m.pc∧m.pc≤n+300
 st:m.st.length≤n
 nm:m.nm.length≤2 * n
 fr:m.fr.length≤n
 sv:∀ v ∈ m.st,Gd (2 * n) v
 nv:∀ v ∈ m.nm,Gd (2 * n) v
 fv:∀ f ∈ m.fr,(0≤f.pc∧f.pc≤n+300)∧f.st.length≤n∧f.nm.length≤2 * n∧(∀ v ∈ f.st,Gd (2 * n) v)∧∀ v ∈ f.nm,Gd (2 * n) v
theorem GM.sz {n:Nat} {m:Mch} (h:GM n m) (hn:n≤10000):SzM m:=by
 refine ⟨⟨h.pc.1,by have:=h.pc;omega⟩,by have:=h.st;omega,by have:=h.nm;omega,by have:=h.fr;omega,fun v hv => ?_,fun f hf => ?_⟩
 ·have:=(h.sv v hv).c.1;omega
 ·have:=(h.fv f hf).2.1;omega
theorem GM.up {n:Nat} {m:Mch} (h:GM n m):GM (n+1) (pcM m (m.pc+1)):=by
 have u:∀ v,Gd (2 * n) v→Gd (2 * (n+1)) v:=fun v hv=>hv.mono (by omega)
 refine ⟨by have:=h.pc;unfold pcM;simp only;omega,by have:=h.st;unfold pcM;simp only;omega,by have:=h.nm;unfold pcM;simp only;omega,by have:=h.fr;unfold pcM;simp only;omega,fun v hv=>u v (h.sv v hv),fun v hv=>u v (h.nv v hv),fun f hf => ?_⟩
 obtain ⟨h1,h2,h3,h4,h5⟩:=h.fv f hf
 exact ⟨by omega,by omega,by omega,fun v hv=>u v (h4 v hv),fun v hv=>u v (h5 v hv)⟩
theorem push_ok {n:Nat} {m:Mch} (h:GM (n+1) m) (hs:m.st.length≤n) {v:Vl} (hv:Gd (2 * (n+1)) v):GM (n+1) (pushM m v):=by
 refine ⟨h.pc,by unfold pushM;simp only [List.length_append,List.length_singleton];omega,h.nm,h.fr,fun u hu => ?_,h.nv,h.fv⟩
 unfold pushM at hu
 rcases List.mem_append.1 hu with hu | hu
 ·exact h.sv u hu
 ·rw [List.mem_singleton.1 hu];exact hv
theorem pop_ok {n:Nat} {m:Mch} (h:GM n m) (k:Nat):GM n (popM m k) :=
 ⟨h.pc,by unfold popM;simp only [List.length_take];have:=h.st;omega,h.nm,h.fr,fun u hu=>h.sv u (List.mem_of_mem_take hu),h.nv,h.fv⟩
theorem top_mem {m:Mch} {k:Nat} {v:Vl} (h:v ∈ topM m k):v ∈ m.st:=List.mem_of_mem_drop h
theorem bang_gd {n:Nat} {l:List Vl} (h:∀ v ∈ l,Gd n v) (k:Nat):Gd n l[k]! := by
 by_cases hk:k<l.length
 ·exact h _ (mem_bang hk)
 ·rw [getElem!_neg l k hk];exact .num 0
set_option maxHeartbeats 4000000 in
theorem ex_ok {n:Nat} {m:Mch} (h:GM n m) {x:Ins} (hx:insB x=true) (d:Vl) (h0:(exM (pcM m (m.pc+1)) d x).1=0):GM (n+1) (exM (pcM m (m.pc+1)) d x).2.1:=by
 obtain ⟨ho,ha,h4,h38⟩:=ins_cases hx
 have hu:=h.up
 have hl:(pcM m (m.pc+1)).st.length≤n:=h.st
 have hln:(pcM m (m.pc+1)).nm.length≤2 * n:=h.nm
 have hlf:(pcM m (m.pc+1)).fr.length≤n:=h.fr
 have hfs:∀ f ∈ (pcM m (m.pc+1)).fr,f.st.length≤n:=fun f hf=>(h.fv f hf).2.1
 have hcx:∀ v ∈ (pcM m (m.pc+1)).st,v.c.length≤2 * n:=fun v hv=>(h.sv v hv).c.1
 generalize pcM m (m.pc+1)=m1 at *
 have hp:=pop_ok hu
 have hpl:∀ k,(popM m1 k).st.length≤n:=fun k=>by rw [pop_len];omega
 have htg:∀ k,∀ v ∈ topM m1 k,Gd (2 * (n+1)) v:=fun k v hv=>hu.sv v (top_mem hv)
 unfold exM at h0 ⊢
 split
 ·exact push_ok hu hl (.num _)
 rename_i n1;rw [if_neg n1] at h0
 split
 ·rename_i n2;rw [if_pos n2] at h0
  split
  ·rename_i n3;rw [if_pos n3] at h0;cases h0
  ·exact push_ok hu hl (bang_gd hu.nv _)
 rename_i n2;rw [if_neg n2] at h0
 split
 ·rename_i n3;rw [if_pos n3] at h0
  simp only at h0 ⊢
  unfold opM at h0 ⊢
  split
  ·rename_i q;rw [if_pos q] at h0;cases h0
  rename_i q;rw [if_neg q] at h0
  split
  ·rename_i q2;rw [if_pos q2] at h0;cases h0
  ·exact push_ok (hp _) (hpl _) (.num _)
 rename_i n3;rw [if_neg n3] at h0
 split
 ·rename_i q
  exact ⟨by unfold pcM;simp only;have:=h38 (by omega);omega,hu.st,hu.nm,hu.fr,hu.sv,hu.nv,hu.fv⟩
 rename_i n4;rw [if_neg n4] at h0
 split
 ·rename_i q;rw [if_pos q] at h0
  split
  ·rename_i q1;rw [if_pos q1] at h0;cases h0
  rename_i q1;rw [if_neg q1] at h0
  split
  ·rename_i q2;rw [if_pos q2] at h0;cases h0
  split
  ·have h2:=hp 1
   exact ⟨by unfold pcM;simp only;have:=h38 (by omega);omega,h2.st,h2.nm,h2.fr,h2.sv,h2.nv,h2.fv⟩
  ·exact hp 1
 rename_i n5;rw [if_neg n5] at h0
 split
 ·rename_i q
  exact push_ok hu hl (.fn _ _ _ ⟨ha.1,h38 (by omega)⟩ hu.nm hu.nv)
 rename_i n6;rw [if_neg n6] at h0
 split
 ·rename_i q;rw [if_pos q] at h0
  simp only at h0 ⊢
  unfold callM at h0 ⊢
  split
  ·rename_i q1;rw [if_pos q1] at h0;cases h0
  rename_i q1;rw [if_neg q1] at h0
  split
  ·rename_i q2;rw [if_pos q2] at h0;cases h0
  rename_i q2
  have h2:=hp 2
  have ht:(topM m1 2).length=2:=by rw [top_len];omega
  have g0:=bang_gd (htg 2) 0
  have g1:=bang_gd (htg 2) 1
  have c0:((topM m1 2)[0]!).c.length≤2 * n:=hcx _ (top_mem (mem_bang (by omega)))
  generalize (topM m1 2)[0]! = a at *
  generalize (topM m1 2)[1]! = b at *
  have hf:a.f=true:=by simpa using q2
  refine ⟨?_,Nat.zero_le _, ?_, ?_,fun v hv=>(by simp at hv),fun v hv => ?_,fun f hf => ?_⟩
  ·have:=g0.c.2.2 hf;simp only;omega
  ·simp only;unfold callN
   split <;> simp only [List.length_append,List.length_singleton] <;> omega
  ·simp only [List.length_append,List.length_singleton];omega
  ·simp only at hv
   unfold callN at hv
   split at hv
   ·simp only [List.mem_append,List.mem_singleton] at hv
    rcases hv with (hv | rfl) | rfl
    ·exact g0.c.2.1 v hv
    ·exact g0
    ·exact g1
   ·simp only [List.mem_append,List.mem_singleton] at hv
    rcases hv with hv | rfl
    ·exact g0.c.2.1 v hv
    ·exact g1
  ·simp only [List.mem_append,List.mem_singleton] at hf
   rcases hf with hf | rfl
   ·exact hu.fv f hf
   ·exact ⟨hu.pc,h2.st,hu.nm,h2.sv,hu.nv⟩
 rename_i n7;rw [if_neg n7] at h0
 split
 ·rename_i q;rw [if_pos q] at h0
  unfold retM at h0 ⊢
  split
  ·rename_i q1;rw [if_pos q1] at h0;cases h0
  rename_i q1;rw [if_neg q1] at h0
  split
  ·rename_i q2;rw [if_pos q2] at h0;cases h0
  rename_i q2
  have hm:=mem_bang (xs:=m1.fr) (k:=m1.fr.length-1) (by omega)
  obtain ⟨f1,f2,f3,f4,f5⟩:=hu.fv _ hm
  have f6:=hfs _ hm
  have g0:=bang_gd hu.sv 0
  refine ⟨f1,by simp only [List.length_append,List.length_singleton];omega,f3, ?_,fun v hv => ?_,f5,fun f hf=>hu.fv f (List.mem_of_mem_take hf)⟩
  ·simp only [List.length_take];omega
  ·simp only [List.mem_append,List.mem_singleton] at hv
   rcases hv with hv | rfl
   ·exact f4 v hv
   ·exact g0
 rename_i n8;rw [if_neg n8] at h0
 split
 ·rename_i q;rw [if_pos q] at h0
  split
  ·rename_i q1;rw [if_pos q1] at h0;cases h0
  have h2:=hp 1
  refine ⟨h2.pc,h2.st, ?_,h2.fr,h2.sv,fun v hv => ?_,h2.fv⟩
  ·unfold nmM;simp only [List.length_append,List.length_singleton];omega
  ·unfold nmM at hv
   simp only [List.mem_append,List.mem_singleton] at hv
   rcases hv with hv | rfl
   ·exact hu.nv v hv
   ·exact bang_gd (htg 1) 0
 rename_i n9;rw [if_neg n9] at h0
 split
 ·rename_i q;rw [if_pos q] at h0;cases h0
 ·exact ⟨hu.pc,hu.st,by unfold nmM;simp only [List.length_take];have:=hu.nm;omega,hu.fr,hu.sv,fun v hv=>hu.nv v (List.mem_of_mem_take hv),hu.fv⟩
structure Otc where
 s:Int
 n:Int
 f:Bool
 k:Int
def otC (o:Otc):List D:=[.int o.s,.int o.n,.bool o.f,.int o.k]
def runM (code : List Ins) : Nat → Nat → Mch → Otc
  | 0, n, m => ⟨2, 0, false, n⟩
  | r + 1, n, m =>
    if (code.length : Int) ≤ m.pc then ⟨4, 0, false, n⟩
    else if (exM (pcM m (m.pc + 1)) (.num 0) code[m.pc.toNat]!).1 = 0 then runM code r (n + 1) (exM (pcM m (m.pc + 1)) (.num 0) code[m.pc.toNat]!).2.1
    else if (exM (pcM m (m.pc + 1)) (.num 0) code[m.pc.toNat]!).1 = 1 then
      (if (exM (pcM m (m.pc + 1)) (.num 0) code[m.pc.toNat]!).2.2.f = true then ⟨1, 0, true, n + 1⟩ else ⟨1, (exM (pcM m (m.pc + 1)) (.num 0) code[m.pc.toNat]!).2.2.n, false, n + 1⟩)
    else ⟨(exM (pcM m (m.pc + 1)) (.num 0) code[m.pc.toNat]!).1, 0, false, n + 1⟩
def runO (code:List Ins) (fuel:Int):Otc:=if (codeB code && (decide (0≤fuel) && decide (fuel≤3000)))=true then runM code fuel.toNat 0 ⟨0,[],[],[]⟩ else ⟨0,0,false,0⟩
end Go.Proofs.YtaidalilfmjfgaaGreat
