import Derived.Test.YtaidalilfmjfgaaGreatClo
import Derived.Test.YtaidalilfmjfgaaGreatApO
namespace Go.Proofs.YtaidalilfmjfgaaGreat
open Go.Proofs.Tryz
open Go.RowKit
set_option linter.unusedVariables false
set_option linter.unusedSimpArgs false
inductive Vl where
 | num (n:Int)
 | fn (rc:Bool) (pl:Int) (cx:List Vl)
instance : Inhabited Vl := ⟨.num 0⟩
def Vl.n:Vl→Int | .num n=>n | .fn _ _ _=>0
def Vl.f:Vl→Bool | .num _=>false | .fn _ _ _=>true
def Vl.r:Vl→Bool | .num _=>false | .fn r _ _=>r
def Vl.p:Vl→Int | .num _=>0 | .fn _ p _=>p
def Vl.c:Vl→List Vl | .num _=>[] | .fn _ _ c=>c
def Vl.m:Vl→Int | .num n=>n | .fn _ p _=>p
theorem QQ (n:Int):(Vl.num n).n=n:=rfl
theorem IG (n:Int):(Vl.num n).f=false:=rfl
theorem Je (n:Int):(Vl.num n).r=false:=rfl
theorem aAR (n:Int):(Vl.num n).p=0:=rfl
theorem Jd (n:Int):(Vl.num n).c=[]:=rfl
theorem Oc (n:Int):(Vl.num n).m=n:=rfl
theorem aIY (r:Bool) (p:Int) (c:List Vl):(Vl.fn r p c).n=0:=rfl
theorem aEP (r:Bool) (p:Int) (c:List Vl):(Vl.fn r p c).f=true:=rfl
theorem aFe (r:Bool) (p:Int) (c:List Vl):(Vl.fn r p c).r=r:=rfl
theorem aIW (r:Bool) (p:Int) (c:List Vl):(Vl.fn r p c).p=p:=rfl
theorem aE5 (r:Bool) (p:Int) (c:List Vl):(Vl.fn r p c).c=c:=rfl
theorem aIS (r:Bool) (p:Int) (c:List Vl):(Vl.fn r p c).m=p:=rfl
mutual
def vlI:Vl→List D
 | .num n=>[.int n,.bool false,.bool false,.int 0,.rows 5 0 []]
 | .fn rc pl cx=>[.int 0,.bool true,.bool rc,.int pl,.rows 5 cx.length (aDY cx)]
def aDY:List Vl→List D
 | []=>[]
 | v :: l=>vlI v++aDY l
end
mutual
def vlS:Vl→List D
 | .num n=>[.bool false,.int n,.bool false,.rows 4 0 []]
 | .fn rc pl cx=>[.bool true,.int pl,.bool rc,.rows 4 cx.length (aC2 cx)]
def aC2:List Vl→List D
 | []=>[]
 | v :: l=>vlS v++aC2 l
end
theorem LP:∀ l,aDY l=flC vlI l
 | []=>by unfold aDY flC;rfl
 | v :: l=>by rw [aDY,flC,LP l]
theorem Mh:∀ l,aC2 l=flC vlS l
 | []=>by unfold aC2 flC;rfl
 | v :: l=>by rw [aC2,flC,Mh l]
def vsI (l:List Vl):D:=.rows 5 l.length (flC vlI l)
def vsS (l:List Vl):D:=.rows 4 l.length (flC vlS l)
theorem EP (v:Vl):vlI v=[.int v.n,.bool v.f,.bool v.r,.int v.p,.rows 5 v.c.length (flC vlI v.c)]:=by
 cases v with
 | num n=>unfold vlI;rfl
 | fn r p c=>unfold vlI;rw [LP];rfl
theorem EY (v:Vl):vlS v=[.bool v.f,.int v.m,.bool v.r,.rows 4 v.c.length (flC vlS v.c)]:=by
 cases v with
 | num n=>unfold vlS;rfl
 | fn r p c=>unfold vlS;rw [Mh];rfl
theorem Dj (v:Vl):(vlI v).length=5:=by rw [EP];rfl
theorem DX (v:Vl):(vlS v).length=4:=by rw [EY];rfl
theorem OI {α:Type} {c:α→List D} {n:Nat} (hc:∀ x,(c x).length=n):∀ (xs:List α) (k:Nat),(flC c xs).drop (k * n)=flC c (xs.drop k)
 | [],k=>by simp [flC]
 | x :: xs,0=>by simp
 | x :: xs,k+1=>by rw [flC,Nat.succ_mul,List.drop_append,hc,List.drop_of_length_le (by rw [hc];omega),List.nil_append,Nat.add_sub_cancel,OI hc xs k,List.drop_succ_cons]
theorem NV {α:Type} {c:α→List D} {n:Nat} (hc:∀ x,(c x).length=n):∀ (xs:List α) (k:Nat),(flC c xs).take (k * n)=flC c (xs.take k)
 | [],k=>by simp [flC]
 | x :: xs,0=>by simp [flC]
 | x :: xs,k+1=>by rw [flC,Nat.succ_mul,List.take_append,hc,List.take_of_length_le (by rw [hc];omega),Nat.add_sub_cancel,NV hc xs k,List.take_succ_cons,flC]
theorem Et {α:Type} {c:α→List D} {n:Nat} (hc:∀ x,(c x).length=n) (xs:List α) (a b:Nat):Hq (.rows n xs.length (flC c xs)) a b = .rows n (b-a) (flC c ((xs.drop a).take (b-a))):=by
 unfold Hq
 simp only
 rw [OI hc,NV hc]
structure Frm where
 pc:Int
 st:List Vl
 nm:List Vl
 deriving Inhabited
def frI (f:Frm):List D:=[.int f.pc,vsI f.st,vsI f.nm]
def frS (f:Frm):List D:=[.int f.pc,vsS f.st,vsS f.nm]
theorem QL (f:Frm):(frI f).length=3:=rfl
theorem SD (f:Frm):(frS f).length=3:=rfl
structure Mch where
 pc:Int
 st:List Vl
 nm:List Vl
 fr:List Frm
def vlP (v:Vl):List CD:=[.o (.int v.n),.o (.bool v.f),.o (.bool v.r),.o (.int v.p),.r (.rows 5 v.c.length (flC vlI v.c))]
def mcI (m:Mch) (d:Vl):List CD:=[.o (.int m.pc),.r (.rows 5 m.st.length (flC vlI m.st)),.r (.rows 5 m.nm.length (flC vlI m.nm)),.q 232 (.rows 3 m.fr.length (flC frI m.fr)),.o (.int d.n),.o (.bool d.f),.o (.bool d.r),.o (.int d.p),.r (.rows 5 d.c.length (flC vlI d.c))]
def mcS (m:Mch) (s:Int):List CD:=[.o (.int m.pc),.r (.rows 4 m.st.length (flC vlS m.st)),.r (.rows 4 m.nm.length (flC vlS m.nm)),.r (.rows 3 m.fr.length (flC frS m.fr)),.o (.int s)]
def vlQ (v:Vl):List CD:=[.o (.bool v.f),.o (.int v.m),.o (.bool v.r),.r (.rows 4 v.c.length (flC vlS v.c))]
def EK (m:Mch) (v:Vl):Mch:=⟨m.pc,m.st++[v],m.nm,m.fr⟩
def CN (m:Mch) (k:Nat):Mch:=⟨m.pc,m.st.take (m.st.length-k),m.nm,m.fr⟩
def Ee (m:Mch) (k:Nat):List Vl:=m.st.drop (m.st.length-k)
theorem Lw (l:List Vl) (hl:l.length≤1000000):Bc prog 170 [.b (.one (.rows 5 l.length (flC vlI l)))] [] [.one (.k (.rows 5 l.length (flC vlI l)))]:=by
 have e1:=Et Dj l 0 l.length
 rw [List.drop_zero,Nat.sub_zero,List.take_length] at e1
 refine Ad func170 rfl rfl (by simp [ntmps170]) rfl ?_
 exact byP (fc e1 (fc ntmps170 results170)) tI
theorem Qd (l:List Vl) (hl:l.length≤1000000):Bc prog 167 [.b (.one (.rows 5 l.length (flC vlI l)))] [] [.one (.q 136 (.rows 5 l.length (flC vlI l)))]:=by
 refine Ad func167 rfl rfl (by simp [ntmps167]) rfl ?_
 refine byP ntmps167 ?_
 refine Tk (q:=(136,5)) rfl (by simp only [td0,td1,td2,td3,td4,td5,td6]) (fun h0 => ?_) ?_
 ·obtain rfl:=List.eq_nil_of_length_eq_zero h0
  refine Aa 200 _ _ _ ?_
  simp only [push_cast,fQP,CC,rRs,rOs,rC,eRs,eOs,eC,↓reduceIte,Nat.reduceLT,reduceCtorEq,flC,results167]
 ·refine rG results167 ?_
  exact ⟨fun _ _=>trivial,by unfold maxLen;omega,by omega⟩
set_option maxRecDepth 10000 in
theorem DV (m:Mch) (d v:Vl) (hl:m.st.length≤100000):Bc prog 163 [.p (mcI m d),.g (vlP v)] [mcI (EK m v) d] []:=by
 have hC:=Lw m.st (by omega)
 have e1:vlI v=[.int v.n,.bool v.f,.bool v.r,.int v.p,.rows 5 v.c.length (flC vlI v.c)]:=EP v
 unfold EK mcI vlP
 rw [AM,AA,e1,List.length_append,List.length_singleton]
 refine BZ [4] func163 rfl rfl (by simp [ntmps163]) rfl ?_
 refine byP ntmps163 ?_
 refine Ac (oT [0,1,2,3,4,6] (.fork (.alt 5 (oF [7,8] (oT [9,10] (.cons 11 false .nil))) (.alt 7 (oF [5,8] (oT [9,10] (.cons 11 false .nil))) .last)))) (by kernel_rfl) BT (by kernel_rfl) (Aa 200 _ _ _ ?_)
 refine byQ ?_
 refine ⟨?_, ?_⟩
 all_goals (refine Bq (cap:=[]) hC rfl rfl rfl ?_ (Aa 200 _ _ _ ?_))
 all_goals simp only [push_cast,mkC,fQF,fQP,CC,rRs,rOs,rC,rCs,eRs,eOs,eC,eCs,AS.em,AS.fzL,AS.fzN,AS.fz,fzT,fzB,AV.fz,AV.fzs,Eh,En,AS.kb,EW,mkO,BN,Br,mPs,mP,aA,aD,↓reduceIte,Nat.reduceLT,Nat.reduceAdd,Nat.reduceLeDiff,Nat.reduceEqDiff,reduceCtorEq,results163]
 all_goals exact ⟨fun _ h=>h.elim,by unfold maxLen;omega,by omega⟩
theorem Ds (m:Mch) (k:Nat):(Ee m k).length=m.st.length-(m.st.length-k):=by unfold Ee;rw [List.length_drop]
theorem GA (m:Mch) (k:Nat):(CN m k).st.length=m.st.length-k:=by unfold CN;simp only [List.length_take];omega
theorem ZZ (m:Mch) (k:Nat):Hq (.rows 5 m.st.length (flC vlI m.st)) (m.st.length-k) m.st.length = .rows 5 (Ee m k).length (flC vlI (Ee m k)):=by
 rw [Et Dj,Ds]
 unfold Ee
 rw [List.take_of_length_le (by rw [List.length_drop];exact Nat.le_refl _)]
theorem aAS (m:Mch) (k:Nat):Hq (.rows 5 m.st.length (flC vlI m.st)) 0 (m.st.length-k) = .rows 5 (CN m k).st.length (flC vlI (CN m k).st):=by
 rw [Et Dj,GA,List.drop_zero,Nat.sub_zero];rfl
set_option maxRecDepth 10000 in
theorem Ht (m:Mch) (d:Vl) (k:Nat) (hl:m.st.length≤100000) (hk:k≤2) (h:m.st.length<k):Bc prog 166 [.p (mcI m d),.b (.one (.int (k:Int)))] [mcI m d] [.one (.r (.rows 5 0 [])),.one (.o (.bool false))]:=by
 have h1:(m.st.length:Int)-(k:Int)<0:=by omega
 have h2:inI ((m.st.length:Int)-(k:Int)):=by unfold inI;omega
 unfold mcI
 refine Ad func166 rfl rfl (by simp [ntmps166]) rfl ?_
 exact byP (fc h1 (fc h2 (fc ntmps166 results166))) tI
set_option maxRecDepth 10000 in
theorem HE (m:Mch) (d:Vl) (k:Nat) (hl:m.st.length≤100000) (hk:k≤2) (h:k≤m.st.length):Bc prog 166 [.p (mcI m d),.b (.one (.int (k:Int)))] [mcI (CN m k) d] [.one (.r (.rows 5 (Ee m k).length (flC vlI (Ee m k)))),.one (.o (.bool true))]:=by
 have h0:(m.st.length:Int)-(k:Int)=((m.st.length-k:Nat):Int):=by omega
 have h1:¬ ((m.st.length-k:Nat):Int)<0:=by omega
 have h2:inI ((m.st.length-k:Nat):Int):=by unfold inI;omega
 have h3:((m.st.length-k:Nat):Int)≤(m.st.length:Int):=by omega
 have h4:(CN m k).pc=m.pc:=rfl
 have h5:(CN m k).nm=m.nm:=rfl
 have h6:(CN m k).fr=m.fr:=rfl
 unfold mcI
 rw [h4,h5,h6]
 refine Ad func166 rfl rfl (by simp [ntmps166]) rfl ?_
 exact byP (fc h0 (fc h1 (fc h2 (fc h3 (fc ZZ (fc aAS (fc ntmps166 results166))))))) tI
theorem vc1:((1:Nat):Int)=1:=rfl
theorem vc2:((2:Nat):Int)=2:=rfl
theorem in1:inI 1:=by unfold inI;omega
theorem in2:inI 2:=by unfold inI;omega
theorem DP {α:Type} [Inhabited α] {l:List α} (h:l.length=1):l=[l[0]!]:=by
 match l,h with
 | [a],_=>rfl
theorem HA {α:Type} [Inhabited α] {l:List α} (h:l.length=2):l=[l[0]!,l[1]!]:=by
 match l,h with
 | [a,b],_=>rfl
theorem aCn (a:Vl):Hf (.rows 5 1 (vlI a)) 0=vlI a:=by
 unfold Hf rowAt
 simp only [Nat.zero_mul,List.drop_zero]
 rw [List.take_of_length_le (by rw [Dj];exact Nat.le_refl _)]
theorem aBI (a b:Vl):rowAt 5 (vlI a++vlI b) 0=vlI a:=by
 unfold rowAt
 rw [Nat.zero_mul,List.drop_zero,List.take_append_of_le_length (by rw [Dj];exact Nat.le_refl _),List.take_of_length_le (by rw [Dj];exact Nat.le_refl _)]
theorem aCU (a b:Vl):rowAt 5 (vlI a++vlI b) 1=vlI b:=by
 unfold rowAt
 rw [Nat.one_mul,← Dj a,List.drop_left' rfl,Dj,List.take_of_length_le (by rw [Dj];exact Nat.le_refl _)]
def opM (m:Mch) (s:ByteArray):Int × Mch :=
 if m.st.length<(CQ s).toNat then (4,m)
 else if (Ee m (CQ s).toNat).any Vl.f=true then (3,CN m (CQ s).toNat)
 else (0,EK (CN m (CQ s).toNat) (.num (apV s ((Ee m (CQ s).toNat)[0]!).n (if CQ s=2 then ((Ee m (CQ s).toNat)[1]!).n else 0))))
set_option maxRecDepth 10000 in
theorem MK (m:Mch) (d:Vl) (s:ByteArray) (hl:m.st.length≤100000) (hs:CQ s=1∨CQ s=2):Bc prog 164 [.p (mcI m d),.b (.one (.str s))] [mcI (opM m s).2 d] [.one (.o (.int (opM m s).1))]:=by
 have hO:=SE s
 have hk:CQ s=((CQ s).toNat:Int):=by omega
 rw [hk] at hO
 obtain ⟨k,hkk⟩:∃ k,k=(CQ s).toNat:=⟨_,rfl⟩
 have hpc:(CN m k).pc=m.pc:=rfl
 have hpn:(CN m k).nm=m.nm:=rfl
 have hpf:(CN m k).fr=m.fr:=rfl
 unfold opM
 rw [← hkk] at hO ⊢
 by_cases h4:m.st.length<k
 ·rw [if_pos h4]
  have hP:=Ht m d k hl (by omega) h4
  unfold mcI at hP ⊢
  simp only
  refine Ad func164 rfl rfl (by simp [ntmps164]) rfl ?_
  refine byP ntmps164 ?_
  refine Kc hO ?_
  refine rQ ?_
  refine KR hP ?_
  exact rG results164 tI
 rw [if_neg h4]
 have hP:=HE m d k hl (by omega) (by omega)
 obtain ⟨m1,hm1⟩:∃ m1,m1=CN m k:=⟨_,rfl⟩
 obtain ⟨tp,htp⟩:∃ tp,tp=Ee m k:=⟨_,rfl⟩
 have htl:tp.length=k:=by rw [htp,Ds];omega
 have hml:m1.st.length≤100000:=by rw [hm1,GA];omega
 rw [← hm1,← htp] at hP ⊢
 clear hm1 htp h4 hpc hpn hpf
 have hA:=PH s
 rcases hs with h1 | h2
 ·have hk1:k=1:=by rw [hkk,h1];rfl
  subst hk1
  rw [vc1] at hO hP
  rw [DP htl] at hP ⊢
  generalize tp[0]! = a at hP ⊢
  have e1:=EP a
  simp only [AA,List.length_singleton] at hP
  have hn2:¬ CQ s=2:=by omega
  simp only [List.any_cons,List.any_nil,Bool.or_false,hn2,if_false]
  cases ha:a.f with
  | true =>
   rw [if_pos rfl]
   unfold mcI at hP ⊢
   simp only
   have hr:=aCn a
   unfold Hf at hr
   simp only [e1,ha] at hr hP
   refine Ad func164 rfl rfl (by simp [ntmps164]) rfl ?_
   refine byP ntmps164 ?_
   refine Kc hO ?_
   refine rQ ?_
   refine KR hP ?_
   refine rQ ?_
   refine CI 2 (Aa 200 _ _ _ ?_)
   simp only [fQP,CC,rRs,rOs,rC,rCs,eRs,eOs,eC,eCs,aD,Hf,LO,rD,eq_self,Ct,vE,vP,JP,Fp,Mo,Mn,Qw,Gz,Om,OY,Do,Eg,isB,bv,gN,Cp,Dd,AS.pt,AS.ev,AS.box,AS.setb,AS.owf,AO,cav,avB,Aw,AV.cells,AV.whole,AV.one,td0,td1,td2,td3,td4,td5,td6,Option.bind,Option.getD,Option.isSome,List.map,List.take,List.drop,List.length,List.getElem?_cons_zero,List.getElem?_cons_succ,List.set,List.all,List.not_mem_nil,List.nodup_cons,List.nodup_nil,List.nil_append,List.append_nil,↓reduceIte,Nat.reduceLT,Nat.reduceAdd,Nat.reduceEqDiff,Nat.zero_add,ne_eq,not_false_eq_true,or_false,Bool.and_true,Bool.false_eq_true,id_eq,reduceCtorEq,Int.reduceLT,Int.toNat_zero,Int.le_refl,decide_true,and_self,Nat.succ_ne_zero,Nat.le_refl,hr,vc1,Jv,results164]
  | false =>
   rw [if_neg (by simp)]
   have e0:[a][0]! = a:=rfl
   rw [e0]
   have hU:=DV m1 d (.num (apV s a.n 0)) hml
   unfold mcI at hP hU ⊢
   unfold vlP at hU
   simp only [QQ,IG,Je,aAR,Jd,List.length_nil,flC] at hU ⊢
   have hr:=aCn a
   unfold Hf at hr
   simp only [e1,ha] at hr hP
   refine Ad func164 rfl rfl (by simp [ntmps164]) rfl ?_
   refine byP ntmps164 ?_
   refine Kc hO ?_
   refine rQ ?_
   refine KR hP ?_
   refine rG vc1 ?_
   refine CI 2 (Aa 200 _ _ _ ?_)
   simp only [Hf,eq_self,Ct,vE,vP,JP,Fp,Mo,Mn,Qw,Gz,Om,OY,Do,Qt,MH,Ed,Qz,AS.setO,AV.unsp,AV.unsps,IK,Iz,Eg,isB,bv,gN,Cp,Dd,AS.pt,AS.ev,AS.box,AS.setb,AS.owf,AO,cav,avB,Aw,AV.cells,AV.whole,AV.one,td0,td1,td2,td3,td4,td5,td6,Option.bind,Option.getD,Option.isSome,List.map,List.take,List.drop,List.length,List.getElem?_cons_zero,List.getElem?_cons_succ,List.set,List.all,↓reduceIte,Nat.reduceLT,Nat.reduceAdd,Nat.reduceEqDiff,Nat.zero_add,Nat.add_zero,ne_eq,not_false_eq_true,true_and,Bool.and_true,Bool.false_eq_true,id_eq,Int.reduceLT,Int.reduceAdd,Int.toNat_zero,Int.le_refl,decide_true,and_self,Nat.succ_ne_zero,Nat.le_refl,hr,vc1,vc2,in1,qR_normal]
   refine Aa 200 _ _ _ ?_
   simp only [eq_self,Ct,vE,vP,Qw,Gz,Om,OY,Eg,isB,bv,gN,Cp,Dd,Eo,AS.pt,AS.ev,AO,td0,td1,td2,td3,td4,td5,td6,Option.getD,Option.isSome,↓reduceIte,Nat.reduceLT,Nat.reduceEqDiff,true_and,Bool.false_eq_true,Int.reduceLT,decide_false,qR_exit]
   refine rQ ?_
   refine Ac (.cons 0 true (.cons 1 true (.cons 2 true (.cons 3 true (.cons 4 true (.cons 5 true (.cons 6 true (.cons 7 false (.cons 8 true (.cons 9 true (.cons 10 true (.cons 11 true (.cons 12 true (.nil)))))))))))))) (by kernel_rfl) Ar (by kernel_rfl) (Aa 200 _ _ _ ?_)
   simp only [Hf,eq_self,Ct,vP,JP,Fp,Mn,gN,Cp,Dd,AS.pt,AS.ev,AS.owf,AO,cav,avO,avF,td0,td1,td2,td3,td4,td5,td6,Option.bind,Option.getD,Option.isSome,List.map,List.take,List.drop,List.getElem?_cons_zero,List.getElem?_cons_succ,↓reduceIte,Nat.reduceLT,Nat.reduceEqDiff,true_and,Bool.false_eq_true,id_eq,Int.reduceLT,Int.reduceLE,Int.toNat_zero,Int.toNat_one,Int.le_refl,and_self,Nat.succ_ne_zero,vc2,rowAt]
   refine AR (hA a.n 0) rfl (Am ?_) ?_ (Aa 200 _ _ _ ?_)
   ·exact byQ tI
   ·simp only [okR]
   refine byQ ?_
   refine KR hU ?_
   exact rG results164 tI
 ·have hk2:k=2:=by rw [hkk,h2];rfl
  subst hk2
  rw [vc2] at hO hP
  rw [HA htl] at hP ⊢
  generalize tp[0]! = a at hP ⊢
  generalize tp[1]! = b at hP ⊢
  have e1:=EP a
  have e2:=EP b
  have hr:=aBI a b
  have hr2:=aCU a b
  have e0:[a,b][0]! = a:=rfl
  have e00:[a,b][1]! = b:=rfl
  have ef:flC vlI [a,b]=vlI a++vlI b:=by simp only [flC,List.append_nil]
  rw [ef] at hP
  simp only [List.length_cons,List.length_nil,Nat.zero_add,Nat.reduceAdd] at hP
  simp only [List.any_cons,List.any_nil,Bool.or_false,h2,if_true,e0,e00]
  cases ha:a.f with
  | true =>
   rw [if_pos (by simp)]
   unfold mcI at hP ⊢
   simp only
   simp only [e1,e2,ha,List.cons_append,List.nil_append] at hr hr2 hP
   refine Ad func164 rfl rfl (by simp [ntmps164]) rfl ?_
   refine byP ntmps164 ?_
   refine Kc hO ?_
   refine rQ ?_
   refine KR hP ?_
   refine rG vc2 ?_
   refine CI 2 (Aa 200 _ _ _ ?_)
   simp only [fQP,CC,rRs,rOs,rC,rCs,eRs,eOs,eC,eCs,aD,Hf,LO,rD,eq_self,Ct,vE,vP,JP,Fp,Mo,Mn,Qw,Gz,Om,OY,Do,Eg,isB,bv,gN,Cp,Dd,AS.pt,AS.ev,AS.box,AS.setb,AS.owf,AO,cav,avB,Aw,AV.cells,AV.whole,AV.one,td0,td1,td2,td3,td4,td5,td6,Option.bind,Option.getD,Option.isSome,List.map,List.take,List.drop,List.length,List.getElem?_cons_zero,List.getElem?_cons_succ,List.set,List.all,List.not_mem_nil,List.nodup_cons,List.nodup_nil,List.nil_append,List.append_nil,↓reduceIte,Nat.reduceLT,Nat.reduceAdd,Nat.reduceEqDiff,Nat.zero_add,ne_eq,not_false_eq_true,or_false,Bool.and_true,Bool.false_eq_true,id_eq,reduceCtorEq,Int.reduceLT,Int.toNat_zero,Int.le_refl,decide_true,and_self,Nat.succ_ne_zero,Nat.le_refl,hr,vc2,Jv,results164]
  | false =>
   cases hb:b.f with
   | true =>
    rw [if_pos (by simp)]
    unfold mcI at hP ⊢
    simp only
    simp only [e1,e2,ha,hb,List.cons_append,List.nil_append] at hr hr2 hP
    refine Ad func164 rfl rfl (by simp [ntmps164]) rfl ?_
    refine byP ntmps164 ?_
    refine Kc hO ?_
    refine rQ ?_
    refine KR hP ?_
    refine rG vc2 ?_
    refine CI 2 (Aa 200 _ _ _ ?_)
    simp only [Hf,eq_self,Ct,vE,vP,JP,Fp,Mo,Mn,Qw,Gz,Om,OY,Do,Qt,MH,Ed,Qz,AS.setO,AV.unsp,AV.unsps,IK,Iz,Eg,isB,bv,gN,Cp,Dd,AS.pt,AS.ev,AS.box,AS.setb,AS.owf,AO,cav,avB,Aw,AV.cells,AV.whole,AV.one,td0,td1,td2,td3,td4,td5,td6,Option.bind,Option.getD,Option.isSome,List.map,List.take,List.drop,List.length,List.getElem?_cons_zero,List.getElem?_cons_succ,List.set,List.all,↓reduceIte,Nat.reduceLT,Nat.reduceAdd,Nat.reduceEqDiff,Nat.zero_add,Nat.add_zero,ne_eq,not_false_eq_true,true_and,Bool.and_true,Bool.false_eq_true,id_eq,Int.reduceLT,Int.reduceAdd,Int.toNat_zero,Int.le_refl,decide_true,and_self,Nat.succ_ne_zero,Nat.le_refl,hr,vc2,in1,qR_normal]
    refine Aa 200 _ _ _ ?_
    simp only [fQP,CC,rRs,rOs,rC,rCs,eRs,eOs,eC,eCs,aD,Hf,LO,rD,eq_self,Ct,vE,vP,JP,Fp,Mo,Mn,Qw,Gz,Om,OY,Do,Eg,isB,bv,gN,Cp,Dd,AS.pt,AS.ev,AS.box,AS.setb,AS.owf,AO,cav,avB,Aw,AV.cells,AV.whole,AV.one,td0,td1,td2,td3,td4,td5,td6,Option.bind,Option.getD,Option.isSome,List.map,List.take,List.drop,List.length,List.getElem?_cons_zero,List.getElem?_cons_succ,List.set,List.all,List.not_mem_nil,List.nodup_cons,List.nodup_nil,List.nil_append,List.append_nil,↓reduceIte,Nat.reduceLT,Nat.reduceAdd,Nat.reduceEqDiff,Nat.zero_add,ne_eq,not_false_eq_true,or_false,Bool.and_true,Bool.false_eq_true,id_eq,reduceCtorEq,Int.reduceLT,Int.reduceLE,Int.toNat_one,decide_true,and_self,Nat.succ_ne_zero,Nat.le_refl,hr2,vc2,Jv,results164]
   | false =>
    rw [if_neg (by simp)]
    have hU:=DV m1 d (.num (apV s a.n b.n)) hml
    unfold mcI at hP hU ⊢
    unfold vlP at hU
    simp only [QQ,IG,Je,aAR,Jd,List.length_nil,flC] at hU ⊢
    simp only [e1,e2,ha,hb,List.cons_append,List.nil_append] at hr hr2 hP
    refine Ad func164 rfl rfl (by simp [ntmps164]) rfl ?_
    refine byP ntmps164 ?_
    refine Kc hO ?_
    refine rQ ?_
    refine KR hP ?_
    refine rG vc2 ?_
    refine CI 2 (Aa 200 _ _ _ ?_)
    simp only [Hf,eq_self,Ct,vE,vP,JP,Fp,Mo,Mn,Qw,Gz,Om,OY,Do,Qt,MH,Ed,Qz,AS.setO,AV.unsp,AV.unsps,IK,Iz,Eg,isB,bv,gN,Cp,Dd,AS.pt,AS.ev,AS.box,AS.setb,AS.owf,AO,cav,avB,Aw,AV.cells,AV.whole,AV.one,td0,td1,td2,td3,td4,td5,td6,Option.bind,Option.getD,Option.isSome,List.map,List.take,List.drop,List.length,List.getElem?_cons_zero,List.getElem?_cons_succ,List.set,List.all,↓reduceIte,Nat.reduceLT,Nat.reduceAdd,Nat.reduceEqDiff,Nat.zero_add,Nat.add_zero,ne_eq,not_false_eq_true,true_and,Bool.and_true,Bool.false_eq_true,id_eq,Int.reduceLT,Int.reduceAdd,Int.toNat_zero,Int.le_refl,decide_true,and_self,Nat.succ_ne_zero,Nat.le_refl,hr,vc2,in1,qR_normal]
    refine rG (fc hr2 (fc vc2 (fc in2 @qR_normal))) ?_
    refine rG @qR_exit ?_
    refine rQ ?_
    refine Ac (oT [0,1,2,3,4,5,6] (.cons 7 false (oT [8,9,10,11,12] .nil))) (by kernel_rfl) Ar (by kernel_rfl) (Aa 200 _ _ _ ?_)
    refine byP (fc vc2 @rowAt.eq_1) ?_
    refine KD (hA a.n b.n) ?_
    refine rQ ?_
    refine KR hU ?_
    exact rG results164 tI
theorem RQ {α:Type} (A zs:List α) (i:Nat) (x:α):(A++zs).set (A.length+i) x=A++zs.set i x:=by
 rw [List.set_append_right _ _ (by omega),Nat.add_sub_cancel_left]
theorem aID (A:List D) (z1 z2 z3 z4 z5 a b c d e:D) (p:Nat) (hp:A.length=p):Aw (A++[z1,z2,z3,z4,z5]) p [a,b,c,d,e]=A++[a,b,c,d,e]:=by
 subst hp
 have h0:=RQ A [z1,z2,z3,z4,z5] 0 a
 rw [Nat.add_zero] at h0
 simp only [Aw,h0,RQ,Nat.add_assoc,Nat.reduceAdd,List.set_cons_zero,List.set_cons_succ]
def LH (f x:Vl):List Vl:=(if f.r=true then f.c++[f] else f.c)++[x]
def FS (m:Mch):Int × Mch :=
 if m.st.length<2 then (4,m)
 else if ((Ee m 2)[0]!).f=false then (3,CN m 2)
 else (0,⟨((Ee m 2)[0]!).p,[],LH (Ee m 2)[0]! (Ee m 2)[1]!,m.fr++[⟨m.pc,(CN m 2).st,m.nm⟩]⟩)
set_option maxRecDepth 10000 in
theorem Ux (m:Mch) (d:Vl) (hl:m.st.length≤100000) (hc:∀ v ∈ m.st,v.c.length≤100000) (hf:m.fr.length≤100000):Bc prog 168 [.p (mcI m d)] [mcI (FS m).2 d] [.one (.o (.int (FS m).1))]:=by
 unfold FS
 by_cases h4:m.st.length<2
 ·rw [if_pos h4]
  have hP:=Ht m d 2 hl (by omega) h4
  rw [vc2] at hP
  unfold mcI at hP ⊢
  simp only
  refine Ad func168 rfl rfl (by simp [ntmps168]) rfl ?_
  refine byP ntmps168 ?_
  refine KR hP ?_
  exact rG results168 tI
 rw [if_neg h4]
 have hP:=HE m d 2 hl (by omega) (by omega)
 rw [vc2] at hP
 obtain ⟨tp,htp⟩:∃ tp,tp=Ee m 2:=⟨_,rfl⟩
 have htl:tp.length=2:=by rw [htp,Ds];omega
 have hcc:∀ v ∈ tp,v.c.length≤100000:=fun v hv=>hc v (by rw [htp] at hv;exact List.mem_of_mem_drop hv)
 have hpc:(CN m 2).pc=m.pc:=rfl
 have hpn:(CN m 2).nm=m.nm:=rfl
 have hpf:(CN m 2).fr=m.fr:=rfl
 unfold mcI at hP
 rw [hpc,hpn,hpf] at hP
 rw [← htp] at hP ⊢
 rw [HA htl] at hP hcc ⊢
 generalize tp[0]! = a at hP hcc ⊢
 generalize tp[1]! = b at hP hcc ⊢
 have e1:=EP a
 have e2:=EP b
 have hr:=aBI a b
 have hr2:=aCU a b
 have e0:[a,b][0]! = a:=rfl
 have e00:[a,b][1]! = b:=rfl
 have ef:flC vlI [a,b]=vlI a++vlI b:=by simp only [flC,List.append_nil]
 have hal:=hcc a (by simp)
 rw [ef] at hP
 rw [e0,e00]
 simp only [List.length_cons,List.length_nil,Nat.zero_add,Nat.reduceAdd] at hP
 cases ha:a.f with
 | false =>
  rw [if_pos rfl]
  unfold mcI
  rw [hpc,hpn,hpf]
  simp only [e1,e2,ha,List.cons_append,List.nil_append] at hr hr2 hP
  refine Ad func168 rfl rfl (by simp [ntmps168]) rfl ?_
  refine byP ntmps168 ?_
  refine KR hP ?_
  exact rG (fc hr (fc vc2 results168)) tI
 | true =>
  rw [if_neg (by simp)]
  have hK:=Qd a.c (by omega)
  have hfa:flC frI (m.fr++[⟨m.pc,(CN m 2).st,m.nm⟩])=flC frI m.fr++[.int m.pc,.rows 5 (CN m 2).st.length (flC vlI (CN m 2).st),.rows 5 m.nm.length (flC vlI m.nm)]:=by rw [AM,AA];rfl
  generalize (CN m 2).st=st2 at hP hfa ⊢
  unfold mcI
  simp only
  rw [hfa,List.length_append,List.length_singleton]
  simp only [flC,List.length_nil]
  have hl1:(flC vlI a.c).length=a.c.length * 5:=KW Dj a.c
  have s1:=aID (flC vlI a.c) (.int 0) (.bool false) (.bool false) (.int 0) (.rows 0 0 []) (.int b.n) (.bool b.f) (.bool b.r) (.int b.p) (.rows 5 b.c.length (flC vlI b.c)) _ hl1
  simp only [Aw] at s1
  have i1:((a.c.length:Nat):Int)<((a.c.length+1:Nat):Int):=by omega
  cases hrr:a.r with
  | false =>
   have hn:LH a b=a.c++[b]:=by unfold LH;rw [hrr,if_neg (by simp)]
   rw [hn,AM,AA,e2,List.length_append,List.length_singleton]
   simp only [e1,e2,ha,hrr,List.cons_append,List.nil_append] at hr hr2 hP
   refine BZ [8] func168 rfl rfl (by simp [ntmps168]) rfl ?_
   refine byP ntmps168 ?_
   refine KR hP ?_
   refine rG (fc hr vc2) ?_
   refine Ac (oT [0,1,2,3,4,5,6,7,8,9,10,11,12,13,14,15,16,17] (oF [18,19] (oT [20,21] (.cons 22 false .nil)))) (by kernel_rfl) BT (by kernel_rfl) (Aa 200 _ _ _ ?_)
   refine byP (fc hr vc2) ?_
   refine ⟨⟨fun _ h=>(by omega),by unfold maxLen;omega,by omega⟩, ?_⟩
   refine KR hK ?_
   refine rQ ?_
   refine Ac (.cons 0 true (.cons 1 true (.cons 2 true (.cons 3 true (.cons 4 true (.cons 5 true (.cons 6 true (.cons 7 true (.cons 8 false (.cons 9 false (.cons 12 true (.cons 13 true (.fork (.alt 10 (.fork (.alt 11 (.cons 14 false (.nil)) (.alt 14 (.cons 11 false (.nil)) (.last)))) (.alt 14 (.cons 10 true (.cons 11 false (.nil))) (.last)))))))))))))))) (by kernel_rfl) BT (by kernel_rfl) (Aa 200 _ _ _ ?_)
   simp only [Hf,eq_self,Ct,vE,vP,JP,Fp,Mo,Mn,Xo,Uo,Do,Qt,XD,FI,Qz,AS.setO,AV.unsp,AV.unsps,IK,Iz,Us,apP,apC,QT,EE,Up,We,gN,Cp,Dd,AS.pt,AS.ev,AS.setb,AS.mk',AS.owf,AS.rd,Ur,AO,cav,XV,avB,Aw,AV.cells,AV.whole,AV.one,cD,cDs,AB,Qx,td0,td1,td2,td3,td4,td5,td6,Option.bind,Option.getD,Option.map,Option.isSome,List.map,List.take,List.drop,List.length,List.getElem?_cons_zero,List.getElem?_cons_succ,List.set,List.foldr,List.all,List.replicate,List.mem_cons,List.not_mem_nil,List.nodup_nil,List.nil_append,List.cons_append,↓reduceIte,Nat.reduceLT,Nat.reduceAdd,Nat.reduceLeDiff,Nat.reduceEqDiff,Nat.zero_add,Nat.add_zero,Nat.zero_mul,Nat.one_mul,ne_eq,not_false_eq_true,true_and,and_true,or_false,or_true,Bool.and_true,Bool.false_eq_true,id_eq,reduceCtorEq,Int.toNat_natCast,Int.reduceLT,Int.reduceLE,Int.toNat_one,Int.natCast_nonneg,and_self,Nat.succ_ne_zero,Nat.le_refl,hr2,vc2,i1,s1]
   refine ⟨⟨fun o h h2=>(by omega),by unfold maxLen;omega,by omega⟩, ?_⟩
   refine Ac (.cons 0 true (.cons 1 true (.cons 2 true (.cons 4 true (.cons 5 true (.fork (.alt 3 (.cons 6 false (.cons 7 true (.cons 8 true (.cons 9 false (.nil))))) (.alt 6 (.cons 3 true (.cons 7 true (.cons 8 true (.cons 9 false (.nil))))) (.last))))))))) (by kernel_rfl) BT (by kernel_rfl) (Aa 200 _ _ _ ?_)
   exact byP results168 tI
  | true =>
   have hn:LH a b=(a.c++[a])++[b]:=by unfold LH;rw [hrr,if_pos rfl]
   have hl2:(flC vlI a.c++vlI a).length=(a.c.length+1) * 5:=by rw [List.length_append,hl1,Dj];omega
   have s2:=aID (flC vlI a.c) (.int 0) (.bool false) (.bool false) (.int 0) (.rows 0 0 []) (.int a.n) (.bool a.f) (.bool a.r) (.int a.p) (.rows 5 a.c.length (flC vlI a.c)) _ hl1
   have s3:=aID (flC vlI a.c++vlI a) (.int 0) (.bool false) (.bool false) (.int 0) (.rows 0 0 []) (.int b.n) (.bool b.f) (.bool b.r) (.int b.p) (.rows 5 b.c.length (flC vlI b.c)) _ hl2
   simp only [Aw] at s2 s3
   have i2:((a.c.length+1:Nat):Int)<((a.c.length+1+1:Nat):Int):=by omega
   rw [hn,AM,AM,AA,AA,e2,List.length_append,List.length_append,List.length_singleton,List.length_singleton]
   simp only [e1,ha,hrr] at hr hr2 hP s2 s3 ⊢
   simp only [e2,List.cons_append,List.nil_append] at hr hr2 hP
   refine BZ [10] func168 rfl rfl (by simp [ntmps168]) rfl ?_
   refine byP ntmps168 ?_
   refine KR hP ?_
   refine rG (fc hr vc2) ?_
   refine Ac (oT [0,1,2,3,4,5,6,7,8,9,10,11,12,13,14,15,16,17] (oF [18,19] (oT [20,21] (.cons 22 false .nil)))) (by kernel_rfl) BT (by kernel_rfl) (Aa 200 _ _ _ ?_)
   refine byP (fc hr vc2) ?_
   refine ⟨⟨fun _ h=>(by omega),by unfold maxLen;omega,by omega⟩, ?_⟩
   refine KR hK ?_
   refine rQ ?_
   refine Ac (.cons 0 true (.cons 1 true (.cons 2 true (.cons 3 true (.cons 4 true (.cons 5 true (.cons 6 false (.cons 7 false (.cons 10 true (.cons 11 true (.fork (.alt 8 (.fork (.alt 9 (.cons 12 false (.nil)) (.alt 12 (.cons 9 false (.nil)) (.last)))) (.alt 12 (.cons 8 true (.cons 9 false (.nil))) (.last)))))))))))))) (by kernel_rfl) BT (by kernel_rfl) (Aa 200 _ _ _ ?_)
   simp only [eq_self,Ct,vE,vP,JP,Fp,Mo,Mn,Xo,Uo,Do,Qt,XD,FI,Qz,AS.setO,AV.unsp,AV.unsps,IK,Iz,Us,apP,apC,QT,EE,Up,We,gN,Cp,Dd,AS.pt,AS.ev,AS.setb,AS.mk',AS.owf,AS.rd,Ur,AO,cav,XV,Aw,AV.cells,AV.whole,AV.one,cD,cDs,AB,Qx,td0,td1,td2,td3,td4,td5,td6,Option.bind,Option.getD,Option.map,Option.isSome,List.map,List.take,List.drop,List.length,List.getElem?_cons_zero,List.getElem?_cons_succ,List.set,List.foldr,List.all,List.replicate,List.mem_cons,List.not_mem_nil,List.nodup_nil,List.nil_append,List.cons_append,↓reduceIte,Nat.reduceLT,Nat.reduceAdd,Nat.reduceLeDiff,Nat.reduceEqDiff,Nat.zero_add,Nat.add_zero,Nat.zero_mul,Nat.one_mul,ne_eq,not_false_eq_true,true_and,and_true,or_false,or_true,Bool.and_true,Bool.false_eq_true,id_eq,reduceCtorEq,Int.toNat_natCast,Int.natCast_nonneg,and_self,Nat.succ_ne_zero,Nat.le_refl,i1,s2]
   refine ⟨⟨fun o h h2=>(by omega),by unfold maxLen;omega,by omega⟩, ?_⟩
   refine Ac (.cons 0 true (.cons 1 true (.cons 2 true (.cons 3 true (.cons 4 true (.cons 5 true (.cons 6 true (.cons 7 true (.cons 8 false (.cons 9 false (.cons 12 true (.cons 13 true (.fork (.alt 10 (.fork (.alt 11 (.cons 14 false (.nil)) (.alt 14 (.cons 11 false (.nil)) (.last)))) (.alt 14 (.cons 10 true (.cons 11 false (.nil))) (.last)))))))))))))))) (by kernel_rfl) BT (by kernel_rfl) (Aa 200 _ _ _ ?_)
   simp only [Hf,eq_self,Ct,vE,vP,JP,Fp,Mo,Mn,Xo,Uo,Do,Qt,XD,FI,Qz,AS.setO,AV.unsp,AV.unsps,IK,Iz,Us,apP,apC,QT,EE,Up,We,gN,Cp,Dd,AS.pt,AS.ev,AS.setb,AS.mk',AS.owf,AS.rd,Ur,AO,cav,XV,avB,Aw,AV.cells,AV.whole,AV.one,cD,cDs,AB,Qx,td0,td1,td2,td3,td4,td5,td6,Option.bind,Option.getD,Option.map,Option.isSome,List.map,List.take,List.drop,List.length,List.getElem?_cons_zero,List.getElem?_cons_succ,List.set,List.foldr,List.all,List.replicate,List.mem_cons,List.not_mem_nil,List.nodup_nil,List.nil_append,List.cons_append,↓reduceIte,Nat.reduceLT,Nat.reduceAdd,Nat.reduceLeDiff,Nat.reduceEqDiff,Nat.zero_add,Nat.add_zero,Nat.zero_mul,Nat.one_mul,ne_eq,not_false_eq_true,true_and,and_true,or_false,or_true,Bool.and_true,Bool.false_eq_true,id_eq,reduceCtorEq,Int.toNat_natCast,Int.reduceLT,Int.reduceLE,Int.toNat_one,Int.natCast_nonneg,and_self,Nat.succ_ne_zero,Nat.le_refl,hr2,vc2,i2,s3]
   refine ⟨⟨fun o h h2=>(by omega),by unfold maxLen;omega,by omega⟩, ?_⟩
   refine Ac (oT [0,1,2,4,5] (.fork (.alt 3 (.cons 6 false (oT [7,8] (.cons 9 false .nil))) (.alt 6 (oT [3,7,8] (.cons 9 false .nil)) .last)))) (by kernel_rfl) BT (by kernel_rfl) (Aa 200 _ _ _ ?_)
   exact byP results168 tI
def Nk (m:Mch) (d:Vl):Int × Mch × Vl :=
 if m.st.length≠1 then (4,m,d)
 else if m.fr.length=0 then (1,m,m.st[0]!)
 else (0,⟨(m.fr[m.fr.length-1]!).pc,(m.fr[m.fr.length-1]!).st++[m.st[0]!],(m.fr[m.fr.length-1]!).nm,m.fr.take (m.fr.length-1)⟩,d)
set_option maxRecDepth 10000 in
theorem aAV (m:Mch) (d:Vl) (hl:m.st.length≤100000) (hf:m.fr.length≤100000) (hfs:∀ f ∈ m.fr,f.st.length≤100000):Bc prog 169 [.p (mcI m d)] [mcI (Nk m d).2.1 (Nk m d).2.2] [.one (.o (.int (Nk m d).1))]:=by
 unfold Nk
 by_cases h1:m.st.length≠1
 ·rw [if_pos h1]
  have h1':((m.st.length:Int)≠1)=True:=eq_true (by omega)
  unfold mcI
  simp only
  refine Ad func169 rfl rfl (by simp [ntmps169]) rfl ?_
  exact byP (fc h1' (fc ntmps169 results169)) tI
 rw [if_neg h1]
 have h1'':m.st.length=1:=by omega
 have hs:=DP h1''
 obtain ⟨v,hv⟩:∃ v,v=m.st[0]! := ⟨_,rfl⟩
 rw [← hv] at hs ⊢
 obtain ⟨pc,st,nm,fr⟩:=m
 simp only at hs hf hfs ⊢
 subst hs
 clear h1 h1'' hl hv
 have hr:=aCn v
 unfold Hf at hr
 have e1:=EP v
 have es:flC vlI [v]=vlI v:=AA _ _
 by_cases h2:fr.length=0
 ·obtain rfl:=List.eq_nil_of_length_eq_zero h2
  rw [if_pos h2]
  unfold mcI
  simp only [e1,List.length_cons,List.length_nil,Nat.zero_add,flC] at hr ⊢
  refine Ad func169 rfl rfl (by simp [ntmps169]) rfl ?_
  refine byP (fc vc1 ntmps169) ?_
  refine Ac (oT [0,1,2,3,4,5,6,7,8] (.fork (.alt 9 (.fork (.alt 10 (.fork (.alt 11 (oF [12,13] (.cons 14 true .nil)) (.alt 12 (.fork (.alt 11 (.cons 13 false (.cons 14 true .nil)) (.alt 13 (oT [11,14] .nil) .last))) .last))) (.alt 12 (.fork (.alt 10 (.fork (.alt 11 (.cons 13 false (.cons 14 true .nil)) (.alt 13 (oT [11,14] .nil) .last))) (.alt 13 (oT [10,11,14] .nil) .last))) .last))) (.alt 12 (.fork (.alt 9 (.fork (.alt 10 (.fork (.alt 11 (.cons 13 false (.cons 14 true .nil)) (.alt 13 (oT [11,14] .nil) .last))) (.alt 13 (oT [10,11,14] .nil) .last))) (.alt 13 (oT [9,10,11,14] .nil) .last))) .last)))) (by kernel_rfl) Ar (by kernel_rfl) (Aa 200 _ _ _ ?_)
  refine byP (fc hr (fc vc1 results169)) ?_
  unfold inI;omega
 ·rw [if_neg h2]
  have hk:fr.length-1<fr.length:=by omega
  have g0:(fr.length:Int)-1=((fr.length-1:Nat):Int):=by omega
  have g1:¬ ((fr.length-1:Nat):Int)<0:=by omega
  have g2:inI ((fr.length-1:Nat):Int):=by unfold inI;omega
  have g3:((fr.length-1:Nat):Int)<(fr.length:Int):=by omega
  have g4:((fr.length-1:Nat):Int)≤(fr.length:Int):=by omega
  have hR:=CR QL fr (fr.length-1) hk
  have hcut:=Et QL fr 0 (fr.length-1)
  rw [List.drop_zero,Nat.sub_zero] at hcut
  have hfm:=hfs _ (Ab hk)
  generalize fr[fr.length-1]! = f at hR hfm ⊢
  obtain ⟨fp,fs,fn⟩:=f
  simp only at hfm ⊢
  have htl:(fr.take (fr.length-1)).length=fr.length-1:=by rw [List.length_take];omega
  have hU:=DV ⟨fp,fs,fn,fr.take (fr.length-1)⟩ d v hfm
  unfold EK mcI vlP at hU
  unfold mcI
  simp only [htl] at hU ⊢
  simp only [frI,vsI] at hR
  simp only [es,e1,List.length_cons,List.length_nil,Nat.zero_add] at hr ⊢
  refine Ad func169 rfl rfl (by simp [ntmps169]) rfl ?_
  refine byP (fc vc1 ntmps169) ?_
  refine Cs (⟨64,[(4,.i ((fr.length-1:Nat):Int)),(3,.bx 2 0),(0,.bx 1 0)],[(1,[.i pc,.br (.rows 5 1 [.int v.n,.bool v.f,.bool v.r,.int v.p,.rows 5 v.c.length (flC vlI v.c)]),.br (.rows 5 nm.length (flC vlI nm)),.sl 0,.i d.n,.b d.f,.b d.r,.i d.p,.br (.rows 5 d.c.length (flC vlI d.c))]),(2,[.i v.n,.b v.f,.b v.r,.i v.p,.br (.rows 5 v.c.length (flC vlI v.c))])],[(0,some ⟨.rows 3 fr.length (flC frI fr),some 232,false⟩)],3,[1]⟩) (oT [0,1,2,3,4,5,6,7,8] (.fork (.alt 9 (.fork (.alt 10 (.fork (.alt 11 (oF [12,13] (.cons 14 true .nil)) (.alt 12 (.fork (.alt 11 (.cons 13 false (.cons 14 true .nil)) (.alt 13 (oT [11,14] .nil) .last))) .last))) (.alt 12 (.fork (.alt 10 (.fork (.alt 11 (.cons 13 false (.cons 14 true .nil)) (.alt 13 (oT [11,14] .nil) .last))) (.alt 13 (oT [10,11,14] .nil) .last))) .last))) (.alt 12 (.fork (.alt 9 (.fork (.alt 10 (.fork (.alt 11 (.cons 13 false (.cons 14 true .nil)) (.alt 13 (oT [11,14] .nil) .last))) (.alt 13 (oT [10,11,14] .nil) .last))) (.alt 13 (oT [9,10,11,14] .nil) .last))) .last)))) (by kernel_rfl) (by kernel_rfl) (Aa 200 _ _ _ ?_) (Aa 200 _ _ _ ?_)
  ·refine byP (fc hr (fc vc1 g0)) ?_
   (try repeat' (with_reducible apply And.intro))
   all_goals first
    | (refine ⟨rfl,id, ?_⟩;simp only [Sub,EG,EL,ED,EH,inj,AV.ren,AV.rens,AV.lt,AV.lts,eq_self,AS.owf,AO,td0,td1,td2,td3,td4,td5,td6,Option.bind,List.map,List.mem_cons,List.not_mem_nil,List.nodup_cons,List.nodup_nil,↓reduceIte,Nat.reduceLT,Nat.reduceEqDiff,not_false_eq_true,or_false,id_eq,reduceCtorEq,and_self];done)
    | (simp only [g2];done)
    | kernel_rfl
  refine byP (fc hR (fc g1 g3)) ?_
  refine Zz 0 rfl rfl ?_ ?_ (Aa 200 _ _ _ ?_)
  ·exact byQ tI
  ·exact byP g4 tI
  refine byP hcut ?_
  refine Cs (⟨64,[(3,.bx 2 0),(0,.bx 1 0)],[(1,[.i fp,.br (.rows 5 fs.length (flC vlI fs)),.br (.rows 5 fn.length (flC vlI fn)),.sl 4,.i d.n,.b d.f,.b d.r,.i d.p,.br (.rows 5 d.c.length (flC vlI d.c))]),(2,[.i v.n,.b v.f,.b v.r,.i v.p,.br (.rows 5 v.c.length (flC vlI v.c))])],[(4,some ⟨.rows 3 (fr.length-1) (flC frI (fr.take (fr.length-1))),some 232,false⟩)],5,[1]⟩) (oT [0,1,2,3,4,5,7,9,10] (.fork (.alt 6 (.fork (.alt 8 (.cons 11 false (oT [12,13] (.cons 14 false (oT [15,16] (.cons 17 false .nil))))) (.alt 11 (oT [12,13] (.fork (.alt 8 (.cons 14 false (oT [15,16] (.cons 17 false .nil))) (.alt 14 (oT [8,15,16] (.cons 17 false .nil)) .last)))) .last))) (.alt 8 (.fork (.alt 6 (.cons 11 false (oT [12,13] (.cons 14 false (oT [15,16] (.cons 17 false .nil))))) (.alt 11 (oT [6,12,13] (.cons 14 false (oT [15,16] (.cons 17 false .nil)))) .last))) (.alt 11 (oT [6,12,13] (.fork (.alt 8 (.cons 14 false (oT [15,16] (.cons 17 false .nil))) (.alt 14 (oT [8,15,16] (.cons 17 false .nil)) .last)))) .last))))) (by kernel_rfl) (by kernel_rfl) (Aa 200 _ _ _ ?_) (Aa 200 _ _ _ ?_)
  ·refine byQ ?_
   (try repeat' (with_reducible apply And.intro))
   all_goals first
    | (refine ⟨rfl,id, ?_⟩;simp only [Sub,EG,EL,ED,EH,inj,AV.ren,AV.rens,AV.lt,AV.lts,eq_self,AS.owf,AO,td0,td1,td2,td3,td4,td5,td6,Option.bind,List.map,List.mem_cons,List.not_mem_nil,List.nodup_cons,List.nodup_nil,↓reduceIte,Nat.reduceLT,Nat.reduceEqDiff,not_false_eq_true,or_false,id_eq,reduceCtorEq,and_self];done)
    | (simp only [g2];done)
    | kernel_rfl
  refine byQ ?_
  refine KR hU ?_
  exact rG results169 tI
def pcM (m:Mch) (p:Int):Mch:=⟨p,m.st,m.nm,m.fr⟩
def nmM (m:Mch) (l:List Vl):Mch:=⟨m.pc,m.st,l,m.fr⟩
def exM (m:Mch) (d:Vl) (x:Ins):Int × Mch × Vl :=
 if x.op=1∨x.op=2 then (0,EK m (.num x.a),d)
 else if x.op=3 then (if m.nm.length≤x.a.toNat then (4,m,d) else (0,EK m (m.nm[m.nm.length-1-x.a.toNat]!),d))
 else if x.op=4 then ((opM m (opB x.a)).1,(opM m (opB x.a)).2,d)
 else if x.op=5 then (0,pcM m x.a,d)
 else if x.op=6 then (if m.st.length<1 then (4,m,d) else if ((Ee m 1)[0]!).f=true then (3,CN m 1,d) else if ((Ee m 1)[0]!).n=0 then (0,pcM (CN m 1) x.a,d) else (0,CN m 1,d))
 else if x.op=7∨x.op=8 then (0,EK m (.fn (decide (x.op=8)) x.a m.nm),d)
 else if x.op=9 then ((FS m).1,(FS m).2,d)
 else if x.op=10 then Nk m d
 else if x.op=11 then (if m.st.length<1 then (4,m,d) else (0,nmM (CN m 1) (m.nm++[(Ee m 1)[0]!]),d))
 else (if m.nm.length=0 then (4,m,d) else (0,nmM m (m.nm.take (m.nm.length-1)),d))
structure SzM (m:Mch):Prop where
 pc:0≤m.pc∧m.pc≤1000000
 st:m.st.length≤90000
 nm:m.nm.length≤90000
 fr:m.fr.length≤90000
 ct:∀ v ∈ m.st,v.c.length≤90000
 fs:∀ f ∈ m.fr,f.st.length≤90000
theorem Ju (l:List Vl) (hl:l.length≤1000000):Bc prog 167 [.b (.one (.rows 5 l.length (flC vlI l)))] [] [.one (.r (.rows 5 l.length (flC vlI l)))]:=by
 refine BZ [0,1] func167 rfl rfl (by simp [ntmps167]) rfl ?_
 refine byP ntmps167 ?_
 refine Tk (q:=(136,5)) rfl (by simp only [td0,td1,td2,td3,td4,td5,td6]) (fun h0 => ?_) ?_
 ·obtain rfl:=List.eq_nil_of_length_eq_zero h0
  refine Aa 200 _ _ _ ?_
  simp only [fQF,fQP,CC,rRs,rOs,rC,eRs,eOs,eC,AS.fzL,AS.fzN,aD,LO,eq_self,Ct,vE,vP,Eg,isB,bv,gN,Cp,Dd,AS.pt,AS.ev,AS.owf,AO,cav,td0,td1,td2,td3,td4,td5,td6,Option.bind,Option.getD,List.map,List.length,List.nodup_nil,List.append_nil,↓reduceIte,Nat.reduceLT,or_false,Bool.false_eq_true,reduceCtorEq,and_self,flC,results167]
 ·refine rG results167 ?_
  exact ⟨fun _ _=>trivial,by unfold maxLen;omega,by omega⟩
set_option maxRecDepth 10000 in
theorem aAt (m:Mch) (d:Vl) (a:Int) (hm:SzM m):Bc prog 83 [.p (mcI m d),.b (.ag (Bk ⟨1,a⟩))] [mcI (exM (pcM m (m.pc+1)) d ⟨1,a⟩).2.1 (exM (pcM m (m.pc+1)) d ⟨1,a⟩).2.2] [.one (.o (.int (exM (pcM m (m.pc+1)) d ⟨1,a⟩).1))]:=by
 have hpc:inI (m.pc+1):=by have:=hm.pc;unfold inI;omega
 have e:exM (pcM m (m.pc+1)) d ⟨1,a⟩=(0,EK (pcM m (m.pc+1)) (.num a),d):=by unfold exM;simp only;rw [if_pos (by decide)]
 rw [e]
 have hU:=DV (pcM m (m.pc+1)) d (.num a) (by have:=hm.st;unfold pcM;simp only;omega)
 unfold mcI vlP at hU
 unfold mcI
 simp only [pcM,QQ,IG,Je,aAR,Jd,List.length_nil,flC,Bk] at hU ⊢
 refine Ad func83 rfl rfl (by simp [ntmps83]) rfl ?_
 refine byP (fc hpc ntmps83) ?_
 refine KR hU ?_
 exact rG results83 tI
set_option maxRecDepth 10000 in
theorem aAo (m:Mch) (d:Vl) (a:Int) (hm:SzM m):Bc prog 83 [.p (mcI m d),.b (.ag (Bk ⟨2,a⟩))] [mcI (exM (pcM m (m.pc+1)) d ⟨2,a⟩).2.1 (exM (pcM m (m.pc+1)) d ⟨2,a⟩).2.2] [.one (.o (.int (exM (pcM m (m.pc+1)) d ⟨2,a⟩).1))]:=by
 have hpc:inI (m.pc+1):=by have:=hm.pc;unfold inI;omega
 have e:exM (pcM m (m.pc+1)) d ⟨2,a⟩=(0,EK (pcM m (m.pc+1)) (.num a),d):=by unfold exM;simp only;rw [if_pos (by decide)]
 rw [e]
 have hU:=DV (pcM m (m.pc+1)) d (.num a) (by have:=hm.st;unfold pcM;simp only;omega)
 unfold mcI vlP at hU
 unfold mcI
 simp only [pcM,QQ,IG,Je,aAR,Jd,List.length_nil,flC,Bk] at hU ⊢
 refine Ad func83 rfl rfl (by simp [ntmps83]) rfl ?_
 refine byP (fc hpc ntmps83) ?_
 refine KR hU ?_
 exact rG results83 tI
set_option maxRecDepth 10000 in
theorem ZP (m:Mch) (d:Vl) (a:Int) (hm:SzM m) (ha:0≤a∧a≤299):Bc prog 83 [.p (mcI m d),.b (.ag (Bk ⟨3,a⟩))] [mcI (exM (pcM m (m.pc+1)) d ⟨3,a⟩).2.1 (exM (pcM m (m.pc+1)) d ⟨3,a⟩).2.2] [.one (.o (.int (exM (pcM m (m.pc+1)) d ⟨3,a⟩).1))]:=by
 have hpc:inI (m.pc+1):=by have:=hm.pc;unfold inI;omega
 have hst:=hm.st
 have hnm:=hm.nm
 unfold exM
 simp only
 rw [if_neg (by decide)]
 rw [if_pos (by decide)]
 unfold pcM
 simp only
 by_cases h:m.nm.length≤a.toNat
 ·rw [if_pos h]
  have h':(m.nm.length:Int)≤a:=by omega
  unfold mcI
  simp only [Bk]
  refine Ad func83 rfl rfl (by simp [ntmps83]) rfl ?_
  refine byP (fc hpc ntmps83) ?_
  refine Ac (oT [0,1,2,3,4,5,6,7] .nil) (by kernel_rfl) Ar (by kernel_rfl) (Aa 200 _ _ _ ?_)
  exact byP (fc h' results83) tI
 ·rw [if_neg h]
  have h':¬ (m.nm.length:Int)≤a:=by omega
  have g0:(m.nm.length:Int)-1-a=((m.nm.length-1-a.toNat:Nat):Int):=by omega
  have g1:inI ((m.nm.length:Int)-1):=by unfold inI;omega
  have g2:inI ((m.nm.length-1-a.toNat:Nat):Int):=by unfold inI;omega
  have g3:((m.nm.length-1-a.toNat:Nat):Int)<(m.nm.length:Int):=by omega
  have hR:=CR Dj m.nm (m.nm.length-1-a.toNat) (by omega)
  generalize m.nm[m.nm.length-1-a.toNat]! = v at hR ⊢
  rw [EP] at hR
  have hU:=DV (pcM m (m.pc+1)) d v (by unfold pcM;simp only;omega)
  unfold mcI vlP at hU
  unfold mcI
  simp only [pcM,Bk] at hU ⊢
  refine Ad func83 rfl rfl (by simp [ntmps83]) rfl ?_
  refine byP (fc hpc ntmps83) ?_
  refine Ac (oT [0,1,2,3,4,5,6,7] .nil) (by kernel_rfl) Ar (by kernel_rfl) (Aa 200 _ _ _ ?_)
  refine byP h' ?_
  refine Ac (oT [0,1,2,3,4,5,6,7,8,9,10,11,12,13,14,15] (.cons 16 false .nil)) (by kernel_rfl) Ar (by kernel_rfl) (Aa 200 _ _ _ ?_)
  refine byP (fc g0 (fc g1 (fc g2 (fc g3 hR)))) ?_
  refine Dl (cap:=[]) (hU) rfl rfl rfl ?_ ?_ ?_ rfl (Aa 200 _ _ _ ?_)
  ·exact byQ tI
  ·exact byQ tI
  ·exact byQ tI
  exact byP results83 tI
set_option maxRecDepth 10000 in
theorem ZE (m:Mch) (d:Vl) (a:Int) (hm:SzM m) (ha:1≤a∧a≤8):Bc prog 83 [.p (mcI m d),.b (.ag (Bk ⟨4,a⟩))] [mcI (exM (pcM m (m.pc+1)) d ⟨4,a⟩).2.1 (exM (pcM m (m.pc+1)) d ⟨4,a⟩).2.2] [.one (.o (.int (exM (pcM m (m.pc+1)) d ⟨4,a⟩).1))]:=by
 have hpc:inI (m.pc+1):=by have:=hm.pc;unfold inI;omega
 have hst:=hm.st
 have hnm:=hm.nm
 unfold exM
 simp only
 rw [if_neg (by decide)]
 rw [if_neg (by decide)]
 rw [if_pos (by decide)]
 have hN:=Nt a ha
 have hop:CQ (opB a)=1∨CQ (opB a)=2:=by rw [Xi ha];split <;> simp
 have hU:=MK (pcM m (m.pc+1)) d (opB a) (by unfold pcM;simp only;omega) hop
 generalize opM (pcM m (m.pc+1)) (opB a)=q at hU ⊢
 unfold mcI at hU ⊢
 simp only [pcM,Bk] at hU ⊢
 refine Ad func83 rfl rfl (by simp [ntmps83]) rfl ?_
 refine byP (fc hpc ntmps83) ?_
 refine Kc hN ?_
 refine rQ ?_
 refine KR hU ?_
 exact rG results83 tI
set_option maxRecDepth 10000 in
theorem aAv (m:Mch) (d:Vl) (a:Int) (hm:SzM m):Bc prog 83 [.p (mcI m d),.b (.ag (Bk ⟨5,a⟩))] [mcI (exM (pcM m (m.pc+1)) d ⟨5,a⟩).2.1 (exM (pcM m (m.pc+1)) d ⟨5,a⟩).2.2] [.one (.o (.int (exM (pcM m (m.pc+1)) d ⟨5,a⟩).1))]:=by
 have hpc:inI (m.pc+1):=by have:=hm.pc;unfold inI;omega
 have hst:=hm.st
 have hnm:=hm.nm
 unfold exM
 simp only
 rw [if_neg (by decide)]
 rw [if_neg (by decide)]
 rw [if_neg (by decide)]
 rw [if_pos (by decide)]
 unfold mcI
 simp only [pcM,Bk]
 refine Ad func83 rfl rfl (by simp [ntmps83]) rfl ?_
 exact byP (fc hpc (fc ntmps83 results83)) tI
set_option maxRecDepth 10000 in
theorem ZT (m:Mch) (d:Vl) (a:Int) (hm:SzM m):Bc prog 83 [.p (mcI m d),.b (.ag (Bk ⟨6,a⟩))] [mcI (exM (pcM m (m.pc+1)) d ⟨6,a⟩).2.1 (exM (pcM m (m.pc+1)) d ⟨6,a⟩).2.2] [.one (.o (.int (exM (pcM m (m.pc+1)) d ⟨6,a⟩).1))]:=by
 have hpc:inI (m.pc+1):=by have:=hm.pc;unfold inI;omega
 have hst:=hm.st
 have hnm:=hm.nm
 unfold exM
 simp only
 rw [if_neg (by decide)]
 rw [if_neg (by decide)]
 rw [if_neg (by decide)]
 rw [if_neg (by decide)]
 rw [if_pos (by decide)]
 obtain ⟨m1,hm1⟩:∃ m1,m1=pcM m (m.pc+1):=⟨_,rfl⟩
 have hst1:m1.st.length≤90000:=by rw [hm1];exact hst
 have ep:m1.pc=m.pc+1:=by rw [hm1];rfl
 have es:m.st=m1.st:=by rw [hm1];rfl
 have en:m.nm=m1.nm:=by rw [hm1];rfl
 have ef:m.fr=m1.fr:=by rw [hm1];rfl
 rw [← hm1]
 by_cases h:m1.st.length<1
 ·rw [if_pos h]
  have hP:=Ht m1 d 1 (by omega) (by omega) h
  rw [vc1] at hP
  unfold mcI at hP ⊢
  simp only [Bk]
  rw [es,en,ef]
  rw [ep] at hP ⊢
  refine Ad func83 rfl rfl (by simp [ntmps83]) rfl ?_
  refine byP (fc hpc ntmps83) ?_
  refine KR hP ?_
  exact rG results83 tI
 ·rw [if_neg h]
  have hP:=HE m1 d 1 (by omega) (by omega) (by omega)
  rw [vc1] at hP
  obtain ⟨tp,htp⟩:∃ tp,tp=Ee m1 1:=⟨_,rfl⟩
  have htl:tp.length=1:=by rw [htp,Ds];omega
  rw [← htp] at hP ⊢
  rw [DP htl] at hP ⊢
  generalize tp[0]! = v at hP ⊢
  have e0:[v][0]! = v:=rfl
  rw [e0]
  have hr:=aCn v
  unfold Hf at hr
  have e1:=EP v
  simp only [AA,List.length_singleton] at hP
  have pp:(CN m1 1).pc=m1.pc:=rfl
  have pn:(CN m1 1).nm=m1.nm:=rfl
  have pf:(CN m1 1).fr=m1.fr:=rfl
  cases hv:v.f with
  | true =>
   rw [if_pos rfl]
   simp only [e1,hv] at hr hP
   unfold mcI at hP ⊢
   simp only [Bk]
   rw [es,en,ef]
   rw [pp,pn,pf] at hP ⊢
   rw [ep] at hP ⊢
   refine Ad func83 rfl rfl (by simp [ntmps83]) rfl ?_
   refine byP (fc hpc ntmps83) ?_
   refine KR hP ?_
   exact rG (fc hr (fc vc1 results83)) tI
  | false =>
   rw [if_neg (by simp)]
   simp only [e1,hv] at hr hP
   by_cases hz:v.n=0
   ·rw [if_pos hz]
    simp only [hz] at hr hP
    unfold mcI at hP ⊢
    simp only [Bk,pcM]
    rw [es,en,ef]
    rw [pp,pn,pf] at hP
    rw [pn,pf]
    rw [ep] at hP
    refine Ad func83 rfl rfl (by simp [ntmps83]) rfl ?_
    refine byP (fc hpc ntmps83) ?_
    refine KR hP ?_
    exact rG (fc hr (fc vc1 results83)) tI
   ·rw [if_neg hz]
    have hz':(v.n=0)=False:=eq_false hz
    unfold mcI at hP ⊢
    simp only [Bk]
    rw [es,en,ef]
    rw [pp,pn,pf] at hP ⊢
    rw [ep] at hP ⊢
    refine Ad func83 rfl rfl (by simp [ntmps83]) rfl ?_
    refine byP (fc hpc ntmps83) ?_
    refine KR hP ?_
    exact rG (fc hr (fc vc1 (fc hz' results83))) tI
set_option maxRecDepth 10000 in
theorem YI (m:Mch) (d:Vl) (a:Int) (hm:SzM m):Bc prog 83 [.p (mcI m d),.b (.ag (Bk ⟨7,a⟩))] [mcI (exM (pcM m (m.pc+1)) d ⟨7,a⟩).2.1 (exM (pcM m (m.pc+1)) d ⟨7,a⟩).2.2] [.one (.o (.int (exM (pcM m (m.pc+1)) d ⟨7,a⟩).1))]:=by
 have hpc:inI (m.pc+1):=by have:=hm.pc;unfold inI;omega
 have hst:=hm.st
 have hnm:=hm.nm
 unfold exM
 simp only
 rw [if_neg (by decide)]
 rw [if_neg (by decide)]
 rw [if_neg (by decide)]
 rw [if_neg (by decide)]
 rw [if_neg (by decide)]
 rw [if_pos (by decide)]
 have hb:decide (((7:Int))=8)=false:=by decide
 rw [hb]
 have hK:=Ju m.nm (by omega)
 have hU:=DV (pcM m (m.pc+1)) d (.fn false a m.nm) (by unfold pcM;simp only;omega)
 unfold mcI vlP at hU
 unfold mcI
 simp only [pcM,aIY,aEP,aFe,aIW,aE5,Bk] at hU ⊢
 refine Ad func83 rfl rfl (by simp [ntmps83]) rfl ?_
 refine byP (fc hpc ntmps83) ?_
 refine Ac (oT [0,1,2,3,4,5,6,7,8,9] (.cons 10 false (.cons 11 true (.cons 12 false .nil)))) (by kernel_rfl) Ar (by kernel_rfl) (Aa 200 _ _ _ ?_)
 refine byQ ?_
 refine KB hK ?_
 refine rQ ?_
 refine Dl (cap:=[]) (hU) rfl rfl rfl ?_ ?_ ?_ rfl (Aa 200 _ _ _ ?_)
 ·exact byQ tI
 ·exact byQ tI
 ·exact byQ tI
 exact byP results83 tI
set_option maxRecDepth 10000 in
theorem ZU (m:Mch) (d:Vl) (a:Int) (hm:SzM m):Bc prog 83 [.p (mcI m d),.b (.ag (Bk ⟨8,a⟩))] [mcI (exM (pcM m (m.pc+1)) d ⟨8,a⟩).2.1 (exM (pcM m (m.pc+1)) d ⟨8,a⟩).2.2] [.one (.o (.int (exM (pcM m (m.pc+1)) d ⟨8,a⟩).1))]:=by
 have hpc:inI (m.pc+1):=by have:=hm.pc;unfold inI;omega
 have hst:=hm.st
 have hnm:=hm.nm
 unfold exM
 simp only
 rw [if_neg (by decide)]
 rw [if_neg (by decide)]
 rw [if_neg (by decide)]
 rw [if_neg (by decide)]
 rw [if_neg (by decide)]
 rw [if_pos (by decide)]
 have hb:decide True=true:=by decide
 rw [hb]
 have hK:=Ju m.nm (by omega)
 have hU:=DV (pcM m (m.pc+1)) d (.fn true a m.nm) (by unfold pcM;simp only;omega)
 unfold mcI vlP at hU
 unfold mcI
 simp only [pcM,aIY,aEP,aFe,aIW,aE5,Bk] at hU ⊢
 refine Ad func83 rfl rfl (by simp [ntmps83]) rfl ?_
 refine byP (fc hpc ntmps83) ?_
 refine Ac (oT [0,1,2,3,4,5,6,7,8,9] (.cons 10 false (.cons 11 true (.cons 12 false .nil)))) (by kernel_rfl) Ar (by kernel_rfl) (Aa 200 _ _ _ ?_)
 refine byQ ?_
 refine KB hK ?_
 refine rQ ?_
 refine Dl (cap:=[]) (hU) rfl rfl rfl ?_ ?_ ?_ rfl (Aa 200 _ _ _ ?_)
 ·exact byQ tI
 ·exact byQ tI
 ·exact byQ tI
 exact byP results83 tI
set_option maxRecDepth 10000 in
theorem aAU (m:Mch) (d:Vl) (a:Int) (hm:SzM m):Bc prog 83 [.p (mcI m d),.b (.ag (Bk ⟨9,a⟩))] [mcI (exM (pcM m (m.pc+1)) d ⟨9,a⟩).2.1 (exM (pcM m (m.pc+1)) d ⟨9,a⟩).2.2] [.one (.o (.int (exM (pcM m (m.pc+1)) d ⟨9,a⟩).1))]:=by
 have hpc:inI (m.pc+1):=by have:=hm.pc;unfold inI;omega
 have hst:=hm.st
 have hnm:=hm.nm
 unfold exM
 simp only
 rw [if_neg (by decide)]
 rw [if_neg (by decide)]
 rw [if_neg (by decide)]
 rw [if_neg (by decide)]
 rw [if_neg (by decide)]
 rw [if_neg (by decide)]
 rw [if_pos (by decide)]
 have hU:=Ux (pcM m (m.pc+1)) d (by unfold pcM;simp only;omega) (fun v hv=>by have:=hm.ct v hv;omega) (by have:=hm.fr;unfold pcM;simp only;omega)
 generalize FS (pcM m (m.pc+1))=q at hU ⊢
 unfold mcI at hU ⊢
 simp only [pcM,Bk] at hU ⊢
 refine Ad func83 rfl rfl (by simp [ntmps83]) rfl ?_
 refine byP (fc hpc ntmps83) ?_
 refine KR hU ?_
 exact rG results83 tI
set_option maxRecDepth 10000 in
theorem WJ (m:Mch) (d:Vl) (a:Int) (hm:SzM m):Bc prog 83 [.p (mcI m d),.b (.ag (Bk ⟨10,a⟩))] [mcI (exM (pcM m (m.pc+1)) d ⟨10,a⟩).2.1 (exM (pcM m (m.pc+1)) d ⟨10,a⟩).2.2] [.one (.o (.int (exM (pcM m (m.pc+1)) d ⟨10,a⟩).1))]:=by
 have hpc:inI (m.pc+1):=by have:=hm.pc;unfold inI;omega
 have hst:=hm.st
 have hnm:=hm.nm
 unfold exM
 simp only
 rw [if_neg (by decide)]
 rw [if_neg (by decide)]
 rw [if_neg (by decide)]
 rw [if_neg (by decide)]
 rw [if_neg (by decide)]
 rw [if_neg (by decide)]
 rw [if_neg (by decide)]
 rw [if_pos (by decide)]
 have hU:=aAV (pcM m (m.pc+1)) d (by unfold pcM;simp only;omega) (by have:=hm.fr;unfold pcM;simp only;omega) (fun f hf=>by have:=hm.fs f hf;omega)
 generalize Nk (pcM m (m.pc+1)) d=q at hU ⊢
 unfold mcI at hU ⊢
 simp only [pcM,Bk] at hU ⊢
 refine Ad func83 rfl rfl (by simp [ntmps83]) rfl ?_
 refine byP (fc hpc ntmps83) ?_
 refine KR hU ?_
 exact rG results83 tI
set_option maxRecDepth 10000 in
theorem Vy (m:Mch) (d:Vl) (a:Int) (hm:SzM m):Bc prog 83 [.p (mcI m d),.b (.ag (Bk ⟨11,a⟩))] [mcI (exM (pcM m (m.pc+1)) d ⟨11,a⟩).2.1 (exM (pcM m (m.pc+1)) d ⟨11,a⟩).2.2] [.one (.o (.int (exM (pcM m (m.pc+1)) d ⟨11,a⟩).1))]:=by
 have hpc:inI (m.pc+1):=by have:=hm.pc;unfold inI;omega
 have hst:=hm.st
 have hnm:=hm.nm
 unfold exM
 simp only
 rw [if_neg (by decide)]
 rw [if_neg (by decide)]
 rw [if_neg (by decide)]
 rw [if_neg (by decide)]
 rw [if_neg (by decide)]
 rw [if_neg (by decide)]
 rw [if_neg (by decide)]
 rw [if_neg (by decide)]
 rw [if_pos (by decide)]
 obtain ⟨m1,hm1⟩:∃ m1,m1=pcM m (m.pc+1):=⟨_,rfl⟩
 have hst1:m1.st.length≤90000:=by rw [hm1];exact hst
 have ep:m1.pc=m.pc+1:=by rw [hm1];rfl
 have es:m.st=m1.st:=by rw [hm1];rfl
 have en:m.nm=m1.nm:=by rw [hm1];rfl
 have ef:m.fr=m1.fr:=by rw [hm1];rfl
 rw [← hm1]
 by_cases h:m1.st.length<1
 ·rw [if_pos h]
  have hP:=Ht m1 d 1 (by omega) (by omega) h
  rw [vc1] at hP
  unfold mcI at hP ⊢
  simp only [Bk]
  rw [es,en,ef]
  rw [ep] at hP ⊢
  refine Ad func83 rfl rfl (by simp [ntmps83]) rfl ?_
  refine byP (fc hpc ntmps83) ?_
  refine KR hP ?_
  exact rG results83 tI
 ·rw [if_neg h]
  have hP:=HE m1 d 1 (by omega) (by omega) (by omega)
  rw [vc1] at hP
  obtain ⟨tp,htp⟩:∃ tp,tp=Ee m1 1:=⟨_,rfl⟩
  have htl:tp.length=1:=by rw [htp,Ds];omega
  rw [← htp] at hP ⊢
  rw [DP htl] at hP ⊢
  generalize tp[0]! = v at hP ⊢
  have e0:[v][0]! = v:=rfl
  rw [e0]
  have hr:=aCn v
  unfold Hf at hr
  have e1:=EP v
  simp only [AA,List.length_singleton] at hP
  have pp:(CN m1 1).pc=m1.pc:=rfl
  have pn:(CN m1 1).nm=m1.nm:=rfl
  have pf:(CN m1 1).fr=m1.fr:=rfl
  have hK:=Lw m1.nm (by rw [en] at hnm;omega)
  rw [en] at hnm
  simp only [e1] at hr hP
  unfold mcI at hP ⊢
  simp only [Bk,nmM]
  rw [es,en,ef,AM,AA,e1,List.length_append,List.length_singleton]
  rw [pp,pn,pf] at hP
  rw [pp,pf]
  rw [ep] at hP ⊢
  refine BZ [5] func83 rfl rfl (by simp [ntmps83]) rfl ?_
  refine byP (fc hpc ntmps83) ?_
  refine KR hP ?_
  refine rQ ?_
  refine Ac (oT [0,1,2,3,4,6,7,8] (.fork (.alt 5 (oF [9,10] (oT [11,12] (.cons 13 false .nil))) (.alt 9 (oF [5,10] (oT [11,12] (.cons 13 false .nil))) .last)))) (by kernel_rfl) BT (by kernel_rfl) (Aa 200 _ _ _ ?_)
  refine byP (fc hr vc1) ?_
  refine ⟨?_, ?_⟩
  all_goals (refine Bq (cap:=[]) hK rfl rfl rfl ?_ (Aa 200 _ _ _ ?_))
  all_goals simp only [mkC,fQF,fQP,CC,rRs,rOs,rC,rCs,eRs,eOs,eC,eCs,AS.em,AS.fzL,AS.fzN,AS.fz,fzT,fzB,AV.fz,AV.fzs,Eh,En,AS.kb,EW,mkO,BN,Br,mPs,mP,aA,aD,AS.kl,QD,List.headD_cons,LO,rD,eq_self,Ct,vE,vP,Mo,Uo,Do,Us,apP,apC,QT,Eg,EE,Up,We,gN,Cp,Dd,AS.pt,AS.ev,AS.setb,AS.mk',AS.owf,Ur,AO,cav,Aw,AV.cells,AV.whole,AV.one,cD,cDs,AB,Qx,td0,td1,td2,td3,td4,td5,td6,Option.bind,Option.getD,Option.isSome,List.map,List.length,List.getElem?_cons_zero,List.getElem?_cons_succ,List.set,List.foldr,List.all,List.replicate,List.mem_cons,List.not_mem_nil,List.nodup_cons,List.nodup_nil,List.nil_append,List.append_nil,↓reduceIte,Nat.reduceLT,Nat.reduceAdd,Nat.reduceLeDiff,Nat.reduceEqDiff,Nat.zero_add,Nat.zero_mul,Nat.one_mul,ne_eq,not_false_eq_true,true_and,and_true,or_false,or_true,Bool.and_true,Bool.and_false,Bool.false_eq_true,id_eq,reduceCtorEq,and_self,Nat.succ_ne_zero,Nat.le_refl,results83]
  all_goals exact ⟨fun _ h=>(by first | exact h.elim | omega),by unfold maxLen;omega,by omega⟩
set_option maxRecDepth 10000 in
theorem Wp (m:Mch) (d:Vl) (a:Int) (hm:SzM m):Bc prog 83 [.p (mcI m d),.b (.ag (Bk ⟨12,a⟩))] [mcI (exM (pcM m (m.pc+1)) d ⟨12,a⟩).2.1 (exM (pcM m (m.pc+1)) d ⟨12,a⟩).2.2] [.one (.o (.int (exM (pcM m (m.pc+1)) d ⟨12,a⟩).1))]:=by
 have hpc:inI (m.pc+1):=by have:=hm.pc;unfold inI;omega
 have hst:=hm.st
 have hnm:=hm.nm
 unfold exM
 simp only
 rw [if_neg (by decide)]
 rw [if_neg (by decide)]
 rw [if_neg (by decide)]
 rw [if_neg (by decide)]
 rw [if_neg (by decide)]
 rw [if_neg (by decide)]
 rw [if_neg (by decide)]
 rw [if_neg (by decide)]
 rw [if_neg (by decide)]
 unfold pcM nmM
 simp only
 by_cases h:m.nm.length=0
 ·rw [if_pos h]
  have h':((m.nm.length:Int)=0)=True:=eq_true (by omega)
  unfold mcI
  simp only [Bk]
  refine Ad func83 rfl rfl (by simp [ntmps83]) rfl ?_
  exact byP (fc hpc (fc h' (fc ntmps83 results83))) tI
 ·rw [if_neg h]
  have h':((m.nm.length:Int)=0)=False:=eq_false (by omega)
  have g0:(m.nm.length:Int)-1=((m.nm.length-1:Nat):Int):=by omega
  have g1:inI ((m.nm.length-1:Nat):Int):=by unfold inI;omega
  have g2:((m.nm.length-1:Nat):Int)≤(m.nm.length:Int):=by omega
  have hcut:=Et Dj m.nm 0 (m.nm.length-1)
  rw [List.drop_zero,Nat.sub_zero] at hcut
  have htl:(m.nm.take (m.nm.length-1)).length=m.nm.length-1:=by rw [List.length_take];omega
  unfold mcI
  simp only [Bk,htl]
  refine Ad func83 rfl rfl (by simp [ntmps83]) rfl ?_
  refine byP (fc hpc (fc h' ntmps83)) ?_
  refine Ac (oT [0,1,2,3,4,5,6,7,8,9,10,11,12,13] (.cons 14 false .nil)) (by kernel_rfl) Ar (by kernel_rfl) (Aa 200 _ _ _ ?_)
  exact byP (fc g0 (fc g1 (fc g2 (fc hcut results83)))) tI
end Go.Proofs.YtaidalilfmjfgaaGreat
