import Derived.Test.YtaidalilfmjfgaaGreatVmF
namespace Go.Proofs.YtaidalilfmjfgaaGreat
open Go.Proofs.Tryz
open Go.RowKit
set_option linter.unusedVariables false
set_option linter.unusedSimpArgs false
theorem UZ (a:Vl):rowAt 4 (vlS a) 0=vlS a:=by
 unfold rowAt
 rw [Nat.zero_mul,List.drop_zero,List.take_of_length_le (by rw [DX];exact Nat.le_refl _)]
theorem XA (a b:Vl):rowAt 4 (vlS a++vlS b) 0=vlS a:=by
 unfold rowAt
 rw [Nat.zero_mul,List.drop_zero,List.take_append_of_le_length (by rw [DX];exact Nat.le_refl _),List.take_of_length_le (by rw [DX];exact Nat.le_refl _)]
theorem Xe (a b:Vl):rowAt 4 (vlS a++vlS b) 1=vlS b:=by
 unfold rowAt
 rw [Nat.one_mul,← DX a,List.drop_left' rfl,DX,List.take_of_length_le (by rw [DX];exact Nat.le_refl _)]
theorem Wj (m:Mch) (k:Nat):Hq (.rows 4 m.st.length (flC vlS m.st)) (m.st.length-k) m.st.length = .rows 4 (Ee m k).length (flC vlS (Ee m k)):=by
 rw [Et DX,Ds]
 unfold Ee
 rw [List.take_of_length_le (by rw [List.length_drop];exact Nat.le_refl _)]
theorem WA (m:Mch) (k:Nat):Hq (.rows 4 m.st.length (flC vlS m.st)) 0 (m.st.length-k) = .rows 4 (CN m k).st.length (flC vlS (CN m k).st):=by
 rw [Et DX,GA,List.drop_zero,Nat.sub_zero];rfl
set_option maxRecDepth 20000 in
theorem Dn (m:Mch) (s:Int) (v:Vl) (hl:m.st.length≤100000):Bc prog 154 [.p (mcS m s),.g (vlQ v)] [mcS (EK m v) s] []:=by
 have e1:=EY v
 unfold EK mcS vlQ
 rw [AM,AA,e1,List.length_append,List.length_singleton]
 refine BZ [5] func154 rfl rfl (by simp [ntmps154]) rfl ?_
 refine byP ntmps154 ?_
 refine Ac (oT [0,2,3,4,5] (.fork (.alt 1 (.fork (.alt 6 (.cons 7 true (oF [8,9] (oT [10,11] (.cons 12 false .nil)))) (.alt 7 (.fork (.alt 6 (oF [8,9] (oT [10,11] (.cons 12 false .nil))) (.alt 8 (oF [6,9] (oT [10,11] (.cons 12 false .nil))) .last))) .last))) (.alt 7 (.fork (.alt 1 (.fork (.alt 6 (oF [8,9] (oT [10,11] (.cons 12 false .nil))) (.alt 8 (oF [6,9] (oT [10,11] (.cons 12 false .nil))) .last))) (.alt 8 (oF [1,6,9] (oT [10,11] (.cons 12 false .nil))) .last))) .last)))) (by kernel_rfl) BT (by kernel_rfl) (Aa 200 _ _ _ ?_)
 refine byP results154 ?_
 (try repeat' (with_reducible apply And.intro))
 all_goals first | (intro o h;first | trivial | (intro h2;omega) | omega) | (unfold maxLen;omega) | (unfold inI;omega) | omega | trivial
set_option maxRecDepth 10000 in
theorem Gu (m:Mch) (k:Nat) (hl:m.st.length≤100000) (hk:k≤2) (h:m.st.length<k):Bc prog 227 [.p (mcS m 0),.b (.one (.int (k:Int)))] [mcS m 4] [.one (.r (.rows 4 0 [])),.one (.o (.bool false))]:=by
 have h1:(m.st.length:Int)<(k:Int):=by omega
 unfold mcS
 refine BZ [1] func227 rfl rfl (by simp [ntmps227]) rfl ?_
 exact byP (fc h1 (fc ntmps227 results227)) tI
set_option maxRecDepth 10000 in
theorem Ga (m:Mch) (k:Nat) (hl:m.st.length≤100000) (hk:k≤2) (h:k≤m.st.length):Bc prog 227 [.p (mcS m 0),.b (.one (.int (k:Int)))] [mcS (CN m k) 0] [.one (.r (.rows 4 (Ee m k).length (flC vlS (Ee m k)))),.one (.o (.bool true))]:=by
 have h0:(m.st.length:Int)-(k:Int)=((m.st.length-k:Nat):Int):=by omega
 have h1:¬ (m.st.length:Int)<(k:Int):=by omega
 have h2:inI ((m.st.length-k:Nat):Int):=by unfold inI;omega
 have h3:((m.st.length-k:Nat):Int)≤(m.st.length:Int):=by omega
 have h4:(CN m k).pc=m.pc:=rfl
 have h5:(CN m k).nm=m.nm:=rfl
 have h6:(CN m k).fr=m.fr:=rfl
 have h7:=Ds m k
 have h8:=GA m k
 unfold mcS
 rw [h4,h5,h6]
 refine BZ [2,4] func227 rfl rfl (by simp [ntmps227]) rfl ?_
 refine byP (fc h1 ntmps227) ?_
 refine Ac (oT [1,2,3,4,5,6,7,8,9,10,11,12] (oF [0,13] (.cons 14 true .nil))) (by kernel_rfl) BT (by kernel_rfl) (Aa 200 _ _ _ ?_)
 refine byP (fc h0 (fc h2 (fc h3 Wj))) ?_
 refine ⟨⟨fun _ _=>trivial,by unfold maxLen;omega,by omega⟩, ?_⟩
 refine Ac (oT [0,2,3,4,5,6,7,8,9,10,11,12,13] (oF [1,14] (oT [15,16] (.cons 17 false .nil)))) (by kernel_rfl) BT (by kernel_rfl) (Aa 200 _ _ _ ?_)
 refine byP (fc h0 (fc h2 (fc h3 (fc WA results227)))) ?_
 (try repeat' (with_reducible apply And.intro))
 all_goals first | (intro o h;first | trivial | (intro h2;omega) | omega) | (unfold maxLen;omega) | (unfold inI;omega) | omega | trivial
set_option maxRecDepth 10000 in
theorem Zg (m:Mch) (a:Int) (hl:m.st.length≤100000) (ha8:1≤a∧a≤8):Bc prog 156 [.p (mcS m 0),.b (.one (.int a))] [mcS (opM m (opB a)).2 (opM m (opB a)).1] []:=by
 have hN:=Nc a ha8
 have hs:CQ (opB a)=1∨CQ (opB a)=2:=by rw [Xi ha8];split <;> simp
 generalize opB a=s at *
 have hO:=FR s
 have hk:CQ s=((CQ s).toNat:Int):=by omega
 rw [hk] at hO
 obtain ⟨k,hkk⟩:∃ k,k=(CQ s).toNat:=⟨_,rfl⟩
 unfold opM
 rw [← hkk] at hO ⊢
 by_cases h4:m.st.length<k
 ·rw [if_pos h4]
  have hP:=Gu m k hl (by omega) h4
  unfold mcS at hP ⊢
  simp only
  refine Ad func156 rfl rfl (by simp [ntmps156]) rfl ?_
  simp only [push_cast,s0P,Gx,EN,mkC,↓reduceIte,Nat.reduceLT,ntmps156]
  refine As (hN) rfl (Am ?_) ?_ (Aa 200 _ _ _ ?_)
  ·simp only [push_cast,aAs,aA,aD,↓reduceIte]
  ·simp only [okR]
  simp only [push_cast,↓reduceIte,Nat.reduceLT]
  refine As (hO) rfl (Am ?_) ?_ (Aa 200 _ _ _ ?_)
  ·simp only [push_cast,aAs,aA,aD,↓reduceIte]
  ·simp only [okR]
  simp only [push_cast,↓reduceIte,Nat.reduceLT,Nat.reduceEqDiff,reduceCtorEq]
  refine Bo (hP) rfl rfl rfl ?_ ?_ ?_ (Aa 200 _ _ _ ?_)
  ·simp only [push_cast,rC,rCs,AS.em,mPs,mP,aA,aD,↓reduceIte,Nat.reduceEqDiff]
  ·simp only [push_cast,eC,eCs,ePs,eP,↓reduceIte,Nat.reduceEqDiff]
  ·simp only [push_cast,bPs,bP,↓reduceIte,Nat.reduceEqDiff]
  simp only [push_cast,mkC,fQP,CC,rRs,rOs,rC,rCs,eRs,eOs,eC,eCs,Eh,En,AS.kb,EW,rmB,mkO,BN,Br,ePs,eP,bPs,bP,aD,↓reduceIte,Nat.reduceLT,Nat.reduceEqDiff,reduceCtorEq,results156]
 rw [if_neg h4]
 have hP:=Ga m k hl (by omega) (by omega)
 obtain ⟨m1,hm1⟩:∃ m1,m1=CN m k:=⟨_,rfl⟩
 obtain ⟨tp,htp⟩:∃ tp,tp=Ee m k:=⟨_,rfl⟩
 have htl:tp.length=k:=by rw [htp,Ds];omega
 have hml:m1.st.length≤100000:=by rw [hm1,GA];omega
 rw [← hm1,← htp] at hP ⊢
 clear hm1 htp h4
 have hA:=Jz s
 have mn:∀ v:Vl,v.f=false→v.m=v.n:=fun v hv=>by cases v <;> first | rfl | cases hv
 rcases hs with h1 | h2
 ·have hk1:k=1:=by rw [hkk,h1];rfl
  subst hk1
  rw [vc1] at hO hP
  rw [DP htl] at hP ⊢
  generalize tp[0]! = a at hP ⊢
  have e1:=EY a
  have hr:=UZ a
  have e0:[a][0]! = a:=rfl
  simp only [AA,List.length_singleton] at hP
  have hn2:¬ CQ s=2:=by omega
  simp only [List.any_cons,List.any_nil,Bool.or_false,hn2,if_false,e0]
  cases ha:a.f with
  | true =>
   rw [if_pos rfl]
   unfold mcS at hP ⊢
   simp only
   simp only [e1,ha] at hr hP
   refine Ad func156 rfl rfl (by simp [ntmps156]) rfl ?_
   simp only [push_cast,s0P,Gx,EN,mkC,↓reduceIte,Nat.reduceLT,ntmps156]
   refine As (hN) rfl (Am ?_) ?_ (Aa 200 _ _ _ ?_)
   ·simp only [push_cast,aAs,aA,aD,↓reduceIte]
   ·simp only [okR]
   simp only [push_cast,↓reduceIte,Nat.reduceLT]
   refine As (hO) rfl (Am ?_) ?_ (Aa 200 _ _ _ ?_)
   ·simp only [push_cast,aAs,aA,aD,↓reduceIte]
   ·simp only [okR]
   simp only [push_cast,↓reduceIte,Nat.reduceLT,Nat.reduceEqDiff,reduceCtorEq]
   refine Bo (hP) rfl rfl rfl ?_ ?_ ?_ (Aa 200 _ _ _ ?_)
   ·simp only [push_cast,rC,rCs,AS.em,mPs,mP,aA,aD,↓reduceIte,Nat.reduceEqDiff]
   ·simp only [push_cast,eC,eCs,ePs,eP,↓reduceIte,Nat.reduceEqDiff]
   ·simp only [push_cast,bPs,bP,↓reduceIte,Nat.reduceEqDiff]
   simp only [push_cast,mkC,eC,eCs,Eh,En,AS.kb,EW,rmB,mkO,BN,Br,ePs,eP,bPs,bP,↓reduceIte,Nat.reduceLT,Nat.reduceAdd,Nat.reduceLeDiff,Nat.reduceEqDiff]
   refine CI 2 (Aa 200 _ _ _ ?_)
   simp only [push_cast,fQP,CC,rRs,rOs,rC,rCs,eRs,eOs,eC,eCs,aD,↓reduceIte,Nat.reduceLT,Nat.reduceAdd,Nat.reduceEqDiff,reduceCtorEq,Int.reduceLT,hr,vc1,Jv,results156]
  | false =>
   rw [if_neg (by simp)]
   have hU:=Dn m1 0 (.num (apV s a.n 0)) hml
   rw [mn a ha] at e1
   unfold mcS at hP hU ⊢
   unfold vlQ at hU
   simp only [Oc,IG,Je,Jd,List.length_nil,flC] at hU ⊢
   simp only [e1,ha] at hr hP
   refine Ad func156 rfl rfl (by simp [ntmps156]) rfl ?_
   simp only [push_cast,s0P,Gx,EN,mkC,↓reduceIte,Nat.reduceLT,ntmps156]
   refine As (hN) rfl (Am ?_) ?_ (Aa 200 _ _ _ ?_)
   ·simp only [push_cast,aAs,aA,aD,↓reduceIte]
   ·simp only [okR]
   simp only [push_cast,↓reduceIte,Nat.reduceLT]
   refine As (hO) rfl (Am ?_) ?_ (Aa 200 _ _ _ ?_)
   ·simp only [push_cast,aAs,aA,aD,↓reduceIte]
   ·simp only [okR]
   simp only [push_cast,↓reduceIte,Nat.reduceLT,Nat.reduceEqDiff,reduceCtorEq]
   refine Bo (hP) rfl rfl rfl ?_ ?_ ?_ (Aa 200 _ _ _ ?_)
   ·simp only [push_cast,rC,rCs,AS.em,mPs,mP,aA,aD,↓reduceIte,Nat.reduceEqDiff]
   ·simp only [push_cast,eC,eCs,ePs,eP,↓reduceIte,Nat.reduceEqDiff]
   ·simp only [push_cast,bPs,bP,↓reduceIte,Nat.reduceEqDiff]
   simp only [push_cast,mkC,eC,eCs,Eh,En,AS.kb,EW,rmB,mkO,BN,Br,ePs,eP,bPs,bP,↓reduceIte,Nat.reduceLT,Nat.reduceAdd,Nat.reduceLeDiff,Nat.reduceEqDiff]
   refine CI 2 (Aa 200 _ _ _ ?_)
   simp only [push_cast,↓reduceIte,Nat.reduceLT,Nat.reduceEqDiff,Int.reduceLT,Int.reduceAdd,hr,vc1,vc2,in1,qR_normal]
   refine Aa 200 _ _ _ ?_
   simp only [push_cast,↓reduceIte,Nat.reduceLT,Nat.reduceEqDiff,Int.reduceLT,qR_exit]
   refine Aa 200 _ _ _ ?_
   simp only [push_cast,↓reduceIte]
   refine Ac (oT [0,2,3,4,5,6,7] (oF [1,8] (oT [9,10,11,12,13] .nil))) (by kernel_rfl) Ar (by kernel_rfl) (Aa 200 _ _ _ ?_)
   simp only [push_cast,↓reduceIte,Nat.reduceLT,Nat.reduceEqDiff,Int.reduceLT,Int.reduceLE,vc2,rowAt]
   refine AR (hN) rfl (Am ?_) ?_ (Aa 200 _ _ _ ?_)
   ·simp only [push_cast,aAs,aA,aD,↓reduceIte,Nat.reduceEqDiff]
   ·simp only [okR]
   simp only [push_cast,↓reduceIte,Nat.reduceLT]
   refine AR (hA a.n 0) rfl (Am ?_) ?_ (Aa 200 _ _ _ ?_)
   ·simp only [push_cast,aAs,aA,aD,↓reduceIte,Nat.reduceEqDiff]
   ·simp only [okR]
   simp only [push_cast,↓reduceIte,Nat.reduceLT,Nat.reduceAdd,Nat.reduceLeDiff,Nat.reduceEqDiff,reduceCtorEq]
   refine Bo (hU) rfl rfl rfl ?_ ?_ ?_ (Aa 200 _ _ _ ?_)
   ·simp only [push_cast,rC,rCs,AS.em,mPs,mP,aD,↓reduceIte,Nat.reduceEqDiff]
   ·simp only [push_cast,eC,eCs,ePs,eP,↓reduceIte,Nat.reduceEqDiff]
   ·simp only [push_cast,bPs,bP,↓reduceIte,Nat.reduceEqDiff]
   simp only [push_cast,mkC,fQP,CC,rRs,rOs,rC,rCs,eRs,eOs,eC,eCs,Eh,En,AS.kb,EW,rmB,mkO,BN,Br,ePs,eP,bPs,bP,aD,↓reduceIte,Nat.reduceLT,Nat.reduceEqDiff,reduceCtorEq,results156]
 ·have hk2:k=2:=by rw [hkk,h2];rfl
  subst hk2
  rw [vc2] at hO hP
  rw [HA htl] at hP ⊢
  generalize tp[0]! = a at hP ⊢
  generalize tp[1]! = b at hP ⊢
  have e1:=EY a
  have e2:=EY b
  have hr:=XA a b
  have hr2:=Xe a b
  have e0:[a,b][0]! = a:=rfl
  have e00:[a,b][1]! = b:=rfl
  have ef:flC vlS [a,b]=vlS a++vlS b:=by simp only [flC,List.append_nil]
  rw [ef] at hP
  simp only [List.length_cons,List.length_nil,Nat.zero_add,Nat.reduceAdd] at hP
  simp only [List.any_cons,List.any_nil,Bool.or_false,h2,if_true,e0,e00]
  cases ha:a.f with
  | true =>
   rw [if_pos (by simp)]
   unfold mcS at hP ⊢
   simp only
   simp only [e1,e2,ha,List.cons_append,List.nil_append] at hr hr2 hP
   refine Ad func156 rfl rfl (by simp [ntmps156]) rfl ?_
   simp only [push_cast,s0P,Gx,EN,mkC,↓reduceIte,Nat.reduceLT,ntmps156]
   refine As (hN) rfl (Am ?_) ?_ (Aa 200 _ _ _ ?_)
   ·simp only [push_cast,aAs,aA,aD,↓reduceIte]
   ·simp only [okR]
   simp only [push_cast,↓reduceIte,Nat.reduceLT]
   refine As (hO) rfl (Am ?_) ?_ (Aa 200 _ _ _ ?_)
   ·simp only [push_cast,aAs,aA,aD,↓reduceIte]
   ·simp only [okR]
   simp only [push_cast,↓reduceIte,Nat.reduceLT,Nat.reduceEqDiff,reduceCtorEq]
   refine Bo (hP) rfl rfl rfl ?_ ?_ ?_ (Aa 200 _ _ _ ?_)
   ·simp only [push_cast,rC,rCs,AS.em,mPs,mP,aA,aD,↓reduceIte,Nat.reduceEqDiff]
   ·simp only [push_cast,eC,eCs,ePs,eP,↓reduceIte,Nat.reduceEqDiff]
   ·simp only [push_cast,bPs,bP,↓reduceIte,Nat.reduceEqDiff]
   simp only [push_cast,mkC,eC,eCs,Eh,En,AS.kb,EW,rmB,mkO,BN,Br,ePs,eP,bPs,bP,↓reduceIte,Nat.reduceLT,Nat.reduceAdd,Nat.reduceLeDiff,Nat.reduceEqDiff]
   refine CI 2 (Aa 200 _ _ _ ?_)
   simp only [push_cast,fQP,CC,rRs,rOs,rC,rCs,eRs,eOs,eC,eCs,aD,↓reduceIte,Nat.reduceLT,Nat.reduceAdd,Nat.reduceEqDiff,reduceCtorEq,Int.reduceLT,hr,vc2,Jv,results156]
  | false =>
   rw [mn a ha] at e1
   cases hb:b.f with
   | true =>
    rw [if_pos (by simp)]
    unfold mcS at hP ⊢
    simp only
    simp only [e1,e2,ha,hb,List.cons_append,List.nil_append] at hr hr2 hP
    refine Ad func156 rfl rfl (by simp [ntmps156]) rfl ?_
    simp only [push_cast,s0P,Gx,EN,mkC,↓reduceIte,Nat.reduceLT,ntmps156]
    refine As (hN) rfl (Am ?_) ?_ (Aa 200 _ _ _ ?_)
    ·simp only [push_cast,aAs,aA,aD,↓reduceIte]
    ·simp only [okR]
    simp only [push_cast,↓reduceIte,Nat.reduceLT]
    refine As (hO) rfl (Am ?_) ?_ (Aa 200 _ _ _ ?_)
    ·simp only [push_cast,aAs,aA,aD,↓reduceIte]
    ·simp only [okR]
    simp only [push_cast,↓reduceIte,Nat.reduceLT,Nat.reduceEqDiff,reduceCtorEq]
    refine Bo (hP) rfl rfl rfl ?_ ?_ ?_ (Aa 200 _ _ _ ?_)
    ·simp only [push_cast,rC,rCs,AS.em,mPs,mP,aA,aD,↓reduceIte,Nat.reduceEqDiff]
    ·simp only [push_cast,eC,eCs,ePs,eP,↓reduceIte,Nat.reduceEqDiff]
    ·simp only [push_cast,bPs,bP,↓reduceIte,Nat.reduceEqDiff]
    simp only [push_cast,mkC,eC,eCs,Eh,En,AS.kb,EW,rmB,mkO,BN,Br,ePs,eP,bPs,bP,↓reduceIte,Nat.reduceLT,Nat.reduceAdd,Nat.reduceLeDiff,Nat.reduceEqDiff]
    refine CI 2 (Aa 200 _ _ _ ?_)
    simp only [push_cast,↓reduceIte,Nat.reduceLT,Nat.reduceEqDiff,Int.reduceLT,Int.reduceAdd,hr,vc2,in1,qR_normal]
    refine Aa 200 _ _ _ ?_
    simp only [push_cast,fQP,CC,rRs,rOs,rC,rCs,eRs,eOs,eC,eCs,aD,↓reduceIte,Nat.reduceLT,Nat.reduceAdd,Nat.reduceEqDiff,reduceCtorEq,Int.reduceLT,Int.reduceLE,hr2,vc2,Jv,results156]
   | false =>
    rw [if_neg (by simp)]
    rw [mn b hb] at e2
    have hU:=Dn m1 0 (.num (apV s a.n b.n)) hml
    unfold mcS at hP hU ⊢
    unfold vlQ at hU
    simp only [Oc,IG,Je,Jd,List.length_nil,flC] at hU ⊢
    simp only [e1,e2,ha,hb,List.cons_append,List.nil_append] at hr hr2 hP
    refine Ad func156 rfl rfl (by simp [ntmps156]) rfl ?_
    simp only [push_cast,s0P,Gx,EN,mkC,↓reduceIte,Nat.reduceLT,ntmps156]
    refine As (hN) rfl (Am ?_) ?_ (Aa 200 _ _ _ ?_)
    ·simp only [push_cast,aAs,aA,aD,↓reduceIte]
    ·simp only [okR]
    simp only [push_cast,↓reduceIte,Nat.reduceLT]
    refine As (hO) rfl (Am ?_) ?_ (Aa 200 _ _ _ ?_)
    ·simp only [push_cast,aAs,aA,aD,↓reduceIte]
    ·simp only [okR]
    simp only [push_cast,↓reduceIte,Nat.reduceLT,Nat.reduceEqDiff,reduceCtorEq]
    refine Bo (hP) rfl rfl rfl ?_ ?_ ?_ (Aa 200 _ _ _ ?_)
    ·simp only [push_cast,rC,rCs,AS.em,mPs,mP,aA,aD,↓reduceIte,Nat.reduceEqDiff]
    ·simp only [push_cast,eC,eCs,ePs,eP,↓reduceIte,Nat.reduceEqDiff]
    ·simp only [push_cast,bPs,bP,↓reduceIte,Nat.reduceEqDiff]
    simp only [push_cast,mkC,eC,eCs,Eh,En,AS.kb,EW,rmB,mkO,BN,Br,ePs,eP,bPs,bP,↓reduceIte,Nat.reduceLT,Nat.reduceAdd,Nat.reduceLeDiff,Nat.reduceEqDiff]
    refine CI 2 (Aa 200 _ _ _ ?_)
    simp only [push_cast,↓reduceIte,Nat.reduceLT,Nat.reduceEqDiff,Int.reduceLT,Int.reduceAdd,hr,vc2,in1,qR_normal]
    refine Aa 200 _ _ _ ?_
    simp only [push_cast,↓reduceIte,Nat.reduceLT,Nat.reduceEqDiff,Int.reduceLT,Int.reduceLE,Int.reduceAdd,hr2,vc2,in2,qR_normal]
    refine Aa 200 _ _ _ ?_
    simp only [push_cast,↓reduceIte,Nat.reduceLT,Nat.reduceEqDiff,Int.reduceLT,qR_exit]
    refine Aa 200 _ _ _ ?_
    simp only [push_cast,↓reduceIte]
    refine Ac (oT [0,2,3,4,5,6,7] (oF [1,8] (oT [9,10,11,12,13] .nil))) (by kernel_rfl) Ar (by kernel_rfl) (Aa 200 _ _ _ ?_)
    simp only [push_cast,↓reduceIte,Nat.reduceLT,Nat.reduceEqDiff,Int.reduceLT,Int.reduceLE,vc2,rowAt]
    refine AR (hN) rfl (Am ?_) ?_ (Aa 200 _ _ _ ?_)
    ·simp only [push_cast,aAs,aA,aD,↓reduceIte,Nat.reduceEqDiff]
    ·simp only [okR]
    simp only [push_cast,↓reduceIte,Nat.reduceLT]
    refine AR (hA a.n b.n) rfl (Am ?_) ?_ (Aa 200 _ _ _ ?_)
    ·simp only [push_cast,aAs,aA,aD,↓reduceIte,Nat.reduceEqDiff]
    ·simp only [okR]
    simp only [push_cast,↓reduceIte,Nat.reduceLT,Nat.reduceAdd,Nat.reduceLeDiff,Nat.reduceEqDiff,reduceCtorEq]
    refine Bo (hU) rfl rfl rfl ?_ ?_ ?_ (Aa 200 _ _ _ ?_)
    ·simp only [push_cast,rC,rCs,AS.em,mPs,mP,aD,↓reduceIte,Nat.reduceEqDiff]
    ·simp only [push_cast,eC,eCs,ePs,eP,↓reduceIte,Nat.reduceEqDiff]
    ·simp only [push_cast,bPs,bP,↓reduceIte,Nat.reduceEqDiff]
    simp only [push_cast,mkC,fQP,CC,rRs,rOs,rC,rCs,eRs,eOs,eC,eCs,Eh,En,AS.kb,EW,rmB,mkO,BN,Br,ePs,eP,bPs,bP,aD,↓reduceIte,Nat.reduceLT,Nat.reduceEqDiff,reduceCtorEq,results156]
def Qy (m:Mch) (a:Int):Int × Mch:=if m.nm.length≤a.toNat then (4,m) else (0,EK m (m.nm[m.nm.length-1-a.toNat]!))
def Qu (m:Mch) (a:Int):Int × Mch:=if m.st.length<1 then (4,m) else if ((Ee m 1)[0]!).f=true then (3,CN m 1) else if ((Ee m 1)[0]!).n=0 then (0,pcM (CN m 1) a) else (0,CN m 1)
def QA (m:Mch):Int × Mch:=if m.st.length<1 then (4,m) else (0,nmM (CN m 1) (m.nm++[(Ee m 1)[0]!]))
def Qs (m:Mch):Int × Mch:=if m.nm.length=0 then (4,m) else (0,nmM m (m.nm.take (m.nm.length-1)))
theorem aCZ {v:Vl} (h:v.f=false):v.m=v.n:=by cases v <;> first | rfl | cases h
theorem aGy {v:Vl} (h:v.f=true):v.m=v.p:=by cases v <;> first | rfl | cases h
set_option maxRecDepth 20000 in
theorem WS (m:Mch) (a:Int) (hm:SzM m) (ha:0≤a∧a≤299):Bc prog 155 [.p (mcS m 0),.b (.one (.int a))] [mcS (Qy m a).2 (Qy m a).1] []:=by
 have hst:=hm.st
 have hnm:=hm.nm
 unfold Qy
 by_cases h:m.nm.length≤a.toNat
 ·rw [if_pos h]
  have h':(m.nm.length:Int)≤a:=by omega
  unfold mcS
  refine Ad func155 rfl rfl (by simp [ntmps155]) rfl ?_
  exact byP (fc h' (fc ntmps155 results155)) tI
 ·rw [if_neg h]
  have h':¬ (m.nm.length:Int)≤a:=by omega
  have g0:(m.nm.length:Int)-1-a=((m.nm.length-1-a.toNat:Nat):Int):=by omega
  have g1:inI ((m.nm.length:Int)-1):=by unfold inI;omega
  have g2:inI ((m.nm.length-1-a.toNat:Nat):Int):=by unfold inI;omega
  have g3:((m.nm.length-1-a.toNat:Nat):Int)<(m.nm.length:Int):=by omega
  have hR:=CR DX m.nm (m.nm.length-1-a.toNat) (by omega)
  generalize m.nm[m.nm.length-1-a.toNat]! = v at hR ⊢
  rw [EY] at hR
  have hU:=Dn m 0 v (by omega)
  unfold mcS vlQ at hU
  unfold mcS
  simp only at hU ⊢
  refine Ad func155 rfl rfl (by simp [ntmps155]) rfl ?_
  refine byP (fc h' ntmps155) ?_
  refine Ac (oT [0,1,2,3,4,5,6,7,8,9,10,11,12,13,14] (.cons 15 false .nil)) (by kernel_rfl) Ar (by kernel_rfl) (Aa 200 _ _ _ ?_)
  refine byP (fc g0 (fc g1 (fc g2 (fc g3 hR)))) ?_
  refine Dl (cap:=[]) (hU) rfl rfl rfl ?_ ?_ ?_ rfl (Aa 200 _ _ _ ?_)
  ·exact byQ tI
  ·exact byQ tI
  ·exact byQ tI
  exact byP results155 tI
set_option maxRecDepth 20000 in
theorem VL (m:Mch) (a:Int) (hl:m.st.length≤90000):Bc prog 157 [.p (mcS m 0),.b (.one (.int a))] [mcS (Qu m a).2 (Qu m a).1] []:=by
 unfold Qu
 have hst:=hl
 by_cases h:m.st.length<1
 ·rw [if_pos h]
  have hP:=Gu m 1 (by omega) (by omega) h
  rw [vc1] at hP
  unfold mcS at hP ⊢
  refine Ad func157 rfl rfl (by simp [ntmps157]) rfl ?_
  refine byP ntmps157 ?_
  refine KR hP ?_
  exact rG results157 tI
 rw [if_neg h]
 have hP:=Ga m 1 (by omega) (by omega) (by omega)
 rw [vc1] at hP
 obtain ⟨tp,htp⟩:∃ tp,tp=Ee m 1:=⟨_,rfl⟩
 have htl:tp.length=1:=by rw [htp,Ds];omega
 rw [← htp] at hP ⊢
 rw [DP htl] at hP ⊢
 generalize tp[0]! = v at hP ⊢
 have e0:[v][0]! = v:=rfl
 rw [e0]
 have hr:=UZ v
 have e1:=EY v
 simp only [AA,List.length_singleton] at hP
 have pp:(CN m 1).pc=m.pc:=rfl
 have pn:(CN m 1).nm=m.nm:=rfl
 have pf:(CN m 1).fr=m.fr:=rfl
 cases hv:v.f with
 | true =>
  rw [if_pos rfl]
  simp only [e1,hv] at hr hP
  unfold mcS at hP ⊢
  refine Ad func157 rfl rfl (by simp [ntmps157]) rfl ?_
  refine byP ntmps157 ?_
  refine KR hP ?_
  exact rG (fc hr (fc vc1 results157)) tI
 | false =>
  rw [if_neg (by simp)]
  rw [aCZ hv] at e1
  simp only [e1,hv] at hr hP
  by_cases hz:v.n=0
  ·rw [if_pos hz]
   simp only [hz] at hr hP
   unfold mcS at hP ⊢
   simp only [pcM]
   refine Ad func157 rfl rfl (by simp [ntmps157]) rfl ?_
   refine byP ntmps157 ?_
   refine KR hP ?_
   exact rG (fc hr (fc vc1 results157)) tI
  ·rw [if_neg hz]
   have hz':(v.n=0)=False:=eq_false hz
   unfold mcS at hP ⊢
   refine Ad func157 rfl rfl (by simp [ntmps157]) rfl ?_
   refine byP ntmps157 ?_
   refine KR hP ?_
   exact rG (fc hr (fc vc1 (fc hz' results157))) tI
set_option maxRecDepth 20000 in
theorem VB (m:Mch) (hl:m.st.length≤90000) (hnm:m.nm.length≤90000):Bc prog 160 [.p (mcS m 0)] [mcS (QA m).2 (QA m).1] []:=by
 unfold QA
 have hst:=hl
 by_cases h:m.st.length<1
 ·rw [if_pos h]
  have hP:=Gu m 1 (by omega) (by omega) h
  rw [vc1] at hP
  unfold mcS at hP ⊢
  refine Ad func160 rfl rfl (by simp [ntmps160]) rfl ?_
  refine byP ntmps160 ?_
  refine KR hP ?_
  exact rG results160 tI
 rw [if_neg h]
 have hP:=Ga m 1 (by omega) (by omega) (by omega)
 rw [vc1] at hP
 obtain ⟨tp,htp⟩:∃ tp,tp=Ee m 1:=⟨_,rfl⟩
 have htl:tp.length=1:=by rw [htp,Ds];omega
 rw [← htp] at hP ⊢
 rw [DP htl] at hP ⊢
 generalize tp[0]! = v at hP ⊢
 have e0:[v][0]! = v:=rfl
 rw [e0]
 have hr:=UZ v
 have e1:=EY v
 simp only [AA,List.length_singleton] at hP
 have pp:(CN m 1).pc=m.pc:=rfl
 have pn:(CN m 1).nm=m.nm:=rfl
 have pf:(CN m 1).fr=m.fr:=rfl
 simp only [e1] at hr hP
 unfold mcS at hP ⊢
 simp only [nmM]
 rw [AM,AA,e1,List.length_append,List.length_singleton]
 rw [pp,pn,pf] at hP
 rw [pp,pf]
 refine BZ [4] func160 rfl rfl (by simp [ntmps160]) rfl ?_
 refine byP ntmps160 ?_
 refine KR hP ?_
 refine rQ ?_
 refine Ac (oT [0,2,3,4,5,7] (.fork (.alt 1 (.fork (.alt 6 (oT [8,9] (oF [10,11] (oT [12,13] (.cons 14 false .nil)))) (.alt 8 (.fork (.alt 6 (.cons 9 true (oF [10,11] (oT [12,13] (.cons 14 false .nil)))) (.alt 9 (.fork (.alt 6 (oF [10,11] (oT [12,13] (.cons 14 false .nil))) (.alt 10 (oF [6,11] (oT [12,13] (.cons 14 false .nil))) .last))) .last))) .last))) (.alt 8 (.fork (.alt 1 (.fork (.alt 6 (.cons 9 true (oF [10,11] (oT [12,13] (.cons 14 false .nil)))) (.alt 9 (.fork (.alt 6 (oF [10,11] (oT [12,13] (.cons 14 false .nil))) (.alt 10 (oF [6,11] (oT [12,13] (.cons 14 false .nil))) .last))) .last))) (.alt 9 (.fork (.alt 1 (.fork (.alt 6 (oF [10,11] (oT [12,13] (.cons 14 false .nil))) (.alt 10 (oF [6,11] (oT [12,13] (.cons 14 false .nil))) .last))) (.alt 10 (oF [1,6,11] (oT [12,13] (.cons 14 false .nil))) .last))) .last))) .last)))) (by kernel_rfl) BT (by kernel_rfl) (Aa 200 _ _ _ ?_)
 refine byP (fc hr (fc vc1 results160)) ?_
 (try repeat' (with_reducible apply And.intro))
 all_goals first | (intro o h;first | trivial | (intro h2;omega) | omega) | (unfold maxLen;omega) | (unfold inI;omega) | omega | trivial
set_option maxRecDepth 20000 in
theorem UK (m:Mch) (hnm:m.nm.length≤90000):Bc prog 161 [.p (mcS m 0)] [mcS (Qs m).2 (Qs m).1] []:=by
 unfold Qs
 by_cases h:m.nm.length=0
 ·rw [if_pos h]
  have h':((m.nm.length:Int)=0)=True:=eq_true (by omega)
  unfold mcS
  refine Ad func161 rfl rfl (by simp [ntmps161]) rfl ?_
  exact byP (fc h' (fc ntmps161 results161)) tI
 ·rw [if_neg h]
  have h':((m.nm.length:Int)=0)=False:=eq_false (by omega)
  have g0:(m.nm.length:Int)-1=((m.nm.length-1:Nat):Int):=by omega
  have g1:inI ((m.nm.length-1:Nat):Int):=by unfold inI;omega
  have g2:((m.nm.length-1:Nat):Int)≤(m.nm.length:Int):=by omega
  have hcut:=Et DX m.nm 0 (m.nm.length-1)
  rw [List.drop_zero,Nat.sub_zero] at hcut
  have htl:(m.nm.take (m.nm.length-1)).length=m.nm.length-1:=by rw [List.length_take];omega
  unfold mcS nmM
  simp only [htl]
  refine BZ [2] func161 rfl rfl (by simp [ntmps161]) rfl ?_
  refine byP (fc h' ntmps161) ?_
  refine Ac (oT [0,2,3,4,5,6,7,8,9,10,11,12] (oF [1,13] (oT [14,15] (.cons 16 false .nil)))) (by kernel_rfl) BT (by kernel_rfl) (Aa 200 _ _ _ ?_)
  refine byP (fc g0 (fc g1 (fc g2 (fc hcut results161)))) ?_
  (try repeat' (with_reducible apply And.intro))
  all_goals first | (intro o h;first | trivial | (intro h2;omega) | omega) | (unfold maxLen;omega) | (unfold inI;omega) | omega | trivial
def rtV (m:Mch):Vl:=if m.st.length≠1 then .num 0 else m.st[0]!
set_option maxRecDepth 20000 in
theorem VV (m:Mch) (hl:m.st.length≤90000) (hf:m.fr.length≤90000) (hfs:∀ f ∈ m.fr,f.st.length≤90000):Bc prog 159 [.p (mcS m 0)] [mcS (Nk m (.num 0)).2.1 (Nk m (.num 0)).1] [.ag (vlQ (rtV m))]:=by
 unfold Nk rtV
 by_cases h1:m.st.length≠1
 ·rw [if_pos h1,if_pos h1]
  have h1':((m.st.length:Int)≠1)=True:=eq_true (by omega)
  unfold mcS vlQ
  simp only [Oc,IG,Je,Jd,List.length_nil,flC]
  refine Ad func159 rfl rfl (by simp [ntmps159]) rfl ?_
  exact byP (fc h1' (fc ntmps159 results159)) tI
 rw [if_neg h1,if_neg h1]
 have h1'':m.st.length=1:=by omega
 have hs:=DP h1''
 obtain ⟨v,hv⟩:∃ v,v=m.st[0]! := ⟨_,rfl⟩
 rw [← hv] at hs ⊢
 obtain ⟨pc,st,nm,fr⟩:=m
 simp only at hs hf hfs ⊢
 subst hs
 clear h1 h1'' hl hv
 have hr:=UZ v
 have e1:=EY v
 have es:flC vlS [v]=vlS v:=AA _ _
 by_cases h2:fr.length=0
 ·obtain rfl:=List.eq_nil_of_length_eq_zero h2
  rw [if_pos h2]
  unfold mcS vlQ
  simp only [e1,List.length_cons,List.length_nil,Nat.zero_add,flC] at hr ⊢
  refine Ad func159 rfl rfl (by simp [ntmps159]) rfl ?_
  exact byP (fc hr (fc vc1 (fc ntmps159 results159))) tI
 ·rw [if_neg h2]
  have h2':((fr.length:Int)=0)=False:=eq_false (by omega)
  have hk:fr.length-1<fr.length:=by omega
  have g0:(fr.length:Int)-1=((fr.length-1:Nat):Int):=by omega
  have g2:inI ((fr.length-1:Nat):Int):=by unfold inI;omega
  have g3:((fr.length-1:Nat):Int)<(fr.length:Int):=by omega
  have g4:((fr.length-1:Nat):Int)≤(fr.length:Int):=by omega
  have hR:=CR SD fr (fr.length-1) hk
  have hcut:=Et SD fr 0 (fr.length-1)
  rw [List.drop_zero,Nat.sub_zero] at hcut
  have hfm:=hfs _ (Ab hk)
  generalize fr[fr.length-1]! = f at hR hfm ⊢
  obtain ⟨fp,fs,fn⟩:=f
  simp only at hfm ⊢
  have htl:(fr.take (fr.length-1)).length=fr.length-1:=by rw [List.length_take];omega
  have hU:=Dn ⟨fp,fs,fn,fr.take (fr.length-1)⟩ 0 v (by simp only;omega)
  unfold EK mcS vlQ at hU
  unfold mcS vlQ
  simp only [htl] at hU ⊢
  simp only [frS,vsS] at hR
  simp only [es,e1,List.length_cons,List.length_nil,Nat.zero_add] at hr ⊢
  refine Ad func159 rfl rfl (by simp [ntmps159]) rfl ?_
  refine byP (fc hr (fc hR (fc vc1 (fc h2' (fc g0 (fc g2 (fc g3 (fc g4 (fc hcut ntmps159))))))))) ?_
  refine ⟨⟨fun _ _=>trivial,by unfold maxLen;omega,by omega⟩, ?_⟩
  refine AX 5 rfl ?_
  refine byQ ?_
  refine KR hU ?_
  exact rG results159 tI
set_option maxRecDepth 20000
theorem Hr {ops:Array Oper} {r:AN} {n i:Nat} {listed:Array Bool} (h:((Region.ready .any ops listed).contains i && Region.free .any ops listed i && !CV ops i && (JE ops i || (List.range ops.size).all fun j=>listed.getD j true || !CV ops j || j == i || MW ops listed i ops.size j))=true) (h2:Ag ops r n (listed.setIfInBounds i true)=true):Ag ops (.cons i true r) (n+1) listed=true:=by
 rw [Ag,h,h2];rfl
theorem aDQ {ops:Array Oper} {r:AN} {n i:Nat} {listed:Array Bool} (h:(Region.ready .any ops listed == [i])=true) (h2:Ag ops r n (listed.setIfInBounds i true)=true):Ag ops (.cons i false r) (n+1) listed=true:=by
 rw [Ag,h,h2];rfl
theorem Cj {ops:Array Oper} {l:AN} {n:Nat} {listed:Array Bool} (h:(!(Region.ready .any ops listed).isEmpty && ((Region.ready .any ops listed).all fun i=>(LG l).contains i))=true) (h2:Ag ops l n listed=true):Ag ops (.fork l) (n+1) listed=true:=by
 rw [Ag,h,h2];rfl
theorem AZ {ops:Array Oper} {r l:AN} {n i:Nat} {listed:Array Bool} (h:Ag ops r n (listed.setIfInBounds i true)=true) (h2:Ag ops l n listed=true):Ag ops (.alt i r l) n listed=true:=by
 rw [Ag,h,h2];rfl
theorem Bj {i:Nat} {b:Bool} {r:AN} (h:Ae r=true) (h2:EF r=false):Ae (.cons i b r)=true:=by rw [Ae,h,h2];rfl
theorem Ci {l:AN} (h:Ae l=true) (h2:EF l=true):Ae (.fork l)=true:=by rw [Ae,h,h2];rfl
theorem AY {i:Nat} {r l:AN} (h:Ae r=true) (h2:EF r=false) (h3:Ae l=true) (h4:EF l=true):Ae (.alt i r l)=true:=by rw [Ae,h,h2,h3,h4];rfl
def ML (id:Nat):Code→Option (Array Oper)
 | .region i ops _=>if i=id then some ops else none
 | .seq a b=>(ML id a).orElse fun _=>ML id b
 | .cond _ a b=>(ML id a).orElse fun _=>ML id b
 | .block _ c=>ML id c
 | .loop c=>ML id c
 | _=>none
def BC (id:Nat) (f:Func):Array Oper:=(f.body.bind (ML id)).getD #[]
def qc0:AN:=.nil
theorem aJh:Ae qc0=true:=rfl
theorem aJw:Ag (BC 5 Tryz.f158) qc0 0 #[true,true,true,true,true,true,true,true,true,true,true,true,true,true,true,true,true,true,true,true,true,true,true,true,true]=true:=by kernel_rfl
def qc1:AN:=.cons 24 false qc0
theorem aJE:Ae qc1=true:=Bj aJh rfl
theorem aJv:Ag (BC 5 Tryz.f158) qc1 1 #[true,true,true,true,true,true,true,true,true,true,true,true,true,true,true,true,true,true,true,true,true,true,true,true,false]=true:=aDQ (by kernel_rfl) aJw
def qc2:AN:=.cons 23 true qc1
theorem aJs:Ae qc2=true:=Bj aJE rfl
theorem aJm:Ag (BC 5 Tryz.f158) qc2 2 #[true,true,true,true,true,true,true,true,true,true,true,true,true,true,true,true,true,true,true,true,true,true,true,false,false]=true:=Hr (by kernel_rfl) aJv
def qc3:AN:=.cons 22 true qc2
theorem aJy:Ae qc3=true:=Bj aJs rfl
theorem aJu:Ag (BC 5 Tryz.f158) qc3 3 #[true,true,true,true,true,true,true,true,true,true,true,true,true,true,true,true,true,true,true,true,true,true,false,false,false]=true:=Hr (by kernel_rfl) aJm
def qc4:AN:=.cons 21 false qc3
theorem aIV:Ae qc4=true:=Bj aJy rfl
theorem aI0:Ag (BC 5 Tryz.f158) qc4 4 #[true,true,true,true,true,true,true,true,true,true,true,true,true,true,true,true,true,true,true,true,true,false,false,false,false]=true:=aDQ (by kernel_rfl) aJu
def qc5:AN:=.cons 20 false qc4
theorem aIT:Ae qc5=true:=Bj aIV rfl
theorem aJc:Ag (BC 5 Tryz.f158) qc5 5 #[true,true,true,true,true,true,true,true,true,true,true,true,true,true,true,true,true,true,true,true,false,false,false,false,false]=true:=aDQ (by kernel_rfl) aI0
def qc6:AN:=.cons 19 true qc5
theorem aFp:Ae qc6=true:=Bj aIT rfl
theorem aEI:Ag (BC 5 Tryz.f158) qc6 6 #[true,true,true,true,true,true,true,true,true,true,true,true,true,true,true,true,true,true,true,false,false,false,false,false,false]=true:=Hr (by kernel_rfl) aJc
def qc7:AN:=.cons 18 true qc6
theorem aF1:Ae qc7=true:=Bj aFp rfl
theorem aIG:Ag (BC 5 Tryz.f158) qc7 7 #[true,true,true,true,true,true,true,true,true,true,true,true,true,true,true,true,true,true,false,false,false,false,false,false,false]=true:=Hr (by kernel_rfl) aEI
def qc8:AN:=.cons 14 true qc7
theorem aI5:Ae qc8=true:=Bj aF1 rfl
theorem aIM:Ag (BC 5 Tryz.f158) qc8 8 #[true,true,true,true,true,true,true,true,true,true,true,true,true,true,false,true,true,true,false,false,false,false,false,false,false]=true:=Hr (by kernel_rfl) aIG
def qc9:AN:=.cons 10 true qc8
theorem aJi:Ae qc9=true:=Bj aI5 rfl
theorem aJn:Ag (BC 5 Tryz.f158) qc9 9 #[true,true,true,true,true,true,true,true,true,true,false,true,true,true,false,true,true,true,false,false,false,false,false,false,false]=true:=Hr (by kernel_rfl) aIM
def aDx:AN:=.cons 6 false qc4
theorem aCj:Ae aDx=true:=Bj aIV rfl
theorem aCx:Ag (BC 5 Tryz.f158) aDx 5 #[true,true,true,true,true,true,false,true,true,true,true,true,true,true,true,true,true,true,true,true,true,false,false,false,false]=true:=aDQ (by kernel_rfl) aI0
def aGI:AN:=.last
theorem aIA:Ae aGI=true:=rfl
def aD9:AN:=.alt 20 aDx aGI
theorem aGT:Ae aD9=true:=AY aCj rfl aIA rfl
theorem aIn:Ag (BC 5 Tryz.f158) aD9 5 #[true,true,true,true,true,true,false,true,true,true,true,true,true,true,true,true,true,true,true,true,false,false,false,false,false]=true:=AZ aCx rfl
def aFk:AN:=.alt 6 qc5 aD9
theorem aGu:Ae aFk=true:=AY aIT rfl aGT rfl
theorem aGY:Ag (BC 5 Tryz.f158) aFk 5 #[true,true,true,true,true,true,false,true,true,true,true,true,true,true,true,true,true,true,true,true,false,false,false,false,false]=true:=AZ aJc aIn
def aBL:AN:=.fork aFk
theorem aCb:Ae aBL=true:=Ci aGu rfl
theorem aCu:Ag (BC 5 Tryz.f158) aBL 6 #[true,true,true,true,true,true,false,true,true,true,true,true,true,true,true,true,true,true,true,true,false,false,false,false,false]=true:=Cj (by kernel_rfl) aGY
def aFZ:AN:=.last
theorem aHh:Ae aFZ=true:=rfl
def aFb:AN:=.alt 19 aBL aFZ
theorem aGh:Ae aFb=true:=AY aCb rfl aHh rfl
theorem aG6:Ag (BC 5 Tryz.f158) aFb 6 #[true,true,true,true,true,true,false,true,true,true,true,true,true,true,true,true,true,true,true,false,false,false,false,false,false]=true:=AZ aCu rfl
def aEK:AN:=.alt 6 qc6 aFb
theorem aHu:Ae aEK=true:=AY aFp rfl aGh rfl
theorem aGJ:Ag (BC 5 Tryz.f158) aEK 6 #[true,true,true,true,true,true,false,true,true,true,true,true,true,true,true,true,true,true,true,false,false,false,false,false,false]=true:=AZ aEI aG6
def aAC:AN:=.fork aEK
theorem VD:Ae aAC=true:=Ci aHu rfl
theorem UP:Ag (BC 5 Tryz.f158) aAC 7 #[true,true,true,true,true,true,false,true,true,true,true,true,true,true,true,true,true,true,true,false,false,false,false,false,false]=true:=Cj (by kernel_rfl) aGJ
def aFu:AN:=.last
theorem aHo:Ae aFu=true:=rfl
def aEb:AN:=.alt 18 aAC aFu
theorem aHg:Ae aEb=true:=AY VD rfl aHo rfl
theorem aFD:Ag (BC 5 Tryz.f158) aEb 7 #[true,true,true,true,true,true,false,true,true,true,true,true,true,true,true,true,true,true,false,false,false,false,false,false,false]=true:=AZ UP rfl
def aEF:AN:=.alt 6 qc7 aEb
theorem aFC:Ae aEF=true:=AY aF1 rfl aHg rfl
theorem aGv:Ag (BC 5 Tryz.f158) aEF 7 #[true,true,true,true,true,true,false,true,true,true,true,true,true,true,true,true,true,true,false,false,false,false,false,false,false]=true:=AZ aIG aFD
def aA8:AN:=.fork aEF
theorem Yf:Ae aA8=true:=Ci aFC rfl
theorem Ys:Ag (BC 5 Tryz.f158) aA8 8 #[true,true,true,true,true,true,false,true,true,true,true,true,true,true,true,true,true,true,false,false,false,false,false,false,false]=true:=Cj (by kernel_rfl) aGv
def aDS:AN:=.cons 14 true qc6
theorem aBZ:Ae aDS=true:=Bj aFp rfl
theorem aDU:Ag (BC 5 Tryz.f158) aDS 7 #[true,true,true,true,true,true,true,true,true,true,true,true,true,true,false,true,true,true,true,false,false,false,false,false,false]=true:=Hr (by kernel_rfl) aEI
def aHZ:AN:=.last
theorem aHQ:Ae aHZ=true:=rfl
def aE9:AN:=.alt 14 aAC aHZ
theorem aGs:Ae aE9=true:=AY VD rfl aHQ rfl
theorem aIw:Ag (BC 5 Tryz.f158) aE9 7 #[true,true,true,true,true,true,false,true,true,true,true,true,true,true,false,true,true,true,true,false,false,false,false,false,false]=true:=AZ UP rfl
def aFg:AN:=.alt 6 aDS aE9
theorem aH7:Ae aFg=true:=AY aBZ rfl aGs rfl
theorem aG9:Ag (BC 5 Tryz.f158) aFg 7 #[true,true,true,true,true,true,false,true,true,true,true,true,true,true,false,true,true,true,true,false,false,false,false,false,false]=true:=AZ aDU aIw
def aBd:AN:=.fork aFg
theorem Yn:Ae aBd=true:=Ci aH7 rfl
theorem ZY:Ag (BC 5 Tryz.f158) aBd 8 #[true,true,true,true,true,true,false,true,true,true,true,true,true,true,false,true,true,true,true,false,false,false,false,false,false]=true:=Cj (by kernel_rfl) aG9
def aIC:AN:=.last
theorem aFw:Ae aIC=true:=rfl
def aEC:AN:=.alt 18 aBd aIC
theorem aGF:Ae aEC=true:=AY Yn rfl aFw rfl
theorem aFK:Ag (BC 5 Tryz.f158) aEC 8 #[true,true,true,true,true,true,false,true,true,true,true,true,true,true,false,true,true,true,false,false,false,false,false,false,false]=true:=AZ ZY rfl
def aEM:AN:=.alt 14 aA8 aEC
theorem aGt:Ae aEM=true:=AY Yf rfl aGF rfl
theorem aHV:Ag (BC 5 Tryz.f158) aEM 8 #[true,true,true,true,true,true,false,true,true,true,true,true,true,true,false,true,true,true,false,false,false,false,false,false,false]=true:=AZ Ys aFK
def aEd:AN:=.alt 6 qc8 aEM
theorem aFv:Ae aEd=true:=AY aI5 rfl aGt rfl
theorem aFJ:Ag (BC 5 Tryz.f158) aEd 8 #[true,true,true,true,true,true,false,true,true,true,true,true,true,true,false,true,true,true,false,false,false,false,false,false,false]=true:=AZ aIM aHV
def aCi:AN:=.fork aEd
theorem aDu:Ae aCi=true:=Ci aFv rfl
theorem aCD:Ag (BC 5 Tryz.f158) aCi 9 #[true,true,true,true,true,true,false,true,true,true,true,true,true,true,false,true,true,true,false,false,false,false,false,false,false]=true:=Cj (by kernel_rfl) aFJ
def aFh:AN:=.cons 10 true qc7
theorem aIx:Ae aFh=true:=Bj aF1 rfl
theorem aIo:Ag (BC 5 Tryz.f158) aFh 8 #[true,true,true,true,true,true,true,true,true,true,false,true,true,true,true,true,true,true,false,false,false,false,false,false,false]=true:=Hr (by kernel_rfl) aIG
def aEV:AN:=.cons 10 true qc6
theorem aFL:Ae aEV=true:=Bj aFp rfl
theorem aGb:Ag (BC 5 Tryz.f158) aEV 7 #[true,true,true,true,true,true,true,true,true,true,false,true,true,true,true,true,true,true,true,false,false,false,false,false,false]=true:=Hr (by kernel_rfl) aEI
def aGQ:AN:=.last
theorem aHe:Ae aGQ=true:=rfl
def aEe:AN:=.alt 10 aAC aGQ
theorem aFM:Ae aEe=true:=AY VD rfl aHe rfl
theorem aGe:Ag (BC 5 Tryz.f158) aEe 7 #[true,true,true,true,true,true,false,true,true,true,false,true,true,true,true,true,true,true,true,false,false,false,false,false,false]=true:=AZ UP rfl
def aEw:AN:=.alt 6 aEV aEe
theorem aGr:Ae aEw=true:=AY aFL rfl aFM rfl
theorem aFR:Ag (BC 5 Tryz.f158) aEw 7 #[true,true,true,true,true,true,false,true,true,true,false,true,true,true,true,true,true,true,true,false,false,false,false,false,false]=true:=AZ aGb aGe
def aBc:AN:=.fork aEw
theorem aAG:Ae aBc=true:=Ci aGr rfl
theorem YC:Ag (BC 5 Tryz.f158) aBc 8 #[true,true,true,true,true,true,false,true,true,true,false,true,true,true,true,true,true,true,true,false,false,false,false,false,false]=true:=Cj (by kernel_rfl) aFR
def aGE:AN:=.last
theorem aGi:Ae aGE=true:=rfl
def aFq:AN:=.alt 18 aBc aGE
theorem aF9:Ae aFq=true:=AY aAG rfl aGi rfl
theorem aHk:Ag (BC 5 Tryz.f158) aFq 8 #[true,true,true,true,true,true,false,true,true,true,false,true,true,true,true,true,true,true,false,false,false,false,false,false,false]=true:=AZ YC rfl
def aFj:AN:=.alt 10 aA8 aFq
theorem aHU:Ae aFj=true:=AY Yf rfl aF9 rfl
theorem aGP:Ag (BC 5 Tryz.f158) aFj 8 #[true,true,true,true,true,true,false,true,true,true,false,true,true,true,true,true,true,true,false,false,false,false,false,false,false]=true:=AZ Ys aHk
def aD4:AN:=.alt 6 aFh aFj
theorem aH3:Ae aD4=true:=AY aIx rfl aHU rfl
theorem aIf:Ag (BC 5 Tryz.f158) aD4 8 #[true,true,true,true,true,true,false,true,true,true,false,true,true,true,true,true,true,true,false,false,false,false,false,false,false]=true:=AZ aIo aGP
def aC0:AN:=.fork aD4
theorem aC7:Ae aC0=true:=Ci aH3 rfl
theorem aB4:Ag (BC 5 Tryz.f158) aC0 9 #[true,true,true,true,true,true,false,true,true,true,false,true,true,true,true,true,true,true,false,false,false,false,false,false,false]=true:=Cj (by kernel_rfl) aIf
def aFa:AN:=.cons 10 true aDS
theorem aGk:Ae aFa=true:=Bj aBZ rfl
theorem aIu:Ag (BC 5 Tryz.f158) aFa 8 #[true,true,true,true,true,true,true,true,true,true,false,true,true,true,false,true,true,true,true,false,false,false,false,false,false]=true:=Hr (by kernel_rfl) aDU
def aIi:AN:=.last
theorem aIz:Ae aIi=true:=rfl
def aEO:AN:=.alt 14 aBc aIi
theorem aG5:Ae aEO=true:=AY aAG rfl aIz rfl
theorem aHl:Ag (BC 5 Tryz.f158) aEO 8 #[true,true,true,true,true,true,false,true,true,true,false,true,true,true,false,true,true,true,true,false,false,false,false,false,false]=true:=AZ YC rfl
def aEW:AN:=.alt 10 aBd aEO
theorem aGZ:Ae aEW=true:=AY Yn rfl aG5 rfl
theorem aF2:Ag (BC 5 Tryz.f158) aEW 8 #[true,true,true,true,true,true,false,true,true,true,false,true,true,true,false,true,true,true,true,false,false,false,false,false,false]=true:=AZ ZY aHl
def aEX:AN:=.alt 6 aFa aEW
theorem aGw:Ae aEX=true:=AY aGk rfl aGZ rfl
theorem aH1:Ag (BC 5 Tryz.f158) aEX 8 #[true,true,true,true,true,true,false,true,true,true,false,true,true,true,false,true,true,true,true,false,false,false,false,false,false]=true:=AZ aIu aF2
def aCl:AN:=.fork aEX
theorem aDa:Ae aCl=true:=Ci aGw rfl
theorem aB5:Ag (BC 5 Tryz.f158) aCl 9 #[true,true,true,true,true,true,false,true,true,true,false,true,true,true,false,true,true,true,true,false,false,false,false,false,false]=true:=Cj (by kernel_rfl) aH1
def aGH:AN:=.last
theorem aGc:Ae aGH=true:=rfl
def aEg:AN:=.alt 18 aCl aGH
theorem aIc:Ae aEg=true:=AY aDa rfl aGc rfl
theorem aIg:Ag (BC 5 Tryz.f158) aEg 9 #[true,true,true,true,true,true,false,true,true,true,false,true,true,true,false,true,true,true,false,false,false,false,false,false,false]=true:=AZ aB5 rfl
def aEU:AN:=.alt 14 aC0 aEg
theorem aGo:Ae aEU=true:=AY aC7 rfl aIc rfl
theorem aGV:Ag (BC 5 Tryz.f158) aEU 9 #[true,true,true,true,true,true,false,true,true,true,false,true,true,true,false,true,true,true,false,false,false,false,false,false,false]=true:=AZ aB4 aIg
def aEy:AN:=.alt 10 aCi aEU
theorem aFB:Ae aEy=true:=AY aDu rfl aGo rfl
theorem aIm:Ag (BC 5 Tryz.f158) aEy 9 #[true,true,true,true,true,true,false,true,true,true,false,true,true,true,false,true,true,true,false,false,false,false,false,false,false]=true:=AZ aCD aGV
def aEm:AN:=.alt 6 qc9 aEy
theorem aHL:Ae aEm=true:=AY aJi rfl aFB rfl
theorem aFF:Ag (BC 5 Tryz.f158) aEm 9 #[true,true,true,true,true,true,false,true,true,true,false,true,true,true,false,true,true,true,false,false,false,false,false,false,false]=true:=AZ aJn aIm
def aE1:AN:=.fork aEm
theorem aHp:Ae aE1=true:=Ci aHL rfl
theorem aIt:Ag (BC 5 Tryz.f158) aE1 10 #[true,true,true,true,true,true,false,true,true,true,false,true,true,true,false,true,true,true,false,false,false,false,false,false,false]=true:=Cj (by kernel_rfl) aFF
def aER:AN:=.cons 1 false aDx
theorem aGB:Ae aER=true:=Bj aCj rfl
theorem aIv:Ag (BC 5 Tryz.f158) aER 6 #[true,false,true,true,true,true,false,true,true,true,true,true,true,true,true,true,true,true,true,true,true,false,false,false,false]=true:=aDQ (by kernel_rfl) aCx
def aHv:AN:=.last
theorem aIh:Ae aHv=true:=rfl
def aE8:AN:=.alt 20 aER aHv
theorem aHY:Ae aE8=true:=AY aGB rfl aIh rfl
theorem aHj:Ag (BC 5 Tryz.f158) aE8 6 #[true,false,true,true,true,true,false,true,true,true,true,true,true,true,true,true,true,true,true,true,false,false,false,false,false]=true:=AZ aIv rfl
def aE2:AN:=.alt 1 aBL aE8
theorem aIe:Ae aE2=true:=AY aCb rfl aHY rfl
theorem aHP:Ag (BC 5 Tryz.f158) aE2 6 #[true,false,true,true,true,true,false,true,true,true,true,true,true,true,true,true,true,true,true,true,false,false,false,false,false]=true:=AZ aCu aHj
def aE7:AN:=.fork aE2
theorem aHG:Ae aE7=true:=Ci aIe rfl
theorem aHb:Ag (BC 5 Tryz.f158) aE7 7 #[true,false,true,true,true,true,false,true,true,true,true,true,true,true,true,true,true,true,true,true,false,false,false,false,false]=true:=Cj (by kernel_rfl) aHP
def aGD:AN:=.last
theorem aIF:Ae aGD=true:=rfl
def aE6:AN:=.alt 19 aE7 aGD
theorem aF6:Ae aE6=true:=AY aHG rfl aIF rfl
theorem aGp:Ag (BC 5 Tryz.f158) aE6 7 #[true,false,true,true,true,true,false,true,true,true,true,true,true,true,true,true,true,true,true,false,false,false,false,false,false]=true:=AZ aHb rfl
def aES:AN:=.alt 1 aAC aE6
theorem aGj:Ae aES=true:=AY VD rfl aF6 rfl
theorem aFz:Ag (BC 5 Tryz.f158) aES 7 #[true,false,true,true,true,true,false,true,true,true,true,true,true,true,true,true,true,true,true,false,false,false,false,false,false]=true:=AZ UP aGp
def aBa:AN:=.fork aES
theorem YB:Ae aBa=true:=Ci aGj rfl
theorem ZX:Ag (BC 5 Tryz.f158) aBa 8 #[true,false,true,true,true,true,false,true,true,true,true,true,true,true,true,true,true,true,true,false,false,false,false,false,false]=true:=Cj (by kernel_rfl) aFz
def aFU:AN:=.last
theorem aFV:Ae aFU=true:=rfl
def aEH:AN:=.alt 18 aBa aFU
theorem aHr:Ae aEH=true:=AY YB rfl aFV rfl
theorem aFT:Ag (BC 5 Tryz.f158) aEH 8 #[true,false,true,true,true,true,false,true,true,true,true,true,true,true,true,true,true,true,false,false,false,false,false,false,false]=true:=AZ ZX rfl
def aFd:AN:=.alt 1 aA8 aEH
theorem aGM:Ae aFd=true:=AY Yf rfl aHr rfl
theorem aIy:Ag (BC 5 Tryz.f158) aFd 8 #[true,false,true,true,true,true,false,true,true,true,true,true,true,true,true,true,true,true,false,false,false,false,false,false,false]=true:=AZ Ys aFT
def aBo:AN:=.fork aFd
theorem aBU:Ae aBo=true:=Ci aGM rfl
theorem aDm:Ag (BC 5 Tryz.f158) aBo 9 #[true,false,true,true,true,true,false,true,true,true,true,true,true,true,true,true,true,true,false,false,false,false,false,false,false]=true:=Cj (by kernel_rfl) aIy
def aHx:AN:=.last
theorem aF5:Ae aHx=true:=rfl
def aD3:AN:=.alt 14 aBa aHx
theorem aH6:Ae aD3=true:=AY YB rfl aF5 rfl
theorem aGO:Ag (BC 5 Tryz.f158) aD3 8 #[true,false,true,true,true,true,false,true,true,true,true,true,true,true,false,true,true,true,true,false,false,false,false,false,false]=true:=AZ ZX rfl
def aEt:AN:=.alt 1 aBd aD3
theorem aHz:Ae aEt=true:=AY Yn rfl aH6 rfl
theorem aIK:Ag (BC 5 Tryz.f158) aEt 8 #[true,false,true,true,true,true,false,true,true,true,true,true,true,true,false,true,true,true,true,false,false,false,false,false,false]=true:=AZ ZY aGO
def aB2:AN:=.fork aEt
theorem aC4:Ae aB2=true:=Ci aHz rfl
theorem aCr:Ag (BC 5 Tryz.f158) aB2 9 #[true,false,true,true,true,true,false,true,true,true,true,true,true,true,false,true,true,true,true,false,false,false,false,false,false]=true:=Cj (by kernel_rfl) aIK
def aGa:AN:=.last
theorem aG2:Ae aGa=true:=rfl
def aD5:AN:=.alt 18 aB2 aGa
theorem aFX:Ae aD5=true:=AY aC4 rfl aG2 rfl
theorem aIJ:Ag (BC 5 Tryz.f158) aD5 9 #[true,false,true,true,true,true,false,true,true,true,true,true,true,true,false,true,true,true,false,false,false,false,false,false,false]=true:=AZ aCr rfl
def aFc:AN:=.alt 14 aBo aD5
theorem aHW:Ae aFc=true:=AY aBU rfl aFX rfl
theorem aHR:Ag (BC 5 Tryz.f158) aFc 9 #[true,false,true,true,true,true,false,true,true,true,true,true,true,true,false,true,true,true,false,false,false,false,false,false,false]=true:=AZ aDm aIJ
def aD7:AN:=.alt 1 aCi aFc
theorem aGG:Ae aD7=true:=AY aDu rfl aHW rfl
theorem aIE:Ag (BC 5 Tryz.f158) aD7 9 #[true,false,true,true,true,true,false,true,true,true,true,true,true,true,false,true,true,true,false,false,false,false,false,false,false]=true:=AZ aCD aHR
def aFm:AN:=.fork aD7
theorem aFN:Ae aFm=true:=Ci aGG rfl
theorem aId:Ag (BC 5 Tryz.f158) aFm 10 #[true,false,true,true,true,true,false,true,true,true,true,true,true,true,false,true,true,true,false,false,false,false,false,false,false]=true:=Cj (by kernel_rfl) aIE
def aGz:AN:=.last
theorem aGU:Ae aGz=true:=rfl
def aFi:AN:=.alt 10 aBa aGz
theorem aIp:Ae aFi=true:=AY YB rfl aGU rfl
theorem aHM:Ag (BC 5 Tryz.f158) aFi 8 #[true,false,true,true,true,true,false,true,true,true,false,true,true,true,true,true,true,true,true,false,false,false,false,false,false]=true:=AZ ZX rfl
def aEz:AN:=.alt 1 aBc aFi
theorem aG8:Ae aEz=true:=AY aAG rfl aIp rfl
theorem aF7:Ag (BC 5 Tryz.f158) aEz 8 #[true,false,true,true,true,true,false,true,true,true,false,true,true,true,true,true,true,true,true,false,false,false,false,false,false]=true:=AZ YC aHM
def aBu:AN:=.fork aEz
theorem aBP:Ae aBu=true:=Ci aG8 rfl
theorem aB0:Ag (BC 5 Tryz.f158) aBu 9 #[true,false,true,true,true,true,false,true,true,true,false,true,true,true,true,true,true,true,true,false,false,false,false,false,false]=true:=Cj (by kernel_rfl) aF7
def aH4:AN:=.last
theorem aIa:Ae aH4=true:=rfl
def aEQ:AN:=.alt 18 aBu aH4
theorem aFQ:Ae aEQ=true:=AY aBP rfl aIa rfl
theorem aGA:Ag (BC 5 Tryz.f158) aEQ 9 #[true,false,true,true,true,true,false,true,true,true,false,true,true,true,true,true,true,true,false,false,false,false,false,false,false]=true:=AZ aB0 rfl
def aEu:AN:=.alt 10 aBo aEQ
theorem aFI:Ae aEu=true:=AY aBU rfl aFQ rfl
theorem aHn:Ag (BC 5 Tryz.f158) aEu 9 #[true,false,true,true,true,true,false,true,true,true,false,true,true,true,true,true,true,true,false,false,false,false,false,false,false]=true:=AZ aDm aGA
def aEc:AN:=.alt 1 aC0 aEu
theorem aIH:Ae aEc=true:=AY aC7 rfl aFI rfl
theorem aHH:Ag (BC 5 Tryz.f158) aEc 9 #[true,false,true,true,true,true,false,true,true,true,false,true,true,true,true,true,true,true,false,false,false,false,false,false,false]=true:=AZ aB4 aHn
def aEN:AN:=.fork aEc
theorem aG3:Ae aEN=true:=Ci aIH rfl
theorem aF0:Ag (BC 5 Tryz.f158) aEN 10 #[true,false,true,true,true,true,false,true,true,true,false,true,true,true,true,true,true,true,false,false,false,false,false,false,false]=true:=Cj (by kernel_rfl) aHH
def aHX:AN:=.last
theorem aHa:Ae aHX=true:=rfl
def aFf:AN:=.alt 14 aBu aHX
theorem aHy:Ae aFf=true:=AY aBP rfl aHa rfl
theorem aGR:Ag (BC 5 Tryz.f158) aFf 9 #[true,false,true,true,true,true,false,true,true,true,false,true,true,true,false,true,true,true,true,false,false,false,false,false,false]=true:=AZ aB0 rfl
def aEB:AN:=.alt 10 aB2 aFf
theorem aFy:Ae aEB=true:=AY aC4 rfl aHy rfl
theorem aFH:Ag (BC 5 Tryz.f158) aEB 9 #[true,false,true,true,true,true,false,true,true,true,false,true,true,true,false,true,true,true,true,false,false,false,false,false,false]=true:=AZ aCr aGR
def aD6:AN:=.alt 1 aCl aEB
theorem aGC:Ae aD6=true:=AY aDa rfl aFy rfl
theorem aH2:Ag (BC 5 Tryz.f158) aD6 9 #[true,false,true,true,true,true,false,true,true,true,false,true,true,true,false,true,true,true,true,false,false,false,false,false,false]=true:=AZ aB5 aFH
def aEY:AN:=.fork aD6
theorem aGS:Ae aEY=true:=Ci aGC rfl
theorem aHi:Ag (BC 5 Tryz.f158) aEY 10 #[true,false,true,true,true,true,false,true,true,true,false,true,true,true,false,true,true,true,true,false,false,false,false,false,false]=true:=Cj (by kernel_rfl) aH2
def aGq:AN:=.last
theorem aGX:Ae aGq=true:=rfl
def aEZ:AN:=.alt 18 aEY aGq
theorem aG1:Ae aEZ=true:=AY aGS rfl aGX rfl
theorem aIj:Ag (BC 5 Tryz.f158) aEZ 10 #[true,false,true,true,true,true,false,true,true,true,false,true,true,true,false,true,true,true,false,false,false,false,false,false,false]=true:=AZ aHi rfl
def aD1:AN:=.alt 14 aEN aEZ
theorem aGn:Ae aD1=true:=AY aG3 rfl aG1 rfl
theorem aFs:Ag (BC 5 Tryz.f158) aD1 10 #[true,false,true,true,true,true,false,true,true,true,false,true,true,true,false,true,true,true,false,false,false,false,false,false,false]=true:=AZ aF0 aIj
def aE4:AN:=.alt 10 aFm aD1
theorem aFE:Ae aE4=true:=AY aFN rfl aGn rfl
theorem aHf:Ag (BC 5 Tryz.f158) aE4 10 #[true,false,true,true,true,true,false,true,true,true,false,true,true,true,false,true,true,true,false,false,false,false,false,false,false]=true:=AZ aId aFs
def aD2:AN:=.alt 1 aE1 aE4
theorem aIk:Ae aD2=true:=AY aHp rfl aFE rfl
theorem aHE:Ag (BC 5 Tryz.f158) aD2 10 #[true,false,true,true,true,true,false,true,true,true,false,true,true,true,false,true,true,true,false,false,false,false,false,false,false]=true:=AZ aIt aHf
def aEJ:AN:=.fork aD2
theorem aHC:Ae aEJ=true:=Ci aIk rfl
theorem aGd:Ag (BC 5 Tryz.f158) aEJ 11 #[true,false,true,true,true,true,false,true,true,true,false,true,true,true,false,true,true,true,false,false,false,false,false,false,false]=true:=Cj (by kernel_rfl) aHE
def aFo:AN:=.cons 17 true aEJ
theorem aH0:Ae aFo=true:=Bj aHC rfl
theorem aIr:Ag (BC 5 Tryz.f158) aFo 12 #[true,false,true,true,true,true,false,true,true,true,false,true,true,true,false,true,true,false,false,false,false,false,false,false,false]=true:=Hr (by kernel_rfl) aGd
def aET:AN:=.cons 16 true aFo
theorem aIb:Ae aET=true:=Bj aH0 rfl
theorem aFS:Ag (BC 5 Tryz.f158) aET 13 #[true,false,true,true,true,true,false,true,true,true,false,true,true,true,false,true,false,false,false,false,false,false,false,false,false]=true:=Hr (by kernel_rfl) aIr
def UN:AN:=.cons 15 true aET
theorem aC3:Ae UN=true:=Bj aIb rfl
theorem aCS:Ag (BC 5 Tryz.f158) UN 14 #[true,false,true,true,true,true,false,true,true,true,false,true,true,true,false,false,false,false,false,false,false,false,false,false,false]=true:=Hr (by kernel_rfl) aFS
def Vk:AN:=.cons 13 true UN
theorem aDt:Ae Vk=true:=Bj aC3 rfl
theorem aBl:Ag (BC 5 Tryz.f158) Vk 15 #[true,false,true,true,true,true,false,true,true,true,false,true,true,false,false,false,false,false,false,false,false,false,false,false,false]=true:=Hr (by kernel_rfl) aCS
def UG:AN:=.cons 12 true Vk
theorem aDr:Ae UG=true:=Bj aDt rfl
theorem aBR:Ag (BC 5 Tryz.f158) UG 16 #[true,false,true,true,true,true,false,true,true,true,false,true,false,false,false,false,false,false,false,false,false,false,false,false,false]=true:=Hr (by kernel_rfl) aBl
def UT:AN:=.cons 11 true UG
theorem aCy:Ae UT=true:=Bj aDr rfl
theorem aC1:Ag (BC 5 Tryz.f158) UT 17 #[true,false,true,true,true,true,false,true,true,true,false,false,false,false,false,false,false,false,false,false,false,false,false,false,false]=true:=Hr (by kernel_rfl) aBR
def UJ:AN:=.cons 9 true UT
theorem aCM:Ae UJ=true:=Bj aCy rfl
theorem aDW:Ag (BC 5 Tryz.f158) UJ 18 #[true,false,true,true,true,true,false,true,true,false,false,false,false,false,false,false,false,false,false,false,false,false,false,false,false]=true:=Hr (by kernel_rfl) aC1
def US:AN:=.cons 8 true UJ
theorem aBJ:Ae US=true:=Bj aCM rfl
theorem aDJ:Ag (BC 5 Tryz.f158) US 19 #[true,false,true,true,true,true,false,true,false,false,false,false,false,false,false,false,false,false,false,false,false,false,false,false,false]=true:=Hr (by kernel_rfl) aDW
def WQ:AN:=.cons 7 true US
theorem aDg:Ae WQ=true:=Bj aBJ rfl
theorem aDv:Ag (BC 5 Tryz.f158) WQ 20 #[true,false,true,true,true,true,false,false,false,false,false,false,false,false,false,false,false,false,false,false,false,false,false,false,false]=true:=Hr (by kernel_rfl) aDJ
def WE:AN:=.cons 5 true WQ
theorem aBv:Ae WE=true:=Bj aDg rfl
theorem aDP:Ag (BC 5 Tryz.f158) WE 21 #[true,false,true,true,true,false,false,false,false,false,false,false,false,false,false,false,false,false,false,false,false,false,false,false,false]=true:=Hr (by kernel_rfl) aDv
def Vq:AN:=.cons 4 true WE
theorem aCg:Ae Vq=true:=Bj aBv rfl
theorem aCd:Ag (BC 5 Tryz.f158) Vq 22 #[true,false,true,true,false,false,false,false,false,false,false,false,false,false,false,false,false,false,false,false,false,false,false,false,false]=true:=Hr (by kernel_rfl) aDP
def Wg:AN:=.cons 3 true Vq
theorem aCX:Ae Wg=true:=Bj aCg rfl
theorem aB3:Ag (BC 5 Tryz.f158) Wg 23 #[true,false,true,false,false,false,false,false,false,false,false,false,false,false,false,false,false,false,false,false,false,false,false,false,false]=true:=Hr (by kernel_rfl) aCd
def Vh:AN:=.cons 2 true Wg
theorem aBY:Ae Vh=true:=Bj aCX rfl
theorem aCv:Ag (BC 5 Tryz.f158) Vh 24 #[true,false,false,false,false,false,false,false,false,false,false,false,false,false,false,false,false,false,false,false,false,false,false,false,false]=true:=Hr (by kernel_rfl) aB3
def Mc:AN:=.cons 0 true Vh
theorem aBH:Ae Mc=true:=Bj aBY rfl
theorem aBi:Ag (BC 5 Tryz.f158) Mc 25 #[false,false,false,false,false,false,false,false,false,false,false,false,false,false,false,false,false,false,false,false,false,false,false,false,false]=true:=Hr (by kernel_rfl) aCv
theorem aD0:(Region.noSelect (BC 5 Tryz.f158) && (Ae Mc && !EF Mc) && Ag (BC 5 Tryz.f158) Mc (BC 5 Tryz.f158).size (Array.replicate (BC 5 Tryz.f158).size false))=true:=by
 have e:(BC 5 Tryz.f158).size=25:=by kernel_rfl
 have e2:Array.replicate 25 false = #[false,false,false,false,false,false,false,false,false,false,false,false,false,false,false,false,false,false,false,false,false,false,false,false,false]:=by kernel_rfl
 have e3:Region.noSelect (BC 5 Tryz.f158)=true:=by kernel_rfl
 have e4:EF Mc=false:=rfl
 rw [e,e2,e3,e4,aBH,aBi];rfl
set_option maxRecDepth 20000 in
set_option maxHeartbeats 8000000 in
theorem SI (m:Mch) (hl:m.st.length≤90000) (hc:∀ v ∈ m.st,v.c.length≤90000) (hf:m.fr.length≤90000):Bc prog 158 [.p (mcS m 0)] [mcS (FS m).2 (FS m).1] []:=by
 unfold FS
 have hst:=hl
 by_cases h:m.st.length<2
 ·rw [if_pos h]
  have hP:=Gu m 2 (by omega) (by omega) h
  rw [vc2] at hP
  unfold mcS at hP ⊢
  refine Ad func158 rfl rfl (by simp [ntmps158]) rfl ?_
  refine byP ntmps158 ?_
  refine KR hP ?_
  exact rG results158 tI
 rw [if_neg h]
 have hP:=Ga m 2 (by omega) (by omega) (by omega)
 rw [vc2] at hP
 obtain ⟨tp,htp⟩:∃ tp,tp=Ee m 2:=⟨_,rfl⟩
 have htl:tp.length=2:=by rw [htp,Ds];omega
 have hcc:∀ v ∈ tp,v.c.length≤90000:=fun v hv=>hc v (by rw [htp] at hv;exact List.mem_of_mem_drop hv)
 have hpc:(CN m 2).pc=m.pc:=rfl
 have hpn:(CN m 2).nm=m.nm:=rfl
 have hpf:(CN m 2).fr=m.fr:=rfl
 unfold mcS at hP
 rw [hpc,hpn,hpf] at hP
 rw [← htp] at hP ⊢
 rw [HA htl] at hP hcc ⊢
 generalize tp[0]! = a at hP hcc ⊢
 generalize tp[1]! = b at hP hcc ⊢
 have e1:=EY a
 have e2:=EY b
 have hr:=XA a b
 have hr2:=Xe a b
 have e0:[a,b][0]! = a:=rfl
 have e00:[a,b][1]! = b:=rfl
 have ef:flC vlS [a,b]=vlS a++vlS b:=by simp only [flC,List.append_nil]
 have hal:=hcc a (by simp)
 rw [ef] at hP
 rw [e0,e00]
 simp only [List.length_cons,List.length_nil,Nat.zero_add,Nat.reduceAdd] at hP
 cases ha:a.f with
 | false =>
  rw [if_pos rfl]
  unfold mcS
  rw [hpc,hpn,hpf]
  simp only [e1,e2,ha,List.cons_append,List.nil_append] at hr hr2 hP
  refine Ad func158 rfl rfl (by simp [ntmps158]) rfl ?_
  refine byP ntmps158 ?_
  refine KR hP ?_
  exact rG (fc hr (fc vc2 results158)) tI
 | true =>
  rw [if_neg (by simp)]
  rw [aGy ha] at e1
  have hfa:flC frS (m.fr++[⟨m.pc,(CN m 2).st,m.nm⟩])=flC frS m.fr++[.int m.pc,.rows 4 (CN m 2).st.length (flC vlS (CN m 2).st),.rows 4 m.nm.length (flC vlS m.nm)]:=by rw [AM,AA];rfl
  generalize (CN m 2).st=st2 at hP hfa ⊢
  unfold mcS
  simp only
  rw [hfa,List.length_append,List.length_singleton]
  simp only [flC,List.length_nil]
  have hn:LH a b=(if a.r=true then a.c++[a] else a.c)++[b]:=rfl
  rw [hn]
  simp only [e1,e2,ha,List.cons_append,List.nil_append] at hr hr2 hP
  refine BZ [5,9,10,11,12] func158 rfl rfl (by simp [ntmps158]) rfl ?_
  refine byP ntmps158 ?_
  refine KR hP ?_
  refine rG (fc hr vc2) ?_
  refine Cs (⟨74,[(2,.br (.rows 4 2 [.bool true,.int a.p,.bool a.r,.rows 4 a.c.length (flC vlS a.c),.bool b.f,.int b.m,.bool b.r,.rows 4 b.c.length (flC vlS b.c)])),(4,.bx 1 0),(0,.bx 0 0)],[(0,[.i m.pc,.br (.rows 4 st2.length (flC vlS st2)),.br (.rows 4 m.nm.length (flC vlS m.nm)),.sl 5,.i 0]),(1,[.b true,.i a.p,.b a.r,.br (.rows 4 a.c.length (flC vlS a.c))])],[(5,some ⟨.rows 3 (m.fr.length+1) (flC frS m.fr++[.int m.pc,.rows 4 st2.length (flC vlS st2),.rows 4 m.nm.length (flC vlS m.nm)]),some 230,false⟩)],6,[0]⟩) Mc (by kernel_rfl) aD0 (Aa 200 _ _ _ ?_) (Aa 200 _ _ _ ?_)
  ·simp only [push_cast,↓reduceIte,Nat.reduceLT,Nat.reduceAdd,Nat.reduceLeDiff,Nat.reduceEqDiff,reduceCtorEq,qc0,qc1,qc2,qc3,qc4,qc5,qc6,qc7,qc8,qc9,aDx,aGI,aD9,aFk,aBL,aFZ,aFb,aEK,aAC,aFu,aEb,aEF,aA8,aDS,aHZ,aE9,aFg,aBd,aIC,aEC,aEM,aEd,aCi,aFh,aEV,aGQ,aEe,aEw,aBc,aGE,aFq,aFj,aD4,aC0,aFa,aIi,aEO,aEW,aEX,aCl,aGH,aEg,aEU,aEy,aEm,aE1,aER,aHv,aE8,aE2,aE7,aGD,aE6,aES,aBa,aFU,aEH,aFd,aBo,aHx,aD3,aEt,aB2,aGa,aD5,aFc,aD7,aFm,aGz,aFi,aEz,aBu,aH4,aEQ,aEu,aEc,aEN,aHX,aFf,aEB,aD6,aEY,aGq,aEZ,aD1,aE4,aD2,aEJ,aFo,aET,UN,Vk,UG,UT,UJ,US,WQ,WE,Vq,Wg,Vh,Mc]
   (try repeat' (with_reducible apply And.intro))
   all_goals first
    | (refine ⟨rfl,id, ?_⟩;simp only [push_cast,Sub,EG,EL,ED,EH,inj,AV.ren,AV.rens,AV.lt,AV.lts,↓reduceIte,Nat.reduceLT,Nat.reduceEqDiff,reduceCtorEq];done)
    | (intro o h;first | trivial | (intro h2;omega) | omega)
    | (unfold maxLen;omega)
    | omega
    | kernel_rfl
  cases hrr:a.r with
  | false =>
   rw [if_neg (by simp),AM,AA,e2,List.length_append,List.length_singleton]
   simp only [hrr] at hr hr2
   refine byP (fc hr2 (fc vc2 results158)) ?_
   (try repeat' (with_reducible apply And.intro))
   all_goals first | (intro o h;first | trivial | (intro h2;omega) | omega) | (unfold maxLen;omega) | (unfold inI;omega) | omega | trivial
  | true =>
   rw [if_pos rfl,AM,AM,AA,AA,e2,e1,List.length_append,List.length_append,List.length_singleton,List.length_singleton]
   simp only [hrr] at hr hr2
   refine byP (fc ha (fc hrr (fc hr2 (fc vc2 results158)))) ?_
   (try repeat' (with_reducible apply And.intro))
   all_goals first | (intro o h;first | trivial | (intro h2;omega) | omega) | (unfold maxLen;omega) | (unfold inI;omega) | omega | trivial
end Go.Proofs.YtaidalilfmjfgaaGreat
