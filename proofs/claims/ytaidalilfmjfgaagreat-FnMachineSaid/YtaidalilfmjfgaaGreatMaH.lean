import Derived.Test.YtaidalilfmjfgaaGreatCpL
import Derived.Test.YtaidalilfmjfgaaGreatVmF
namespace Go.Proofs.YtaidalilfmjfgaaGreat
open Go.RowKit
set_option linter.unusedVariables false
set_option linter.unusedSimpArgs false
def gIn (L:Nat) (x:Ins):Prop :=
 (x.op=1∧0≤x.a∧x.a≤10006)∨(x.op=2∧0≤x.a∧x.a≤1)∨(x.op=4∧1≤x.a∧x.a≤8)∨((x.op=3∨x.op=5∨x.op=6∨x.op=7∨x.op=8)∧0≤x.a∧x.a<L)∨(9≤x.op∧x.op≤12∧x.a=0)
theorem gIn.mono {L M:Nat} {x:Ins} (h:gIn L x) (hL:L≤M):gIn M x:=by unfold gIn at *; omega
theorem aHF {L:Nat} {a:Int} (h:0≤a∧a≤10006):gIn L ⟨1,a⟩:=.inl ⟨rfl,h.1,h.2⟩
theorem aDR {L:Nat} {a:Int} (h:0≤a∧a≤1):gIn L ⟨2,a⟩:=.inr (.inl ⟨rfl,h.1,h.2⟩)
theorem aJk {L:Nat} {a:Int} (h:1≤a∧a≤8):gIn L ⟨4,a⟩:=.inr (.inr (.inl ⟨rfl,h.1,h.2⟩))
theorem PX {L:Nat} {o a:Int} (ho:o=3∨o=5∨o=6∨o=7∨o=8) (h:0≤a∧a<L):gIn L ⟨o,a⟩:=.inr (.inr (.inr (.inl ⟨ho,h.1,h.2⟩)))
theorem TU {L:Nat} {o:Int} (h:9≤o∧o≤12):gIn L ⟨o,0⟩:=.inr (.inr (.inr (.inr ⟨h.1,h.2,rfl⟩)))
theorem gIn.ins {x:Ins} (h:gIn 300 x):Ec x=true:=by
 unfold gIn at h
 unfold Ec Jp
 rcases h with ⟨h,a,b⟩ | ⟨h,a,b⟩ | ⟨h,a,b⟩ | ⟨h,a,b⟩ | ⟨h,a,b⟩
 ·rw [if_pos h];simp only [Bool.and_eq_true,decide_eq_true_eq];omega
 ·rw [if_neg (by omega),if_pos h];simp only [Bool.and_eq_true,decide_eq_true_eq];omega
 ·rw [if_neg (by omega),if_neg (by omega),if_pos h];simp only [Bool.and_eq_true,decide_eq_true_eq];omega
 ·rw [if_neg (by omega),if_neg (by omega),if_neg (by omega),if_pos (by omega)];simp only [Bool.and_eq_true,decide_eq_true_eq];omega
 ·rw [if_neg (by omega),if_neg (by omega),if_neg (by omega),if_neg (by omega)];simp only [Bool.and_eq_true,decide_eq_true_eq];omega
def mkB (o:Int):Bool:=decide (o=7) || decide (o=8)
def nM (l:List Ins):Nat:=(l.map Ins.op).countP mkB
mutual
def cF:Tm→Nat
 | .mk k _ _ _ _ _ xs=>(if k=6∨k=9 then 1 else 0)+cFs xs
def cFs:List Tm→Nat
 | []=>0
 | x :: xs=>cF x+cFs xs
end
theorem aIs (e:Tm):cF e=(if e.kind=6∨e.kind=9 then 1 else 0)+cFs e.args:=by obtain ⟨k,s,o,n,ty,r,xs⟩:=e;rw [cF];rfl
theorem Ue:∀ (a b:List Tm),cFs (a++b)=cFs a+cFs b
 | [],b=>by rw [List.nil_append,cFs];omega
 | x :: a,b=>by rw [List.cons_append,cFs,cFs,Ue a b];omega
theorem Rx {e:Tm} (h:e.args.length=1):cFs e.args=cF e.args[0]! := by
 match hx:e.args,h with
 | [x],_=>rw [cFs,cFs];rfl
theorem Tt {e:Tm} (h:e.args.length=2):cFs e.args=cF e.args[0]! + cF e.args[1]! := by
 match hx:e.args,h with
 | [x,y],_=>rw [cFs,cFs,cFs];rfl
theorem SU {e:Tm} (h:e.args.length=3):cFs e.args=cF e.args[0]! + (cF e.args[1]! + cF e.args[2]!):=by
 match hx:e.args,h with
 | [x,y,z],_=>rw [cFs,cFs,cFs,cFs];rfl
def cQ (q:List Wt):Nat:=(q.map fun x=>cF x.body).sum
theorem XT (a b:List Wt):cQ (a++b)=cQ a+cQ b:=by unfold cQ;rw [List.map_append,List.sum_append]
structure WN (s:CS) (x:Wt):Prop where
 pl:0≤x.pl∧x.pl<(s.code.length:Int)
 op:(s.code[x.pl.toNat]!).op=7∨(s.code[x.pl.toNat]!).op=8
 nm:x.nms.length≤s.code.length+1
 pt:plT x.body=true
 cv:Cov x.nms x.body
structure Gdc (c:Nat) (s s':CS):Prop where
 len:s.code.length≤s'.code.length
 ops:∀ k,k<s.code.length→(s'.code[k]!).op=(s.code[k]!).op
 good:(∀ x ∈ s.code,gIn (s.code.length+1) x)→∀ x ∈ s'.code,gIn (s'.code.length+1) x
 cnt:nM s'.code+cQ s'.q=nM s.code+cQ s.q+c
 pre:∃ t,s'.q=s.q++t
 new:∀ x ∈ s'.q,x ∈ s.q∨WN s' x
theorem WN.up {s s':CS} {x:Wt} (h:WN s x) (hl:s.code.length≤s'.code.length) (ho:∀ k,k<s.code.length→(s'.code[k]!).op=(s.code[k]!).op):WN s' x:=by
 have h1:=h.pl;have h2:=h.nm
 exact ⟨by omega,by rw [ho _ (by omega)];exact h.op,by omega,h.pt,h.cv⟩
theorem Gdc.trans {c1 c2:Nat} {s1 s2 s3:CS} (h:Gdc c1 s1 s2) (k:Gdc c2 s2 s3):Gdc (c1+c2) s1 s3:=by
 have l1:=h.len;have l2:=k.len;have n1:=h.cnt;have n2:=k.cnt
 refine ⟨by omega,fun i hi=>by rw [k.ops i (by omega),h.ops i hi],fun g=>k.good (h.good g),by omega, ?_,fun x hx => ?_⟩
 ·obtain ⟨t,ht⟩:=h.pre
  obtain ⟨u,hu⟩:=k.pre
  exact ⟨t++u,by rw [hu,ht,List.append_assoc]⟩
 ·rcases k.new x hx with hx | hx
  ·rcases h.new x hx with hx | hx
   ·exact .inl hx
   ·exact .inr (hx.up l2 k.ops)
  ·exact .inr hx
theorem Gdc.refl (s:CS):Gdc 0 s s:=⟨Nat.le_refl _,fun _ _=>rfl,fun h=>h,rfl,⟨[],(List.append_nil _).symm⟩,fun _ hx => .inl hx⟩
theorem Gdc.of {c c':Nat} {s s':CS} (h:Gdc c s s') (e:c=c'):Gdc c' s s':=e ▸ h
theorem aBw (a b:List Ins):nM (a++b)=nM a+nM b:=by unfold nM;rw [List.map_append,List.countP_append]
theorem aDi {s:CS} {x:Ins} {k:Nat} (h:k<s.code.length):(s.code++[x])[k]! = s.code[k]! := by
 rw [getElem!_pos (s.code++[x]) k (by simp;omega),getElem!_pos s.code k h,List.getElem_append_left h]
theorem NM (l:List Ins) (x:Ins):(l++[x])[l.length]! = x:=by
 rw [getElem!_pos (l++[x]) l.length (by simp)];simp
theorem TZ (s:CS) (op a:Int) (hg:gIn (s.code.length+2) ⟨op,a⟩):Gdc (if mkB op=true then 1 else 0) s (Be s op a):=by
 refine ⟨by unfold Be;simp,fun k hk=>by unfold Be;rw [aDi hk],fun g x hx => ?_, ?_,⟨[],(List.append_nil _).symm⟩,fun _ hx => .inl hx⟩
 ·unfold Be at hx ⊢
  simp only [List.length_append,List.length_cons,List.length_nil,Nat.zero_add]
  rcases List.mem_append.1 hx with hx | hx
  ·exact (g x hx).mono (by omega)
  ·rw [List.mem_singleton.1 hx];exact hg
 ·unfold Be
  rw [aBw]
  show nM s.code+nM [⟨op,a⟩]+cQ s.q=_
  have:nM [⟨op,a⟩]=if mkB op=true then 1 else 0:=by
   unfold nM;simp only [List.map_cons,List.map_nil,List.countP_cons,List.countP_nil,Nat.zero_add]
  omega
theorem Eb (s:CS) (op a:Int) (hg:gIn (s.code.length+2) ⟨op,a⟩) (h:mkB op=false):Gdc 0 s (Be s op a):=by
 have:=TZ s op a hg
 rw [h] at this
 exact this
theorem aCw {l:List Ins} {k j:Nat} (v:Ins) (hj:j<l.length):((l.set k v)[j]!)=if k=j then v else l[j]! := by
 rw [getElem!_pos (l.set k v) j (by simpa using hj),getElem!_pos l j hj,List.getElem_set]
theorem Ti (s:CS) (k:Nat) (a:Int) (hk:k<s.code.length) (ho:(s.code[k]!).op=5∨(s.code[k]!).op=6∨(s.code[k]!).op=7∨(s.code[k]!).op=8) (ha:0≤a∧a≤(s.code.length:Int)):Gdc 0 s (Db s k a):=by
 have hm:(Db s k a).code.map Ins.op=s.code.map Ins.op:=by
  unfold Db
  simp only [List.map_set]
  rw [getElem!_pos s.code k hk,← List.getElem_map Ins.op (l:=s.code) (h:=by simpa using hk),List.set_getElem_self]
 refine ⟨by rw [Cd];exact Nat.le_refl _,fun j hj => ?_,fun g x hx => ?_, ?_,⟨[],(List.append_nil _).symm⟩,fun _ hx => .inl hx⟩
 ·unfold Db
  simp only
  rw [aCw _ hj]
  split
  ·rename_i e;subst e;rfl
  ·rfl
 ·rw [Cd]
  unfold Db at hx
  rcases List.mem_or_eq_of_mem_set hx with hx | hx
  ·exact g x hx
  ·rw [hx];exact PX (by omega) (by omega)
 ·unfold nM
  rw [hm];rfl
theorem XC (s:CS) (x:Wt) (h:WN s x):Gdc (cF x.body) s (SO s x) :=
 ⟨Nat.le_refl _,fun _ _=>rfl,fun g=>g,by
  show nM s.code+cQ (s.q++[x])=_
  rw [XT]
  have:cQ [x]=cF x.body:=by unfold cQ;simp
  omega,⟨[x],rfl⟩,fun y hy=>by
   rcases List.mem_append.1 hy with hy | hy
   ·exact .inl hy
   ·rw [List.mem_singleton.1 hy];exact .inr ⟨h.pl,h.op,h.nm,h.pt,h.cv⟩⟩
theorem IR {e:Tm} (h:plT e=true):(e.args.length:Int)=arF 0 e.kind e.name∧(e.kind=2→0≤e.n∧e.n≤10006)∧(e.kind=3→0≤e.n∧e.n≤1)∧(e.kind=4→0<CQ e.name):=by
 unfold plT at h
 rw [Bool.and_eq_true,Cv,Bool.and_eq_true] at h
 obtain ⟨⟨h1,_⟩,_⟩:=h
 rw [Gy] at h1
 simp only [Bool.and_eq_true,decide_eq_true_eq] at h1
 obtain ⟨ha,hn,_⟩:=h1
 unfold WP at hn
 refine ⟨ha,fun hk => ?_,fun hk => ?_,fun hk => ?_⟩
 all_goals simp only [hk,if_true,if_false,Int.reduceEq] at hn
 ·unfold rgB at hn;simp only [Bool.and_eq_true,decide_eq_true_eq] at hn;exact hn
 ·unfold rgB at hn;simp only [Bool.and_eq_true,decide_eq_true_eq] at hn;exact hn
 ·simpa using hn
theorem aBr {s:ByteArray} (h:0<CQ s):1≤fi s Kp 0+1∧fi s Kp 0+1≤8:=by
 unfold CQ at h
 repeat' split at h
 all_goals first | (rename_i e;subst e;decide) | omega
theorem TV {x:ByteArray} {xs:List ByteArray}:∀ k,k≤xs.length→lsN xs x k<k∧(x ∈ xs.take k→0≤lsN xs x k)
 | 0,_=>⟨by rw [lsN];decide,fun h=>by simp at h⟩
 | k+1,h=>by
  have ih:=TV (x:=x) (xs:=xs) k (by omega)
  rw [lsN]
  split
  ·exact ⟨by omega,fun _=>by omega⟩
  ·rename_i hne
   refine ⟨by omega,fun hm=>ih.2 ?_⟩
   rw [AH xs k (by omega),List.mem_append,List.mem_singleton] at hm
   exact hm.resolve_right fun e=>hne e.symm
theorem aAZ {xs:List ByteArray} {x:ByteArray} (h:x ∈ xs):0≤plN xs x∧plN xs x<xs.length:=by
 have h1:=TV (x:=x) (xs:=xs) xs.length (Nat.le_refl _)
 have h2:=h1.2 (by rw [List.take_length];exact h)
 unfold plN;omega
theorem YL:∀ e:Tm,∀ names s,plT e=true→Cov names e→names.length≤s.code.length→Gdc (cF e) s (cpT e names s):=by
 refine Tm.ind fun e ih names s hp hc hL => ?_
 obtain ⟨hk,k5,k6,k7,k8,k9⟩:=BO hp
 obtain ⟨hl,f2,f3,f4⟩:=IR hp
 have hpa:=Ca hp
 unfold arF at hl
 rw [DU,cpF,aIs]
 have z0:e.args.length=0→cFs e.args=0:=fun h=>by rw [List.eq_nil_of_length_eq_zero h,cFs]
 by_cases g2:e.kind=2
 ·rw [if_pos g2]
  have:=z0 (by simp only [g2,if_true,if_false,Int.reduceEq] at hl;omega)
  exact (Eb s 1 e.n (aHF (f2 g2)) rfl).of (by rw [if_neg (by omega)];omega)
 rw [if_neg g2]
 by_cases g3:e.kind=3
 ·rw [if_pos g3]
  have:=z0 (by simp only [g3,if_true,if_false,Int.reduceEq] at hl;omega)
  exact (Eb s 2 e.n (aDR (f3 g3)) rfl).of (by rw [if_neg (by omega)];omega)
 rw [if_neg g3]
 by_cases g1:e.kind=1
 ·rw [if_pos g1]
  have:=z0 (by simp only [g1,if_true,if_false,Int.reduceEq] at hl;omega)
  have hr:=aAZ (hc.var g1)
  exact (Eb s 3 _ (PX (by omega) (by omega)) rfl).of (by rw [if_neg (by omega)];omega)
 rw [if_neg g1]
 by_cases g4:e.kind=4
 ·rw [if_pos g4]
  have key:∀ k,k≤e.args.length→Gdc (cFs (e.args.take k)) s (Ep ((e.args.take k).map cpT) names s):=by
   intro k
   induction k with
   | zero=>intro _;exact Gdc.refl _
   | succ k ihk =>
    intro hk
    have h1:=ihk (by omega)
    have h2:=ih _ (Ab (show k<e.args.length by omega)) names (Ep ((e.args.take k).map cpT) names s) (hpa _ (Ab (by omega))) (Bm hc (.inl g4) (by omega)) (by have:=h1.len;omega)
    rw [Dq e names s (by omega)]
    refine (h1.trans h2).of ?_
    rw [AH e.args k (by omega),Ue,cFs,cFs];omega
  have h:=key e.args.length (Nat.le_refl _)
  rw [List.take_length] at h
  have ho:=aBr (f4 g4)
  exact (h.trans (Eb _ 4 _ (aJk ho) rfl)).of (by rw [if_neg (by omega)];omega)
 rw [if_neg g4]
 by_cases g5:e.kind=5
 ·have hl5:=k5 g5
  rw [if_pos g5,ifF]
  rw [AU cpT (by omega),AU cpT (by omega),AU cpT (by omega),SU hl5,if_neg (by omega)]
  have a1:=fun s' h=>ih _ (Ab (show 0<e.args.length by omega)) names s' (hpa _ (Ab (by omega))) (Bm hc (.inr (.inl g5)) (by omega)) h
  have a2:=fun s' h=>ih _ (Ab (show 1<e.args.length by omega)) names s' (hpa _ (Ab (by omega))) (Bm hc (.inr (.inl g5)) (by omega)) h
  have a3:=fun s' h=>ih _ (Ab (show 2<e.args.length by omega)) names s' (hpa _ (Ab (by omega))) (Bm hc (.inr (.inl g5)) (by omega)) h
  have b1:=a1 s hL
  obtain ⟨A,hA⟩:∃ A,A=cpT e.args[0]! names s:=⟨_,rfl⟩
  rw [← hA] at b1 ⊢
  have p1:=Eb A 6 0 (PX (by omega) (by omega)) rfl
  have o1:((Be A 6 0).code[A.code.length]!).op=6:=by unfold Be;rw [NM]
  have n1:(Be A 6 0).code.length=A.code.length+1:=Bi ..
  have b2:=a2 (Be A 6 0) (by have:=b1.len;omega)
  obtain ⟨B,hB⟩:∃ B,B=cpT e.args[1]! names (Be A 6 0):=⟨_,rfl⟩
  rw [← hB] at b2 ⊢
  have p2:=Eb B 5 0 (PX (by omega) (by omega)) rfl
  have o2:((Be B 5 0).code[B.code.length]!).op=5:=by unfold Be;rw [NM]
  have n2:(Be B 5 0).code.length=B.code.length+1:=Bi ..
  have lb:=b2.len
  have o1':((Be B 5 0).code[A.code.length]!).op=6:=by rw [p2.ops _ (by omega),b2.ops _ (by omega),o1]
  have p3:=Ti (Be B 5 0) A.code.length (Be B 5 0).code.length (by omega) (by omega) (by omega)
  have b3:=a3 (Db (Be B 5 0) A.code.length (Be B 5 0).code.length) (by rw [Cd];have:=b1.len;omega)
  have n3:(Db (Be B 5 0) A.code.length (Be B 5 0).code.length).code.length=B.code.length+1:=by rw [Cd];exact n2
  have o2':((Db (Be B 5 0) A.code.length (Be B 5 0).code.length).code[B.code.length]!).op=5:=by rw [p3.ops _ (by omega),o2]
  obtain ⟨S,hS⟩:∃ S,S=Db (Be B 5 0) A.code.length (Be B 5 0).code.length:=⟨_,rfl⟩
  rw [← hS] at b3 n3 o2' p3 ⊢
  obtain ⟨C,hC⟩:∃ C,C=cpT e.args[2]! names S:=⟨_,rfl⟩
  rw [← hC] at b3 ⊢
  have lc:=b3.len
  have p4:=Ti C B.code.length C.code.length (by omega) (by rw [b3.ops _ (by omega)];omega) (by omega)
  exact ((((((b1.trans p1).trans b2).trans p2).trans p3).trans b3).trans p4).of (by omega)
 rw [if_neg g5]
 by_cases g6:e.kind=6
 ·have hl6:=k6 g6
  rw [if_pos g6,Rx hl6,if_pos (.inl g6)]
  have p1:=TZ s 7 0 (PX (by omega) (by omega))
  have n1:(Be s 7 0).code.length=s.code.length+1:=Bi ..
  have o1:((Be s 7 0).code[s.code.length]!).op=7:=by unfold Be;rw [NM]
  exact (p1.trans (XC (Be s 7 0) ⟨s.code.length,names++[e.name],e.args[0]!⟩ ⟨by simp only;omega,by simp only [Int.toNat_natCast];exact .inl o1,by simp only [List.length_append,List.length_cons,List.length_nil];omega,hpa _ (Ab (by omega)),RI hc g6 hl6⟩)).of (by
   rw [show mkB 7=true from rfl,if_pos rfl])
 rw [if_neg g6]
 by_cases g9:e.kind=9
 ·have hl9:=k9 g9
  rw [if_pos g9,Rx hl9,if_pos (.inr g9)]
  have p1:=TZ s 8 0 (PX (by omega) (by omega))
  have n1:(Be s 8 0).code.length=s.code.length+1:=Bi ..
  have o1:((Be s 8 0).code[s.code.length]!).op=8:=by unfold Be;rw [NM]
  exact (p1.trans (XC (Be s 8 0) ⟨s.code.length,names++[e.name,e.other],e.args[0]!⟩ ⟨by simp only;omega,by simp only [Int.toNat_natCast];exact .inr o1,by simp only [List.length_append,List.length_cons,List.length_nil];omega,hpa _ (Ab (by omega)),SL hc g9 hl9⟩)).of (by
   rw [show mkB 8=true from rfl,if_pos rfl])
 rw [if_neg g9]
 by_cases g7:e.kind=7
 ·have hl7:=k7 g7
  rw [if_pos g7,AU cpT (by omega),AU cpT (by omega),Tt hl7,if_neg (by omega)]
  have b1:=ih _ (Ab (show 0<e.args.length by omega)) names s (hpa _ (Ab (by omega))) (Bm hc (.inr (.inr g7)) (by omega)) hL
  have b2:=ih _ (Ab (show 1<e.args.length by omega)) names (cpT e.args[0]! names s) (hpa _ (Ab (by omega))) (Bm hc (.inr (.inr g7)) (by omega)) (by have:=b1.len;omega)
  exact ((b1.trans b2).trans (Eb _ 9 0 (TU (by omega)) rfl)).of (by omega)
 rw [if_neg g7]
 have g8:e.kind=8:=by omega
 have hl8:=k8 g8
 rw [if_pos g8,AU cpT (by omega),AU cpT (by omega),Tt hl8,if_neg (by omega)]
 have b1:=ih _ (Ab (show 0<e.args.length by omega)) names s (hpa _ (Ab (by omega))) (HC hc g8 hl8) hL
 have p1:=Eb (cpT e.args[0]! names s) 11 0 (TU (by omega)) rfl
 have n1:=Bi (cpT e.args[0]! names s) 11 0
 have b2:=ih _ (Ab (show 1<e.args.length by omega)) (names++[e.name]) (Be (cpT e.args[0]! names s) 11 0) (hpa _ (Ab (by omega))) (HO hc g8 hl8) (by have:=b1.len;simp only [List.length_append,List.length_cons,List.length_nil];omega)
 exact (((b1.trans p1).trans b2).trans (Eb _ 12 0 (TU (by omega)) rfl)).of (by omega)
structure Iv (c i:Nat) (s:CS):Prop where
 good:∀ x ∈ s.code,gIn s.code.length x
 cnt:nM s.code+cQ s.q=c+cQ (s.q.take i)
 q:∀ x ∈ s.q,WN s x∧x.nms.length≤s.code.length
 lst:∃ l,s.code=l++[⟨10,0⟩]
 le:i≤s.q.length
theorem Xd {c i n:Nat} {s s':CS} (h:Gdc n s s') (hg:∀ x ∈ s.code,gIn (s.code.length+1) x) (hc:nM s.code+cQ s.q+n=c+cQ (s.q.take i)) (hq:∀ x ∈ s.q,WN s x) (hi:i≤s.q.length):Iv c i (Be s' 10 0):=by
 have p:=Eb s' 10 0 (TU (by omega)) rfl
 have hn:(Be s' 10 0).code.length=s'.code.length+1:=Bi ..
 have hcnt:=h.cnt
 obtain ⟨t,ht⟩:=h.pre
 refine ⟨fun x hx => ?_, ?_,fun x hx => ?_,⟨s'.code,rfl⟩, ?_⟩
 ·rw [hn]
  unfold Be at hx
  rcases List.mem_append.1 hx with hx | hx
  ·exact h.good hg x hx
  ·rw [List.mem_singleton.1 hx];exact TU (by omega)
 ·have hp:=p.cnt
  rw [CB] at hp ⊢
  rw [show s'.q.take i=s.q.take i from by rw [ht,List.take_append_of_le_length hi]]
  omega
 ·rw [CB] at hx
  have w:WN s' x:=by
   rcases h.new x hx with hx | hx
   ·exact (hq x hx).up h.len h.ops
   ·exact hx
  have:=w.nm
  exact ⟨w.up p.len p.ops,by omega⟩
 ·rw [CB,ht];simp;omega
theorem UC {e:Tm} (hp:plT e=true) (hc:Cov [] e):Iv (cF e) 0 (Be (cpT e [] ⟨[],[]⟩) 10 0) :=
 Xd (YL e [] ⟨[],[]⟩ hp hc (Nat.le_refl _)) (fun x hx=>by cases hx) (by
  show nM []+cQ []+cF e=cF e+cQ []
  rw [show nM []=0 from rfl];omega) (fun x hx=>by cases hx) (Nat.le_refl _)
theorem Zd {c i:Nat} {s:CS} (h:Iv c i s) (hi:i<s.q.length):Iv c (i+1) (Be (cpT (s.q[i]!).body (s.q[i]!).nms (Db s (s.q[i]!).pl.toNat s.code.length)) 10 0):=by
 obtain ⟨w,hnm⟩:=h.q _ (Ab hi)
 have hpl:=w.pl
 have st:=Ti s (s.q[i]!).pl.toNat s.code.length (by omega) (by have:=w.op;omega) (by omega)
 have hn:(Db s (s.q[i]!).pl.toNat s.code.length).code.length=s.code.length:=Cd ..
 have g:=YL (s.q[i]!).body (s.q[i]!).nms (Db s (s.q[i]!).pl.toNat s.code.length) w.pt w.cv (by omega)
 have hs:=st.cnt
 have hc:=h.cnt
 refine Xd g (st.good fun x hx=>(h.good x hx).mono (by omega)) ?_ (fun x hx=>(h.q x hx).1.up st.len st.ops) hi
 rw [Hh] at hs ⊢
 rw [AH s.q i hi,XT]
 have:cQ [s.q[i]!]=cF (s.q[i]!).body:=by unfold cQ;simp
 omega
theorem Xp {c:Nat}:∀ (f i:Nat) (s:CS),Iv c i s→302≤f+s.code.length→∃ j,Iv c j (cmL f i s)∧(300<(cmL f i s).code.length∨(cmL f i s).q.length≤j)
 | 0,i,s,h,hf=>⟨i,h,.inl (by rw [cmL];omega)⟩
 | f+1,i,s,h,hf=>by
  rw [cmL]
  split
  ·rename_i hc
   have h2:=Zd h hc.1
   refine Xp f (i+1) _ h2 ?_
   have g:=h.q _ (Ab hc.1)
   obtain ⟨w,hnm⟩:=g
   have hl:=(YL (s.q[i]!).body (s.q[i]!).nms (Db s (s.q[i]!).pl.toNat s.code.length) w.pt w.cv (by rw [Cd];omega)).len
   rw [Cd] at hl
   rw [Bi];omega
  ·rename_i hc
   exact ⟨i,h,by
    by_cases hq:i<s.q.length
    ·exact .inl (by omega)
    ·exact .inr (by omega)⟩
theorem aCt (e:Tm):(∀ x ∈ (cmR e).1,Ec x=true)∧((cmR e).2=true→nM (cmR e).1=cF e∧∃ l,(cmR e).1=l++[⟨10,0⟩]):=by
 unfold cmR
 split
 case isFalse=>exact ⟨fun x hx=>(by cases hx),fun h=>absurd h (by decide)⟩
 rename_i hb
 split
 case isTrue=>exact ⟨fun x hx=>(by cases hx),fun h=>absurd h (by decide)⟩
 rename_i hl
 unfold cmB at hb
 rw [Bool.and_eq_true,decide_eq_true_eq] at hb
 have hf:AE e=[]:=List.eq_nil_of_length_eq_zero (by omega)
 obtain ⟨j,hj,hd⟩:=Xp 400 0 _ (UC hb.1 (Cov.nil hf)) (by omega)
 change Iv (cF e) j (cmS e) at hj
 change 300<(cmS e).code.length∨(cmS e).q.length≤j at hd
 refine ⟨fun x hx=>((hj.good x hx).mono (by omega)).ins,fun _=>⟨?_,hj.lst⟩⟩
 have hc:=hj.cnt
 rw [List.take_of_length_le (by omega)] at hc
 show nM (cmS e).code=cF e
 omega
def OB (x:ByteArray) (l:List ByteArray):Bool:=l.any fun y=>decide (y=x)
theorem Dz {x:ByteArray} {l:List ByteArray}:OB x l=true ↔ x ∈ l:=by
 unfold OB
 rw [List.any_eq_true]
 constructor
 ·rintro ⟨y,hy,h⟩;rw [← of_decide_eq_true h];exact hy
 ·intro h;exact ⟨x,h,decide_eq_true rfl⟩
def pick (p:Int) (h:Bool):Int→List Tm→List Tm→List Tm
 | i,a :: l,b :: m=>(if i=p∧h=true then a else b) :: pick p h (i+1) l m
 | _,_,_=>[]
mutual
def sbT:Tm→ByteArray→Tm→Tm
 | .mk k nm ot n ty rs args=>fun x u=>if k=1∧nm=x then u else .mk k nm ot n ty rs (pick (bdP k args.length) (OB x (bdN k nm ot args.length)) 0 args (aBs args x u))
def aBs:List Tm→ByteArray→Tm→List Tm
 | []=>fun _ _=>[]
 | a :: l=>fun x u=>sbT a x u :: aBs l x u
end
theorem OX (x:ByteArray) (u:Tm):∀ l,aBs l x u=l.map fun a=>sbT a x u
 | []=>rfl
 | a :: l=>by
  show sbT a x u :: aBs l x u=_
  rw [OX x u l];rfl
abbrev Hn:=ByteArray→Option Tm
def rmv (r:Hn) (ns:List ByteArray):Hn:=fun y=>if OB y ns=true then none else r y
def Hd (r:Hn) (x:ByteArray) (v:Tm):Hn:=fun y=>if y=x then some v else r y
mutual
def esT:Tm→Hn→Tm
 | .mk k nm ot n ty rs args=>fun r=>if k=1 then (r nm).getD (.mk k nm ot n ty rs args) else .mk k nm ot n ty rs (pick (bdP k args.length) true 0 (YD args (rmv r (bdN k nm ot args.length))) (YD args r))
def YD:List Tm→Hn→List Tm
 | []=>fun _=>[]
 | a :: l=>fun r=>esT a r :: YD l r
end
theorem JT (r:Hn):∀ l,YD l r=l.map fun a=>esT a r
 | []=>rfl
 | a :: l=>by
  show esT a r :: YD l r=_
  rw [JT r l];rfl
theorem Fb (e:Tm) (x:ByteArray) (u:Tm):sbT e x u=if e.kind=1∧e.name=x then u else .mk e.kind e.name e.other e.n e.ty e.res (pick (bdP e.kind e.args.length) (OB x (bdN e.kind e.name e.other e.args.length)) 0 e.args (e.args.map fun a=>sbT a x u)):=by
 obtain ⟨k,nm,ot,n,ty,rs,args⟩:=e
 show (if k=1∧nm=x then u else Tm.mk k nm ot n ty rs (pick (bdP k args.length) (OB x (bdN k nm ot args.length)) 0 args (aBs args x u)))=_
 rw [OX];rfl
theorem IB (e:Tm) (r:Hn):esT e r=if e.kind=1 then (r e.name).getD e else .mk e.kind e.name e.other e.n e.ty e.res (pick (bdP e.kind e.args.length) true 0 (e.args.map fun a=>esT a (rmv r (bdN e.kind e.name e.other e.args.length))) (e.args.map fun a=>esT a r)):=by
 obtain ⟨k,nm,ot,n,ty,rs,args⟩:=e
 show (if k=1 then (r nm).getD (Tm.mk k nm ot n ty rs args) else Tm.mk k nm ot n ty rs (pick (bdP k args.length) true 0 (YD args (rmv r (bdN k nm ot args.length))) (YD args r)))=_
 rw [JT,JT];rfl
theorem Hx (p:Int) (h:Bool):∀ (l:List Tm) (i:Int) (f g:Tm→Tm),(pick p h i (l.map f) (l.map g)).length=l.length
 | [],i,f,g=>by rw [List.map_nil,List.map_nil,pick];intros;simp_all
 | a :: l,i,f,g=>by rw [List.map_cons,List.map_cons,pick,List.length_cons,Hx p h l,List.length_cons]
theorem CU (p:Int) (h:Bool) (i:Int):pick p h i [] []=[]:=by rw [pick];intros;simp_all
theorem IF (p:Int) (h:Bool):∀ (l:List Tm) (i:Int),pick p h i l l=l
 | [],i=>CU p h i
 | a :: l,i=>by rw [pick,IF p h l];split <;> rfl
theorem JB (p:Int) (h h':Bool):∀ (l:List Tm) (i:Int) (f g f' g':Tm→Tm),(∀ a ∈ l,∀ j,(if j=p∧h=true then f a else g a)=(if j=p∧h'=true then f' a else g' a))→pick p h i (l.map f) (l.map g)=pick p h' i (l.map f') (l.map g')
 | [],i,f,g,f',g',_=>by rw [List.map_nil,List.map_nil,List.map_nil,List.map_nil,CU,CU]
 | a :: l,i,f,g,f',g',hh=>by
  rw [List.map_cons,List.map_cons,List.map_cons,List.map_cons,pick,pick,hh a (by simp) i,JB p h h' l (i+1) f g f' g' fun b hb j=>hh b (by simp [hb]) j]
theorem HW (p:Int) (h:Bool) (s:Tm→Tm):∀ (l:List Tm) (i:Int) (f g:Tm→Tm),pick p h i (pick p true i (l.map f) (l.map g)) ((pick p true i (l.map f) (l.map g)).map s)=pick p true i (l.map fun a=>if h=true then f a else s (f a)) (l.map fun a=>s (g a))
 | [],i,f,g=>by rw [List.map_nil,List.map_nil,List.map_nil,List.map_nil,CU,List.map_nil,CU]
 | a :: l,i,f,g=>by
  rw [List.map_cons,List.map_cons,List.map_cons,List.map_cons,pick,pick,List.map_cons,pick,HW p h s l (i+1) f g]
  congr 1
  by_cases hi:i=p
  ·cases h <;> simp [hi]
  ·simp [hi]
def Cl (v:Tm):Prop:=∀ x u,sbT v x u=v
theorem aA4 (r:Hn) (ns:List ByteArray) (x:ByteArray) (v:Tm) (h:OB x ns=true):rmv (Hd r x v) ns=rmv r ns:=by
 funext y
 unfold rmv Hd
 split
 ·rfl
 ·rename_i hy
  rw [if_neg (fun e=>hy (by rw [e];exact h))]
theorem Vz (r:Hn) (ns:List ByteArray) (x:ByteArray) (v:Tm) (h:¬ OB x ns=true):rmv (Hd r x v) ns=Hd (rmv r ns) x v:=by
 funext y
 unfold rmv Hd
 by_cases e:y=x
 ·subst e;rw [if_neg h,if_pos rfl,if_pos rfl]
 ·rw [if_neg e,if_neg e]
def Kb (e:Tm):Bool := !decide (e.kind=1) || decide (e.args.length=0)
theorem Fw {p:Tm→Bool} {t:Tm} (h:Bn p t=true):p t=true∧∀ x ∈ t.args,Bn p x=true:=by
 rw [Cv,Bool.and_eq_true] at h
 refine ⟨h.1, ?_⟩
 have key:∀ (l:List Tm),BV p l=true→∀ x ∈ l,Bn p x=true:=by
  intro l
  induction l with
  | nil=>intro _ x hx;cases hx
  | cons y l ih =>
   intro h x hx
   rw [BV,Bool.and_eq_true] at h
   rcases List.mem_cons.1 hx with rfl | hx
   ·exact h.1
   ·exact ih h.2 x hx
 exact key _ h.2
theorem Wq (v:Tm) (x:ByteArray):∀ b:Tm,Bn Kb b=true→∀ r:Hn,r x=none→(∀ y w,r y=some w→Cl w)→sbT (esT b r) x v=esT b (Hd r x v):=by
 refine Tm.ind fun b ih hv r hx hr => ?_
 obtain ⟨h1,h2⟩:=Fw hv
 rw [IB b r,IB b (Hd r x v)]
 by_cases hk:b.kind=1
 ·rw [if_pos hk,if_pos hk]
  have hl:b.args=[]:=by
   unfold Kb at h1
   rw [decide_eq_true hk] at h1
   exact List.eq_nil_of_length_eq_zero (of_decide_eq_true (by simpa using h1))
  by_cases hn:b.name=x
  ·rw [hn,hx]
   unfold Hd
   rw [if_pos rfl,Option.getD_none,Option.getD_some,Fb,if_pos ⟨hk,hn⟩]
  ·unfold Hd
   rw [if_neg hn]
   cases hw:r b.name with
   | some w=>rw [Option.getD_some];exact hr _ _ hw x v
   | none =>
    rw [Option.getD_none,Fb,if_neg (fun h=>hn h.2),hl,List.map_nil,CU]
    obtain ⟨k,nm,ot,n,ty,rs,args⟩:=b
    simp only [Tm.args] at hl
    rw [hl];rfl
 ·rw [if_neg hk,if_neg hk,Fb]
  split
  ·rename_i h;exact absurd h.1 hk
  simp only [Bf,Bd,AP,Gj,CP,BQ,AJ]
  rw [Hx,HW]
  congr 1
  generalize hN:bdN b.kind b.name b.other b.args.length=N
  have hr':∀ y w,rmv r N y=some w→Cl w:=fun y w h=>by
   unfold rmv at h
   split at h
   ·cases h
   ·exact hr y w h
  refine JB _ true true b.args 0 _ _ _ _ fun a ha j => ?_
  rw [ih a ha (h2 a ha) r hx hr]
  by_cases hj:j=bdP b.kind b.args.length
  ·have hc:j=bdP b.kind b.args.length∧true=true:=⟨hj,rfl⟩
   rw [if_pos hc,if_pos hc]
   by_cases hm:OB x N=true
   ·rw [if_pos hm,aA4 r N x v hm]
   ·rw [if_neg hm,ih a ha (h2 a ha) (rmv r N) (by unfold rmv;rw [if_neg hm];exact hx) hr',Vz r N x v hm]
  ·have hc:¬ (j=bdP b.kind b.args.length∧true=true):=fun h=>hj h.1
   rw [if_neg hc,if_neg hc]
theorem HT (p:Int) (h h':Bool):∀ (l:List Tm) (i:Int) (f g f' g':Tm→Tm),(∀ k:Nat,k<l.length→(if i+(k:Int)=p∧h=true then f l[k]! else g l[k]!)=(if i+(k:Int)=p∧h'=true then f' l[k]! else g' l[k]!))→pick p h i (l.map f) (l.map g)=pick p h' i (l.map f') (l.map g')
 | [],i,f,g,f',g',_=>by rw [List.map_nil,List.map_nil,List.map_nil,List.map_nil,CU,CU]
 | a :: l,i,f,g,f',g',hh=>by
  have h0:=hh 0 (by simp)
  rw [Int.natCast_zero,Int.add_zero] at h0
  simp only [List.getElem!_cons_zero] at h0
  rw [List.map_cons,List.map_cons,List.map_cons,List.map_cons,pick,pick,h0,HT p h h' l (i+1) f g f' g' fun k hk=>by
   have:=hh (k+1) (by simpa using hk)
   simp only [List.getElem!_cons_succ] at this
   rw [show i+((k+1:Nat):Int)=i+1+(k:Int) by omega] at this
   exact this]
theorem Yh:∀ e:Tm,∀ r:Hn,(∀ y,r y=none)→esT e r=e:=by
 refine Tm.ind fun e ih r hr => ?_
 rw [IB]
 split
 ·rw [hr];rfl
 ·have h1:(e.args.map fun a=>esT a (rmv r (bdN e.kind e.name e.other e.args.length)))=e.args:=by
   conv=>rhs;rw [← List.map_id e.args]
   refine List.map_congr_left fun a ha=>ih a ha _ fun y => ?_
   unfold rmv
   split
   ·rfl
   ·exact hr y
  have h2:(e.args.map fun a=>esT a r)=e.args:=by
   conv=>rhs;rw [← List.map_id e.args]
   exact List.map_congr_left fun a ha=>ih a ha _ hr
  rw [h1,h2,IF]
  obtain ⟨k,nm,ot,n,ty,rs,args⟩:=e
  rfl
theorem aFY (x:ByteArray) (u:Tm):∀ e:Tm,Bn Kb e=true→∀ r:Hn,(∀ y w,r y=some w→Cl w)→(∀ y ∈ AE e,r y=none→y≠x)→sbT (esT e r) x u=esT e r:=by
 refine Tm.ind fun e ih hv r hr hf => ?_
 obtain ⟨h1,h2⟩:=Fw hv
 rw [IB e r]
 by_cases hk:e.kind=1
 ·rw [if_pos hk]
  have hl:e.args=[]:=by
   unfold Kb at h1
   rw [decide_eq_true hk] at h1
   exact List.eq_nil_of_length_eq_zero (of_decide_eq_true (by simpa using h1))
  have hfr:AE e=[e.name]:=by rw [CW,frF,if_pos hk]
  cases hw:r e.name with
  | some w=>rw [Option.getD_some];exact hr _ _ hw x u
  | none =>
   have hne:=hf e.name (by rw [hfr];simp) hw
   rw [Option.getD_none,Fb,if_neg (fun h=>hne h.2),hl,List.map_nil,CU]
   obtain ⟨k,nm,ot,n,ty,rs,args⟩:=e
   simp only [Tm.args] at hl
   rw [hl];rfl
 ·rw [if_neg hk,Fb]
  split
  ·rename_i h;exact absurd h.1 hk
  simp only [Bf,Bd,AP,Gj,CP,BQ,AJ]
  rw [Hx,HW]
  congr 1
  have hpart:=fun (i:Nat) (hi:i<e.args.length) (y:ByteArray) (hy:y ∈ AE e.args[i]!)=>Ef hk hi hy
  generalize hN:bdN e.kind e.name e.other e.args.length=N at *
  refine HT _ true true e.args 0 _ _ _ _ fun k hk2 => ?_
  have hm:=Ab hk2
  by_cases hj:0+(k:Int)=bdP e.kind e.args.length
  ·have hc:0+(k:Int)=bdP e.kind e.args.length∧true=true:=⟨hj,rfl⟩
   rw [if_pos hc,if_pos hc]
   by_cases hx:OB x N=true
   ·rw [if_pos hx]
   ·rw [if_neg hx]
    refine ih _ hm (h2 _ hm) _ (fun y w h => ?_) fun y hy hn => ?_
    ·unfold rmv at h
     split at h
     ·cases h
     ·exact hr y w h
    ·unfold rmv at hn
     split at hn
     ·rename_i hyN;intro e2;rw [e2] at hyN;exact hx hyN
     ·rename_i hyN
      rcases hpart k hk2 y hy with h3 | h3
      ·exact hf y h3 hn
      ·exact absurd (Dz.2 h3.2) hyN
  ·have hc:¬ (0+(k:Int)=bdP e.kind e.args.length∧true=true):=fun h=>hj h.1
   rw [if_neg hc,if_neg hc]
   refine ih _ hm (h2 _ hm) r hr fun y hy hn => ?_
   rcases hpart k hk2 y hy with h3 | h3
   ·exact hf y h3 hn
   ·exact absurd (by rw [← h3.1];omega) hj
def vlB (t:Tm):Bool:=decide (t.kind=2) || (decide (t.kind=3) || (decide (t.kind=6) || decide (t.kind=9)))
theorem Ja {t:Tm} (h:vlB t=true):t.kind=2∨t.kind=3∨t.kind=6∨t.kind=9:=by
 unfold vlB at h
 simpa only [Bool.or_eq_true,decide_eq_true_eq] using h
def KN (s:ByteArray):Int:=if s=⟨#[38]⟩∨s=⟨#[124]⟩∨s=⟨#[33]⟩ then 3 else 2
def tBo (n:Int):Tm:=.mk 3 ⟨#[]⟩ ⟨#[]⟩ n (.mk 0 []) (.mk 0 []) []
def tIn (n:Int):Tm:=.mk 2 ⟨#[]⟩ ⟨#[]⟩ n (.mk 0 []) (.mk 0 []) []
def opv (s:ByteArray) (a b:Int):Tm:=if s=⟨#[43]⟩∨s=⟨#[45]⟩∨s=⟨#[42]⟩ then tIn (apV s a b) else tBo (apV s a b)
def EC (e:Tm) (k:Nat) (x:Tm):Tm:=.mk e.kind e.name e.other e.n e.ty e.res (e.args.set k x)
def stF (e : Tm) (fs : List (Option Tm)) : Option Tm :=
  if vlB e = true then none
  else if e.kind = 4 then
    (if vlB e.args[0]! = false then ((fs[0]!).map (EC e 0))
     else if e.args.length = 2 ∧ vlB e.args[1]! = false then ((fs[1]!).map (EC e 1))
     else if (e.args.all fun a => decide (a.kind = KN e.name)) = true then some (opv e.name (e.args[0]!).n (if e.args.length = 2 then (e.args[1]!).n else 0)) else none)
  else if e.kind = 7 then
    (if vlB e.args[0]! = false then ((fs[0]!).map (EC e 0))
     else if vlB e.args[1]! = false then ((fs[1]!).map (EC e 1))
     else if (e.args[0]!).kind = 6 then some (sbT (e.args[0]!).args[0]! (e.args[0]!).name e.args[1]!)
     else if (e.args[0]!).kind = 9 then some (sbT (sbT (e.args[0]!).args[0]! (e.args[0]!).name e.args[0]!) (e.args[0]!).other e.args[1]!)
     else none)
  else if e.kind = 5 then
    (if vlB e.args[0]! = false then ((fs[0]!).map (EC e 0))
     else if (e.args[0]!).kind = 3 then some e.args[(2 - (e.args[0]!).n).toNat]! else none)
  else if e.kind = 8 then
    (if vlB e.args[0]! = false then ((fs[0]!).map (EC e 0)) else some (sbT e.args[1]! e.name e.args[0]!))
  else none
mutual
def stT:Tm→Option Tm
 | .mk k nm ot n ty rs args=>stF (.mk k nm ot n ty rs args) (aEL args)
def aEL:List Tm→List (Option Tm)
 | []=>[]
 | a :: l=>stT a :: aEL l
end
theorem Od:∀ l,aEL l=l.map stT
 | []=>rfl
 | a :: l=>by rw [aEL,Od l];rfl
theorem Hm (e:Tm):stT e=stF e (e.args.map stT):=by
 obtain ⟨k,nm,ot,n,ty,rs,args⟩:=e
 rw [stT,Od];rfl
inductive Ev:Tm→Tm→Prop
 | val {t:Tm} (h:vlB t=true):Ev t t
 | op {t:Tm} {vs:List Tm} (hk:t.kind=4) (hl:vs.length=t.args.length) (he:∀ k,k<t.args.length→Ev t.args[k]! vs[k]!) (hv:∀ k,k<t.args.length→(vs[k]!).kind=KN t.name):Ev t (opv t.name (vs[0]!).n (if t.args.length=2 then (vs[1]!).n else 0))
 | ite {t c v:Tm} (hk:t.kind=5) (hc:Ev t.args[0]! c) (h3:c.kind=3) (hv:Ev t.args[(2-c.n).toNat]! v):Ev t v
 | lt {t a v:Tm} (hk:t.kind=8) (ha:Ev t.args[0]! a) (hv:Ev (sbT t.args[1]! t.name a) v):Ev t v
 | app {t f a v:Tm} (hk:t.kind=7) (hf:Ev t.args[0]! f) (ha:Ev t.args[1]! a) (h6:f.kind=6) (hv:Ev (sbT f.args[0]! f.name a) v):Ev t v
 | rcs {t f a v:Tm} (hk:t.kind=7) (hf:Ev t.args[0]! f) (ha:Ev t.args[1]! a) (h9:f.kind=9) (hv:Ev (sbT (sbT f.args[0]! f.name f) f.other a) v):Ev t v
theorem Zw (s:ByteArray) (a b:Int):vlB (opv s a b)=true:=by
 unfold opv
 split <;> rfl
theorem Sb (e:Tm) (k:Nat) (x:Tm) (j:Nat) (hk:k<e.args.length):(EC e k x).args[j]! = if j=k then x else e.args[j]! := by
 unfold EC
 simp only [AJ]
 by_cases hj:j=k
 ·subst hj
  rw [if_pos rfl,getElem!_pos (e.args.set j x) j (by rw [List.length_set];exact hk),List.getElem_set_self]
 ·rw [if_neg hj]
  by_cases hl:j<e.args.length
  ·rw [getElem!_pos (e.args.set k x) j (by rw [List.length_set];exact hl),getElem!_pos e.args j hl,List.getElem_set_ne (fun h=>hj h.symm)]
  ·rw [getElem!_neg (e.args.set k x) j (by rw [List.length_set];exact hl),getElem!_neg e.args j hl]
theorem Pg (e:Tm) (k:Nat) (x:Tm):(EC e k x).args.length=e.args.length:=by
 unfold EC;simp only [AJ,List.length_set]
theorem aCL {e x:Tm} {k:Nat} (hk:k<e.args.length) (hkd:e.kind=4∨(e.kind=7∧k<2)∨((e.kind=5∨e.kind=8)∧k=0)) (hstep:∀ v,Ev x v→Ev e.args[k]! v) {v:Tm} (h:Ev (EC e k x) v):Ev e v:=by
 have hA:=fun j=>Sb e k x j hk
 have hL:=Pg e k x
 have hup:∀ j w,Ev (EC e k x).args[j]! w→Ev e.args[j]! w:=fun j w hw=>by
  rw [hA j] at hw
  split at hw
  ·rename_i hj;rw [hj];exact hstep w hw
  ·exact hw
 have hkind:(EC e k x).kind=e.kind:=rfl
 have hname:(EC e k x).name=e.name:=rfl
 generalize ht:EC e k x=t at *
 cases h with
 | val h=>have:=Ja h;omega
 | op h4 hl he hv =>
  rw [hname,hL]
  exact .op (by omega) (by omega) (fun j hj=>hup j _ (he j (by omega))) (fun j hj=>by rw [← hname];exact hv j (by omega))
 | ite h5 hc h3 hv =>
  have hk0:k=0:=by omega
  subst hk0
  refine .ite (by omega) (hup 0 _ hc) h3 ?_
  exact hup _ _ hv
 | lt h8 ha hv =>
  have hk0:k=0:=by omega
  subst hk0
  rw [hA 1,if_neg (by decide),hname] at hv
  exact .lt (by omega) (hup 0 _ ha) hv
 | app h7 hf ha h6 hv=>exact .app (by omega) (hup 0 _ hf) (hup 1 _ ha) h6 hv
 | rcs h7 hf ha h9 hv=>exact .rcs (by omega) (hup 0 _ hf) (hup 1 _ ha) h9 hv
theorem aBA {t v:Tm} (h:vlB t=true) (he:Ev t v):v=t:=by
 have hk:=Ja h
 cases he with
 | val _=>rfl
 | op h4 _ _ _=>omega
 | ite h5 _ _ _=>omega
 | lt h8 _ _=>omega
 | app h7 _ _ _ _=>omega
 | rcs h7 _ _ _ _=>omega
theorem map_set {e e':Tm} {k:Nat} (h:((e.args.map stT)[k]!).map (EC e k)=some e'):k<e.args.length∧∃ x,stT e.args[k]! = some x∧e'=EC e k x:=by
 by_cases hk:k<e.args.length
 ·rw [getElem!_pos (e.args.map stT) k (by rw [List.length_map];exact hk),List.getElem_map,← getElem!_pos e.args k hk] at h
  refine ⟨hk, ?_⟩
  cases hs:stT e.args[k]! with
  | none=>rw [hs] at h;cases h
  | some x =>
   rw [hs] at h
   exact ⟨x,rfl,by injection h with h;exact h.symm⟩
 ·rw [getElem!_neg (e.args.map stT) k (by rw [List.length_map];exact hk)] at h
  cases h
theorem aAW:∀ e e':Tm,stT e=some e'→∀ v,Ev e' v→Ev e v:=by
 refine Tm.ind fun e ih e' hs v hv => ?_
 rw [Hm] at hs
 unfold stF at hs
 have inner:∀ k,((e.args.map stT)[k]!).map (EC e k)=some e'→(e.kind=4∨(e.kind=7∧k<2)∨((e.kind=5∨e.kind=8)∧k=0))→Ev e v:=fun k h hkd=>by
  obtain ⟨hk,x,hx,rfl⟩:=map_set h
  exact aCL hk hkd (fun w hw=>ih _ (Ab hk) x hx w hw) hv
 have tru:∀ {b:Bool},¬ b=false→b=true:=fun {b} h=>by cases b <;> simp_all
 split at hs
 ·cases hs
 split at hs
 ·rename_i h4
  split at hs
  ·exact inner 0 hs (.inl h4)
  split at hs
  ·exact inner 1 hs (.inl h4)
  split at hs
  ·rename_i hall
   injection hs with hs
   subst hs
   rw [aBA (Zw _ _ _) hv]
   rw [List.all_eq_true] at hall
   have hw:∀ k,k<e.args.length→(e.args[k]!).kind=KN e.name:=fun k hk=>of_decide_eq_true (hall _ (Ab hk))
   refine .op h4 rfl (fun k hk => .val ?_) hw
   have:=hw k hk
   unfold KN at this
   unfold vlB
   split at this
   ·rw [this];rfl
   ·rw [this];rfl
  ·cases hs
 split at hs
 ·rename_i _ h7
  split at hs
  ·exact inner 0 hs (.inr (.inl ⟨h7,by omega⟩))
  rename_i r0
  split at hs
  ·exact inner 1 hs (.inr (.inl ⟨h7,by omega⟩))
  rename_i r1
  split at hs
  ·rename_i h6
   injection hs with hs
   subst hs
   exact .app h7 (.val (tru r0)) (.val (tru r1)) h6 hv
  split at hs
  ·rename_i h9
   injection hs with hs
   subst hs
   exact .rcs h7 (.val (tru r0)) (.val (tru r1)) h9 hv
  ·cases hs
 split at hs
 ·rename_i _ _ h5
  split at hs
  ·exact inner 0 hs (.inr (.inr ⟨.inl h5,rfl⟩))
  rename_i r0
  split at hs
  ·rename_i h3
   injection hs with hs
   subst hs
   exact .ite h5 (.val (tru r0)) h3 hv
  ·cases hs
 split at hs
 ·rename_i _ _ _ h8
  split at hs
  ·exact inner 0 hs (.inr (.inr ⟨.inr h8,rfl⟩))
  rename_i r0
  injection hs with hs
  subst hs
  exact .lt h8 (.val (tru r0)) hv
 ·cases hs
inductive Ms:Tm→Tm→Prop
 | done (t:Tm):Ms t t
 | step {t u v:Tm} (h:stT t=some u) (k:Ms u v):Ms t v
theorem aH9 {t v:Tm} (h:Ms t v) (hv:vlB v=true):Ev t v:=by
 induction h with
 | done t=>exact .val hv
 | step h _ ih=>exact aAW _ _ h _ (ih hv)
abbrev SG:=List ByteArray→Nat→Nat→Prop
instance : Inhabited SG := ⟨fun _ _ _ => False⟩
def sgs:List SG→SG
 | []=>fun ns p q=>q=p
 | f :: l=>fun ns p q=>∃ r,f ns p r∧sgs l ns r q
def sgF (C:List Ins) (k:Int) (nm ot:ByteArray) (n:Int) (fs:List SG):SG:=fun ns p q =>
 if k=2 then C[p]! = ⟨1,n⟩∧q=p+1
 else if k=3 then C[p]! = ⟨2,n⟩∧q=p+1
 else if k=1 then C[p]! = ⟨3,plN ns nm⟩∧q=p+1
 else if k=4 then ∃ r,sgs fs ns p r∧C[r]! = ⟨4,fi nm Kp 0+1⟩∧q=r+1
 else if k=5 then ∃ r1 r2,(fs[0]!) ns p r1∧C[r1]! = ⟨6,((r2+1:Nat):Int)⟩∧(fs[1]!) ns (r1+1) r2∧C[r2]! = ⟨5,(q:Int)⟩∧(fs[2]!) ns (r2+1) q
 else if k=6 then (C[p]!).op=7∧q=p+1∧0≤(C[p]!).a∧∃ q',(fs[0]!) (ns++[nm]) (C[p]!).a.toNat q'∧C[q']! = ⟨10,0⟩
 else if k=9 then (C[p]!).op=8∧q=p+1∧0≤(C[p]!).a∧∃ q',(fs[0]!) (ns++[nm,ot]) (C[p]!).a.toNat q'∧C[q']! = ⟨10,0⟩
 else if k=7 then ∃ r1 r2,(fs[0]!) ns p r1∧(fs[1]!) ns r1 r2∧C[r2]! = ⟨9,0⟩∧q=r2+1
 else if k=8 then ∃ r1 r2,(fs[0]!) ns p r1∧C[r1]! = ⟨11,0⟩∧(fs[1]!) (ns++[nm]) (r1+1) r2∧C[r2]! = ⟨12,0⟩∧q=r2+1
 else False
mutual
def Lb (C:List Ins):Tm→SG
 | .mk k nm ot n _ _ args=>sgF C k nm ot n (UF C args)
def UF (C:List Ins):List Tm→List SG
 | []=>[]
 | a :: l=>Lb C a :: UF C l
end
theorem Ls (C:List Ins):∀ l,UF C l=l.map (Lb C)
 | []=>rfl
 | a :: l=>by rw [UF,Ls C l];rfl
theorem GG (C:List Ins) (e:Tm):Lb C e=sgF C e.kind e.name e.other e.n (e.args.map (Lb C)):=by
 obtain ⟨k,nm,ot,n,ty,rs,args⟩:=e
 rw [Lb,Ls];rfl
def Stp (C:List Ins) (m m':Mch):Prop:=(0≤m.pc∧m.pc<(C.length:Int))∧(exM (pcM m (m.pc+1)) (.num 0) C[m.pc.toNat]!).1=0∧(exM (pcM m (m.pc+1)) (.num 0) C[m.pc.toNat]!).2.1=m'
inductive Rn (C:List Ins):Mch→Mch→Prop
 | done (m:Mch):Rn C m m
 | step {m m1 m2:Mch} (h:Stp C m m1) (k:Rn C m1 m2):Rn C m m2
theorem Rn.trans {C:List Ins} {a b c:Mch} (h:Rn C a b) (k:Rn C b c):Rn C a c:=by
 induction h with
 | done _=>exact k
 | step h _ ih=>exact .step h (ih k)
theorem Rn.one {C:List Ins} {a b:Mch} (h:Stp C a b):Rn C a b:=.step h (.done _)
theorem aCe {C:List Ins} {m m':Mch} (h:Rn C m m'):∀ r n,(Jt C r n m).s=2∨∃ r' n',Jt C r n m=Jt C r' n' m':=by
 induction h with
 | done m=>exact fun r n => .inr ⟨r,n,rfl⟩
 | step h _ ih =>
  intro r n
  obtain ⟨⟨h1,h2⟩,h3,h4⟩:=h
  cases r with
  | zero=>left;rw [Jt]
  | succ r =>
   rw [Jt,if_neg (by omega),if_pos h3,h4]
   exact ih r (n+1)
inductive VR (C:List Ins):Tm→Vl→Prop
 | num {t:Tm} (hk:t.kind=2∨t.kind=3) (ha:t.args=[]) (hb:t.kind=3→t.n=0∨t.n=1):VR C t (.num t.n)
 | fn {t0:Tm} {ns:List ByteArray} {r:Hn} {vals:ByteArray→Tm} {c:List Vl} {rc:Bool} {p:Int} (hk:(t0.kind=6∧rc=false)∨(t0.kind=9∧rc=true)) (hp:plT t0=true) (hc:c.length=ns.length)
   (hv:∀ x,0≤lsN ns x ns.length→r x=some (vals x)) (hr:∀ x,0≤lsN ns x ns.length→VR C (vals x) c[(lsN ns x ns.length).toNat]!) (hcov:Cov ns t0) (hcl:Cl (esT t0 r)) (hrc:∀ y w,r y=some w→Cl w) (h0:0≤p)
   (hs:∃ q',Lb C t0.args[0]! (ns++(if rc=true then [t0.name,t0.other] else [t0.name])) p.toNat q'∧C[q']! = ⟨10,0⟩):VR C (esT t0 r) (.fn rc p c)
structure WX (C:List Ins) (ns:List ByteArray) (r:Hn) (c:List Vl):Prop where
 len:c.length=ns.length
 val:∃ vals:ByteArray→Tm,(∀ x,0≤lsN ns x ns.length→r x=some (vals x))∧∀ x,0≤lsN ns x ns.length→VR C (vals x) c[(lsN ns x ns.length).toNat]!
 cl:∀ y w,r y=some w→Cl w
theorem Ks (q:Int) (st l:List Vl) (c:List Vl) (fr:List Frm) (k:Nat) (hk:k=l.length):Ee ⟨q,st++l,c,fr⟩ k=l∧CN ⟨q,st++l,c,fr⟩ k=⟨q,st,c,fr⟩:=by
 subst hk
 unfold Ee CN
 simp only [List.length_append,Nat.add_sub_cancel]
 exact ⟨List.drop_left,by rw [List.take_left]⟩
theorem EV {C:List Ins} {p:Nat} {st c:List Vl} {fr:List Frm} {x:Ins} (hx:C[p]! = x) (h0:x.op≠0) {m':Mch} (he:exM ⟨(p:Int)+1,st,c,fr⟩ (.num 0) x=(0,m',.num 0)):Stp C ⟨p,st,c,fr⟩ m':=by
 have hl:p<C.length:=by
  by_cases h:p<C.length
  ·exact h
  ·rw [getElem!_neg C p h] at hx
   rw [← hx] at h0
   exact absurd rfl h0
 have e:pcM ⟨p,st,c,fr⟩ ((p:Int)+1)=⟨(p:Int)+1,st,c,fr⟩:=rfl
 refine ⟨⟨by show (0:Int)≤p;omega,by show (p:Int)<_;omega⟩, ?_, ?_⟩
 ·show (exM (pcM ⟨p,st,c,fr⟩ ((p:Int)+1)) (.num 0) C[((p:Int)).toNat]!).1=0
  rw [Int.toNat_natCast,hx,e,he]
 ·show (exM (pcM ⟨p,st,c,fr⟩ ((p:Int)+1)) (.num 0) C[((p:Int)).toNat]!).2.1=m'
  rw [Int.toNat_natCast,hx,e,he]
theorem aBn (q:Int) (st c:List Vl) (fr:List Frm) (d:Vl) (op n:Int) (h:op=1∨op=2):exM ⟨q,st,c,fr⟩ d ⟨op,n⟩=(0,⟨q,st++[.num n],c,fr⟩,d):=by
 unfold exM;rw [if_pos h];rfl
theorem aBk (q:Int) (st c:List Vl) (fr:List Frm) (d:Vl) (a:Int) (h:a.toNat<c.length):exM ⟨q,st,c,fr⟩ d ⟨3,a⟩=(0,⟨q,st++[c[c.length-1-a.toNat]!],c,fr⟩,d):=by
 unfold exM;rw [if_neg (by simp only;decide),if_pos rfl,if_neg (by show ¬ c.length≤a.toNat;omega)];rfl
theorem aAE (q:Int) (st c:List Vl) (fr:List Frm) (d:Vl) (a:Int):exM ⟨q,st,c,fr⟩ d ⟨5,a⟩=(0,⟨a,st,c,fr⟩,d):=by
 unfold exM;rw [if_neg (by simp only;decide),if_neg (by simp only;decide),if_neg (by simp only;decide),if_pos rfl];rfl
theorem Tp (q:Int) (st c:List Vl) (fr:List Frm) (d:Vl) (a n:Int):exM ⟨q,st++[.num n],c,fr⟩ d ⟨6,a⟩=(0,⟨if n=0 then a else q,st,c,fr⟩,d):=by
 obtain ⟨h1,h2⟩:=Ks q st [.num n] c fr 1 rfl
 unfold exM
 rw [if_neg (by simp only;decide),if_neg (by simp only;decide),if_neg (by simp only;decide),if_neg (by simp only;decide),if_pos rfl,if_neg (by show ¬ (st++[Vl.num n]).length<1;simp),h1,h2]
 by_cases hn:n=0
 ·subst hn;rfl
 ·have e1:[Vl.num n][0]! = Vl.num n:=rfl
  rw [e1,IG,QQ,if_neg (show ¬ (false=true) by decide),if_neg hn,if_neg hn]
theorem Sj (q:Int) (st c:List Vl) (fr:List Frm) (d:Vl) (op a:Int) (h:op=7∨op=8):exM ⟨q,st,c,fr⟩ d ⟨op,a⟩=(0,⟨q,st++[.fn (decide (op=8)) a c],c,fr⟩,d):=by
 unfold exM
 simp only
 rw [if_neg (by omega),if_neg (by omega),if_neg (by omega),if_neg (by omega),if_neg (by omega),if_pos h];rfl
theorem ZJ (q:Int) (st c:List Vl) (fr:List Frm) (d:Vl) (rc:Bool) (p:Int) (cx:List Vl) (x:Vl):exM ⟨q,st++[.fn rc p cx,x],c,fr⟩ d ⟨9,0⟩=(0,⟨p,[],(if rc=true then cx++[.fn rc p cx] else cx)++[x],fr++[⟨q,st,c⟩]⟩,d):=by
 obtain ⟨h1,h2⟩:=Ks q st [.fn rc p cx,x] c fr 2 rfl
 unfold exM
 rw [if_neg (by decide),if_neg (by decide),if_neg (by decide),if_neg (by decide),if_neg (by decide),if_neg (by decide),if_pos rfl]
 unfold FS
 rw [if_neg (by show ¬ (st++[Vl.fn rc p cx,x]).length<2;simp),h1,h2]
 rfl
theorem aCf (q:Int) (v:Vl) (c:List Vl) (fr:List Frm) (f:Frm) (d:Vl):exM ⟨q,[v],c,fr++[f]⟩ d ⟨10,0⟩=(0,⟨f.pc,f.st++[v],f.nm,fr⟩,d):=by
 unfold exM
 rw [if_neg (by decide),if_neg (by decide),if_neg (by decide),if_neg (by decide),if_neg (by decide),if_neg (by decide),if_neg (by decide),if_pos rfl]
 unfold Nk
 simp only [List.length_singleton,ne_eq,not_true_eq_false,if_false]
 rw [if_neg (by show ¬ (fr++[f]).length=0;simp)]
 have e:(fr++[f])[(fr++[f]).length-1]! = f:=by
  rw [getElem!_pos (fr++[f]) _ (by simp)];simp
 have e2:(fr++[f]).take ((fr++[f]).length-1)=fr:=by simp
 simp only [e,e2]
 rfl
theorem Zr (q:Int) (st c:List Vl) (fr:List Frm) (d v:Vl):exM ⟨q,st++[v],c,fr⟩ d ⟨11,0⟩=(0,⟨q,st,c++[v],fr⟩,d):=by
 obtain ⟨h1,h2⟩:=Ks q st [v] c fr 1 rfl
 unfold exM
 rw [if_neg (by decide),if_neg (by decide),if_neg (by decide),if_neg (by decide),if_neg (by decide),if_neg (by decide),if_neg (by decide),if_neg (by decide),if_pos rfl,if_neg (by show ¬ (st++[v]).length<1;simp),h1,h2]
 rfl
theorem Te (q:Int) (st c:List Vl) (fr:List Frm) (d v:Vl):exM ⟨q,st,c++[v],fr⟩ d ⟨12,0⟩=(0,⟨q,st,c,fr⟩,d):=by
 unfold exM
 rw [if_neg (by decide),if_neg (by decide),if_neg (by decide),if_neg (by decide),if_neg (by decide),if_neg (by decide),if_neg (by decide),if_neg (by decide),if_neg (by decide),if_neg (by show ¬ (c++[v]).length=0;simp)]
 unfold nmM
 simp only [List.length_append,List.length_singleton,Nat.add_sub_cancel,List.take_left]
theorem Rv {s:ByteArray} (h:0<CQ s):opB (fi s Kp 0+1)=s:=by
 unfold CQ at h
 by_cases h1:s=⟨#[43]⟩
 ·subst h1;decide
 by_cases h2:s=⟨#[45]⟩
 ·subst h2;decide
 by_cases h3:s=⟨#[42]⟩
 ·subst h3;decide
 by_cases h4:s=⟨#[61]⟩
 ·subst h4;decide
 by_cases h5:s=⟨#[60]⟩
 ·subst h5;decide
 by_cases h6:s=⟨#[38]⟩
 ·subst h6;decide
 by_cases h7:s=⟨#[124]⟩
 ·subst h7;decide
 by_cases h8:s=⟨#[33]⟩
 ·subst h8;decide
 simp only [h1,h2,h3,h4,h5,h6,h7,h8,if_false] at h
 omega
theorem aFG (q:Int) (st c:List Vl) (fr:List Frm) (d:Vl) (s:ByteArray) (vs:List Vl) (hs:0<CQ s) (hl:(vs.length:Int)=CQ s) (hn:∀ v ∈ vs,v.f=false):exM ⟨q,st++vs,c,fr⟩ d ⟨4,fi s Kp 0+1⟩=(0,⟨q,st++[.num (apV s (vs[0]!).n (if CQ s=2 then (vs[1]!).n else 0))],c,fr⟩,d):=by
 have hk:(CQ s).toNat=vs.length:=by omega
 obtain ⟨h1,h2⟩:=Ks q st vs c fr (CQ s).toNat hk
 have ha:vs.any Vl.f=false:=by
  rw [List.any_eq_false]
  intro v hv;rw [hn v hv];decide
 unfold exM
 rw [if_neg (by simp only;decide),if_neg (by simp only;decide),if_pos rfl]
 simp only
 rw [Rv hs]
 unfold opM
 rw [if_neg (by show ¬ (st++vs).length<(CQ s).toNat;rw [List.length_append];omega),h1,h2,ha,if_neg (by decide)]
 rfl
theorem aAq {t:Tm} (hk:t.kind=2∨t.kind=3) (ha:t.args=[]):Cl t:=by
 intro x u
 rw [Fb,if_neg (fun h=>by omega),ha,List.map_nil,CU]
 obtain ⟨k,nm,ot,n,ty,rs,args⟩:=t
 simp only [Tm.args] at ha
 rw [ha];rfl
theorem VR.cl {C:List Ins} {v:Tm} {w:Vl} (h:VR C v w):Cl v:=by
 cases h with
 | num hk ha _=>exact aAq hk ha
 | fn _ _ _ _ _ _ hcl _ _ _=>exact hcl
theorem Dw {e:Tm} (r:Hn) (h:e.kind≠1):(esT e r).kind=e.kind∧(esT e r).name=e.name∧(esT e r).other=e.other∧(esT e r).n=e.n∧(esT e r).args=pick (bdP e.kind e.args.length) true 0 (e.args.map fun a=>esT a (rmv r (bdN e.kind e.name e.other e.args.length))) (e.args.map fun a=>esT a r):=by
 rw [IB,if_neg h]
 exact ⟨rfl,rfl,rfl,rfl,rfl⟩
theorem VR.lit {C:List Ins} {v:Tm} {w:Vl} (h:VR C v w) (hk:v.kind=2∨v.kind=3):w = .num v.n:=by
 cases h with
 | num _ _ _=>rfl
 | @fn t0 ns r vals c rc p hk0 _ _ _ _ _ _ _ _ _ =>
  have:=(Dw (e:=t0) r (by omega)).1
  omega
theorem VR.vl {C:List Ins} {v:Tm} {w:Vl} (h:VR C v w):vlB v=true:=by
 cases h with
 | num hk _ _ =>
  unfold vlB
  rcases hk with h | h <;> rw [h] <;> rfl
 | @fn t0 ns r vals c rc p hk0 _ _ _ _ _ _ _ _ _ =>
  have:=(Dw (e:=t0) r (by omega)).1
  unfold vlB
  rw [this]
  rcases hk0 with ⟨h,_⟩ | ⟨h,_⟩ <;> rw [h] <;> rfl
theorem VT (l t:List ByteArray) {k:Nat} (h:k<l.length):(l++t)[k]! = l[k]! := by
 rw [getElem!_pos (l++t) k (by rw [List.length_append];omega),getElem!_pos l k h,List.getElem_append_left h]
theorem RS (xs:List ByteArray) (x:ByteArray):∀ k,-1≤lsN xs x k∧lsN xs x k<(k:Int)∨k=0
 | 0 => .inr rfl
 | k+1=>by
  left
  rw [lsN]
  split
  ·omega
  ·rcases RS xs x k with h | h
   ·omega
   ·subst h;rw [lsN];omega
theorem XO (xs:List ByteArray) (z x:ByteArray):∀ k,k≤xs.length→lsN (xs++[z]) x k=lsN xs x k
 | 0,_=>rfl
 | k+1,h=>by rw [lsN,lsN,XO xs z x k (by omega),VT xs [z] (by omega)]
theorem SY (xs:List ByteArray) (z x:ByteArray):lsN (xs++[z]) x (xs++[z]).length=if z=x then (xs.length:Int) else lsN xs x xs.length:=by
 rw [List.length_append,List.length_singleton,lsN,XO xs z x _ (Nat.le_refl _)]
 have:(xs++[z])[xs.length]! = z:=by
  rw [getElem!_pos (xs++[z]) xs.length (by simp)];simp
 rw [this]
theorem Pw (xs:List ByteArray) (x:ByteArray):∀ k,k≤xs.length→x ∈ xs.take k→0≤lsN xs x k
 | 0,_,h=>by simp at h
 | k+1,hk,h=>by
  rw [lsN]
  split
  ·omega
  ·rename_i hne
   rw [AH xs k (by omega)] at h
   rcases List.mem_append.1 h with h | h
   ·exact Pw xs x k (by omega) h
   ·exact absurd (List.mem_singleton.1 h).symm hne
theorem WX.push {C:List Ins} {ns:List ByteArray} {r:Hn} {c:List Vl} (h:WX C ns r c) (x:ByteArray) {v:Tm} {w:Vl} (hv:VR C v w):WX C (ns++[x]) (Hd r x v) (c++[w]):=by
 obtain ⟨vals,h1,h2⟩:=h.val
 have hl:=h.len
 refine ⟨by rw [List.length_append,List.length_append,hl];rfl,⟨fun y=>if y=x then v else vals y,fun y hy => ?_,fun y hy => ?_⟩,fun y u hy => ?_⟩
 ·rw [SY] at hy
  unfold Hd
  simp only
  by_cases e:y=x
  ·rw [if_pos e,if_pos e]
  ·rw [if_neg e,if_neg e]
   rw [if_neg (fun q=>e q.symm)] at hy
   exact h1 y hy
 ·rw [SY] at hy ⊢
  simp only
  by_cases e:y=x
  ·subst e
   rw [if_pos rfl,if_pos rfl,Int.toNat_natCast,← hl]
   have:(c++[w])[c.length]! = w:=by
    rw [getElem!_pos (c++[w]) c.length (by simp)];simp
   rw [this];exact hv
  ·rw [if_neg e]
   rw [if_neg (fun q=>e q.symm)] at hy ⊢
   have hr:=RS ns y ns.length
   have hlt:(lsN ns y ns.length).toNat<c.length:=by
    rcases hr with hr | hr
    ·omega
    ·rw [hr] at hy;simp [lsN] at hy
   rw [getElem!_pos (c++[w]) _ (by rw [List.length_append];omega),List.getElem_append_left hlt,← getElem!_pos c _ hlt]
   exact h2 y hy
 ·unfold Hd at hy
  split at hy
  ·injection hy with hy;subst hy;exact hv.cl
  ·exact h.cl y u hy
theorem ZF:∀ e:Tm,plT e=true→Bn Kb e=true:=by
 refine Tm.ind fun e ih h => ?_
 rw [Cv,Bool.and_eq_true]
 have hf:=(IR h).1
 refine ⟨?_, ?_⟩
 ·unfold Kb
  by_cases hk:e.kind=1
  ·rw [hk] at hf
   have:arF 0 1 e.name=0:=rfl
   rw [decide_eq_true (show e.args.length=0 by omega),Bool.or_true]
  ·rw [decide_eq_false hk];rfl
 ·have hp:=Ca h
  have key:∀ l:List Tm,(∀ x ∈ l,Bn Kb x=true)→BV Kb l=true:=by
   intro l
   induction l with
   | nil=>intro _;rfl
   | cons y l ih=>intro hh;rw [BV,hh y (by simp),ih fun x hx=>hh x (by simp [hx])];rfl
  exact key _ fun x hx=>ih x hx (hp x hx)
theorem Li {e:Tm} (h:plT e=true):Bn Kb e=true:=ZF e h
theorem KI (p:Int) (h:Bool):∀ (l:List Tm) (i:Int) (f g:Tm→Tm) (k:Nat),k<l.length→(pick p h i (l.map f) (l.map g))[k]! = if i+(k:Int)=p∧h=true then f l[k]! else g l[k]!
 | [],i,f,g,k,hk=>by simp at hk
 | a :: l,i,f,g,0,hk=>by
  rw [List.map_cons,List.map_cons,pick,Int.natCast_zero,Int.add_zero];rfl
 | a :: l,i,f,g,k+1,hk=>by
  rw [List.map_cons,List.map_cons,pick,List.getElem!_cons_succ,KI p h l (i+1) f g k (by simpa using hk),List.getElem!_cons_succ,show i+1+(k:Int)=i+((k+1:Nat):Int) by omega]
theorem Zc {C:List Ins} {e:Tm} {ns:List ByteArray} {r:Hn} {c:List Vl} {p q:Nat} (hv:vlB (esT e r)=true) (hp:plT e=true) (hc:Cov ns e) (hE:WX C ns r c) (hs:Lb C e ns p q) (st:List Vl) (fr:List Frm):∃ w,Rn C ⟨p,st,c,fr⟩ ⟨q,st++[w],c,fr⟩∧VR C (esT e r) w:=by
 rw [GG] at hs
 unfold sgF at hs
 obtain ⟨vals,h1,h2⟩:=hE.val
 have hf:=(IR hp).1
 have hlit:∀ op:Int,(op=1∨op=2)→(e.kind=2∨e.kind=3)→C[p]! = ⟨op,e.n⟩→q=p+1→∃ w,Rn C ⟨p,st,c,fr⟩ ⟨q,st++[w],c,fr⟩∧VR C (esT e r) w:=fun op ho hk hx hq=>by
  subst hq
  obtain ⟨g1,g2,g3,g4,g5⟩:=Dw (e:=e) r (by omega)
  have hl:e.args=[]:=by
   refine List.eq_nil_of_length_eq_zero ?_
   rcases hk with hk | hk
   ·rw [hk] at hf;have:arF 0 2 e.name=0:=rfl;omega
   ·rw [hk] at hf;have:arF 0 3 e.name=0:=rfl;omega
  refine ⟨.num e.n,Rn.one (EV hx (by simp only;omega) (aBn _ st c fr _ op e.n ho)), ?_⟩
  rw [← g4]
  refine .num (by rw [g1];exact hk) ?_ fun h3 => ?_
  ·rw [g5,hl,List.map_nil,List.map_nil,CU]
  ·rw [g1] at h3
   have:=(IR hp).2.2.1 h3
   rw [g4];omega
 split at hs
 ·rename_i hk
  exact hlit 1 (.inl rfl) (.inl hk) hs.1 hs.2
 split at hs
 ·rename_i hk
  exact hlit 2 (.inr rfl) (.inr hk) hs.1 hs.2
 split at hs
 ·rename_i _ _ hk
  obtain ⟨hx,rfl⟩:=hs
  have hm:e.name ∈ ns:=hc e.name (by rw [CW,frF,if_pos hk];simp)
  have h0:=Pw ns e.name ns.length (Nat.le_refl _) (by rw [List.take_length];exact hm)
  have hr:=RS ns e.name ns.length
  have hlt:lsN ns e.name ns.length<(ns.length:Int):=by
   rcases hr with hr | hr
   ·omega
   ·rw [hr] at h0;simp [lsN] at h0
  have hl:=hE.len
  have hpn:(plN ns e.name).toNat<c.length:=by unfold plN;omega
  have hidx:c.length-1-(plN ns e.name).toNat=(lsN ns e.name ns.length).toNat:=by unfold plN;omega
  have he:esT e r=vals e.name:=by rw [IB,if_pos hk,h1 _ h0];rfl
  refine ⟨c[(lsN ns e.name ns.length).toNat]!, ?_, ?_⟩
  ·have:=aBk ((p:Int)+1) st c fr (.num 0) (plN ns e.name) hpn
   rw [hidx] at this
   exact Rn.one (EV hx (show (3:Int)≠0 by decide) this)
  ·rw [he];exact h2 _ h0
 rename_i k2 k3 k1
 obtain ⟨g1,_,_,_,_⟩:=Dw (e:=e) r k1
 have hcl:Cl (esT e r):=fun x u=>aFY x u e (Li hp) r hE.cl fun y hy hn=>by
  have h0:=Pw ns y ns.length (Nat.le_refl _) (by rw [List.take_length];exact hc y hy)
  rw [h1 y h0] at hn;cases hn
 have hkv:=Ja hv
 rw [g1] at hkv
 split at hs
 ·omega
 split at hs
 ·omega
 split at hs
 ·rename_i _ _ k6
  obtain ⟨ho,rfl,ha,hb⟩:=hs
  have hx:C[p]! = ⟨7,(C[p]!).a⟩:=by
   generalize C[p]! = x at *
   obtain ⟨op,a⟩:=x
   simp only at ho;rw [ho]
  generalize (C[p]!).a=a at *
  have hlen:0<e.args.length:=by have:=(BO hp).2.2.1 k6;omega
  refine ⟨.fn false a c,Rn.one (EV hx (show (7:Int)≠0 by decide) (by have:=Sj ((p:Int)+1) st c fr (.num 0) 7 a (.inl rfl);exact this)), ?_⟩
  refine .fn (.inl ⟨k6,rfl⟩) hp hE.len h1 h2 hc hcl hE.cl ha ?_
  rw [getElem!_pos (e.args.map (Lb C)) 0 (by rw [List.length_map];exact hlen),List.getElem_map,← getElem!_pos e.args 0 hlen] at hb
  exact hb
 split at hs
 ·rename_i _ _ _ k9
  obtain ⟨ho,rfl,ha,hb⟩:=hs
  have hx:C[p]! = ⟨8,(C[p]!).a⟩:=by
   generalize C[p]! = x at *
   obtain ⟨op,a⟩:=x
   simp only at ho;rw [ho]
  generalize (C[p]!).a=a at *
  have hlen:0<e.args.length:=by have:=(BO hp).2.2.2.2.2 k9;omega
  refine ⟨.fn true a c,Rn.one (EV hx (show (8:Int)≠0 by decide) (by have:=Sj ((p:Int)+1) st c fr (.num 0) 8 a (.inr rfl);exact this)), ?_⟩
  refine .fn (.inr ⟨k9,rfl⟩) hp hE.len h1 h2 hc hcl hE.cl ha ?_
  rw [getElem!_pos (e.args.map (Lb C)) 0 (by rw [List.length_map];exact hlen),List.getElem_map,← getElem!_pos e.args 0 hlen] at hb
  exact hb
 ·omega
theorem ZH {C:List Ins} {e:Tm} {ns:List ByteArray} {r:Hn} {c:List Vl} (hk:e.kind=1) (hc:Cov ns e) (hE:WX C ns r c):vlB (esT e r)=true:=by
 obtain ⟨vals,h1,h2⟩:=hE.val
 have hm:e.name ∈ ns:=hc e.name (by rw [CW,frF,if_pos hk];simp)
 have h0:=Pw ns e.name ns.length (Nat.le_refl _) (by rw [List.take_length];exact hm)
 rw [IB,if_pos hk,h1 _ h0]
 exact (h2 _ h0).vl
theorem JW {C:List Ins} {e:Tm} {ns:List ByteArray} {r:Hn} {c:List Vl} (hc:Cov ns e) (hE:WX C ns r c) (h:(esT e r).kind=4∨(esT e r).kind=5∨(esT e r).kind=7∨(esT e r).kind=8):e.kind≠1:=fun hk=>by
 have:=Ja (ZH hk hc hE)
 omega
theorem Yg (r:Hn):rmv r []=r:=by funext y;rfl
theorem JO {e:Tm} (r:Hn) (h:e.kind=4∨e.kind=5∨e.kind=7):(esT e r).args=e.args.map fun a=>esT a r:=by
 obtain ⟨_,_,_,_,g5⟩:=Dw (e:=e) r (by omega)
 have hN:bdN e.kind e.name e.other e.args.length=[]:=by unfold bdN;rw [if_neg (by omega),if_neg (by omega),if_neg (by omega)]
 rw [g5,hN,Yg,IF]
theorem CA {α:Type} [Inhabited α] (f:Tm→α) (l:List Tm) (k:Nat) (h:k<l.length):(l.map f)[k]! = f l[k]! := by
 rw [getElem!_pos (l.map f) k (by rw [List.length_map];exact h),List.getElem_map,← getElem!_pos l k h]
theorem OS {C:List Ins} {ns:List ByteArray} {c:List Vl} {fr:List Frm}:∀ (l vs:List Tm),vs.length=l.length→(∀ k,k<l.length→∀ p q:Nat,Lb C l[k]! ns p q→∀ st,∃ w,Rn C ⟨p,st,c,fr⟩ ⟨q,st++[w],c,fr⟩∧VR C vs[k]! w)→∀ p q:Nat,sgs (l.map (Lb C)) ns p q→∀ st,∃ ws:List Vl,ws.length=l.length∧Rn C ⟨p,st,c,fr⟩ ⟨q,st++ws,c,fr⟩∧∀ k,k<l.length→VR C vs[k]! ws[k]!
 | [],vs,hl,_,p,q,hs,st=>by
  rw [List.map_nil,sgs] at hs
  have hs:q=p:=hs
  subst hs
  exact ⟨[],rfl,by rw [List.append_nil];exact .done _,fun k hk=>by simp at hk⟩
 | a :: l,[],hl,_,_,_,_,_=>by simp at hl
 | a :: l,v :: vs,hl,hh,p,q,hs,st=>by
  rw [List.map_cons] at hs
  obtain ⟨m,h1,h2⟩:∃ m,Lb C a ns p m∧sgs (l.map (Lb C)) ns m q:=hs
  obtain ⟨w,r1,v1⟩:=hh 0 (by simp) p m h1 st
  obtain ⟨ws,e1,r2,v2⟩:=OS l vs (by simpa using hl) (fun k hk=>hh (k+1) (by simpa using hk)) m q h2 (st++[w])
  refine ⟨w :: ws,by simp [e1], ?_,fun k hk => ?_⟩
  ·have:st++(w :: ws)=st++[w]++ws:=by simp
   rw [this];exact r1.trans r2
  ·cases k with
   | zero=>exact v1
   | succ k=>exact v2 k (by simpa using hk)
theorem aDz (s:ByteArray) (a b:Int):(opv s a b).n=apV s a b∧(opv s a b).args=[]∧((opv s a b).kind=2∨(opv s a b).kind=3):=by
 unfold opv
 split
 ·exact ⟨rfl,rfl,.inl rfl⟩
 ·exact ⟨rfl,rfl,.inr rfl⟩
theorem aG7 (s:ByteArray) (a b:Int) (hs:0<CQ s) (h:(opv s a b).kind=3):(opv s a b).n=0∨(opv s a b).n=1:=by
 rw [(aDz s a b).1]
 unfold opv at h
 split at h
 ·exact absurd h (by show ¬ (2:Int)=3;decide)
 rename_i hn
 have hb:∀ b:Bool,bI b=0∨bI b=1:=fun b=>by cases b <;> decide
 unfold apV
 split
 ·unfold apW
  rw [if_neg (fun e=>hn (.inl e)),if_neg (fun e=>hn (.inr (.inl e))),if_neg (fun e=>hn (.inr (.inr e)))]
  split
  ·exact hb _
  split
  ·exact hb _
  split
  ·exact hb _
  split
  ·exact hb _
  split
  ·exact hb _
  ·exact .inl rfl
 ·exact .inl rfl
def Sim (C:List Ins) (t v:Tm):Prop:=∀ (e:Tm) (ns:List ByteArray) (r:Hn) (c:List Vl) (p q:Nat),t=esT e r→plT e=true→Cov ns e→WX C ns r c→Lb C e ns p q→∀ (st:List Vl) (fr:List Frm),∃ w,Rn C ⟨p,st,c,fr⟩ ⟨q,st++[w],c,fr⟩∧VR C v w
theorem VR.bo {C:List Ins} {v:Tm} {w:Vl} (h:VR C v w) (hk:v.kind=3):v.n=0∨v.n=1:=by
 cases h with
 | num _ _ hb=>exact hb hk
 | @fn t0 ns r vals c rc p hk0 _ _ _ _ _ _ _ _ _ =>
  have:=(Dw (e:=t0) r (by omega)).1
  omega
theorem aBm {C:List Ins} {t:Tm} {vs:List Tm} (hk:t.kind=4) (hl:vs.length=t.args.length) (he:∀ k,k<t.args.length→Sim C t.args[k]! vs[k]!) (hv:∀ k,k<t.args.length→(vs[k]!).kind=KN t.name):Sim C t (opv t.name (vs[0]!).n (if t.args.length=2 then (vs[1]!).n else 0)):=by
 intro e ns r c p q ht hp hc hE hs st fr
 subst ht
 have hne:=JW hc hE (.inl hk)
 obtain ⟨g1,g2,_,_,_⟩:=Dw (e:=e) r hne
 rw [g1] at hk
 have hA:=JO r (.inl hk)
 have hf:=IR hp
 have hop:=hf.2.2.2 hk
 have hlen:(e.args.length:Int)=CQ e.name:=by have:=hf.1;rw [hk] at this;exact this
 rw [GG] at hs
 unfold sgF at hs
 rw [if_neg (by omega),if_neg (by omega),if_neg (by omega),if_pos hk] at hs
 obtain ⟨m,h1,h2,rfl⟩:=hs
 rw [hA,List.length_map] at hl he hv
 have hpa:=Ca hp
 obtain ⟨ws,w1,w2,w3⟩:=OS (C:=C) (ns:=ns) (c:=c) (fr:=fr) e.args vs hl (fun k hk2 p q hs st=>by
  have:=he k hk2 e.args[k]! ns r c p q (by rw [CA _ _ _ hk2]) (hpa _ (Ab hk2)) (hc.part hne hk2 (by unfold bdP;rw [if_neg (by omega),if_neg (by omega),if_neg (by omega)];omega)) hE hs st fr
  exact this) p m h1 st
 have hn:∀ k,k<e.args.length→ws[k]! = .num (vs[k]!).n:=fun k hk2=>by
  refine (w3 k hk2).lit ?_
  have:=hv k hk2
  rw [this]
  unfold KN
  split
  ·exact .inr rfl
  ·exact .inl rfl
 have hr:=Pi e.name
 obtain ⟨o1,o2,o3⟩:=aDz e.name (vs[0]!).n (if e.args.length=2 then (vs[1]!).n else 0)
 have hval:apV e.name (ws[0]!).n (if CQ e.name=2 then (ws[1]!).n else 0)=apV e.name (vs[0]!).n (if e.args.length=2 then (vs[1]!).n else 0):=by
  rw [hn 0 (by omega),QQ]
  by_cases h2:e.args.length=2
  ·rw [if_pos (by omega),if_pos h2,hn 1 (by omega),QQ]
  ·rw [if_neg (by omega),if_neg h2]
 refine ⟨.num (apV e.name (vs[0]!).n (if e.args.length=2 then (vs[1]!).n else 0)),w2.trans (Rn.one (EV h2 (show (4:Int)≠0 by decide) ?_)), ?_⟩
 ·have:=aFG ((m:Int)+1) st c fr (.num 0) e.name ws hop (by omega) (fun w hw=>by
   obtain ⟨j,hj,rfl⟩:=List.mem_iff_getElem.mp hw
   have:=hn j (by omega)
   rw [getElem!_pos ws j hj] at this
   rw [this];rfl)
  rw [hval] at this
  exact this
 ·rw [hA,List.length_map,g2,← o1]
  exact .num o3 o2 (aG7 e.name _ _ hop)
theorem aCo {C:List Ins} {t cv v:Tm} (hk:t.kind=5) (hc0:Sim C t.args[0]! cv) (h3:cv.kind=3) (hb:∀ k,k<3→k=(2-cv.n).toNat→Sim C t.args[k]! v):Sim C t v:=by
 intro e ns r c p q ht hp hc hE hs st fr
 subst ht
 have hne:=JW hc hE (.inr (.inl hk))
 obtain ⟨g1,_,_,_,_⟩:=Dw (e:=e) r hne
 rw [g1] at hk
 have hA:=JO r (.inr (.inl hk))
 have hlen:=(BO hp).2.1 hk
 rw [GG] at hs
 unfold sgF at hs
 rw [if_neg (by omega),if_neg (by omega),if_neg (by omega),if_neg (by omega),if_pos hk] at hs
 obtain ⟨r1,r2,s0,x1,s1,x2,s2⟩:=hs
 rw [CA _ _ _ (by omega)] at s0 s1 s2
 have hpa:=Ca hp
 have hcv:∀ k,k<e.args.length→Cov ns e.args[k]! := fun k hk2=>hc.part hne hk2 (by unfold bdP;rw [if_neg (by omega),if_neg (by omega),if_neg (by omega)];omega)
 have hat:∀ k,k<e.args.length→(esT e r).args[k]! = esT e.args[k]! r:=fun k hk2=>by rw [hA,CA _ _ _ hk2]
 obtain ⟨w0,q0,v0⟩:=hc0 e.args[0]! ns r c p r1 (hat 0 (by omega)) (hpa _ (Ab (by omega))) (hcv 0 (by omega)) hE s0 st fr
 have hw:w0 = .num cv.n:=v0.lit (.inr h3)
 have hn:cv.n=0∨cv.n=1:=v0.bo h3
 subst hw
 have u:=Tp ((r1:Int)+1) st c fr (.num 0) ((r2+1:Nat):Int) cv.n
 have t1:=q0.trans (Rn.one (EV x1 (show (6:Int)≠0 by decide) u))
 rcases hn with hn | hn
 ·rw [if_pos hn] at t1
  obtain ⟨w,q2,v2⟩:=hb 2 (by omega) (by rw [hn];rfl) e.args[2]! ns r c (r2+1) q (hat 2 (by omega)) (hpa _ (Ab (by omega))) (hcv 2 (by omega)) hE s2 st fr
  exact ⟨w,t1.trans q2,v2⟩
 ·rw [if_neg (by omega)] at t1
  obtain ⟨w,q1,v1⟩:=hb 1 (by omega) (by rw [hn];rfl) e.args[1]! ns r c (r1+1) r2 (hat 1 (by omega)) (hpa _ (Ab (by omega))) (hcv 1 (by omega)) hE s1 st fr
  have j:=aAE ((r2:Int)+1) (st++[w]) c fr (.num 0) (q:Int)
  exact ⟨w,(t1.trans q1).trans (Rn.one (EV x2 (show (5:Int)≠0 by decide) j)),v1⟩
theorem Sq (r:Hn) (x:ByteArray) (v:Tm):Hd (rmv r [x]) x v=Hd r x v:=by
 funext y
 unfold Hd rmv
 by_cases h:y=x
 ·rw [if_pos h,if_pos h]
 ·rw [if_neg h,if_neg h,if_neg (by rw [Dz];simp [h])]
theorem NJ {r:Hn} (N:List ByteArray) (h:∀ y w,r y=some w→Cl w):∀ y w,rmv r N y=some w→Cl w:=fun y w hy=>by
 unfold rmv at hy
 split at hy
 ·cases hy
 ·exact h y w hy
theorem ZD {C:List Ins} {t a v:Tm} (hk:t.kind=8) (ha:Sim C t.args[0]! a) (hb:Sim C (sbT t.args[1]! t.name a) v):Sim C t v:=by
 intro e ns r c p q ht hp hc hE hs st fr
 subst ht
 have hne:=JW hc hE (.inr (.inr (.inr hk)))
 obtain ⟨g1,g2,_,_,g5⟩:=Dw (e:=e) r hne
 rw [g1] at hk
 have hlen:=(BO hp).2.2.2.2.1 hk
 have hN:bdN e.kind e.name e.other e.args.length=[e.name]:=by unfold bdN;rw [if_neg (by omega),if_pos ⟨hk,hlen⟩]
 have hP:bdP e.kind e.args.length=1:=by unfold bdP;rw [if_neg (by omega),if_pos ⟨hk,hlen⟩]
 have a0:(esT e r).args[0]! = esT e.args[0]! r:=by rw [g5,hP,KI _ _ _ _ _ _ _ (by omega),if_neg (by omega)]
 have a1:(esT e r).args[1]! = esT e.args[1]! (rmv r [e.name]):=by rw [g5,hP,hN,KI _ _ _ _ _ _ _ (by omega),if_pos ⟨by omega,rfl⟩]
 rw [GG] at hs
 unfold sgF at hs
 rw [if_neg (by omega),if_neg (by omega),if_neg (by omega),if_neg (by omega),if_neg (by omega),if_neg (by omega),if_neg (by omega),if_neg (by omega),if_pos hk] at hs
 obtain ⟨r1,r2,s0,x1,s1,x2,rfl⟩:=hs
 rw [CA _ _ _ (by omega)] at s0 s1
 have hpa:=Ca hp
 obtain ⟨w0,q0,v0⟩:=ha e.args[0]! ns r c p r1 a0 (hpa _ (Ab (by omega))) (hc.part hne (by omega) (by rw [hP];omega)) hE s0 st fr
 have t1:=q0.trans (Rn.one (EV x1 (show (11:Int)≠0 by decide) (Zr ((r1:Int)+1) st c fr (.num 0) w0)))
 have hE1:=hE.push e.name v0
 have hcov:Cov (ns++[e.name]) e.args[1]! := by
  have:=hc.bind hne (i:=1) (by omega)
  rw [hN] at this;exact this
 have heq:sbT (esT e r).args[1]! (esT e r).name a=esT e.args[1]! (Hd r e.name a):=by
  rw [a1,g2,Wq a e.name e.args[1]! (Li (hpa _ (Ab (by omega)))) (rmv r [e.name]) (by unfold rmv;rw [if_pos (Dz.2 (by simp))]) (NJ _ hE.cl),Sq]
 obtain ⟨w,q1,v1⟩:=hb e.args[1]! (ns++[e.name]) (Hd r e.name a) (c++[w0]) (r1+1) r2 heq (hpa _ (Ab (by omega))) hcov hE1 s1 st fr
 exact ⟨w,(t1.trans q1).trans (Rn.one (EV x2 (show (12:Int)≠0 by decide) (Te ((r2:Int)+1) (st++[w]) c fr (.num 0) w0))),v1⟩
theorem Mj {C:List Ins} {r2:Nat} {st c:List Vl} {fr:List Frm} {rc:Bool} {pl:Int} {cx:List Vl} {w:Vl} {q':Nat} {w3:Vl} (h0:0≤pl) (x2:C[r2]! = ⟨9,0⟩) (hx:C[q']! = ⟨10,0⟩)
  (hb:Rn C ⟨pl.toNat,[],(if rc=true then cx++[.fn rc pl cx] else cx)++[w],fr++[⟨(r2:Int)+1,st,c⟩]⟩ ⟨q',[]++[w3],(if rc=true then cx++[.fn rc pl cx] else cx)++[w],fr++[⟨(r2:Int)+1,st,c⟩]⟩):Rn C ⟨r2,st++[.fn rc pl cx,w],c,fr⟩ ⟨((r2+1:Nat):Int),st++[w3],c,fr⟩:=by
 have s1:=EV (st:=st++[.fn rc pl cx,w]) (c:=c) (fr:=fr) x2 (show (9:Int)≠0 by decide) (ZJ ((r2:Int)+1) st c fr (.num 0) rc pl cx w)
 have e:(pl.toNat:Int)=pl:=by omega
 rw [e] at hb
 have s2:=EV (st:=[w3]) (c:=(if rc=true then cx++[.fn rc pl cx] else cx)++[w]) (fr:=fr++[⟨(r2:Int)+1,st,c⟩]) hx (show (10:Int)≠0 by decide) (aCf ((q':Int)+1) w3 _ fr ⟨(r2:Int)+1,st,c⟩ (.num 0))
 exact (Rn.one s1).trans (hb.trans (Rn.one s2))
theorem Rl {e:Tm} (h:plT e=true) (hk:e.kind=9):e.name≠e.other:=by
 unfold plT at h
 rw [Bool.and_eq_true,Cv,Bool.and_eq_true] at h
 have h1:=h.1.1
 rw [Gy] at h1
 simp only [Bool.and_eq_true,decide_eq_true_eq] at h1
 have h2:=h1.2.1
 unfold WP at h2
 simp only [hk,Int.reduceEq,if_false,if_true,Bool.and_eq_true,Bool.not_eq_true',decide_eq_false_iff_not] at h2
 exact h2.2.2.1
theorem TN {C:List Ins} {t f a v:Tm} (hk:t.kind=7) (hf:Sim C t.args[0]! f) (ha:Sim C t.args[1]! a) (h69:(f.kind=6∧Sim C (sbT f.args[0]! f.name a) v)∨(f.kind=9∧Sim C (sbT (sbT f.args[0]! f.name f) f.other a) v)):Sim C t v:=by
 intro e ns r c p q ht hp hc hE hs st fr
 subst ht
 have hne:=JW hc hE (.inr (.inr (.inl hk)))
 obtain ⟨g1,_,_,_,_⟩:=Dw (e:=e) r hne
 rw [g1] at hk
 have hA:=JO r (.inr (.inr hk))
 have hlen:=(BO hp).2.2.2.1 hk
 rw [GG] at hs
 unfold sgF at hs
 rw [if_neg (by omega),if_neg (by omega),if_neg (by omega),if_neg (by omega),if_neg (by omega),if_neg (by omega),if_neg (by omega),if_pos hk] at hs
 obtain ⟨r1,r2,s0,s1,x2,rfl⟩:=hs
 rw [CA _ _ _ (by omega)] at s0 s1
 have hpa:=Ca hp
 have hcv:∀ k,k<e.args.length→Cov ns e.args[k]! := fun k hk2=>hc.part hne hk2 (by unfold bdP;rw [if_neg (by omega),if_neg (by omega),if_neg (by omega)];omega)
 have hat:∀ k,k<e.args.length→(esT e r).args[k]! = esT e.args[k]! r:=fun k hk2=>by rw [hA,CA _ _ _ hk2]
 obtain ⟨w0,q0,v0⟩:=hf e.args[0]! ns r c p r1 (hat 0 (by omega)) (hpa _ (Ab (by omega))) (hcv 0 (by omega)) hE s0 st fr
 obtain ⟨w1,q1,v1⟩:=ha e.args[1]! ns r c r1 r2 (hat 1 (by omega)) (hpa _ (Ab (by omega))) (hcv 1 (by omega)) hE s1 (st++[w0]) fr
 have t1:Rn C ⟨p,st,c,fr⟩ ⟨r2,st++[w0,w1],c,fr⟩:=by
  have:=q0.trans q1
  rwa [List.append_assoc] at this
 have v0':=v0
 cases v0 with
 | num hk2 _ _=>rcases h69 with ⟨h,_⟩ | ⟨h,_⟩ <;> omega
 | @fn t0 ns0 r0 vals0 c0 rc p0 hk0 hp0 hc0 hv0 hr0 hcov0 hcl0 hrc0 h00 hs0 =>
  have hne0:t0.kind≠1:=by omega
  obtain ⟨k1,k2,k3,_,k5⟩:=Dw (e:=t0) r0 hne0
  have hE0:WX C ns0 r0 c0:=⟨hc0,⟨vals0,hv0,hr0⟩,hrc0⟩
  obtain ⟨q',sb,xr⟩:=hs0
  have hl0:t0.args.length=1:=by
   rcases hk0 with ⟨h,_⟩ | ⟨h,_⟩
   ·exact (BO hp0).2.2.1 h
   ·exact (BO hp0).2.2.2.2.2 h
  have hpb:plT t0.args[0]! = true:=Ca hp0 _ (Ab (by omega))
  have hcb:=hcov0.bind hne0 (i:=0) (by omega)
  have hb0:(esT t0 r0).args[0]! = esT t0.args[0]! (rmv r0 (bdN t0.kind t0.name t0.other t0.args.length)):=by
   have hP:bdP t0.kind t0.args.length=0:=by
    unfold bdP
    rcases hk0 with ⟨h,_⟩ | ⟨h,_⟩
    ·rw [if_pos ⟨h,hl0⟩]
    ·rw [if_neg (by omega),if_neg (by omega),if_pos ⟨h,hl0⟩]
   rw [k5,hP,KI _ _ _ _ _ _ _ (by omega),if_pos ⟨by omega,rfl⟩]
  rw [k1] at h69
  rcases hk0 with ⟨h6,rfl⟩ | ⟨h9,rfl⟩
  ·have hN:bdN t0.kind t0.name t0.other t0.args.length=[t0.name]:=by unfold bdN;rw [if_pos ⟨h6,hl0⟩]
   have hS:=(h69.resolve_right (fun h=>by omega)).2
   rw [hN] at hb0 hcb
   rw [hb0,k2,Wq a t0.name t0.args[0]! (Li hpb) (rmv r0 [t0.name]) (by unfold rmv;rw [if_pos (Dz.2 (by simp))]) (NJ _ hrc0),Sq] at hS
   obtain ⟨w3,q3,v3⟩:=hS t0.args[0]! (ns0++[t0.name]) (Hd r0 t0.name a) (c0++[w1]) p0.toNat q' rfl hpb hcb (hE0.push t0.name v1) sb [] (fr++[⟨(r2:Int)+1,st,c⟩])
   exact ⟨w3,t1.trans (Mj (rc:=false) h00 x2 xr q3),v3⟩
  ·have hN:bdN t0.kind t0.name t0.other t0.args.length=[t0.name,t0.other]:=by unfold bdN;rw [if_neg (by omega),if_neg (by omega),if_pos ⟨h9,hl0⟩]
   have hS:=(h69.resolve_left (fun h=>by omega)).2
   rw [hN] at hb0 hcb
   have hno:=Rl hp0 h9
   have hcl1:∀ y w,Hd (rmv r0 [t0.name,t0.other]) t0.name (esT t0 r0) y=some w→Cl w:=fun y w hy=>by
    unfold Hd at hy
    split at hy
    ·injection hy with hy;subst hy;exact hcl0
    ·exact NJ _ hrc0 y w hy
   have hfun:Hd (Hd (rmv r0 [t0.name,t0.other]) t0.name (esT t0 r0)) t0.other a=Hd (Hd r0 t0.name (esT t0 r0)) t0.other a:=by
    funext y
    unfold Hd rmv
    by_cases e1:y=t0.other
    ·rw [if_pos e1,if_pos e1]
    ·rw [if_neg e1,if_neg e1]
     by_cases e2:y=t0.name
     ·rw [if_pos e2,if_pos e2]
     ·rw [if_neg e2,if_neg e2,if_neg (by rw [Dz];simp [e1,e2])]
   rw [hb0,k2,k3,Wq (esT t0 r0) t0.name t0.args[0]! (Li hpb) (rmv r0 [t0.name,t0.other]) (by unfold rmv;rw [if_pos (Dz.2 (by simp))]) (NJ _ hrc0),Wq a t0.other t0.args[0]! (Li hpb) _ (by
    unfold Hd rmv
    rw [if_neg (fun h=>hno h.symm),if_pos (Dz.2 (by simp))]) hcl1,hfun] at hS
   have hE2:=(hE0.push t0.name v0').push t0.other v1
   have happ:ns0++[t0.name,t0.other]=ns0++[t0.name]++[t0.other]:=by simp
   rw [if_pos rfl,happ] at sb
   rw [happ] at hcb
   obtain ⟨w3,q3,v3⟩:=hS t0.args[0]! (ns0++[t0.name]++[t0.other]) _ (c0++[.fn true p0 c0]++[w1]) p0.toNat q' rfl hpb hcb hE2 sb [] (fr++[⟨(r2:Int)+1,st,c⟩])
   exact ⟨w3,t1.trans (Mj (rc:=true) h00 x2 xr q3),v3⟩
theorem sim {C:List Ins} {t v:Tm} (h:Ev t v):Sim C t v:=by
 induction h with
 | @val t h =>
  intro e ns r c p q ht hp hc hE hs st fr
  subst ht
  exact Zc h hp hc hE hs st fr
 | op hk hl he hv ih=>exact aBm hk hl ih hv
 | ite hk hc h3 hv ih1 ih2=>exact aCo hk ih1 h3 fun k _ e=>e ▸ ih2
 | lt hk ha hv ih1 ih2=>exact ZD hk ih1 ih2
 | app hk hf ha h6 hv ih1 ih2 ih3=>exact TN hk ih1 ih2 (.inl ⟨h6,ih3⟩)
 | rcs hk hf ha h9 hv ih1 ih2 ih3=>exact TN hk ih1 ih2 (.inr ⟨h9,ih3⟩)
theorem Yp {C:List Ins} {e v:Tm} {q:Nat} (hm:Ms e v) (hv:vlB v=true) (hp:plT e=true) (hc:AE e=[]) (hs:Lb C e [] 0 q) (hq:C[q]! = ⟨10,0⟩):∃ w,Rn C ⟨0,[],[],[]⟩ ⟨q,[w],[],[]⟩∧VR C v w:=by
 have hE:WX C [] (fun _=>none) []:=⟨rfl,⟨fun _=>v,fun x h=>by simp [lsN] at h,fun x h=>by simp [lsN] at h⟩,fun y w h=>by cases h⟩
 obtain ⟨w,h1,h2⟩:=sim (C:=C) (aH9 hm hv) e [] (fun _=>none) [] 0 q (Yh e _ fun _=>rfl).symm hp (fun y hy=>by rw [hc] at hy;cases hy) hE hs [] []
 exact ⟨w,h1,h2⟩
structure Ap (s s':CS):Prop where
 len:s.code.length≤s'.code.length
 old:∀ k,k<s.code.length→s'.code[k]! = s.code[k]!
 q:∃ u:List Wt,s'.q=s.q++u∧(∀ x ∈ u,(s.code.length:Int)≤x.pl∧x.pl<(s'.code.length:Int))∧u.Pairwise (fun x y=>x.pl<y.pl)
theorem Ap.refl (s:CS):Ap s s:=⟨Nat.le_refl _,fun _ _=>rfl,⟨[],by simp,fun x hx=>(by cases hx),List.Pairwise.nil⟩⟩
theorem Ap.trans {a b c:CS} (h:Ap a b) (k:Ap b c):Ap a c:=by
 obtain ⟨u,u1,u2,u3⟩:=h.q
 obtain ⟨v,v1,v2,v3⟩:=k.q
 have l1:=h.len
 have l2:=k.len
 refine ⟨by omega,fun j hj=>by rw [k.old j (by omega),h.old j hj],⟨u++v,by rw [v1,u1,List.append_assoc],fun x hx => ?_, ?_⟩⟩
 ·rcases List.mem_append.1 hx with hx | hx
  ·have:=u2 x hx;omega
  ·have:=v2 x hx;omega
 ·rw [List.pairwise_append]
  refine ⟨u3,v3,fun x hx y hy => ?_⟩
  have h1:=u2 x hx
  have h2:=v2 y hy
  omega
theorem Kl {α:Type} [Inhabited α] (l t:List α) {k:Nat} (h:k<l.length):(l++t)[k]! = l[k]! := by
 rw [getElem!_pos (l++t) k (by rw [List.length_append];omega),getElem!_pos l k h,List.getElem_append_left h]
theorem Co (s:CS) (op a:Int):Ap s (Be s op a) :=
 ⟨by unfold Be;simp,fun k hk=>by
  unfold Be
  simp only
  exact Kl s.code [⟨op,a⟩] hk,⟨[],by unfold Be;simp,fun x hx=>(by cases hx),List.Pairwise.nil⟩⟩
theorem Pn {s s':CS} (h:Ap s s') (k:Nat) (a:Int) (hk:s.code.length≤k):Ap s (Db s' k a):=by
 have hl:(Db s' k a).code.length=s'.code.length:=by unfold Db;simp
 refine ⟨by rw [hl];exact h.len,fun j hj => ?_, ?_⟩
 ·rw [← h.old j hj]
  have:=h.len
  unfold Db
  simp only
  rw [getElem!_pos (s'.code.set k _) j (by rw [List.length_set];omega),getElem!_pos s'.code j (by omega),List.getElem_set_ne (by omega)]
 ·obtain ⟨u,u1,u2,u3⟩:=h.q
  exact ⟨u,u1,fun x hx=>by rw [hl];exact u2 x hx,u3⟩
theorem Tu (s:CS) (op:Int) (nms:List ByteArray) (b:Tm):Ap s (SO (Be s op 0) ⟨s.code.length,nms,b⟩):=by
 have h:=Co s op 0
 have hl:(Be s op 0).code.length=s.code.length+1:=by unfold Be;simp
 refine ⟨h.len,h.old,⟨[⟨s.code.length,nms,b⟩],rfl,fun x hx => ?_,List.pairwise_singleton _ _⟩⟩
 rw [List.mem_singleton.1 hx]
 show (s.code.length:Int)≤(s.code.length:Int)∧(s.code.length:Int)<((Be s op 0).code.length:Int)
 omega
theorem OV:∀ (fs:List CF) (ns:List ByteArray),(∀ f ∈ fs,∀ s,Ap s (f ns s))→∀ s,Ap s (Ep fs ns s)
 | [],ns,_,s=>Ap.refl s
 | f :: fs,ns,h,s=>by
  have h1:=h f (by simp) s
  have h2:=OV fs ns (fun g hg=>h g (by simp [hg])) (f ns s)
  exact h1.trans h2
theorem MC:∀ e:Tm,plT e=true→∀ ns s,Ap s (cpT e ns s):=by
 refine Tm.ind fun e ih hp ns s => ?_
 have hpa:=Ca hp
 obtain ⟨hK,l5,l6,l7,l8,l9⟩:=BO hp
 have hat:∀ k,k<e.args.length→(e.args.map cpT)[k]! = cpT e.args[k]! := fun k hk=>by
  rw [getElem!_pos (e.args.map cpT) k (by rw [List.length_map];exact hk),List.getElem_map,← getElem!_pos e.args k hk]
 have hi:∀ k,k<e.args.length→∀ ns s,Ap s (cpT e.args[k]! ns s):=fun k hk=>ih _ (Ab hk) (hpa _ (Ab hk))
 rw [DU]
 unfold cpF
 split
 ·exact Co _ _ _
 split
 ·exact Co _ _ _
 split
 ·exact Co _ _ _
 split
 ·refine (OV _ ns (fun f hf s => ?_) s).trans (Co _ _ _)
  obtain ⟨a,ha,rfl⟩:=List.mem_map.1 hf
  exact ih a ha (hpa a ha) ns s
 split
 ·rename_i h5
  have hl:=l5 h5
  unfold ifF
  rw [hat 0 (by omega),hat 1 (by omega),hat 2 (by omega)]
  simp only
  have A0:=hi 0 (by omega) ns s
  have A1:=(A0.trans (Co _ 6 0)).trans (hi 1 (by omega) ns (Be (cpT e.args[0]! ns s) 6 0))
  have A2:=A1.trans (Co _ 5 0)
  have A3:=Pn A2 (cpT e.args[0]! ns s).code.length (Be (cpT e.args[1]! ns (Be (cpT e.args[0]! ns s) 6 0)) 5 0).code.length A0.len
  exact Pn (A3.trans (hi 2 (by omega) ns _)) _ _ A1.len
 split
 ·exact Tu _ _ _ _
 split
 ·exact Tu _ _ _ _
 split
 ·rename_i h7
  have hl:=l7 h7
  rw [hat 0 (by omega),hat 1 (by omega)]
  exact ((hi 0 (by omega) ns s).trans (hi 1 (by omega) ns _)).trans (Co _ _ _)
 split
 ·rename_i h8
  have hl:=l8 h8
  rw [hat 0 (by omega),hat 1 (by omega)]
  exact (((hi 0 (by omega) ns s).trans (Co _ _ _)).trans (hi 1 (by omega) _ _)).trans (Co _ _ _)
 ·exact Ap.refl s
def sqF (C:List Ins) (Q:List Wt) (k:Int) (nm ot:ByteArray) (n:Int) (args:List Tm) (fs:List SG):SG:=fun ns p q =>
 if k=2 then C[p]! = ⟨1,n⟩∧q=p+1
 else if k=3 then C[p]! = ⟨2,n⟩∧q=p+1
 else if k=1 then C[p]! = ⟨3,plN ns nm⟩∧q=p+1
 else if k=4 then ∃ r,sgs fs ns p r∧C[r]! = ⟨4,fi nm Kp 0+1⟩∧q=r+1
 else if k=5 then ∃ r1 r2,(fs[0]!) ns p r1∧C[r1]! = ⟨6,((r2+1:Nat):Int)⟩∧(fs[1]!) ns (r1+1) r2∧C[r2]! = ⟨5,(q:Int)⟩∧(fs[2]!) ns (r2+1) q
 else if k=6 then (C[p]!).op=7∧q=p+1∧(⟨(p:Int),ns++[nm],args[0]!⟩:Wt) ∈ Q
 else if k=9 then (C[p]!).op=8∧q=p+1∧(⟨(p:Int),ns++[nm,ot],args[0]!⟩:Wt) ∈ Q
 else if k=7 then ∃ r1 r2,(fs[0]!) ns p r1∧(fs[1]!) ns r1 r2∧C[r2]! = ⟨9,0⟩∧q=r2+1
 else if k=8 then ∃ r1 r2,(fs[0]!) ns p r1∧C[r1]! = ⟨11,0⟩∧(fs[1]!) (ns++[nm]) (r1+1) r2∧C[r2]! = ⟨12,0⟩∧q=r2+1
 else False
mutual
def sqT (C:List Ins) (Q:List Wt):Tm→SG
 | .mk k nm ot n _ _ args=>sqF C Q k nm ot n args (aEq C Q args)
def aEq (C:List Ins) (Q:List Wt):List Tm→List SG
 | []=>[]
 | a :: l=>sqT C Q a :: aEq C Q l
end
theorem Pu (C:List Ins) (Q:List Wt):∀ l,aEq C Q l=l.map (sqT C Q)
 | []=>rfl
 | a :: l=>by rw [aEq,Pu C Q l];rfl
theorem NZ (C:List Ins) (Q:List Wt) (e:Tm):sqT C Q e=sqF C Q e.kind e.name e.other e.n e.args (e.args.map (sqT C Q)):=by
 obtain ⟨k,nm,ot,n,ty,rs,args⟩:=e
 rw [sqT,Pu];rfl
def Agr (p q:Nat) (c c':List Ins):Prop:=∀ k,p≤k→k<q→c'[k]! = c[k]! ∨ (((c[k]!).op=7∨(c[k]!).op=8)∧(c'[k]!).op=(c[k]!).op)
theorem Agr.sub {p q p' q':Nat} {c c':List Ins} (h:Agr p q c c') (hp:p≤p') (hq:q'≤q):Agr p' q' c c':=fun k k1 k2=>h k (by omega) (by omega)
theorem Agr.at {p q k:Nat} {c c':List Ins} (h:Agr p q c c') (h1:p≤k) (h2:k<q) (ho:(c[k]!).op≠7∧(c[k]!).op≠8):c'[k]! = c[k]! := (h k h1 h2).resolve_right fun h=>by omega
theorem Agr.op {p q k:Nat} {c c':List Ins} (h:Agr p q c c') (h1:p≤k) (h2:k<q):(c'[k]!).op=(c[k]!).op:=by
 rcases h k h1 h2 with h | h
 ·rw [h]
 ·exact h.2
theorem TJ {fs:List SG} {ns:List ByteArray} (h:∀ f ∈ fs,∀ ns p q,f ns p q→p≤q):∀ p q,sgs fs ns p q→p≤q:=by
 induction fs with
 | nil=>intro p q hs;have:q=p:=hs;omega
 | cons f l ih =>
  intro p q hs
  obtain ⟨r,h1,h2⟩:∃ r,f ns p r∧sgs l ns r q:=hs
  have a1:=h f (by simp) ns p r h1
  have a2:=ih (fun g hg=>h g (by simp [hg])) r q h2
  omega
theorem UB (C:List Ins) (Q:List Wt):∀ e:Tm,plT e=true→∀ ns p q,sqT C Q e ns p q→p≤q:=by
 refine Tm.ind fun e ih hp ns p q hs => ?_
 have hpa:=Ca hp
 obtain ⟨hK,l5,l6,l7,l8,l9⟩:=BO hp
 have hi:∀ k,k<e.args.length→∀ ns p q,((e.args.map (sqT C Q))[k]!) ns p q→p≤q:=fun k hk ns p q h=>by
  rw [CA _ _ _ hk] at h
  exact ih _ (Ab hk) (hpa _ (Ab hk)) ns p q h
 rw [NZ] at hs
 unfold sqF at hs
 split at hs
 ·have:=hs.2;omega
 split at hs
 ·have:=hs.2;omega
 split at hs
 ·have:=hs.2;omega
 split at hs
 ·obtain ⟨r,h1,_,h3⟩:=hs
  have:=TJ (fun f hf ns p q h=>by
   obtain ⟨a,ha,rfl⟩:=List.mem_map.1 hf
   exact ih a ha (hpa a ha) ns p q h) p r h1
  omega
 split at hs
 ·rename_i k5
  have hl:=l5 k5
  obtain ⟨r1,r2,h1,_,h2,_,h3⟩:=hs
  have a1:=hi 0 (by omega) _ _ _ h1
  have a2:=hi 1 (by omega) _ _ _ h2
  have a3:=hi 2 (by omega) _ _ _ h3
  omega
 split at hs
 ·have:=hs.2.1;omega
 split at hs
 ·have:=hs.2.1;omega
 split at hs
 ·rename_i k7
  have hl:=l7 k7
  obtain ⟨r1,r2,h1,h2,_,h3⟩:=hs
  have a1:=hi 0 (by omega) _ _ _ h1
  have a2:=hi 1 (by omega) _ _ _ h2
  omega
 split at hs
 ·rename_i k8
  have hl:=l8 k8
  obtain ⟨r1,r2,h1,_,h2,_,h3⟩:=hs
  have a1:=hi 0 (by omega) _ _ _ h1
  have a2:=hi 1 (by omega) _ _ _ h2
  omega
 ·exact hs.elim
theorem Kf {fs gs:List SG} {ns:List ByteArray} (hl:fs.length=gs.length) (hle:∀ f ∈ fs,∀ ns p q,f ns p q→p≤q):∀ p q,(∀ k,k<fs.length→∀ a b,p≤a→b≤q→(fs[k]!) ns a b→(gs[k]!) ns a b)→sgs fs ns p q→sgs gs ns p q:=by
 induction fs generalizing gs with
 | nil =>
  intro p q _ hs
  cases gs with
  | nil=>exact hs
  | cons g gs=>simp at hl
 | cons f l ih =>
  intro p q hh hs
  cases gs with
  | nil=>simp at hl
  | cons g gs =>
   obtain ⟨r,h1,h2⟩:∃ r,f ns p r∧sgs l ns r q:=hs
   have a1:=hle f (by simp) ns p r h1
   have a2:=TJ (fun x hx=>hle x (by simp [hx])) r q h2
   exact ⟨r,hh 0 (by simp) p r (by omega) a2 h1,ih (by simpa using hl) (fun x hx=>hle x (by simp [hx])) r q (fun k hk a b ha hb h=>hh (k+1) (by simpa using hk) a b (by omega) hb h) h2⟩
theorem HQ {C C':List Ins} {Q Q':List Wt} (hQ:∀ x ∈ Q,x ∈ Q'):∀ e:Tm,plT e=true→∀ ns p q,Agr p q C C'→sqT C Q e ns p q→sqT C' Q' e ns p q:=by
 refine Tm.ind fun e ih hp ns p q hg hs => ?_
 have hpa:=Ca hp
 obtain ⟨hK,l5,l6,l7,l8,l9⟩:=BO hp
 have hle:∀ k,k<e.args.length→∀ ns p q,((e.args.map (sqT C Q))[k]!) ns p q→p≤q:=fun k hk ns p q h=>by
  rw [CA _ _ _ hk] at h
  exact UB C Q _ (hpa _ (Ab hk)) ns p q h
 have hi:∀ k,k<e.args.length→∀ ns a b,p≤a→b≤q→((e.args.map (sqT C Q))[k]!) ns a b→((e.args.map (sqT C' Q'))[k]!) ns a b:=fun k hk ns a b ha hb h=>by
  rw [CA _ _ _ hk] at h ⊢
  exact ih _ (Ab hk) (hpa _ (Ab hk)) ns a b (hg.sub ha hb) h
 have key:∀ k x,p≤k→k<q→C[k]! = x→(x.op≠7∧x.op≠8)→C'[k]! = x:=fun k x h1 h2 hx ho=>by
  rw [hg.at h1 h2 (by rw [hx];exact ho),hx]
 rw [NZ] at hs ⊢
 unfold sqF at hs ⊢
 split at hs
 ·rename_i h;rw [if_pos h]
  exact ⟨key p _ (by omega) (by omega) hs.1 (by simp only;decide),hs.2⟩
 rename_i n2;rw [if_neg n2]
 split at hs
 ·rename_i h;rw [if_pos h]
  exact ⟨key p _ (by omega) (by omega) hs.1 (by simp only;decide),hs.2⟩
 rename_i n3;rw [if_neg n3]
 split at hs
 ·rename_i h;rw [if_pos h]
  exact ⟨key p _ (by omega) (by omega) hs.1 (by simp only;decide),hs.2⟩
 rename_i n1;rw [if_neg n1]
 split at hs
 ·rename_i h;rw [if_pos h]
  obtain ⟨r,h1,h2,h3⟩:=hs
  have hall:∀ f ∈ e.args.map (sqT C Q),∀ ns p q,f ns p q→p≤q:=fun f hf ns p q h=>by
   obtain ⟨a,ha,rfl⟩:=List.mem_map.1 hf
   exact UB C Q a (hpa a ha) ns p q h
  have hr:=TJ (fun f hf=>hall f hf) p r h1
  exact ⟨r,Kf (by rw [List.length_map,List.length_map]) hall p r (fun k hk a b ha hb h=>hi k (by simpa using hk) ns a b ha (by omega) h) h1,key r _ hr (by omega) h2 (by simp only;decide),h3⟩
 rename_i n4;rw [if_neg n4]
 split at hs
 ·rename_i h;rw [if_pos h]
  have hl:=l5 h
  obtain ⟨r1,r2,s0,x1,s1,x2,s2⟩:=hs
  have a0:=hle 0 (by omega) _ _ _ s0
  have a1:=hle 1 (by omega) _ _ _ s1
  have a2:=hle 2 (by omega) _ _ _ s2
  exact ⟨r1,r2,hi 0 (by omega) _ _ _ (by omega) (by omega) s0,key r1 _ (by omega) (by omega) x1 (by simp only;decide),hi 1 (by omega) _ _ _ (by omega) (by omega) s1,key r2 _ (by omega) (by omega) x2 (by simp only;decide),hi 2 (by omega) _ _ _ (by omega) (by omega) s2⟩
 rename_i n5;rw [if_neg n5]
 split at hs
 ·rename_i h;rw [if_pos h]
  exact ⟨by rw [hg.op (by omega) (by have:=hs.2.1;omega)];exact hs.1,hs.2.1,hQ _ hs.2.2⟩
 rename_i n6;rw [if_neg n6]
 split at hs
 ·rename_i h;rw [if_pos h]
  exact ⟨by rw [hg.op (by omega) (by have:=hs.2.1;omega)];exact hs.1,hs.2.1,hQ _ hs.2.2⟩
 rename_i n9;rw [if_neg n9]
 split at hs
 ·rename_i h;rw [if_pos h]
  have hl:=l7 h
  obtain ⟨r1,r2,s0,s1,x2,h3⟩:=hs
  have a0:=hle 0 (by omega) _ _ _ s0
  have a1:=hle 1 (by omega) _ _ _ s1
  exact ⟨r1,r2,hi 0 (by omega) _ _ _ (by omega) (by omega) s0,hi 1 (by omega) _ _ _ (by omega) (by omega) s1,key r2 _ (by omega) (by omega) x2 (by simp only;decide),h3⟩
 rename_i n7;rw [if_neg n7]
 split at hs
 ·rename_i h;rw [if_pos h]
  have hl:=l8 h
  obtain ⟨r1,r2,s0,x1,s1,x2,h3⟩:=hs
  have a0:=hle 0 (by omega) _ _ _ s0
  have a1:=hle 1 (by omega) _ _ _ s1
  exact ⟨r1,r2,hi 0 (by omega) _ _ _ (by omega) (by omega) s0,key r1 _ (by omega) (by omega) x1 (by simp only;decide),hi 1 (by omega) _ _ _ (by omega) (by omega) s1,key r2 _ (by omega) (by omega) x2 (by simp only;decide),h3⟩
 ·exact hs.elim
theorem Ap.agr {s s':CS} (h:Ap s s') (p q:Nat) (hq:q≤s.code.length):Agr p q s.code s'.code:=fun k _ k2 => .inl (h.old k (by omega))
theorem Ap.sub {s s':CS} (h:Ap s s'):∀ x ∈ s.q,x ∈ s'.q:=fun x hx=>by
 obtain ⟨u,u1,_,_⟩:=h.q
 rw [u1];exact List.mem_append_left _ hx
theorem DS (s:CS) (op a:Int):(Be s op a).code[s.code.length]! = ⟨op,a⟩∧(Be s op a).code.length=s.code.length+1:=by
 unfold Be
 simp only [List.length_append,List.length_singleton,and_true]
 rw [getElem!_pos (s.code++[(⟨op,a⟩:Ins)]) s.code.length (by simp)];simp
theorem KG {s s':CS} (h:Ap s s') {e:Tm} (hp:plT e=true) {ns:List ByteArray} {p q:Nat} (hs:sqT s.code s.q e ns p q) (hq:q≤s.code.length):sqT s'.code s'.q e ns p q :=
 HQ h.sub e hp ns p q (h.agr p q hq) hs
theorem aC5 {s s':CS} (h:Ap s s') {l:List Tm} (hp:∀ a ∈ l,plT a=true) {ns:List ByteArray} {p q:Nat} (hs:sgs (l.map (sqT s.code s.q)) ns p q) (hq:q≤s.code.length):sgs (l.map (sqT s'.code s'.q)) ns p q :=
 Kf (by rw [List.length_map,List.length_map]) (fun f hf ns p q hh=>by
  obtain ⟨a,ha,rfl⟩:=List.mem_map.1 hf
  exact UB _ _ a (hp a ha) ns p q hh) p q (fun k hk a b ha hb hh=>by
  rw [List.length_map] at hk
  rw [CA _ _ _ hk] at hh ⊢
  exact KG h (hp _ (Ab hk)) hh (by omega)) hs
theorem Xf:∀ (l:List Tm),(∀ a ∈ l,plT a=true)→(∀ a ∈ l,∀ ns s,sqT (cpT a ns s).code (cpT a ns s).q a ns s.code.length (cpT a ns s).code.length)→∀ ns s,sgs (l.map (sqT (Ep (l.map cpT) ns s).code (Ep (l.map cpT) ns s).q)) ns s.code.length (Ep (l.map cpT) ns s).code.length
 | [],_,_,ns,s=>rfl
 | a :: l,hp,hh,ns,s=>by
  have h1:=hh a (by simp) ns s
  have h2:=Xf l (fun b hb=>hp b (by simp [hb])) (fun b hb=>hh b (by simp [hb])) ns (cpT a ns s)
  have hA:=OV (l.map cpT) ns (fun f hf s=>by
   obtain ⟨b,hb,rfl⟩:=List.mem_map.1 hf
   exact MC b (hp b (by simp [hb])) ns s) (cpT a ns s)
  exact ⟨(cpT a ns s).code.length,KG hA (hp a (by simp)) h1 (Nat.le_refl _),h2⟩
theorem KU (s:CS) (k:Nat) (a:Int):(Db s k a).code.length=s.code.length∧(∀ j,j≠k→(Db s k a).code[j]! = s.code[j]!)∧(k<s.code.length→(Db s k a).code[k]! = ⟨(s.code[k]!).op,a⟩):=by
 have hl:(Db s k a).code.length=s.code.length:=by unfold Db;simp
 refine ⟨hl,fun j hj => ?_,fun hk => ?_⟩
 ·by_cases h:j<s.code.length
  ·rw [getElem!_pos (Db s k a).code j (by omega),getElem!_pos s.code j h]
   unfold Db
   simp only
   rw [List.getElem_set_ne (by omega)]
  ·rw [getElem!_neg (Db s k a).code j (by omega),getElem!_neg s.code j h]
 ·rw [getElem!_pos (Db s k a).code k (by omega)]
  unfold Db
  simp only
  rw [List.getElem_set_self]
theorem aBQ:∀ e:Tm,plT e=true→∀ ns s,sqT (cpT e ns s).code (cpT e ns s).q e ns s.code.length (cpT e ns s).code.length:=by
 refine Tm.ind fun e ih hp ns s => ?_
 have hpa:=Ca hp
 obtain ⟨hK,l5,l6,l7,l8,l9⟩:=BO hp
 have hat:∀ k,k<e.args.length→(e.args.map cpT)[k]! = cpT e.args[k]! := fun k hk=>CA cpT e.args k hk
 have hi:∀ k,k<e.args.length→∀ ns s,sqT (cpT e.args[k]! ns s).code (cpT e.args[k]! ns s).q e.args[k]! ns s.code.length (cpT e.args[k]! ns s).code.length:=fun k hk=>ih _ (Ab hk) (hpa _ (Ab hk))
 have ha:∀ k,k<e.args.length→∀ ns s,Ap s (cpT e.args[k]! ns s):=fun k hk=>MC _ (hpa _ (Ab hk))
 rw [NZ,DU]
 unfold sqF cpF
 by_cases k2:e.kind=2
 ·rw [if_pos k2,if_pos k2];exact DS _ _ _
 rw [if_neg k2,if_neg k2]
 by_cases k3:e.kind=3
 ·rw [if_pos k3,if_pos k3];exact DS _ _ _
 rw [if_neg k3,if_neg k3]
 by_cases k1:e.kind=1
 ·rw [if_pos k1,if_pos k1];exact DS _ _ _
 rw [if_neg k1,if_neg k1]
 by_cases k4:e.kind=4
 ·rw [if_pos k4,if_pos k4]
  have h:=Xf e.args hpa (fun a hm=>ih a hm (hpa a hm)) ns s
  obtain ⟨p1,p2⟩:=DS (Ep (e.args.map cpT) ns s) 4 (fi e.name Kp 0+1)
  exact ⟨(Ep (e.args.map cpT) ns s).code.length,aC5 (Co _ _ _) hpa h (Nat.le_refl _),p1,p2⟩
 rw [if_neg k4,if_neg k4]
 by_cases k5:e.kind=5
 ·rw [if_pos k5,if_pos k5]
  have hl:=l5 k5
  unfold ifF
  rw [hat 0 (by omega),hat 1 (by omega),hat 2 (by omega),CA _ _ _ (show 0<e.args.length by omega),CA _ _ _ (show 1<e.args.length by omega),CA _ _ _ (show 2<e.args.length by omega)]
  simp only
  have q0:=hi 0 (by omega) ns s
  have A0:=ha 0 (by omega) ns s
  generalize cpT e.args[0]! ns s=A at *
  obtain ⟨b1,b2⟩:=DS A 6 0
  have P1:=Co A 6 0
  generalize Be A 6 0=S1 at *
  have q1:=hi 1 (by omega) ns S1
  have A1:=ha 1 (by omega) ns S1
  generalize cpT e.args[1]! ns S1=B at *
  obtain ⟨c1,c2⟩:=DS B 5 0
  have P2:=Co B 5 0
  generalize Be B 5 0=S2 at *
  obtain ⟨d1,d2,d3⟩:=KU S2 A.code.length S2.code.length
  have lA:=A1.len
  have hq2:(Db S2 A.code.length S2.code.length).q=S2.q:=rfl
  have PA:=Pn ((P1.trans A1).trans P2) A.code.length S2.code.length (Nat.le_refl _)
  generalize Db S2 A.code.length S2.code.length=S2' at *
  have q2:=hi 2 (by omega) ns S2'
  have A2:=ha 2 (by omega) ns S2'
  generalize cpT e.args[2]! ns S2'=D at *
  have lD:=A2.len
  obtain ⟨f1,f2,f3⟩:=KU D B.code.length D.code.length
  have hqD:(Db D B.code.length D.code.length).q=D.q:=rfl
  have PF:=Pn (PA.trans A2) B.code.length D.code.length (by omega)
  generalize Db D B.code.length D.code.length=F at *
  have d3':=d3 (by omega)
  have f3':=f3 (by omega)
  refine ⟨A.code.length,B.code.length,KG PF (hpa _ (Ab (by omega))) q0 (Nat.le_refl _), ?_, ?_, ?_, ?_⟩
  ·rw [f2 _ (by omega),A2.old _ (by omega),d3',P2.old _ (by omega),A1.old _ (by omega),b1,c2]
  ·rw [b2] at q1
   refine HQ (fun x hx => ?_) _ (hpa _ (Ab (by omega))) ns _ _ (fun k h1 h2 => .inl ?_) q1
   ·rw [hqD];exact A2.sub x (by rw [hq2];exact P2.sub x hx)
   ·rw [f2 _ (by omega),A2.old _ (by omega),d2 _ (by omega),P2.old _ (by omega)]
  ·rw [f3',A2.old _ (by omega),d2 _ (by omega),c1,f1]
  ·rw [d1,c2] at q2
   rw [f1]
   refine HQ (fun x hx=>by rw [hqD];exact hx) _ (hpa _ (Ab (by omega))) ns _ _ (fun k h1 h2 => .inl ?_) q2
   rw [f2 _ (by omega)]
 rw [if_neg k5,if_neg k5]
 by_cases k6:e.kind=6
 ·rw [if_pos k6,if_pos k6]
  obtain ⟨p1,p2⟩:=DS s 7 0
  refine ⟨?_,p2, ?_⟩
  ·show ((Be s 7 0).code[s.code.length]!).op=7
   rw [p1]
  ·show _ ∈ (Be s 7 0).q++_
   simp
 rw [if_neg k6,if_neg k6]
 by_cases k9:e.kind=9
 ·rw [if_pos k9,if_pos k9]
  obtain ⟨p1,p2⟩:=DS s 8 0
  refine ⟨?_,p2, ?_⟩
  ·show ((Be s 8 0).code[s.code.length]!).op=8
   rw [p1]
  ·show _ ∈ (Be s 8 0).q++_
   simp
 rw [if_neg k9,if_neg k9]
 by_cases k7:e.kind=7
 ·rw [if_pos k7,if_pos k7]
  have hl:=l7 k7
  rw [hat 0 (by omega),hat 1 (by omega),CA _ _ _ (show 0<e.args.length by omega),CA _ _ _ (show 1<e.args.length by omega)]
  have q0:=hi 0 (by omega) ns s
  have q1:=hi 1 (by omega) ns (cpT e.args[0]! ns s)
  have A1:=ha 1 (by omega) ns (cpT e.args[0]! ns s)
  obtain ⟨p1,p2⟩:=DS (cpT e.args[1]! ns (cpT e.args[0]! ns s)) 9 0
  have P:=Co (cpT e.args[1]! ns (cpT e.args[0]! ns s)) 9 0
  exact ⟨_,_,KG (A1.trans P) (hpa _ (Ab (by omega))) q0 (Nat.le_refl _),KG P (hpa _ (Ab (by omega))) q1 (Nat.le_refl _),p1,p2⟩
 rw [if_neg k7,if_neg k7]
 have k8:e.kind=8:=by omega
 rw [if_pos k8,if_pos k8]
 have hl:=l8 k8
 rw [hat 0 (by omega),hat 1 (by omega),CA _ _ _ (show 0<e.args.length by omega),CA _ _ _ (show 1<e.args.length by omega)]
 have q0:=hi 0 (by omega) ns s
 obtain ⟨b1,b2⟩:=DS (cpT e.args[0]! ns s) 11 0
 have P1:=Co (cpT e.args[0]! ns s) 11 0
 have q1:=hi 1 (by omega) (ns++[e.name]) (Be (cpT e.args[0]! ns s) 11 0)
 have A1:=ha 1 (by omega) (ns++[e.name]) (Be (cpT e.args[0]! ns s) 11 0)
 have P2:=Co (cpT e.args[1]! (ns++[e.name]) (Be (cpT e.args[0]! ns s) 11 0)) 12 0
 obtain ⟨p1,p2⟩:=DS (cpT e.args[1]! (ns++[e.name]) (Be (cpT e.args[0]! ns s) 11 0)) 12 0
 have R:=A1.trans P2
 refine ⟨(cpT e.args[0]! ns s).code.length,_,KG (P1.trans R) (hpa _ (Ab (by omega))) q0 (Nat.le_refl _), ?_, ?_,p1,p2⟩
 ·rw [R.old _ (by omega)];exact b1
 ·rw [b2] at q1
  exact KG P2 (hpa _ (Ab (by omega))) q1 (Nat.le_refl _)
def Pl (C:List Ins) (x:Wt):Prop:=(0≤x.pl∧x.pl<(C.length:Int))∧((C[x.pl.toNat]!).op=7∨(C[x.pl.toNat]!).op=8)∧plT x.body=true
theorem Pl.up {s s':CS} (h:Ap s s') {x:Wt} (hx:Pl s.code x):Pl s'.code x:=by
 obtain ⟨⟨h1,h2⟩,h3,h4⟩:=hx
 have:=h.len
 refine ⟨⟨h1,by omega⟩, ?_,h4⟩
 rw [h.old _ (by omega)];exact h3
def Pls (s s':CS):Prop:=∀ x ∈ s'.q,x ∈ s.q∨Pl s'.code x
theorem Pls.refl (s:CS):Pls s s:=fun x hx => .inl hx
theorem Pls.trans {a b c:CS} (h:Pls a b) (k:Pls b c) (A:Ap b c):Pls a c:=fun x hx=>by
 rcases k x hx with h1 | h1
 ·rcases h x h1 with h2 | h2
  ·exact .inl h2
  ·exact .inr (h2.up A)
 ·exact .inr h1
theorem Ej (s:CS) (op a:Int):Pls s (Be s op a):=fun x hx => .inl hx
theorem Pl.set {s:CS} {x:Wt} (h:Pl s.code x) (k:Nat) (a:Int):Pl (Db s k a).code x:=by
 obtain ⟨h1,h2,h3⟩:=KU s k a
 obtain ⟨⟨p1,p2⟩,p3,p4⟩:=h
 refine ⟨⟨p1,by omega⟩, ?_,p4⟩
 by_cases e:x.pl.toNat=k
 ·rw [e,h3 (by omega)];rw [e] at p3;exact p3
 ·rw [h2 _ e];exact p3
theorem Sg {s s':CS} (h:Pls s s') (k:Nat) (a:Int):Pls s (Db s' k a):=fun x hx=>(h x hx).imp id fun h=>h.set k a
theorem NS (s:CS) (op:Int) (ho:op=7∨op=8) (nms:List ByteArray) (b:Tm) (hb:plT b=true):Pls s (SO (Be s op 0) ⟨s.code.length,nms,b⟩):=fun x hx=>by
 rcases List.mem_append.1 (show x ∈ s.q++[(⟨s.code.length,nms,b⟩:Wt)] from hx) with h | h
 ·exact .inl h
 ·right
  rw [List.mem_singleton.1 h]
  obtain ⟨p1,p2⟩:=DS s op 0
  refine ⟨⟨by show (0:Int)≤(s.code.length:Int);omega,by show (s.code.length:Int)<((Be s op 0).code.length:Int);omega⟩, ?_,hb⟩
  show ((Be s op 0).code[((s.code.length:Nat):Int).toNat]!).op=7∨((Be s op 0).code[((s.code.length:Nat):Int).toNat]!).op=8
  rw [Int.toNat_natCast,p1];exact ho
theorem Rw:∀ (fs:List CF) (ns:List ByteArray),(∀ f ∈ fs,∀ s,Pls s (f ns s)∧Ap s (f ns s))→∀ s,Pls s (Ep fs ns s)
 | [],ns,_,s=>Pls.refl s
 | f :: fs,ns,h,s=>by
  have h1:=(h f (by simp) s).1
  have h2:=Rw fs ns (fun g hg=>h g (by simp [hg])) (f ns s)
  exact h1.trans h2 (OV fs ns (fun g hg s=>(h g (by simp [hg]) s).2) (f ns s))
theorem XE:∀ e:Tm,plT e=true→∀ ns s,Pls s (cpT e ns s):=by
 refine Tm.ind fun e ih hp ns s => ?_
 have hpa:=Ca hp
 obtain ⟨hK,l5,l6,l7,l8,l9⟩:=BO hp
 have hat:∀ k,k<e.args.length→(e.args.map cpT)[k]! = cpT e.args[k]! := fun k hk=>CA cpT e.args k hk
 have hi:∀ k,k<e.args.length→∀ ns s,Pls s (cpT e.args[k]! ns s):=fun k hk=>ih _ (Ab hk) (hpa _ (Ab hk))
 have ha:∀ k,k<e.args.length→∀ ns s,Ap s (cpT e.args[k]! ns s):=fun k hk=>MC _ (hpa _ (Ab hk))
 rw [DU]
 unfold cpF
 split
 ·exact Ej _ _ _
 split
 ·exact Ej _ _ _
 split
 ·exact Ej _ _ _
 split
 ·refine (Rw _ ns (fun f hf s => ?_) s).trans (Ej _ _ _) (Co _ _ _)
  obtain ⟨a,hm,rfl⟩:=List.mem_map.1 hf
  exact ⟨ih a hm (hpa a hm) ns s,MC a (hpa a hm) ns s⟩
 split
 ·rename_i h5
  have hl:=l5 h5
  unfold ifF
  rw [hat 0 (by omega),hat 1 (by omega),hat 2 (by omega)]
  simp only
  have B0:=(hi 0 (by omega) ns s).trans (Ej _ 6 0) (Co _ 6 0)
  have B1:=B0.trans (hi 1 (by omega) ns _) (ha 1 (by omega) ns _)
  have B2:=B1.trans (Ej _ 5 0) (Co _ 5 0)
  have B3:=Sg B2 (cpT e.args[0]! ns s).code.length (Be (cpT e.args[1]! ns (Be (cpT e.args[0]! ns s) 6 0)) 5 0).code.length
  exact Sg (B3.trans (hi 2 (by omega) ns _) (ha 2 (by omega) ns _)) _ _
 split
 ·rename_i h6
  exact NS _ _ (.inl rfl) _ _ (hpa _ (Ab (by have:=l6 h6;omega)))
 split
 ·rename_i h9
  exact NS _ _ (.inr rfl) _ _ (hpa _ (Ab (by have:=l9 h9;omega)))
 split
 ·rename_i h7
  have hl:=l7 h7
  rw [hat 0 (by omega),hat 1 (by omega)]
  exact ((hi 0 (by omega) ns s).trans (hi 1 (by omega) ns _) (ha 1 (by omega) ns _)).trans (Ej _ _ _) (Co _ _ _)
 split
 ·rename_i h8
  have hl:=l8 h8
  rw [hat 0 (by omega),hat 1 (by omega)]
  exact (((hi 0 (by omega) ns s).trans (Ej _ _ _) (Co _ _ _)).trans (hi 1 (by omega) _ _) (ha 1 (by omega) _ _)).trans (Ej _ _ _) (Co _ _ _)
 ·exact Pls.refl s
def DnW (C:List Ins) (Q:List Wt) (x:Wt):Prop:=0≤(C[x.pl.toNat]!).a∧∃ q',q'<C.length∧sqT C Q x.body x.nms (C[x.pl.toNat]!).a.toNat q'∧C[q']! = ⟨10,0⟩
structure Lay (e:Tm) (i:Nat) (s:CS):Prop where
 top:∃ q,q<s.code.length∧sqT s.code s.q e [] 0 q∧s.code[q]! = ⟨10,0⟩
 q:∀ x ∈ s.q,Pl s.code x
 asc:s.q.Pairwise (fun x y=>x.pl<y.pl)
 dn:∀ j,j<i→j<s.q.length→DnW s.code s.q s.q[j]!
theorem Th {e:Tm} (hp:plT e=true):Lay e 0 (Be (cpT e [] ⟨[],[]⟩) 10 0):=by
 have h1:=aBQ e hp [] ⟨[],[]⟩
 have h2:=MC e hp [] ⟨[],[]⟩
 have h3:=XE e hp [] ⟨[],[]⟩
 obtain ⟨p1,p2⟩:=DS (cpT e [] ⟨[],[]⟩) 10 0
 have P:=Co (cpT e [] ⟨[],[]⟩) 10 0
 refine ⟨⟨(cpT e [] ⟨[],[]⟩).code.length,by omega,KG P hp h1 (Nat.le_refl _),p1⟩,fun x hx => ?_, ?_,fun j hj=>absurd hj (by omega)⟩
 ·rcases h3 x hx with h | h
  ·cases h
  ·exact h.up P
 ·obtain ⟨u,u1,_,u3⟩:=(h2.trans P).q
  rw [u1];exact u3
theorem aFx {l:List Wt} (h:l.Pairwise (fun x y=>x.pl<y.pl)) {i j:Nat} (hij:i<j) (hj:j<l.length):(l[i]!).pl<(l[j]!).pl:=by
 rw [getElem!_pos l i (by omega),getElem!_pos l j hj]
 exact List.pairwise_iff_getElem.1 h i j (by omega) hj hij
theorem Vs {e:Tm} (hp:plT e=true) {i:Nat} {s:CS} (h:Lay e i s) (hi:i<s.q.length):Lay e (i+1) (Be (cpT (s.q[i]!).body (s.q[i]!).nms (Db s (s.q[i]!).pl.toNat s.code.length)) 10 0):=by
 obtain ⟨⟨x1,x2⟩,x3,x4⟩:=h.q _ (Ab hi)
 have hpw:=fun j (hj:j<i)=>aFx h.asc hj hi
 generalize hx:s.q[i]! = x at *
 obtain ⟨d1,d2,d3⟩:=KU s x.pl.toNat s.code.length
 have d3:=d3 (by omega)
 have hq1:(Db s x.pl.toNat s.code.length).q=s.q:=rfl
 have hPl:=fun (y:Wt) (hy:y ∈ s.q)=>(h.q y hy).set x.pl.toNat s.code.length
 generalize Db s x.pl.toNat s.code.length=s1 at *
 have A:=MC x.body x4 x.nms s1
 have S:=aBQ x.body x4 x.nms s1
 have L:=XE x.body x4 x.nms s1
 generalize cpT x.body x.nms s1=s2 at *
 obtain ⟨p1,p2⟩:=DS s2 10 0
 have P:=Co s2 10 0
 have hq3:(Be s2 10 0).q=s2.q:=rfl
 generalize Be s2 10 0=s3 at *
 have R:=A.trans P
 have hlA:=A.len
 have hG:Agr 0 s.code.length s.code s3.code:=fun k _ hk=>by
  by_cases hkp:k=x.pl.toNat
  ·subst hkp
   right
   rw [R.old _ (by omega),d3]
   exact ⟨x3,rfl⟩
  ·left
   rw [R.old _ (by omega),d2 _ hkp]
 have hsub:∀ y ∈ s.q,y ∈ s3.q:=fun y hy=>R.sub y (by rw [hq1];exact hy)
 obtain ⟨u,u1,u2,u3⟩:=R.q
 rw [hq1] at u1
 refine ⟨?_,fun y hy => ?_, ?_,fun j hj hjl => ?_⟩
 ·obtain ⟨q,q1,q2,q3⟩:=h.top
  exact ⟨q,by have:=R.len;omega,HQ hsub e hp [] 0 q (hG.sub (Nat.le_refl _) (by omega)) q2,by rw [hG.at (Nat.zero_le _) q1 (by rw [q3];simp only;decide),q3]⟩
 ·rw [hq3] at hy
  rcases L y hy with h1 | h1
  ·rw [hq1] at h1
   exact (hPl y h1).up R
  ·exact h1.up P
 ·rw [u1,List.pairwise_append]
  refine ⟨h.asc,u3,fun y hy z hz => ?_⟩
  have h1:=(h.q y hy).1
  have h2:=u2 z hz
  omega
 ·by_cases hji:j=i
  ·subst hji
   have e1:s3.q[j]! = x:=by rw [u1,Kl _ _ hi,hx]
   rw [e1]
   have e2:(s3.code[x.pl.toNat]!)=⟨(s.code[x.pl.toNat]!).op,(s.code.length:Int)⟩:=by rw [R.old _ (by omega),d3]
   rw [d1] at S
   refine ⟨by rw [e2];simp only;omega,s2.code.length,by omega, ?_,p1⟩
   rw [e2]
   simp only [Int.toNat_natCast]
   exact KG P x4 S (Nat.le_refl _)
  ·have hjs:j<s.q.length:=by omega
   have e1:s3.q[j]! = s.q[j]! := by rw [u1,Kl _ _ hjs]
   obtain ⟨y1,q',y2,y3,y4⟩:=h.dn j (by omega) hjs
   have hPj:=h.q _ (Ab hjs)
   have hlt:=hpw j (by omega)
   rw [e1]
   obtain ⟨⟨z1,z2⟩,z3,z4⟩:=hPj
   generalize s.q[j]! = y at *
   have e2:s3.code[y.pl.toNat]! = s.code[y.pl.toNat]! := by rw [R.old _ (by omega),d2 _ (by omega)]
   refine ⟨by rw [e2];exact y1,q',by have:=R.len;omega, ?_,by rw [hG.at (Nat.zero_le _) y2 (by rw [y4];simp only;decide),y4]⟩
   rw [e2]
   exact HQ hsub _ z4 _ _ _ (hG.sub (Nat.zero_le _) (by omega)) y3
theorem SV {e:Tm} (hp:plT e=true):∀ (f i:Nat) (s:CS),Lay e i s→302≤f+s.code.length→∃ j,Lay e j (cmL f i s)∧(300<(cmL f i s).code.length∨(cmL f i s).q.length≤j)
 | 0,i,s,h,hf=>⟨i,h,.inl (by rw [cmL];omega)⟩
 | f+1,i,s,h,hf=>by
  rw [cmL]
  split
  ·rename_i hc
   have h2:=Vs hp h hc.1
   refine SV hp f (i+1) _ h2 ?_
   have w:=(h.q _ (Ab hc.1)).2.2
   have hl:=(MC (s.q[i]!).body w (s.q[i]!).nms (Db s (s.q[i]!).pl.toNat s.code.length)).len
   rw [Cd] at hl
   rw [Bi];omega
  ·rename_i hc
   exact ⟨i,h,by
    by_cases hq:i<s.q.length
    ·exact .inl (by omega)
    ·exact .inr (by omega)⟩
theorem aB9 {C:List Ins} {Q:List Wt} (hQ:∀ x ∈ Q,DnW C Q x):∀ e:Tm,plT e=true→∀ ns p q,sqT C Q e ns p q→Lb C e ns p q:=by
 refine Tm.ind fun e ih hp ns p q hs => ?_
 have hpa:=Ca hp
 obtain ⟨hK,l5,l6,l7,l8,l9⟩:=BO hp
 have hi:∀ k,k<e.args.length→∀ ns a b,((e.args.map (sqT C Q))[k]!) ns a b→((e.args.map (Lb C))[k]!) ns a b:=fun k hk ns a b h=>by
  rw [CA _ _ _ hk] at h ⊢
  exact ih _ (Ab hk) (hpa _ (Ab hk)) ns a b h
 rw [NZ] at hs
 rw [GG]
 unfold sqF at hs
 unfold sgF
 split at hs
 ·rename_i h;rw [if_pos h];exact hs
 rename_i n2;rw [if_neg n2]
 split at hs
 ·rename_i h;rw [if_pos h];exact hs
 rename_i n3;rw [if_neg n3]
 split at hs
 ·rename_i h;rw [if_pos h];exact hs
 rename_i n1;rw [if_neg n1]
 split at hs
 ·rename_i h;rw [if_pos h]
  obtain ⟨r,h1,h2,h3⟩:=hs
  refine ⟨r,Kf (by rw [List.length_map,List.length_map]) (fun f hf ns p q h => ?_) p r (fun k hk a b _ _ h=>hi k (by simpa using hk) ns a b h) h1,h2,h3⟩
  obtain ⟨a,ha,rfl⟩:=List.mem_map.1 hf
  exact UB C Q a (hpa a ha) ns p q h
 rename_i n4;rw [if_neg n4]
 split at hs
 ·rename_i h;rw [if_pos h]
  have hl:=l5 h
  obtain ⟨r1,r2,s0,x1,s1,x2,s2⟩:=hs
  exact ⟨r1,r2,hi 0 (by omega) _ _ _ s0,x1,hi 1 (by omega) _ _ _ s1,x2,hi 2 (by omega) _ _ _ s2⟩
 rename_i n5;rw [if_neg n5]
 split at hs
 ·rename_i h;rw [if_pos h]
  have hl:=l6 h
  obtain ⟨s0,s1,s2⟩:=hs
  obtain ⟨y1,q',_,y3,y4⟩:=hQ _ s2
  simp only [Int.toNat_natCast] at y1 y3
  refine ⟨s0,s1,y1,q', ?_,y4⟩
  rw [CA _ _ _ (show 0<e.args.length by omega)]
  exact ih _ (Ab (by omega)) (hpa _ (Ab (by omega))) _ _ _ y3
 rename_i n6;rw [if_neg n6]
 split at hs
 ·rename_i h;rw [if_pos h]
  have hl:=l9 h
  obtain ⟨s0,s1,s2⟩:=hs
  obtain ⟨y1,q',_,y3,y4⟩:=hQ _ s2
  simp only [Int.toNat_natCast] at y1 y3
  refine ⟨s0,s1,y1,q', ?_,y4⟩
  rw [CA _ _ _ (show 0<e.args.length by omega)]
  exact ih _ (Ab (by omega)) (hpa _ (Ab (by omega))) _ _ _ y3
 rename_i n9;rw [if_neg n9]
 split at hs
 ·rename_i h;rw [if_pos h]
  have hl:=l7 h
  obtain ⟨r1,r2,s0,s1,x2,h3⟩:=hs
  exact ⟨r1,r2,hi 0 (by omega) _ _ _ s0,hi 1 (by omega) _ _ _ s1,x2,h3⟩
 rename_i n7;rw [if_neg n7]
 split at hs
 ·rename_i h;rw [if_pos h]
  have hl:=l8 h
  obtain ⟨r1,r2,s0,x1,s1,x2,h3⟩:=hs
  exact ⟨r1,r2,hi 0 (by omega) _ _ _ s0,x1,hi 1 (by omega) _ _ _ s1,x2,h3⟩
 ·exact hs.elim
theorem XQ {e:Tm} (h:(cmR e).2=true):plT e=true∧AE e=[]∧∃ q,Lb (cmR e).1 e [] 0 q∧(cmR e).1[q]! = ⟨10,0⟩:=by
 unfold cmR at h ⊢
 split at h
 case isFalse=>exact absurd h (by decide)
 rename_i hb
 rw [if_pos hb]
 split at h
 case isTrue=>exact absurd h (by decide)
 rename_i hl
 rw [if_neg hl]
 unfold cmB at hb
 rw [Bool.and_eq_true,decide_eq_true_eq] at hb
 have hf:AE e=[]:=List.eq_nil_of_length_eq_zero (by omega)
 obtain ⟨j,hj,hd⟩:=SV hb.1 400 0 _ (Th hb.1) (by omega)
 change Lay e j (cmS e) at hj
 change 300<(cmS e).code.length∨(cmS e).q.length≤j at hd
 obtain ⟨q,q1,q2,q3⟩:=hj.top
 refine ⟨hb.1,hf,q,aB9 (fun x hx => ?_) e hb.1 [] 0 q q2,q3⟩
 obtain ⟨k,hk,rfl⟩:=List.getElem_of_mem hx
 rw [← getElem!_pos (cmS e).q k hk]
 exact hj.dn k (by omega) hk
end Go.Proofs.YtaidalilfmjfgaaGreat
