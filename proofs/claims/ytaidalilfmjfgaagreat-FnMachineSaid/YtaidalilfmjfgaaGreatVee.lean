import Derived.Test.YtaidalilfmjfgaaGreatPx
import Derived.Test.YtaidalilfmjfgaaGreatTvA
import Derived.Test.YtaidalilfmjfgaaGreatCpL
import Derived.Test.YtaidalilfmjfgaaGreatFvS
import Derived.Test.YtaidalilfmjfgaaGreatCdB
namespace Go.Proofs.YtaidalilfmjfgaaGreat
open Go.Proofs.Tryz
open Go.RowKit
set_option linter.unusedVariables false
set_option linter.unusedSimpArgs false
set_option maxRecDepth 20000
def tmG (t:Tm):List CD:=[.o (.int t.kind),.o (.str t.name),.o (.str t.other),.o (.int t.n),.r (.int t.ty.kind),.r (.rows 2 t.ty.args.length (Ai t.ty.args)),.r (.int t.res.kind),.r (.rows 2 t.res.args.length (Ai t.res.args)),.q 29 (.rows 9 t.args.length (Av t.args))]
def z0x:Ty:=.mk 0 []
def lsz (l:List Tm):Nat:=l.length+szL (Av l)
theorem JZ (l:List Tm) (t:Tm):lsz (l++[t])=lsz l+1+msz t:=by
 unfold lsz msz
 rw [Ek,Ah,IY,List.length_append]
 simp only [List.length_cons,List.length_nil]
 omega
theorem SA (l:List Tm):l.length≤lsz l:=Nat.le_add_right _ _
theorem BF:lsz []=0:=rfl
theorem Mu (t:Tm):lsz [t]=1+msz t:=by have:=JZ [] t;rw [BF] at this;simpa using this
theorem BJ (k:Int) (s o:ByteArray) (n:Int) (t r:Ty) (l:List Tm):msz (.mk k s o n t r l)=s.size+o.size+tsz t+tsz r+lsz l:=by
 unfold msz;rw [BM];rfl
theorem Oi (e:Tm):msz e=e.name.size+e.other.size+tsz e.ty+tsz e.res+lsz e.args:=by
 unfold msz;rw [BM];rfl
theorem EJ:(∀ t,tmG t=[.o (.int t.kind),.o (.str t.name),.o (.str t.other),.o (.int t.n),.r (.int t.ty.kind),.r (.rows 2 t.ty.args.length (Ai t.ty.args)),.r (.int t.res.kind),.r (.rows 2 t.res.args.length (Ai t.res.args)),.q 29 (.rows 9 t.args.length (Av t.args))])∧(∀ k (s o:ByteArray) (n:Int) (t r:Ty) (xs:List Tm),(Tm.mk k s o n t r xs).kind=k∧(Tm.mk k s o n t r xs).name=s∧(Tm.mk k s o n t r xs).other=o∧(Tm.mk k s o n t r xs).n=n∧(Tm.mk k s o n t r xs).ty=t∧(Tm.mk k s o n t r xs).res=r∧(Tm.mk k s o n t r xs).args=xs)∧Av []=[]∧(∀ a,Av [a]=tmC a)∧z0x.kind=0∧z0x.args=[]:=⟨fun _=>rfl,fun _ _ _ _ _ _ _=>⟨rfl,rfl,rfl,rfl,rfl,rfl,rfl⟩,rfl,IY,rfl,rfl⟩
def Ql (s:ByteArray) (d:Nat):Prop:=∀ (i:Nat) (b:Bool),i≤s.size→Bz prog 271 [.p (rdx s i b),.b (.one (.int (21-(d:Int))))] (pxI s i 0) (pxO s) pxR
set_option maxHeartbeats 8000000 in
theorem CY (s:ByteArray) (hl:s.size≤1000000) (d:Nat) (hd:d≤21) (hT:Ql s d) (e:Tm) (n:Nat) (hn:n≤3) (he:msz e≤100000000) (i:Nat) (hi:i≤s.size) (b:Bool):Bz prog 288 [.p (rdx s i b),.g (tmG e),.b (.one (.int n)),.b (.one (.int (21-(d:Int))))] (pxI s i (msz e+n)) (pxO s) pxR:=by
 have hez:=Oi e
 have hT':∀ (i:Nat) (b:Bool),i≤s.size→Bz prog 271 [.p (rdx s i b),.b (.one (.int (21-(d:Int))))] (pxI s i 0) (pxO s) pxR:=hT
 generalize (21:Int)-(d:Int)=dp at *
 refine AL [0,1,2,3,4,5,6,7,8,9,10,11] func288 rfl rfl (by simp [ntmps288]) (fun _ _=>rfl) ?_
 refine byP (fc (pxF s) (fc EJ (fc ntmps288 results288))) ?_
 refine Al (fun x:List Tm × Nat × Nat × Bool=>x.2.1≤n∧lsz x.1≤lsz e.args+8 * (x.2.2.1-i)+x.2.1∧i≤x.2.2.1∧x.2.2.1≤s.size) (fun x=>⟨37,[(9,.i x.2.1),(8,.bx 3 0),(5,.bx 2 0),(3,.i dp),(2,.i n),(0,.bx 0 0)],[(0,[.s s,.i x.2.2.1,.b x.2.2.2]),(2,[.i e.kind,.s e.name,.s e.other,.i e.n,.i e.ty.kind,.br (.rows 2 e.ty.args.length (Ai e.ty.args)),.i e.res.kind,.br (.rows 2 e.res.args.length (Ai e.res.args)),.sl 1]),(3,[.i 0,.s ⟨#[]⟩,.s ⟨#[]⟩,.i 0,.i 0,.nl 2,.i 0,.nl 2,.nl 9])],[(1,some ⟨.rows 9 x.1.length (Av x.1),some 29,false⟩)],4,[0]⟩) (fun x=>n-x.2.1) (e.args,0,i,b) id ⟨Nat.zero_le _,by simp only;omega,Nat.le_refl _,hi⟩ ?_ ?_
 ·exact byP Int.natCast_zero tI
 rintro ⟨l,k,i1,b1⟩ ⟨hk,hll,hi1,hi2⟩
 simp only at hk hll hi1 hi2 ⊢
 have hlen:=SA l
 have hin:inI ((k:Int)+1):=by unfold inI;omega
 by_cases hlt:k<n
 ·have hj:(k:Int)<(n:Int):=by omega
  cases b1
  ·by_cases hk0:k=0
   ·have hk1:¬ 0<(k:Int):=by omega
    have ih:=hT' i1 false hi2
    refine rG (fc hj hk1) ?_
    refine Ac (oT [0,2,3] (.fork (.alt 1 (oF [4,5,6] (.cons 7 true (.cons 8 false .nil))) (.alt 4 (.cons 1 true (oF [5,6] (.cons 7 true (.cons 8 false .nil)))) .last)))) (by kernel_rfl) AD (by kernel_rfl) ?_
    refine rG (pxF s) ?_
    repeat' (with_reducible apply And.intro)
    all_goals
     refine Ay (ih) rfl rfl rfl (byP (pxF s) tI) (byP (pxF s) tI) (byP (pxF s) tI) rfl ?_
     rintro ⟨t,i3,b3⟩ ⟨ht,hi3,hi4⟩
     simp only at ht hi3 hi4
     have hst:Av (l++[t])=Av l++[.int t.kind,.str t.name,.str t.other,.int t.n,.int t.ty.kind,.rows 2 t.ty.args.length (Ai t.ty.args),.int t.res.kind,.rows 2 t.res.args.length (Ai t.res.args),.rows 9 t.args.length (Av t.args)]:=by rw [At,At,AM,AA,Ak];rfl
     have hln:(l++[t]).length=l.length+1:=by simp
     have hls:=JZ l t
     refine rG (pxF s) ?_
     refine ⟨⟨fun o ho=>by omega,by unfold maxLen;omega,by omega⟩,hin,(l++[t],k+1,i3,b3),rnL [(1,5)],⟨by simp only;omega,by simp only [hls];omega,by simp only;omega,hi4⟩,by simp only;omega, ?_⟩
     exact byP (fc hst (fc hln Bx)) tI
   ·have hk1:0<(k:Int):=by omega
    refine rG (fc hj (eq_true hk1)) ?_
    refine KX (pxF s) (BL ⟨#[32]⟩ s (by decide) hl i1 hi2 false) ?_
    rintro ⟨i2,b2⟩ ⟨w1,w2,w3⟩
    simp only at w1 w2 w3
    have ih:=hT' i2 b2 w3
    refine rG (pxF s) ?_
    refine Ac (oT [0,2,3] (.fork (.alt 1 (oF [4,5,6] (.cons 7 true (.cons 8 false .nil))) (.alt 4 (.cons 1 true (oF [5,6] (.cons 7 true (.cons 8 false .nil)))) .last)))) (by kernel_rfl) AD (by kernel_rfl) ?_
    refine rG (pxF s) ?_
    repeat' (with_reducible apply And.intro)
    all_goals
     refine Ay (ih) rfl rfl rfl (byP (pxF s) tI) (byP (pxF s) tI) (byP (pxF s) tI) rfl ?_
     rintro ⟨t,i3,b3⟩ ⟨ht,hi3,hi4⟩
     simp only at ht hi3 hi4
     have hst:Av (l++[t])=Av l++[.int t.kind,.str t.name,.str t.other,.int t.n,.int t.ty.kind,.rows 2 t.ty.args.length (Ai t.ty.args),.int t.res.kind,.rows 2 t.res.args.length (Ai t.res.args),.rows 9 t.args.length (Av t.args)]:=by rw [At,At,AM,AA,Ak];rfl
     have hln:(l++[t]).length=l.length+1:=by simp
     have hls:=JZ l t
     refine rG (pxF s) ?_
     refine ⟨⟨fun o ho=>by omega,by unfold maxLen;omega,by omega⟩,hin,(l++[t],k+1,i3,b3),rnL [(1,5)],⟨by simp only;omega,by simp only [hls];omega,by simp only;omega,hi4⟩,by simp only;omega, ?_⟩
     exact byP (fc hst (fc hln Bx)) tI
  ·refine rG hj ?_
   refine rG (pxF s) ?_
   refine KX (pxF s) (BL ⟨#[41]⟩ s (by decide) hl i1 hi2 true) ?_
   rintro ⟨i5,b5⟩ ⟨y1,y2,y3⟩
   simp only at y1 y2 y3
   refine rG (fc (pxF s) (fc ntmps288 results288)) ?_
   refine ⟨.inl rfl,(.mk e.kind e.name e.other e.n e.ty e.res l,i5,b5),⟨?_,by simp only;omega,y3⟩, ?_⟩
   ·show msz (.mk e.kind e.name e.other e.n e.ty e.res l)≤_
    rw [BJ]
    simp only
    omega
   refine byP (fc (pxF s) (fc EJ (fc ntmps288 results288))) ?_
   exact Fi
 ·have hj:¬ (k:Int)<(n:Int):=by omega
  refine rG hj ?_
  refine rG (pxF s) ?_
  refine KX (pxF s) (BL ⟨#[41]⟩ s (by decide) hl i1 hi2 b1) ?_
  rintro ⟨i5,b5⟩ ⟨y1,y2,y3⟩
  simp only at y1 y2 y3
  refine rG (fc (pxF s) (fc ntmps288 results288)) ?_
  refine ⟨.inl rfl,(.mk e.kind e.name e.other e.n e.ty e.res l,i5,b5),⟨?_,by simp only;omega,y3⟩, ?_⟩
  ·show msz (.mk e.kind e.name e.other e.n e.ty e.res l)≤_
   rw [BJ]
   simp only
   omega
  refine byP (fc (pxF s) (fc EJ (fc ntmps288 results288))) ?_
  exact Fi
theorem Gf:((1:Nat):Int)=1∧((2:Nat):Int)=2∧((3:Nat):Int)=3∧((0:Nat):Int)=0∧List.length ([]:List Tm)=0∧(∀ t:Tm,List.length [t]=1):=⟨rfl,rfl,rfl,rfl,rfl,fun _=>rfl⟩
theorem XF:tsz (.mk 0 [])=0∧(⟨#[]⟩:ByteArray).size=0:=by decide
set_option maxHeartbeats 8000000 in
theorem Sp (s:ByteArray) (hl:s.size≤1000000) (d:Nat) (hd:d≤21) (hT:Ql s d) (t:Tm) (ht:msz t≤10000000) (i:Nat) (hi:i≤s.size) (b:Bool):Bz prog 290 [.p (rdx s i b),.b (.ag (tmC t)),.b (.one (.int (21-(d:Int))))] (pxI s i (msz t+2)) (pxO s) pxR:=by
 have ho:=Mu t
 have tz:=XF.1
 have ez:=XF.2
 refine AL [0,1,2,3,4,5,6,7,8,9,10,11] func290 rfl rfl (by simp [ntmps290]) (fun _ _=>rfl) ?_
 refine byP (fc (pxF s) (fc ntmps290 results290)) ?_
 refine KX (pxF s) (Bt ⟨#[32]⟩ s (by decide) hl i hi b) ?_
 rintro ⟨x1,j1⟩ ⟨t1,t2,t3⟩
 simp only at t1 t2 t3
 cases x1
 case true =>
  have t4:=t1 rfl
  have he:msz (.mk 7 ⟨#[]⟩ ⟨#[]⟩ 0 (.mk 0 []) (.mk 0 []) [t])=1+msz t:=by rw [BJ,ho,tz,ez];omega
  have hA:=CY s hl d hd hT (.mk 7 ⟨#[]⟩ ⟨#[]⟩ 0 (.mk 0 []) (.mk 0 []) [t]) 1 (by decide) (by omega) j1 t3 b
  refine rG (pxF s) ?_
  refine KX (fc (pxF s) (fc EJ Gf)) hA ?_
  rintro ⟨u,j2,b2⟩ ⟨q1,q2,q3⟩
  simp only at q1 q2 q3
  refine rG (fc (pxF s) (fc ntmps290 results290)) ?_
  refine ⟨.inl rfl,(u,j2,b2),⟨?_,by simp only;omega,q3⟩, ?_⟩
  ·show msz (u)≤_
   simp only;omega
  refine byP (fc (pxF s) (fc EJ (fc mkF (fc ntmps290 results290)))) ?_
  exact Fi
 obtain rfl:=t2 rfl
 have hbad:∀ i:Nat,pxI s i (msz t+2) (.mk 7 ⟨#[]⟩ ⟨#[]⟩ 0 (.mk 0 []) (.mk 0 []) [t],i,true)∨True:=fun _ => .inr trivial
 refine rG (fc (pxF s) (fc ntmps290 results290)) ?_
 refine Ac (oT [0,1,2,3,4,5,6,7,8,9,10,11,12,13,14,15,16,17,18] (.cons 19 false .nil)) (by kernel_rfl) AG (by kernel_rfl) ?_
 cases b
 case true =>
  refine rG (fc (pxF s) (fc ntmps290 results290)) ?_
  refine Ac (oT [0,1,2,3,4,5,6,7,8,9,10,11,12,13,14,15,16,17,18] (.cons 19 false (oT [20,21] .nil))) (by kernel_rfl) AG (by kernel_rfl) ?_
  refine rG (fc (pxF s) (fc ntmps290 results290)) ?_
  refine ⟨.inl rfl,(.mk 7 ⟨#[]⟩ ⟨#[]⟩ 0 (.mk 0 []) (.mk 0 []) [t],j1,true),⟨?_,Nat.le_refl _,t3⟩, ?_⟩
  ·show msz (.mk 7 ⟨#[]⟩ ⟨#[]⟩ 0 (.mk 0 []) (.mk 0 []) [t])≤_
   rw [BJ,ho,tz,ez];simp only;omega
  refine byP (fc (pxF s) (fc EJ (fc mkF (fc ntmps290 results290)))) ?_
  exact Fi
 case false =>
  by_cases hlt:(j1:Int)<(s.size:Int)
  ·have hge:¬ (s.size:Int)≤(j1:Int):=by omega
   have hin:inI ((j1:Int)+1):=by unfold inI;omega
   have k0:0≤(j1:Int):=by omega
   have k1:(j1:Int)≤(j1:Int)+1:=by omega
   have k2:(j1:Int)+1≤(s.size:Int):=by omega
   have k3:((j1:Int)+1).toNat=j1+1:=by omega
   have hO:=FR (s.extract j1 (j1+1))
   have hxs:(s.extract j1 (j1+1)).size=1:=by rw [ByteArray.size_extract];omega
   generalize hw:s.extract j1 (j1+1)=w at hO hxs
   generalize CQ w=m at *
   refine rG (fc (pxF s) (fc hge (fc ntmps290 results290))) ?_
   refine Ac (oT [0,1,2,3,4,5,6,7,8,9,10,11,12,13,14,15,16,17,18] (.cons 19 false (oT [20,21] .nil))) (by kernel_rfl) AG (by kernel_rfl) ?_
   refine rG (fc (pxF s) (fc k0 (fc k1 (fc k2 (fc k3 (fc hin hw)))))) ?_
   refine KD hO ?_
   by_cases hm:m=2
   ·refine rG (fc (pxF s) (fc (eq_true hm) (fc k0 (fc k1 (fc k2 (fc k3 hin)))))) ?_
    refine Ac (oT [0,1,2,3,4,5,6,7,8,9,10,11,12,13,14] (.cons 15 false .nil)) (by kernel_rfl) AG (by kernel_rfl) ?_
    have he:msz (.mk 4 w ⟨#[]⟩ 0 (.mk 0 []) (.mk 0 []) [t])=2+msz t:=by rw [BJ,ho,tz,ez,hxs];omega
    have hA:=CY s hl d hd hT (.mk 4 w ⟨#[]⟩ 0 (.mk 0 []) (.mk 0 []) [t]) 1 (by decide) (by omega) (j1+1) (by omega) false
    refine rG (fc (pxF s) (fc k0 (fc k1 (fc k2 (fc k3 (fc hin hw)))))) ?_
    refine KX (fc (pxF s) (fc EJ (fc Gf Bx))) hA ?_
    rintro ⟨u,j2,b2⟩ ⟨q1,q2,q3⟩
    simp only at q1 q2 q3
    refine rG (fc (pxF s) (fc ntmps290 results290)) ?_
    refine ⟨.inl rfl,(u,j2,b2),⟨?_,by simp only;omega,q3⟩, ?_⟩
    ·show msz (u)≤_
     simp only;omega
    refine byP (fc (pxF s) (fc EJ (fc mkF (fc ntmps290 results290)))) ?_
    exact Fi
   ·refine rG (fc (pxF s) (fc hm (fc ntmps290 results290))) ?_
    refine ⟨.inl rfl,(.mk 7 ⟨#[]⟩ ⟨#[]⟩ 0 (.mk 0 []) (.mk 0 []) [t],j1,true),⟨?_,Nat.le_refl _,t3⟩, ?_⟩
    ·show msz (.mk 7 ⟨#[]⟩ ⟨#[]⟩ 0 (.mk 0 []) (.mk 0 []) [t])≤_
     rw [BJ,ho,tz,ez];simp only;omega
    refine byP (fc (pxF s) (fc EJ (fc mkF (fc ntmps290 results290)))) ?_
    exact Fi
  ·have hge:(s.size:Int)≤(j1:Int):=by omega
   refine rG (fc (pxF s) (fc hge (fc ntmps290 results290))) ?_
   refine Ac (oT [0,1,2,3,4,5,6,7,8,9,10,11,12,13,14,15,16,17,18] (.cons 19 false (oT [20,21] .nil))) (by kernel_rfl) AG (by kernel_rfl) ?_
   refine rG (fc (pxF s) (fc ntmps290 results290)) ?_
   refine ⟨.inl rfl,(.mk 7 ⟨#[]⟩ ⟨#[]⟩ 0 (.mk 0 []) (.mk 0 []) [t],j1,true),⟨?_,Nat.le_refl _,t3⟩, ?_⟩
   ·show msz (.mk 7 ⟨#[]⟩ ⟨#[]⟩ 0 (.mk 0 []) (.mk 0 []) [t])≤_
    rw [BJ,ho,tz,ez];simp only;omega
   refine byP (fc (pxF s) (fc EJ (fc mkF (fc ntmps290 results290)))) ?_
   exact Fi
set_option maxHeartbeats 8000000 in
theorem VG (s:ByteArray) (hl:s.size≤1000000) (d:Nat) (hd:d≤21) (hT:Ql s d) (i:Nat) (hi:i≤s.size) (b:Bool):Bz prog 289 [.p (rdx s i b),.b (.one (.int (21-(d:Int))))] (pxI s i 1) (pxO s) pxR:=by
 have tz:=XF.1
 have ez:=XF.2
 have hd9:(9:Int)-((8:Nat):Int)=1:=by decide
 have hTy:∀ (i:Nat),i≤s.size→∀ (b:Bool),Bz prog 287 [.p (rdx s i b),.b (.one (.int 1))] (aGW s i) (aEo s) aE0:=fun i hi b=>Iu s hl 8 (by decide) i hi b
 refine AL [0,1,2,3,4,5,6,7,8,9,10,11] func289 rfl rfl (by simp [ntmps289]) (fun _ _=>rfl) ?_
 refine byP (fc (pxF s) (fc ntmps289 results289)) ?_
 refine KX (pxF s) (DH s hl i hi b) ?_
 rintro ⟨w1,j1⟩ ⟨a1,a2,a3⟩
 simp only at a1 a2 a3
 refine rG (pxF s) ?_
 refine KX (pxF s) (BL ⟨#[32]⟩ s (by decide) hl j1 a3 b) ?_
 rintro ⟨j2,b2⟩ ⟨c1,c2,c3⟩
 simp only at c1 c2 c3
 refine rG (pxF s) ?_
 refine KX (pxF s) (DH s hl j2 c3 b2) ?_
 rintro ⟨w2,j3⟩ ⟨e1,e2,e3⟩
 simp only at e1 e2 e3
 refine rG (pxF s) ?_
 refine KX (pxF s) (BL ⟨#[58]⟩ s (by decide) hl j3 e3 b2) ?_
 rintro ⟨j4,b4⟩ ⟨f1,f2,f3⟩
 simp only at f1 f2 f3
 refine rG (pxF s) ?_
 refine KX (pxF s) (hTy j4 f3 b4) ?_
 rintro ⟨ty,j5,b5⟩ ⟨g1,g2,g3⟩
 simp only at g1 g2 g3
 refine rG (pxF s) ?_
 refine KX (pxF s) (BL ⟨#[62]⟩ s (by decide) hl j5 g3 b5) ?_
 rintro ⟨j6,b6⟩ ⟨k1,k2,k3⟩
 simp only at k1 k2 k3
 refine rG (pxF s) ?_
 refine KX (pxF s) (hTy j6 k3 b6) ?_
 rintro ⟨tr,j7,b7⟩ ⟨l1,l2,l3⟩
 simp only at l1 l2 l3
 refine rG (pxF s) ?_
 refine KX (pxF s) (BL ⟨#[46]⟩ s (by decide) hl j7 l3 b7) ?_
 rintro ⟨j8,b8⟩ ⟨m1,m2,m3⟩
 simp only at m1 m2 m3
 have he:msz (.mk 9 w1 w2 0 ty tr [])=w1.size+w2.size+tsz ty+tsz tr+0:=by first | (rw [BJ,BF];done) | (rw [BJ,BF];simp only [tz,ez];done) | (rw [BJ,BF];simp only [tz,ez];omega)
 have hA:=CY s hl d hd hT (.mk 9 w1 w2 0 ty tr []) 1 (by decide) (by omega) j8 m3 b8
 refine rG (pxF s) ?_
 refine KX (fc (pxF s) (fc EJ Gf)) hA ?_
 rintro ⟨u,je,be⟩ ⟨q1,q2,q3⟩
 simp only at q1 q2 q3
 refine rG (fc (pxF s) (fc ntmps289 results289)) ?_
 refine ⟨.inl rfl,(u,je,be),⟨?_,by simp only;omega,q3⟩, ?_⟩
 ·show msz (u)≤_
  simp only;omega
 refine byP (fc (pxF s) (fc EJ (fc mkF (fc ntmps289 results289)))) ?_
 exact Fi
set_option maxHeartbeats 16000000 in
theorem RW (s:ByteArray) (hl:s.size≤1000000) (d:Nat) (hd:d≤21) (hT:Ql s d) (i:Nat) (hi:i≤s.size) (b:Bool):Bz prog 282 [.p (rdx s i b),.b (.one (.int (21-(d:Int))))] (pxI s i 3) (pxO s) pxR:=by
 have tz:=XF.1
 have ez:=XF.2
 have hTt:∀ (i:Nat) (b:Bool),i≤s.size→Bz prog 271 [.p (rdx s i b),.b (.one (.int (21-(d:Int))))] (pxI s i 0) (pxO s) pxR:=hT
 have hTy:∀ (i:Nat),i≤s.size→∀ (b:Bool),Bz prog 287 [.p (rdx s i b),.b (.one (.int 1))] (aGW s i) (aEo s) aE0:=fun i hi b=>Iu s hl 8 (by decide) i hi b
 refine AL [0,1,2,3,4,5,6,7,8,9,10,11] func282 rfl rfl (by simp [ntmps282]) (fun _ _=>rfl) ?_
 refine byP (fc (pxF s) (fc ntmps282 results282)) ?_
 refine KX (pxF s) (Bt ⟨#[92]⟩ s (by decide) hl i hi b) ?_
 rintro ⟨x1,j1⟩ ⟨t1,t2,t3⟩
 simp only at t1 t2 t3
 cases x1
 case true =>
  have h9:=t1 rfl
  have h8:(⟨#[92]⟩:ByteArray).size=1:=rfl
  rw [h8] at h9
  refine rG (pxF s) ?_
  refine KX (pxF s) (DH s hl j1 t3 b) ?_
  rintro ⟨w1,k1⟩ ⟨a1,a2,a3⟩
  simp only at a1 a2 a3
  refine rG (pxF s) ?_
  refine KX (pxF s) (BL ⟨#[58]⟩ s (by decide) hl k1 a3 b) ?_
  rintro ⟨k2,b2⟩ ⟨c1,c2,c3⟩
  simp only at c1 c2 c3
  refine rG (pxF s) ?_
  refine KX (pxF s) (hTy k2 c3 b2) ?_
  rintro ⟨ty,k3,b3⟩ ⟨g1,g2,g3⟩
  simp only at g1 g2 g3
  refine rG (pxF s) ?_
  refine KX (pxF s) (BL ⟨#[46]⟩ s (by decide) hl k3 g3 b3) ?_
  rintro ⟨k4,b4⟩ ⟨m1,m2,m3⟩
  simp only at m1 m2 m3
  have he:msz (.mk 6 w1 ⟨#[]⟩ 0 ty (.mk 0 []) [])=w1.size+0+tsz ty+0+0:=by first | (rw [BJ,BF];done) | (rw [BJ,BF];simp only [tz,ez];done) | (rw [BJ,BF];simp only [tz,ez];omega)
  have hA:=CY s hl d hd hT (.mk 6 w1 ⟨#[]⟩ 0 ty (.mk 0 []) []) 1 (by decide) (by omega) k4 m3 b4
  refine rG (pxF s) ?_
  refine KX (fc (pxF s) (fc EJ Gf)) hA ?_
  rintro ⟨u,je,be⟩ ⟨q1,q2,q3⟩
  simp only at q1 q2 q3
  refine rG (fc (pxF s) (fc ntmps282 results282)) ?_
  refine ⟨.inl rfl,(u,je,be),⟨?_,by simp only;omega,q3⟩, ?_⟩
  ·show msz (u)≤_
   simp only;omega
  refine byP (fc (pxF s) (fc EJ (fc mkF (fc ntmps282 results282)))) ?_
  exact Fi
 obtain rfl:=t2 rfl
 refine rG (pxF s) ?_
 refine KX (pxF s) (Bt ⟨#[108,101,116,32]⟩ s (by decide) hl j1 hi b) ?_
 rintro ⟨x2,j2⟩ ⟨u1,u2,u3⟩
 simp only at u1 u2 u3
 cases x2
 case true =>
  have h9:=u1 rfl
  have h8:(⟨#[108,101,116,32]⟩:ByteArray).size=4:=rfl
  rw [h8] at h9
  refine rG (pxF s) ?_
  refine KX (pxF s) (DH s hl j2 u3 b) ?_
  rintro ⟨w1,k1⟩ ⟨a1,a2,a3⟩
  simp only at a1 a2 a3
  refine rG (pxF s) ?_
  refine KX (pxF s) (BL ⟨#[61]⟩ s (by decide) hl k1 a3 b) ?_
  rintro ⟨k2,b2⟩ ⟨c1,c2,c3⟩
  simp only at c1 c2 c3
  have he:msz (.mk 8 w1 ⟨#[]⟩ 0 (.mk 0 []) (.mk 0 []) [])=w1.size+0+0+0+0:=by first | (rw [BJ,BF];done) | (rw [BJ,BF];simp only [tz,ez];done) | (rw [BJ,BF];simp only [tz,ez];omega)
  have hA:=CY s hl d hd hT (.mk 8 w1 ⟨#[]⟩ 0 (.mk 0 []) (.mk 0 []) []) 2 (by decide) (by omega) k2 c3 b2
  refine rG (pxF s) ?_
  refine KX (fc (pxF s) (fc EJ Gf)) hA ?_
  rintro ⟨u,je,be⟩ ⟨q1,q2,q3⟩
  simp only at q1 q2 q3
  refine rG (fc (pxF s) (fc ntmps282 results282)) ?_
  refine ⟨.inl rfl,(u,je,be),⟨?_,by simp only;omega,q3⟩, ?_⟩
  ·show msz (u)≤_
   simp only;omega
  refine byP (fc (pxF s) (fc EJ (fc mkF (fc ntmps282 results282)))) ?_
  exact Fi
 obtain rfl:=u2 rfl
 refine rG (pxF s) ?_
 refine KX (pxF s) (Bt ⟨#[114,101,99,32]⟩ s (by decide) hl j2 hi b) ?_
 rintro ⟨x3,j3⟩ ⟨v1,v2,v3⟩
 simp only at v1 v2 v3
 cases x3
 case true =>
  have h9:=v1 rfl
  have h8:(⟨#[114,101,99,32]⟩:ByteArray).size=4:=rfl
  rw [h8] at h9
  refine rG (pxF s) ?_
  refine KX (pxF s) (VG s hl d hd hT j3 v3 b) ?_
  rintro ⟨u,je,be⟩ ⟨q1,q2,q3⟩
  simp only at q1 q2 q3
  refine rG (fc (pxF s) (fc ntmps282 results282)) ?_
  refine ⟨.inl rfl,(u,je,be),⟨?_,by simp only;omega,q3⟩, ?_⟩
  ·show msz (u)≤_
   simp only;omega
  refine byP (fc (pxF s) (fc EJ (fc mkF (fc ntmps282 results282)))) ?_
  exact Fi
 obtain rfl:=v2 rfl
 refine rG (pxF s) ?_
 refine KX (pxF s) (Bt ⟨#[105,102,32]⟩ s (by decide) hl j3 hi b) ?_
 rintro ⟨x4,j4⟩ ⟨w1,w2,w3⟩
 simp only at w1 w2 w3
 cases x4
 case true =>
  have h9:=w1 rfl
  have h8:(⟨#[105,102,32]⟩:ByteArray).size=3:=rfl
  rw [h8] at h9
  have he:msz (.mk 5 ⟨#[]⟩ ⟨#[]⟩ 0 (.mk 0 []) (.mk 0 []) [])=0+0+0+0+0:=by first | (rw [BJ,BF];done) | (rw [BJ,BF];simp only [tz,ez];done) | (rw [BJ,BF];simp only [tz,ez];omega)
  have hA:=CY s hl d hd hT (.mk 5 ⟨#[]⟩ ⟨#[]⟩ 0 (.mk 0 []) (.mk 0 []) []) 3 (by decide) (by omega) j4 w3 b
  refine rG (pxF s) ?_
  refine KX (fc (pxF s) (fc EJ Gf)) hA ?_
  rintro ⟨u,je,be⟩ ⟨q1,q2,q3⟩
  simp only at q1 q2 q3
  refine rG (fc (pxF s) (fc ntmps282 results282)) ?_
  refine ⟨.inl rfl,(u,je,be),⟨?_,by simp only;omega,q3⟩, ?_⟩
  ·show msz (u)≤_
   simp only;omega
  refine byP (fc (pxF s) (fc EJ (fc mkF (fc ntmps282 results282)))) ?_
  exact Fi
 obtain rfl:=w2 rfl
 refine rG (pxF s) ?_
 refine KX (pxF s) (Bt ⟨#[114,117,110,32]⟩ s (by decide) hl j4 hi b) ?_
 rintro ⟨x5,j5⟩ ⟨y1,y2,y3⟩
 simp only at y1 y2 y3
 cases x5
 case true =>
  have h9:=y1 rfl
  have h8:(⟨#[114,117,110,32]⟩:ByteArray).size=4:=rfl
  rw [h8] at h9
  have he:msz (.mk 12 ⟨#[]⟩ ⟨#[]⟩ 0 (.mk 0 []) (.mk 0 []) [])=0+0+0+0+0:=by first | (rw [BJ,BF];done) | (rw [BJ,BF];simp only [tz,ez];done) | (rw [BJ,BF];simp only [tz,ez];omega)
  have hA:=CY s hl d hd hT (.mk 12 ⟨#[]⟩ ⟨#[]⟩ 0 (.mk 0 []) (.mk 0 []) []) 1 (by decide) (by omega) j5 y3 b
  refine rG (pxF s) ?_
  refine KX (fc (pxF s) (fc EJ Gf)) hA ?_
  rintro ⟨u,je,be⟩ ⟨q1,q2,q3⟩
  simp only at q1 q2 q3
  refine rG (fc (pxF s) (fc ntmps282 results282)) ?_
  refine ⟨.inl rfl,(u,je,be),⟨?_,by simp only;omega,q3⟩, ?_⟩
  ·show msz (u)≤_
   simp only;omega
  refine byP (fc (pxF s) (fc EJ (fc mkF (fc ntmps282 results282)))) ?_
  exact Fi
 obtain rfl:=y2 rfl
 refine rG (pxF s) ?_
 refine KX (pxF s) (Bt ⟨#[108,105,102,116,32]⟩ s (by decide) hl j5 hi b) ?_
 rintro ⟨x6,j6⟩ ⟨z1,z2,z3⟩
 simp only at z1 z2 z3
 cases x6
 case true =>
  have h9:=z1 rfl
  have h8:(⟨#[108,105,102,116,32]⟩:ByteArray).size=5:=rfl
  rw [h8] at h9
  have he:msz (.mk 13 ⟨#[]⟩ ⟨#[]⟩ 0 (.mk 0 []) (.mk 0 []) [])=0+0+0+0+0:=by first | (rw [BJ,BF];done) | (rw [BJ,BF];simp only [tz,ez];done) | (rw [BJ,BF];simp only [tz,ez];omega)
  have hA:=CY s hl d hd hT (.mk 13 ⟨#[]⟩ ⟨#[]⟩ 0 (.mk 0 []) (.mk 0 []) []) 1 (by decide) (by omega) j6 z3 b
  refine rG (pxF s) ?_
  refine KX (fc (pxF s) (fc EJ Gf)) hA ?_
  rintro ⟨u,je,be⟩ ⟨q1,q2,q3⟩
  simp only at q1 q2 q3
  refine rG (fc (pxF s) (fc ntmps282 results282)) ?_
  refine ⟨.inl rfl,(u,je,be),⟨?_,by simp only;omega,q3⟩, ?_⟩
  ·show msz (u)≤_
   simp only;omega
  refine byP (fc (pxF s) (fc EJ (fc mkF (fc ntmps282 results282)))) ?_
  exact Fi
 obtain rfl:=z2 rfl
 refine rG (pxF s) ?_
 refine KX (pxF s) (Bt ⟨#[33]⟩ s (by decide) hl j6 hi b) ?_
 rintro ⟨x7,j7⟩ ⟨zz1,zz2,zz3⟩
 simp only at zz1 zz2 zz3
 cases x7
 case true =>
  have h9:=zz1 rfl
  have h8:(⟨#[33]⟩:ByteArray).size=1:=rfl
  rw [h8] at h9
  have he:msz (.mk 4 ⟨#[33]⟩ ⟨#[]⟩ 0 (.mk 0 []) (.mk 0 []) [])=1+0+0+0+0:=by first | (rw [BJ,BF];done) | (rw [BJ,BF];simp only [tz,ez];done) | (rw [BJ,BF];simp only [tz,ez];omega)
  have hA:=CY s hl d hd hT (.mk 4 ⟨#[33]⟩ ⟨#[]⟩ 0 (.mk 0 []) (.mk 0 []) []) 1 (by decide) (by omega) j7 zz3 b
  refine rG (pxF s) ?_
  refine KX (fc (pxF s) (fc EJ Gf)) hA ?_
  rintro ⟨u,je,be⟩ ⟨q1,q2,q3⟩
  simp only at q1 q2 q3
  refine rG (fc (pxF s) (fc ntmps282 results282)) ?_
  refine ⟨.inl rfl,(u,je,be),⟨?_,by simp only;omega,q3⟩, ?_⟩
  ·show msz (u)≤_
   simp only;omega
  refine byP (fc (pxF s) (fc EJ (fc mkF (fc ntmps282 results282)))) ?_
  exact Fi
 obtain rfl:=zz2 rfl
 refine rG (pxF s) ?_
 refine KX (pxF s) (hTt j7 b hi) ?_
 rintro ⟨t,k1,b1⟩ ⟨p1,p2,p3⟩
 simp only at p1 p2 p3
 have hR:=Sp s hl d hd hT t (by omega) k1 p3 b1
 refine rG (pxF s) ?_
 refine KX (fc (pxF s) Ak) hR ?_
 rintro ⟨u,je,be⟩ ⟨q1,q2,q3⟩
 simp only at q1 q2 q3
 refine rG (fc (pxF s) (fc ntmps282 results282)) ?_
 refine ⟨.inl rfl,(u,je,be),⟨?_,by simp only;omega,q3⟩, ?_⟩
 ·show msz (u)≤_
  simp only;omega
 refine byP (fc (pxF s) (fc EJ (fc mkF (fc ntmps282 results282)))) ?_
 exact Fi
set_option maxHeartbeats 16000000 in
theorem Mb (s:ByteArray) (hl:s.size≤1000000):∀ (d:Nat),d≤20→Ql s d
 | d,hd,i,true,hi=>by
  refine AL [0,1,2,3,4,5,6,7,8,9,10,11] func271 rfl rfl (by simp [ntmps271]) (fun _ _=>rfl) ?_
  refine byP (fc (pxF s) (fc ntmps271 results271)) ?_
  refine Ac (oT [0,1,2,3,4,5,6,7,8,9,10,11,12,13,14,15,16,17,18,19,20,21,22] (.cons 23 false .nil)) (by kernel_rfl) AG (by kernel_rfl) ?_
  refine rG (fc (pxF s) (fc ntmps271 results271)) ?_
  refine ⟨.inl rfl,(.mk 0 ⟨#[]⟩ ⟨#[]⟩ 0 (.mk 0 []) (.mk 0 []) [],i,true),⟨?_,Nat.le_refl _,hi⟩, ?_⟩
  ·show msz (.mk 0 ⟨#[]⟩ ⟨#[]⟩ 0 (.mk 0 []) (.mk 0 []) [])≤_
   exact Nat.zero_le _
  refine byP (fc (pxF s) (fc EJ (fc mkF (fc ntmps271 results271)))) ?_
  exact Fi
 | 0,hd,i,false,hi=>by
  have h9:20<(21:Int)-((0:Nat):Int):=by decide
  refine AL [0,1,2,3,4,5,6,7,8,9,10,11] func271 rfl rfl (by simp [ntmps271]) (fun _ _=>rfl) ?_
  refine byP (fc (pxF s) (fc ntmps271 results271)) ?_
  refine Ac (oT [0,1,2,3,4,5,6,7,8,9,10,11,12,13,14,15,16,17,18,19,20,21,22] (.cons 23 false .nil)) (by kernel_rfl) AG (by kernel_rfl) ?_
  refine rG (fc (pxF s) (fc h9 (fc ntmps271 results271))) ?_
  refine ⟨.inl rfl,(.mk 0 ⟨#[]⟩ ⟨#[]⟩ 0 (.mk 0 []) (.mk 0 []) [],i,true),⟨?_,Nat.le_refl _,hi⟩, ?_⟩
  ·show msz (.mk 0 ⟨#[]⟩ ⟨#[]⟩ 0 (.mk 0 []) (.mk 0 []) [])≤_
   exact Nat.zero_le _
  refine byP (fc (pxF s) (fc EJ (fc mkF (fc ntmps271 results271)))) ?_
  exact Fi
 | d+1,hd,i,false,hi=>by
  have tz:=XF.1
  have ez:=XF.2
  have hT5:Ql s d:=Mb s hl d (by omega)
  have ih:∀ (i:Nat) (b:Bool),i≤s.size→Bz prog 271 [.p (rdx s i b),.b (.one (.int (21-(d:Int))))] (pxI s i 0) (pxO s) pxR:=hT5
  have h9:¬ 20<(21:Int)-((d+1:Nat):Int):=by omega
  have hs:(21:Int)-((d+1:Nat):Int)+1=21-(d:Int):=by omega
  have hin:inI ((21:Int)-(d:Int)):=by unfold inI;omega
  generalize (21:Int)-((d+1:Nat):Int)=dp at *
  by_cases hlt:(i:Int)<(s.size:Int)
  ·have hge:¬ (s.size:Int)≤(i:Int):=by omega
   refine AL [0,1,2,3,4,5,6,7,8,9,10,11] func271 rfl rfl (by simp [ntmps271]) (fun _ _=>rfl) ?_
   refine byP (fc (pxF s) (fc ntmps271 results271)) ?_
   refine Ac (oT [0,1,2,3,4,5,6,7,8,9,10,11,12,13,14,15,16,17,18,19,20,21,22] (.cons 23 false .nil)) (by kernel_rfl) AG (by kernel_rfl) ?_
   refine rG (fc (pxF s) (fc h9 (fc hge (fc ntmps271 results271)))) ?_
   refine KX (pxF s) (Bt ⟨#[35,116]⟩ s (by decide) hl i hi false) ?_
   rintro ⟨x1,j1⟩ ⟨t1,t2,t3⟩
   simp only at t1 t2 t3
   cases x1
   case true =>
    have h9:=t1 rfl
    have h8:(⟨#[35,116]⟩:ByteArray).size=2:=rfl
    rw [h8] at h9
    refine rG (pxF s) ?_
    refine KR (FT 1) ?_
    refine rG (fc (pxF s) (fc ntmps271 results271)) ?_
    refine ⟨.inl rfl,(.mk 3 ⟨#[]⟩ ⟨#[]⟩ 1 (.mk 0 []) (.mk 0 []) [],j1,false),⟨?_,by simp only;omega,t3⟩, ?_⟩
    ·show msz (.mk 3 ⟨#[]⟩ ⟨#[]⟩ 1 (.mk 0 []) (.mk 0 []) [])≤_
     exact Nat.zero_le _
    refine byP (fc (pxF s) (fc EJ (fc mkF (fc ntmps271 results271)))) ?_
    exact Fi
   obtain rfl:=t2 rfl
   refine rG (pxF s) ?_
   refine KX (pxF s) (Bt ⟨#[35,102]⟩ s (by decide) hl j1 hi false) ?_
   rintro ⟨x2,j2⟩ ⟨u1,u2,u3⟩
   simp only at u1 u2 u3
   cases x2
   case true =>
    have h9:=u1 rfl
    have h8:(⟨#[35,102]⟩:ByteArray).size=2:=rfl
    rw [h8] at h9
    refine rG (pxF s) ?_
    refine KR (FT 0) ?_
    refine rG (fc (pxF s) (fc ntmps271 results271)) ?_
    refine ⟨.inl rfl,(.mk 3 ⟨#[]⟩ ⟨#[]⟩ 0 (.mk 0 []) (.mk 0 []) [],j2,false),⟨?_,by simp only;omega,u3⟩, ?_⟩
    ·show msz (.mk 3 ⟨#[]⟩ ⟨#[]⟩ 0 (.mk 0 []) (.mk 0 []) [])≤_
     exact Nat.zero_le _
    refine byP (fc (pxF s) (fc EJ (fc mkF (fc ntmps271 results271)))) ?_
    exact Fi
   obtain rfl:=u2 rfl
   refine rG (pxF s) ?_
   refine KX (pxF s) (Bt ⟨#[126]⟩ s (by decide) hl j2 hi false) ?_
   rintro ⟨x3,j3⟩ ⟨v1,v2,v3⟩
   simp only at v1 v2 v3
   cases x3
   case true =>
    have h9:=v1 rfl
    have h8:(⟨#[126]⟩:ByteArray).size=1:=rfl
    rw [h8] at h9
    refine rG (fc (pxF s) (fc hs hin)) ?_
    refine KX (pxF s) (ih j3 false v3) ?_
    rintro ⟨u,je,be⟩ ⟨q1,q2,q3⟩
    simp only at q1 q2 q3
    have ho:=Mu u
    refine rG (fc (pxF s) (fc ntmps271 results271)) ?_
    refine ⟨.inl rfl,(.mk 11 ⟨#[]⟩ ⟨#[]⟩ 0 (.mk 0 []) (.mk 0 []) [u],je,be),⟨?_,by simp only;omega,q3⟩, ?_⟩
    ·show msz (.mk 11 ⟨#[]⟩ ⟨#[]⟩ 0 (.mk 0 []) (.mk 0 []) [u])≤_
     rw [BJ,ho];simp only [tz,ez];omega
    refine byP (fc (pxF s) (fc EJ (fc mkF (fc Ak (fc ntmps271 results271))))) ?_
    exact Fi
   obtain rfl:=v2 rfl
   refine rG (pxF s) ?_
   refine KX (pxF s) (Bt ⟨#[60]⟩ s (by decide) hl j3 hi false) ?_
   rintro ⟨x4,j4⟩ ⟨w1,w2,w3⟩
   simp only at w1 w2 w3
   cases x4
   case true =>
    have h9:=w1 rfl
    have h8:(⟨#[60]⟩:ByteArray).size=1:=rfl
    rw [h8] at h9
    refine rG (fc (pxF s) (fc hs hin)) ?_
    refine KX (pxF s) (ih j4 false w3) ?_
    rintro ⟨u,je,be⟩ ⟨q1,q2,q3⟩
    simp only at q1 q2 q3
    have ho:=Mu u
    refine rG (pxF s) ?_
    refine KX (pxF s) (BL ⟨#[62]⟩ s (by decide) hl je q3 be) ?_
    rintro ⟨jf,bf⟩ ⟨c1,c2,c3⟩
    simp only at c1 c2 c3
    refine rG (fc (pxF s) (fc ntmps271 results271)) ?_
    refine ⟨.inl rfl,(.mk 10 ⟨#[]⟩ ⟨#[]⟩ 0 (.mk 0 []) (.mk 0 []) [u],jf,bf),⟨?_,by simp only;omega,c3⟩, ?_⟩
    ·show msz (.mk 10 ⟨#[]⟩ ⟨#[]⟩ 0 (.mk 0 []) (.mk 0 []) [u])≤_
     rw [BJ,ho];simp only [tz,ez];omega
    refine byP (fc (pxF s) (fc EJ (fc mkF (fc ntmps271 results271)))) ?_
    exact Fi
   obtain rfl:=w2 rfl
   refine rG (pxF s) ?_
   refine KX (pxF s) (Bt ⟨#[40]⟩ s (by decide) hl j4 hi false) ?_
   rintro ⟨x5,j5⟩ ⟨y1,y2,y3⟩
   simp only at y1 y2 y3
   cases x5
   case true =>
    have h9:=y1 rfl
    have h8:(⟨#[40]⟩:ByteArray).size=1:=rfl
    rw [h8] at h9
    refine rG (fc (pxF s) (fc hs hin)) ?_
    refine KX (pxF s) (RW s hl d (by omega) hT5 j5 y3 false) ?_
    rintro ⟨u,je,be⟩ ⟨q1,q2,q3⟩
    simp only at q1 q2 q3
    refine rG (fc (pxF s) (fc ntmps271 results271)) ?_
    refine ⟨.inl rfl,(u,je,be),⟨?_,by simp only;omega,q3⟩, ?_⟩
    ·show msz (u)≤_
     simp only;omega
    refine byP (fc (pxF s) (fc EJ (fc mkF (fc ntmps271 results271)))) ?_
    exact Fi
   obtain rfl:=y2 rfl
   refine rG (pxF s) ?_
   refine Ac (oT [0,1,2,3,4,5,6,7,8,9,10,11,12,13,14,15,16,17,18,19,20,21,22] .nil) (by kernel_rfl) AG (by kernel_rfl) ?_
   have k0:0≤(j5:Int):=by omega
   by_cases c1:48≤((s.data.getD j5 0).toNat:Int)
   ·by_cases c2:((s.data.getD j5 0).toNat:Int)≤57
    ·refine rG (fc (pxF s) (fc k0 (fc hlt (fc c1 c2)))) ?_
     refine KX (pxF s) (WU s hl j5 hi false) ?_
     rintro ⟨u,je,be⟩ ⟨q1,q2,q3⟩
     simp only at q1 q2 q3
     refine rG (fc (pxF s) (fc ntmps271 results271)) ?_
     refine ⟨.inl rfl,(u,je,be),⟨?_,by simp only;omega,q3⟩, ?_⟩
     ·show msz (u)≤_
      simp only;omega
     refine byP (fc (pxF s) (fc EJ (fc mkF (fc ntmps271 results271)))) ?_
     exact Fi
    ·refine rG (fc (pxF s) (fc k0 (fc hlt (fc c1 c2)))) ?_
     refine KX (pxF s) (DH s hl j5 hi false) ?_
     rintro ⟨w1,je⟩ ⟨q1,q2,q3⟩
     simp only at q1 q2 q3
     refine rG (pxF s) ?_
     refine KR (Hw w1) ?_
     refine rG (fc (pxF s) (fc ntmps271 results271)) ?_
     refine ⟨.inl rfl,(.mk 1 w1 ⟨#[]⟩ 0 (.mk 0 []) (.mk 0 []) [],je,false),⟨?_,by simp only;omega,q3⟩, ?_⟩
     ·show msz (.mk 1 w1 ⟨#[]⟩ 0 (.mk 0 []) (.mk 0 []) [])≤_
      rw [BJ,BF];simp only [tz,ez];omega
     refine byP (fc (pxF s) (fc EJ (fc mkF (fc ntmps271 results271)))) ?_
     exact Fi
   ·refine rG (fc (pxF s) (fc k0 (fc hlt c1))) ?_
    refine KX (pxF s) (DH s hl j5 hi false) ?_
    rintro ⟨w1,je⟩ ⟨q1,q2,q3⟩
    simp only at q1 q2 q3
    refine rG (pxF s) ?_
    refine KR (Hw w1) ?_
    refine rG (fc (pxF s) (fc ntmps271 results271)) ?_
    refine ⟨.inl rfl,(.mk 1 w1 ⟨#[]⟩ 0 (.mk 0 []) (.mk 0 []) [],je,false),⟨?_,by simp only;omega,q3⟩, ?_⟩
    ·show msz (.mk 1 w1 ⟨#[]⟩ 0 (.mk 0 []) (.mk 0 []) [])≤_
     rw [BJ,BF];simp only [tz,ez];omega
    refine byP (fc (pxF s) (fc EJ (fc mkF (fc ntmps271 results271)))) ?_
    exact Fi
  ·have hge:(s.size:Int)≤(i:Int):=by omega
   refine AL [0,1,2,3,4,5,6,7,8,9,10,11] func271 rfl rfl (by simp [ntmps271]) (fun _ _=>rfl) ?_
   refine byP (fc (pxF s) (fc ntmps271 results271)) ?_
   refine Ac (oT [0,1,2,3,4,5,6,7,8,9,10,11,12,13,14,15,16,17,18,19,20,21,22] (.cons 23 false .nil)) (by kernel_rfl) AG (by kernel_rfl) ?_
   refine rG (fc (pxF s) (fc h9 (fc hge (fc ntmps271 results271)))) ?_
   refine ⟨.inl rfl,(.mk 0 ⟨#[]⟩ ⟨#[]⟩ 0 (.mk 0 []) (.mk 0 []) [],i,true),⟨?_,Nat.le_refl _,hi⟩, ?_⟩
   ·show msz (.mk 0 ⟨#[]⟩ ⟨#[]⟩ 0 (.mk 0 []) (.mk 0 []) [])≤_
    exact Nat.zero_le _
   refine byP (fc (pxF s) (fc EJ (fc mkF (fc ntmps271 results271)))) ?_
   exact Fi
def Ez:List ByteArray→Nat
 | []=>0
 | x :: l=>x.size+Ez l
theorem HF:∀ (a b:List ByteArray),Ez (a++b)=Ez a+Ez b
 | [],b=>by rw [List.nil_append,Ez,Nat.zero_add]
 | x :: a,b=>by rw [List.cons_append,Ez,Ez,HF a b];omega
theorem Ps (x:ByteArray):Ez [x]=x.size:=by rw [Ez,Ez];rfl
theorem Fd:∀ (l:List ByteArray) (k:Nat),k<l.length→(l[k]!).size≤Ez l
 | [],k,h=>by simp at h
 | x :: l,0,h=>by rw [Ez];simp
 | x :: l,k+1,h=>by rw [Ez];have:=Fd l k (by simpa using h);simp only [List.getElem!_cons_succ];omega
theorem RU (l:List ByteArray) (k:Nat):Ez (l.take k)≤Ez l:=by
 have:=HF (l.take k) (l.drop k)
 rw [List.take_append_drop] at this
 omega
theorem Rh (xs:List ByteArray) (sep:ByteArray):∀ k,k≤xs.length→(jn xs sep k).length≤Ez (xs.take k)+k * sep.size
 | 0,_=>Nat.zero_le _
 | k+1,h=>by
  have ht:Ez (xs.take (k+1))=Ez (xs.take k)+(xs[k]!).size:=by rw [AH xs k h,HF,Ps]
  rw [jn,Nat.succ_mul,ht]
  have hz:∀ b:ByteArray,b.data.toList.length=b.size:=fun b=>Array.length_toList
  split
  ·rename_i h0;subst h0;rw [hz];omega
  ·have:=Rh xs sep k (by omega)
   simp only [List.length_append,hz];omega
theorem VW (xs:List ByteArray) (sep:ByteArray):(WC xs sep).size≤Ez xs+xs.length * sep.size:=by
 have h:=Rh xs sep xs.length (Nat.le_refl _)
 rw [List.take_length] at h
 exact h
mutual
theorem QV:∀ t:Ty,szT t=1+szL (tyC t)
 | .mk k xs=>by
  rw [szT,Pp xs]
  simp [tyC,szL,szD]
theorem Pp:∀ xs:List Ty,GL xs=xs.length+szL (Ai xs)
 | []=>rfl
 | x :: xs=>by
  rw [GL,QV x,Pp xs,Ai,Ah,List.length_cons]
  omega
end
def txB (t:Ty):ByteArray:=bs (txT t)
theorem Ss (t:Ty):(txB t).size≤3+3 * tsz t:=by
 unfold txB
 rw [Ke]
 have h:=KC t
 rw [QV] at h
 unfold tsz
 omega
theorem Se (l:List Tm) (k:Nat) (h:k<l.length):szL (Av (l.take (k+1)))=szL (Av (l.take k))+msz l[k]! := by
 rw [AH l k h,Ek,Ah,IY];rfl
theorem Nw {t:Ty} (h:vTy t=true):BE t=true:=by
 unfold vTy at h;simp only [Bool.and_eq_true] at h;exact h.2.2
theorem Wn {t:Tm} (h:EO t=true):t.kind=1∨(t.kind=2∧0≤t.n∧t.n≤10006)∨(t.kind=3∧0≤t.n∧t.n≤1)∨(t.kind=4∧(t.args.length=1∨t.args.length=2))∨(t.kind=5∧t.args.length=3)∨(t.kind=6∧t.args.length=1∧vTy t.ty=true)∨(t.kind=7∧t.args.length=2)∨(t.kind=8∧t.args.length=2)∨(t.kind=9∧t.args.length=1∧vTy t.ty=true∧vTy t.res=true)∨(t.kind=10∧t.args.length=1)∨(t.kind=11∧t.args.length=1)∨(t.kind=12∧t.args.length=1)∨(t.kind=13∧t.args.length=1):=by
 rw [YP] at h
 simp only [Bool.and_eq_true,decide_eq_true_eq] at h
 obtain ⟨hf,hl⟩:=h
 unfold aAB at hf
 simp only [Bool.and_eq_true] at hf
 obtain ⟨h1,h2,h3,h4⟩:=hf
 unfold rgB at h3
 simp only [Bool.and_eq_true,decide_eq_true_eq] at h3
 by_cases k1:t.kind=1
 ·exact .inl k1
 by_cases k2:t.kind=2
 ·rw [k2] at h3;exact .inr (.inl ⟨k2,h3⟩)
 by_cases k3:t.kind=3
 ·rw [k3] at h3;exact .inr (.inr (.inl ⟨k3,h3⟩))
 by_cases k4:t.kind=4
 ·refine .inr (.inr (.inr (.inl ⟨k4, ?_⟩)))
  rw [k4] at hl h4
  have hn:0<CQ t.name:=by
   unfold nmF at h4
   simp only [if_true,Bool.and_eq_true,decide_eq_true_eq] at h4
   exact h4.1
  have hr:=Pi t.name
  have:arF (-1) 4 t.name=CQ t.name:=rfl
  omega
 by_cases k5:t.kind=5
 ·rw [k5] at hl;exact .inr (.inr (.inr (.inr (.inl ⟨k5,by have:arF (-1) 5 t.name=3:=rfl;omega⟩))))
 by_cases k6:t.kind=6
 ·rw [if_pos k6] at h1
  rw [k6] at hl;exact .inr (.inr (.inr (.inr (.inr (.inl ⟨k6,by have:arF (-1) 6 t.name=1:=rfl;omega,h1⟩)))))
 by_cases k7:t.kind=7
 ·rw [k7] at hl;exact .inr (.inr (.inr (.inr (.inr (.inr (.inl ⟨k7,by have:arF (-1) 7 t.name=2:=rfl;omega⟩))))))
 by_cases k8:t.kind=8
 ·rw [k8] at hl;exact .inr (.inr (.inr (.inr (.inr (.inr (.inr (.inl ⟨k8,by have:arF (-1) 8 t.name=2:=rfl;omega⟩)))))))
 by_cases k9:t.kind=9
 ·rw [if_neg k6,if_pos k9] at h1
  rw [if_pos k9] at h2
  rw [k9] at hl;exact .inr (.inr (.inr (.inr (.inr (.inr (.inr (.inr (.inl ⟨k9,by have:arF (-1) 9 t.name=1:=rfl;omega,h1,h2⟩))))))))
 by_cases k10:t.kind=10
 ·rw [k10] at hl;exact .inr (.inr (.inr (.inr (.inr (.inr (.inr (.inr (.inr (.inl ⟨k10,by have:arF (-1) 10 t.name=1:=rfl;omega⟩)))))))))
 by_cases k11:t.kind=11
 ·rw [k11] at hl;exact .inr (.inr (.inr (.inr (.inr (.inr (.inr (.inr (.inr (.inr (.inl ⟨k11,by have:arF (-1) 11 t.name=1:=rfl;omega⟩))))))))))
 by_cases k12:t.kind=12
 ·rw [k12] at hl;exact .inr (.inr (.inr (.inr (.inr (.inr (.inr (.inr (.inr (.inr (.inr (.inl ⟨k12,by have:arF (-1) 12 t.name=1:=rfl;omega⟩)))))))))))
 by_cases k13:t.kind=13
 ·rw [k13] at hl;exact .inr (.inr (.inr (.inr (.inr (.inr (.inr (.inr (.inr (.inr (.inr (.inr ⟨k13,by have:arF (-1) 13 t.name=1:=rfl;omega⟩)))))))))))
 ·exfalso
  unfold arF at hl
  rw [if_neg k1,if_neg k2,if_neg k3,if_neg k4,if_neg k5,if_neg k6,if_neg k7,if_neg k8,if_neg k9,if_neg k10,if_neg k11,if_neg k12,if_neg k13] at hl
  omega
def xtI (m:Nat) (x:ByteArray):Prop:=x.size≤m
def xtO (x:ByteArray):List (List CD):=[]
def xtR (x:ByteArray):List RD:=[.one (.o (.str x))]
theorem xtF:(∀ x,xtO x=[])∧(∀ x,xtR x=[.one (.o (.str x))]):=⟨fun _=>rfl,fun _=>rfl⟩
theorem szS:(⟨#[]⟩:ByteArray).size=0∧(⟨#[40]⟩:ByteArray).size=1∧(⟨#[41]⟩:ByteArray).size=1∧(⟨#[32]⟩:ByteArray).size=1∧(⟨#[58]⟩:ByteArray).size=1∧(⟨#[46]⟩:ByteArray).size=1∧(⟨#[61]⟩:ByteArray).size=1∧(⟨#[62]⟩:ByteArray).size=1∧(⟨#[60]⟩:ByteArray).size=1∧(⟨#[126]⟩:ByteArray).size=1∧(⟨#[35]⟩:ByteArray).size=1∧(⟨#[40,33]⟩:ByteArray).size=2∧(⟨#[40,92]⟩:ByteArray).size=2∧(⟨#[40,105,102,32]⟩:ByteArray).size=4∧(⟨#[40,108,101,116,32]⟩:ByteArray).size=5∧(⟨#[40,114,101,99,32]⟩:ByteArray).size=5∧(⟨#[40,114,117,110,32]⟩:ByteArray).size=5∧(⟨#[40,108,105,102,116,32]⟩:ByteArray).size=6:=by decide
def hdz (e:Tm):Nat:=e.name.size+e.other.size+3 * tsz e.ty+3 * tsz e.res
set_option maxHeartbeats 8000000 in
theorem DM (e : Tm) (L : List ByteArray) (m : Nat) (hL : Ez L ≤ m) (hm : m ≤ 400000000) (he : msz e ≤ 10000000) (h0 : 0 < L.length) (hl3 : L.length ≤ 3) (hty : e.kind = 6 ∨ e.kind = 9 → BE e.ty = true) (htr : e.kind = 9 → BE e.res = true) : Bz prog 292 [.b (.ag (tmC e)), .b (.one (.rows 1 L.length (L.map D.str)))] (xtI (m + 20 + hdz e)) xtO xtR := by
  have hez2 : hdz e = e.name.size + e.other.size + 3 * tsz e.ty + 3 * tsz e.res := rfl
  have hez := Oi e
  have hJ : Con prog 294 [.one (.rows 1 L.length (L.map D.str)), .one (.str ⟨#[32]⟩)] [.one (.str (WC L ⟨#[32]⟩))] := TH L ⟨#[32]⟩ (by omega) fun k hk => by
    have h1 := Rh L ⟨#[32]⟩ k hk
    have h2 := RU L k
    rw [show (⟨#[32]⟩ : ByteArray).size = 1 from rfl] at h1
    omega
  have hj := VW L ⟨#[32]⟩
  rw [show (⟨#[32]⟩ : ByteArray).size = 1 from rfl] at hj
  generalize WC L ⟨#[32]⟩ = J at *
  have a0 : (0 : Int) < (L.length : Int) := by omega
  have q0 := Fd L 0 (by omega)
  have s0 := Cc L 0 (by omega)
  have s0' : rowAt 1 (L.map D.str) 0 = [.str L[0]!] := s0
  by_cases k5 : e.kind = 5
  · refine AF func292 rfl rfl (by simp [ntmps292]) (fun _ _ => rfl) ?_
    refine byP (fc k5 (fc ntmps292 results292)) ?_
    refine Kc hJ ?_
    refine rG (fc ntmps292 results292) ?_
    repeat' (with_reducible apply And.intro)
    all_goals first
      | (simp only [ByteArray.size_append, szS]; unfold maxLen; omega)
      | omega
      | (refine ⟨.inl rfl, ⟨#[40, 105, 102, 32]⟩ ++ J ++ ⟨#[41]⟩, ?_, ?_⟩
         · show ByteArray.size _ ≤ _
           simp only [ByteArray.size_append, szS]; omega
         · exact byP (fc xtF (fc ntmps292 results292)) tI
         done)
  by_cases k6 : e.kind = 6
  · have hT : Con prog 295 [.ag (tyC e.ty)] [.one (.str (txB e.ty))] := IU e.ty (hty (.inl k6)) (by show tsz e.ty ≤ _; omega)
    have ht := Ss e.ty
    rw [Au] at hT
    generalize txB e.ty = T at *
    refine AF func292 rfl rfl (by simp [ntmps292]) (fun _ _ => rfl) ?_
    refine byP (fc k6 (fc ntmps292 results292)) ?_
    refine Ac (oT [0,1,2,3,4,5,9,10,11] (.cons 6 false (oT [7,8,12,13,14] .nil))) (by kernel_rfl) Bs (by kernel_rfl) ?_
    refine rG (fc a0 s0') ?_
    repeat' (with_reducible apply And.intro)
    all_goals first | (simp only [ByteArray.size_append, szS]; unfold maxLen; omega) | skip
    all_goals
      refine KD hT ?_
      refine rG (fc a0 (fc s0' (fc ntmps292 results292))) ?_
      repeat' (with_reducible apply And.intro)
      all_goals first
        | (simp only [ByteArray.size_append, szS]; unfold maxLen; omega)
        | omega
        | (refine ⟨.inl rfl, ⟨#[40, 92]⟩ ++ e.name ++ ⟨#[58]⟩ ++ T ++ ⟨#[46]⟩ ++ L[0]! ++ ⟨#[41]⟩, ?_, ?_⟩
           · show ByteArray.size _ ≤ _
             simp only [ByteArray.size_append, szS]; omega
           · exact byP (fc xtF (fc ntmps292 results292)) tI
           done)
  by_cases k7 : e.kind = 7
  · refine AF func292 rfl rfl (by simp [ntmps292]) (fun _ _ => rfl) ?_
    refine byP (fc k7 (fc ntmps292 results292)) ?_
    refine Kc hJ ?_
    refine rG (fc ntmps292 results292) ?_
    repeat' (with_reducible apply And.intro)
    all_goals first
      | (simp only [ByteArray.size_append, szS]; unfold maxLen; omega)
      | omega
      | (refine ⟨.inl rfl, ⟨#[40]⟩ ++ J ++ ⟨#[41]⟩, ?_, ?_⟩
         · show ByteArray.size _ ≤ _
           simp only [ByteArray.size_append, szS]; omega
         · exact byP (fc xtF (fc ntmps292 results292)) tI
         done)
  by_cases k8 : e.kind = 8
  · refine AF func292 rfl rfl (by simp [ntmps292]) (fun _ _ => rfl) ?_
    refine byP (fc k8 (fc ntmps292 results292)) ?_
    refine Ac (oT [0,1,2,3,4] (.cons 5 false (oT [6,7,8] .nil))) (by kernel_rfl) Bs (by kernel_rfl) ?_
    refine rQ ?_
    repeat' (with_reducible apply And.intro)
    all_goals first | (simp only [ByteArray.size_append, szS]; unfold maxLen; omega) | skip
    all_goals
      refine KD hJ ?_
      refine rG (fc ntmps292 results292) ?_
      repeat' (with_reducible apply And.intro)
      all_goals first
        | (simp only [ByteArray.size_append, szS]; unfold maxLen; omega)
        | omega
        | (refine ⟨.inl rfl, ⟨#[40, 108, 101, 116, 32]⟩ ++ e.name ++ ⟨#[61]⟩ ++ J ++ ⟨#[41]⟩, ?_, ?_⟩
           · show ByteArray.size _ ≤ _
             simp only [ByteArray.size_append, szS]; omega
           · exact byP (fc xtF (fc ntmps292 results292)) tI
           done)
  by_cases k9 : e.kind = 9
  · have hT : Con prog 295 [.ag (tyC e.ty)] [.one (.str (txB e.ty))] := IU e.ty (hty (.inr k9)) (by show tsz e.ty ≤ _; omega)
    have ht := Ss e.ty
    have hR : Con prog 295 [.ag (tyC e.res)] [.one (.str (txB e.res))] := IU e.res (htr k9) (by show tsz e.res ≤ _; omega)
    have hr := Ss e.res
    rw [Au] at hT hR
    generalize txB e.ty = T at *
    generalize txB e.res = R at *
    refine AF func292 rfl rfl (by simp [ntmps292]) (fun _ _ => rfl) ?_
    refine byP (fc k9 (fc ntmps292 results292)) ?_
    refine Ac (oT [0,1,2,3,4,5,6,7,8,9,13,14,18,19,20] (.cons 10 false (oT [11,12] (.cons 15 false (oT [16,17,21,22,23] .nil))))) (by kernel_rfl) Bs (by kernel_rfl) ?_
    refine rG (fc a0 s0') ?_
    repeat' (with_reducible apply And.intro)
    all_goals first | (simp only [ByteArray.size_append, szS]; unfold maxLen; omega) | skip
    all_goals
      refine KD hT ?_
      refine rG (fc a0 (fc s0' (fc ntmps292 results292))) ?_
    repeat' (with_reducible apply And.intro)
    all_goals first | (simp only [ByteArray.size_append, szS]; unfold maxLen; omega) | skip
    all_goals
      refine KD hR ?_
      refine rG (fc a0 (fc s0' (fc ntmps292 results292))) ?_
      repeat' (with_reducible apply And.intro)
      all_goals first
        | (simp only [ByteArray.size_append, szS]; unfold maxLen; omega)
        | omega
        | (refine ⟨.inl rfl, ⟨#[40, 114, 101, 99, 32]⟩ ++ e.name ++ ⟨#[32]⟩ ++ e.other ++ ⟨#[58]⟩ ++ T ++ ⟨#[62]⟩ ++ R ++ ⟨#[46]⟩ ++ L[0]! ++ ⟨#[41]⟩, ?_, ?_⟩
           · show ByteArray.size _ ≤ _
             simp only [ByteArray.size_append, szS]; omega
           · exact byP (fc xtF (fc ntmps292 results292)) tI
           done)
  by_cases k12 : e.kind = 12
  · refine AF func292 rfl rfl (by simp [ntmps292]) (fun _ _ => rfl) ?_
    refine byP (fc k12 (fc a0 (fc s0' (fc ntmps292 results292)))) ?_
    repeat' (with_reducible apply And.intro)
    all_goals first
      | (simp only [ByteArray.size_append, szS]; unfold maxLen; omega)
      | omega
      | (refine ⟨.inl rfl, ⟨#[40, 114, 117, 110, 32]⟩ ++ L[0]! ++ ⟨#[41]⟩, ?_, ?_⟩
         · show ByteArray.size _ ≤ _
           simp only [ByteArray.size_append, szS]; omega
         · exact byP (fc xtF (fc ntmps292 results292)) tI
         done)
  · refine AF func292 rfl rfl (by simp [ntmps292]) (fun _ _ => rfl) ?_
    refine byP (fc k5 (fc k6 (fc k7 (fc k8 (fc k9 (fc k12 (fc a0 (fc s0' (fc ntmps292 results292))))))))) ?_
    repeat' (with_reducible apply And.intro)
    all_goals first
      | (simp only [ByteArray.size_append, szS]; unfold maxLen; omega)
      | omega
      | (refine ⟨.inl rfl, ⟨#[40, 108, 105, 102, 116, 32]⟩ ++ L[0]! ++ ⟨#[41]⟩, ?_, ?_⟩
         · show ByteArray.size _ ≤ _
           simp only [ByteArray.size_append, szS]; omega
         · exact byP (fc xtF (fc ntmps292 results292)) tI
         done)
theorem Jk {p:Tm→Bool}:∀ {xs:List Tm},BV p xs=true→∀ x ∈ xs,Bn p x=true
 | [],_,x,h=>by cases h
 | y :: ys,hp,x,h=>by
  rw [BV,Bool.and_eq_true] at hp
  rcases List.mem_cons.mp h with rfl | h
  ·exact hp.1
  ·exact Jk hp.2 x h
theorem Va {p:Tm→Bool} {t:Tm} (h:Bn p t=true):p t=true∧∀ x ∈ t.args,Bn p x=true:=by
 rw [Cv,Bool.and_eq_true] at h
 exact ⟨h.1,Jk h.2⟩
theorem aAa (e:Tm) (k:Nat) (h:k<e.args.length):msz e.args[k]! ≤ msz e:=by
 rw [Oi e]
 unfold lsz
 have:=Bv e.args k h
 unfold msz
 omega
theorem Ve (l:List Tm) (k:Nat):szL (Av (l.take k))≤szL (Av l):=by
 have:=Ek (l.take k) (l.drop k)
 rw [List.take_append_drop] at this
 rw [this,Ah];omega
theorem aBx:inI 1∧inI 2:=by unfold inI;decide
theorem aI7:((0:Nat):Int)=0∧(0:Int).toNat=0∧(1:Int).toNat=1∧(2:Int).toNat=2∧(⟨#[102,116]⟩:ByteArray).size=2∧((2:Nat):Int)=2:=by decide
theorem aFP:(0:Int)<2∧(1:Int)<2:=by decide
set_option maxHeartbeats 16000000 in
theorem TE : ∀ e : Tm, Bn EO e = true → msz e ≤ 9000000 → Bz prog 285 [.b (.ag (tmC e))] (xtI (40 * msz e + 20)) xtO xtR := by
  refine Tm.ind fun e ih hf he => ?_
  obtain ⟨hfm, hfa⟩ := Va hf
  have hez := Oi e
  have hca := Wn hfm
  refine AF func285 rfl rfl (by simp [ntmps285]) (fun _ _ => rfl) ?_
  refine byP (fc ntmps285 results285) ?_
  refine Al (fun L : List ByteArray => L.length ≤ e.args.length ∧ Ez L ≤ 40 * szL (Av (e.args.take L.length)) + 20 * L.length) (fun L => ⟨80, [(4, .i L.length), (3, .sl 1), (1, .bx 0 0)], [(0, [.i e.kind, .s e.name, .s e.other, .i e.n, .i e.ty.kind, .br (.rows 2 e.ty.args.length (Ai e.ty.args)), .i e.res.kind, .br (.rows 2 e.res.args.length (Ai e.res.args)), .br (.rows 9 e.args.length (Av e.args))])], [(1, some ⟨.rows 1 L.length (L.map D.str), some 9, true⟩)], 2, []⟩) (fun L => e.args.length - L.length) [] id ⟨Nat.zero_le _, Nat.zero_le _⟩ ?_ ?_
  · exact byP (fc Int.natCast_zero (fc (show ([] : List ByteArray).length = 0 from rfl) (show ([] : List ByteArray).map D.str = [] from rfl))) tI
  rintro L ⟨hk, hb⟩
  by_cases hlt : L.length < e.args.length
  · have hj : (L.length : Int) < (e.args.length : Int) := by omega
    have k0 : 0 ≤ (L.length : Int) := by omega
    have hR := Aj e.args L.length hlt
    have hma := aAa e L.length hlt
    have hih := ih _ (Ab hlt) (hfa _ (Ab hlt)) (by omega)
    have hts := Se e.args L.length hlt
    have hbt := Ve e.args L.length
    have hbt' : szL (Av e.args) ≤ 9000000 := by unfold lsz at hez; omega
    have hle : e.args.length ≤ 9000000 := by have := SA e.args; omega
    have hin : inI ((L.length : Int) + 1) := by unfold inI; omega
    rw [Ak] at hih
    generalize e.args[L.length]! = u at *
    refine rG (fc hj (fc hR Ak)) ?_
    refine KX (xtF) hih ?_
    rintro x hx
    have hx' : x.size ≤ 40 * msz u + 20 := hx
    have hln : (L ++ [x]).length = L.length + 1 := by simp
    have hmp : (L ++ [x]).map D.str = L.map D.str ++ [.str x] := by simp
    refine rG xtF ?_
    refine ⟨⟨fun h => h.elim, fun o ho => by omega, by unfold maxLen; omega, by omega⟩, hin, L ++ [x], rnL [(1, 3)], ⟨by rw [hln]; omega, ?_⟩, by rw [hln]; omega, ?_⟩
    · simp only [hln, hts, HF, Ps]; omega
    · exact byP (fc hln (fc hmp Bx)) tI
  · have hj : ¬ (L.length : Int) < (e.args.length : Int) := by omega
    have hLe : L.length = e.args.length := by omega
    have hbs : Ez L ≤ 40 * szL (Av e.args) + 20 * e.args.length := by rw [hLe, List.take_length] at hb; exact hb
    have hbl : Ez L + 20 * e.args.length ≤ 40 * lsz e.args := by unfold lsz; omega
    refine rG hj ?_
    clear ih hb
    rcases hca with k1 | ⟨k2, n0, n1⟩ | ⟨k3, n0, n1⟩ | ⟨k4, hl⟩ | ⟨k5, hl⟩ | ⟨k6, hl, hv⟩ | ⟨k7, hl⟩ | ⟨k8, hl⟩ | ⟨k9, hl, hv, hv2⟩ | ⟨k10, hl⟩ | ⟨k11, hl⟩ | ⟨k12, hl⟩ | ⟨k13, hl⟩
    · refine rG (fc k1 (fc ntmps285 results285)) ?_
      repeat' (with_reducible apply And.intro)
      all_goals first
        | (simp only [ByteArray.size_append, szS]; unfold maxLen; omega)
        | omega
        | (refine ⟨.inl rfl, e.name, ?_, ?_⟩
           · show ByteArray.size _ ≤ _
             first | (simp only [ByteArray.size_append, szS]; omega) | omega
           · exact byP (fc xtF (fc ntmps285 results285)) tI
           done)
    · have hF := Kq e.n (by omega)
      have hfl := Kj e.n.toNat (by omega)
      generalize IW e.n.toNat = w at *
      refine rG k2 ?_
      refine Kc hF ?_
      refine rG (fc ntmps285 results285) ?_
      repeat' (with_reducible apply And.intro)
      all_goals first
        | (simp only [ByteArray.size_append, szS]; unfold maxLen; omega)
        | omega
        | (refine ⟨.inl rfl, w, ?_, ?_⟩
           · show ByteArray.size _ ≤ _
             first | (simp only [ByteArray.size_append, szS]; omega) | omega
           · exact byP (fc xtF (fc ntmps285 results285)) tI
           done)
    · have hn3 : e.n = 0 ∨ e.n = 1 := by omega
      rcases hn3 with h3 | h3
      · refine rG (fc k3 (fc h3 (fc aI7 (fc aBx (fc ntmps285 results285))))) ?_
        repeat' (with_reducible apply And.intro)
        all_goals first
          | (simp only [ByteArray.size_append, ByteArray.size_extract, szS]; unfold maxLen; omega)
          | omega
          | (refine ⟨.inl rfl, ⟨#[35]⟩ ++ (⟨#[102, 116]⟩ : ByteArray).extract 0 1, ?_, ?_⟩
             · show ByteArray.size _ ≤ _
               first | (simp only [ByteArray.size_append, ByteArray.size_extract, szS]; omega) | omega
             · exact byP (fc xtF (fc ntmps285 results285)) tI
             done)
      · refine rG (fc k3 (fc h3 (fc aI7 (fc aBx (fc ntmps285 results285))))) ?_
        repeat' (with_reducible apply And.intro)
        all_goals first
          | (simp only [ByteArray.size_append, ByteArray.size_extract, szS]; unfold maxLen; omega)
          | omega
          | (refine ⟨.inl rfl, ⟨#[35]⟩ ++ (⟨#[102, 116]⟩ : ByteArray).extract 1 2, ?_, ?_⟩
             · show ByteArray.size _ ≤ _
               first | (simp only [ByteArray.size_append, ByteArray.size_extract, szS]; omega) | omega
             · exact byP (fc xtF (fc ntmps285 results285)) tI
             done)
    · rcases hl with hl | hl
      · have l1 : (L.length : Int) = 1 := by omega
        have a0 : (0 : Int) < (L.length : Int) := by omega
        have s0 : rowAt 1 (L.map D.str) 0 = [.str L[0]!] := Cc L 0 (by omega)
        have q0 := Fd L 0 (by omega)
        refine rG (fc k4 (fc l1 (fc a0 (fc s0 (fc ntmps285 results285))))) ?_
        repeat' (with_reducible apply And.intro)
        all_goals first
          | (simp only [ByteArray.size_append, szS]; unfold maxLen; omega)
          | omega
          | (refine ⟨.inl rfl, ⟨#[40, 33]⟩ ++ L[0]! ++ ⟨#[41]⟩, ?_, ?_⟩
             · show ByteArray.size _ ≤ _
               first | (simp only [ByteArray.size_append, szS]; omega) | omega
             · exact byP (fc xtF (fc ntmps285 results285)) tI
             done)
      · have l1 : (L.length : Int) = 2 := by omega
        have a0 : (0 : Int) < (L.length : Int) := by omega
        have s0 : rowAt 1 (L.map D.str) 0 = [.str L[0]!] := Cc L 0 (by omega)
        have q0 := Fd L 0 (by omega)
        have a1 : (1 : Int) < (L.length : Int) := by omega
        have s1 : rowAt 1 (L.map D.str) 1 = [.str L[1]!] := Cc L 1 (by omega)
        have q1 : (L[0]!).size + (L[1]!).size ≤ Ez L := by
          match L, hLe, hl with
          | [x, y], _, _ => show x.size + y.size ≤ x.size + (y.size + 0); omega
        refine rG (fc k4 l1) ?_
        refine Ac (oT [0,1,2,3,4,5,6,7,8,9,10,11,12] .nil) (by kernel_rfl) Bs (by kernel_rfl) ?_
        refine rG (fc l1 (fc aFP (fc s0 (fc s1 (fc ntmps285 results285))))) ?_
        repeat' (with_reducible apply And.intro)
        all_goals first
          | (simp only [ByteArray.size_append, szS]; unfold maxLen; omega)
          | omega
          | (refine ⟨.inl rfl, ⟨#[40]⟩ ++ L[0]! ++ e.name ++ L[1]! ++ ⟨#[41]⟩, ?_, ?_⟩
             · show ByteArray.size _ ≤ _
               first | (simp only [ByteArray.size_append, szS]; omega) | omega
             · exact byP (fc xtF (fc ntmps285 results285)) tI
             done)
    · have hX := DM e L (Ez L) (Nat.le_refl _) (by omega) (by omega) (by omega) (by omega) (fun h => by rw [k5] at h; omega) (fun h => by rw [k5] at h; omega)
      rw [Ak, k5] at hX
      refine rG k5 ?_
      refine AX 1 rfl ?_
      refine byQ ?_
      refine KX (xtF) hX ?_
      rintro x hx
      have hx' : x.size ≤ Ez L + 20 + hdz e := hx
      have hez2 : hdz e = e.name.size + e.other.size + 3 * tsz e.ty + 3 * tsz e.res := rfl
      refine rG (fc xtF (fc ntmps285 results285)) ?_
      refine ⟨.inl rfl, x, ?_, ?_⟩
      · show ByteArray.size _ ≤ _
        omega
      · exact byP (fc xtF (fc ntmps285 results285)) tI
    · have hX := DM e L (Ez L) (Nat.le_refl _) (by omega) (by omega) (by omega) (by omega) (fun _ => Nw hv) (fun h => by rw [k6] at h; omega)
      rw [Ak, k6] at hX
      refine rG k6 ?_
      refine AX 1 rfl ?_
      refine byQ ?_
      refine KX (xtF) hX ?_
      rintro x hx
      have hx' : x.size ≤ Ez L + 20 + hdz e := hx
      have hez2 : hdz e = e.name.size + e.other.size + 3 * tsz e.ty + 3 * tsz e.res := rfl
      refine rG (fc xtF (fc ntmps285 results285)) ?_
      refine ⟨.inl rfl, x, ?_, ?_⟩
      · show ByteArray.size _ ≤ _
        omega
      · exact byP (fc xtF (fc ntmps285 results285)) tI
    · have hX := DM e L (Ez L) (Nat.le_refl _) (by omega) (by omega) (by omega) (by omega) (fun h => by rw [k7] at h; omega) (fun h => by rw [k7] at h; omega)
      rw [Ak, k7] at hX
      refine rG k7 ?_
      refine AX 1 rfl ?_
      refine byQ ?_
      refine KX (xtF) hX ?_
      rintro x hx
      have hx' : x.size ≤ Ez L + 20 + hdz e := hx
      have hez2 : hdz e = e.name.size + e.other.size + 3 * tsz e.ty + 3 * tsz e.res := rfl
      refine rG (fc xtF (fc ntmps285 results285)) ?_
      refine ⟨.inl rfl, x, ?_, ?_⟩
      · show ByteArray.size _ ≤ _
        omega
      · exact byP (fc xtF (fc ntmps285 results285)) tI
    · have hX := DM e L (Ez L) (Nat.le_refl _) (by omega) (by omega) (by omega) (by omega) (fun h => by rw [k8] at h; omega) (fun h => by rw [k8] at h; omega)
      rw [Ak, k8] at hX
      refine rG k8 ?_
      refine AX 1 rfl ?_
      refine byQ ?_
      refine KX (xtF) hX ?_
      rintro x hx
      have hx' : x.size ≤ Ez L + 20 + hdz e := hx
      have hez2 : hdz e = e.name.size + e.other.size + 3 * tsz e.ty + 3 * tsz e.res := rfl
      refine rG (fc xtF (fc ntmps285 results285)) ?_
      refine ⟨.inl rfl, x, ?_, ?_⟩
      · show ByteArray.size _ ≤ _
        omega
      · exact byP (fc xtF (fc ntmps285 results285)) tI
    · have hX := DM e L (Ez L) (Nat.le_refl _) (by omega) (by omega) (by omega) (by omega) (fun _ => Nw hv) (fun _ => Nw hv2)
      rw [Ak, k9] at hX
      refine rG k9 ?_
      refine AX 1 rfl ?_
      refine byQ ?_
      refine KX (xtF) hX ?_
      rintro x hx
      have hx' : x.size ≤ Ez L + 20 + hdz e := hx
      have hez2 : hdz e = e.name.size + e.other.size + 3 * tsz e.ty + 3 * tsz e.res := rfl
      refine rG (fc xtF (fc ntmps285 results285)) ?_
      refine ⟨.inl rfl, x, ?_, ?_⟩
      · show ByteArray.size _ ≤ _
        omega
      · exact byP (fc xtF (fc ntmps285 results285)) tI
    · have a0 : (0 : Int) < (L.length : Int) := by omega
      have s0 : rowAt 1 (L.map D.str) 0 = [.str L[0]!] := Cc L 0 (by omega)
      have q0 := Fd L 0 (by omega)
      refine rG (fc k10 (fc a0 (fc s0 (fc ntmps285 results285)))) ?_
      repeat' (with_reducible apply And.intro)
      all_goals first
        | (simp only [ByteArray.size_append, szS]; unfold maxLen; omega)
        | omega
        | (refine ⟨.inl rfl, ⟨#[60]⟩ ++ L[0]! ++ ⟨#[62]⟩, ?_, ?_⟩
           · show ByteArray.size _ ≤ _
             first | (simp only [ByteArray.size_append, szS]; omega) | omega
           · exact byP (fc xtF (fc ntmps285 results285)) tI
           done)
    · have a0 : (0 : Int) < (L.length : Int) := by omega
      have s0 : rowAt 1 (L.map D.str) 0 = [.str L[0]!] := Cc L 0 (by omega)
      have q0 := Fd L 0 (by omega)
      refine rG (fc k11 (fc a0 (fc s0 (fc ntmps285 results285)))) ?_
      repeat' (with_reducible apply And.intro)
      all_goals first
        | (simp only [ByteArray.size_append, szS]; unfold maxLen; omega)
        | omega
        | (refine ⟨.inl rfl, ⟨#[126]⟩ ++ L[0]!, ?_, ?_⟩
           · show ByteArray.size _ ≤ _
             first | (simp only [ByteArray.size_append, szS]; omega) | omega
           · exact byP (fc xtF (fc ntmps285 results285)) tI
           done)
    · have hX := DM e L (Ez L) (Nat.le_refl _) (by omega) (by omega) (by omega) (by omega) (fun h => by rw [k12] at h; omega) (fun h => by rw [k12] at h; omega)
      rw [Ak, k12] at hX
      refine rG k12 ?_
      refine AX 1 rfl ?_
      refine byQ ?_
      refine KX (xtF) hX ?_
      rintro x hx
      have hx' : x.size ≤ Ez L + 20 + hdz e := hx
      have hez2 : hdz e = e.name.size + e.other.size + 3 * tsz e.ty + 3 * tsz e.res := rfl
      refine rG (fc xtF (fc ntmps285 results285)) ?_
      refine ⟨.inl rfl, x, ?_, ?_⟩
      · show ByteArray.size _ ≤ _
        omega
      · exact byP (fc xtF (fc ntmps285 results285)) tI
    · have hX := DM e L (Ez L) (Nat.le_refl _) (by omega) (by omega) (by omega) (by omega) (fun h => by rw [k13] at h; omega) (fun h => by rw [k13] at h; omega)
      rw [Ak, k13] at hX
      refine rG k13 ?_
      refine AX 1 rfl ?_
      refine byQ ?_
      refine KX (xtF) hX ?_
      rintro x hx
      have hx' : x.size ≤ Ez L + 20 + hdz e := hx
      have hez2 : hdz e = e.name.size + e.other.size + 3 * tsz e.ty + 3 * tsz e.res := rfl
      refine rG (fc xtF (fc ntmps285 results285)) ?_
      refine ⟨.inl rfl, x, ?_, ?_⟩
      · show ByteArray.size _ ≤ _
        omega
      · exact byP (fc xtF (fc ntmps285 results285)) tI
theorem VZ (e:Tm) (he:msz e≤9000000):Bz prog 272 [.b (.ag (tmC e))] (fun _:ByteArray=>True) xtO xtR:=by
 have hV:=PZ e (by show msz e≤_;omega)
 have hT:vTm e=true→Bn EO e=true:=fun h=>by unfold vTm at h;rw [Bool.and_eq_true] at h;exact h.1
 rw [Ak] at hV
 cases hv:vTm e
 ·rw [hv] at hV
  refine AF func272 rfl rfl (by simp [ntmps272]) (fun _ _=>rfl) ?_
  refine byP (fc ntmps272 results272) ?_
  refine Kc hV ?_
  refine rG (fc ntmps272 results272) ?_
  exact ⟨.inl rfl,⟨#[]⟩,trivial,byP (fc xtF (fc ntmps272 results272)) tI⟩
 ·have hX:=TE e (hT hv) he
  rw [hv] at hV
  rw [Ak] at hX
  refine AF func272 rfl rfl (by simp [ntmps272]) (fun _ _=>rfl) ?_
  refine byP (fc ntmps272 results272) ?_
  refine Kc hV ?_
  refine rQ ?_
  refine KX (xtF) hX ?_
  rintro x _
  refine rG (fc xtF (fc ntmps272 results272)) ?_
  exact ⟨.inl rfl,x,trivial,byP (fc xtF (fc ntmps272 results272)) tI⟩
theorem BI:∀ t:Ty,szL (tyC t)≤1000000000→Con prog 199 [.ag (tyC t)] [.ag (tyC (AC t))]:=by
 refine Ty.ind fun kd xs ih hz => ?_
 have hz':xs.length+szL (Ai xs)≤1000000000:=by simpa [tyC,szL,szD] using hz
 by_cases hc:kd=4∧xs.length=1
 ·obtain ⟨hk,hl⟩:=hc
  have he:AC (.mk kd xs)=AC xs[0]! := by rw [LF (.mk kd xs) hk hl,getElem!_pos xs 0 (by omega)];rfl
  rw [he]
  subst hk
  have hm:=Ab (xs:=xs) (k:=0) (by omega)
  have hs:=Dy xs 0 (by omega)
  have hR:=Ax xs 0 (by omega)
  have hl':(xs.length:Int)=1:=by omega
  refine Af func199 rfl rfl (by simp [ntmps199]) ?_
  refine byP (fc ntmps199 (fc tyC.eq_1 (fc hl' hR))) ?_
  refine Kc (ih _ hm (by omega)) ?_
  exact rG results199 tI
 ·have he:AC (.mk kd xs) = .mk kd (xs.map AC):=Qn _ hc
  rw [he]
  refine Af func199 rfl rfl (by simp [ntmps199]) ?_
  simp only [tyC]
  by_cases hk:kd=4
  ·have hl:¬ ((xs.length:Int)=1):=fun h=>hc ⟨hk,by omega⟩
   subst hk
   refine byP (fc ntmps199 hl) ?_
   refine FA 2 1 26 rfl rfl ?_
   refine Al (fun k:Nat=>k≤xs.length) (fun k=>⟨41,[(4,.i k),(1,.bx 0 0),(2,.bx 1 0),(3,.bx 2 0)],[(0,[.i 4,.br (.rows 2 xs.length (Ai xs))]),(1,[.i 0,.nl 2]),(2,[.i 4,.sl 3])],[(3,some ⟨.rows 2 k (Ai ((xs.take k).map AC)),some 26,true⟩)],4,[]⟩) (fun k=>xs.length-k) 0 id (Nat.zero_le _) ?_ ?_
   ·exact byP Ai.eq_1 tI
   ·rintro k hk'
    refine Aa 200 _ _ _ ?_
    by_cases hlt:k<xs.length
    ·have hi:(k:Int)<(xs.length:Int):=by omega
     have hR:=Ax xs k hlt
     have hm:=Ab hlt
     have hs:=Dy xs k hlt
     refine byP hi ?_
     refine Ac (oT [0,1,2,3,4,5,6] (oF [7,8,9] (.cons 10 true (.cons 11 false .nil)))) (by kernel_rfl) AD (by kernel_rfl) (Aa 200 _ _ _ ?_)
     refine byP (fc hi hR) ?_
     refine KD (ih _ hm (by omega)) ?_
     refine rQ ?_
     refine ⟨⟨fun o ho=>by omega,by unfold maxLen;omega,by omega⟩,by unfold inI;omega,k+1,rn1 3 6,by omega,by omega, ?_⟩
     exact byP (fc rn1.eq_1 (Jn AC xs k hlt)) tI
    ·have hi:¬ (k:Int)<(xs.length:Int):=by omega
     obtain rfl:k=xs.length:=by omega
     refine byP hi ?_
     refine Aa 200 _ _ _ ?_
     simp only [push_cast,↓reduceIte,Nat.reduceLT,Nat.reduceAdd,Nat.reduceEqDiff,reduceCtorEq,List.take_length,List.length_map,results199]
  ·have hl:True:=trivial
   refine byP (fc ntmps199 hk) ?_
   refine FA 2 1 26 rfl rfl ?_
   refine Al (fun k:Nat=>k≤xs.length) (fun k=>⟨41,[(4,.i k),(1,.bx 0 0),(2,.bx 1 0),(3,.bx 2 0)],[(0,[.i kd,.br (.rows 2 xs.length (Ai xs))]),(1,[.i 0,.nl 2]),(2,[.i kd,.sl 3])],[(3,some ⟨.rows 2 k (Ai ((xs.take k).map AC)),some 26,true⟩)],4,[]⟩) (fun k=>xs.length-k) 0 id (Nat.zero_le _) ?_ ?_
   ·exact byP Ai.eq_1 tI
   ·rintro k hk'
    refine Aa 200 _ _ _ ?_
    by_cases hlt:k<xs.length
    ·have hi:(k:Int)<(xs.length:Int):=by omega
     have hR:=Ax xs k hlt
     have hm:=Ab hlt
     have hs:=Dy xs k hlt
     refine byP hi ?_
     refine Ac (oT [0,1,2,3,4,5,6] (oF [7,8,9] (.cons 10 true (.cons 11 false .nil)))) (by kernel_rfl) AD (by kernel_rfl) (Aa 200 _ _ _ ?_)
     refine byP (fc hi hR) ?_
     refine KD (ih _ hm (by omega)) ?_
     refine rQ ?_
     refine ⟨⟨fun o ho=>by omega,by unfold maxLen;omega,by omega⟩,by unfold inI;omega,k+1,rn1 3 6,by omega,by omega, ?_⟩
     exact byP (fc rn1.eq_1 (Jn AC xs k hlt)) tI
    ·have hi:¬ (k:Int)<(xs.length:Int):=by omega
     obtain rfl:k=xs.length:=by omega
     refine byP hi ?_
     refine Aa 200 _ _ _ ?_
     simp only [push_cast,↓reduceIte,Nat.reduceLT,Nat.reduceAdd,Nat.reduceEqDiff,reduceCtorEq,List.take_length,List.length_map,results199]
theorem Qq:∀ t:Tm,szL (tmC t)≤1000000000→Con prog 128 [.ag (tmC t)] [.ag (tmC (Cn t))]:=by
 refine Tm.ind fun t ih hz => ?_
 obtain ⟨h5,h7,h8⟩:=CJ hz
 have hst:=by
  have h:=BD t.kind 10 13
  rw [aAz] at h
  exact h
 by_cases hc:inB t.kind 10 13=true∧t.args.length=1
 ·obtain ⟨hk,hl⟩:=hc
  have he:Cn t=Cn t.args[0]! := by rw [Qo _ hk hl,getElem!_pos t.args 0 (by omega)]
  rw [he]
  rw [hk] at hst
  have hm:=Ab (xs:=t.args) (k:=0) (by omega)
  have hs:=Bv t.args 0 (by omega)
  have hR:=Aj t.args 0 (by omega)
  have hl':(t.args.length:Int)=1:=by omega
  refine Af func128 rfl rfl (by simp [ntmps128]) ?_
  refine byP ntmps128 ?_
  refine Kc hst ?_
  refine rG (fc hl' hR) ?_
  refine Kc (ih _ hm (by omega)) ?_
  exact rG results128 tI
 ·have he:Cn t = .mk t.kind t.name t.other t.n (AC t.ty) (AC t.res) (t.args.map Cn):=Ug _ hc
  rw [he,Ak (.mk _ _ _ _ _ _ _),Bf,Bd,AP,Gj,CP,BQ,AJ]
  refine Af func128 rfl rfl (by simp [ntmps128]) ?_
  refine byP ntmps128 ?_
  refine As (hst) rfl (Am ?_) ?_ (Aa 200 _ _ _ ?_)
  ·exact byQ tI
  ·simp only [okR]
  by_cases hk:inB t.kind 10 13=true
  ·have hl:¬ ((t.args.length:Int)=1):=fun h=>hc ⟨hk,by omega⟩
   refine byP (fc hk hl) ?_
   refine Cs ⟨53,[(3,.bx 4 0),(1,.bx 0 0),(2,.bx 1 0)],[(0,[.i t.kind,.s t.name,.s t.other,.i t.n,.i t.ty.kind,.br (.rows 2 t.ty.args.length (Ai t.ty.args)),.i t.res.kind,.br (.rows 2 t.res.args.length (Ai t.res.args)),.br (.rows 9 t.args.length (Av t.args))]),(1,[.i 0,.s ⟨#[]⟩,.s ⟨#[]⟩,.i 0,.i 0,.nl 2,.i 0,.nl 2,.nl 9]),(4,[.i t.kind,.s t.name,.s t.other,.i t.n,.i (AC t.ty).kind,.sl 2,.i (AC t.res).kind,.sl 3,.nl 9])],[(2,some ⟨.rows 2 (AC t.ty).args.length (Ai (AC t.ty).args),none,true⟩),(3,some ⟨.rows 2 (AC t.res).args.length (Ai (AC t.res).args),none,true⟩)],5,[]⟩ (oT [0,1,2,3,4,5,6,7,8,9,11,12] (.fork (.alt 10 (.fork (.alt 13 (.cons 14 true (oF [15,16] .nil)) (.alt 15 (.cons 13 false (.cons 14 true (.cons 16 false .nil))) .last))) (.alt 15 (oF [10,13] (.cons 14 true (.cons 16 false .nil))) .last)))) (by kernel_rfl) (by kernel_rfl) (Aa 200 _ _ _ ?_) (Aa 200 _ _ _ ?_)
   ·refine byQ ?_
    refine ⟨?_, ?_⟩
    ·refine KD (BI t.ty h5) ?_
     refine rQ ?_
     refine ⟨?_, ?_⟩
     ·refine KD (BI t.res h7) ?_
      refine rG qK.eq_1 ?_
      refine ⟨id, ?_⟩
      exact byQ tI
     ·refine KD (BI t.res h7) ?_
      refine rG qK.eq_1 ?_
      refine ⟨rn2 3 4 4 3, ?_⟩
      exact byP rn2.eq_1 tI
    ·refine KD (BI t.ty h5) ?_
     refine rQ ?_
     refine KD (BI t.res h7) ?_
     refine rG qK.eq_1 ?_
     refine ⟨rn3 2 3 3 4 4 2, ?_⟩
     exact byP rn3.eq_1 tI
   refine byQ ?_
   refine FA 4 8 29 rfl rfl ?_
   refine Al (fun k:Nat=>k≤t.args.length) (fun k=>⟨53,[(4,.i k),(1,.bx 0 0),(2,.bx 1 0),(3,.bx 4 0)],[(0,[.i t.kind,.s t.name,.s t.other,.i t.n,.i t.ty.kind,.br (.rows 2 t.ty.args.length (Ai t.ty.args)),.i t.res.kind,.br (.rows 2 t.res.args.length (Ai t.res.args)),.br (.rows 9 t.args.length (Av t.args))]),(1,[.i 0,.s ⟨#[]⟩,.s ⟨#[]⟩,.i 0,.i 0,.nl 2,.i 0,.nl 2,.nl 9]),(4,[.i t.kind,.s t.name,.s t.other,.i t.n,.i (AC t.ty).kind,.sl 2,.i (AC t.res).kind,.sl 3,.sl 5])],[(2,some ⟨.rows 2 (AC t.ty).args.length (Ai (AC t.ty).args),none,true⟩),(3,some ⟨.rows 2 (AC t.res).args.length (Ai (AC t.res).args),none,true⟩),(5,some ⟨.rows 9 k (Av ((t.args.take k).map Cn)),some 29,true⟩)],6,[]⟩) (fun k=>t.args.length-k) 0 id (Nat.zero_le _) ?_ ?_
   ·exact byP Av.eq_1 tI
   ·rintro k hk'
    refine Aa 200 _ _ _ ?_
    by_cases hlt:k<t.args.length
    ·have hi:(k:Int)<(t.args.length:Int):=by omega
     have hR:=Aj t.args k hlt
     have hm:=Ab hlt
     have hs:=Bv t.args k hlt
     refine byP hi ?_
     refine Ac (oT [0,1,2,3,4,5,6] (oF [7,8,9] (.cons 10 true (.cons 11 false .nil)))) (by kernel_rfl) AD (by kernel_rfl) (Aa 200 _ _ _ ?_)
     refine byP (fc hi hR) ?_
     refine KD (ih _ hm (by omega)) ?_
     refine rQ ?_
     refine ⟨⟨fun o ho=>by omega,by unfold maxLen;omega,by omega⟩,by unfold inI;omega,k+1,rn1 5 10,by omega,by omega, ?_⟩
     exact byP (fc rn1.eq_1 (JA Cn t.args k hlt)) tI
    ·have hi:¬ (k:Int)<(t.args.length:Int):=by omega
     obtain rfl:k=t.args.length:=by omega
     refine byP hi ?_
     refine Aa 200 _ _ _ ?_
     simp only [push_cast,↓reduceIte,Nat.reduceLT,Nat.reduceAdd,Nat.reduceEqDiff,reduceCtorEq,List.take_length,List.length_map,results128]
  ·have hl:True:=trivial
   replace hk:inB t.kind 10 13=false:=by simpa using hk
   refine byP hk ?_
   refine Cs ⟨53,[(3,.bx 4 0),(1,.bx 0 0),(2,.bx 1 0)],[(0,[.i t.kind,.s t.name,.s t.other,.i t.n,.i t.ty.kind,.br (.rows 2 t.ty.args.length (Ai t.ty.args)),.i t.res.kind,.br (.rows 2 t.res.args.length (Ai t.res.args)),.br (.rows 9 t.args.length (Av t.args))]),(1,[.i 0,.s ⟨#[]⟩,.s ⟨#[]⟩,.i 0,.i 0,.nl 2,.i 0,.nl 2,.nl 9]),(4,[.i t.kind,.s t.name,.s t.other,.i t.n,.i (AC t.ty).kind,.sl 2,.i (AC t.res).kind,.sl 3,.nl 9])],[(2,some ⟨.rows 2 (AC t.ty).args.length (Ai (AC t.ty).args),none,true⟩),(3,some ⟨.rows 2 (AC t.res).args.length (Ai (AC t.res).args),none,true⟩)],5,[]⟩ (oT [0,1,2,3,4,5,6,7,8,9,11,12] (.fork (.alt 10 (.fork (.alt 13 (.cons 14 true (oF [15,16] .nil)) (.alt 15 (.cons 13 false (.cons 14 true (.cons 16 false .nil))) .last))) (.alt 15 (oF [10,13] (.cons 14 true (.cons 16 false .nil))) .last)))) (by kernel_rfl) (by kernel_rfl) (Aa 200 _ _ _ ?_) (Aa 200 _ _ _ ?_)
   ·refine byQ ?_
    refine ⟨?_, ?_⟩
    ·refine KD (BI t.ty h5) ?_
     refine rQ ?_
     refine ⟨?_, ?_⟩
     ·refine KD (BI t.res h7) ?_
      refine rG qK.eq_1 ?_
      refine ⟨id, ?_⟩
      exact byQ tI
     ·refine KD (BI t.res h7) ?_
      refine rG qK.eq_1 ?_
      refine ⟨rn2 3 4 4 3, ?_⟩
      exact byP rn2.eq_1 tI
    ·refine KD (BI t.ty h5) ?_
     refine rQ ?_
     refine KD (BI t.res h7) ?_
     refine rG qK.eq_1 ?_
     refine ⟨rn3 2 3 3 4 4 2, ?_⟩
     exact byP rn3.eq_1 tI
   refine byQ ?_
   refine FA 4 8 29 rfl rfl ?_
   refine Al (fun k:Nat=>k≤t.args.length) (fun k=>⟨53,[(4,.i k),(1,.bx 0 0),(2,.bx 1 0),(3,.bx 4 0)],[(0,[.i t.kind,.s t.name,.s t.other,.i t.n,.i t.ty.kind,.br (.rows 2 t.ty.args.length (Ai t.ty.args)),.i t.res.kind,.br (.rows 2 t.res.args.length (Ai t.res.args)),.br (.rows 9 t.args.length (Av t.args))]),(1,[.i 0,.s ⟨#[]⟩,.s ⟨#[]⟩,.i 0,.i 0,.nl 2,.i 0,.nl 2,.nl 9]),(4,[.i t.kind,.s t.name,.s t.other,.i t.n,.i (AC t.ty).kind,.sl 2,.i (AC t.res).kind,.sl 3,.sl 5])],[(2,some ⟨.rows 2 (AC t.ty).args.length (Ai (AC t.ty).args),none,true⟩),(3,some ⟨.rows 2 (AC t.res).args.length (Ai (AC t.res).args),none,true⟩),(5,some ⟨.rows 9 k (Av ((t.args.take k).map Cn)),some 29,true⟩)],6,[]⟩) (fun k=>t.args.length-k) 0 id (Nat.zero_le _) ?_ ?_
   ·exact byP Av.eq_1 tI
   ·rintro k hk'
    refine Aa 200 _ _ _ ?_
    by_cases hlt:k<t.args.length
    ·have hi:(k:Int)<(t.args.length:Int):=by omega
     have hR:=Aj t.args k hlt
     have hm:=Ab hlt
     have hs:=Bv t.args k hlt
     refine byP hi ?_
     refine Ac (oT [0,1,2,3,4,5,6] (oF [7,8,9] (.cons 10 true (.cons 11 false .nil)))) (by kernel_rfl) AD (by kernel_rfl) (Aa 200 _ _ _ ?_)
     refine byP (fc hi hR) ?_
     refine KD (ih _ hm (by omega)) ?_
     refine rQ ?_
     refine ⟨⟨fun o ho=>by omega,by unfold maxLen;omega,by omega⟩,by unfold inI;omega,k+1,rn1 5 10,by omega,by omega, ?_⟩
     exact byP (fc rn1.eq_1 (JA Cn t.args k hlt)) tI
    ·have hi:¬ (k:Int)<(t.args.length:Int):=by omega
     obtain rfl:k=t.args.length:=by omega
     refine byP hi ?_
     refine Aa 200 _ _ _ ?_
     simp only [push_cast,↓reduceIte,Nat.reduceLT,Nat.reduceAdd,Nat.reduceEqDiff,reduceCtorEq,List.take_length,List.length_map,results128]
def ptI (s:ByteArray) (x:Tm × Bool):Prop:=msz x.1≤8 * s.size
def ptO (x:Tm × Bool):List (List CD):=[]
def ptR (x:Tm × Bool):List RD:=[tmZ x.1,.one (.o (.bool x.2))]
theorem ptF:(∀ t b,ptO (t,b)=[])∧(∀ t b,ptR (t,b)=[tmZ t,.one (.o (.bool b))]):=⟨fun _ _=>rfl,fun _ _=>rfl⟩
set_option maxHeartbeats 4000000 in
theorem PT (s:ByteArray) (hl:s.size≤1000000):Bz prog 251 [.b (.one (.str s))] (ptI s) ptO ptR:=by
 have hT:Bz prog 271 [.p (rdx s 0 false),.b (.one (.int 1))] (pxI s 0 0) (pxO s) pxR:=Mb s hl 20 (by decide) 0 false (Nat.zero_le _)
 refine AL [0,1,2,3,4,5,6,7,8,9,10,11,12] func251 rfl rfl (by simp [ntmps251]) (fun _ _=>rfl) ?_
 refine byP (fc (pxF s) (fc ntmps251 results251)) ?_
 refine KX (fc (pxF s) (show ((0:Nat):Int)=0 from rfl)) hT ?_
 rintro ⟨e,j,b⟩ ⟨he,h1,h2⟩
 simp only at he h1 h2
 have hbad:ptI s (.mk 0 ⟨#[]⟩ ⟨#[]⟩ 0 (.mk 0 []) (.mk 0 []) [],false):=Nat.zero_le _
 cases b
 ·by_cases hj:(j:Int)=(s.size:Int)
  ·have hF:=VZ e (by omega)
   refine rG (fc (pxF s) (eq_true hj)) ?_
   refine KX (fc xtF Ak) hF ?_
   rintro x _
   by_cases hx:x=s
   ·refine rG (fc xtF (fc hx (fc ntmps251 results251))) ?_
    refine ⟨.inl rfl,(e,true),by show msz e≤_;omega, ?_⟩
    refine byP (fc ptF (fc (pxF s) (fc ntmps251 results251))) ?_
    exact Fi
   ·refine rG (fc xtF (fc hx (fc ntmps251 results251))) ?_
    refine ⟨.inl rfl,(.mk 0 ⟨#[]⟩ ⟨#[]⟩ 0 (.mk 0 []) (.mk 0 []) [],false),hbad, ?_⟩
    refine byP (fc ptF (fc (pxF s) (fc mkF (fc ntmps251 results251)))) ?_
    exact Fi
  ·refine rG (fc (pxF s) (fc hj (fc ntmps251 results251))) ?_
   refine ⟨.inl rfl,(.mk 0 ⟨#[]⟩ ⟨#[]⟩ 0 (.mk 0 []) (.mk 0 []) [],false),hbad, ?_⟩
   refine byP (fc ptF (fc (pxF s) (fc mkF (fc ntmps251 results251)))) ?_
   exact Fi
 ·refine rG (fc (pxF s) (fc ntmps251 results251)) ?_
  refine ⟨.inl rfl,(.mk 0 ⟨#[]⟩ ⟨#[]⟩ 0 (.mk 0 []) (.mk 0 []) [],false),hbad, ?_⟩
  refine byP (fc ptF (fc (pxF s) (fc mkF (fc ntmps251 results251)))) ?_
  exact Fi
def Nm:List ByteArray:=[⟨#[60,40,92,120,58,73,46,126,40,40,114,101,99,32,112,32,110,58,73,62,60,73,62,46,40,105,102,32,40,110,61,48,41,32,60,49,62,32,60,40,120,42,126,40,112,32,40,110,45,49,41,41,41,62,41,41,32,51,41,41,62]⟩,⟨#[40,40,114,117,110,32,60,40,92,120,58,73,46,126,40,40,114,101,99,32,112,32,110,58,73,62,60,73,62,46,40,105,102,32,40,110,61,48,41,32,60,49,62,32,60,40,120,42,126,40,112,32,40,110,45,49,41,41,41,62,41,41,32,51,41,41,62,41,32,50,41]⟩,⟨#[40,108,101,116,32,99,61,60,40,49,43,50,41,62,32,60,40,126,99,42,126,99,41,62,41]⟩,⟨#[60,40,92,121,58,73,46,126,40,40,92,122,58,60,73,62,46,60,40,92,121,58,73,46,40,126,122,43,121,41,41,62,41,32,60,121,62,41,41,62]⟩,⟨#[40,114,117,110,32,60,40,114,117,110,32,60,53,62,41,62,41]⟩,⟨#[40,108,101,116,32,110,61,55,32,40,114,117,110,32,60,126,40,108,105,102,116,32,40,110,42,110,41,41,62,41,41]⟩,⟨#[40,40,114,101,99,32,102,32,120,58,73,62,73,46,40,105,102,32,40,120,60,49,41,32,48,32,40,120,43,40,102,32,40,120,45,49,41,41,41,41,41,32,52,41]⟩,⟨#[40,40,114,101,99,32,102,32,120,58,73,62,73,46,40,102,32,120,41,41,32,49,41]⟩,⟨#[60,60,126,40,108,105,102,116,32,51,41,62,62]⟩,⟨#[40,114,117,110,32,60,40,92,102,58,40,73,62,73,41,46,40,102,32,50,41,41,62,41]⟩,⟨#[60,40,108,101,116,32,103,61,40,92,120,58,73,46,120,41,32,126,40,105,102,32,35,116,32,60,40,103,32,49,41,62,32,60,50,62,41,41,62]⟩]
theorem PL:∀ x ∈ Nm,x.size≤100:=by decide
set_option maxHeartbeats 4000000 in
theorem Qr (zs:List Int) (hz:CT zs) (i:Nat) (hi:i≤zs.length) (h:Int):Bz prog 200 [.p (AK zs i h)] (tmI zs 2000) (tmO zs) KZ:=by
 have hP:Bz prog 145 [.p (AK zs i h),.b (.one (.rows 1 11 [.str ⟨#[60,40,92,120,58,73,46,126,40,40,114,101,99,32,112,32,110,58,73,62,60,73,62,46,40,105,102,32,40,110,61,48,41,32,60,49,62,32,60,40,120,42,126,40,112,32,40,110,45,49,41,41,41,62,41,41,32,51,41,41,62]⟩,.str ⟨#[40,40,114,117,110,32,60,40,92,120,58,73,46,126,40,40,114,101,99,32,112,32,110,58,73,62,60,73,62,46,40,105,102,32,40,110,61,48,41,32,60,49,62,32,60,40,120,42,126,40,112,32,40,110,45,49,41,41,41,62,41,41,32,51,41,41,62,41,32,50,41]⟩,.str ⟨#[40,108,101,116,32,99,61,60,40,49,43,50,41,62,32,60,40,126,99,42,126,99,41,62,41]⟩,.str ⟨#[60,40,92,121,58,73,46,126,40,40,92,122,58,60,73,62,46,60,40,92,121,58,73,46,40,126,122,43,121,41,41,62,41,32,60,121,62,41,41,62]⟩,.str ⟨#[40,114,117,110,32,60,40,114,117,110,32,60,53,62,41,62,41]⟩,.str ⟨#[40,108,101,116,32,110,61,55,32,40,114,117,110,32,60,126,40,108,105,102,116,32,40,110,42,110,41,41,62,41,41]⟩,.str ⟨#[40,40,114,101,99,32,102,32,120,58,73,62,73,46,40,105,102,32,40,120,60,49,41,32,48,32,40,120,43,40,102,32,40,120,45,49,41,41,41,41,41,32,52,41]⟩,.str ⟨#[40,40,114,101,99,32,102,32,120,58,73,62,73,46,40,102,32,120,41,41,32,49,41]⟩,.str ⟨#[60,60,126,40,108,105,102,116,32,51,41,62,62]⟩,.str ⟨#[40,114,117,110,32,60,40,92,102,58,40,73,62,73,41,46,40,102,32,50,41,41,62,41]⟩,.str ⟨#[60,40,108,101,116,32,103,61,40,92,120,58,73,46,120,41,32,126,40,105,102,32,35,116,32,60,40,103,32,49,41,62,32,60,50,62,41,41,62]⟩]))] (txI zs Nm) (txO zs) txR:=CK zs hz Nm (by decide) (by decide) i hi h
 refine AL [0,1,2,3,4,5,6,7,8,9,10,11,12] func200 rfl rfl (by simp [ntmps200]) (fun _ _=>rfl) ?_
 refine byP (fc (drZ zs) (fc ntmps200 results200)) ?_
 refine AX 2 rfl ?_
 refine byQ ?_
 refine Bh hP rfl rfl rfl ?_ (byP (drZ zs) tI) (byP (drZ zs) tI) ?_
 ·refine byP (drZ zs) ?_
  rfl
 rintro ⟨s,i1,h1⟩ ⟨hs,hi1⟩
 simp only at hs hi1
 have hsz:=PL s hs
 refine rG (drZ zs) ?_
 refine KX (ptF) (PT s (by omega)) ?_
 rintro ⟨e,b⟩ he
 have he':msz e≤8 * s.size:=he
 refine rG (fc ptF (fc (drZ zs) (fc ntmps200 results200))) ?_
 refine ⟨.inl rfl,(e,i1,h1),⟨by show msz e≤2000;omega,hi1⟩, ?_⟩
 refine byP (fc (drZ zs) (fc tmF (fc mkF (fc ntmps200 results200)))) ?_
 exact Fi
theorem Mm:(∀ t,tyZ t = .ag [.r (.int t.kind),.r (.rows 2 t.args.length (Ai t.args))])∧(∀ k xs,(Ty.mk k xs).kind=k∧(Ty.mk k xs).args=xs)∧gI = .mk 1 []∧gB = .mk 2 []∧(∀ t,gC t = .mk 4 [t])∧Ai []=[]∧(∀ a,Ai [a]=[.int a.kind,.rows 2 a.args.length (Ai a.args)])∧(∀ a b,Ai [a,b]=[.int a.kind,.rows 2 a.args.length (Ai a.args),.int b.kind,.rows 2 b.args.length (Ai b.args)]):=⟨fun _=>rfl,fun _ _=>⟨rfl,rfl⟩,rfl,rfl,fun _=>rfl,rfl,aHd,aI4⟩
def clT:List Ty:=[gI,gB,gC gI,gC (.mk 3 [gI,gI]),.mk 3 [gI,gI],gC (gC gI),gI,gC gI]
theorem XY:∀ t ∈ clT,BE t=true∧tsz t≤3:=by decide
theorem Zm (v:Nat) (h:v<8):∃ u,BE u=true∧tsz u≤3∧rowAt 2 [D.int 1,.rows 2 0 [],.int 2,.rows 2 0 [],.int 4,.rows 2 1 [.int 1,.rows 2 0 []],.int 4,.rows 2 1 [.int 3,.rows 2 2 [.int 1,.rows 2 0 [],.int 1,.rows 2 0 []]],.int 3,.rows 2 2 [.int 1,.rows 2 0 [],.int 1,.rows 2 0 []],.int 4,.rows 2 1 [.int 4,.rows 2 1 [.int 1,.rows 2 0 []]],.int 1,.rows 2 0 [],.int 4,.rows 2 1 [.int 1,.rows 2 0 []]] v=[.int u.kind,.rows 2 u.args.length (Ai u.args)]:=by
 have h2:v<clT.length:=h
 refine ⟨clT[v]!,(XY _ (Ab h2)).1,(XY _ (Ab h2)).2, ?_⟩
 have:=Ax clT v h2
 rw [Au] at this
 exact this
set_option maxHeartbeats 16000000 in
theorem Qh (zs:List Int) (hz:CT zs) (i:Nat) (hi:i≤zs.length) (h:Int):Bz prog 129 [.p (AK zs i h)] (tmI zs 200000) (tmO zs) KZ:=by
 have hO:=fun n hn hn2 i hi h=>CX zs hz n hn hn2 i hi h
 have hB:=fun n hn hn2 i hi h=>BA zs hz n hn hn2 i hi h
 have cI:Bc prog 201 [] [] [.ag [.r (.int 1),.r (.rows 2 0 [])]]:=Le
 have cB:Bc prog 202 [] [] [.ag [.r (.int 2),.r (.rows 2 0 [])]]:=OK
 have c1:Bc prog 203 [.b (.ag [.int 1,.rows 2 0 []])] [] [.ag [.r (.int 4),.r (.rows 2 1 [.int 1,.rows 2 0 []])]]:=Il gI (by decide)
 have c2:Bc prog 204 [.b (.ag [.int 1,.rows 2 0 []]),.b (.ag [.int 1,.rows 2 0 []])] [] [.ag [.r (.int 3),.r (.rows 2 2 [.int 1,.rows 2 0 [],.int 1,.rows 2 0 []])]]:=XN gI gI (by decide) (by decide)
 have c3:Bc prog 203 [.b (.ag [.int 3,.rows 2 2 [.int 1,.rows 2 0 [],.int 1,.rows 2 0 []]])] [] [.ag [.r (.int 4),.r (.rows 2 1 [.int 3,.rows 2 2 [.int 1,.rows 2 0 [],.int 1,.rows 2 0 []]])]]:=Il (.mk 3 [gI,gI]) (by decide)
 have c4:Bc prog 203 [.b (.ag [.int 4,.rows 2 1 [.int 1,.rows 2 0 []]])] [] [.ag [.r (.int 4),.r (.rows 2 1 [.int 4,.rows 2 1 [.int 1,.rows 2 0 []]])]]:=Il (gC gI) (by decide)
 refine AL [0,1,2,3,4,5,6,7,8,9,10,11,12] func129 rfl rfl (by simp [ntmps129]) (fun _ _=>rfl) ?_
 refine byP (fc (drZ zs) (fc ntmps129 results129)) ?_
 refine KX (drZ zs) (hO 4 (by decide) (by decide) i hi h) ?_
 rintro ⟨b,i1,h1⟩ hi1
 have hi1':i1≤zs.length:=hi1
 cases b
 case true =>
  refine rG (drZ zs) ?_
  refine KX (drZ zs) (Qr zs hz i1 hi1' h1) ?_
  rintro ⟨e,i2,h2⟩ ⟨he,hi2⟩
  simp only at he hi2
  refine rG (fc (drZ zs) (fc ntmps129 results129)) ?_
  refine ⟨.inl rfl,(e,i2,h2),⟨by show szL (tmC e)≤200000;omega,hi2⟩, ?_⟩
  refine byP (fc (drZ zs) (fc tmF (fc mkF (fc ntmps129 results129)))) ?_
  exact Fi
 case false =>
  refine rG (drZ zs) ?_
  refine KR cI ?_
  refine rQ ?_
  refine DQ 2 rfl rfl ?_
  refine Cr [0,2,4,5,8,9,11,14,15] (.cons 18 true (.fork (.alt 1 (.fork (.alt 3 (.fork (.alt 6 (.fork (.alt 7 (.fork (.alt 10 (.fork (.alt 12 (.fork (.alt 13 (.fork (.alt 16 (.fork (.alt 17 (.fork (.alt 19 (oT [20,21] (oF [22,23] .nil)) (.alt 22 (.cons 19 false (oT [20,21] (.cons 23 false .nil))) .last))) (.alt 19 (.fork (.alt 17 (oT [20,21] (oF [22,23] .nil)) (.alt 22 (.cons 17 false (oT [20,21] (.cons 23 false .nil))) .last))) (.alt 22 (.fork (.alt 17 (.cons 19 false (oT [20,21] (.cons 23 false .nil))) (.alt 19 (.cons 17 false (oT [20,21] (.cons 23 false .nil))) .last))) .last)))) (.alt 22 (.cons 16 false (.fork (.alt 17 (.cons 19 false (oT [20,21] (.cons 23 false .nil))) (.alt 19 (.cons 17 false (oT [20,21] (.cons 23 false .nil))) .last)))) .last))) (.alt 22 (oF [13,16] (.fork (.alt 17 (.cons 19 false (oT [20,21] (.cons 23 false .nil))) (.alt 19 (.cons 17 false (oT [20,21] (.cons 23 false .nil))) .last)))) .last))) (.alt 22 (oF [12,13,16] (.fork (.alt 17 (.cons 19 false (oT [20,21] (.cons 23 false .nil))) (.alt 19 (.cons 17 false (oT [20,21] (.cons 23 false .nil))) .last)))) .last))) (.alt 22 (oF [10,12,13,16] (.fork (.alt 17 (.cons 19 false (oT [20,21] (.cons 23 false .nil))) (.alt 19 (.cons 17 false (oT [20,21] (.cons 23 false .nil))) .last)))) .last))) (.alt 22 (oF [7,10,12,13,16] (.fork (.alt 17 (.cons 19 false (oT [20,21] (.cons 23 false .nil))) (.alt 19 (.cons 17 false (oT [20,21] (.cons 23 false .nil))) .last)))) .last))) (.alt 22 (oF [6,7,10,12,13,16] (.fork (.alt 17 (.cons 19 false (oT [20,21] (.cons 23 false .nil))) (.alt 19 (.cons 17 false (oT [20,21] (.cons 23 false .nil))) .last)))) .last))) (.alt 22 (oF [3,6,7,10,12,13,16] (.fork (.alt 17 (.cons 19 false (oT [20,21] (.cons 23 false .nil))) (.alt 19 (.cons 17 false (oT [20,21] (.cons 23 false .nil))) .last)))) .last))) (.alt 22 (oF [1,3,6,7,10,12,13,16] (.fork (.alt 17 (.cons 19 false (oT [20,21] (.cons 23 false .nil))) (.alt 19 (.cons 17 false (oT [20,21] (.cons 23 false .nil))) .last)))) .last)))) (by kernel_rfl) AG (by kernel_rfl) ?_ ?_
  ·exact byP prF tI
  refine rG prF ?_
  repeat' (with_reducible apply And.intro)
  all_goals
   refine Bq (cap:=[]) (cB) rfl rfl rfl (byP (Mm) tI) ?_
   refine rG Mm ?_
  repeat' (with_reducible apply And.intro)
  all_goals
   refine Bq (cap:=[]) (c1) rfl rfl rfl (byP (Mm) tI) ?_
   refine rG Mm ?_
  repeat' (with_reducible apply And.intro)
  all_goals
   refine Bq (cap:=[]) (c2) rfl rfl rfl (byP (Mm) tI) ?_
   refine rG Mm ?_
  repeat' (with_reducible apply And.intro)
  all_goals
   refine Bq (cap:=[]) (c3) rfl rfl rfl (byP (Mm) tI) ?_
   refine rG Mm ?_
  repeat' (with_reducible apply And.intro)
  all_goals
   refine Bq (cap:=[]) (c2) rfl rfl rfl (byP (Mm) tI) ?_
   refine rG Mm ?_
  repeat' (with_reducible apply And.intro)
  all_goals
   refine Bq (cap:=[]) (c1) rfl rfl rfl (byP (Mm) tI) ?_
   refine rG Mm ?_
  repeat' (with_reducible apply And.intro)
  all_goals
   refine Bq (cap:=[]) (c4) rfl rfl rfl (byP (Mm) tI) ?_
   refine rG Mm ?_
  repeat' (with_reducible apply And.intro)
  all_goals
   refine Bq (cap:=[]) (c1) rfl rfl rfl (byP (Mm) tI) ?_
   refine rG Mm ?_
  repeat' (with_reducible apply And.intro)
  all_goals
   refine Ay (hB 8 (by decide) (by decide) i1 hi1' h1) rfl rfl rfl (byP (drZ zs) tI) (byP (drZ zs) tI) (byP (drZ zs) tI) rfl ?_
   rintro ⟨v,i2,h2⟩ ⟨hv,hi2⟩
   simp only at hv hi2
   have hv0:=hv.1
   have hv8:v<8:=by omega
   obtain ⟨u,hu1,hu2,hrow⟩:=Zm v.toNat (by omega)
   refine rG (fc (drZ zs) (fc hv0 (fc hv8 hrow))) ?_
  repeat' (with_reducible apply And.intro)
  all_goals
   first | refine DQ 3 rfl rfl ?_ | refine DQ 4 rfl rfl ?_
   refine Cr [2] (oT [0,3] (.fork (.alt 1 (.cons 4 false (.cons 5 true (oF [6,7] .nil))) (.alt 4 (.cons 5 true (oF [1,6,7] .nil)) .last)))) (by kernel_rfl) AG (by kernel_rfl) ?_ ?_
   ·exact byP prF tI
   refine rG prF ?_
  repeat' (with_reducible apply And.intro)
  all_goals
   refine Ay (hB 3 (by decide) (by decide) i2 hi2 h2) rfl rfl rfl (byP (drZ zs) tI) (byP (drZ zs) tI) (byP (drZ zs) tI) rfl ?_
   rintro ⟨w,i3,h3⟩ ⟨hw,hi3⟩
   simp only at hw hi3
   obtain ⟨d,hd⟩:∃ d:Nat,3+w=(d:Int):=⟨(3+w).toNat,by omega⟩
   have hd5:d≤5:=by omega
   have hin:inI (d:Int):=by unfold inI;omega
   have hG:Bz prog 205 [.p (AK zs i3 h3),.b (.one (.rows 4 0 [])),.b (.ag [.int u.kind,.rows 2 u.args.length (Ai u.args)]),.b (.one (.int 0)),.b (.one (.int d))] (tmI zs (gsz (tsz u) d)) (tmO zs) KZ:=Ng zs hz d (by omega) [] u 0 i3 h3 ⟨Nat.zero_le _,fun g hg=>by cases hg⟩ hu1 (by omega) (Int.le_refl _) (by omega) hi3
   have hgb:=ND (tsz u) d (by omega) (by omega)
   refine rG (fc (drZ zs) (fc hd hin)) ?_
   first | (refine EB 5 rfl ?_) | (refine EB 6 rfl ?_) | skip
   refine byQ ?_
   refine Ay (hG) rfl rfl rfl (byP (drZ zs) tI) (byP (drZ zs) tI) (byP (drZ zs) tI) rfl ?_
   rintro ⟨e,i4,h4⟩ ⟨he,hi4⟩
   simp only at he hi4
   refine rG (fc (drZ zs) (fc ntmps129 results129)) ?_
   refine ⟨.inl rfl,(e,i4,h4),⟨by show szL (tmC e)≤200000;omega,hi4⟩, ?_⟩
   refine byP (fc (drZ zs) (fc tmF (fc mkF (fc ntmps129 results129)))) ?_
   exact Fi
theorem Cw (s:CS) (op a:Int) (hl:s.code.length≤100000000) (x:Value) (hx:x.oneCell'=true):Bc prog 63 (.p [.a 37 (.rows 2 s.code.length (flC Bk s.code)),.v x] :: [PD.one (.int op),PD.one (.int a)].map PA.b) [[.a 37 (.rows 2 (Be s op a).code.length (flC Bk (Be s op a).code)),.v x]] [.one (.o (.int s.code.length))]:=by
 have hA:flC Bk (Be s op a).code=flC Bk s.code++[.int op,.int a]:=by unfold Be;rw [AM,AA];rfl
 rw [hA,Bi]
 simp only [List.map]
 refine Ad func63 rfl rfl (by simp [ntmps63]) rfl ?_
 refine byP (fc ntmps63 results63) ?_
 exact ⟨⟨fun h=>h.elim,fun o ho=>by omega,by unfold maxLen;omega,by omega⟩,by unfold inI;omega,by omega⟩
theorem Hb (a b:List ByteArray) (ha:a.length≤100000000) (hb:b.length≤100000000):Con prog 142 [.one (.rows 1 a.length (a.map D.str)),.one (.rows 1 b.length (b.map D.str))] [.one (.rows 1 (a++b).length ((a++b).map D.str))]:=by
 have hp:∀ d ∈ a.map D.str,d.prim=true:=LU a
 have hp2:∀ d ∈ b.map D.str,d.prim=true:=LU b
 rw [List.length_append,List.map_append]
 refine Af func142 rfl rfl (by simp [ntmps142]) ?_
 refine byP (fc ntmps142 results142) ?_
 refine ⟨⟨fun _=>hp,fun _ _=>trivial,by unfold maxLen;omega,by omega⟩,fun _=>hp2,fun _ _=>trivial,by unfold maxLen;omega,by omega⟩
theorem Rc (names:List ByteArray) (x:ByteArray) (hl:names.length≤100000000) (hin:x ∈ names):Con prog 140 [.one (Bl names),.one (.str x)] [.one (.int (plN names x))]:=by
 have hpos:0<names.length:=List.length_pos_of_mem hin
 refine Af func140 rfl rfl (by simp [ntmps140]) ?_
 refine byP ntmps140 ?_
 refine ⟨by unfold inI;omega, ?_⟩
 refine Al (fun k:Nat=>k<names.length∧x ∈ names.take (k+1)∧lsN names x (k+1)=lsN names x names.length) (fun k=>⟨24,[(5,.i k),(0,(.br (.rows 1 names.length (names.map D.str)))),(1,.s x)],[],[],0,[]⟩) (fun k=>k) (names.length-1) id ⟨by omega, ?_, ?_⟩ ?_ ?_
 ·rw [List.take_of_length_le (by omega)];exact hin
 ·rw [show names.length-1+1=names.length by omega]
 ·exact byP (show ((names.length-1:Nat):Int)=(names.length:Int)-1 by omega) tI
 ·rintro k ⟨hk0,hm,hlk⟩
  refine Aa 200 _ _ _ ?_
  have hi:(k:Int)<(names.length:Int):=by omega
  have hR:=Cc names k hk0
  by_cases he:names[k]! = x
  ·rw [lsN,if_pos he] at hlk
   have hpl:(names.length:Int)-1-(k:Int)=plN names x:=by unfold plN;rw [← hlk]
   refine byP (fc hi (fc hR (fc he (fc hpl results140)))) ?_
   exact ⟨by unfold inI;omega,by rw [← hpl];unfold inI;omega⟩
  ·rw [lsN,if_neg he] at hlk
   have hm':x ∈ names.take k:=by
    rw [AH names k hk0,List.mem_append,List.mem_singleton] at hm
    exact hm.resolve_right fun h=>he h.symm
   have hk1:0<k:=by
    rcases Nat.eq_zero_or_pos k with e0 | e0
    ·subst e0;simp at hm'
    ·exact e0
   refine byP (fc hi (fc hR he)) ?_
   refine ⟨by unfold inI;omega,k-1,id,⟨by omega,by rw [show k-1+1=k by omega];exact hm',by rw [show k-1+1=k by omega];exact hlk⟩,by omega, ?_⟩
   exact byP (show ((k-1:Nat):Int)=(k:Int)-1 by omega) tI
theorem aAc (s:ByteArray):Con prog 143 [.one (.str s)] [.one (.int (fi s Kp 0+1))]:=by
 have hin:=aBz s Kp (by decide)
 have h:=BU Kp s (by decide)
 refine Af func143 rfl rfl (by simp [ntmps143]) ?_
 refine byP ntmps143 ?_
 refine Kc Ol ?_
 refine rQ ?_
 refine Kc h ?_
 exact rG (fc hin results143) tI
def Xj (e:Tm):Prop:=∀ names s,PQ e names s→plT e=true→Cov names e→Bc prog 62 [.p (csP 104 s),.b (.ag (tmC e)),.b (.one (Bl names))] [csP 104 (cpT e names s)] []
theorem aAu (e:Tm) (names:List ByteArray) (s:CS) (hr:PQ e names s) (hk:e.kind=2):Bc prog 62 [.p (csP 104 s),.b (.ag (tmC e)),.b (.one (Bl names))] [csP 104 (cpT e names s)] []:=by
 obtain ⟨hz,h1,h2,h3⟩:=hr
 have hT:cpT e names s=Be s 1 e.n:=by rw [DU,cpF,if_pos hk]
 have hP:=Cw s 1 e.n (by omega)
 rw [hT]
 simp only [CO,CB]
 refine Ad func62 rfl rfl (by simp [ntmps62]) rfl ?_
 refine byP (fc hk ntmps62) ?_
 refine Cz (hP) rfl rfl rfl rfl rfl (by decide) ?_ (Aa 200 _ _ _ ?_)
 ·exact byQ tI
 exact byP (fc Er.eq_1 results62) tI
theorem aAg (e:Tm) (names:List ByteArray) (s:CS) (hr:PQ e names s) (hk:e.kind=3):Bc prog 62 [.p (csP 104 s),.b (.ag (tmC e)),.b (.one (Bl names))] [csP 104 (cpT e names s)] []:=by
 obtain ⟨hz,h1,h2,h3⟩:=hr
 have hT:cpT e names s=Be s 2 e.n:=by rw [DU,cpF,if_neg (by omega),if_pos hk]
 have hP:=Cw s 2 e.n (by omega)
 rw [hT]
 simp only [CO,CB]
 refine Ad func62 rfl rfl (by simp [ntmps62]) rfl ?_
 refine byP (fc hk ntmps62) ?_
 refine Cz (hP) rfl rfl rfl rfl rfl (by decide) ?_ (Aa 200 _ _ _ ?_)
 ·exact byQ tI
 exact byP (fc Er.eq_1 results62) tI
theorem aAj (e:Tm) (names:List ByteArray) (s:CS) (hr:PQ e names s) (hk:e.kind=1) (hin:e.name ∈ names):Bc prog 62 [.p (csP 104 s),.b (.ag (tmC e)),.b (.one (Bl names))] [csP 104 (cpT e names s)] []:=by
 obtain ⟨hz,h1,h2,h3⟩:=hr
 have hT:cpT e names s=Be s 3 (plN names e.name):=by rw [DU,cpF,if_neg (by omega),if_neg (by omega),if_pos hk]
 have hP:=Cw s 3 (plN names e.name) (by omega)
 have hL:=Rc names e.name (by omega) hin
 simp only [Bl] at hL
 rw [hT]
 simp only [CO,CB]
 refine Ad func62 rfl rfl (by simp [ntmps62]) rfl ?_
 refine byP (fc hk ntmps62) ?_
 refine Kc hL ?_
 refine rQ ?_
 refine Cz (hP) rfl rfl rfl rfl rfl (by decide) ?_ (Aa 200 _ _ _ ?_)
 ·exact byQ tI
 exact byP (fc Er.eq_1 results62) tI
theorem Yv (e:Tm) (ih:∀ x ∈ e.args,Xj x) (names:List ByteArray) (s:CS) (hr:PQ e names s) (hp:plT e=true) (hc:Cov names e) (hk:e.kind=5):Bc prog 141 [.p (csP 104 s),.b (.ag (tmC e)),.b (.one (Bl names))] [csP 104 (cpT e names s)] []:=by
 obtain ⟨hz,h1,h2,h3⟩:=hr
 obtain ⟨_,k5,k6,k7,k8,k9⟩:=BO hp
 have hpa:=Ca hp
 have hl:=k5 hk
 have hs:=sz3 hl
 have i0:(0:Int)<(e.args.length:Int):=by omega
 have m0:=Ab (show 0<e.args.length by omega)
 have r0:=Aj e.args 0 (by omega)
 have g0:=IZ 10000000 e.args[0]! (by omega) names s (hpa _ m0) (Bm hc (.inr (.inl hk)) (by omega)) (by (try simp only [List.length_append,List.length_cons,List.length_nil]);omega)
 have q0:=g0.code;have p0:=g0.q
 have c0:=ih _ m0 names s ⟨by omega,by (try simp only [List.length_append,List.length_cons,List.length_nil]);omega,by omega,by omega⟩ (hpa _ m0) (Bm hc (.inr (.inl hk)) (by omega))
 obtain ⟨s1,e0⟩:∃ s1,s1=cpT e.args[0]! names s:=⟨_,rfl⟩
 rw [← e0] at q0 p0 c0
 simp only [Bl,CO] at c0
 have i1:(1:Int)<(e.args.length:Int):=by omega
 have m1:=Ab (show 1<e.args.length by omega)
 have r1:=Aj e.args 1 (by omega)
 have l1:=Bi s1 6 0
 have l1q:(Be s1 6 0).q.length=s1.q.length:=rfl
 have g1:=IZ 10000000 e.args[1]! (by omega) names (Be s1 6 0) (hpa _ m1) (Bm hc (.inr (.inl hk)) (by omega)) (by (try simp only [List.length_append,List.length_cons,List.length_nil]);omega)
 have q1:=g1.code;have p1:=g1.q
 have c1:=ih _ m1 names (Be s1 6 0) ⟨by omega,by (try simp only [List.length_append,List.length_cons,List.length_nil]);omega,by omega,by omega⟩ (hpa _ m1) (Bm hc (.inr (.inl hk)) (by omega))
 obtain ⟨s2,e1⟩:∃ s2,s2=cpT e.args[1]! names (Be s1 6 0):=⟨_,rfl⟩
 rw [← e1] at q1 p1 c1
 simp only [Bl,CO,CB] at c1
 have i2:(2:Int)<(e.args.length:Int):=by omega
 have m2:=Ab (show 2<e.args.length by omega)
 have r2:=Aj e.args 2 (by omega)
 have l2:=Bi s2 5 0
 have l2q:(Be s2 5 0).q.length=s2.q.length:=rfl
 have l3:=Cd (Be s2 5 0) s1.code.length (Be s2 5 0).code.length
 have l3q:(Db (Be s2 5 0) s1.code.length (Be s2 5 0).code.length).q.length=(Be s2 5 0).q.length:=rfl
 have g2:=IZ 10000000 e.args[2]! (by omega) names (Db (Be s2 5 0) s1.code.length (Be s2 5 0).code.length) (hpa _ m2) (Bm hc (.inr (.inl hk)) (by omega)) (by (try simp only [List.length_append,List.length_cons,List.length_nil]);omega)
 have q2:=g2.code;have p2:=g2.q
 have c2:=ih _ m2 names (Db (Be s2 5 0) s1.code.length (Be s2 5 0).code.length) ⟨by omega,by (try simp only [List.length_append,List.length_cons,List.length_nil]);omega,by omega,by omega⟩ (hpa _ m2) (Bm hc (.inr (.inl hk)) (by omega))
 obtain ⟨s3,e2⟩:∃ s3,s3=cpT e.args[2]! names (Db (Be s2 5 0) s1.code.length (Be s2 5 0).code.length):=⟨_,rfl⟩
 rw [← e2] at q2 p2 c2
 simp only [Bl,CO,CB,Hh,Cd] at c2
 have hT:cpT e names s=Db s3 s2.code.length s3.code.length:=by
  rw [DU,cpF,if_neg (by omega),if_neg (by omega),if_neg (by omega),if_neg (by omega),if_pos hk,ifF,AU cpT (by omega),AU cpT (by omega),AU cpT (by omega),← e0,← e1,← e2]
 have hP1:=Cw s1 6 0 (by omega)
 have hP2:=Cw s2 5 0 (by omega)
 have b1:(s1.code.length:Int)<((Be s2 5 0).code.length:Int):=by omega
 have b2:(s2.code.length:Int)<(s3.code.length:Int):=by omega
 have w1:=Kw (Be s2 5 0) s1.code.length (Be s2 5 0).code.length (by omega)
 have w2:=Kw s3 s2.code.length s3.code.length (by omega)
 rw [hT]
 simp only [CO,Hh,Cd]
 refine Ad func141 rfl rfl (by simp [ntmps141]) rfl ?_
 refine byP (fc hk (fc i0 (fc r0 ntmps141))) ?_
 refine KR c0 ?_
 refine rQ ?_
 refine Cz (hP1) rfl rfl rfl rfl rfl (by decide) ?_ (Aa 200 _ _ _ ?_)
 ·exact byQ tI
 refine byP (fc Er.eq_1 (fc i1 r1)) ?_
 refine KR c1 ?_
 refine rQ ?_
 refine Cz (hP2) rfl rfl rfl rfl rfl (by decide) ?_ (Aa 200 _ _ _ ?_)
 ·exact byQ tI
 refine byP Er.eq_1 ?_
 refine Ac (oT [0,1,2,3,4,5,6,7,8,9,10,11] (.cons 12 false .nil)) (by kernel_rfl) Ar (by kernel_rfl) (Aa 200 _ _ _ ?_)
 refine byP (fc i2 (fc r2 (fc b1 w1))) ?_
 refine KR c2 ?_
 refine rQ ?_
 refine Ac (oT [0,1,2,3,4,5,6,7,8,9,10,11] (.cons 12 false .nil)) (by kernel_rfl) Ar (by kernel_rfl) (Aa 200 _ _ _ ?_)
 exact byP (fc b2 (fc w2 results141)) tI
theorem YS (e:Tm) (ih:∀ x ∈ e.args,Xj x) (names:List ByteArray) (s:CS) (hr:PQ e names s) (hp:plT e=true) (hc:Cov names e) (hk:e.kind=5):Bc prog 62 [.p (csP 104 s),.b (.ag (tmC e)),.b (.one (Bl names))] [csP 104 (cpT e names s)] []:=by
 have c0:=Yv e ih names s hr hp hc hk
 obtain ⟨hz,h1,h2,h3⟩:=hr
 obtain ⟨_,k5,k6,k7,k8,k9⟩:=BO hp
 have hpa:=Ca hp
 simp only [Bl,CO] at c0
 simp only [CO]
 refine Ad func62 rfl rfl (by simp [ntmps62]) rfl ?_
 refine byP (fc hk ntmps62) ?_
 refine Bo (c0) rfl rfl rfl ?_ ?_ ?_ (Aa 200 _ _ _ ?_)
 ·exact byP hk tI
 ·exact byP hk tI
 ·exact byP hk tI
 exact byP results62 tI
theorem Zn (e:Tm) (ih:∀ x ∈ e.args,Xj x) (names:List ByteArray) (s:CS) (hr:PQ e names s) (hp:plT e=true) (hc:Cov names e) (hk:e.kind=4):Bc prog 62 [.p (csP 104 s),.b (.ag (tmC e)),.b (.one (Bl names))] [csP 104 (cpT e names s)] []:=by
 obtain ⟨hz,h1,h2,h3⟩:=hr
 obtain ⟨_,k5,k6,k7,k8,k9⟩:=BO hp
 have hpa:=Ca hp
 have hO:=aAc e.name
 have hT:cpT e names s=Be (Ep ((e.args.take e.args.length).map cpT) names s) 4 (fi e.name Kp 0+1):=by
  rw [DU,cpF,if_neg (by omega),if_neg (by omega),if_neg (by omega),if_pos hk,List.take_length]
 have key:∀ k,k≤e.args.length→(Ep ((e.args.take k).map cpT) names s).code.length≤s.code.length+2 * (k+szL (Av (e.args.take k)))∧(Ep ((e.args.take k).map cpT) names s).q.length≤s.q.length+2 * (k+szL (Av (e.args.take k))):=by
  intro k
  induction k with
  | zero=>intro _;exact ⟨Nat.le_add_right _ _,Nat.le_add_right _ _⟩
  | succ k ihk =>
   intro hk'
   have a1:=ihk (by omega)
   have a2:=szK (e:=e) (k:=k) (by omega)
   have a3:=IZ 10000000 e.args[k]! (by omega) names (Ep ((e.args.take k).map cpT) names s) (hpa _ (Ab (by omega))) (Bm hc (by simp [hk]) (by omega)) (by omega)
   have a4:=a3.code;have a5:=a3.q
   rw [Dq e names s (by omega),AH e.args k (by omega),At,AM,Ah,AA,← At]
   omega
 have tsz:∀ k,k≤e.args.length→szL (Av (e.args.take k))≤szL (Av e.args):=fun k hk'=>by
  have e0:szL (Av e.args)=szL (Av (e.args.take k))+szL (Av (e.args.drop k)):=by rw [At,At,At,← Ah,← AM,List.take_append_drop]
  omega
 have hz9:=BM e
 have hP:=Cw (Ep ((e.args.take e.args.length).map cpT) names s) 4 (fi e.name Kp 0+1) (by have:=key e.args.length (Nat.le_refl _);have:=tsz e.args.length (Nat.le_refl _);omega)
 rw [hT]
 simp only [CO,CB]
 refine Ad func62 rfl rfl (by simp [ntmps62]) rfl ?_
 refine byP (fc hk ntmps62) ?_
 refine Al (fun k:Nat=>k≤e.args.length) (fun k=>⟨136,[(8,.i k),(4,.bx 3 0),(0,.bx 2 0),(2,(.br (.rows 1 names.length (names.map D.str))))],[(3,[.i 4,.s e.name,.s e.other,.i e.n,.i e.ty.kind,.br (.rows 2 e.ty.args.length (Ai e.ty.args)),.i e.res.kind,.br (.rows 2 e.res.args.length (Ai e.res.args)),.br (.rows 9 e.args.length (Av e.args))]),(2,[.sl 0,.sl 1])],[(1,some ⟨.rows 11 (Ep ((e.args.take k).map cpT) names s).q.length (flC wtC (Ep ((e.args.take k).map cpT) names s).q),some 104,false⟩),(0,some ⟨.rows 2 (Ep ((e.args.take k).map cpT) names s).code.length (flC Bk (Ep ((e.args.take k).map cpT) names s).code),some 37,true⟩)],4,[2]⟩) (fun k=>e.args.length-k) 0 id (Nat.zero_le _) ?_ ?_
 ·simp only [push_cast,Sub,EG,EL,ED,EH,inj,AV.ren,AV.rens,AV.lt,AV.lts,↓reduceIte,Nat.reduceLT,Nat.reduceEqDiff,reduceCtorEq,Ep,List.map_nil,List.foldl_nil]
 ·rintro k hk0
  refine Aa 200 _ _ _ ?_
  by_cases hlt:k<e.args.length
  ·have hi:(k:Int)<(e.args.length:Int):=by omega
   have hR:=Aj e.args k hlt
   have a2:=szK (e:=e) (k:=k) hlt
   have a3:=key k hk0
   have a4:=tsz k hk0
   have hst:=Dq e names s hlt
   have a5:=tsz (k+1) (by omega)
   rw [AH e.args k hlt,At,AM,Ah,AA,← At] at a5
   have c0:=ih _ (Ab hlt) names (Ep ((e.args.take k).map cpT) names s) ⟨by omega,by omega,by omega,by omega⟩ (hpa _ (Ab hlt)) (Bm hc (by simp [hk]) hlt)
   rw [← hst] at c0
   simp only [Bl,CO] at c0
   refine byP (fc hi hR) ?_
   refine KR c0 ?_
   refine rQ ?_
   refine ⟨by unfold inI;omega,k+1,rnL [(0,4),(1,5)],by omega,by omega, ?_⟩
   exact byQ tI
  ·have hi:¬ (k:Int)<(e.args.length:Int):=by omega
   obtain rfl:k=e.args.length:=by omega
   refine byP hi ?_
   refine rQ ?_
   refine Kc hO ?_
   refine rQ ?_
   refine Cz (hP) rfl rfl rfl rfl rfl (by decide) ?_ (Aa 200 _ _ _ ?_)
   ·exact byQ tI
   exact byP (fc Er.eq_1 results62) tI
theorem Yy (e:Tm) (ih:∀ x ∈ e.args,Xj x) (names:List ByteArray) (s:CS) (hr:PQ e names s) (hp:plT e=true) (hc:Cov names e) (hk:e.kind=7):Bc prog 62 [.p (csP 104 s),.b (.ag (tmC e)),.b (.one (Bl names))] [csP 104 (cpT e names s)] []:=by
 obtain ⟨hz,h1,h2,h3⟩:=hr
 obtain ⟨_,k5,k6,k7,k8,k9⟩:=BO hp
 have hpa:=Ca hp
 have hl:=k7 hk
 have hT:cpT e names s=Be (Ep ((e.args.take e.args.length).map cpT) names s) 9 0:=by
  rw [DU,cpF,if_neg (by omega),if_neg (by omega),if_neg (by omega),if_neg (by omega),if_neg (by omega),if_neg (by omega),if_neg (by omega),if_pos hk,AU cpT (by omega),AU cpT (by omega)]
  have e2:=Dq e names s (k:=1) (by omega)
  have e1:=Dq e names s (k:=0) (by omega)
  rw [hl,e2,e1]
  rfl
 have key:∀ k,k≤e.args.length→(Ep ((e.args.take k).map cpT) names s).code.length≤s.code.length+2 * (k+szL (Av (e.args.take k)))∧(Ep ((e.args.take k).map cpT) names s).q.length≤s.q.length+2 * (k+szL (Av (e.args.take k))):=by
  intro k
  induction k with
  | zero=>intro _;exact ⟨Nat.le_add_right _ _,Nat.le_add_right _ _⟩
  | succ k ihk =>
   intro hk'
   have a1:=ihk (by omega)
   have a2:=szK (e:=e) (k:=k) (by omega)
   have a3:=IZ 10000000 e.args[k]! (by omega) names (Ep ((e.args.take k).map cpT) names s) (hpa _ (Ab (by omega))) (Bm hc (by simp [hk]) (by omega)) (by omega)
   have a4:=a3.code;have a5:=a3.q
   rw [Dq e names s (by omega),AH e.args k (by omega),At,AM,Ah,AA,← At]
   omega
 have tsz:∀ k,k≤e.args.length→szL (Av (e.args.take k))≤szL (Av e.args):=fun k hk'=>by
  have e0:szL (Av e.args)=szL (Av (e.args.take k))+szL (Av (e.args.drop k)):=by rw [At,At,At,← Ah,← AM,List.take_append_drop]
  omega
 have hz9:=BM e
 have hP:=Cw (Ep ((e.args.take e.args.length).map cpT) names s) 9 0 (by have:=key e.args.length (Nat.le_refl _);have:=tsz e.args.length (Nat.le_refl _);omega)
 rw [hT]
 simp only [CO,CB]
 refine Ad func62 rfl rfl (by simp [ntmps62]) rfl ?_
 refine byP (fc hk ntmps62) ?_
 refine Al (fun k:Nat=>k≤e.args.length) (fun k=>⟨136,[(8,.i k),(4,.bx 3 0),(0,.bx 2 0),(2,(.br (.rows 1 names.length (names.map D.str))))],[(3,[.i 7,.s e.name,.s e.other,.i e.n,.i e.ty.kind,.br (.rows 2 e.ty.args.length (Ai e.ty.args)),.i e.res.kind,.br (.rows 2 e.res.args.length (Ai e.res.args)),.br (.rows 9 e.args.length (Av e.args))]),(2,[.sl 0,.sl 1])],[(1,some ⟨.rows 11 (Ep ((e.args.take k).map cpT) names s).q.length (flC wtC (Ep ((e.args.take k).map cpT) names s).q),some 104,false⟩),(0,some ⟨.rows 2 (Ep ((e.args.take k).map cpT) names s).code.length (flC Bk (Ep ((e.args.take k).map cpT) names s).code),some 37,true⟩)],4,[2]⟩) (fun k=>e.args.length-k) 0 id (Nat.zero_le _) ?_ ?_
 ·simp only [push_cast,Sub,EG,EL,ED,EH,inj,AV.ren,AV.rens,AV.lt,AV.lts,↓reduceIte,Nat.reduceLT,Nat.reduceEqDiff,reduceCtorEq,Ep,List.map_nil,List.foldl_nil]
 ·rintro k hk0
  refine Aa 200 _ _ _ ?_
  by_cases hlt:k<e.args.length
  ·have hi:(k:Int)<(e.args.length:Int):=by omega
   have hR:=Aj e.args k hlt
   have a2:=szK (e:=e) (k:=k) hlt
   have a3:=key k hk0
   have a4:=tsz k hk0
   have hst:=Dq e names s hlt
   have a5:=tsz (k+1) (by omega)
   rw [AH e.args k hlt,At,AM,Ah,AA,← At] at a5
   have c0:=ih _ (Ab hlt) names (Ep ((e.args.take k).map cpT) names s) ⟨by omega,by omega,by omega,by omega⟩ (hpa _ (Ab hlt)) (Bm hc (by simp [hk]) hlt)
   rw [← hst] at c0
   simp only [Bl,CO] at c0
   refine byP (fc hi hR) ?_
   refine KR c0 ?_
   refine rQ ?_
   refine ⟨by unfold inI;omega,k+1,rnL [(0,4),(1,5)],by omega,by omega, ?_⟩
   exact byQ tI
  ·have hi:¬ (k:Int)<(e.args.length:Int):=by omega
   obtain rfl:k=e.args.length:=by omega
   refine byP hi ?_
   refine rQ ?_
   refine Cz (hP) rfl rfl rfl rfl rfl (by decide) ?_ (Aa 200 _ _ _ ?_)
   ·exact byQ tI
   exact byP (fc Er.eq_1 results62) tI
theorem aAX (e:Tm) (ih:∀ x ∈ e.args,Xj x) (names:List ByteArray) (s:CS) (hr:PQ e names s) (hp:plT e=true) (hc:Cov names e) (hk:e.kind=8):Bc prog 62 [.p (csP 104 s),.b (.ag (tmC e)),.b (.one (Bl names))] [csP 104 (cpT e names s)] []:=by
 obtain ⟨hz,h1,h2,h3⟩:=hr
 obtain ⟨_,k5,k6,k7,k8,k9⟩:=BO hp
 have hpa:=Ca hp
 have hl:=k8 hk
 have hs:=sz2 hl
 have hT:cpT e names s=Be (cpT e.args[1]! (names++[e.name]) (Be (cpT e.args[0]! names s) 11 0)) 12 0:=by
  rw [DU,cpF,if_neg (by omega),if_neg (by omega),if_neg (by omega),if_neg (by omega),if_neg (by omega),if_neg (by omega),if_neg (by omega),if_neg (by omega),if_pos hk,AU cpT (by omega),AU cpT (by omega)]
 have i0:(0:Int)<(e.args.length:Int):=by omega
 have m0:=Ab (show 0<e.args.length by omega)
 have r0:=Aj e.args 0 (by omega)
 have g0:=IZ 10000000 e.args[0]! (by omega) names s (hpa _ m0) (HC hc hk hl) (by (try simp only [List.length_append,List.length_cons,List.length_nil]);omega)
 have q0:=g0.code;have p0:=g0.q
 have c0:=ih _ m0 names s ⟨by omega,by (try simp only [List.length_append,List.length_cons,List.length_nil]);omega,by omega,by omega⟩ (hpa _ m0) (HC hc hk hl)
 obtain ⟨s1,e0⟩:∃ s1,s1=cpT e.args[0]! names s:=⟨_,rfl⟩
 rw [← e0] at q0 p0 c0
 simp only [Bl,CO] at c0
 have i1:(1:Int)<(e.args.length:Int):=by omega
 have m1:=Ab (show 1<e.args.length by omega)
 have r1:=Aj e.args 1 (by omega)
 have l1:=Bi s1 11 0
 have l1q:(Be s1 11 0).q.length=s1.q.length:=rfl
 have g1:=IZ 10000000 e.args[1]! (by omega) (names++[e.name]) (Be s1 11 0) (hpa _ m1) (HO hc hk hl) (by (try simp only [List.length_append,List.length_cons,List.length_nil]);omega)
 have q1:=g1.code;have p1:=g1.q
 have c1:=ih _ m1 (names++[e.name]) (Be s1 11 0) ⟨by omega,by (try simp only [List.length_append,List.length_cons,List.length_nil]);omega,by omega,by omega⟩ (hpa _ m1) (HO hc hk hl)
 obtain ⟨s2,e1⟩:∃ s2,s2=cpT e.args[1]! (names++[e.name]) (Be s1 11 0):=⟨_,rfl⟩
 rw [← e1] at q1 p1 c1
 simp only [Bl,CO,CB] at c1
 have hP1:=Cw s1 11 0 (by omega)
 have hP2:=Cw s2 12 0 (by omega)
 have hN:=Hb names [e.name] (by omega) (by simp)
 simp only [List.length_append,List.length_cons,List.length_nil,List.map_append,List.map_cons,List.map_nil,Nat.zero_add] at c1 hN
 rw [hT,← e0,← e1]
 simp only [CO,CB]
 refine Ad func62 rfl rfl (by simp [ntmps62]) rfl ?_
 refine byP (fc hk (fc i0 (fc r0 ntmps62))) ?_
 refine KR c0 ?_
 refine rQ ?_
 refine Cz (hP1) rfl rfl rfl rfl rfl (by decide) ?_ (Aa 200 _ _ _ ?_)
 ·exact byQ tI
 refine byP Er.eq_1 ?_
 refine Ac (oT [0,1,2,3,4,5,6,7] (oF [8,9,10] .nil)) (by kernel_rfl) Ar (by kernel_rfl) (Aa 200 _ _ _ ?_)
 refine byP (fc i1 r1) ?_
 refine KD hN ?_
 refine rQ ?_
 refine EB 8 rfl ?_
 refine byQ ?_
 refine Dl (cap:=[]) (c1) rfl rfl rfl ?_ ?_ ?_ rfl (Aa 200 _ _ _ ?_)
 ·exact byQ tI
 ·exact byQ tI
 ·exact byQ tI
 refine byQ ?_
 refine Cz (hP2) rfl rfl rfl rfl rfl (by decide) ?_ (Aa 200 _ _ _ ?_)
 ·exact byQ tI
 exact byP (fc Er.eq_1 results62) tI
theorem aAb (e:Tm) (ih:∀ x ∈ e.args,Xj x) (names:List ByteArray) (s:CS) (hr:PQ e names s) (hp:plT e=true) (hc:Cov names e) (hk:e.kind=6):Bc prog 62 [.p (csP 104 s),.b (.ag (tmC e)),.b (.one (Bl names))] [csP 104 (cpT e names s)] []:=by
 obtain ⟨hz,h1,h2,h3⟩:=hr
 obtain ⟨_,k5,k6,k7,k8,k9⟩:=BO hp
 have hpa:=Ca hp
 have hl:=k6 hk
 have hs:=sz1 hl
 have i0:(0:Int)<(e.args.length:Int):=by omega
 have r0:=Aj e.args 0 (by omega)
 have hT:cpT e names s=SO (Be s 7 0) ⟨s.code.length,names++[e.name],e.args[0]!⟩:=by
  rw [DU,cpF,if_neg (by omega),if_neg (by omega),if_neg (by omega),if_neg (by omega),if_neg (by omega),if_pos hk]
 have hP1:=Cw s 7 0 (by omega)
 have hN:=Hb names [e.name] (by omega) (by simp)
 have hW:flC wtC (s.q++[⟨s.code.length,names++[e.name],e.args[0]!⟩])=flC wtC s.q++wtC ⟨s.code.length,names++[e.name],e.args[0]!⟩:=by rw [AM,AA]
 simp only [List.length_append,List.length_cons,List.length_nil,List.map_append,List.map_cons,List.map_nil,Nat.zero_add] at hN
 rw [hT]
 simp only [CO,CB,Ob,Lx,hW,wtC,List.length_append,List.length_cons,List.length_nil,List.map_append,List.map_cons,List.map_nil,Nat.zero_add]
 refine Ad func62 rfl rfl (by simp [ntmps62]) rfl ?_
 refine byP (fc hk ntmps62) ?_
 refine Cz (hP1) rfl rfl rfl rfl rfl (by decide) ?_ (Aa 200 _ _ _ ?_)
 ·exact byQ tI
 refine byP Er.eq_1 ?_
 refine Ac (oT [0,1,2,3,4,5,6,7,8,11,12,13,14] (oF [9,10] (.cons 15 true (oF [16,17] (oT [18,19] (.cons 20 false .nil)))))) (by kernel_rfl) Ar (by kernel_rfl) (Aa 200 _ _ _ ?_)
 refine byP (fc i0 r0) ?_
 refine KD hN ?_
 refine rG results62 ?_
 repeat' (with_reducible apply And.intro)
 all_goals first | (intro h;exact h.elim) | (intro o ho;omega) | (unfold maxLen;omega) | omega
theorem Ym (e:Tm) (ih:∀ x ∈ e.args,Xj x) (names:List ByteArray) (s:CS) (hr:PQ e names s) (hp:plT e=true) (hc:Cov names e) (hk:e.kind=9):Bc prog 62 [.p (csP 104 s),.b (.ag (tmC e)),.b (.one (Bl names))] [csP 104 (cpT e names s)] []:=by
 obtain ⟨hz,h1,h2,h3⟩:=hr
 obtain ⟨_,k5,k6,k7,k8,k9⟩:=BO hp
 have hpa:=Ca hp
 have hl:=k9 hk
 have hs:=sz1 hl
 have i0:(0:Int)<(e.args.length:Int):=by omega
 have r0:=Aj e.args 0 (by omega)
 have hT:cpT e names s=SO (Be s 8 0) ⟨s.code.length,names++[e.name,e.other],e.args[0]!⟩:=by
  rw [DU,cpF,if_neg (by omega),if_neg (by omega),if_neg (by omega),if_neg (by omega),if_neg (by omega),if_neg (by omega),if_pos hk]
 have hP1:=Cw s 8 0 (by omega)
 have hN:=Hb names [e.name,e.other] (by omega) (by simp)
 have hW:flC wtC (s.q++[⟨s.code.length,names++[e.name,e.other],e.args[0]!⟩])=flC wtC s.q++wtC ⟨s.code.length,names++[e.name,e.other],e.args[0]!⟩:=by rw [AM,AA]
 simp only [List.length_append,List.length_cons,List.length_nil,List.map_append,List.map_cons,List.map_nil,Nat.zero_add,Nat.reduceAdd] at hN
 rw [hT]
 simp only [CO,CB,Ob,Lx,hW,wtC,List.length_append,List.length_cons,List.length_nil,List.map_append,List.map_cons,List.map_nil,Nat.zero_add,Nat.reduceAdd]
 refine Ad func62 rfl rfl (by simp [ntmps62]) rfl ?_
 refine byP (fc hk ntmps62) ?_
 refine Cz (hP1) rfl rfl rfl rfl rfl (by decide) ?_ (Aa 200 _ _ _ ?_)
 ·exact byQ tI
 refine byP Er.eq_1 ?_
 refine Ac (oT [0,1,2,3,4,5,6,7,8,9,10,13,14,15,16] (oF [11,12] (.cons 17 true (oF [18,19] (oT [20,21] (.cons 22 false .nil)))))) (by kernel_rfl) Ar (by kernel_rfl) (Aa 200 _ _ _ ?_)
 refine byP (fc i0 r0) ?_
 refine KD hN ?_
 refine rG results62 ?_
 repeat' (with_reducible apply And.intro)
 all_goals first | (intro h;exact h.elim) | (intro o ho;omega) | (unfold maxLen;omega) | omega
theorem RJ:∀ e:Tm,Xj e:=by
 refine Tm.ind fun e ih names s hr hp hc => ?_
 obtain ⟨hk,_⟩:=BO hp
 rcases hk with h | h | h | h | h | h | h | h | h
 ·exact aAj e names s hr h (hc.var h)
 ·exact aAu e names s hr h
 ·exact aAg e names s hr h
 ·exact Zn e ih names s hr hp hc h
 ·exact YS e ih names s hr hp hc h
 ·exact aAb e ih names s hr hp hc h
 ·exact Yy e ih names s hr hp hc h
 ·exact aAX e ih names s hr hp hc h
 ·exact Ym e ih names s hr hp hc h
def inR (x:Ins × Nat × Int):List RD:=[.ag [.o (.int x.1.op),.o (.int x.1.a)]]
def inO (zs:List Int) (x:Ins × Nat × Int):List (List CD):=[AK zs x.2.1 x.2.2]
def aI2 (zs:List Int) (x:Ins × Nat × Int):Prop:=((-1≤x.1.op∧x.1.op≤13) ∧ -1≤x.1.a∧x.1.a≤10007)∧x.2.1≤zs.length
theorem vdF (zs:List Int):(∀ v i h,inO zs (v,i,h)=[AK zs i h])∧(∀ op a i h,inR (⟨op,a⟩,i,h)=[.ag [.o (.int op),.o (.int a)]]):=⟨fun _ _ _=>rfl,fun _ _ _ _=>rfl⟩
theorem Hy (zs:List Int) (hz:CT zs) (i:Nat) (hi:i≤zs.length) (h:Int):Bz prog 162 [.p (AK zs i h)] (aI2 zs) (inO zs) inR:=by
 have hB:=fun n hn hn2 i hi h=>BA zs hz n hn hn2 i hi h
 refine AF func162 rfl rfl (by simp [ntmps162]) (fun _ _=>rfl) ?_
 refine byP (fc (drF zs) (fc (vdF zs) (fc ntmps162 results162))) ?_
 refine KX (drF zs) (hB 12 (by decide) (by decide) i hi h) ?_
 rintro ⟨v,i1,h1⟩ ⟨hv,hi1⟩
 simp only at hv hi1
 have hv':v=0∨v=1∨v=2∨v=3∨v=4∨v=5∨v=6∨v=7∨8≤v:=by omega
 rcases hv' with rfl | rfl | rfl | rfl | rfl | rfl | rfl | rfl | h8
 ·have in1:inI 1:=by unfold inI;omega
  refine rG (fc (drF zs) (fc in1 (fc ntmps162 results162))) ?_
  refine KX (drF zs) (hB 5 (by decide) (by decide) i1 hi1 h1) ?_
  rintro ⟨n,i2,h2⟩ ⟨hn,hi2⟩
  simp only at hn hi2
  refine rG (fc (drF zs) (fc ntmps162 results162)) ?_
  refine ⟨.inl rfl,(⟨1,n⟩,i2,h2),⟨by simp only;omega,hi2⟩, ?_⟩
  refine byP (fc (drF zs) (fc (vdF zs) (fc ntmps162 results162))) ?_
  exact tI
 ·have in1:inI 2:=by unfold inI;omega
  refine rG (fc (drF zs) (fc in1 (fc ntmps162 results162))) ?_
  refine KX (drF zs) (hB 2 (by decide) (by decide) i1 hi1 h1) ?_
  rintro ⟨n,i2,h2⟩ ⟨hn,hi2⟩
  simp only at hn hi2
  refine rG (fc (drF zs) (fc ntmps162 results162)) ?_
  refine ⟨.inl rfl,(⟨2,n⟩,i2,h2),⟨by simp only;omega,hi2⟩, ?_⟩
  refine byP (fc (drF zs) (fc (vdF zs) (fc ntmps162 results162))) ?_
  exact tI
 ·have in1:inI 3:=by unfold inI;omega
  refine rG (fc (drF zs) (fc in1 (fc ntmps162 results162))) ?_
  refine KX (drF zs) (hB 3 (by decide) (by decide) i1 hi1 h1) ?_
  rintro ⟨n,i2,h2⟩ ⟨hn,hi2⟩
  simp only at hn hi2
  refine rG (fc (drF zs) (fc ntmps162 results162)) ?_
  refine ⟨.inl rfl,(⟨3,n⟩,i2,h2),⟨by simp only;omega,hi2⟩, ?_⟩
  refine byP (fc (drF zs) (fc (vdF zs) (fc ntmps162 results162))) ?_
  exact tI
 ·have in1:inI 4:=by unfold inI;omega
  refine rG (fc (drF zs) (fc in1 (fc ntmps162 results162))) ?_
  refine KX (drF zs) (hB 8 (by decide) (by decide) i1 hi1 h1) ?_
  rintro ⟨n,i2,h2⟩ ⟨hn,hi2⟩
  simp only at hn hi2
  have hin:inI (1+n):=by unfold inI;omega
  refine rG (fc (drF zs) (fc hin (fc ntmps162 results162))) ?_
  refine ⟨.inl rfl,(⟨4,1+n⟩,i2,h2),⟨by simp only;omega,hi2⟩, ?_⟩
  refine byP (fc (drF zs) (fc (vdF zs) (fc ntmps162 results162))) ?_
  exact tI
 ·have in1:inI 5:=by unfold inI;omega
  refine rG (fc (drF zs) (fc in1 (fc ntmps162 results162))) ?_
  refine KX (drF zs) (hB 12 (by decide) (by decide) i1 hi1 h1) ?_
  rintro ⟨n,i2,h2⟩ ⟨hn,hi2⟩
  simp only at hn hi2
  refine rG (fc (drF zs) (fc ntmps162 results162)) ?_
  refine ⟨.inl rfl,(⟨5,n⟩,i2,h2),⟨by simp only;omega,hi2⟩, ?_⟩
  refine byP (fc (drF zs) (fc (vdF zs) (fc ntmps162 results162))) ?_
  exact tI
 ·have in1:inI 6:=by unfold inI;omega
  refine rG (fc (drF zs) (fc in1 (fc ntmps162 results162))) ?_
  refine KX (drF zs) (hB 12 (by decide) (by decide) i1 hi1 h1) ?_
  rintro ⟨n,i2,h2⟩ ⟨hn,hi2⟩
  simp only at hn hi2
  refine rG (fc (drF zs) (fc ntmps162 results162)) ?_
  refine ⟨.inl rfl,(⟨6,n⟩,i2,h2),⟨by simp only;omega,hi2⟩, ?_⟩
  refine byP (fc (drF zs) (fc (vdF zs) (fc ntmps162 results162))) ?_
  exact tI
 ·have in1:inI 7:=by unfold inI;omega
  refine rG (fc (drF zs) (fc in1 (fc ntmps162 results162))) ?_
  refine KX (drF zs) (hB 12 (by decide) (by decide) i1 hi1 h1) ?_
  rintro ⟨n,i2,h2⟩ ⟨hn,hi2⟩
  simp only at hn hi2
  refine rG (fc (drF zs) (fc ntmps162 results162)) ?_
  refine ⟨.inl rfl,(⟨7,n⟩,i2,h2),⟨by simp only;omega,hi2⟩, ?_⟩
  refine byP (fc (drF zs) (fc (vdF zs) (fc ntmps162 results162))) ?_
  exact tI
 ·have in1:inI 8:=by unfold inI;omega
  refine rG (fc (drF zs) (fc in1 (fc ntmps162 results162))) ?_
  refine KX (drF zs) (hB 12 (by decide) (by decide) i1 hi1 h1) ?_
  rintro ⟨n,i2,h2⟩ ⟨hn,hi2⟩
  simp only at hn hi2
  refine rG (fc (drF zs) (fc ntmps162 results162)) ?_
  refine ⟨.inl rfl,(⟨8,n⟩,i2,h2),⟨by simp only;omega,hi2⟩, ?_⟩
  refine byP (fc (drF zs) (fc (vdF zs) (fc ntmps162 results162))) ?_
  exact tI
 ·have hin:inI (1+v):=by unfold inI;omega
  have n1:¬ 1+v=1:=by omega
  have n2:¬ 1+v=2:=by omega
  have n3:¬ 1+v=3:=by omega
  have n4:¬ 1+v=4:=by omega
  have n5:¬ 1+v=5:=by omega
  have n6:¬ 1+v=6:=by omega
  have n7:¬ 1+v=7:=by omega
  have n8:¬ 1+v=8:=by omega
  refine rG (fc (drF zs) (fc hin (fc n1 (fc n2 (fc n3 (fc n4 (fc n5 (fc n6 (fc n7 (fc n8 (fc ntmps162 results162))))))))))) ?_
  refine ⟨.inl rfl,(⟨1+v,0⟩,i1,h1),⟨by simp only;omega,hi1⟩, ?_⟩
  refine byP (fc (drF zs) (fc (vdF zs) (fc ntmps162 results162))) ?_
  exact tI
theorem Wi (zs:List Int) (hz:CT zs) (i:Nat) (hi:i≤zs.length) (h:Int):Bz prog 80 [.p (AK zs i h)] (aI2 zs) (inO zs) inR:=by
 have hB:=fun n hn hn2 i hi h=>BA zs hz n hn hn2 i hi h
 have hP:∀ (i:Nat),i≤zs.length→∀ h:Int,Bz prog 81 [.p (AK zs i h),.b (.one (.rows 1 6 [.int (-1),.int 0,.int 299,.int 300,.int 10006,.int 10007]))] (pkI zs [-1,0,299,300,10006,10007]) (Fv zs) Fu:=fun i hi h=>Df zs hz [-1,0,299,300,10006,10007] (by decide) (by decide) i hi h
 refine AF func80 rfl rfl (by simp [ntmps80]) (fun _ _=>rfl) ?_
 refine byP (fc (drF zs) (fc (vdF zs) (fc ntmps80 results80))) ?_
 refine KX (drF zs) (Hy zs hz i hi h) ?_
 rintro ⟨⟨op,a⟩,i1,h1⟩ ⟨⟨ho,ha⟩,hi1⟩
 simp only at ho ha hi1
 refine rG (fc (drF zs) (fc (vdF zs) (fc ntmps80 results80))) ?_
 refine KX (drF zs) (hB 8 (by decide) (by decide) i1 hi1 h1) ?_
 rintro ⟨v,i2,h2⟩ ⟨hv,hi2⟩
 simp only at hv hi2
 by_cases v0:v=0
 ·refine rG (fc (drF zs) (fc (eq_true v0) (fc ntmps80 results80))) ?_
  refine KX (drF zs) (hB 15 (by decide) (by decide) i2 hi2 h2) ?_
  rintro ⟨n,i3,h3⟩ ⟨hn,hi3⟩
  simp only at hn hi3
  have hin:inI (n-1):=by unfold inI;omega
  refine rG (fc (drF zs) (fc hin (fc ntmps80 results80))) ?_
  refine ⟨.inl rfl,(⟨n-1,a⟩,i3,h3),⟨by simp only;omega,hi3⟩, ?_⟩
  refine byP (fc (drF zs) (fc (vdF zs) (fc ntmps80 results80))) ?_
  exact tI
 by_cases v1:v=1
 ·refine rG (fc (drF zs) (fc v0 (fc (eq_true v1) (fc ntmps80 results80)))) ?_
  refine AX 3 rfl ?_
  refine byQ ?_
  refine KX (drF zs) (hP i2 hi2 h2) ?_
  rintro ⟨n,i3,h3⟩ ⟨hn,hi3⟩
  simp only at hn hi3
  have hn2 : -1≤n∧n≤10007:=by
   simp only [List.mem_cons,List.not_mem_nil,or_false] at hn
   omega
  refine rG (fc (drF zs) (fc ntmps80 results80)) ?_
  refine ⟨.inl rfl,(⟨op,n⟩,i3,h3),⟨by simp only;omega,hi3⟩, ?_⟩
  refine byP (fc (drF zs) (fc (vdF zs) (fc ntmps80 results80))) ?_
  exact tI
 ·refine rG (fc (drF zs) (fc v0 (fc v1 (fc ntmps80 results80)))) ?_
  refine ⟨.inl rfl,(⟨op,a⟩,i2,h2),⟨by simp only;omega,hi2⟩, ?_⟩
  refine byP (fc (drF zs) (fc (vdF zs) (fc ntmps80 results80))) ?_
  exact tI
theorem LR (e:Tm) (hz:szL (tmC e)≤2000000):Bc prog 10 [.b (.ag (tmC e))] [] [.one (.a 37 (DO (cmR e).1)),.one (.o (.bool (cmR e).2))]:=by
 have hC:=Nd e (by omega)
 unfold cmR cmB DO
 have hP:Con prog 60 [.ag (tmC e)] [.one (.bool (plT e))]:=LL e (by omega)
 cases hp:plT e with
 | false =>
  rw [hp] at hP
  simp only [Bool.false_and,Bool.false_eq_true,if_false,List.length_nil,flC]
  refine Ad func10 rfl rfl (by simp [ntmps10]) rfl ?_
  refine byP ntmps10 ?_
  refine Kc hP ?_
  exact rG results10 tI
 | true =>
 rw [hp] at hP
 by_cases hl:((AE e).length:Int)=0
 case neg =>
  rw [decide_eq_false hl] at hC
  simp only [decide_eq_false hl,Bool.and_false,Bool.false_eq_true,if_false,List.length_nil,flC]
  refine Ad func10 rfl rfl (by simp [ntmps10]) rfl ?_
  refine byP ntmps10 ?_
  refine Kc hP ?_
  refine rQ ?_
  refine Kc hC ?_
  exact rG results10 tI
 rw [decide_eq_true hl] at hC
 simp only [decide_eq_true hl,Bool.and_true,if_true]
 have hf:AE e=[]:=List.eq_nil_of_length_eq_zero (by omega)
 obtain ⟨hr,hcv,hok⟩:=SJ hz hp hf
 have c0:=RJ e [] ⟨[],[]⟩ hr hp hcv
 have hin:=SZ hok
 obtain ⟨s1,hs1⟩:∃ s1,s1=cpT e [] ⟨[],[]⟩:=⟨_,rfl⟩
 rw [← hs1] at c0 hin hok
 have hb:=hok.code
 rw [Bi] at hb
 have hPut:=Cw s1 10 0 (by omega)
 simp only [Bl,CO,List.length_nil,List.map_nil,flC] at c0
 refine Ad func10 rfl rfl (by simp [ntmps10]) rfl ?_
 refine byP ntmps10 ?_
 refine Kc hP ?_
 refine rQ ?_
 refine Kc hC ?_
 refine rQ ?_
 refine AX 2 rfl ?_
 refine byQ ?_
 refine KR c0 ?_
 refine rQ ?_
 refine Cz (hPut) rfl rfl rfl rfl rfl (by decide) ?_ (Aa 200 _ _ _ ?_)
 ·exact byQ tI
 refine byP Er.eq_1 ?_
 refine Al (fun p:Nat × Nat × CS=>InL e p.1 p.2.1 p.2.2) (fun p=>⟨80,[(5,.i p.2.1),(4,.bx 1 0)],[(1,[.sl 2,.sl 3])],[(2,some ⟨.rows 2 p.2.2.code.length (flC Bk p.2.2.code),some 37,true⟩),(3,some ⟨.rows 11 p.2.2.q.length (flC wtC p.2.2.q),some 104,false⟩)],4,[]⟩) (fun p=>p.1) (400,0,Be s1 10 0) (rnL [(2,5),(3,4)]) hin ?_ ?_
 ·exact byP CB tI
 ·rintro ⟨f,i,s⟩ hI
  simp only at hI
  refine Aa 200 _ _ _ ?_
  have hle:=hI.le
  have hok2:=hI.ok
  have hcs:=hok2.code
  have hqs:=hok2.q
  have his:=hok2.some
  by_cases hlt:i<s.q.length
  ·have hi2:(i:Int)<(s.q.length:Int):=by omega
   by_cases h300:s.code.length≤300
   ·have hc3:(s.code.length:Int)≤300:=by omega
    have hR:=YA s.q i hlt
    have hm:=Ab hlt
    obtain ⟨f',rfl,hst⟩:=UE hI hlt h300
    have hrm:=fun k a=>VJ hok2 hm h300 k a
    obtain ⟨_,hp0,hp1⟩:=hok2.wt _ hm
    obtain ⟨x,hx⟩:∃ x,x=s.q[i]! := ⟨_,rfl⟩
    rw [← hx] at hR hm hst hrm hp0 hp1
    obtain ⟨hroom,hpl,hcov⟩:=hrm x.pl.toNat s.code.length
    have c1:=RJ x.body x.nms (Db s x.pl.toNat s.code.length) hroom hpl hcov
    have w1:=Kw s x.pl.toNat s.code.length (by omega)
    obtain ⟨s2,hs2⟩:∃ s2,s2=cpT x.body x.nms (Db s x.pl.toNat s.code.length):=⟨_,rfl⟩
    rw [← hs2] at c1 hst
    have hb2:=hst.ok.code
    rw [Bi] at hb2
    have hP2:=Cw s2 10 0 (by omega)
    simp only [Bl,CO,Hh,Cd] at c1
    refine byP (fc hi2 (fc hc3 hR)) ?_
    refine Ac (oT [0,1,2,3,4,5,6,7,8,9,10,11,12] (.cons 13 false .nil)) (by kernel_rfl) AD (by kernel_rfl) (Aa 200 _ _ _ ?_)
    refine byP (fc hp0 (fc hp1 w1)) ?_
    refine KR c1 ?_
    refine rQ ?_
    refine Cz (hP2) rfl rfl rfl rfl rfl (by decide) ?_ (Aa 200 _ _ _ ?_)
    ·exact byQ tI
    refine byP Er.eq_1 ?_
    refine ⟨by unfold inI;omega,(f',i+1,Be s2 10 0),rnL [(2,7),(3,6)],hst,by simp only;omega, ?_⟩
    exact byP CB tI
   ·have hc3:¬ (s.code.length:Int)≤300:=by omega
    have hd:=Oz hI (fun h=>h300 h.2)
    have h4:300<s.code.length:=by omega
    have h5:(300:Int)<(s.code.length:Int):=by omega
    refine byP (fc hi2 hc3) ?_
    refine Aa 200 _ _ _ ?_
    simp only [push_cast,fQP,CC,rRs,rOs,rC,eRs,eOs,eC,↓reduceIte,Nat.reduceLT,Nat.reduceAdd,Nat.reduceEqDiff,reduceCtorEq,← hd,h4,h5,flC,results10]
  ·have hi2:¬ (i:Int)<(s.q.length:Int):=by omega
   have hd:=Oz hI (fun h=>hlt h.1)
   refine byP hi2 ?_
   refine Aa 200 _ _ _ ?_
   by_cases h4:300<s.code.length
   ·have h5:(300:Int)<(s.code.length:Int):=by omega
    simp only [push_cast,fQP,CC,rRs,rOs,rC,eRs,eOs,eC,↓reduceIte,Nat.reduceLT,Nat.reduceAdd,Nat.reduceEqDiff,reduceCtorEq,← hd,h4,h5,flC,results10]
   ·have h5:¬ (300:Int)<(s.code.length:Int):=by omega
    simp only [push_cast,fQP,CC,rRs,rOs,rC,eRs,eOs,eC,↓reduceIte,Nat.reduceLT,Nat.reduceEqDiff,reduceCtorEq,← hd,h4,h5,results10]
theorem Tf (e:Tm) (he:szL (tmC e)≤1000000):Bc prog 128 [.b (.ag [.int e.kind,.str e.name,.str e.other,.int e.n,.int e.ty.kind,.rows 2 e.ty.args.length (Ai e.ty.args),.int e.res.kind,.rows 2 e.res.args.length (Ai e.res.args),.rows 9 e.args.length (Av e.args)])] [] [tmZ (Cn e)]:=by
 have:=Fs (Qq e (by omega))
 rw [Ak] at this
 exact this
set_option maxHeartbeats 4000000 in
theorem Nx (zs:List Int) (hz:CT zs) (i:Nat) (hi:i≤zs.length) (h:Int):Bz prog 130 [.p (AK zs i h)] (tmI zs 200000) (tmO zs) KZ:=by
 have hB:=fun n hn hn2 i hi h=>BA zs hz n hn hn2 i hi h
 have cI:Bc prog 201 [] [] [.ag [.r (.int 1),.r (.rows 2 0 [])]]:=Le
 refine AL [0,1,2,3,4,5,6,7,8,9,10,11,12] func130 rfl rfl (by simp [ntmps130]) (fun _ _=>rfl) ?_
 refine byP (fc (drZ zs) (fc ntmps130 results130)) ?_
 refine KR cI ?_
 refine rQ ?_
 refine KX (drZ zs) (hB 3 (by decide) (by decide) i hi h) ?_
 rintro ⟨w,i3,h3⟩ ⟨hw,hi3⟩
 simp only at hw hi3
 obtain ⟨d,hd⟩:∃ d:Nat,3+w=(d:Int):=⟨(3+w).toNat,by omega⟩
 have hd5:d≤5:=by omega
 have hin:inI (d:Int):=by unfold inI;omega
 have z0:tsz gI=0:=rfl
 have hG:Bz prog 205 [.p (AK zs i3 h3),.b (.one (.rows 4 0 [])),.b (.ag [.int 1,.rows 2 0 []]),.b (.one (.int 0)),.b (.one (.int d))] (tmI zs (gsz (tsz gI) d)) (tmO zs) KZ:=Ng zs hz d (by omega) [] gI 0 i3 h3 ⟨Nat.zero_le _,fun g hg=>by cases hg⟩ (by decide) (by omega) (Int.le_refl _) (by omega) hi3
 have hgb:=ND (tsz gI) d (by omega) (by omega)
 refine rG (fc (drZ zs) (fc hd hin)) ?_
 first | (refine AX 2 rfl ?_) | (refine AX 3 rfl ?_)
 refine byQ ?_
 refine KX (drZ zs) hG ?_
 rintro ⟨e,i4,h4⟩ ⟨he,hi4⟩
 simp only at he hi4
 have her:=GE e
 refine rG (drZ zs) ?_
 refine KR (Tf e (by omega)) ?_
 refine rG (fc (drZ zs) (fc ntmps130 results130)) ?_
 refine ⟨.inl rfl,(Cn e,i4,h4),⟨by show szL (tmC (Cn e))≤200000;omega,hi4⟩, ?_⟩
 refine byP (fc (drZ zs) (fc tmF (fc mkF (fc ntmps130 results130)))) ?_
 exact Fi
set_option maxHeartbeats 4000000 in
theorem Ir (zs:List Int) (hz:CT zs) (i:Nat) (hi:i≤zs.length) (h:Int):Bz prog 54 [.p (AK zs i h)] (tmI zs 200000) (tmO zs) KZ:=by
 have hO:=fun n hn hn2 i hi h=>CX zs hz n hn hn2 i hi h
 refine AL [0,1,2,3,4,5,6,7,8,9,10,11,12] func54 rfl rfl (by simp [ntmps54]) (fun _ _=>rfl) ?_
 refine byP (fc (drZ zs) (fc ntmps54 results54)) ?_
 refine KX (drZ zs) (hO 3 (by decide) (by decide) i hi h) ?_
 rintro ⟨b,i1,h1⟩ hi1
 have hi1':i1≤zs.length:=hi1
 cases b
 case true =>
  refine rG (drZ zs) ?_
  refine KX (drZ zs) (Qh zs hz i1 hi1' h1) ?_
  rintro ⟨e,i4,h4⟩ ⟨he,hi4⟩
  simp only at he hi4
  have her:=GE e
  refine rG (drZ zs) ?_
  refine KR (Tf e (by omega)) ?_
  refine rG (fc (drZ zs) (fc ntmps54 results54)) ?_
  refine ⟨.inl rfl,(Cn e,i4,h4),⟨by show szL (tmC (Cn e))≤200000;omega,hi4⟩, ?_⟩
  refine byP (fc (drZ zs) (fc tmF (fc mkF (fc ntmps54 results54)))) ?_
  exact Fi
 case false =>
  refine rG (drZ zs) ?_
  refine KX (drZ zs) (hO 10 (by decide) (by decide) i1 hi1' h1) ?_
  rintro ⟨b2,i2,h2⟩ hi2
  have hi2':i2≤zs.length:=hi2
  cases b2
  case true =>
   refine rG (drZ zs) ?_
   refine KX (drZ zs) (WI zs hz i2 hi2' h2) ?_
   rintro ⟨e,i4,h4⟩ ⟨he,hi4⟩
   simp only at he hi4
   refine rG (fc (drZ zs) (fc ntmps54 results54)) ?_
   refine ⟨.inl rfl,(e,i4,h4),⟨by show szL (tmC e)≤200000;omega,hi4⟩, ?_⟩
   refine byP (fc (drZ zs) (fc tmF (fc mkF (fc ntmps54 results54)))) ?_
   exact Fi
  case false =>
   refine rG (drZ zs) ?_
   refine KX (drZ zs) (Nx zs hz i2 hi2' h2) ?_
   rintro ⟨e,i4,h4⟩ ⟨he,hi4⟩
   simp only at he hi4
   refine rG (fc (drZ zs) (fc ntmps54 results54)) ?_
   refine ⟨.inl rfl,(e,i4,h4),⟨by show szL (tmC e)≤200000;omega,hi4⟩, ?_⟩
   refine byP (fc (drZ zs) (fc tmF (fc mkF (fc ntmps54 results54)))) ?_
   exact Fi
def dmI (m:Nat) (x:Tm):Prop:=szL (tmC x)≤m
def dmO (x:Tm):List (List CD):=[]
def dmR (x:Tm):List RD:=[tmZ x]
theorem dmF (zs:List Int):(∀ x,dmO x=[])∧(∀ x,dmR x=[tmZ x])∧Bg zs = .rows 1 zs.length (zs.map D.byt):=⟨fun _=>rfl,fun _=>rfl,rfl⟩
theorem RL (zs:List Int) (hz:CT zs):Bz prog 8 [.b (.one (Bg zs))] (dmI 200000) dmO dmR:=by
 refine AL [0,1,2,3,4,5,6,7,8,9,10,11,12] func8 rfl rfl (by simp [ntmps8]) (fun _ _=>rfl) ?_
 refine byP (fc (dmF zs) (fc ntmps8 results8)) ?_
 refine Ku Mq rfl rfl hz.1 hz.2 fun h => ?_
 refine rG (fc (drZ zs) (dmF zs)) ?_
 refine KX (fc (drZ zs) Int.natCast_zero) (Ir zs hz 0 (Nat.zero_le _) h) ?_
 rintro ⟨e,i4,h4⟩ ⟨he,hi4⟩
 simp only at he hi4
 refine rG (fc (drZ zs) (fc ntmps8 results8)) ?_
 refine ⟨.inl rfl,e,he, ?_⟩
 refine byP (fc (dmF zs) (fc (drZ zs) (fc tmF (fc mkF (fc ntmps8 results8))))) ?_
 exact Fi
theorem Fk {α:Type}:∀ (us l:List α) (i:Nat),i+us.length≤l.length→Aw l i us=l.take i++us++l.drop (i+us.length)
 | [],l,i,_=>by simp [Aw]
 | u :: us,l,i,h=>by
  simp only [List.length_cons] at h
  rw [Aw,Fk us (l.set i u) (i+1) (by simp;omega)]
  rw [List.take_add_one,List.getElem?_set_self (by omega),List.take_set_of_le (Nat.le_refl i),List.drop_set_of_lt (by omega)]
  simp only [Option.toList_some,List.append_assoc,List.cons_append,List.nil_append,List.length_cons,Nat.add_assoc,Nat.add_comm 1]
theorem QJ {α:Type} [Inhabited α] {c:α→List D} {n:Nat} (hc:∀ x,(c x).length=n):∀ (xs:List α) (k:Nat) (x:α),k<xs.length→Aw (flC c xs) (k * n) (c x)=flC c (xs.set k x)
 | [],k,x,h=>by simp at h
 | y :: xs,0,x,h=>by
  rw [Fk _ _ _ (by rw [flC,List.length_append,hc,hc];omega),Nat.zero_mul,List.take_zero,List.nil_append,Nat.zero_add,flC,hc,← hc y,List.drop_left];rfl
 | y :: xs,k+1,x,h=>by
  have hk:k<xs.length:=by simpa using h
  have ih:=QJ hc xs k x hk
  have hl:=KW hc xs
  have hle:(k+1) * n≤xs.length * n:=Nat.mul_le_mul_right _ hk
  rw [Nat.succ_mul] at hle
  rw [Fk _ _ _ (by rw [KW hc,hc,← Nat.succ_mul];exact Nat.mul_le_mul_right _ h)]
  rw [Fk _ _ _ (by rw [hl,hc];omega)] at ih
  rw [List.set_cons_succ,flC,flC,← ih]
  have e:(k+1) * n=(c y).length+k * n:=by rw [hc,Nat.succ_mul];omega
  rw [e,List.take_length_add_append,Nat.add_assoc,List.drop_length_add_append]
  simp only [List.append_assoc]
def lsI (zs:List Int) (m:Nat) (x:List Ins × Nat × Int):Prop:=x.1.length≤m∧x.2.1≤zs.length
def lsO (zs:List Int) (x:List Ins × Nat × Int):List (List CD):=[AK zs x.2.1 x.2.2]
def lsR (x:List Ins × Nat × Int):List RD:=[.one (.a 37 (.rows 2 x.1.length (flC Bk x.1)))]
theorem lsF (zs:List Int):(∀ L i h,lsO zs (L,i,h)=[AK zs i h])∧(∀ L i h,lsR (L,i,h)=[.one (.a 37 (.rows 2 L.length (flC Bk L)))])∧∀ L,DO L = .rows 2 L.length (flC Bk L):=⟨fun _ _ _=>rfl,fun _ _ _=>rfl,fun _=>rfl⟩
theorem JH (l:List Ins) (op a:Int):flC Bk (l++[⟨op,a⟩])=flC Bk l++[.int op,.int a]:=by rw [AM,AA];rfl
set_option maxHeartbeats 4000000 in
theorem VA (zs:List Int) (hz:CT zs) (i:Nat) (hi:i≤zs.length) (h:Int):Bz prog 78 [.p (AK zs i h)] (lsI zs 300) (lsO zs) lsR:=by
 have hB:=fun n hn hn2 i hi h=>BA zs hz n hn hn2 i hi h
 have hO:=fun n hn hn2 i hi h=>CX zs hz n hn hn2 i hi h
 refine AF func78 rfl rfl (by simp [ntmps78]) (fun _ _=>rfl) ?_
 refine byP (fc (drZ zs) (fc ntmps78 results78)) ?_
 refine KX (drZ zs) (Ir zs hz i hi h) ?_
 rintro ⟨e,i1,h1⟩ ⟨he,hi1⟩
 simp only at he hi1
 have hC:=LR e (by omega)
 have hlen:=Ry e
 rw [Ak] at hC
 generalize (cmR e).2=ok at *
 generalize (cmR e).1=L at *
 simp only [DO] at hC
 refine rG (drZ zs) ?_
 refine FV (hC) rfl rfl rfl rfl (byQ tI) (byQ tI) (byQ tI) ?_
 by_cases h0:(L.length:Int)=0
 ·refine rG (fc (drZ zs) (eq_true h0)) ?_
  refine KX (drZ zs) (hB 6 (by decide) (by decide) i1 hi1 h1) ?_
  rintro ⟨n,j0,g0⟩ ⟨hn,hj0⟩
  simp only at hn hj0
  obtain ⟨m,hm⟩:∃ m:Nat,1+n=(m:Int):=⟨(1+n).toNat,by omega⟩
  have hm6:m≤6:=by omega
  have hin:inI (m:Int):=by unfold inI;omega
  refine rG (fc (drZ zs) (fc hm hin)) ?_
  refine Al (fun x:List Ins × Nat × Int=>x.1.length≤m∧x.2.1≤zs.length) (fun x=>⟨46,[(6,.i x.1.length),(5,.i m),(3,.sl 1),(0,.bx 0 0)],[(0,[.br (.rows 1 zs.length (zs.map D.byt)),.i x.2.1,.i x.2.2])],[(1,some ⟨.rows 2 x.1.length (flC Bk x.1),some 37,true⟩)],2,[0]⟩) (fun x=>m-x.1.length) ([],j0,g0) (rnL [(1,2)]) ⟨Nat.zero_le _,hj0⟩ ?_ ?_
  ·exact byP (fc Int.natCast_zero (fc (show flC Bk []=[] from rfl) (show ([]:List Ins).length=0 from rfl))) tI
  rintro ⟨l,i3,h3⟩ ⟨hl,hi3⟩
  simp only at hl hi3 ⊢
  by_cases hlt:l.length<m
  ·have hj:(l.length:Int)<(m:Int):=by omega
   refine rG hj ?_
   refine KX (drZ zs) (Hy zs hz i3 hi3 h3) ?_
   rintro ⟨⟨op,a⟩,i4,h4⟩ ⟨⟨ho,ha⟩,hi4⟩
   simp only at ho ha hi4
   have hst:=JH l op a
   have hln:(l++([⟨op,a⟩]:List Ins)).length=l.length+1:=by simp
   refine rG (fc (drZ zs) (vdF zs)) ?_
   refine ⟨⟨fun h=>h.elim,fun o e1 e2=>by omega,by unfold maxLen;omega,by omega⟩,by unfold inI;omega,(l++[⟨op,a⟩],i4,h4),rnL [(1,3)],⟨by simp only [hln];omega,hi4⟩,by simp only [hln];omega, ?_⟩
   exact byP (fc hst hln) tI
  ·have hj:¬ (l.length:Int)<(m:Int):=by omega
   refine rG hj ?_
   refine rG (fc (drZ zs) (fc ntmps78 results78)) ?_
   refine ⟨.inl rfl,(l,i3,h3),⟨by show l.length≤300;omega,hi3⟩, ?_⟩
   refine byP (fc (drZ zs) (fc (lsF zs) (fc ntmps78 results78))) ?_
   exact Fi
 refine rG (fc (drZ zs) h0) ?_
 refine KX (drZ zs) (hO 6 (by decide) (by decide) i1 hi1 h1) ?_
 rintro ⟨b,i2,h2⟩ hi2
 have hi2':i2≤zs.length:=hi2
 cases b
 case true =>
  refine rG (drZ zs) ?_
  refine KX (drZ zs) (hB 6 (by decide) (by decide) i2 hi2' h2) ?_
  rintro ⟨n,j0,g0⟩ ⟨hn,hj0⟩
  simp only at hn hj0
  obtain ⟨m,hm⟩:∃ m:Nat,1+n=(m:Int):=⟨(1+n).toNat,by omega⟩
  have hm6:m≤6:=by omega
  have hin:inI (m:Int):=by unfold inI;omega
  refine rG (fc (drZ zs) (fc hm hin)) ?_
  refine Al (fun x:List Ins × Nat × Int=>x.1.length≤m∧x.2.1≤zs.length) (fun x=>⟨46,[(6,.i x.1.length),(5,.i m),(3,.sl 1),(0,.bx 0 0)],[(0,[.br (.rows 1 zs.length (zs.map D.byt)),.i x.2.1,.i x.2.2])],[(1,some ⟨.rows 2 x.1.length (flC Bk x.1),some 37,true⟩)],2,[0]⟩) (fun x=>m-x.1.length) ([],j0,g0) (rnL [(1,2)]) ⟨Nat.zero_le _,hj0⟩ ?_ ?_
  ·exact byP (fc Int.natCast_zero (fc (show flC Bk []=[] from rfl) (show ([]:List Ins).length=0 from rfl))) tI
  rintro ⟨l,i3,h3⟩ ⟨hl,hi3⟩
  simp only at hl hi3 ⊢
  by_cases hlt:l.length<m
  ·have hj:(l.length:Int)<(m:Int):=by omega
   refine rG hj ?_
   refine KX (drZ zs) (Hy zs hz i3 hi3 h3) ?_
   rintro ⟨⟨op,a⟩,i4,h4⟩ ⟨⟨ho,ha⟩,hi4⟩
   simp only at ho ha hi4
   have hst:=JH l op a
   have hln:(l++([⟨op,a⟩]:List Ins)).length=l.length+1:=by simp
   refine rG (fc (drZ zs) (vdF zs)) ?_
   refine ⟨⟨fun h=>h.elim,fun o e1 e2=>by omega,by unfold maxLen;omega,by omega⟩,by unfold inI;omega,(l++[⟨op,a⟩],i4,h4),rnL [(1,3)],⟨by simp only [hln];omega,hi4⟩,by simp only [hln];omega, ?_⟩
   exact byP (fc hst hln) tI
  ·have hj:¬ (l.length:Int)<(m:Int):=by omega
   refine rG hj ?_
   refine rG (fc (drZ zs) (fc ntmps78 results78)) ?_
   refine ⟨.inl rfl,(l,i3,h3),⟨by show l.length≤300;omega,hi3⟩, ?_⟩
   refine byP (fc (drZ zs) (fc (lsF zs) (fc ntmps78 results78))) ?_
   exact Fi
 refine rG (drZ zs) ?_
 refine KX (drZ zs) (hO 3 (by decide) (by decide) i2 hi2' h2) ?_
 rintro ⟨b,i3,h3⟩ hi3
 have hi3':i3≤zs.length:=hi3
 cases b
 case false =>
  refine rG (fc (drZ zs) (fc ntmps78 results78)) ?_
  refine ⟨.inl rfl,(L,i3,h3),⟨hlen,hi3'⟩, ?_⟩
  refine byP (fc (drZ zs) (fc (lsF zs) (fc ntmps78 results78))) ?_
  exact Fi
 have hpos:0<L.length:=by omega
 refine rG (drZ zs) ?_
 refine KX (drZ zs) (hB L.length (by omega) (by omega) i3 hi3' h3) ?_
 rintro ⟨k,i4,h4⟩ ⟨hk,hi4⟩
 simp only at hk hi4
 refine rG (drZ zs) ?_
 refine KX (drZ zs) (Hy zs hz i4 hi4 h4) ?_
 rintro ⟨⟨op,a⟩,i5,h5⟩ ⟨⟨ho,ha⟩,hi5⟩
 simp only at ho ha hi5
 have hk0:=hk.1
 have hkl:k<(L.length:Int):=by omega
 have hset:=QJ Gp L k.toNat ⟨op,a⟩ (by omega)
 have hset':((flC Bk L).set (k.toNat * 2) (.int op)).set (k.toNat * 2+1) (.int a)=flC Bk (L.set k.toNat ⟨op,a⟩):=hset
 have hll:(L.set k.toNat ⟨op,a⟩).length=L.length:=by simp
 refine rG (fc (drZ zs) (fc (vdF zs) (fc hk0 (fc hkl (fc hset' (fc ntmps78 results78)))))) ?_
 refine ⟨.inl rfl,(L.set k.toNat ⟨op,a⟩,i5,h5),⟨by show (L.set k.toNat ⟨op,a⟩).length≤300;omega,hi5⟩, ?_⟩
 refine byP (fc (drZ zs) (fc (lsF zs) (fc hll (fc ntmps78 results78)))) ?_
 exact Fi
def rlI (x:List Ins × Int):Prop:=x.1.length≤301∧0≤x.2∧x.2≤3001
def rlO (x:List Ins × Int):List (List CD):=[]
def rlR (x:List Ins × Int):List RD:=[.one (.a 37 (.rows 2 x.1.length (flC Bk x.1))),.one (.o (.int x.2))]
theorem rlF:(∀ L n,rlO (L,n)=[])∧(∀ L n,rlR (L,n)=[.one (.a 37 (.rows 2 L.length (flC Bk L))),.one (.o (.int n))]):=⟨fun _ _=>rfl,fun _ _=>rfl⟩
theorem VK (zs:List Int) (hz:CT zs):Bz prog 24 [.b (.one (Bg zs))] rlI rlO rlR:=by
 have hO:=fun n hn hn2 i hi h=>CX zs hz n hn hn2 i hi h
 have hP:∀ (i:Nat),i≤zs.length→∀ h:Int,Bz prog 81 [.p (AK zs i h),.b (.one (.rows 1 5 [.int 500,.int 1000,.int 3,.int 0,.int 3001]))] (pkI zs [500,1000,3,0,3001]) (Fv zs) Fu:=fun i hi h=>Df zs hz [500,1000,3,0,3001] (by decide) (by decide) i hi h
 refine AF func24 rfl rfl (by simp [ntmps24]) (fun _ _=>rfl) ?_
 refine byP (fc (dmF zs) (fc ntmps24 results24)) ?_
 refine Ku Mq rfl rfl hz.1 hz.2 fun h => ?_
 refine rG (fc (drZ zs) (dmF zs)) ?_
 refine KX (fc (drZ zs) Int.natCast_zero) (VA zs hz 0 (Nat.zero_le _) h) ?_
 rintro ⟨L,i1,h1⟩ ⟨hL,hi1⟩
 simp only at hL hi1
 refine rG (fc (drZ zs) (lsF zs)) ?_
 refine KX (drZ zs) (hO 12 (by decide) (by decide) i1 hi1 h1) ?_
 rintro ⟨b,i2,h2⟩ hi2
 have hi2':i2≤zs.length:=hi2
 cases b
 case true =>
  refine rG (drZ zs) ?_
  refine KX (drZ zs) (Wi zs hz i2 hi2' h2) ?_
  rintro ⟨⟨op,a⟩,i3,h3⟩ ⟨⟨ho,ha⟩,hi3⟩
  simp only at ho ha hi3
  have hst:=JH L op a
  have hln:(L++([⟨op,a⟩]:List Ins)).length=L.length+1:=by simp
  refine rG (fc (drZ zs) (vdF zs)) ?_
  refine ⟨⟨fun h=>h.elim,fun o e1 e2=>by omega,by unfold maxLen;omega,by omega⟩, ?_⟩
  refine AX 4 rfl ?_
  refine byQ ?_
  refine KX (drZ zs) (hP i3 hi3 h3) ?_
  rintro ⟨n,i4,h4⟩ ⟨hn,hi4⟩
  have hn2:0≤n∧n≤3001:=by
   simp only [List.mem_cons,List.not_mem_nil,or_false] at hn
   omega
  refine rG (fc (drZ zs) (fc ntmps24 results24)) ?_
  refine ⟨.inl rfl,(L++[⟨op,a⟩],n),⟨by show (L++([⟨op,a⟩]:List Ins)).length≤301;omega,hn2⟩, ?_⟩
  refine byP (fc (drZ zs) (fc rlF (fc hst (fc hln (fc ntmps24 results24))))) ?_
  exact Fi
 case false =>
  refine rG (drZ zs) ?_
  refine AX 2 rfl ?_
  refine byQ ?_
  refine KX (drZ zs) (hP i2 hi2' h2) ?_
  rintro ⟨n,i4,h4⟩ ⟨hn,hi4⟩
  have hn2:0≤n∧n≤3001:=by
   simp only [List.mem_cons,List.not_mem_nil,or_false] at hn
   omega
  refine rG (fc (drZ zs) (fc ntmps24 results24)) ?_
  refine ⟨.inl rfl,(L,n),⟨by show L.length≤301;omega,hn2⟩, ?_⟩
  refine byP (fc (drZ zs) (fc rlF (fc ntmps24 results24))) ?_
  exact Fi
end Go.Proofs.YtaidalilfmjfgaaGreat
