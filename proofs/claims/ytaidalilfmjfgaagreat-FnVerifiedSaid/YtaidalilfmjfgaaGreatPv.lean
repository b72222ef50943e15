import Derived.Test.YtaidalilfmjfgaaGreatPx
namespace Go.Proofs.YtaidalilfmjfgaaGreat
open Go.RowKit
set_option linter.unusedVariables false
set_option linter.unusedSimpArgs false
set_option maxRecDepth 20000
def tmG (t:Tm):List CD:=[.o (.int t.kind),.o (.str t.name),.o (.str t.other),.o (.int t.n),.r (.int t.ty.kind),.r (.rows 2 t.ty.args.length (tysC t.ty.args)),.r (.int t.res.kind),.r (.rows 2 t.res.args.length (tysC t.res.args)),.q 29 (.rows 9 t.args.length (tmsC t.args))]
def z0x:Ty:=.mk 0 []
def lsz (l:List Tm):Nat:=l.length+szL (tmsC l)
theorem lsz_snoc (l:List Tm) (t:Tm):lsz (l++[t])=lsz l+1+msz t:=by
 unfold lsz msz
 rw [tmsC_append,szL_append,tmL1,List.length_append]
 simp only [List.length_cons,List.length_nil]
 omega
theorem lsz_len (l:List Tm):l.length≤lsz l:=Nat.le_add_right _ _
theorem lsz_nil:lsz []=0:=rfl
theorem lsz_one (t:Tm):lsz [t]=1+msz t:=by have:=lsz_snoc [] t;rw [lsz_nil] at this;simpa using this
theorem msz_mk (k:Int) (s o:ByteArray) (n:Int) (t r:Ty) (l:List Tm):msz (.mk k s o n t r l)=s.size+o.size+tsz t+tsz r+lsz l:=by
 unfold msz;rw [szL_tm];rfl
theorem msz_eq (e:Tm):msz e=e.name.size+e.other.size+tsz e.ty+tsz e.res+lsz e.args:=by
 unfold msz;rw [szL_tm];rfl
theorem tmGF:(∀ t,tmG t=[.o (.int t.kind),.o (.str t.name),.o (.str t.other),.o (.int t.n),.r (.int t.ty.kind),.r (.rows 2 t.ty.args.length (tysC t.ty.args)),.r (.int t.res.kind),.r (.rows 2 t.res.args.length (tysC t.res.args)),.q 29 (.rows 9 t.args.length (tmsC t.args))])∧(∀ k (s o:ByteArray) (n:Int) (t r:Ty) (xs:List Tm),(Tm.mk k s o n t r xs).kind=k∧(Tm.mk k s o n t r xs).name=s∧(Tm.mk k s o n t r xs).other=o∧(Tm.mk k s o n t r xs).n=n∧(Tm.mk k s o n t r xs).ty=t∧(Tm.mk k s o n t r xs).res=r∧(Tm.mk k s o n t r xs).args=xs)∧tmsC []=[]∧(∀ a,tmsC [a]=tmC a)∧z0x.kind=0∧z0x.args=[]:=⟨fun _=>rfl,fun _ _ _ _ _ _ _=>⟨rfl,rfl,rfl,rfl,rfl,rfl,rfl⟩,rfl,tmL1,rfl,rfl⟩
def TermC (s:ByteArray) (d:Nat):Prop:=∀ (i:Nat) (b:Bool),i≤s.size→ConX Tryz.prog 271 [.p (rdx s i b),.b (.one (.int (21-(d:Int))))] (pxI s i 0) (pxO s) pxR
set_option maxHeartbeats 8000000 in
theorem con_argsX (s:ByteArray) (hl:s.size≤1000000) (d:Nat) (hd:d≤21) (hT:TermC s d) (e:Tm) (n:Nat) (hn:n≤3) (he:msz e≤100000000) (i:Nat) (hi:i≤s.size) (b:Bool):ConX Tryz.prog 288 [.p (rdx s i b),.g (tmG e),.b (.one (.int n)),.b (.one (.int (21-(d:Int))))] (pxI s i (msz e+n)) (pxO s) pxR:=by
 have hez:=msz_eq e
 have hT':∀ (i:Nat) (b:Bool),i≤s.size→ConX Tryz.prog 271 [.p (rdx s i b),.b (.one (.int (21-(d:Int))))] (pxI s i 0) (pxO s) pxR:=hT
 generalize (21:Int)-(d:Int)=dp at *
 refine con_runXF [0,1,2,3,4,5,6,7,8,9,10,11] Tryz.func288 rfl rfl (by simp [Tryz.ntmps288]) (fun _ _=>rfl) ?_
 refine byP (fc (pxF s) (fc tmGF (fc Tryz.ntmps288 Tryz.results288))) ?_
 refine sw_loop (fun x:List Tm × Nat × Nat × Bool=>x.2.1≤n∧lsz x.1≤lsz e.args+8 * (x.2.2.1-i)+x.2.1∧i≤x.2.2.1∧x.2.2.1≤s.size) (fun x=>⟨37,[(9,.i x.2.1),(8,.bx 3 0),(5,.bx 2 0),(3,.i dp),(2,.i n),(0,.bx 0 0)],[(0,[.s s,.i x.2.2.1,.b x.2.2.2]),(2,[.i e.kind,.s e.name,.s e.other,.i e.n,.i e.ty.kind,.br (.rows 2 e.ty.args.length (tysC e.ty.args)),.i e.res.kind,.br (.rows 2 e.res.args.length (tysC e.res.args)),.sl 1]),(3,[.i 0,.s ⟨#[]⟩,.s ⟨#[]⟩,.i 0,.i 0,.nl 2,.i 0,.nl 2,.nl 9])],[(1,some ⟨.rows 9 x.1.length (tmsC x.1),some 29,false⟩)],4,[0]⟩) (fun x=>n-x.2.1) (e.args,0,i,b) id ⟨Nat.zero_le _,by simp only;omega,Nat.le_refl _,hi⟩ ?_ ?_
 ·exact byP Int.natCast_zero True.intro
 rintro ⟨l,k,i1,b1⟩ ⟨hk,hll,hi1,hi2⟩
 simp only at hk hll hi1 hi2 ⊢
 have hlen:=lsz_len l
 have hin:inI ((k:Int)+1):=by unfold inI;omega
 by_cases hlt:k<n
 ·have hj:(k:Int)<(n:Int):=by omega
  cases b1
  ·by_cases hk0:k=0
   ·have hk1:¬ 0<(k:Int):=by omega
    have ih:=hT' i1 false hi2
    refine sw_run 200 _ _ _ (byP (fc hj hk1) ?_)
    refine sw_drawn (.cons 0 true (.cons 2 true (.cons 3 true (.fork (.alt 1 (.cons 4 false (.cons 5 false (.cons 6 false (.cons 7 true (.cons 8 false (.nil)))))) (.alt 4 (.cons 1 true (.cons 5 false (.cons 6 false (.cons 7 true (.cons 8 false (.nil)))))) (.last))))))) (by kernel_rfl) qLp_panic (by kernel_rfl) ?_
    refine sw_run 200 _ _ _ (byP (pxF s) ?_)
    repeat' (with_reducible apply And.intro)
    all_goals
     refine sw_callDXR (ih) rfl rfl rfl (byP (pxF s) True.intro) (byP (pxF s) True.intro) (byP (pxF s) True.intro) rfl ?_
     rintro ⟨t,i3,b3⟩ ⟨ht,hi3,hi4⟩
     simp only at ht hi3 hi4
     have hst:tmsC (l++[t])=tmsC l++[.int t.kind,.str t.name,.str t.other,.int t.n,.int t.ty.kind,.rows 2 t.ty.args.length (tysC t.ty.args),.int t.res.kind,.rows 2 t.res.args.length (tysC t.res.args),.rows 9 t.args.length (tmsC t.args)]:=by rw [tmsC_flat,tmsC_flat,flC_app,flC_one,tmC_eq];rfl
     have hln:(l++[t]).length=l.length+1:=by simp
     have hls:=lsz_snoc l t
     refine sw_run 200 _ _ _ (byP (pxF s) ?_)
     refine ⟨⟨fun o ho=>by omega,by unfold maxLen;omega,by omega⟩,hin,(l++[t],k+1,i3,b3),rnL [(1,5)],⟨by simp only;omega,by simp only [hls];omega,by simp only;omega,hi4⟩,by simp only;omega, ?_⟩
     exact byP (fc hst (fc hln cast1)) True.intro
   ·have hk1:0<(k:Int):=by omega
    refine sw_run 200 _ _ _ (byP (fc hj (eq_true hk1)) ?_)
    refine sw_callXR (con_mustX ⟨#[32]⟩ s (by decide) hl i1 hi2 false) rfl rfl rfl (byP (pxF s) True.intro) (byP (pxF s) True.intro) (byP (pxF s) True.intro) ?_
    rintro ⟨i2,b2⟩ ⟨w1,w2,w3⟩
    simp only at w1 w2 w3
    have ih:=hT' i2 b2 w3
    refine sw_run 200 _ _ _ (byP (pxF s) ?_)
    refine sw_drawn (.cons 0 true (.cons 2 true (.cons 3 true (.fork (.alt 1 (.cons 4 false (.cons 5 false (.cons 6 false (.cons 7 true (.cons 8 false (.nil)))))) (.alt 4 (.cons 1 true (.cons 5 false (.cons 6 false (.cons 7 true (.cons 8 false (.nil)))))) (.last))))))) (by kernel_rfl) qLp_panic (by kernel_rfl) ?_
    refine sw_run 200 _ _ _ (byP (pxF s) ?_)
    repeat' (with_reducible apply And.intro)
    all_goals
     refine sw_callDXR (ih) rfl rfl rfl (byP (pxF s) True.intro) (byP (pxF s) True.intro) (byP (pxF s) True.intro) rfl ?_
     rintro ⟨t,i3,b3⟩ ⟨ht,hi3,hi4⟩
     simp only at ht hi3 hi4
     have hst:tmsC (l++[t])=tmsC l++[.int t.kind,.str t.name,.str t.other,.int t.n,.int t.ty.kind,.rows 2 t.ty.args.length (tysC t.ty.args),.int t.res.kind,.rows 2 t.res.args.length (tysC t.res.args),.rows 9 t.args.length (tmsC t.args)]:=by rw [tmsC_flat,tmsC_flat,flC_app,flC_one,tmC_eq];rfl
     have hln:(l++[t]).length=l.length+1:=by simp
     have hls:=lsz_snoc l t
     refine sw_run 200 _ _ _ (byP (pxF s) ?_)
     refine ⟨⟨fun o ho=>by omega,by unfold maxLen;omega,by omega⟩,hin,(l++[t],k+1,i3,b3),rnL [(1,5)],⟨by simp only;omega,by simp only [hls];omega,by simp only;omega,hi4⟩,by simp only;omega, ?_⟩
     exact byP (fc hst (fc hln cast1)) True.intro
  ·refine sw_run 200 _ _ _ (byP hj ?_)
   refine sw_run 200 _ _ _ ?_
   refine byP (pxF s) ?_
   refine sw_callXR (con_mustX ⟨#[41]⟩ s (by decide) hl i1 hi2 true) rfl rfl rfl (byP (pxF s) True.intro) (byP (pxF s) True.intro) (byP (pxF s) True.intro) ?_
   rintro ⟨i5,b5⟩ ⟨y1,y2,y3⟩
   simp only at y1 y2 y3
   refine sw_run 200 _ _ _ (byP (fc (pxF s) (fc Tryz.ntmps288 Tryz.results288)) ?_)
   refine ⟨.inl rfl,(.mk e.kind e.name e.other e.n e.ty e.res l,i5,b5),⟨?_,by simp only;omega,y3⟩, ?_⟩
   ·show msz (.mk e.kind e.name e.other e.n e.ty e.res l)≤_
    rw [msz_mk]
    simp only
    omega
   refine byP (fc (pxF s) (fc tmGF (fc Tryz.ntmps288 Tryz.results288))) ?_
   repeat' (with_reducible apply And.intro)
   all_goals first | exact True.intro | rfl
 ·have hj:¬ (k:Int)<(n:Int):=by omega
  refine sw_run 200 _ _ _ (byP hj ?_)
  refine sw_run 200 _ _ _ ?_
  refine byP (pxF s) ?_
  refine sw_callXR (con_mustX ⟨#[41]⟩ s (by decide) hl i1 hi2 b1) rfl rfl rfl (byP (pxF s) True.intro) (byP (pxF s) True.intro) (byP (pxF s) True.intro) ?_
  rintro ⟨i5,b5⟩ ⟨y1,y2,y3⟩
  simp only at y1 y2 y3
  refine sw_run 200 _ _ _ (byP (fc (pxF s) (fc Tryz.ntmps288 Tryz.results288)) ?_)
  refine ⟨.inl rfl,(.mk e.kind e.name e.other e.n e.ty e.res l,i5,b5),⟨?_,by simp only;omega,y3⟩, ?_⟩
  ·show msz (.mk e.kind e.name e.other e.n e.ty e.res l)≤_
   rw [msz_mk]
   simp only
   omega
  refine byP (fc (pxF s) (fc tmGF (fc Tryz.ntmps288 Tryz.results288))) ?_
  repeat' (with_reducible apply And.intro)
  all_goals first | exact True.intro | rfl
theorem cast0s:((1:Nat):Int)=1∧((2:Nat):Int)=2∧((3:Nat):Int)=3∧((0:Nat):Int)=0∧List.length ([]:List Tm)=0∧(∀ t:Tm,List.length [t]=1):=⟨rfl,rfl,rfl,rfl,rfl,fun _=>rfl⟩
theorem tszz:tsz (.mk 0 [])=0∧(⟨#[]⟩:ByteArray).size=0:=by decide
set_option maxHeartbeats 8000000 in
theorem con_restX (s:ByteArray) (hl:s.size≤1000000) (d:Nat) (hd:d≤21) (hT:TermC s d) (t:Tm) (ht:msz t≤10000000) (i:Nat) (hi:i≤s.size) (b:Bool):ConX Tryz.prog 290 [.p (rdx s i b),.b (.ag (tmC t)),.b (.one (.int (21-(d:Int))))] (pxI s i (msz t+2)) (pxO s) pxR:=by
 have ho:=lsz_one t
 have tz:=tszz.1
 have ez:=tszz.2
 refine con_runXF [0,1,2,3,4,5,6,7,8,9,10,11] Tryz.func290 rfl rfl (by simp [Tryz.ntmps290]) (fun _ _=>rfl) ?_
 refine byP (fc (pxF s) (fc Tryz.ntmps290 Tryz.results290)) ?_
 refine sw_callXR (con_takeX ⟨#[32]⟩ s (by decide) hl i hi b) rfl rfl rfl (byP (pxF s) True.intro) (byP (pxF s) True.intro) (byP (pxF s) True.intro) ?_
 rintro ⟨x1,j1⟩ ⟨t1,t2,t3⟩
 simp only at t1 t2 t3
 cases x1
 case true =>
  have t4:=t1 rfl
  have he:msz (.mk 7 ⟨#[]⟩ ⟨#[]⟩ 0 (.mk 0 []) (.mk 0 []) [t])=1+msz t:=by rw [msz_mk,ho,tz,ez];omega
  have hA:=con_argsX s hl d hd hT (.mk 7 ⟨#[]⟩ ⟨#[]⟩ 0 (.mk 0 []) (.mk 0 []) [t]) 1 (by decide) (by omega) j1 t3 b
  refine sw_run 200 _ _ _ (byP (pxF s) ?_)
  refine sw_callXR (hA) rfl rfl rfl (byP (fc (pxF s) (fc tmGF cast0s)) True.intro) (byP (fc (pxF s) (fc tmGF cast0s)) True.intro) (byP (fc (pxF s) (fc tmGF cast0s)) True.intro) ?_
  rintro ⟨u,j2,b2⟩ ⟨q1,q2,q3⟩
  simp only at q1 q2 q3
  refine sw_run 200 _ _ _ (byP (fc (pxF s) (fc Tryz.ntmps290 Tryz.results290)) ?_)
  refine ⟨.inl rfl,(u,j2,b2),⟨?_,by simp only;omega,q3⟩, ?_⟩
  ·show msz (u)≤_
   simp only;omega
  refine byP (fc (pxF s) (fc tmGF (fc mkF (fc Tryz.ntmps290 Tryz.results290)))) ?_
  repeat' (with_reducible apply And.intro)
  all_goals first | exact True.intro | rfl
 obtain rfl:=t2 rfl
 have hbad:∀ i:Nat,pxI s i (msz t+2) (.mk 7 ⟨#[]⟩ ⟨#[]⟩ 0 (.mk 0 []) (.mk 0 []) [t],i,true)∨True:=fun _ => .inr trivial
 refine sw_run 200 _ _ _ (byP (fc (pxF s) (fc Tryz.ntmps290 Tryz.results290)) ?_)
 refine sw_drawn (.cons 0 true (.cons 1 true (.cons 2 true (.cons 3 true (.cons 4 true (.cons 5 true (.cons 6 true (.cons 7 true (.cons 8 true (.cons 9 true (.cons 10 true (.cons 11 true (.cons 12 true (.cons 13 true (.cons 14 true (.cons 15 true (.cons 16 true (.cons 17 true (.cons 18 true (.cons 19 false (.nil))))))))))))))))))))) (by kernel_rfl) fQXF_panic (by kernel_rfl) ?_
 cases b
 case true =>
  refine sw_run 200 _ _ _ (byP (fc (pxF s) (fc Tryz.ntmps290 Tryz.results290)) ?_)
  refine sw_drawn (.cons 0 true (.cons 1 true (.cons 2 true (.cons 3 true (.cons 4 true (.cons 5 true (.cons 6 true (.cons 7 true (.cons 8 true (.cons 9 true (.cons 10 true (.cons 11 true (.cons 12 true (.cons 13 true (.cons 14 true (.cons 15 true (.cons 16 true (.cons 17 true (.cons 18 true (.cons 19 false (.cons 20 true (.cons 21 true (.nil))))))))))))))))))))))) (by kernel_rfl) fQXF_panic (by kernel_rfl) ?_
  refine sw_run 200 _ _ _ (byP (fc (pxF s) (fc Tryz.ntmps290 Tryz.results290)) ?_)
  refine ⟨.inl rfl,(.mk 7 ⟨#[]⟩ ⟨#[]⟩ 0 (.mk 0 []) (.mk 0 []) [t],j1,true),⟨?_,Nat.le_refl _,t3⟩, ?_⟩
  ·show msz (.mk 7 ⟨#[]⟩ ⟨#[]⟩ 0 (.mk 0 []) (.mk 0 []) [t])≤_
   rw [msz_mk,ho,tz,ez];simp only;omega
  refine byP (fc (pxF s) (fc tmGF (fc mkF (fc Tryz.ntmps290 Tryz.results290)))) ?_
  repeat' (with_reducible apply And.intro)
  all_goals first | exact True.intro | rfl
 case false =>
  by_cases hlt:(j1:Int)<(s.size:Int)
  ·have hge:¬ (s.size:Int)≤(j1:Int):=by omega
   have hin:inI ((j1:Int)+1):=by unfold inI;omega
   have k0:0≤(j1:Int):=by omega
   have k1:(j1:Int)≤(j1:Int)+1:=by omega
   have k2:(j1:Int)+1≤(s.size:Int):=by omega
   have k3:((j1:Int)+1).toNat=j1+1:=by omega
   have hO:=con_OpArS (s.extract j1 (j1+1))
   have hxs:(s.extract j1 (j1+1)).size=1:=by rw [ByteArray.size_extract];omega
   generalize hw:s.extract j1 (j1+1)=w at hO hxs
   generalize opAr w=m at *
   refine sw_run 200 _ _ _ (byP (fc (pxF s) (fc hge (fc Tryz.ntmps290 Tryz.results290))) ?_)
   refine sw_drawn (.cons 0 true (.cons 1 true (.cons 2 true (.cons 3 true (.cons 4 true (.cons 5 true (.cons 6 true (.cons 7 true (.cons 8 true (.cons 9 true (.cons 10 true (.cons 11 true (.cons 12 true (.cons 13 true (.cons 14 true (.cons 15 true (.cons 16 true (.cons 17 true (.cons 18 true (.cons 19 false (.cons 20 true (.cons 21 true (.nil))))))))))))))))))))))) (by kernel_rfl) fQXF_panic (by kernel_rfl) ?_
   refine sw_run 200 _ _ _ (byP (fc (pxF s) (fc k0 (fc k1 (fc k2 (fc k3 (fc hin hw)))))) ?_)
   refine sw_callD (hO) rfl (aAs_ok (byQ True.intro)) (byQ True.intro) ?_
   by_cases hm:m=2
   ·refine sw_run 200 _ _ _ (byP (fc (pxF s) (fc (eq_true hm) (fc k0 (fc k1 (fc k2 (fc k3 hin)))))) ?_)
    refine sw_drawn (.cons 0 true (.cons 1 true (.cons 2 true (.cons 3 true (.cons 4 true (.cons 5 true (.cons 6 true (.cons 7 true (.cons 8 true (.cons 9 true (.cons 10 true (.cons 11 true (.cons 12 true (.cons 13 true (.cons 14 true (.cons 15 false (.nil))))))))))))))))) (by kernel_rfl) fQXF_panic (by kernel_rfl) ?_
    have he:msz (.mk 4 w ⟨#[]⟩ 0 (.mk 0 []) (.mk 0 []) [t])=2+msz t:=by rw [msz_mk,ho,tz,ez,hxs];omega
    have hA:=con_argsX s hl d hd hT (.mk 4 w ⟨#[]⟩ 0 (.mk 0 []) (.mk 0 []) [t]) 1 (by decide) (by omega) (j1+1) (by omega) false
    refine sw_run 200 _ _ _ (byP (fc (pxF s) (fc k0 (fc k1 (fc k2 (fc k3 (fc hin hw)))))) ?_)
    refine sw_callXR (hA) rfl rfl rfl (byP (fc (pxF s) (fc tmGF (fc cast0s cast1))) True.intro) (byP (fc (pxF s) (fc tmGF (fc cast0s cast1))) True.intro) (byP (fc (pxF s) (fc tmGF (fc cast0s cast1))) True.intro) ?_
    rintro ⟨u,j2,b2⟩ ⟨q1,q2,q3⟩
    simp only at q1 q2 q3
    refine sw_run 200 _ _ _ (byP (fc (pxF s) (fc Tryz.ntmps290 Tryz.results290)) ?_)
    refine ⟨.inl rfl,(u,j2,b2),⟨?_,by simp only;omega,q3⟩, ?_⟩
    ·show msz (u)≤_
     simp only;omega
    refine byP (fc (pxF s) (fc tmGF (fc mkF (fc Tryz.ntmps290 Tryz.results290)))) ?_
    repeat' (with_reducible apply And.intro)
    all_goals first | exact True.intro | rfl
   ·refine sw_run 200 _ _ _ (byP (fc (pxF s) (fc hm (fc Tryz.ntmps290 Tryz.results290))) ?_)
    refine ⟨.inl rfl,(.mk 7 ⟨#[]⟩ ⟨#[]⟩ 0 (.mk 0 []) (.mk 0 []) [t],j1,true),⟨?_,Nat.le_refl _,t3⟩, ?_⟩
    ·show msz (.mk 7 ⟨#[]⟩ ⟨#[]⟩ 0 (.mk 0 []) (.mk 0 []) [t])≤_
     rw [msz_mk,ho,tz,ez];simp only;omega
    refine byP (fc (pxF s) (fc tmGF (fc mkF (fc Tryz.ntmps290 Tryz.results290)))) ?_
    repeat' (with_reducible apply And.intro)
    all_goals first | exact True.intro | rfl
  ·have hge:(s.size:Int)≤(j1:Int):=by omega
   refine sw_run 200 _ _ _ (byP (fc (pxF s) (fc hge (fc Tryz.ntmps290 Tryz.results290))) ?_)
   refine sw_drawn (.cons 0 true (.cons 1 true (.cons 2 true (.cons 3 true (.cons 4 true (.cons 5 true (.cons 6 true (.cons 7 true (.cons 8 true (.cons 9 true (.cons 10 true (.cons 11 true (.cons 12 true (.cons 13 true (.cons 14 true (.cons 15 true (.cons 16 true (.cons 17 true (.cons 18 true (.cons 19 false (.cons 20 true (.cons 21 true (.nil))))))))))))))))))))))) (by kernel_rfl) fQXF_panic (by kernel_rfl) ?_
   refine sw_run 200 _ _ _ (byP (fc (pxF s) (fc Tryz.ntmps290 Tryz.results290)) ?_)
   refine ⟨.inl rfl,(.mk 7 ⟨#[]⟩ ⟨#[]⟩ 0 (.mk 0 []) (.mk 0 []) [t],j1,true),⟨?_,Nat.le_refl _,t3⟩, ?_⟩
   ·show msz (.mk 7 ⟨#[]⟩ ⟨#[]⟩ 0 (.mk 0 []) (.mk 0 []) [t])≤_
    rw [msz_mk,ho,tz,ez];simp only;omega
   refine byP (fc (pxF s) (fc tmGF (fc mkF (fc Tryz.ntmps290 Tryz.results290)))) ?_
   repeat' (with_reducible apply And.intro)
   all_goals first | exact True.intro | rfl
set_option maxHeartbeats 8000000 in
theorem con_recX (s:ByteArray) (hl:s.size≤1000000) (d:Nat) (hd:d≤21) (hT:TermC s d) (i:Nat) (hi:i≤s.size) (b:Bool):ConX Tryz.prog 289 [.p (rdx s i b),.b (.one (.int (21-(d:Int))))] (pxI s i 1) (pxO s) pxR:=by
 have tz:=tszz.1
 have ez:=tszz.2
 have hd9:(9:Int)-((8:Nat):Int)=1:=by decide
 have hTy:∀ (i:Nat),i≤s.size→∀ (b:Bool),ConX Tryz.prog 287 [.p (rdx s i b),.b (.one (.int 1))] (txI' s i) (txO' s) txR':=fun i hi b=>con_typeX s hl 8 (by decide) i hi b
 refine con_runXF [0,1,2,3,4,5,6,7,8,9,10,11] Tryz.func289 rfl rfl (by simp [Tryz.ntmps289]) (fun _ _=>rfl) ?_
 refine byP (fc (pxF s) (fc Tryz.ntmps289 Tryz.results289)) ?_
 refine sw_callXR (con_wordX s hl i hi b) rfl rfl rfl (byP (pxF s) True.intro) (byP (pxF s) True.intro) (byP (pxF s) True.intro) ?_
 rintro ⟨w1,j1⟩ ⟨a1,a2,a3⟩
 simp only at a1 a2 a3
 refine sw_run 200 _ _ _ (byP (pxF s) ?_)
 refine sw_callXR (con_mustX ⟨#[32]⟩ s (by decide) hl j1 a3 b) rfl rfl rfl (byP (pxF s) True.intro) (byP (pxF s) True.intro) (byP (pxF s) True.intro) ?_
 rintro ⟨j2,b2⟩ ⟨c1,c2,c3⟩
 simp only at c1 c2 c3
 refine sw_run 200 _ _ _ (byP (pxF s) ?_)
 refine sw_callXR (con_wordX s hl j2 c3 b2) rfl rfl rfl (byP (pxF s) True.intro) (byP (pxF s) True.intro) (byP (pxF s) True.intro) ?_
 rintro ⟨w2,j3⟩ ⟨e1,e2,e3⟩
 simp only at e1 e2 e3
 refine sw_run 200 _ _ _ (byP (pxF s) ?_)
 refine sw_callXR (con_mustX ⟨#[58]⟩ s (by decide) hl j3 e3 b2) rfl rfl rfl (byP (pxF s) True.intro) (byP (pxF s) True.intro) (byP (pxF s) True.intro) ?_
 rintro ⟨j4,b4⟩ ⟨f1,f2,f3⟩
 simp only at f1 f2 f3
 refine sw_run 200 _ _ _ (byP (pxF s) ?_)
 refine sw_callXR (hTy j4 f3 b4) rfl rfl rfl (byP (pxF s) True.intro) (byP (pxF s) True.intro) (byP (pxF s) True.intro) ?_
 rintro ⟨ty,j5,b5⟩ ⟨g1,g2,g3⟩
 simp only at g1 g2 g3
 refine sw_run 200 _ _ _ (byP (pxF s) ?_)
 refine sw_callXR (con_mustX ⟨#[62]⟩ s (by decide) hl j5 g3 b5) rfl rfl rfl (byP (pxF s) True.intro) (byP (pxF s) True.intro) (byP (pxF s) True.intro) ?_
 rintro ⟨j6,b6⟩ ⟨k1,k2,k3⟩
 simp only at k1 k2 k3
 refine sw_run 200 _ _ _ (byP (pxF s) ?_)
 refine sw_callXR (hTy j6 k3 b6) rfl rfl rfl (byP (pxF s) True.intro) (byP (pxF s) True.intro) (byP (pxF s) True.intro) ?_
 rintro ⟨tr,j7,b7⟩ ⟨l1,l2,l3⟩
 simp only at l1 l2 l3
 refine sw_run 200 _ _ _ (byP (pxF s) ?_)
 refine sw_callXR (con_mustX ⟨#[46]⟩ s (by decide) hl j7 l3 b7) rfl rfl rfl (byP (pxF s) True.intro) (byP (pxF s) True.intro) (byP (pxF s) True.intro) ?_
 rintro ⟨j8,b8⟩ ⟨m1,m2,m3⟩
 simp only at m1 m2 m3
 have he:msz (.mk 9 w1 w2 0 ty tr [])=w1.size+w2.size+tsz ty+tsz tr+0:=by first | (rw [msz_mk,lsz_nil];done) | (rw [msz_mk,lsz_nil];simp only [tz,ez];done) | (rw [msz_mk,lsz_nil];simp only [tz,ez];omega)
 have hA:=con_argsX s hl d hd hT (.mk 9 w1 w2 0 ty tr []) 1 (by decide) (by omega) j8 m3 b8
 refine sw_run 200 _ _ _ (byP (pxF s) ?_)
 refine sw_callXR (hA) rfl rfl rfl (byP (fc (pxF s) (fc tmGF cast0s)) True.intro) (byP (fc (pxF s) (fc tmGF cast0s)) True.intro) (byP (fc (pxF s) (fc tmGF cast0s)) True.intro) ?_
 rintro ⟨u,je,be⟩ ⟨q1,q2,q3⟩
 simp only at q1 q2 q3
 refine sw_run 200 _ _ _ (byP (fc (pxF s) (fc Tryz.ntmps289 Tryz.results289)) ?_)
 refine ⟨.inl rfl,(u,je,be),⟨?_,by simp only;omega,q3⟩, ?_⟩
 ·show msz (u)≤_
  simp only;omega
 refine byP (fc (pxF s) (fc tmGF (fc mkF (fc Tryz.ntmps289 Tryz.results289)))) ?_
 repeat' (with_reducible apply And.intro)
 all_goals first | exact True.intro | rfl
set_option maxHeartbeats 16000000 in
theorem con_openX (s:ByteArray) (hl:s.size≤1000000) (d:Nat) (hd:d≤21) (hT:TermC s d) (i:Nat) (hi:i≤s.size) (b:Bool):ConX Tryz.prog 282 [.p (rdx s i b),.b (.one (.int (21-(d:Int))))] (pxI s i 3) (pxO s) pxR:=by
 have tz:=tszz.1
 have ez:=tszz.2
 have hTt:∀ (i:Nat) (b:Bool),i≤s.size→ConX Tryz.prog 271 [.p (rdx s i b),.b (.one (.int (21-(d:Int))))] (pxI s i 0) (pxO s) pxR:=hT
 have hTy:∀ (i:Nat),i≤s.size→∀ (b:Bool),ConX Tryz.prog 287 [.p (rdx s i b),.b (.one (.int 1))] (txI' s i) (txO' s) txR':=fun i hi b=>con_typeX s hl 8 (by decide) i hi b
 refine con_runXF [0,1,2,3,4,5,6,7,8,9,10,11] Tryz.func282 rfl rfl (by simp [Tryz.ntmps282]) (fun _ _=>rfl) ?_
 refine byP (fc (pxF s) (fc Tryz.ntmps282 Tryz.results282)) ?_
 refine sw_callXR (con_takeX ⟨#[92]⟩ s (by decide) hl i hi b) rfl rfl rfl (byP (pxF s) True.intro) (byP (pxF s) True.intro) (byP (pxF s) True.intro) ?_
 rintro ⟨x1,j1⟩ ⟨t1,t2,t3⟩
 simp only at t1 t2 t3
 cases x1
 case true =>
  have h9:=t1 rfl
  have h8:(⟨#[92]⟩:ByteArray).size=1:=rfl
  rw [h8] at h9
  refine sw_run 200 _ _ _ (byP (pxF s) ?_)
  refine sw_callXR (con_wordX s hl j1 t3 b) rfl rfl rfl (byP (pxF s) True.intro) (byP (pxF s) True.intro) (byP (pxF s) True.intro) ?_
  rintro ⟨w1,k1⟩ ⟨a1,a2,a3⟩
  simp only at a1 a2 a3
  refine sw_run 200 _ _ _ (byP (pxF s) ?_)
  refine sw_callXR (con_mustX ⟨#[58]⟩ s (by decide) hl k1 a3 b) rfl rfl rfl (byP (pxF s) True.intro) (byP (pxF s) True.intro) (byP (pxF s) True.intro) ?_
  rintro ⟨k2,b2⟩ ⟨c1,c2,c3⟩
  simp only at c1 c2 c3
  refine sw_run 200 _ _ _ (byP (pxF s) ?_)
  refine sw_callXR (hTy k2 c3 b2) rfl rfl rfl (byP (pxF s) True.intro) (byP (pxF s) True.intro) (byP (pxF s) True.intro) ?_
  rintro ⟨ty,k3,b3⟩ ⟨g1,g2,g3⟩
  simp only at g1 g2 g3
  refine sw_run 200 _ _ _ (byP (pxF s) ?_)
  refine sw_callXR (con_mustX ⟨#[46]⟩ s (by decide) hl k3 g3 b3) rfl rfl rfl (byP (pxF s) True.intro) (byP (pxF s) True.intro) (byP (pxF s) True.intro) ?_
  rintro ⟨k4,b4⟩ ⟨m1,m2,m3⟩
  simp only at m1 m2 m3
  have he:msz (.mk 6 w1 ⟨#[]⟩ 0 ty (.mk 0 []) [])=w1.size+0+tsz ty+0+0:=by first | (rw [msz_mk,lsz_nil];done) | (rw [msz_mk,lsz_nil];simp only [tz,ez];done) | (rw [msz_mk,lsz_nil];simp only [tz,ez];omega)
  have hA:=con_argsX s hl d hd hT (.mk 6 w1 ⟨#[]⟩ 0 ty (.mk 0 []) []) 1 (by decide) (by omega) k4 m3 b4
  refine sw_run 200 _ _ _ (byP (pxF s) ?_)
  refine sw_callXR (hA) rfl rfl rfl (byP (fc (pxF s) (fc tmGF cast0s)) True.intro) (byP (fc (pxF s) (fc tmGF cast0s)) True.intro) (byP (fc (pxF s) (fc tmGF cast0s)) True.intro) ?_
  rintro ⟨u,je,be⟩ ⟨q1,q2,q3⟩
  simp only at q1 q2 q3
  refine sw_run 200 _ _ _ (byP (fc (pxF s) (fc Tryz.ntmps282 Tryz.results282)) ?_)
  refine ⟨.inl rfl,(u,je,be),⟨?_,by simp only;omega,q3⟩, ?_⟩
  ·show msz (u)≤_
   simp only;omega
  refine byP (fc (pxF s) (fc tmGF (fc mkF (fc Tryz.ntmps282 Tryz.results282)))) ?_
  repeat' (with_reducible apply And.intro)
  all_goals first | exact True.intro | rfl
 obtain rfl:=t2 rfl
 refine sw_run 200 _ _ _ (byP (pxF s) ?_)
 refine sw_callXR (con_takeX ⟨#[108,101,116,32]⟩ s (by decide) hl j1 hi b) rfl rfl rfl (byP (pxF s) True.intro) (byP (pxF s) True.intro) (byP (pxF s) True.intro) ?_
 rintro ⟨x2,j2⟩ ⟨u1,u2,u3⟩
 simp only at u1 u2 u3
 cases x2
 case true =>
  have h9:=u1 rfl
  have h8:(⟨#[108,101,116,32]⟩:ByteArray).size=4:=rfl
  rw [h8] at h9
  refine sw_run 200 _ _ _ (byP (pxF s) ?_)
  refine sw_callXR (con_wordX s hl j2 u3 b) rfl rfl rfl (byP (pxF s) True.intro) (byP (pxF s) True.intro) (byP (pxF s) True.intro) ?_
  rintro ⟨w1,k1⟩ ⟨a1,a2,a3⟩
  simp only at a1 a2 a3
  refine sw_run 200 _ _ _ (byP (pxF s) ?_)
  refine sw_callXR (con_mustX ⟨#[61]⟩ s (by decide) hl k1 a3 b) rfl rfl rfl (byP (pxF s) True.intro) (byP (pxF s) True.intro) (byP (pxF s) True.intro) ?_
  rintro ⟨k2,b2⟩ ⟨c1,c2,c3⟩
  simp only at c1 c2 c3
  have he:msz (.mk 8 w1 ⟨#[]⟩ 0 (.mk 0 []) (.mk 0 []) [])=w1.size+0+0+0+0:=by first | (rw [msz_mk,lsz_nil];done) | (rw [msz_mk,lsz_nil];simp only [tz,ez];done) | (rw [msz_mk,lsz_nil];simp only [tz,ez];omega)
  have hA:=con_argsX s hl d hd hT (.mk 8 w1 ⟨#[]⟩ 0 (.mk 0 []) (.mk 0 []) []) 2 (by decide) (by omega) k2 c3 b2
  refine sw_run 200 _ _ _ (byP (pxF s) ?_)
  refine sw_callXR (hA) rfl rfl rfl (byP (fc (pxF s) (fc tmGF cast0s)) True.intro) (byP (fc (pxF s) (fc tmGF cast0s)) True.intro) (byP (fc (pxF s) (fc tmGF cast0s)) True.intro) ?_
  rintro ⟨u,je,be⟩ ⟨q1,q2,q3⟩
  simp only at q1 q2 q3
  refine sw_run 200 _ _ _ (byP (fc (pxF s) (fc Tryz.ntmps282 Tryz.results282)) ?_)
  refine ⟨.inl rfl,(u,je,be),⟨?_,by simp only;omega,q3⟩, ?_⟩
  ·show msz (u)≤_
   simp only;omega
  refine byP (fc (pxF s) (fc tmGF (fc mkF (fc Tryz.ntmps282 Tryz.results282)))) ?_
  repeat' (with_reducible apply And.intro)
  all_goals first | exact True.intro | rfl
 obtain rfl:=u2 rfl
 refine sw_run 200 _ _ _ (byP (pxF s) ?_)
 refine sw_callXR (con_takeX ⟨#[114,101,99,32]⟩ s (by decide) hl j2 hi b) rfl rfl rfl (byP (pxF s) True.intro) (byP (pxF s) True.intro) (byP (pxF s) True.intro) ?_
 rintro ⟨x3,j3⟩ ⟨v1,v2,v3⟩
 simp only at v1 v2 v3
 cases x3
 case true =>
  have h9:=v1 rfl
  have h8:(⟨#[114,101,99,32]⟩:ByteArray).size=4:=rfl
  rw [h8] at h9
  refine sw_run 200 _ _ _ (byP (pxF s) ?_)
  refine sw_callXR (con_recX s hl d hd hT j3 v3 b) rfl rfl rfl (byP (pxF s) True.intro) (byP (pxF s) True.intro) (byP (pxF s) True.intro) ?_
  rintro ⟨u,je,be⟩ ⟨q1,q2,q3⟩
  simp only at q1 q2 q3
  refine sw_run 200 _ _ _ (byP (fc (pxF s) (fc Tryz.ntmps282 Tryz.results282)) ?_)
  refine ⟨.inl rfl,(u,je,be),⟨?_,by simp only;omega,q3⟩, ?_⟩
  ·show msz (u)≤_
   simp only;omega
  refine byP (fc (pxF s) (fc tmGF (fc mkF (fc Tryz.ntmps282 Tryz.results282)))) ?_
  repeat' (with_reducible apply And.intro)
  all_goals first | exact True.intro | rfl
 obtain rfl:=v2 rfl
 refine sw_run 200 _ _ _ (byP (pxF s) ?_)
 refine sw_callXR (con_takeX ⟨#[105,102,32]⟩ s (by decide) hl j3 hi b) rfl rfl rfl (byP (pxF s) True.intro) (byP (pxF s) True.intro) (byP (pxF s) True.intro) ?_
 rintro ⟨x4,j4⟩ ⟨w1,w2,w3⟩
 simp only at w1 w2 w3
 cases x4
 case true =>
  have h9:=w1 rfl
  have h8:(⟨#[105,102,32]⟩:ByteArray).size=3:=rfl
  rw [h8] at h9
  have he:msz (.mk 5 ⟨#[]⟩ ⟨#[]⟩ 0 (.mk 0 []) (.mk 0 []) [])=0+0+0+0+0:=by first | (rw [msz_mk,lsz_nil];done) | (rw [msz_mk,lsz_nil];simp only [tz,ez];done) | (rw [msz_mk,lsz_nil];simp only [tz,ez];omega)
  have hA:=con_argsX s hl d hd hT (.mk 5 ⟨#[]⟩ ⟨#[]⟩ 0 (.mk 0 []) (.mk 0 []) []) 3 (by decide) (by omega) j4 w3 b
  refine sw_run 200 _ _ _ (byP (pxF s) ?_)
  refine sw_callXR (hA) rfl rfl rfl (byP (fc (pxF s) (fc tmGF cast0s)) True.intro) (byP (fc (pxF s) (fc tmGF cast0s)) True.intro) (byP (fc (pxF s) (fc tmGF cast0s)) True.intro) ?_
  rintro ⟨u,je,be⟩ ⟨q1,q2,q3⟩
  simp only at q1 q2 q3
  refine sw_run 200 _ _ _ (byP (fc (pxF s) (fc Tryz.ntmps282 Tryz.results282)) ?_)
  refine ⟨.inl rfl,(u,je,be),⟨?_,by simp only;omega,q3⟩, ?_⟩
  ·show msz (u)≤_
   simp only;omega
  refine byP (fc (pxF s) (fc tmGF (fc mkF (fc Tryz.ntmps282 Tryz.results282)))) ?_
  repeat' (with_reducible apply And.intro)
  all_goals first | exact True.intro | rfl
 obtain rfl:=w2 rfl
 refine sw_run 200 _ _ _ (byP (pxF s) ?_)
 refine sw_callXR (con_takeX ⟨#[114,117,110,32]⟩ s (by decide) hl j4 hi b) rfl rfl rfl (byP (pxF s) True.intro) (byP (pxF s) True.intro) (byP (pxF s) True.intro) ?_
 rintro ⟨x5,j5⟩ ⟨y1,y2,y3⟩
 simp only at y1 y2 y3
 cases x5
 case true =>
  have h9:=y1 rfl
  have h8:(⟨#[114,117,110,32]⟩:ByteArray).size=4:=rfl
  rw [h8] at h9
  have he:msz (.mk 12 ⟨#[]⟩ ⟨#[]⟩ 0 (.mk 0 []) (.mk 0 []) [])=0+0+0+0+0:=by first | (rw [msz_mk,lsz_nil];done) | (rw [msz_mk,lsz_nil];simp only [tz,ez];done) | (rw [msz_mk,lsz_nil];simp only [tz,ez];omega)
  have hA:=con_argsX s hl d hd hT (.mk 12 ⟨#[]⟩ ⟨#[]⟩ 0 (.mk 0 []) (.mk 0 []) []) 1 (by decide) (by omega) j5 y3 b
  refine sw_run 200 _ _ _ (byP (pxF s) ?_)
  refine sw_callXR (hA) rfl rfl rfl (byP (fc (pxF s) (fc tmGF cast0s)) True.intro) (byP (fc (pxF s) (fc tmGF cast0s)) True.intro) (byP (fc (pxF s) (fc tmGF cast0s)) True.intro) ?_
  rintro ⟨u,je,be⟩ ⟨q1,q2,q3⟩
  simp only at q1 q2 q3
  refine sw_run 200 _ _ _ (byP (fc (pxF s) (fc Tryz.ntmps282 Tryz.results282)) ?_)
  refine ⟨.inl rfl,(u,je,be),⟨?_,by simp only;omega,q3⟩, ?_⟩
  ·show msz (u)≤_
   simp only;omega
  refine byP (fc (pxF s) (fc tmGF (fc mkF (fc Tryz.ntmps282 Tryz.results282)))) ?_
  repeat' (with_reducible apply And.intro)
  all_goals first | exact True.intro | rfl
 obtain rfl:=y2 rfl
 refine sw_run 200 _ _ _ (byP (pxF s) ?_)
 refine sw_callXR (con_takeX ⟨#[108,105,102,116,32]⟩ s (by decide) hl j5 hi b) rfl rfl rfl (byP (pxF s) True.intro) (byP (pxF s) True.intro) (byP (pxF s) True.intro) ?_
 rintro ⟨x6,j6⟩ ⟨z1,z2,z3⟩
 simp only at z1 z2 z3
 cases x6
 case true =>
  have h9:=z1 rfl
  have h8:(⟨#[108,105,102,116,32]⟩:ByteArray).size=5:=rfl
  rw [h8] at h9
  have he:msz (.mk 13 ⟨#[]⟩ ⟨#[]⟩ 0 (.mk 0 []) (.mk 0 []) [])=0+0+0+0+0:=by first | (rw [msz_mk,lsz_nil];done) | (rw [msz_mk,lsz_nil];simp only [tz,ez];done) | (rw [msz_mk,lsz_nil];simp only [tz,ez];omega)
  have hA:=con_argsX s hl d hd hT (.mk 13 ⟨#[]⟩ ⟨#[]⟩ 0 (.mk 0 []) (.mk 0 []) []) 1 (by decide) (by omega) j6 z3 b
  refine sw_run 200 _ _ _ (byP (pxF s) ?_)
  refine sw_callXR (hA) rfl rfl rfl (byP (fc (pxF s) (fc tmGF cast0s)) True.intro) (byP (fc (pxF s) (fc tmGF cast0s)) True.intro) (byP (fc (pxF s) (fc tmGF cast0s)) True.intro) ?_
  rintro ⟨u,je,be⟩ ⟨q1,q2,q3⟩
  simp only at q1 q2 q3
  refine sw_run 200 _ _ _ (byP (fc (pxF s) (fc Tryz.ntmps282 Tryz.results282)) ?_)
  refine ⟨.inl rfl,(u,je,be),⟨?_,by simp only;omega,q3⟩, ?_⟩
  ·show msz (u)≤_
   simp only;omega
  refine byP (fc (pxF s) (fc tmGF (fc mkF (fc Tryz.ntmps282 Tryz.results282)))) ?_
  repeat' (with_reducible apply And.intro)
  all_goals first | exact True.intro | rfl
 obtain rfl:=z2 rfl
 refine sw_run 200 _ _ _ (byP (pxF s) ?_)
 refine sw_callXR (con_takeX ⟨#[33]⟩ s (by decide) hl j6 hi b) rfl rfl rfl (byP (pxF s) True.intro) (byP (pxF s) True.intro) (byP (pxF s) True.intro) ?_
 rintro ⟨x7,j7⟩ ⟨zz1,zz2,zz3⟩
 simp only at zz1 zz2 zz3
 cases x7
 case true =>
  have h9:=zz1 rfl
  have h8:(⟨#[33]⟩:ByteArray).size=1:=rfl
  rw [h8] at h9
  have he:msz (.mk 4 ⟨#[33]⟩ ⟨#[]⟩ 0 (.mk 0 []) (.mk 0 []) [])=1+0+0+0+0:=by first | (rw [msz_mk,lsz_nil];done) | (rw [msz_mk,lsz_nil];simp only [tz,ez];done) | (rw [msz_mk,lsz_nil];simp only [tz,ez];omega)
  have hA:=con_argsX s hl d hd hT (.mk 4 ⟨#[33]⟩ ⟨#[]⟩ 0 (.mk 0 []) (.mk 0 []) []) 1 (by decide) (by omega) j7 zz3 b
  refine sw_run 200 _ _ _ (byP (pxF s) ?_)
  refine sw_callXR (hA) rfl rfl rfl (byP (fc (pxF s) (fc tmGF cast0s)) True.intro) (byP (fc (pxF s) (fc tmGF cast0s)) True.intro) (byP (fc (pxF s) (fc tmGF cast0s)) True.intro) ?_
  rintro ⟨u,je,be⟩ ⟨q1,q2,q3⟩
  simp only at q1 q2 q3
  refine sw_run 200 _ _ _ (byP (fc (pxF s) (fc Tryz.ntmps282 Tryz.results282)) ?_)
  refine ⟨.inl rfl,(u,je,be),⟨?_,by simp only;omega,q3⟩, ?_⟩
  ·show msz (u)≤_
   simp only;omega
  refine byP (fc (pxF s) (fc tmGF (fc mkF (fc Tryz.ntmps282 Tryz.results282)))) ?_
  repeat' (with_reducible apply And.intro)
  all_goals first | exact True.intro | rfl
 obtain rfl:=zz2 rfl
 refine sw_run 200 _ _ _ (byP (pxF s) ?_)
 refine sw_callXR (hTt j7 b hi) rfl rfl rfl (byP (pxF s) True.intro) (byP (pxF s) True.intro) (byP (pxF s) True.intro) ?_
 rintro ⟨t,k1,b1⟩ ⟨p1,p2,p3⟩
 simp only at p1 p2 p3
 have hR:=con_restX s hl d hd hT t (by omega) k1 p3 b1
 refine sw_run 200 _ _ _ (byP (pxF s) ?_)
 refine sw_callXR (hR) rfl rfl rfl (byP (fc (pxF s) tmC_eq) True.intro) (byP (fc (pxF s) tmC_eq) True.intro) (byP (fc (pxF s) tmC_eq) True.intro) ?_
 rintro ⟨u,je,be⟩ ⟨q1,q2,q3⟩
 simp only at q1 q2 q3
 refine sw_run 200 _ _ _ (byP (fc (pxF s) (fc Tryz.ntmps282 Tryz.results282)) ?_)
 refine ⟨.inl rfl,(u,je,be),⟨?_,by simp only;omega,q3⟩, ?_⟩
 ·show msz (u)≤_
  simp only;omega
 refine byP (fc (pxF s) (fc tmGF (fc mkF (fc Tryz.ntmps282 Tryz.results282)))) ?_
 repeat' (with_reducible apply And.intro)
 all_goals first | exact True.intro | rfl
set_option maxHeartbeats 16000000 in
theorem con_termX (s : ByteArray) (hl : s.size ≤ 1000000) : ∀ (d : Nat), d ≤ 20 → TermC s d
  | d, hd, i, true, hi => by
    refine con_runXF [0, 1, 2, 3, 4, 5, 6, 7, 8, 9, 10, 11] Tryz.func271 rfl rfl (by simp [Tryz.ntmps271]) (fun _ _ => rfl) ?_
    refine byP (fc (pxF s) (fc Tryz.ntmps271 Tryz.results271)) ?_
    refine sw_drawn (.cons 0 true (.cons 1 true (.cons 2 true (.cons 3 true (.cons 4 true (.cons 5 true (.cons 6 true (.cons 7 true (.cons 8 true (.cons 9 true (.cons 10 true (.cons 11 true (.cons 12 true (.cons 13 true (.cons 14 true (.cons 15 true (.cons 16 true (.cons 17 true (.cons 18 true (.cons 19 true (.cons 20 true (.cons 21 true (.cons 22 true (.cons 23 false (.nil))))))))))))))))))))))))) (by kernel_rfl) fQXF_panic (by kernel_rfl) ?_
    refine sw_run 200 _ _ _ (byP (fc (pxF s) (fc Tryz.ntmps271 Tryz.results271)) ?_)
    refine ⟨.inl rfl, (.mk 0 ⟨#[]⟩ ⟨#[]⟩ 0 (.mk 0 []) (.mk 0 []) [], i, true), ⟨?_, Nat.le_refl _, hi⟩, ?_⟩
    · show msz (.mk 0 ⟨#[]⟩ ⟨#[]⟩ 0 (.mk 0 []) (.mk 0 []) []) ≤ _
      exact Nat.zero_le _
    refine byP (fc (pxF s) (fc tmGF (fc mkF (fc Tryz.ntmps271 Tryz.results271)))) ?_
    repeat' (with_reducible apply And.intro)
    all_goals first | exact True.intro | rfl
  | 0, hd, i, false, hi => by
    have h9 : 20 < (21 : Int) - ((0 : Nat) : Int) := by decide
    refine con_runXF [0, 1, 2, 3, 4, 5, 6, 7, 8, 9, 10, 11] Tryz.func271 rfl rfl (by simp [Tryz.ntmps271]) (fun _ _ => rfl) ?_
    refine byP (fc (pxF s) (fc Tryz.ntmps271 Tryz.results271)) ?_
    refine sw_drawn (.cons 0 true (.cons 1 true (.cons 2 true (.cons 3 true (.cons 4 true (.cons 5 true (.cons 6 true (.cons 7 true (.cons 8 true (.cons 9 true (.cons 10 true (.cons 11 true (.cons 12 true (.cons 13 true (.cons 14 true (.cons 15 true (.cons 16 true (.cons 17 true (.cons 18 true (.cons 19 true (.cons 20 true (.cons 21 true (.cons 22 true (.cons 23 false (.nil))))))))))))))))))))))))) (by kernel_rfl) fQXF_panic (by kernel_rfl) ?_
    refine sw_run 200 _ _ _ (byP (fc (pxF s) (fc h9 (fc Tryz.ntmps271 Tryz.results271))) ?_)
    refine ⟨.inl rfl, (.mk 0 ⟨#[]⟩ ⟨#[]⟩ 0 (.mk 0 []) (.mk 0 []) [], i, true), ⟨?_, Nat.le_refl _, hi⟩, ?_⟩
    · show msz (.mk 0 ⟨#[]⟩ ⟨#[]⟩ 0 (.mk 0 []) (.mk 0 []) []) ≤ _
      exact Nat.zero_le _
    refine byP (fc (pxF s) (fc tmGF (fc mkF (fc Tryz.ntmps271 Tryz.results271)))) ?_
    repeat' (with_reducible apply And.intro)
    all_goals first | exact True.intro | rfl
  | d + 1, hd, i, false, hi => by
    have tz := tszz.1
    have ez := tszz.2
    have hT5 : TermC s d := con_termX s hl d (by omega)
    have ih : ∀ (i : Nat) (b : Bool), i ≤ s.size → ConX Tryz.prog 271 [.p (rdx s i b), .b (.one (.int (21 - (d : Int))))] (pxI s i 0) (pxO s) pxR := hT5
    have h9 : ¬ 20 < (21 : Int) - ((d + 1 : Nat) : Int) := by omega
    have hs : (21 : Int) - ((d + 1 : Nat) : Int) + 1 = 21 - (d : Int) := by omega
    have hin : inI ((21 : Int) - (d : Int)) := by unfold inI; omega
    generalize (21 : Int) - ((d + 1 : Nat) : Int) = dp at *
    by_cases hlt : (i : Int) < (s.size : Int)
    · have hge : ¬ (s.size : Int) ≤ (i : Int) := by omega
      refine con_runXF [0, 1, 2, 3, 4, 5, 6, 7, 8, 9, 10, 11] Tryz.func271 rfl rfl (by simp [Tryz.ntmps271]) (fun _ _ => rfl) ?_
      refine byP (fc (pxF s) (fc Tryz.ntmps271 Tryz.results271)) ?_
      refine sw_drawn (.cons 0 true (.cons 1 true (.cons 2 true (.cons 3 true (.cons 4 true (.cons 5 true (.cons 6 true (.cons 7 true (.cons 8 true (.cons 9 true (.cons 10 true (.cons 11 true (.cons 12 true (.cons 13 true (.cons 14 true (.cons 15 true (.cons 16 true (.cons 17 true (.cons 18 true (.cons 19 true (.cons 20 true (.cons 21 true (.cons 22 true (.cons 23 false (.nil))))))))))))))))))))))))) (by kernel_rfl) fQXF_panic (by kernel_rfl) ?_
      refine sw_run 200 _ _ _ (byP (fc (pxF s) (fc h9 (fc hge (fc Tryz.ntmps271 Tryz.results271)))) ?_)
      refine sw_callXR (con_takeX ⟨#[35,116]⟩ s (by decide) hl i hi false) rfl rfl rfl (byP (pxF s) True.intro) (byP (pxF s) True.intro) (byP (pxF s) True.intro) ?_
      rintro ⟨x1, j1⟩ ⟨t1, t2, t3⟩
      simp only at t1 t2 t3
      cases x1
      case true =>
        have h9 := t1 rfl
        have h8 : (⟨#[35,116]⟩ : ByteArray).size = 2 := rfl
        rw [h8] at h9
        refine sw_run 200 _ _ _ (byP (pxF s) ?_)
        refine sw_callPR (con_boolA 1) rfl rfl rfl (byQ True.intro) (byQ True.intro) (byQ True.intro) ?_
        refine sw_run 200 _ _ _ (byP (fc (pxF s) (fc Tryz.ntmps271 Tryz.results271)) ?_)
        refine ⟨.inl rfl, (.mk 3 ⟨#[]⟩ ⟨#[]⟩ 1 (.mk 0 []) (.mk 0 []) [], j1, false), ⟨?_, by simp only; omega, t3⟩, ?_⟩
        · show msz (.mk 3 ⟨#[]⟩ ⟨#[]⟩ 1 (.mk 0 []) (.mk 0 []) []) ≤ _
          exact Nat.zero_le _
        refine byP (fc (pxF s) (fc tmGF (fc mkF (fc Tryz.ntmps271 Tryz.results271)))) ?_
        repeat' (with_reducible apply And.intro)
        all_goals first | exact True.intro | rfl
      obtain rfl := t2 rfl
      refine sw_run 200 _ _ _ (byP (pxF s) ?_)
      refine sw_callXR (con_takeX ⟨#[35,102]⟩ s (by decide) hl j1 hi false) rfl rfl rfl (byP (pxF s) True.intro) (byP (pxF s) True.intro) (byP (pxF s) True.intro) ?_
      rintro ⟨x2, j2⟩ ⟨u1, u2, u3⟩
      simp only at u1 u2 u3
      cases x2
      case true =>
        have h9 := u1 rfl
        have h8 : (⟨#[35,102]⟩ : ByteArray).size = 2 := rfl
        rw [h8] at h9
        refine sw_run 200 _ _ _ (byP (pxF s) ?_)
        refine sw_callPR (con_boolA 0) rfl rfl rfl (byQ True.intro) (byQ True.intro) (byQ True.intro) ?_
        refine sw_run 200 _ _ _ (byP (fc (pxF s) (fc Tryz.ntmps271 Tryz.results271)) ?_)
        refine ⟨.inl rfl, (.mk 3 ⟨#[]⟩ ⟨#[]⟩ 0 (.mk 0 []) (.mk 0 []) [], j2, false), ⟨?_, by simp only; omega, u3⟩, ?_⟩
        · show msz (.mk 3 ⟨#[]⟩ ⟨#[]⟩ 0 (.mk 0 []) (.mk 0 []) []) ≤ _
          exact Nat.zero_le _
        refine byP (fc (pxF s) (fc tmGF (fc mkF (fc Tryz.ntmps271 Tryz.results271)))) ?_
        repeat' (with_reducible apply And.intro)
        all_goals first | exact True.intro | rfl
      obtain rfl := u2 rfl
      refine sw_run 200 _ _ _ (byP (pxF s) ?_)
      refine sw_callXR (con_takeX ⟨#[126]⟩ s (by decide) hl j2 hi false) rfl rfl rfl (byP (pxF s) True.intro) (byP (pxF s) True.intro) (byP (pxF s) True.intro) ?_
      rintro ⟨x3, j3⟩ ⟨v1, v2, v3⟩
      simp only at v1 v2 v3
      cases x3
      case true =>
        have h9 := v1 rfl
        have h8 : (⟨#[126]⟩ : ByteArray).size = 1 := rfl
        rw [h8] at h9
        refine sw_run 200 _ _ _ (byP (fc (pxF s) (fc hs hin)) ?_)
        refine sw_callXR (ih j3 false v3) rfl rfl rfl (byP (pxF s) True.intro) (byP (pxF s) True.intro) (byP (pxF s) True.intro) ?_
        rintro ⟨u, je, be⟩ ⟨q1, q2, q3⟩
        simp only at q1 q2 q3
        have ho := lsz_one u
        refine sw_run 200 _ _ _ (byP (fc (pxF s) (fc Tryz.ntmps271 Tryz.results271)) ?_)
        refine ⟨.inl rfl, (.mk 11 ⟨#[]⟩ ⟨#[]⟩ 0 (.mk 0 []) (.mk 0 []) [u], je, be), ⟨?_, by simp only; omega, q3⟩, ?_⟩
        · show msz (.mk 11 ⟨#[]⟩ ⟨#[]⟩ 0 (.mk 0 []) (.mk 0 []) [u]) ≤ _
          rw [msz_mk, ho]; simp only [tz, ez]; omega
        refine byP (fc (pxF s) (fc tmGF (fc mkF (fc tmC_eq (fc Tryz.ntmps271 Tryz.results271))))) ?_
        repeat' (with_reducible apply And.intro)
        all_goals first | exact True.intro | rfl
      obtain rfl := v2 rfl
      refine sw_run 200 _ _ _ (byP (pxF s) ?_)
      refine sw_callXR (con_takeX ⟨#[60]⟩ s (by decide) hl j3 hi false) rfl rfl rfl (byP (pxF s) True.intro) (byP (pxF s) True.intro) (byP (pxF s) True.intro) ?_
      rintro ⟨x4, j4⟩ ⟨w1, w2, w3⟩
      simp only at w1 w2 w3
      cases x4
      case true =>
        have h9 := w1 rfl
        have h8 : (⟨#[60]⟩ : ByteArray).size = 1 := rfl
        rw [h8] at h9
        refine sw_run 200 _ _ _ (byP (fc (pxF s) (fc hs hin)) ?_)
        refine sw_callXR (ih j4 false w3) rfl rfl rfl (byP (pxF s) True.intro) (byP (pxF s) True.intro) (byP (pxF s) True.intro) ?_
        rintro ⟨u, je, be⟩ ⟨q1, q2, q3⟩
        simp only at q1 q2 q3
        have ho := lsz_one u
        refine sw_run 200 _ _ _ (byP (pxF s) ?_)
        refine sw_callXR (con_mustX ⟨#[62]⟩ s (by decide) hl je q3 be) rfl rfl rfl (byP (pxF s) True.intro) (byP (pxF s) True.intro) (byP (pxF s) True.intro) ?_
        rintro ⟨jf, bf⟩ ⟨c1, c2, c3⟩
        simp only at c1 c2 c3
        refine sw_run 200 _ _ _ (byP (fc (pxF s) (fc Tryz.ntmps271 Tryz.results271)) ?_)
        refine ⟨.inl rfl, (.mk 10 ⟨#[]⟩ ⟨#[]⟩ 0 (.mk 0 []) (.mk 0 []) [u], jf, bf), ⟨?_, by simp only; omega, c3⟩, ?_⟩
        · show msz (.mk 10 ⟨#[]⟩ ⟨#[]⟩ 0 (.mk 0 []) (.mk 0 []) [u]) ≤ _
          rw [msz_mk, ho]; simp only [tz, ez]; omega
        refine byP (fc (pxF s) (fc tmGF (fc mkF (fc Tryz.ntmps271 Tryz.results271)))) ?_
        repeat' (with_reducible apply And.intro)
        all_goals first | exact True.intro | rfl
      obtain rfl := w2 rfl
      refine sw_run 200 _ _ _ (byP (pxF s) ?_)
      refine sw_callXR (con_takeX ⟨#[40]⟩ s (by decide) hl j4 hi false) rfl rfl rfl (byP (pxF s) True.intro) (byP (pxF s) True.intro) (byP (pxF s) True.intro) ?_
      rintro ⟨x5, j5⟩ ⟨y1, y2, y3⟩
      simp only at y1 y2 y3
      cases x5
      case true =>
        have h9 := y1 rfl
        have h8 : (⟨#[40]⟩ : ByteArray).size = 1 := rfl
        rw [h8] at h9
        refine sw_run 200 _ _ _ (byP (fc (pxF s) (fc hs hin)) ?_)
        refine sw_callXR (con_openX s hl d (by omega) hT5 j5 y3 false) rfl rfl rfl (byP (pxF s) True.intro) (byP (pxF s) True.intro) (byP (pxF s) True.intro) ?_
        rintro ⟨u, je, be⟩ ⟨q1, q2, q3⟩
        simp only at q1 q2 q3
        refine sw_run 200 _ _ _ (byP (fc (pxF s) (fc Tryz.ntmps271 Tryz.results271)) ?_)
        refine ⟨.inl rfl, (u, je, be), ⟨?_, by simp only; omega, q3⟩, ?_⟩
        · show msz (u) ≤ _
          simp only; omega
        refine byP (fc (pxF s) (fc tmGF (fc mkF (fc Tryz.ntmps271 Tryz.results271)))) ?_
        repeat' (with_reducible apply And.intro)
        all_goals first | exact True.intro | rfl
      obtain rfl := y2 rfl
      refine sw_run 200 _ _ _ (byP (pxF s) ?_)
      refine sw_drawn (.cons 0 true (.cons 1 true (.cons 2 true (.cons 3 true (.cons 4 true (.cons 5 true (.cons 6 true (.cons 7 true (.cons 8 true (.cons 9 true (.cons 10 true (.cons 11 true (.cons 12 true (.cons 13 true (.cons 14 true (.cons 15 true (.cons 16 true (.cons 17 true (.cons 18 true (.cons 19 true (.cons 20 true (.cons 21 true (.cons 22 true (.nil)))))))))))))))))))))))) (by kernel_rfl) fQXF_panic (by kernel_rfl) ?_
      have k0 : 0 ≤ (j5 : Int) := by omega
      by_cases c1 : 48 ≤ ((s.data.getD j5 0).toNat : Int)
      · by_cases c2 : ((s.data.getD j5 0).toNat : Int) ≤ 57
        · refine sw_run 200 _ _ _ (byP (fc (pxF s) (fc k0 (fc hlt (fc c1 c2)))) ?_)
          refine sw_callXR (con_numX s hl j5 hi false) rfl rfl rfl (byP (pxF s) True.intro) (byP (pxF s) True.intro) (byP (pxF s) True.intro) ?_
          rintro ⟨u, je, be⟩ ⟨q1, q2, q3⟩
          simp only at q1 q2 q3
          refine sw_run 200 _ _ _ (byP (fc (pxF s) (fc Tryz.ntmps271 Tryz.results271)) ?_)
          refine ⟨.inl rfl, (u, je, be), ⟨?_, by simp only; omega, q3⟩, ?_⟩
          · show msz (u) ≤ _
            simp only; omega
          refine byP (fc (pxF s) (fc tmGF (fc mkF (fc Tryz.ntmps271 Tryz.results271)))) ?_
          repeat' (with_reducible apply And.intro)
          all_goals first | exact True.intro | rfl
        · refine sw_run 200 _ _ _ (byP (fc (pxF s) (fc k0 (fc hlt (fc c1 c2)))) ?_)
          refine sw_callXR (con_wordX s hl j5 hi false) rfl rfl rfl (byP (pxF s) True.intro) (byP (pxF s) True.intro) (byP (pxF s) True.intro) ?_
          rintro ⟨w1, je⟩ ⟨q1, q2, q3⟩
          simp only at q1 q2 q3
          refine sw_run 200 _ _ _ (byP (pxF s) ?_)
          refine sw_callPR (con_varA w1) rfl rfl rfl (byQ True.intro) (byQ True.intro) (byQ True.intro) ?_
          refine sw_run 200 _ _ _ (byP (fc (pxF s) (fc Tryz.ntmps271 Tryz.results271)) ?_)
          refine ⟨.inl rfl, (.mk 1 w1 ⟨#[]⟩ 0 (.mk 0 []) (.mk 0 []) [], je, false), ⟨?_, by simp only; omega, q3⟩, ?_⟩
          · show msz (.mk 1 w1 ⟨#[]⟩ 0 (.mk 0 []) (.mk 0 []) []) ≤ _
            rw [msz_mk, lsz_nil]; simp only [tz, ez]; omega
          refine byP (fc (pxF s) (fc tmGF (fc mkF (fc Tryz.ntmps271 Tryz.results271)))) ?_
          repeat' (with_reducible apply And.intro)
          all_goals first | exact True.intro | rfl
      · refine sw_run 200 _ _ _ (byP (fc (pxF s) (fc k0 (fc hlt c1))) ?_)
        refine sw_callXR (con_wordX s hl j5 hi false) rfl rfl rfl (byP (pxF s) True.intro) (byP (pxF s) True.intro) (byP (pxF s) True.intro) ?_
        rintro ⟨w1, je⟩ ⟨q1, q2, q3⟩
        simp only at q1 q2 q3
        refine sw_run 200 _ _ _ (byP (pxF s) ?_)
        refine sw_callPR (con_varA w1) rfl rfl rfl (byQ True.intro) (byQ True.intro) (byQ True.intro) ?_
        refine sw_run 200 _ _ _ (byP (fc (pxF s) (fc Tryz.ntmps271 Tryz.results271)) ?_)
        refine ⟨.inl rfl, (.mk 1 w1 ⟨#[]⟩ 0 (.mk 0 []) (.mk 0 []) [], je, false), ⟨?_, by simp only; omega, q3⟩, ?_⟩
        · show msz (.mk 1 w1 ⟨#[]⟩ 0 (.mk 0 []) (.mk 0 []) []) ≤ _
          rw [msz_mk, lsz_nil]; simp only [tz, ez]; omega
        refine byP (fc (pxF s) (fc tmGF (fc mkF (fc Tryz.ntmps271 Tryz.results271)))) ?_
        repeat' (with_reducible apply And.intro)
        all_goals first | exact True.intro | rfl
    · have hge : (s.size : Int) ≤ (i : Int) := by omega
      refine con_runXF [0, 1, 2, 3, 4, 5, 6, 7, 8, 9, 10, 11] Tryz.func271 rfl rfl (by simp [Tryz.ntmps271]) (fun _ _ => rfl) ?_
      refine byP (fc (pxF s) (fc Tryz.ntmps271 Tryz.results271)) ?_
      refine sw_drawn (.cons 0 true (.cons 1 true (.cons 2 true (.cons 3 true (.cons 4 true (.cons 5 true (.cons 6 true (.cons 7 true (.cons 8 true (.cons 9 true (.cons 10 true (.cons 11 true (.cons 12 true (.cons 13 true (.cons 14 true (.cons 15 true (.cons 16 true (.cons 17 true (.cons 18 true (.cons 19 true (.cons 20 true (.cons 21 true (.cons 22 true (.cons 23 false (.nil))))))))))))))))))))))))) (by kernel_rfl) fQXF_panic (by kernel_rfl) ?_
      refine sw_run 200 _ _ _ (byP (fc (pxF s) (fc h9 (fc hge (fc Tryz.ntmps271 Tryz.results271)))) ?_)
      refine ⟨.inl rfl, (.mk 0 ⟨#[]⟩ ⟨#[]⟩ 0 (.mk 0 []) (.mk 0 []) [], i, true), ⟨?_, Nat.le_refl _, hi⟩, ?_⟩
      · show msz (.mk 0 ⟨#[]⟩ ⟨#[]⟩ 0 (.mk 0 []) (.mk 0 []) []) ≤ _
        exact Nat.zero_le _
      refine byP (fc (pxF s) (fc tmGF (fc mkF (fc Tryz.ntmps271 Tryz.results271)))) ?_
      repeat' (with_reducible apply And.intro)
      all_goals first | exact True.intro | rfl
end Go.Proofs.YtaidalilfmjfgaaGreat
