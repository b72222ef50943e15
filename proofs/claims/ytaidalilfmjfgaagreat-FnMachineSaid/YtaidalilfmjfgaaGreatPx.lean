import Derived.Test.YtaidalilfmjfgaaGreatDrg
import Derived.Test.YtaidalilfmjfgaaGreatRn
namespace Go.Proofs.YtaidalilfmjfgaaGreat
open Go.Proofs.Tryz
open Go.RowKit
set_option linter.unusedVariables false
set_option linter.unusedSimpArgs false
set_option maxRecDepth 20000
theorem prF:(∀ P all s,aA6 P all [] s=True)∧(∀ P all i l s,aA6 P all (i :: l) s=((((all[i]?).isSome=true∧gN ((all[i]?).getD Dx)=true)∧VM s ((all[i]?).getD Dx)=true∧(vP P s ((all[i]?).getD Dx).op).1)∧aA6 P all l (s.pt ((all[i]?).getD Dx).dst (vP P s ((all[i]?).getD Dx).op).2))) ∧
  (∀ P all s,Ze P all [] s=s)∧(∀ P all i l s,Ze P all (i :: l) s=Ze P all l (s.pt ((all[i]?).getD Dx).dst (vP P s ((all[i]?).getD Dx).op).2)) ∧
  (∀ s d x t p a g,VM s ⟨d,.move x,t,p,a,g⟩=true)∧(∀ s d x f t0 t p a g,VM s ⟨d,.fieldAddr t0 x f,t,p,a,g⟩=true)∧(∀ s d x t0 t p a g,VM s ⟨d,.load t0 x,t,p,a,g⟩=match s.ev x with | .eb _ _ _=>true | _=>false)∧(∀ s d x i t0 t p a g,VM s ⟨d,.indexAddr t0 x i,t,p,a,g⟩=match s.ev x with | .br _=>true | _=>false) ∧
  (∀ s d x y t0 t1 t p a g,VM s ⟨d,.binOp .sub t0 x y t1,t,p,a,g⟩=match s.ev x with | .i _=>(match s.ev y with | .i _=>true | _=>false) | _=>false)∧(∀ a b:D,rowAt 2 [a,b] 0=[a,b]) :=
 ⟨fun _ _ _=>rfl,fun _ _ _ _ _=>rfl,fun _ _ _=>rfl,fun _ _ _ _ _=>rfl,fun _ _ _ _ _ _ _=>rfl,fun _ _ _ _ _ _ _ _ _=>rfl,fun _ _ _ _ _ _ _ _=>rfl,fun _ _ _ _ _ _ _ _ _=>rfl,fun _ _ _ _ _ _ _ _ _ _=>rfl,fun _ _=>rfl⟩
theorem mkF:(∀ (k:Int) (s o:ByteArray) (n:Int) (t r:Ty) (xs:List Tm),(Tm.mk k s o n t r xs).kind=k∧(Tm.mk k s o n t r xs).name=s∧(Tm.mk k s o n t r xs).other=o∧(Tm.mk k s o n t r xs).n=n∧(Tm.mk k s o n t r xs).ty=t∧(Tm.mk k s o n t r xs).res=r∧(Tm.mk k s o n t r xs).args=xs)∧ty0.kind=0∧ty0.args=[]∧e0=⟨#[]⟩∧Ai []=[]∧Av []=[]∧(∀ a,Av [a]=tmC a)∧(∀ a b,Av [a,b]=tmC a++tmC b)∧(∀ a b c,Av [a,b,c]=tmC a++(tmC b++tmC c)):=⟨fun _ _ _ _ _ _ _=>⟨rfl,rfl,rfl,rfl,rfl,rfl,rfl⟩,rfl,rfl,rfl,rfl,rfl,IY,Qv,aEA⟩
theorem tmF:(∀ k xs,CZ k xs = .mk k e0 e0 0 ty0 ty0 xs)∧(∀ s xs,tOp s xs = .mk 4 s e0 0 ty0 ty0 xs)∧(∀ s t e,Um s t e = .mk 6 s e0 0 t ty0 [e])∧(∀ s a b,aDb s a b = .mk 8 s e0 0 ty0 ty0 [a,b]):=⟨fun _ _=>rfl,fun _ _=>rfl,fun _ _ _=>rfl,fun _ _ _=>rfl⟩
def tsz (t:Ty):Nat:=szL (tyC t)
set_option maxHeartbeats 4000000 in
theorem Gk (zs:List Int) (hz:CT zs):∀ (m:Nat) (t:Ty),szL (tyC t)≤m→m≤1000→BE t=true→∀ (n:Int),0≤n→n+m≤100000→∀ (i:Nat),i≤zs.length→∀ (h:Int),Bz prog 253 [.p (AK zs i h),.b (.ag [.int t.kind,.rows 2 t.args.length (Ai t.args)]),.b (.one (.int n))] (tmI zs (tsz t)) (tmO zs) KZ
 | m,t,hs,hm,hf,n,hn0,hn,i,hi,h=>by
  have hB:=fun n hn hn2 i hi h=>BA zs hz n hn hn2 i hi h
  refine AL [0,1,2,3,4,5,6,7,8,9] func253 rfl rfl (by simp [ntmps253]) (fun _ _=>rfl) ?_
  rcases LJ hf with g | g | g | g
  ·refine byP (fc (drZ zs) (fc g.1 (fc ntmps253 results253))) ?_
   refine KX (drZ zs) (hB 4 (by decide) (by decide) i hi h) ?_
   rintro ⟨v,i1,h1⟩ ⟨hv,hi1⟩
   simp only at hv hi1
   refine rG (drZ zs) ?_
   refine KR (KQ v) ?_
   refine rG (fc ntmps253 results253) ?_
   refine ⟨.inl rfl,(.mk 2 ⟨#[]⟩ ⟨#[]⟩ v (.mk 0 []) (.mk 0 []) [],i1,h1),⟨Nat.zero_le _,hi1⟩, ?_⟩
   refine byP (fc (drZ zs) (fc ntmps253 results253)) ?_
   exact Fi
  ·refine byP (fc (drZ zs) (fc g.1 (fc ntmps253 results253))) ?_
   refine KX (drZ zs) (hB 2 (by decide) (by decide) i hi h) ?_
   rintro ⟨v,i1,h1⟩ ⟨hv,hi1⟩
   simp only at hv hi1
   refine rG (drZ zs) ?_
   refine KR (FT v) ?_
   refine rG (fc ntmps253 results253) ?_
   refine ⟨.inl rfl,(.mk 3 ⟨#[]⟩ ⟨#[]⟩ v (.mk 0 []) (.mk 0 []) [],i1,h1),⟨Nat.zero_le _,hi1⟩, ?_⟩
   refine byP (fc (drZ zs) (fc ntmps253 results253)) ?_
   exact Fi
  ·obtain ⟨hk,hl,hf0,hf1,hsz⟩:=g
   have i0:(0:Int)<(t.args.length:Int):=by omega
   have i1:(1:Int)<(t.args.length:Int):=by omega
   have r0:=Ax t.args 0 (by omega)
   have r1:=Ax t.args 1 (by omega)
   cases m with
   | zero=>omega
   | succ m =>
    have ih:=Gk zs hz m t.args[1]! (by omega) (by omega) hf1 n hn0 (by omega) i hi h
    refine byP (fc (drZ zs) (fc hk (fc ntmps253 results253))) ?_
    refine DQ 1 rfl rfl ?_
    refine Cr [0,1,2,3,5,6,7,8] (oT [4,9] (oF [10,11,12] .nil)) (by kernel_rfl) AG (by kernel_rfl) ?_ ?_
    ·exact byP (fc prF (fc i0 (fc i1 (fc r0 r1)))) tI
    refine rG (fc prF (fc i0 (fc i1 (fc r0 r1)))) ?_
    refine Ay (ih) rfl rfl rfl (byP (drZ zs) tI) (byP (drZ zs) tI) (byP (drZ zs) tI) rfl ?_
    rintro ⟨e,j,h1⟩ ⟨he,hj⟩
    simp only [tsz] at he hj
    have hL:=HL ⟨#[119]⟩ t.args[0]! e (by omega) (by omega)
    refine rG (drZ zs) ?_
    refine KB hL ?_
    refine rG (fc (drZ zs) (fc tmF (fc ntmps253 results253))) ?_
    refine ⟨.inl rfl,(Um ⟨#[119]⟩ t.args[0]! e,j,h1),⟨?_,hj⟩, ?_⟩
    ·show szL (tmC _)≤tsz t
     unfold tsz
     rw [Pe]
     have:(⟨#[119]⟩:ByteArray).size=1:=rfl
     omega
    refine byP (fc (drZ zs) (fc tmF (fc mkF (fc ntmps253 results253)))) ?_
    exact Fi
  ·obtain ⟨hk,hl,hf0,hsz⟩:=g
   have i0:(0:Int)<(t.args.length:Int):=by omega
   have r0:=Ax t.args 0 (by omega)
   have hin:inI (n+1):=by unfold inI;omega
   cases m with
   | zero=>omega
   | succ m =>
    have ih:=Gk zs hz m t.args[0]! (by omega) (by omega) hf0 (n+1) (by omega) (by omega) i hi h
    refine byP (fc (drZ zs) (fc hk (fc i0 (fc r0 (fc hin (fc ntmps253 results253)))))) ?_
    refine KX (drZ zs) ih ?_
    rintro ⟨e,j,h1⟩ ⟨he,hj⟩
    simp only [tsz] at he hj
    refine rG (fc (drZ zs) (fc ntmps253 results253)) ?_
    refine ⟨.inl rfl,(CZ 10 [e],j,h1),⟨?_,hj⟩, ?_⟩
    ·show szL (tmC _)≤tsz t
     unfold tsz
     rw [Dt,IY]
     simp only [List.length_cons,List.length_nil]
     omega
    refine byP (fc (drZ zs) (fc tmF (fc mkF (fc ntmps253 results253)))) ?_
    exact Fi
def knL (l:List Tm):Prop:=∀ u ∈ l,szL (tmC u)≤1
def knI (zs:List Int) (x:Tm × Bool × Nat × Int):Prop:=szL (tmC x.1)≤1∧x.2.2.1≤zs.length
def knO (zs:List Int) (x:Tm × Bool × Nat × Int):List (List CD):=[AK zs x.2.2.1 x.2.2.2]
def knR (x:Tm × Bool × Nat × Int):List RD:=[tmZ x.1,.one (.o (.bool x.2.1))]
theorem knF (zs:List Int):(∀ e b i h,knO zs (e,b,i,h)=[AK zs i h])∧(∀ e b i h,knR (e,b,i,h)=[tmZ e,.one (.o (.bool b))]):=⟨fun _ _ _ _=>rfl,fun _ _ _ _=>rfl⟩
set_option maxHeartbeats 8000000 in
theorem Ld (zs:List Int) (hz:CT zs) (m:Nat) (ctx:List Tg) (t:Ty) (n:Int) (hc:Cx m ctx) (hm:m≤1000000) (ht:szL (tyC t)≤1000000) (i:Nat) (hi:i≤zs.length) (h:Int):Bz prog 252 [.p (AK zs i h),.b (.one (.rows 4 ctx.length (flC tgC ctx))),.b (.ag [.int t.kind,.rows 2 t.args.length (Ai t.args)]),.b (.one (.int n))] (knI zs) (knO zs) knR:=by
 have hml:=hc.1
 refine AL [0,1,2,3,4,5,6,7,8,9] func252 rfl rfl (by simp [ntmps252]) (fun _ _=>rfl) ?_
 refine byP (fc (drZ zs) (fc ntmps252 results252)) ?_
 refine Al (fun x:Nat × List Tm=>x.1≤ctx.length∧x.2.length≤x.1∧knL x.2) (fun x=>⟨66,[(11,.i x.1),(10,.sl 3),(8,.bx 2 0),(6,.bx 1 0),(3,.i n),(1,.br (.rows 4 ctx.length (flC tgC ctx))),(0,.bx 0 0)],[(0,[.br (.rows 1 zs.length (zs.map D.byt)),.i i,.i h]),(1,[.i t.kind,.br (.rows 2 t.args.length (Ai t.args))]),(2,[.i 0,.s ⟨#[]⟩,.s ⟨#[]⟩,.i 0,.i 0,.nl 2,.i 0,.nl 2,.nl 9])],[(3,some ⟨.rows 9 x.2.length (Av x.2),some 29,true⟩)],4,[0]⟩) (fun x=>ctx.length-x.1) (0,[]) id ⟨Nat.zero_le _,Nat.le_refl _,fun u hu=>by cases hu⟩ ?_ ?_
 ·exact byP (fc Int.natCast_zero (fc (show Av []=[] from rfl) (show ([]:List Tm).length=0 from rfl))) tI
 rintro ⟨k,l⟩ ⟨hk,hll,hsz⟩
 simp only at hk hll hsz ⊢
 by_cases hlt:k<ctx.length
 ·have hj:(k:Int)<(ctx.length:Int):=by omega
  have hR:rowAt 4 (flC tgC ctx) k=[.str (ctx[k]!).name,.int (ctx[k]!).ty.kind,.rows 2 (ctx[k]!).ty.args.length (Ai (ctx[k]!).ty.args),.int (ctx[k]!).level]:=CR Ky ctx k hlt
  have hg:=hc.2 _ (Ab hlt)
  have hE:=FU (ctx[k]!).ty t (by have:=hg.2.2;omega)
  rw [Au,Au] at hE
  have hL:Con prog 233 [.one (.rows 4 ctx.length (flC tgC ctx)),.one (.str (ctx[k]!).name)] [.one (.int (BH ctx (ctx[k]!).name ctx.length))]:=Kz ctx (ctx[k]!).name (by omega)
  have hg1:=hg.1
  have hin:inI ((k:Int)+1):=by unfold inI;omega
  have hV:Con prog 116 [.one (.str (ctx[k]!).name)] [.ag [.int 1,.str (ctx[k]!).name,.str ⟨#[]⟩,.int 0,.int 0,.rows 2 0 [],.int 0,.rows 2 0 [],.rows 9 0 []]]:=by
   have:=LB (ctx[k]!).name
   rw [Ak] at this
   exact this
  generalize ctx[k]! = g at *
  generalize Da g.ty t=b at *
  generalize BH ctx g.name ctx.length=q at *
  refine rG hj ?_
  refine Ac (oT [0,1,2,3,4,5,6,7,8,9,10,11,12,13] (.cons 14 false (oT [15,16,17,18,19,20,21,22,24] (.cons 23 false (oT [25,26] .nil))))) (by kernel_rfl) AD (by kernel_rfl) ?_
  by_cases hlv:g.level=n
  ·refine rG (fc hj (fc hR hlv)) ?_
   refine KD hE ?_
   cases b
   ·refine rG (fc hj (fc hR (fc hlv hin))) ?_
    refine ⟨(k+1,l),id,⟨by simp only;omega,by simp only;omega,hsz⟩,by simp only;omega, ?_⟩
    exact byP Bx tI
   ·refine rG (fc hj (fc hR (fc hlv hin))) ?_
    refine KD hL ?_
    by_cases hq:q=(k:Int)
    ·refine rG (fc hj (fc hR (fc hlv (fc (eq_true hq) hin)))) ?_
     refine Kc hV ?_
     refine rQ ?_
     have hst:Av (l++[.mk 1 g.name ⟨#[]⟩ 0 (.mk 0 []) (.mk 0 []) []])=Av l++[.int 1,.str g.name,.str ⟨#[]⟩,.int 0,.int 0,.rows 2 0 [],.int 0,.rows 2 0 [],.rows 9 0 []]:=by rw [At,At,AM,AA];rfl
     have hln:(l++[Tm.mk 1 g.name ⟨#[]⟩ 0 (.mk 0 []) (.mk 0 []) []]).length=l.length+1:=by simp
     refine ⟨⟨fun o ho=>by omega,by unfold maxLen;omega,by omega⟩,hin,(k+1,l++[.mk 1 g.name ⟨#[]⟩ 0 (.mk 0 []) (.mk 0 []) []]),rnL [(3,8)],⟨by simp only;omega,by simp only [hln];omega,fun u hu => ?_⟩,by simp only;omega, ?_⟩
     ·rcases List.mem_append.1 hu with hu | hu
      ·exact hsz u hu
      ·rw [List.mem_singleton.1 hu,JI];show g.name.size+0+0+0+(0+0)≤1;omega
     ·exact byP (fc Bx (fc hst hln)) tI
    ·refine rG (fc hj (fc hR (fc hlv (fc hq hin)))) ?_
     refine ⟨(k+1,l),id,⟨by simp only;omega,by simp only;omega,hsz⟩,by simp only;omega, ?_⟩
     exact byP Bx tI
  ·refine rG (fc hj (fc hR (fc hlv hin))) ?_
   refine ⟨(k+1,l),id,⟨by simp only;omega,by simp only;omega,hsz⟩,by simp only;omega, ?_⟩
   exact byP Bx tI
 ·have hj:¬ (k:Int)<(ctx.length:Int):=by omega
  by_cases hl0:l.length=0
  ·have hl00:(l.length:Int)=0:=by omega
   refine rG hj ?_
   refine rG (fc hl00 (fc ntmps252 results252)) ?_
   refine ⟨.inl rfl,(.mk 0 ⟨#[]⟩ ⟨#[]⟩ 0 (.mk 0 []) (.mk 0 []) [],false,i,h),⟨Nat.zero_le _,hi⟩, ?_⟩
   refine byP (fc (drZ zs) (fc (knF zs) (fc ntmps252 results252))) ?_
   exact Fi
  ·have hl00:¬ (l.length:Int)=0:=by omega
   have hB:=BA zs hz (l.length:Int) (by omega) (by omega) i hi h
   refine rG hj ?_
   refine rG (fc hl00 (fc ntmps252 results252)) ?_
   refine AX 3 rfl ?_
   refine byQ ?_
   refine KX (drZ zs) hB ?_
   rintro ⟨v,i1,h1⟩ ⟨hv,hi1⟩
   simp only at hv hi1
   have hvl:v.toNat<l.length:=by omega
   have hv0:=hv.1
   have hv1:v<(l.length:Int):=by omega
   have hrow:=Aj l v.toNat hvl
   have hmem:=hsz _ (Ab hvl)
   generalize l[v.toNat]! = e at *
   refine rG (fc (drZ zs) (fc hv0 (fc hv1 (fc hrow (fc ntmps252 results252))))) ?_
   refine ⟨.inl rfl,(e,true,i1,h1),⟨hmem,hi1⟩, ?_⟩
   refine byP (fc (drZ zs) (fc (knF zs) (fc ntmps252 results252))) ?_
   exact Fi
def gsz (s d:Nat):Nat:=(s+7) * 4 ^ d
theorem Zj (s d:Nat):gsz s (d+1)=4 * gsz s d:=by
 unfold gsz;rw [Nat.pow_succ,Nat.mul_comm 4,Nat.mul_assoc]
theorem TQ (d:Nat):1≤4 ^ d:=Nat.one_le_pow _ _ (by decide)
theorem Xa (s d:Nat):7 * 4 ^ d≤gsz s d:=Nat.mul_le_mul_right _ (by omega)
theorem aDL (s k d:Nat):gsz (s+k) d=gsz s d+k * 4 ^ d:=by
 unfold gsz;rw [← Nat.add_mul];congr 1;omega
theorem LM {s s':Nat} (h:s≤s') (d:Nat):gsz s d≤gsz s' d:=Nat.mul_le_mul_right _ (by omega)
theorem aAx (s d:Nat):s≤gsz s d:=by
 unfold gsz
 have:=Nat.mul_le_mul_left (s+7) (TQ d)
 omega
theorem ND (s d:Nat) (h:s+d≤20) (hd:d≤6):gsz s d≤200000:=by
 have h1:4 ^ d≤4 ^ 6:=Nat.pow_le_pow_right (by decide) hd
 have h2:gsz s d≤27 * 4 ^ 6:=Nat.mul_le_mul (by omega) h1
 exact Nat.le_trans h2 (by decide)
theorem Cx.mono {m m':Nat} {ctx:List Tg} (h:Cx m ctx) (hm:m≤m'):Cx m' ctx:=⟨Nat.le_trans h.1 hm,h.2⟩
theorem Ul (t:Ty):BE (gC t)=BE t:=by
 unfold gC
 rw [BE]
 simp [Dc,shB]
theorem aJt (t:Ty):szL (tyC (gC t))=1+szL (tyC t):=Lj 4 t
def aEr (zs:List Int) (d:Nat):Prop:=∀ (ctx:List Tg) (t:Ty) (n:Int) (i:Nat) (h:Int),Cx (40-d) ctx→BE t=true→tsz t+d≤20→0≤n→n+d≤1000→i≤zs.length→Bz prog 205 [.p (AK zs i h),.b (.one (.rows 4 ctx.length (flC tgC ctx))),.b (.ag [.int t.kind,.rows 2 t.args.length (Ai t.args)]),.b (.one (.int n)),.b (.one (.int d))] (tmI zs (gsz (tsz t) d)) (tmO zs) KZ
set_option maxHeartbeats 8000000 in
theorem TS (zs:List Int) (hz:CT zs) (d:Nat) (hd:d≤5) (hG:aEr zs d) (ctx:List Tg) (t:Ty) (n:Int) (i:Nat) (h:Int) (hc:Cx (40-d) ctx) (ht:tsz t+(d+1)≤20) (hn0:0≤n) (hn:n+d≤1000) (hi:i≤zs.length):Bz prog 255 [.p (AK zs i h),.b (.one (.rows 4 ctx.length (flC tgC ctx))),.b (.ag [.int t.kind,.rows 2 t.args.length (Ai t.args)]),.b (.one (.int n)),.b (.one (.int ((d:Int)+1)))] (tmI zs (gsz (tsz t) (d+1))) (tmO zs) KZ:=by
 have hB:=fun n hn hn2 i hi h=>BA zs hz n hn hn2 i hi h
 have hs:(d:Int)+1-1=(d:Int):=by omega
 have hin:inI (d:Int):=by unfold inI;omega
 have g0:=Zj (tsz t) d
 have g1:=Xa (tsz t) d
 have g2:=TQ d
 have g3:=LM (Nat.zero_le (tsz t)) d
 have g4:=ND 0 d (by omega) (by omega)
 have z1:tsz gI=0:=rfl
 have z2:tsz gB=0:=rfl
 have hgI:∀ (i:Nat),i≤zs.length→∀ h:Int,Bz prog 205 [.p (AK zs i h),.b (.one (.rows 4 ctx.length (flC tgC ctx))),.b (.ag [.int 1,.rows 2 0 []]),.b (.one (.int n)),.b (.one (.int d))] (tmI zs (gsz 0 d)) (tmO zs) KZ:=fun i hi h=>hG ctx gI n i h hc (by decide) (by rw [z1];omega) hn0 hn hi
 have hgB:∀ (i:Nat),i≤zs.length→∀ h:Int,Bz prog 205 [.p (AK zs i h),.b (.one (.rows 4 ctx.length (flC tgC ctx))),.b (.ag [.int 2,.rows 2 0 []]),.b (.one (.int n)),.b (.one (.int d))] (tmI zs (gsz 0 d)) (tmO zs) KZ:=fun i hi h=>hG ctx gB n i h hc (by decide) (by rw [z2];omega) hn0 hn hi
 have cI:Bc prog 201 [] [] [.ag [.r (.int 1),.r (.rows 2 0 [])]]:=Le
 have cB:Bc prog 202 [] [] [.ag [.r (.int 2),.r (.rows 2 0 [])]]:=OK
 have hP4:∀ (i:Nat),i≤zs.length→∀ h:Int,Bz prog 145 [.p (AK zs i h),.b (.one (.rows 1 4 [.str ⟨#[43]⟩,.str ⟨#[42]⟩,.str ⟨#[45]⟩,.str ⟨#[43]⟩]))] (txI zs [⟨#[43]⟩,⟨#[42]⟩,⟨#[45]⟩,⟨#[43]⟩]) (txO zs) txR:=fun i hi h=>CK zs hz [⟨#[43]⟩,⟨#[42]⟩,⟨#[45]⟩,⟨#[43]⟩] (by decide) (by decide) i hi h
 have hP2:∀ (i:Nat),i≤zs.length→∀ h:Int,Bz prog 145 [.p (AK zs i h),.b (.one (.rows 1 2 [.str ⟨#[38]⟩,.str ⟨#[124]⟩]))] (txI zs [⟨#[38]⟩,⟨#[124]⟩]) (txO zs) txR:=fun i hi h=>CK zs hz [⟨#[38]⟩,⟨#[124]⟩] (by decide) (by decide) i hi h
 have hPe:∀ (i:Nat),i≤zs.length→∀ h:Int,Bz prog 145 [.p (AK zs i h),.b (.one (.rows 1 2 [.str ⟨#[61]⟩,.str ⟨#[60]⟩]))] (txI zs [⟨#[61]⟩,⟨#[60]⟩]) (txO zs) txR:=fun i hi h=>CK zs hz [⟨#[61]⟩,⟨#[60]⟩] (by decide) (by decide) i hi h
 refine AL [0,1,2,3,4,5,6,7,8,9,10,11,12] func255 rfl rfl (by simp [ntmps255]) (fun _ _=>rfl) ?_
 refine byP (fc (drZ zs) (fc ntmps255 results255)) ?_
 refine KR cI ?_
 refine rG (fc (drZ zs) (fc ntmps255 results255)) ?_
 refine KR cB ?_
 by_cases hk:t.kind=1
 ·refine rG (fc hk (fc ntmps255 results255)) ?_
  refine DQ 3 rfl rfl ?_
  refine Cr [5,7,8,12,14,15] (oT [0,3,4,6,10,11,13] (oF [1,2,9,16,17,18,19] .nil)) (by kernel_rfl) AG (by kernel_rfl) ?_ ?_
  ·exact byP (fc prF (fc hs hin)) tI
  refine rG (fc prF (fc hs (fc hin (fc ntmps255 results255)))) ?_
  refine EB 5 rfl ?_
  refine byQ ?_
  refine Ay (hP4 i hi h) rfl rfl rfl (byP (drZ zs) tI) (byP (drZ zs) tI) (byP (drZ zs) tI) rfl ?_
  rintro ⟨s,ja,ka⟩ ⟨hsm,hja⟩
  simp only at hsm hja
  have s1:s.size≤1:=by
   simp only [List.mem_cons,List.not_mem_nil,or_false] at hsm
   rcases hsm with rfl | rfl | rfl | rfl <;> decide
  refine rG (drZ zs) ?_
  refine Ay (hgI ja hja ka) rfl rfl rfl (byP (drZ zs) tI) (byP (drZ zs) tI) (byP (drZ zs) tI) rfl ?_
  rintro ⟨x,jb,kb⟩ ⟨hx,hjb⟩
  simp only at hx hjb
  refine rG (drZ zs) ?_
  refine Ay (hgI jb hjb kb) rfl rfl rfl (byP (drZ zs) tI) (byP (drZ zs) tI) (byP (drZ zs) tI) rfl ?_
  rintro ⟨y,jc,kc⟩ ⟨hy,hjc⟩
  simp only at hy hjc
  refine rG (drZ zs) ?_
  refine EB 6 rfl ?_
  refine byQ ?_
  refine KB (MJ s x y (by omega) (by omega)) ?_
  refine rG (fc (drZ zs) (fc tmF (fc mkF (fc ntmps255 results255)))) ?_
  refine ⟨.inl rfl,(tOp s [x,y],jc,kc),⟨?_,hjc⟩, ?_⟩
  ·show szL (tmC _)≤_
   rw [Wd]
   rw [Qv,Ah]
   simp only [List.length_cons,List.length_nil]
   omega
  refine byP (fc (drZ zs) (fc tmF (fc mkF (fc ntmps255 results255)))) ?_
  exact Fi
 ·refine rG (fc hk (fc ntmps255 results255)) ?_
  refine KX (drZ zs) (hB 4 (by decide) (by decide) i hi h) ?_
  rintro ⟨v,i1,h1⟩ ⟨hv,hi1⟩
  simp only at hv hi1
  by_cases v0:v=0
  ·refine rG (fc (drZ zs) (fc (eq_true v0) (fc hs (fc hin (fc ntmps255 results255))))) ?_
   refine KX (drZ zs) (hgB i1 hi1 h1) ?_
   rintro ⟨x,jb,kb⟩ ⟨hx,hjb⟩
   simp only at hx hjb
   refine rG (drZ zs) ?_
   refine AX 5 rfl ?_
   refine byQ ?_
   refine KR (Zp ⟨#[33]⟩ x (by omega)) ?_
   refine rG (fc (drZ zs) (fc tmF (fc mkF (fc ntmps255 results255)))) ?_
   refine ⟨.inl rfl,(tOp ⟨#[33]⟩ [x],jb,kb),⟨?_,hjb⟩, ?_⟩
   ·show szL (tmC _)≤_
    rw [Wd]
    rw [IY]
    have:(⟨#[33]⟩:ByteArray).size=1:=rfl
    simp only [List.length_cons,List.length_nil]
    omega
   refine byP (fc (drZ zs) (fc tmF (fc mkF (fc ntmps255 results255)))) ?_
   exact Fi
  by_cases v1:v=1
  ·refine rG (fc (drZ zs) (fc v0 (fc (eq_true v1) (fc ntmps255 results255)))) ?_
   refine DQ 4 rfl rfl ?_
   refine Cr [5,7,8,12,14,15] (oT [0,3,4,6,10,11,13] (oF [1,2,9,16,17,18,19] .nil)) (by kernel_rfl) AG (by kernel_rfl) ?_ ?_
   ·exact byP (fc prF (fc hs hin)) tI
   refine rG (fc prF (fc hs (fc hin (fc ntmps255 results255)))) ?_
   refine EB 5 rfl ?_
   refine byQ ?_
   refine Ay (hP2 i1 hi1 h1) rfl rfl rfl (byP (drZ zs) tI) (byP (drZ zs) tI) (byP (drZ zs) tI) rfl ?_
   rintro ⟨s,ja,ka⟩ ⟨hsm,hja⟩
   simp only at hsm hja
   have s1:s.size≤1:=by
    simp only [List.mem_cons,List.not_mem_nil,or_false] at hsm
    rcases hsm with rfl | rfl <;> decide
   refine rG (drZ zs) ?_
   refine Ay (hgB ja hja ka) rfl rfl rfl (byP (drZ zs) tI) (byP (drZ zs) tI) (byP (drZ zs) tI) rfl ?_
   rintro ⟨x,jb,kb⟩ ⟨hx,hjb⟩
   simp only at hx hjb
   refine rG (drZ zs) ?_
   refine Ay (hgB jb hjb kb) rfl rfl rfl (byP (drZ zs) tI) (byP (drZ zs) tI) (byP (drZ zs) tI) rfl ?_
   rintro ⟨y,jc,kc⟩ ⟨hy,hjc⟩
   simp only at hy hjc
   refine rG (drZ zs) ?_
   refine EB 6 rfl ?_
   refine byQ ?_
   refine KB (MJ s x y (by omega) (by omega)) ?_
   refine rG (fc (drZ zs) (fc tmF (fc mkF (fc ntmps255 results255)))) ?_
   refine ⟨.inl rfl,(tOp s [x,y],jc,kc),⟨?_,hjc⟩, ?_⟩
   ·show szL (tmC _)≤_
    rw [Wd]
    rw [Qv,Ah]
    simp only [List.length_cons,List.length_nil]
    omega
   refine byP (fc (drZ zs) (fc tmF (fc mkF (fc ntmps255 results255)))) ?_
   exact Fi
  ·refine rG (fc (drZ zs) (fc v0 (fc v1 (fc ntmps255 results255)))) ?_
   refine DQ 3 rfl rfl ?_
   refine Cr [5,7,8,12,14,15] (oT [0,3,4,6,10,11,13] (oF [1,2,9,16,17,18,19] .nil)) (by kernel_rfl) AG (by kernel_rfl) ?_ ?_
   ·exact byP (fc prF (fc hs hin)) tI
   refine rG (fc prF (fc hs (fc hin (fc ntmps255 results255)))) ?_
   refine EB 5 rfl ?_
   refine byQ ?_
   refine Ay (hPe i1 hi1 h1) rfl rfl rfl (byP (drZ zs) tI) (byP (drZ zs) tI) (byP (drZ zs) tI) rfl ?_
   rintro ⟨s,ja,ka⟩ ⟨hsm,hja⟩
   simp only at hsm hja
   have s1:s.size≤1:=by
    simp only [List.mem_cons,List.not_mem_nil,or_false] at hsm
    rcases hsm with rfl | rfl <;> decide
   refine rG (drZ zs) ?_
   refine Ay (hgI ja hja ka) rfl rfl rfl (byP (drZ zs) tI) (byP (drZ zs) tI) (byP (drZ zs) tI) rfl ?_
   rintro ⟨x,jb,kb⟩ ⟨hx,hjb⟩
   simp only at hx hjb
   refine rG (drZ zs) ?_
   refine Ay (hgI jb hjb kb) rfl rfl rfl (byP (drZ zs) tI) (byP (drZ zs) tI) (byP (drZ zs) tI) rfl ?_
   rintro ⟨y,jc,kc⟩ ⟨hy,hjc⟩
   simp only at hy hjc
   refine rG (drZ zs) ?_
   refine EB 6 rfl ?_
   refine byQ ?_
   refine KB (MJ s x y (by omega) (by omega)) ?_
   refine rG (fc (drZ zs) (fc tmF (fc mkF (fc ntmps255 results255)))) ?_
   refine ⟨.inl rfl,(tOp s [x,y],jc,kc),⟨?_,hjc⟩, ?_⟩
   ·show szL (tmC _)≤_
    rw [Wd]
    rw [Qv,Ah]
    simp only [List.length_cons,List.length_nil]
    omega
   refine byP (fc (drZ zs) (fc tmF (fc mkF (fc ntmps255 results255)))) ?_
   exact Fi
set_option maxHeartbeats 16000000 in
theorem WV (zs:List Int) (hz:CT zs) (d:Nat) (hd:d≤5) (hG:aEr zs d) (ctx:List Tg) (t:Ty) (n:Int) (i:Nat) (h:Int) (hc:Cx (39-d) ctx) (hf:BE t=true) (ht:tsz t+(d+1)≤20) (hn0:0≤n) (hn:n+(d+1)≤1000) (hi:i≤zs.length):Bz prog 254 [.p (AK zs i h),.b (.one (.rows 4 ctx.length (flC tgC ctx))),.b (.ag [.int t.kind,.rows 2 t.args.length (Ai t.args)]),.b (.one (.int n)),.b (.one (.int ((d:Int)+1)))] (tmI zs (gsz (tsz t) (d+1))) (tmO zs) KZ:=by
 have hB:=fun n hn hn2 i hi h=>BA zs hz n hn hn2 i hi h
 have hs:(d:Int)+1-1=(d:Int):=by omega
 have hin:inI (d:Int):=by unfold inI;omega
 have g0:=Zj (tsz t) d
 have g1:=Xa (tsz t) d
 have g2:=TQ d
 have g3:=LM (Nat.zero_le (tsz t)) d
 have g5:=aDL (tsz t) 1 d
 have g6:gsz 2 d=gsz 0 d+2 * 4 ^ d:=aDL 0 2 d
 have g7:=ND (tsz t) d (by omega) (by omega)
 have g8:=ND 2 d (by omega) (by omega)
 have g9:=ND (tsz t+1) d (by omega) (by omega)
 have g10:=aAx (tsz t) d
 have z2:tsz gB=0:=rfl
 have hzt:szL (tyC t)=tsz t:=rfl
 have hCC:tsz (gC t)=tsz t+1:=by unfold tsz;rw [aJt];omega
 have hc1:Cx (40-d) ctx:=hc.mono (by omega)
 have hgB:∀ (i:Nat),i≤zs.length→∀ h:Int,Bz prog 205 [.p (AK zs i h),.b (.one (.rows 4 ctx.length (flC tgC ctx))),.b (.ag [.int 2,.rows 2 0 []]),.b (.one (.int n)),.b (.one (.int d))] (tmI zs (gsz 0 d)) (tmO zs) KZ:=fun i hi h=>hG ctx gB n i h hc1 (by decide) (by rw [z2];omega) hn0 (by omega) hi
 have hgT:=fun i hi h=>hG ctx t n i h hc1 hf (by omega) hn0 (by omega) hi
 have cB:Bc prog 202 [] [] [.ag [.r (.int 2),.r (.rows 2 0 [])]]:=OK
 have hP3:∀ (i:Nat),i≤zs.length→∀ h:Int,Bz prog 145 [.p (AK zs i h),.b (.one (.rows 1 3 [.str ⟨#[120]⟩,.str ⟨#[121]⟩,.str ⟨#[122]⟩]))] (txI zs [⟨#[120]⟩,⟨#[121]⟩,⟨#[122]⟩]) (txO zs) txR:=fun i hi h=>CK zs hz [⟨#[120]⟩,⟨#[121]⟩,⟨#[122]⟩] (by decide) (by decide) i hi h
 refine AL [0,1,2,3,4,5,6,7,8,9,10,11,12] func254 rfl rfl (by simp [ntmps254]) (fun _ _=>rfl) ?_
 refine byP (fc (drZ zs) (fc ntmps254 results254)) ?_
 refine AX 3 rfl ?_
 refine byQ ?_
 refine KX (drZ zs) (hP3 i hi h) ?_
 rintro ⟨s,j1,q1⟩ ⟨hsm,hj1⟩
 simp only at hsm hj1
 have s1:s.size≤1:=by
  simp only [List.mem_cons,List.not_mem_nil,or_false] at hsm
  rcases hsm with rfl | rfl | rfl <;> decide
 refine rG (drZ zs) ?_
 refine KX (drZ zs) (hB 5 (by decide) (by decide) j1 hj1 q1) ?_
 rintro ⟨v,j2,q2⟩ ⟨hv,hj2⟩
 simp only at hv hj2
 by_cases v0:v=0
 ·refine rG (fc (drZ zs) (fc (eq_true v0) (fc ntmps254 results254))) ?_
  refine DQ 1 rfl rfl ?_
  refine Cr [4,5,9,11,12,16,18,19] (oT [0,1,3,7,8,10,14,15,17] (oF [2,6,13,20,21,22,23] .nil)) (by kernel_rfl) AG (by kernel_rfl) ?_ ?_
  ·exact byP (fc prF (fc hs hin)) tI
  refine rG (fc prF (fc hs (fc hin (fc ntmps254 results254)))) ?_
  refine KB cB ?_
  refine rQ ?_
  refine Ay (hgB j2 hj2 q2) rfl rfl rfl (byP (drZ zs) tI) (byP (drZ zs) tI) (byP (drZ zs) tI) rfl ?_
  rintro ⟨x,j3,q3⟩ ⟨hx,hj3⟩
  simp only at hx hj3
  refine rG (drZ zs) ?_
  refine Ay (hgT j3 hj3 q3) rfl rfl rfl (byP (drZ zs) tI) (byP (drZ zs) tI) (byP (drZ zs) tI) rfl ?_
  rintro ⟨y,j4,q4⟩ ⟨hy,hj4⟩
  simp only at hy hj4
  refine rG (drZ zs) ?_
  refine Ay (hgT j4 hj4 q4) rfl rfl rfl (byP (drZ zs) tI) (byP (drZ zs) tI) (byP (drZ zs) tI) rfl ?_
  rintro ⟨z,j5,q5⟩ ⟨hz,hj5⟩
  simp only at hz hj5
  refine rG (drZ zs) ?_
  refine EB 4 rfl ?_
  refine byQ ?_
  refine KB (Sn 5 x y z (by omega) (by omega) (by omega)) ?_
  refine rG (fc (drZ zs) (fc tmF (fc mkF (fc ntmps254 results254)))) ?_
  refine ⟨.inl rfl,(CZ 5 [x,y,z],j5,q5),⟨?_,hj5⟩, ?_⟩
  ·show szL (tmC _)≤_
   rw [Dt]
   rw [aEA,Ah,Ah]
   simp only [List.length_cons,List.length_nil]
   omega
  refine byP (fc (drZ zs) (fc tmF (fc mkF (fc ntmps254 results254)))) ?_
  exact Fi
 have hpick:=fun i hi h=>SN zs hz n i hi h
 by_cases v1:v=1
 ·refine rG (fc (drZ zs) (fc v0 (fc (eq_true v1) (fc ntmps254 results254)))) ?_
  refine KX (drZ zs) (hpick j2 hj2 q2) ?_
  rintro ⟨u,j3,q3⟩ ⟨⟨hu1,hu2⟩,hj3⟩
  simp only at hu1 hu2 hj3
  have hu1':tsz u≤2:=hu1
  have gu:=LM hu1' d
  have hgU:=fun i hi h=>hG ctx u n i h hc1 hu2 (by omega) hn0 (by omega) hi
  have hW:=Gs ctx s u n (by have:=hc.1;omega)
  have hX:=fun i hi h=>hG (ctx++[(⟨s,u,n⟩:Tg)]) t n i h ((OW (g:=⟨s,u,n⟩) hc ⟨s1,hu2,by simp only;omega⟩).mono (by omega)) hf (by omega) hn0 (by omega) hi
  generalize ctx++[(⟨s,u,n⟩:Tg)]=ctx' at *
  refine rG (fc (drZ zs) (fc ntmps254 results254)) ?_
  refine DQ 1 rfl rfl ?_
  refine DQ 4 rfl rfl ?_
  refine Cr [3,5,6,11,14,16,17] (oT [0,1,2,4,8,9,10,12,15] (oF [7,13,18,19,20] .nil)) (by kernel_rfl) AG (by kernel_rfl) ?_ ?_
  ·exact byP (fc prF (fc hs hin)) tI
  refine rG (fc prF (fc hs (fc hin (fc ntmps254 results254)))) ?_
  refine Ay (hgU j3 hj3 q3) rfl rfl rfl (byP (drZ zs) tI) (byP (drZ zs) tI) (byP (drZ zs) tI) rfl ?_
  rintro ⟨x,j4,q4⟩ ⟨hx,hj4⟩
  simp only at hx hj4
  refine rG (drZ zs) ?_
  refine KB hW ?_
  refine rQ ?_
  refine Ay (hX j4 hj4 q4) rfl rfl rfl (byP (drZ zs) tI) (byP (drZ zs) tI) (byP (drZ zs) tI) rfl ?_
  rintro ⟨y,j5,q5⟩ ⟨hy,hj5⟩
  simp only at hy hj5
  refine rG (drZ zs) ?_
  refine Bq (cap:=[]) (Wx s x y (by omega) (by omega)) rfl rfl rfl (byP (Ak) tI) ?_
  refine rG (fc (drZ zs) (fc tmF (fc mkF (fc ntmps254 results254)))) ?_
  refine ⟨.inl rfl,(aDb s x y,j5,q5),⟨?_,hj5⟩, ?_⟩
  ·show szL (tmC _)≤_
   rw [aBT]
   omega
  refine byP (fc (drZ zs) (fc tmF (fc mkF (fc ntmps254 results254)))) ?_
  exact Fi
 by_cases v2:v=2
 ·refine rG (fc (drZ zs) (fc v0 (fc v1 (fc (eq_true v2) (fc ntmps254 results254))))) ?_
  refine KX (drZ zs) (hpick j2 hj2 q2) ?_
  rintro ⟨u,j3,q3⟩ ⟨⟨hu1,hu2⟩,hj3⟩
  simp only at hu1 hu2 hj3
  have hu1':tsz u≤2:=hu1
  have hu3:szL (tyC u)=tsz u:=rfl
  have gu:=LM hu1' d
  have hgU:=fun i hi h=>hG ctx u n i h hc1 hu2 (by omega) hn0 (by omega) hi
  have hW:=Gs ctx s u n (by have:=hc.1;omega)
  have hX:=fun i hi h=>hG (ctx++[(⟨s,u,n⟩:Tg)]) t n i h ((OW (g:=⟨s,u,n⟩) hc ⟨s1,hu2,by simp only;omega⟩).mono (by omega)) hf (by omega) hn0 (by omega) hi
  generalize ctx++[(⟨s,u,n⟩:Tg)]=ctx' at *
  refine rG (fc (drZ zs) (fc ntmps254 results254)) ?_
  refine DQ 1 rfl rfl ?_
  refine DQ 4 rfl rfl ?_
  refine Cr [1,5,8,10,11,16,18,19] (oT [0,2,3,4,6,9,14,15,17] (oF [7,12,13,20,21,22,23] .nil)) (by kernel_rfl) AG (by kernel_rfl) ?_ ?_
  ·exact byP (fc prF (fc hs hin)) tI
  refine rG (fc prF (fc hs (fc hin (fc ntmps254 results254)))) ?_
  refine KB hW ?_
  refine rQ ?_
  refine Ay (hX j3 hj3 q3) rfl rfl rfl (byP (drZ zs) tI) (byP (drZ zs) tI) (byP (drZ zs) tI) rfl ?_
  rintro ⟨x,j4,q4⟩ ⟨hx,hj4⟩
  simp only at hx hj4
  refine rG (drZ zs) ?_
  have hLam:=HL s u x (by omega) (by omega)
  have hls:=Pe s u x
  generalize hlm:Um s u x=xl at *
  refine Bq (cap:=[]) (hLam) rfl rfl rfl (byP (Ak) tI) ?_
  refine rG (drZ zs) ?_
  refine Ay (hgU j4 hj4 q4) rfl rfl rfl (byP (drZ zs) tI) (byP (drZ zs) tI) (byP (drZ zs) tI) rfl ?_
  rintro ⟨y,j5,q5⟩ ⟨hy,hj5⟩
  simp only at hy hj5
  refine rG (drZ zs) ?_
  refine EB 5 rfl ?_
  refine byQ ?_
  refine KB (SB 7 xl y (by omega) (by omega)) ?_
  refine rG (fc (drZ zs) (fc tmF (fc mkF (fc ntmps254 results254)))) ?_
  refine ⟨.inl rfl,(CZ 7 [xl,y],j5,q5),⟨?_,hj5⟩, ?_⟩
  ·show szL (tmC _)≤_
   rw [Dt]
   rw [Qv,Ah]
   simp only [List.length_cons,List.length_nil]
   omega
  refine byP (fc (drZ zs) (fc tmF (fc mkF (fc ntmps254 results254)))) ?_
  exact Fi
 have hsm9:=Gk zs hz (tsz t) t (Nat.le_refl _) (by omega) hf n hn0 (by omega)
 have n1:inI (n-1):=by unfold inI;omega
 by_cases v3:v=3
 ·have hM:=NR (tsz t) t (Nat.le_refl _) (by omega) hf
  have hmb:=NA (tsz t) t (Nat.le_refl _) hf
  have hmi:inI (n+(GD t:Int)):=by unfold inI;omega
  refine rG (fc (drZ zs) (fc v0 (fc v1 (fc v2 (fc (eq_true v3) (fc ntmps254 results254)))))) ?_
  refine Kc hM ?_
  by_cases hlt:n+(GD t:Int)<2
  ·have hS:=RT ctx n hc1 (by omega)
   have hX:=fun i hi h=>hG (Bp ctx n ctx.length) (gC t) n i h (Zh hc1 n) (by rw [Ul];exact hf) (by omega) hn0 (by omega) hi
   rw [hCC,show (gC t).kind=4 from rfl,show (gC t).args=[t] from rfl] at hX
   have hcc:=Il t (by omega)
   rw [show tyZ (gC t) = .ag [.r (.int 4),.r (.rows 2 1 (Ai [t]))] from rfl] at hcc
   generalize Bp ctx n ctx.length=ctx' at *
   refine rG (fc hmi (eq_true hlt)) ?_
   refine Ac (oT [0,1,2,4,6,7,8] (oF [3,5,9,10,11,12] .nil)) (by kernel_rfl) AG (by kernel_rfl) ?_
   refine rG (fc hs hin) ?_
   refine KB hS ?_
   refine rG (fc hs hin) ?_
   refine KB hcc ?_
   refine rG (fc hs (fc hin (drZ zs))) ?_
   refine Ay (hX j2 hj2 q2) rfl rfl rfl (byP (drZ zs) tI) (byP (drZ zs) tI) (byP (drZ zs) tI) rfl ?_
   rintro ⟨x,j3,q3⟩ ⟨hx,hj3⟩
   simp only at hx hj3
   refine rG (drZ zs) ?_
   refine EB 4 rfl ?_
   refine byQ ?_
   refine KB (CH 12 x (by omega)) ?_
   refine rG (fc (drZ zs) (fc tmF (fc mkF (fc ntmps254 results254)))) ?_
   refine ⟨.inl rfl,(CZ 12 [x],j3,q3),⟨?_,hj3⟩, ?_⟩
   ·show szL (tmC _)≤_
    rw [Dt]
    rw [IY]
    simp only [List.length_cons,List.length_nil]
    omega
   refine byP (fc (drZ zs) (fc tmF (fc mkF (fc ntmps254 results254)))) ?_
   exact Fi
  ·refine rG (fc hmi (fc hlt (fc ntmps254 results254))) ?_
   by_cases hnp:0<n
   ·have hX:=fun i hi h=>hG ctx (gC t) (n-1) i h hc1 (by rw [Ul];exact hf) (by omega) (by omega) (by omega) hi
    rw [hCC,show (gC t).kind=4 from rfl,show (gC t).args=[t] from rfl] at hX
    have hcc:=Il t (by omega)
    rw [show tyZ (gC t) = .ag [.r (.int 4),.r (.rows 2 1 (Ai [t]))] from rfl] at hcc
    refine byP (fc hnp (fc n1 (fc hs hin))) ?_
    refine KR hcc ?_
    refine rG (fc hs (fc hin (fc n1 (drZ zs)))) ?_
    refine KX (drZ zs) (hX j2 hj2 q2) ?_
    rintro ⟨x,j3,q3⟩ ⟨hx,hj3⟩
    simp only at hx hj3
    refine rG (drZ zs) ?_
    refine AX 4 rfl ?_
    refine byQ ?_
    refine KR (CH 11 x (by omega)) ?_
    refine rG (fc (drZ zs) (fc tmF (fc mkF (fc ntmps254 results254)))) ?_
    refine ⟨.inl rfl,(CZ 11 [x],j3,q3),⟨?_,hj3⟩, ?_⟩
    ·show szL (tmC _)≤_
     rw [Dt]
     rw [IY]
     simp only [List.length_cons,List.length_nil]
     omega
    refine byP (fc (drZ zs) (fc tmF (fc mkF (fc ntmps254 results254)))) ?_
    exact Fi
   ·refine byP (fc hnp (drZ zs)) ?_
    refine KX (drZ zs) (hsm9 j2 hj2 q2) ?_
    rintro ⟨x,j3,q3⟩ ⟨hx,hj3⟩
    simp only at hx hj3
    refine rG (fc (drZ zs) (fc ntmps254 results254)) ?_
    refine ⟨.inl rfl,(x,j3,q3),⟨by show szL (tmC x)≤_;omega,hj3⟩, ?_⟩
    refine byP (fc (drZ zs) (fc tmF (fc mkF (fc ntmps254 results254)))) ?_
    exact Fi
 ·refine rG (fc (drZ zs) (fc v0 (fc v1 (fc v2 (fc v3 (fc ntmps254 results254)))))) ?_
  by_cases hnp:0<n
  ·have hX:=fun i hi h=>hG ctx (gC t) (n-1) i h hc1 (by rw [Ul];exact hf) (by omega) (by omega) (by omega) hi
   rw [hCC,show (gC t).kind=4 from rfl,show (gC t).args=[t] from rfl] at hX
   have hcc:=Il t (by omega)
   rw [show tyZ (gC t) = .ag [.r (.int 4),.r (.rows 2 1 (Ai [t]))] from rfl] at hcc
   refine byP (fc hnp (fc n1 (fc hs hin))) ?_
   refine KR hcc ?_
   refine rG (fc hs (fc hin (fc n1 (drZ zs)))) ?_
   refine KX (drZ zs) (hX j2 hj2 q2) ?_
   rintro ⟨x,j3,q3⟩ ⟨hx,hj3⟩
   simp only at hx hj3
   refine rG (drZ zs) ?_
   refine AX 4 rfl ?_
   refine byQ ?_
   refine KR (CH 11 x (by omega)) ?_
   refine rG (fc (drZ zs) (fc tmF (fc mkF (fc ntmps254 results254)))) ?_
   refine ⟨.inl rfl,(CZ 11 [x],j3,q3),⟨?_,hj3⟩, ?_⟩
   ·show szL (tmC _)≤_
    rw [Dt]
    rw [IY]
    simp only [List.length_cons,List.length_nil]
    omega
   refine byP (fc (drZ zs) (fc tmF (fc mkF (fc ntmps254 results254)))) ?_
   exact Fi
  ·refine byP (fc hnp (drZ zs)) ?_
   refine KX (drZ zs) (hsm9 j2 hj2 q2) ?_
   rintro ⟨x,j3,q3⟩ ⟨hx,hj3⟩
   simp only at hx hj3
   refine rG (fc (drZ zs) (fc ntmps254 results254)) ?_
   refine ⟨.inl rfl,(x,j3,q3),⟨by show szL (tmC x)≤_;omega,hj3⟩, ?_⟩
   refine byP (fc (drZ zs) (fc tmF (fc mkF (fc ntmps254 results254)))) ?_
   exact Fi
set_option maxHeartbeats 16000000 in
theorem Ot (zs:List Int) (hz:CT zs) (d:Int) (hd:d<2) (dn:Nat) (ctx:List Tg) (t:Ty) (n:Int) (i:Nat) (h:Int) (hc:Cx 40 ctx) (hf:BE t=true) (ht:tsz t+dn≤20) (hn0:0≤n) (hn:n+dn≤1000) (hi:i≤zs.length):Bz prog 205 [.p (AK zs i h),.b (.one (.rows 4 ctx.length (flC tgC ctx))),.b (.ag [.int t.kind,.rows 2 t.args.length (Ai t.args)]),.b (.one (.int n)),.b (.one (.int d))] (tmI zs (gsz (tsz t) dn)) (tmO zs) KZ:=by
 have hO3:=fun i hi h=>CX zs hz 3 (by decide) (by decide) i hi h
 have hO4:=fun i hi h=>CX zs hz 4 (by decide) (by decide) i hi h
 have hzt:szL (tyC t)=tsz t:=rfl
 have hsm9:=Gk zs hz (tsz t) t (Nat.le_refl _) (by omega) hf n hn0 (by omega)
 have g7:=Xa (tsz t) dn
 have g2:=TQ dn
 have g10:=aAx (tsz t) dn
 have hKn:=fun i hi h=>Ld zs hz 40 ctx t n (hc.mono (by omega)) (by omega) (by omega) i hi h
 refine AL [0,1,2,3,4,5,6,7,8,9,10,11,12] func205 rfl rfl (by simp [ntmps205]) (fun _ _=>rfl) ?_
 refine byP (fc (drZ zs) (fc ntmps205 results205)) ?_
 refine KX (drZ zs) (hO3 i hi h) ?_
 rintro ⟨b1,j1,q1⟩ hj1
 have hj1':j1≤zs.length:=hj1
 cases b1
 ·refine rG (drZ zs) ?_
  refine KX (drZ zs) (hKn j1 hj1' q1) ?_
  rintro ⟨e,ok,j2,q2⟩ ⟨he,hj2⟩
  simp only at he hj2
  cases ok
  ·refine rG (fc (knF zs) (fc (drZ zs) (fc (eq_true hd) (fc ntmps205 results205)))) ?_
   refine KX (drZ zs) (hsm9 j2 hj2 q2) ?_
   rintro ⟨x,j3,q3⟩ ⟨hx,hj3⟩
   simp only at hx hj3
   refine rG (fc (drZ zs) (fc ntmps205 results205)) ?_
   refine ⟨.inl rfl,(x,j3,q3),⟨by show szL (tmC x)≤_;omega,hj3⟩, ?_⟩
   refine byP (fc (drZ zs) (fc tmF (fc mkF (fc ntmps205 results205)))) ?_
   exact Fi
  ·refine rG (fc (knF zs) (fc (drZ zs) (fc ntmps205 results205))) ?_
   refine ⟨.inl rfl,(e,j2,q2),⟨by show szL (tmC e)≤_;omega,hj2⟩, ?_⟩
   refine byP (fc (drZ zs) (fc tmF (fc mkF (fc ntmps205 results205)))) ?_
   exact Fi
 ·refine rG (fc (drZ zs) (fc (eq_true hd) (fc ntmps205 results205))) ?_
  refine KX (drZ zs) (hsm9 j1 hj1' q1) ?_
  rintro ⟨x,j3,q3⟩ ⟨hx,hj3⟩
  simp only at hx hj3
  refine rG (fc (drZ zs) (fc ntmps205 results205)) ?_
  refine ⟨.inl rfl,(x,j3,q3),⟨by show szL (tmC x)≤_;omega,hj3⟩, ?_⟩
  refine byP (fc (drZ zs) (fc tmF (fc mkF (fc ntmps205 results205)))) ?_
  exact Fi
set_option maxHeartbeats 16000000 in
theorem Uw (zs:List Int) (hz:CT zs) (d:Nat) (hd:d≤4) (hG:aEr zs (d+1)) (ctx:List Tg) (t:Ty) (n:Int) (i:Nat) (h:Int) (hc:Cx (38-d) ctx) (hf:BE t=true) (ht:tsz t+(d+2)≤20) (hn0:0≤n) (hn:n+(d+2)≤1000) (hi:i≤zs.length):Bz prog 205 [.p (AK zs i h),.b (.one (.rows 4 ctx.length (flC tgC ctx))),.b (.ag [.int t.kind,.rows 2 t.args.length (Ai t.args)]),.b (.one (.int n)),.b (.one (.int ((d:Int)+2)))] (tmI zs (gsz (tsz t) (d+2))) (tmO zs) KZ:=by
 have hO3:=fun i hi h=>CX zs hz 3 (by decide) (by decide) i hi h
 have hO4:=fun i hi h=>CX zs hz 4 (by decide) (by decide) i hi h
 have hP2:∀ (i:Nat),i≤zs.length→∀ h:Int,Bz prog 145 [.p (AK zs i h),.b (.one (.rows 1 2 [.str ⟨#[120]⟩,.str ⟨#[121]⟩]))] (txI zs [⟨#[120]⟩,⟨#[121]⟩]) (txO zs) txR:=fun i hi h=>CK zs hz [⟨#[120]⟩,⟨#[121]⟩] (by decide) (by decide) i hi h
 have hzt:szL (tyC t)=tsz t:=rfl
 have hs:(d:Int)+2-1=(d:Int)+1:=by omega
 have hin:inI ((d:Int)+1):=by unfold inI;omega
 have hlt:¬ (d:Int)+2<2:=by omega
 have e2:(d:Int)+2=((d+1:Nat):Int)+1:=by omega
 have g0:gsz (tsz t) (d+2)=4 * gsz (tsz t) (d+1):=Zj (tsz t) (d+1)
 have g1:=Xa (tsz t) (d+1)
 have g2:=TQ (d+1)
 have g7:=ND (tsz t) (d+1) (by omega) (by omega)
 have g10:=aAx (tsz t) (d+1)
 have hc1:Cx (40-(d+1)) ctx:=hc.mono (by omega)
 have hBase:=fun i hi h=>TS zs hz (d+1) (by omega) hG ctx t n i h hc1 (by omega) hn0 (by omega) hi
 have hAny:=fun i hi h=>WV zs hz (d+1) (by omega) hG ctx t n i h (hc.mono (by omega)) hf (by omega) hn0 (by omega) hi
 rw [← e2] at hBase hAny
 have hKn:=fun i hi h=>Ld zs hz 40 ctx t n (hc.mono (by omega)) (by omega) (by omega) i hi h
 refine AL [0,1,2,3,4,5,6,7,8,9,10,11,12] func205 rfl rfl (by simp [ntmps205]) (fun _ _=>rfl) ?_
 refine byP (fc (drZ zs) (fc ntmps205 results205)) ?_
 refine KX (drZ zs) (hO3 i hi h) ?_
 rintro ⟨b1,j1,q1⟩ hj1
 have hj1':j1≤zs.length:=hj1
 cases b1
 ·refine rG (drZ zs) ?_
  refine KX (drZ zs) (hKn j1 hj1' q1) ?_
  rintro ⟨e,ok,j2,q2⟩ ⟨he,hj2⟩
  simp only at he hj2
  cases ok
  ·refine rG (fc (knF zs) (fc (drZ zs) (fc hlt (fc ntmps205 results205)))) ?_
   refine KX (drZ zs) (hO3 j2 hj2 q2) ?_
   rintro ⟨b2,k1,r1⟩ hk1
   have hk1':k1≤zs.length:=hk1
   cases b2
   ·rcases LJ hf with g | g | g | g
    ·refine rG (fc (drZ zs) (fc g.1 (fc ntmps205 results205))) ?_
     rw [g.1] at hBase
     refine KX (drZ zs) (hBase k1 hk1' r1) ?_
     rintro ⟨x,k2,r2⟩ ⟨hx,hk2⟩
     simp only at hx hk2
     refine rG (fc (drZ zs) (fc ntmps205 results205)) ?_
     refine ⟨.inl rfl,(x,k2,r2),⟨by show szL (tmC x)≤_;omega,hk2⟩, ?_⟩
     refine byP (fc (drZ zs) (fc tmF (fc mkF (fc ntmps205 results205)))) ?_
     exact Fi
    ·refine rG (fc (drZ zs) (fc g.1 (fc ntmps205 results205))) ?_
     rw [g.1] at hBase
     refine KX (drZ zs) (hBase k1 hk1' r1) ?_
     rintro ⟨x,k2,r2⟩ ⟨hx,hk2⟩
     simp only at hx hk2
     refine rG (fc (drZ zs) (fc ntmps205 results205)) ?_
     refine ⟨.inl rfl,(x,k2,r2),⟨by show szL (tmC x)≤_;omega,hk2⟩, ?_⟩
     refine byP (fc (drZ zs) (fc tmF (fc mkF (fc ntmps205 results205)))) ?_
     exact Fi
    ·obtain ⟨hk,hl,hf0,hf1,hsz⟩:=g
     have i0:(0:Int)<(t.args.length:Int):=by omega
     have i1:(1:Int)<(t.args.length:Int):=by omega
     have r0:=Ax t.args 0 (by omega)
     have r1':=Ax t.args 1 (by omega)
     have hza:tsz t=2+(tsz t.args[0]! + tsz t.args[1]!):=hsz
     have hza0:szL (tyC t.args[0]!)=tsz t.args[0]! := rfl
     have ga:=LM (show tsz t.args[1]! ≤ tsz t by omega) (d+1)
     refine rG (fc (drZ zs) (fc hk (fc ntmps205 results205))) ?_
     refine AX 4 rfl ?_
     refine byQ ?_
     refine KX (drZ zs) (hP2 k1 hk1' r1) ?_
     rintro ⟨s,k2,r2⟩ ⟨hsm,hk2⟩
     simp only at hsm hk2
     have s1:s.size≤1:=by
      simp only [List.mem_cons,List.not_mem_nil,or_false] at hsm
      rcases hsm with rfl | rfl <;> decide
     have hW:=Gs ctx s t.args[0]! n (by have:=hc.1;omega)
     have hX:=fun i hi h=>hG (ctx++[(⟨s,t.args[0]!,n⟩:Tg)]) t.args[1]! n i h ((OW (g:=⟨s,t.args[0]!,n⟩) hc ⟨s1,hf0,by simp only;omega⟩).mono (by omega)) hf1 (by omega) hn0 (by omega) hi
     generalize ctx++[(⟨s,t.args[0]!,n⟩:Tg)]=ctx' at *
     refine rG (fc (drZ zs) (fc hk (fc ntmps205 results205))) ?_
     refine DQ 1 rfl rfl ?_
     refine Cr [1,2,3,4,8,9,10,11,14,15,16,17] (oT [0,5,6,7,12,18,19,20] (oF [13,21,22,23] .nil)) (by kernel_rfl) AG (by kernel_rfl) ?_ ?_
     ·exact byP (fc prF (fc i0 (fc i1 (fc r0 r1')))) tI
     refine rG (fc prF (fc i0 (fc i1 (fc r0 (fc r1' (fc hs (fc hin (fc ntmps205 results205)))))))) ?_
     refine KB hW ?_
     refine rG (fc hs hin) ?_
     refine Ay (hX k2 hk2 r2) rfl rfl rfl (byP (drZ zs) tI) (byP (drZ zs) tI) (byP (drZ zs) tI) rfl ?_
     rintro ⟨x,k3,r3⟩ ⟨hx,hk3⟩
     simp only at hx hk3
     refine rG (drZ zs) ?_
     refine Bq (cap:=[]) (HL s t.args[0]! x (by omega) (by omega)) rfl rfl rfl (byP (Ak) tI) ?_
     refine rG (fc (drZ zs) (fc tmF (fc mkF (fc ntmps205 results205)))) ?_
     refine ⟨.inl rfl,(Um s t.args[0]! x,k3,r3),⟨?_,hk3⟩, ?_⟩
     ·show szL (tmC _)≤_
      rw [Pe]
      omega
     refine byP (fc (drZ zs) (fc tmF (fc mkF (fc ntmps205 results205)))) ?_
     exact Fi
    ·obtain ⟨hk,hl,hf0,hsz⟩:=g
     have i0:(0:Int)<(t.args.length:Int):=by omega
     have r0:=Ax t.args 0 (by omega)
     have hza:tsz t=1+tsz t.args[0]! := hsz
     have ga:=LM (show tsz t.args[0]! ≤ tsz t by omega) (d+1)
     have n1:inI (n+1):=by unfold inI;omega
     have hIB:=Fe t.args[0]!
     rw [Au] at hIB
     have hX:=fun i hi h=>hG ctx t.args[0]! n i h hc1 hf0 (by omega) hn0 (by omega) hi
     have hY:=fun i hi h=>hG ctx t.args[0]! (n+1) i h hc1 hf0 (by omega) (by omega) (by omega) hi
     generalize Dg t.args[0]! = bb at *
     refine rG (fc (drZ zs) (fc hk (fc i0 (fc r0 (fc ntmps205 results205))))) ?_
     refine Kc hIB ?_
     cases bb
     ·refine rG (fc i0 (fc r0 (fc n1 (fc hs hin)))) ?_
      refine KX (drZ zs) (hY k1 hk1' r1) ?_
      rintro ⟨x,k2,r2⟩ ⟨hx,hk2⟩
      simp only at hx hk2
      refine rG (drZ zs) ?_
      refine AX 4 rfl ?_
      refine byQ ?_
      refine KR (CH 10 x (by omega)) ?_
      refine rG (fc (drZ zs) (fc tmF (fc mkF (fc ntmps205 results205)))) ?_
      refine ⟨.inl rfl,(CZ 10 [x],k2,r2),⟨?_,hk2⟩, ?_⟩
      ·show szL (tmC _)≤_
       rw [Dt]
       rw [IY]
       simp only [List.length_cons,List.length_nil]
       omega
      refine byP (fc (drZ zs) (fc tmF (fc mkF (fc ntmps205 results205)))) ?_
      exact Fi
     ·refine rG (fc i0 r0) ?_
      refine KX (drZ zs) (hO4 k1 hk1' r1) ?_
      rintro ⟨b3,k4,r4⟩ hk4
      have hk4':k4≤zs.length:=hk4
      cases b3
      ·refine rG (fc (drZ zs) (fc i0 (fc r0 (fc n1 (fc hs hin))))) ?_
       refine KX (drZ zs) (hY k4 hk4' r4) ?_
       rintro ⟨x,k2,r2⟩ ⟨hx,hk2⟩
       simp only at hx hk2
       refine rG (drZ zs) ?_
       refine AX 4 rfl ?_
       refine byQ ?_
       refine KR (CH 10 x (by omega)) ?_
       refine rG (fc (drZ zs) (fc tmF (fc mkF (fc ntmps205 results205)))) ?_
       refine ⟨.inl rfl,(CZ 10 [x],k2,r2),⟨?_,hk2⟩, ?_⟩
       ·show szL (tmC _)≤_
        rw [Dt]
        rw [IY]
        simp only [List.length_cons,List.length_nil]
        omega
       refine byP (fc (drZ zs) (fc tmF (fc mkF (fc ntmps205 results205)))) ?_
       exact Fi
      ·refine rG (fc (drZ zs) (fc i0 (fc r0 (fc n1 (fc hs hin))))) ?_
       refine KX (drZ zs) (hX k4 hk4' r4) ?_
       rintro ⟨x,k2,r2⟩ ⟨hx,hk2⟩
       simp only at hx hk2
       refine rG (drZ zs) ?_
       refine AX 4 rfl ?_
       refine byQ ?_
       refine KR (CH 13 x (by omega)) ?_
       refine rG (fc (drZ zs) (fc tmF (fc mkF (fc ntmps205 results205)))) ?_
       refine ⟨.inl rfl,(CZ 13 [x],k2,r2),⟨?_,hk2⟩, ?_⟩
       ·show szL (tmC _)≤_
        rw [Dt]
        rw [IY]
        simp only [List.length_cons,List.length_nil]
        omega
       refine byP (fc (drZ zs) (fc tmF (fc mkF (fc ntmps205 results205)))) ?_
       exact Fi
   ·refine rG (fc (drZ zs) (fc ntmps205 results205)) ?_
    refine KX (drZ zs) (hAny k1 hk1' r1) ?_
    rintro ⟨x,k2,r2⟩ ⟨hx,hk2⟩
    simp only at hx hk2
    refine rG (fc (drZ zs) (fc ntmps205 results205)) ?_
    refine ⟨.inl rfl,(x,k2,r2),⟨by show szL (tmC x)≤_;omega,hk2⟩, ?_⟩
    refine byP (fc (drZ zs) (fc tmF (fc mkF (fc ntmps205 results205)))) ?_
    exact Fi
  ·refine rG (fc (knF zs) (fc (drZ zs) (fc ntmps205 results205))) ?_
   refine ⟨.inl rfl,(e,j2,q2),⟨by show szL (tmC e)≤_;omega,hj2⟩, ?_⟩
   refine byP (fc (drZ zs) (fc tmF (fc mkF (fc ntmps205 results205)))) ?_
   exact Fi
 ·refine rG (fc (drZ zs) (fc hlt (fc ntmps205 results205))) ?_
  refine KX (drZ zs) (hO3 j1 hj1' q1) ?_
  rintro ⟨b2,k1,r1⟩ hk1
  have hk1':k1≤zs.length:=hk1
  cases b2
  ·rcases LJ hf with g | g | g | g
   ·refine rG (fc (drZ zs) (fc g.1 (fc ntmps205 results205))) ?_
    rw [g.1] at hBase
    refine KX (drZ zs) (hBase k1 hk1' r1) ?_
    rintro ⟨x,k2,r2⟩ ⟨hx,hk2⟩
    simp only at hx hk2
    refine rG (fc (drZ zs) (fc ntmps205 results205)) ?_
    refine ⟨.inl rfl,(x,k2,r2),⟨by show szL (tmC x)≤_;omega,hk2⟩, ?_⟩
    refine byP (fc (drZ zs) (fc tmF (fc mkF (fc ntmps205 results205)))) ?_
    exact Fi
   ·refine rG (fc (drZ zs) (fc g.1 (fc ntmps205 results205))) ?_
    rw [g.1] at hBase
    refine KX (drZ zs) (hBase k1 hk1' r1) ?_
    rintro ⟨x,k2,r2⟩ ⟨hx,hk2⟩
    simp only at hx hk2
    refine rG (fc (drZ zs) (fc ntmps205 results205)) ?_
    refine ⟨.inl rfl,(x,k2,r2),⟨by show szL (tmC x)≤_;omega,hk2⟩, ?_⟩
    refine byP (fc (drZ zs) (fc tmF (fc mkF (fc ntmps205 results205)))) ?_
    exact Fi
   ·obtain ⟨hk,hl,hf0,hf1,hsz⟩:=g
    have i0:(0:Int)<(t.args.length:Int):=by omega
    have i1:(1:Int)<(t.args.length:Int):=by omega
    have r0:=Ax t.args 0 (by omega)
    have r1':=Ax t.args 1 (by omega)
    have hza:tsz t=2+(tsz t.args[0]! + tsz t.args[1]!):=hsz
    have hza0:szL (tyC t.args[0]!)=tsz t.args[0]! := rfl
    have ga:=LM (show tsz t.args[1]! ≤ tsz t by omega) (d+1)
    refine rG (fc (drZ zs) (fc hk (fc ntmps205 results205))) ?_
    refine AX 3 rfl ?_
    refine byQ ?_
    refine KX (drZ zs) (hP2 k1 hk1' r1) ?_
    rintro ⟨s,k2,r2⟩ ⟨hsm,hk2⟩
    simp only at hsm hk2
    have s1:s.size≤1:=by
     simp only [List.mem_cons,List.not_mem_nil,or_false] at hsm
     rcases hsm with rfl | rfl <;> decide
    have hW:=Gs ctx s t.args[0]! n (by have:=hc.1;omega)
    have hX:=fun i hi h=>hG (ctx++[(⟨s,t.args[0]!,n⟩:Tg)]) t.args[1]! n i h ((OW (g:=⟨s,t.args[0]!,n⟩) hc ⟨s1,hf0,by simp only;omega⟩).mono (by omega)) hf1 (by omega) hn0 (by omega) hi
    generalize ctx++[(⟨s,t.args[0]!,n⟩:Tg)]=ctx' at *
    refine rG (fc (drZ zs) (fc hk (fc ntmps205 results205))) ?_
    refine DQ 1 rfl rfl ?_
    refine Cr [1,2,3,4,8,9,10,11,14,15,16,17] (oT [0,5,6,7,12,18,19,20] (oF [13,21,22,23] .nil)) (by kernel_rfl) AG (by kernel_rfl) ?_ ?_
    ·exact byP (fc prF (fc i0 (fc i1 (fc r0 r1')))) tI
    refine rG (fc prF (fc i0 (fc i1 (fc r0 (fc r1' (fc hs (fc hin (fc ntmps205 results205)))))))) ?_
    refine KB hW ?_
    refine rG (fc hs hin) ?_
    refine Ay (hX k2 hk2 r2) rfl rfl rfl (byP (drZ zs) tI) (byP (drZ zs) tI) (byP (drZ zs) tI) rfl ?_
    rintro ⟨x,k3,r3⟩ ⟨hx,hk3⟩
    simp only at hx hk3
    refine rG (drZ zs) ?_
    refine Bq (cap:=[]) (HL s t.args[0]! x (by omega) (by omega)) rfl rfl rfl (byP (Ak) tI) ?_
    refine rG (fc (drZ zs) (fc tmF (fc mkF (fc ntmps205 results205)))) ?_
    refine ⟨.inl rfl,(Um s t.args[0]! x,k3,r3),⟨?_,hk3⟩, ?_⟩
    ·show szL (tmC _)≤_
     rw [Pe]
     omega
    refine byP (fc (drZ zs) (fc tmF (fc mkF (fc ntmps205 results205)))) ?_
    exact Fi
   ·obtain ⟨hk,hl,hf0,hsz⟩:=g
    have i0:(0:Int)<(t.args.length:Int):=by omega
    have r0:=Ax t.args 0 (by omega)
    have hza:tsz t=1+tsz t.args[0]! := hsz
    have ga:=LM (show tsz t.args[0]! ≤ tsz t by omega) (d+1)
    have n1:inI (n+1):=by unfold inI;omega
    have hIB:=Fe t.args[0]!
    rw [Au] at hIB
    have hX:=fun i hi h=>hG ctx t.args[0]! n i h hc1 hf0 (by omega) hn0 (by omega) hi
    have hY:=fun i hi h=>hG ctx t.args[0]! (n+1) i h hc1 hf0 (by omega) (by omega) (by omega) hi
    generalize Dg t.args[0]! = bb at *
    refine rG (fc (drZ zs) (fc hk (fc i0 (fc r0 (fc ntmps205 results205))))) ?_
    refine Kc hIB ?_
    cases bb
    ·refine rG (fc i0 (fc r0 (fc n1 (fc hs hin)))) ?_
     refine KX (drZ zs) (hY k1 hk1' r1) ?_
     rintro ⟨x,k2,r2⟩ ⟨hx,hk2⟩
     simp only at hx hk2
     refine rG (drZ zs) ?_
     refine AX 3 rfl ?_
     refine byQ ?_
     refine KR (CH 10 x (by omega)) ?_
     refine rG (fc (drZ zs) (fc tmF (fc mkF (fc ntmps205 results205)))) ?_
     refine ⟨.inl rfl,(CZ 10 [x],k2,r2),⟨?_,hk2⟩, ?_⟩
     ·show szL (tmC _)≤_
      rw [Dt]
      rw [IY]
      simp only [List.length_cons,List.length_nil]
      omega
     refine byP (fc (drZ zs) (fc tmF (fc mkF (fc ntmps205 results205)))) ?_
     exact Fi
    ·refine rG (fc i0 r0) ?_
     refine KX (drZ zs) (hO4 k1 hk1' r1) ?_
     rintro ⟨b3,k4,r4⟩ hk4
     have hk4':k4≤zs.length:=hk4
     cases b3
     ·refine rG (fc (drZ zs) (fc i0 (fc r0 (fc n1 (fc hs hin))))) ?_
      refine KX (drZ zs) (hY k4 hk4' r4) ?_
      rintro ⟨x,k2,r2⟩ ⟨hx,hk2⟩
      simp only at hx hk2
      refine rG (drZ zs) ?_
      refine AX 3 rfl ?_
      refine byQ ?_
      refine KR (CH 10 x (by omega)) ?_
      refine rG (fc (drZ zs) (fc tmF (fc mkF (fc ntmps205 results205)))) ?_
      refine ⟨.inl rfl,(CZ 10 [x],k2,r2),⟨?_,hk2⟩, ?_⟩
      ·show szL (tmC _)≤_
       rw [Dt]
       rw [IY]
       simp only [List.length_cons,List.length_nil]
       omega
      refine byP (fc (drZ zs) (fc tmF (fc mkF (fc ntmps205 results205)))) ?_
      exact Fi
     ·refine rG (fc (drZ zs) (fc i0 (fc r0 (fc n1 (fc hs hin))))) ?_
      refine KX (drZ zs) (hX k4 hk4' r4) ?_
      rintro ⟨x,k2,r2⟩ ⟨hx,hk2⟩
      simp only at hx hk2
      refine rG (drZ zs) ?_
      refine AX 3 rfl ?_
      refine byQ ?_
      refine KR (CH 13 x (by omega)) ?_
      refine rG (fc (drZ zs) (fc tmF (fc mkF (fc ntmps205 results205)))) ?_
      refine ⟨.inl rfl,(CZ 13 [x],k2,r2),⟨?_,hk2⟩, ?_⟩
      ·show szL (tmC _)≤_
       rw [Dt]
       rw [IY]
       simp only [List.length_cons,List.length_nil]
       omega
      refine byP (fc (drZ zs) (fc tmF (fc mkF (fc ntmps205 results205)))) ?_
      exact Fi
  ·refine rG (fc (drZ zs) (fc ntmps205 results205)) ?_
   refine KX (drZ zs) (hAny k1 hk1' r1) ?_
   rintro ⟨x,k2,r2⟩ ⟨hx,hk2⟩
   simp only at hx hk2
   refine rG (fc (drZ zs) (fc ntmps205 results205)) ?_
   refine ⟨.inl rfl,(x,k2,r2),⟨by show szL (tmC x)≤_;omega,hk2⟩, ?_⟩
   refine byP (fc (drZ zs) (fc tmF (fc mkF (fc ntmps205 results205)))) ?_
   exact Fi
theorem Ng (zs:List Int) (hz:CT zs):∀ d:Nat,d≤6→aEr zs d
 | 0,_=>fun ctx t n i h hc hf ht hn0 hn hi=>Ot zs hz 0 (by decide) 0 ctx t n i h hc hf ht hn0 hn hi
 | 1,_=>fun ctx t n i h hc hf ht hn0 hn hi=>Ot zs hz 1 (by decide) 1 ctx t n i h (hc.mono (by omega)) hf ht hn0 hn hi
 | d+2,hd=>fun ctx t n i h hc hf ht hn0 hn hi=>by
  have:=Uw zs hz d (by omega) (Ng zs hz (d+1) (by omega)) ctx t n i h (hc.mono (by omega)) hf ht hn0 (by omega) hi
  exact this
def rdx (s:ByteArray) (i:Nat) (b:Bool):List CD:=[.o (.str s),.o (.int i),.o (.bool b)]
def tkI (s u:ByteArray) (i:Nat) (x:Bool × Nat):Prop:=(x.1=true→x.2=i+u.size)∧(x.1=false→x.2=i)∧x.2≤s.size
def tkO (s:ByteArray) (b:Bool) (x:Bool × Nat):List (List CD):=[rdx s x.2 b]
def tkR (x:Bool × Nat):List RD:=[.one (.o (.bool x.1))]
def muI (s u:ByteArray) (i:Nat) (x:Nat × Bool):Prop:=(x.2=false→x.1=i+u.size)∧i≤x.1∧x.1≤s.size
def muO (s:ByteArray) (x:Nat × Bool):List (List CD):=[rdx s x.1 x.2]
def muR (x:Nat × Bool):List RD:=[]
def woI (s:ByteArray) (i:Nat) (x:ByteArray × Nat):Prop:=x.1.size=x.2-i∧i≤x.2∧x.2≤s.size
def woO (s:ByteArray) (b:Bool) (x:ByteArray × Nat):List (List CD):=[rdx s x.2 b]
def woR (x:ByteArray × Nat):List RD:=[.one (.o (.str x.1))]
def aGW (s:ByteArray) (i:Nat) (x:Ty × Nat × Bool):Prop:=tsz x.1≤2 * (x.2.1-i)∧i≤x.2.1∧x.2.1≤s.size
def aEo (s:ByteArray) (x:Ty × Nat × Bool):List (List CD):=[rdx s x.2.1 x.2.2]
def aE0 (x:Ty × Nat × Bool):List RD:=[tyZ x.1]
def msz (t:Tm):Nat:=szL (tmC t)
def pxI (s:ByteArray) (i c:Nat) (x:Tm × Nat × Bool):Prop:=msz x.1≤8 * (x.2.1-i)+c∧i≤x.2.1∧x.2.1≤s.size
def pxO (s:ByteArray) (x:Tm × Nat × Bool):List (List CD):=[rdx s x.2.1 x.2.2]
def pxR (x:Tm × Nat × Bool):List RD:=[tmZ x.1]
theorem pxF (s:ByteArray):(∀ i b,rdx s i b=[.o (.str s),.o (.int i),.o (.bool b)])∧(∀ b x i,tkO s b (x,i)=[rdx s i b])∧(∀ x i,tkR (x,i)=[.one (.o (.bool x))])∧(∀ i b,muO s (i,b)=[rdx s i b])∧(∀ i b,muR (i,b)=[])∧(∀ b w i,woO s b (w,i)=[rdx s i b])∧(∀ w i,woR (w,i)=[.one (.o (.str w))])∧(∀ t i b,aEo s (t,i,b)=[rdx s i b])∧(∀ t i b,aE0 (t,i,b)=[tyZ t])∧(∀ t i b,pxO s (t,i,b)=[rdx s i b])∧(∀ t i b,pxR (t,i,b)=[tmZ t]) ∧
  (∀ t,tyZ t = .ag [.r (.int t.kind),.r (.rows 2 t.args.length (Ai t.args))])∧(∀ t,tmZ t = .ag [.r (.int t.kind),.r (.str t.name),.r (.str t.other),.r (.int t.n),.r (.int t.ty.kind),.r (.rows 2 t.ty.args.length (Ai t.ty.args)),.r (.int t.res.kind),.r (.rows 2 t.res.args.length (Ai t.res.args)),.r (.rows 9 t.args.length (Av t.args))])∧(∀ k xs,(Ty.mk k xs).kind=k∧(Ty.mk k xs).args=xs)∧Ai []=[] :=
 ⟨fun _ _=>rfl,fun _ _ _=>rfl,fun _ _=>rfl,fun _ _=>rfl,fun _ _=>rfl,fun _ _ _=>rfl,fun _ _=>rfl,fun _ _ _=>rfl,fun _ _ _=>rfl,fun _ _ _=>rfl,fun _ _ _=>rfl,fun _=>rfl,fun _=>rfl,fun _ _=>⟨rfl,rfl⟩,rfl⟩
theorem Bt (u s:ByteArray) (hu:u.size≤100) (hl:s.size≤1000000) (i:Nat) (hi:i≤s.size) (b:Bool):Bz prog 280 [.p (rdx s i b),.b (.one (.str u))] (tkI s u i) (tkO s b) tkR:=by
 cases b
 ·have hin:inI ((i:Int)+(u.size:Int)):=by unfold inI;omega
  by_cases h:i+u.size≤s.size
  ·have h2:¬ (s.size:Int)<(i:Int)+(u.size:Int):=by omega
   have h3:((i:Int)+(u.size:Int)).toNat=i+u.size:=by omega
   have h4:0≤(i:Int)∧(i:Int)≤(i:Int)+(u.size:Int)∧(i:Int)+(u.size:Int)≤(s.size:Int):=by omega
   obtain ⟨h5,h6,h7⟩:=h4
   by_cases hx:s.extract i (i+u.size)=u
   ·refine AF func280 rfl rfl (by simp [ntmps280]) (fun _ _=>rfl) ?_
    refine byP (fc (pxF s) (fc ntmps280 results280)) ?_
    refine Ac (.cons 0 true (.cons 1 false (oT [2,3,4,5,9,10,12] (.fork (.alt 6 (oT [7,8,11] (.cons 13 false (oT [14,15,16,17,18,19,20,24,28,32,33,36] (.fork (.alt 21 (oT [22,23] (.fork (.alt 25 (oT [26,27] (.cons 29 false (oT [30,31,34,35,37,38] .nil))) (.alt 29 (oT [30,31,34] (.cons 25 false (oT [26,27,35,37,38] .nil))) .last)))) (.alt 25 (oT [26,27] (.fork (.alt 21 (oT [22,23] (.cons 29 false (oT [30,31,34,35,37,38] .nil))) (.alt 29 (oT [30,31,34] (.cons 21 false (oT [22,23,35,37,38] .nil))) .last)))) (.alt 29 (oT [30,31,34] (.fork (.alt 21 (oT [22,23] (.cons 25 false (oT [26,27,35,37,38] .nil))) (.alt 25 (oT [26,27] (.cons 21 false (oT [22,23,35,37,38] .nil))) .last)))) .last))))))) (.alt 13 (oT [14,15,16] (.cons 6 false (oT [7,8,11,17,18,19,20,24,28,32,33,36] (.fork (.alt 21 (oT [22,23] (.fork (.alt 25 (oT [26,27] (.cons 29 false (oT [30,31,34,35,37,38] .nil))) (.alt 29 (oT [30,31,34] (.cons 25 false (oT [26,27,35,37,38] .nil))) .last)))) (.alt 25 (oT [26,27] (.fork (.alt 21 (oT [22,23] (.cons 29 false (oT [30,31,34,35,37,38] .nil))) (.alt 29 (oT [30,31,34] (.cons 21 false (oT [22,23,35,37,38] .nil))) .last)))) (.alt 29 (oT [30,31,34] (.fork (.alt 21 (oT [22,23] (.cons 25 false (oT [26,27,35,37,38] .nil))) (.alt 25 (oT [26,27] (.cons 21 false (oT [22,23,35,37,38] .nil))) .last)))) .last))))))) .last)))))) (by kernel_rfl) Bs (by kernel_rfl) ?_
    refine rG (fc h2 (fc h3 (fc h5 (fc h6 (fc h7 (fc hin (fc hx (fc Bx (fc ntmps280 results280))))))))) ?_
    repeat' (with_reducible apply And.intro)
    all_goals
     refine ⟨.inl rfl,(true,i+u.size),⟨fun _=>rfl,fun h=>by (cases h),h⟩, ?_⟩
     refine byP (fc (pxF s) (fc Int.natCast_add (fc ntmps280 results280))) ?_
     exact Fi
   ·refine AF func280 rfl rfl (by simp [ntmps280]) (fun _ _=>rfl) ?_
    refine byP (fc (pxF s) (fc ntmps280 results280)) ?_
    refine Ac (.cons 0 true (.cons 1 false (oT [2,3,4,5,9,10,12] (.fork (.alt 6 (oT [7,8,11] (.cons 13 false (oT [14,15,16,17,18,19,20,24,28,32,33,36] (.fork (.alt 21 (oT [22,23] (.fork (.alt 25 (oT [26,27] (.cons 29 false (oT [30,31,34,35,37,38] .nil))) (.alt 29 (oT [30,31,34] (.cons 25 false (oT [26,27,35,37,38] .nil))) .last)))) (.alt 25 (oT [26,27] (.fork (.alt 21 (oT [22,23] (.cons 29 false (oT [30,31,34,35,37,38] .nil))) (.alt 29 (oT [30,31,34] (.cons 21 false (oT [22,23,35,37,38] .nil))) .last)))) (.alt 29 (oT [30,31,34] (.fork (.alt 21 (oT [22,23] (.cons 25 false (oT [26,27,35,37,38] .nil))) (.alt 25 (oT [26,27] (.cons 21 false (oT [22,23,35,37,38] .nil))) .last)))) .last))))))) (.alt 13 (oT [14,15,16] (.cons 6 false (oT [7,8,11,17,18,19,20,24,28,32,33,36] (.fork (.alt 21 (oT [22,23] (.fork (.alt 25 (oT [26,27] (.cons 29 false (oT [30,31,34,35,37,38] .nil))) (.alt 29 (oT [30,31,34] (.cons 25 false (oT [26,27,35,37,38] .nil))) .last)))) (.alt 25 (oT [26,27] (.fork (.alt 21 (oT [22,23] (.cons 29 false (oT [30,31,34,35,37,38] .nil))) (.alt 29 (oT [30,31,34] (.cons 21 false (oT [22,23,35,37,38] .nil))) .last)))) (.alt 29 (oT [30,31,34] (.fork (.alt 21 (oT [22,23] (.cons 25 false (oT [26,27,35,37,38] .nil))) (.alt 25 (oT [26,27] (.cons 21 false (oT [22,23,35,37,38] .nil))) .last)))) .last))))))) .last)))))) (by kernel_rfl) Bs (by kernel_rfl) ?_
    refine rG (fc h2 (fc h3 (fc h5 (fc h6 (fc h7 (fc hin (fc hx (fc Bx (fc ntmps280 results280))))))))) ?_
    repeat' (with_reducible apply And.intro)
    all_goals
     refine ⟨.inl rfl,(false,i),⟨fun h=>by (cases h),fun _=>rfl,hi⟩, ?_⟩
     refine byP (fc (pxF s) (fc ntmps280 results280)) ?_
     exact Fi
  ·have h2:(s.size:Int)<(i:Int)+(u.size:Int):=by omega
   refine AF func280 rfl rfl (by simp [ntmps280]) (fun _ _=>rfl) ?_
   refine byP (fc (pxF s) (fc ntmps280 results280)) ?_
   refine Ac (.cons 0 true (.cons 1 false (oT [2,3,4,5,9,10,12] (.fork (.alt 6 (oT [7,8,11] (.cons 13 false (oT [14,15,16,17,18,19,20,24,28,32,33,36] (.fork (.alt 21 (oT [22,23] (.fork (.alt 25 (oT [26,27] (.cons 29 false (oT [30,31,34,35,37,38] .nil))) (.alt 29 (oT [30,31,34] (.cons 25 false (oT [26,27,35,37,38] .nil))) .last)))) (.alt 25 (oT [26,27] (.fork (.alt 21 (oT [22,23] (.cons 29 false (oT [30,31,34,35,37,38] .nil))) (.alt 29 (oT [30,31,34] (.cons 21 false (oT [22,23,35,37,38] .nil))) .last)))) (.alt 29 (oT [30,31,34] (.fork (.alt 21 (oT [22,23] (.cons 25 false (oT [26,27,35,37,38] .nil))) (.alt 25 (oT [26,27] (.cons 21 false (oT [22,23,35,37,38] .nil))) .last)))) .last))))))) (.alt 13 (oT [14,15,16] (.cons 6 false (oT [7,8,11,17,18,19,20,24,28,32,33,36] (.fork (.alt 21 (oT [22,23] (.fork (.alt 25 (oT [26,27] (.cons 29 false (oT [30,31,34,35,37,38] .nil))) (.alt 29 (oT [30,31,34] (.cons 25 false (oT [26,27,35,37,38] .nil))) .last)))) (.alt 25 (oT [26,27] (.fork (.alt 21 (oT [22,23] (.cons 29 false (oT [30,31,34,35,37,38] .nil))) (.alt 29 (oT [30,31,34] (.cons 21 false (oT [22,23,35,37,38] .nil))) .last)))) (.alt 29 (oT [30,31,34] (.fork (.alt 21 (oT [22,23] (.cons 25 false (oT [26,27,35,37,38] .nil))) (.alt 25 (oT [26,27] (.cons 21 false (oT [22,23,35,37,38] .nil))) .last)))) .last))))))) .last)))))) (by kernel_rfl) Bs (by kernel_rfl) ?_
   refine rG (fc h2 (fc hin (fc ntmps280 results280))) ?_
   repeat' (with_reducible apply And.intro)
   all_goals
    refine ⟨.inl rfl,(false,i),⟨fun h=>by (cases h),fun _=>rfl,hi⟩, ?_⟩
    refine byP (fc (pxF s) (fc ntmps280 results280)) ?_
    exact Fi
 ·refine AF func280 rfl rfl (by simp [ntmps280]) (fun _ _=>rfl) ?_
  refine byP (fc (pxF s) (fc ntmps280 results280)) ?_
  refine Ac (.cons 0 true (.cons 1 false (oT [2,3,4,5,9,10,12] (.fork (.alt 6 (oT [7,8,11] (.cons 13 false (oT [14,15,16,17,18,19,20,24,28,32,33,36] (.fork (.alt 21 (oT [22,23] (.fork (.alt 25 (oT [26,27] (.cons 29 false (oT [30,31,34,35,37,38] .nil))) (.alt 29 (oT [30,31,34] (.cons 25 false (oT [26,27,35,37,38] .nil))) .last)))) (.alt 25 (oT [26,27] (.fork (.alt 21 (oT [22,23] (.cons 29 false (oT [30,31,34,35,37,38] .nil))) (.alt 29 (oT [30,31,34] (.cons 21 false (oT [22,23,35,37,38] .nil))) .last)))) (.alt 29 (oT [30,31,34] (.fork (.alt 21 (oT [22,23] (.cons 25 false (oT [26,27,35,37,38] .nil))) (.alt 25 (oT [26,27] (.cons 21 false (oT [22,23,35,37,38] .nil))) .last)))) .last))))))) (.alt 13 (oT [14,15,16] (.cons 6 false (oT [7,8,11,17,18,19,20,24,28,32,33,36] (.fork (.alt 21 (oT [22,23] (.fork (.alt 25 (oT [26,27] (.cons 29 false (oT [30,31,34,35,37,38] .nil))) (.alt 29 (oT [30,31,34] (.cons 25 false (oT [26,27,35,37,38] .nil))) .last)))) (.alt 25 (oT [26,27] (.fork (.alt 21 (oT [22,23] (.cons 29 false (oT [30,31,34,35,37,38] .nil))) (.alt 29 (oT [30,31,34] (.cons 21 false (oT [22,23,35,37,38] .nil))) .last)))) (.alt 29 (oT [30,31,34] (.fork (.alt 21 (oT [22,23] (.cons 25 false (oT [26,27,35,37,38] .nil))) (.alt 25 (oT [26,27] (.cons 21 false (oT [22,23,35,37,38] .nil))) .last)))) .last))))))) .last)))))) (by kernel_rfl) Bs (by kernel_rfl) ?_
  refine rG (fc ntmps280 results280) ?_
  repeat' (with_reducible apply And.intro)
  all_goals
   refine ⟨.inl rfl,(false,i),⟨fun h=>by (cases h),fun _=>rfl,hi⟩, ?_⟩
   refine byP (fc (pxF s) (fc ntmps280 results280)) ?_
   exact Fi
theorem BL (u s:ByteArray) (hu:u.size≤100) (hl:s.size≤1000000) (i:Nat) (hi:i≤s.size) (b:Bool):Bz prog 281 [.p (rdx s i b),.b (.one (.str u))] (muI s u i) (muO s) muR:=by
 cases b
 ·have hT:=Bt u s hu hl i hi false
  refine AF func281 rfl rfl (by simp [ntmps281]) (fun _ _=>rfl) ?_
  refine byP (fc (pxF s) (fc ntmps281 results281)) ?_
  refine KX (pxF s) hT ?_
  rintro ⟨x,j⟩ ⟨h1,h2,h3⟩
  simp only at h1 h2 h3
  cases x
  ·refine rG (fc (pxF s) (fc ntmps281 results281)) ?_
   refine ⟨.inr rfl,(j,true),⟨fun h=>by (cases h),by have:=h2 rfl;omega,h3⟩, ?_⟩
   refine byP (fc (pxF s) (fc ntmps281 results281)) ?_
   exact Fi
  ·refine rG (fc (pxF s) (fc ntmps281 results281)) ?_
   refine ⟨.inr rfl,(j,false),⟨fun _=>h1 rfl,by have:=h1 rfl;omega,h3⟩, ?_⟩
   refine byP (fc (pxF s) (fc ntmps281 results281)) ?_
   exact Fi
 ·refine AF func281 rfl rfl (by simp [ntmps281]) (fun _ _=>rfl) ?_
  refine byP (fc (pxF s) (fc ntmps281 results281)) ?_
  refine ⟨.inr rfl,(i,true),⟨fun h=>by (cases h),Nat.le_refl _,hi⟩, ?_⟩
  refine byP (fc (pxF s) (fc ntmps281 results281)) ?_
  exact Fi
set_option maxHeartbeats 4000000 in
theorem DH (s:ByteArray) (hl:s.size≤1000000) (i:Nat) (hi:i≤s.size) (b:Bool):Bz prog 284 [.p (rdx s i b)] (woI s i) (woO s b) woR:=by
 refine AF func284 rfl rfl (by simp [ntmps284]) (fun _ _=>rfl) ?_
 refine byP (fc (pxF s) (fc ntmps284 results284)) ?_
 refine Al (fun j:Nat=>i≤j∧j≤s.size) (fun j=>⟨84,[(3,.i i),(0,.bx 0 0)],[(0,[.s s,.i j,.b b])],[],1,[0]⟩) (fun j=>s.size-j) i id ⟨Nat.le_refl _,hi⟩ ?_ ?_
 ·exact byQ tI
 rintro j ⟨hj1,hj2⟩
 have k1:0≤(i:Int):=by omega
 have k2:(i:Int)≤(j:Int):=by omega
 have k3:0≤(j:Int):=by omega
 have k4:(j:Int)≤(s.size:Int):=by omega
 have hin:inI ((j:Int)+1):=by unfold inI;omega
 refine rG (pxF s) ?_
 refine Ac (oT [0,1,2,3,4,5,6,7,8,9,10,11,12,13,14,15,16,17,18,19,20,21,22,23,24,25,26,27,28,29,30,31,32,33,34,35,36,37,38,39,40,41,42,43,44,45,46,47,48,49,50,51,52,53,54,55,56,57] .nil) (by kernel_rfl) AD (by kernel_rfl) ?_
 by_cases hlt:(j:Int)<(s.size:Int)
 ·by_cases c1:48≤((s.data.getD j 0).toNat:Int)
  ·by_cases c2:((s.data.getD j 0).toNat:Int)≤57
   ·refine rG (fc (pxF s) (fc hlt (fc k3 (fc c1 (fc c2 (fc Bx hin)))))) ?_
    refine ⟨j+1,id,⟨by omega,by omega⟩,by omega, ?_⟩
    exact byP (fc Bx (pxF s)) tI
   ·by_cases c3:97≤((s.data.getD j 0).toNat:Int)
    ·by_cases c4:((s.data.getD j 0).toNat:Int)≤122
     ·refine rG (fc (pxF s) (fc hlt (fc k3 (fc c1 (fc c2 (fc c3 (fc c4 (fc Bx hin)))))))) ?_
      refine ⟨j+1,id,⟨by omega,by omega⟩,by omega, ?_⟩
      exact byP (fc Bx (pxF s)) tI
     ·refine rG (fc (pxF s) (fc hlt (fc k3 (fc c1 (fc c2 (fc c3 (fc c4 (fc Bx hin)))))))) ?_
      refine rG (pxF s) ?_
      refine Ac (oT [0,1,2,3,4,5,6,7,8,9,10] .nil) (by kernel_rfl) Bs (by kernel_rfl) ?_
      refine rG (fc k1 (fc k2 (fc k3 (fc k4 (fc ntmps284 results284))))) ?_
      refine ⟨.inl rfl,(s.extract i j,j),⟨by simp only [ByteArray.size_extract];omega,hj1,hj2⟩, ?_⟩
      refine byP (fc (pxF s) (fc ntmps284 results284)) ?_
      exact Fi
    ·refine rG (fc (pxF s) (fc hlt (fc k3 (fc c1 (fc c2 (fc c3 (fc Bx hin))))))) ?_
     refine rG (pxF s) ?_
     refine Ac (oT [0,1,2,3,4,5,6,7,8,9,10] .nil) (by kernel_rfl) Bs (by kernel_rfl) ?_
     refine rG (fc k1 (fc k2 (fc k3 (fc k4 (fc ntmps284 results284))))) ?_
     refine ⟨.inl rfl,(s.extract i j,j),⟨by simp only [ByteArray.size_extract];omega,hj1,hj2⟩, ?_⟩
     refine byP (fc (pxF s) (fc ntmps284 results284)) ?_
     exact Fi
  ·have c3:¬ 97≤((s.data.getD j 0).toNat:Int):=by omega
   refine rG (fc (pxF s) (fc hlt (fc k3 (fc c1 (fc c3 (fc Bx hin)))))) ?_
   refine rG (pxF s) ?_
   refine Ac (oT [0,1,2,3,4,5,6,7,8,9,10] .nil) (by kernel_rfl) Bs (by kernel_rfl) ?_
   refine rG (fc k1 (fc k2 (fc k3 (fc k4 (fc ntmps284 results284))))) ?_
   refine ⟨.inl rfl,(s.extract i j,j),⟨by simp only [ByteArray.size_extract];omega,hj1,hj2⟩, ?_⟩
   refine byP (fc (pxF s) (fc ntmps284 results284)) ?_
   exact Fi
 ·refine rG (fc (pxF s) hlt) ?_
  refine rG (pxF s) ?_
  refine Ac (oT [0,1,2,3,4,5,6,7,8,9,10] .nil) (by kernel_rfl) Bs (by kernel_rfl) ?_
  refine rG (fc k1 (fc k2 (fc k3 (fc k4 (fc ntmps284 results284))))) ?_
  refine ⟨.inl rfl,(s.extract i j,j),⟨by simp only [ByteArray.size_extract];omega,hj1,hj2⟩, ?_⟩
  refine byP (fc (pxF s) (fc ntmps284 results284)) ?_
  exact Fi
theorem aA9:tsz gI=0∧tsz gB=0∧tsz (.mk 0 [])=0:=by decide
theorem aJo (a:Ty):tsz (.mk 4 [a])=1+tsz a:=Lj 4 a
theorem aJj (a b:Ty):tsz (.mk 3 [a,b])=2+(tsz a+tsz b):=Pd 3 a b
theorem aHd (a:Ty):Ai [a]=[.int a.kind,.rows 2 a.args.length (Ai a.args)]:=by rw [Ai,Ai,Au];rfl
theorem aI4 (a b:Ty):Ai [a,b]=[.int a.kind,.rows 2 a.args.length (Ai a.args),.int b.kind,.rows 2 b.args.length (Ai b.args)]:=by rw [Ai,aHd,Au];rfl
set_option maxHeartbeats 8000000 in
theorem Iu (s:ByteArray) (hl:s.size≤1000000):∀ (d:Nat),d≤8→∀ (i:Nat),i≤s.size→∀ (b:Bool),Bz prog 287 [.p (rdx s i b),.b (.one (.int (9-(d:Int))))] (aGW s i) (aEo s) aE0
 | d,hd,i,hi,true=>by
  refine AL [0,1,2,3,4,5,6,7,8] func287 rfl rfl (by simp [ntmps287]) (fun _ _=>rfl) ?_
  refine byP (fc (pxF s) (fc ntmps287 results287)) ?_
  refine ⟨.inl rfl,((.mk 0 []),i,true),⟨by rw [show tsz _=0 from aA9.2.2];exact Nat.zero_le _,Nat.le_refl _,hi⟩, ?_⟩
  refine byP (fc (pxF s) (fc ntmps287 results287)) ?_
  exact Fi
 | 0,hd,i,hi,false=>by
  have h9:8<(9:Int)-((0:Nat):Int):=by omega
  refine AL [0,1,2,3,4,5,6,7,8] func287 rfl rfl (by simp [ntmps287]) (fun _ _=>rfl) ?_
  refine byP (fc (pxF s) (fc h9 (fc ntmps287 results287))) ?_
  refine ⟨.inl rfl,((.mk 0 []),i,true),⟨by rw [show tsz _=0 from aA9.2.2];exact Nat.zero_le _,Nat.le_refl _,hi⟩, ?_⟩
  refine byP (fc (pxF s) (fc ntmps287 results287)) ?_
  exact Fi
 | d+1,hd,i,hi,false=>by
  have ih:=Iu s hl d (by omega)
  have h9:¬ 8<(9:Int)-((d+1:Nat):Int):=by omega
  have hs:(9:Int)-((d+1:Nat):Int)+1=9-(d:Int):=by omega
  have hin:inI (9-(d:Int)):=by unfold inI;omega
  generalize (9:Int)-((d+1:Nat):Int)=dp at *
  refine AL [0,1,2,3,4,5,6,7,8] func287 rfl rfl (by simp [ntmps287]) (fun _ _=>rfl) ?_
  refine byP (fc (pxF s) (fc h9 (fc ntmps287 results287))) ?_
  refine KX (pxF s) (Bt ⟨#[73]⟩ s (by decide) hl i hi false) ?_
  rintro ⟨x1,j1⟩ ⟨t1,t2,t3⟩
  simp only at t1 t2 t3
  cases x1
  case true =>
   refine rG (pxF s) ?_
   refine Bo (Le) rfl rfl rfl (byP (pxF s) tI) (byP (pxF s) tI) (byP (pxF s) tI) ?_
   refine rG (fc (pxF s) (fc ntmps287 results287)) ?_
   refine ⟨.inl rfl,(gI,j1,false),⟨by rw [show tsz _=0 from aA9.1];exact Nat.zero_le _,by have:=t1 rfl;simp only;omega,t3⟩, ?_⟩
   refine byP (fc (pxF s) (fc ntmps287 results287)) ?_
   exact Fi
  obtain rfl:=t2 rfl
  refine rG (pxF s) ?_
  refine KX (pxF s) (Bt ⟨#[66]⟩ s (by decide) hl j1 hi false) ?_
  rintro ⟨x2,j2⟩ ⟨u1,u2,u3⟩
  simp only at u1 u2 u3
  cases x2
  case true =>
   refine rG (pxF s) ?_
   refine Bo (OK) rfl rfl rfl (byP (pxF s) tI) (byP (pxF s) tI) (byP (pxF s) tI) ?_
   refine rG (fc (pxF s) (fc ntmps287 results287)) ?_
   refine ⟨.inl rfl,(gB,j2,false),⟨by rw [show tsz _=0 from aA9.2.1];exact Nat.zero_le _,by have:=u1 rfl;simp only;omega,u3⟩, ?_⟩
   refine byP (fc (pxF s) (fc ntmps287 results287)) ?_
   exact Fi
  obtain rfl:=u2 rfl
  refine rG (pxF s) ?_
  refine KX (pxF s) (Bt ⟨#[60]⟩ s (by decide) hl j2 hi false) ?_
  rintro ⟨x3,j3⟩ ⟨v1,v2,v3⟩
  simp only at v1 v2 v3
  have hB1:(⟨#[60]⟩:ByteArray).size=1:=rfl
  have hB2:(⟨#[40]⟩:ByteArray).size=1:=rfl
  cases x3
  case true =>
   have v4:=v1 rfl
   refine rG (fc (pxF s) (fc hs hin)) ?_
   refine KX (pxF s) (ih j3 v3 false) ?_
   rintro ⟨a,j4,b4⟩ ⟨ha,q1,q2⟩
   simp only at ha q1 q2
   refine rG (pxF s) ?_
   refine KX (pxF s) (BL ⟨#[62]⟩ s (by decide) hl j4 q2 b4) ?_
   rintro ⟨j5,b5⟩ ⟨w1,w2,w3⟩
   simp only at w1 w2 w3
   refine rG (fc (pxF s) (fc ntmps287 results287)) ?_
   refine ⟨.inl rfl,(.mk 4 [a],j5,b5),⟨by show tsz (.mk 4 [a])≤_;rw [aJo];simp only;omega,by simp only;omega,w3⟩, ?_⟩
   refine byP (fc (pxF s) (fc aHd (fc ntmps287 results287))) ?_
   exact Fi
  obtain rfl:=v2 rfl
  refine rG (pxF s) ?_
  refine KX (pxF s) (BL ⟨#[40]⟩ s (by decide) hl j3 hi false) ?_
  rintro ⟨j4,b4⟩ ⟨w1,w2,w3⟩
  simp only at w1 w2 w3
  cases b4
  case true =>
   refine rG (fc (pxF s) (fc ntmps287 results287)) ?_
   refine ⟨.inl rfl,((.mk 0 []),j4,true),⟨by rw [show tsz _=0 from aA9.2.2];exact Nat.zero_le _,w2,w3⟩, ?_⟩
   refine byP (fc (pxF s) (fc ntmps287 results287)) ?_
   exact Fi
  have w4:=w1 rfl
  refine rG (fc (pxF s) (fc hs hin)) ?_
  refine KX (pxF s) (ih j4 w3 false) ?_
  rintro ⟨a,j5,b5⟩ ⟨ha,q1,q2⟩
  simp only at ha q1 q2
  refine rG (pxF s) ?_
  refine KX (pxF s) (BL ⟨#[62]⟩ s (by decide) hl j5 q2 b5) ?_
  rintro ⟨j6,b6⟩ ⟨y1,y2,y3⟩
  simp only at y1 y2 y3
  cases b6
  case true =>
   refine rG (fc (pxF s) (fc ntmps287 results287)) ?_
   refine ⟨.inl rfl,((.mk 0 []),j6,true),⟨by rw [show tsz _=0 from aA9.2.2];exact Nat.zero_le _,by simp only;omega,y3⟩, ?_⟩
   refine byP (fc (pxF s) (fc ntmps287 results287)) ?_
   exact Fi
  refine rG (fc (pxF s) (fc hs hin)) ?_
  refine KX (pxF s) (ih j6 y3 false) ?_
  rintro ⟨c,j7,b7⟩ ⟨hc,r1,r2⟩
  simp only at hc r1 r2
  refine rG (pxF s) ?_
  refine KX (pxF s) (BL ⟨#[41]⟩ s (by decide) hl j7 r2 b7) ?_
  rintro ⟨j8,b8⟩ ⟨z1,z2,z3⟩
  simp only at z1 z2 z3
  refine rG (fc (pxF s) (fc ntmps287 results287)) ?_
  refine ⟨.inl rfl,(.mk 3 [a,c],j8,b8),⟨by show tsz (.mk 3 [a,c])≤_;rw [aJj];simp only;omega,by simp only;omega,z3⟩, ?_⟩
  refine byP (fc (pxF s) (fc aI4 (fc ntmps287 results287))) ?_
  exact Fi
theorem WU (s : ByteArray) (hl : s.size ≤ 1000000) (i : Nat) (hi : i ≤ s.size) (b : Bool) : Bz prog 283 [.p (rdx s i b)] (pxI s i 0) (pxO s) pxR := by
  refine AL [0, 1, 2, 3, 4, 5, 6, 7, 8] func283 rfl rfl (by simp [ntmps283]) (fun _ _ => rfl) ?_
  refine byP (fc (pxF s) (fc ntmps283 results283)) ?_
  refine KX (pxF s) (DH s hl i hi b) ?_
  rintro ⟨w, j⟩ ⟨hw, q1, q2⟩
  simp only at hw q1 q2
  have hN := ZK w (by omega)
  generalize nsP w = r at *
  obtain ⟨n, ok⟩ := r
  simp only at hN
  refine rG (pxF s) ?_
  refine Kc hN ?_
  have fin : pxI s i 0 (.mk 2 ⟨#[]⟩ ⟨#[]⟩ n (.mk 0 []) (.mk 0 []) [], j, true) ∧ pxI s i 0 (.mk 2 ⟨#[]⟩ ⟨#[]⟩ n (.mk 0 []) (.mk 0 []) [], j, false) := ⟨⟨Nat.zero_le _, q1, q2⟩, ⟨Nat.zero_le _, q1, q2⟩⟩
  cases ok <;> cases b
  all_goals
    refine rG (pxF s) ?_
    refine KR (KQ n) ?_
    refine rG (fc (pxF s) (fc ntmps283 results283)) ?_
  all_goals first
    | (refine ⟨.inl rfl, (.mk 2 ⟨#[]⟩ ⟨#[]⟩ n (.mk 0 []) (.mk 0 []) [], j, true), fin.1, ?_⟩
       refine byP (fc (pxF s) (fc mkF (fc ntmps283 results283))) ?_
       exact Fi
       done)
    | (refine ⟨.inl rfl, (.mk 2 ⟨#[]⟩ ⟨#[]⟩ n (.mk 0 []) (.mk 0 []) [], j, false), fin.2, ?_⟩
       refine byP (fc (pxF s) (fc mkF (fc ntmps283 results283))) ?_
       exact Fi
       done)
end Go.Proofs.YtaidalilfmjfgaaGreat
