import Derived.Test.YtaidalilfmjfgaaGreatDrg
namespace Go.Proofs.YtaidalilfmjfgaaGreat
open Go.RowKit
set_option linter.unusedVariables false
set_option linter.unusedSimpArgs false
set_option maxRecDepth 20000
theorem prF:(∀ P all s,preC P all [] s=True)∧(∀ P all i l s,preC P all (i :: l) s=((((all[i]?).isSome=true∧gN ((all[i]?).getD noOper)=true)∧stbO s ((all[i]?).getD noOper)=true∧(vP P s ((all[i]?).getD noOper).op).1)∧preC P all l (s.pt ((all[i]?).getD noOper).dst (vP P s ((all[i]?).getD noOper).op).2))) ∧
  (∀ P all s,preS P all [] s=s)∧(∀ P all i l s,preS P all (i :: l) s=preS P all l (s.pt ((all[i]?).getD noOper).dst (vP P s ((all[i]?).getD noOper).op).2)) ∧
  (∀ s d x t p a g,stbO s ⟨d,.move x,t,p,a,g⟩=true)∧(∀ s d x f t0 t p a g,stbO s ⟨d,.fieldAddr t0 x f,t,p,a,g⟩=true)∧(∀ s d x t0 t p a g,stbO s ⟨d,.load t0 x,t,p,a,g⟩=match s.ev x with | .eb _ _ _=>true | _=>false)∧(∀ s d x i t0 t p a g,stbO s ⟨d,.indexAddr t0 x i,t,p,a,g⟩=match s.ev x with | .br _=>true | _=>false) ∧
  (∀ s d x y t0 t1 t p a g,stbO s ⟨d,.binOp .sub t0 x y t1,t,p,a,g⟩=match s.ev x with | .i _=>(match s.ev y with | .i _=>true | _=>false) | _=>false)∧(∀ a b:D,rowAt 2 [a,b] 0=[a,b]) :=
 ⟨fun _ _ _=>rfl,fun _ _ _ _ _=>rfl,fun _ _ _=>rfl,fun _ _ _ _ _=>rfl,fun _ _ _ _ _ _ _=>rfl,fun _ _ _ _ _ _ _ _ _=>rfl,fun _ _ _ _ _ _ _ _=>rfl,fun _ _ _ _ _ _ _ _ _=>rfl,fun _ _ _ _ _ _ _ _ _ _=>rfl,fun _ _=>rfl⟩
theorem mkF:(∀ (k:Int) (s o:ByteArray) (n:Int) (t r:Ty) (xs:List Tm),(Tm.mk k s o n t r xs).kind=k∧(Tm.mk k s o n t r xs).name=s∧(Tm.mk k s o n t r xs).other=o∧(Tm.mk k s o n t r xs).n=n∧(Tm.mk k s o n t r xs).ty=t∧(Tm.mk k s o n t r xs).res=r∧(Tm.mk k s o n t r xs).args=xs)∧ty0.kind=0∧ty0.args=[]∧e0=⟨#[]⟩∧tysC []=[]∧tmsC []=[]∧(∀ a,tmsC [a]=tmC a)∧(∀ a b,tmsC [a,b]=tmC a++tmC b)∧(∀ a b c,tmsC [a,b,c]=tmC a++(tmC b++tmC c)):=⟨fun _ _ _ _ _ _ _=>⟨rfl,rfl,rfl,rfl,rfl,rfl,rfl⟩,rfl,rfl,rfl,rfl,rfl,tmL1,tmL2,tmL3⟩
theorem tmF:(∀ k xs,tNode k xs = .mk k e0 e0 0 ty0 ty0 xs)∧(∀ s xs,tOp s xs = .mk 4 s e0 0 ty0 ty0 xs)∧(∀ s t e,tLam s t e = .mk 6 s e0 0 t ty0 [e])∧(∀ s a b,tLet s a b = .mk 8 s e0 0 ty0 ty0 [a,b]):=⟨fun _ _=>rfl,fun _ _=>rfl,fun _ _ _=>rfl,fun _ _ _=>rfl⟩
def tsz (t:Ty):Nat:=szL (tyC t)
set_option maxHeartbeats 4000000 in
theorem con_small (zs : List Int) (hz : BytOk zs) : ∀ (m : Nat) (t : Ty), szL (tyC t) ≤ m → m ≤ 1000 → formT t = true → ∀ (n : Int), 0 ≤ n → n + m ≤ 100000 → ∀ (i : Nat), i ≤ zs.length → ∀ (h : Int), ConX Tryz.prog 253 [.p (curA zs i h), .b (.ag [.int t.kind, .rows 2 t.args.length (tysC t.args)]), .b (.one (.int n))] (tmI zs (tsz t)) (tmO zs) tmZs
  | m, t, hs, hm, hf, n, hn0, hn, i, hi, h => by
    have hB := fun n hn hn2 i hi h => con_Below zs hz n hn hn2 i hi h
    refine con_runXF [0, 1, 2, 3, 4, 5, 6, 7, 8, 9] Tryz.func253 rfl rfl (by simp [Tryz.ntmps253]) (fun _ _ => rfl) ?_
    rcases g_kind hf with g | g | g | g
    · refine byP (fc (drZ zs) (fc g.1 (fc Tryz.ntmps253 Tryz.results253))) ?_
      refine sw_callXR (hB 4 (by decide) (by decide) i hi h) rfl rfl rfl (byP (drZ zs) True.intro) (byP (drZ zs) True.intro) (byP (drZ zs) True.intro) ?_
      rintro ⟨v, i1, h1⟩ ⟨hv, hi1⟩
      simp only at hv hi1
      refine sw_run 200 _ _ _ (byP (drZ zs) ?_)
      refine sw_callPR (con_intA v) rfl rfl rfl (byQ True.intro) (byQ True.intro) (byQ True.intro) ?_
      refine sw_run 200 _ _ _ (byP (fc Tryz.ntmps253 Tryz.results253) ?_)
      refine ⟨.inl rfl, (.mk 2 ⟨#[]⟩ ⟨#[]⟩ v (.mk 0 []) (.mk 0 []) [], i1, h1), ⟨Nat.zero_le _, hi1⟩, ?_⟩
      refine byP (fc (drZ zs) (fc Tryz.ntmps253 Tryz.results253)) ?_
      repeat' (with_reducible apply And.intro)
      all_goals first | exact True.intro | rfl
    · refine byP (fc (drZ zs) (fc g.1 (fc Tryz.ntmps253 Tryz.results253))) ?_
      refine sw_callXR (hB 2 (by decide) (by decide) i hi h) rfl rfl rfl (byP (drZ zs) True.intro) (byP (drZ zs) True.intro) (byP (drZ zs) True.intro) ?_
      rintro ⟨v, i1, h1⟩ ⟨hv, hi1⟩
      simp only at hv hi1
      refine sw_run 200 _ _ _ (byP (drZ zs) ?_)
      refine sw_callPR (con_boolA v) rfl rfl rfl (byQ True.intro) (byQ True.intro) (byQ True.intro) ?_
      refine sw_run 200 _ _ _ (byP (fc Tryz.ntmps253 Tryz.results253) ?_)
      refine ⟨.inl rfl, (.mk 3 ⟨#[]⟩ ⟨#[]⟩ v (.mk 0 []) (.mk 0 []) [], i1, h1), ⟨Nat.zero_le _, hi1⟩, ?_⟩
      refine byP (fc (drZ zs) (fc Tryz.ntmps253 Tryz.results253)) ?_
      repeat' (with_reducible apply And.intro)
      all_goals first | exact True.intro | rfl
    · obtain ⟨hk, hl, hf0, hf1, hsz⟩ := g
      have i0 : (0 : Int) < (t.args.length : Int) := by omega
      have i1 : (1 : Int) < (t.args.length : Int) := by omega
      have r0 := tysC_row' t.args 0 (by omega)
      have r1 := tysC_row' t.args 1 (by omega)
      cases m with
      | zero => omega
      | succ m =>
        have ih := con_small zs hz m t.args[1]! (by omega) (by omega) hf1 n hn0 (by omega) i hi h
        refine byP (fc (drZ zs) (fc hk (fc Tryz.ntmps253 Tryz.results253))) ?_
        refine sw_fzC 1 rfl rfl ?_
        refine sw_drawnS [0, 1, 2, 3, 5, 6, 7, 8] (.cons 4 true (.cons 9 true (.cons 10 false (.cons 11 false (.cons 12 false (.nil)))))) (by kernel_rfl) fQXF_panic (by kernel_rfl) ?_ ?_
        · exact byP (fc prF (fc i0 (fc i1 (fc r0 r1)))) True.intro
        refine sw_run 200 _ _ _ (byP (fc prF (fc i0 (fc i1 (fc r0 r1)))) ?_)
        refine sw_callDXR (ih) rfl rfl rfl (byP (drZ zs) True.intro) (byP (drZ zs) True.intro) (byP (drZ zs) True.intro) rfl ?_
        rintro ⟨e, j, h1⟩ ⟨he, hj⟩
        simp only [tsz] at he hj
        have hL := con_lamZ ⟨#[119]⟩ t.args[0]! e (by omega) (by omega)
        refine sw_run 200 _ _ _ (byP (drZ zs) ?_)
        refine sw_callDPB (cap := []) (hL) rfl rfl rfl (byQ True.intro) ?_
        refine sw_run 200 _ _ _ (byP (fc (drZ zs) (fc tmF (fc Tryz.ntmps253 Tryz.results253))) ?_)
        refine ⟨.inl rfl, (tLam ⟨#[119]⟩ t.args[0]! e, j, h1), ⟨?_, hj⟩, ?_⟩
        · show szL (tmC _) ≤ tsz t
          unfold tsz
          rw [sz_lam]
          have : (⟨#[119]⟩ : ByteArray).size = 1 := rfl
          omega
        refine byP (fc (drZ zs) (fc tmF (fc mkF (fc Tryz.ntmps253 Tryz.results253)))) ?_
        repeat' (with_reducible apply And.intro)
        all_goals first | exact True.intro | rfl
    · obtain ⟨hk, hl, hf0, hsz⟩ := g
      have i0 : (0 : Int) < (t.args.length : Int) := by omega
      have r0 := tysC_row' t.args 0 (by omega)
      have hin : inI (n + 1) := by unfold inI; omega
      cases m with
      | zero => omega
      | succ m =>
        have ih := con_small zs hz m t.args[0]! (by omega) (by omega) hf0 (n + 1) (by omega) (by omega) i hi h
        refine byP (fc (drZ zs) (fc hk (fc i0 (fc r0 (fc hin (fc Tryz.ntmps253 Tryz.results253)))))) ?_
        refine sw_callXR (ih) rfl rfl rfl (byP (drZ zs) True.intro) (byP (drZ zs) True.intro) (byP (drZ zs) True.intro) ?_
        rintro ⟨e, j, h1⟩ ⟨he, hj⟩
        simp only [tsz] at he hj
        refine sw_run 200 _ _ _ (byP (fc (drZ zs) (fc Tryz.ntmps253 Tryz.results253)) ?_)
        refine ⟨.inl rfl, (tNode 10 [e], j, h1), ⟨?_, hj⟩, ?_⟩
        · show szL (tmC _) ≤ tsz t
          unfold tsz
          rw [sz_node, tmL1]
          simp only [List.length_cons, List.length_nil]
          omega
        refine byP (fc (drZ zs) (fc tmF (fc mkF (fc Tryz.ntmps253 Tryz.results253)))) ?_
        repeat' (with_reducible apply And.intro)
        all_goals first | exact True.intro | rfl
def knL (l:List Tm):Prop:=∀ u ∈ l,szL (tmC u)≤1
def knI (zs:List Int) (x:Tm × Bool × Nat × Int):Prop:=szL (tmC x.1)≤1∧x.2.2.1≤zs.length
def knO (zs:List Int) (x:Tm × Bool × Nat × Int):List (List CD):=[curA zs x.2.2.1 x.2.2.2]
def knR (x:Tm × Bool × Nat × Int):List RD:=[tmZ x.1,.one (.o (.bool x.2.1))]
theorem knF (zs:List Int):(∀ e b i h,knO zs (e,b,i,h)=[curA zs i h])∧(∀ e b i h,knR (e,b,i,h)=[tmZ e,.one (.o (.bool b))]):=⟨fun _ _ _ _=>rfl,fun _ _ _ _=>rfl⟩
set_option maxHeartbeats 8000000 in
theorem con_known (zs:List Int) (hz:BytOk zs) (m:Nat) (ctx:List Tg) (t:Ty) (n:Int) (hc:Cx m ctx) (hm:m≤1000000) (ht:szL (tyC t)≤1000000) (i:Nat) (hi:i≤zs.length) (h:Int):ConX Tryz.prog 252 [.p (curA zs i h),.b (.one (.rows 4 ctx.length (flC tgC ctx))),.b (.ag [.int t.kind,.rows 2 t.args.length (tysC t.args)]),.b (.one (.int n))] (knI zs) (knO zs) knR:=by
 have hml:=hc.1
 refine con_runXF [0,1,2,3,4,5,6,7,8,9] Tryz.func252 rfl rfl (by simp [Tryz.ntmps252]) (fun _ _=>rfl) ?_
 refine byP (fc (drZ zs) (fc Tryz.ntmps252 Tryz.results252)) ?_
 refine sw_loop (fun x:Nat × List Tm=>x.1≤ctx.length∧x.2.length≤x.1∧knL x.2) (fun x=>⟨66,[(11,.i x.1),(10,.sl 3),(8,.bx 2 0),(6,.bx 1 0),(3,.i n),(1,.br (.rows 4 ctx.length (flC tgC ctx))),(0,.bx 0 0)],[(0,[.br (.rows 1 zs.length (zs.map D.byt)),.i i,.i h]),(1,[.i t.kind,.br (.rows 2 t.args.length (tysC t.args))]),(2,[.i 0,.s ⟨#[]⟩,.s ⟨#[]⟩,.i 0,.i 0,.nl 2,.i 0,.nl 2,.nl 9])],[(3,some ⟨.rows 9 x.2.length (tmsC x.2),some 29,true⟩)],4,[0]⟩) (fun x=>ctx.length-x.1) (0,[]) id ⟨Nat.zero_le _,Nat.le_refl _,fun u hu=>by cases hu⟩ ?_ ?_
 ·exact byP (fc Int.natCast_zero (fc (show tmsC []=[] from rfl) (show ([]:List Tm).length=0 from rfl))) True.intro
 rintro ⟨k,l⟩ ⟨hk,hll,hsz⟩
 simp only at hk hll hsz ⊢
 by_cases hlt:k<ctx.length
 ·have hj:(k:Int)<(ctx.length:Int):=by omega
  have hR:rowAt 4 (flC tgC ctx) k=[.str (ctx[k]!).name,.int (ctx[k]!).ty.kind,.rows 2 (ctx[k]!).ty.args.length (tysC (ctx[k]!).ty.args),.int (ctx[k]!).level]:=flC_row tgC_len ctx k hlt
  have hg:=hc.2 _ (mem_bang hlt)
  have hE:=con_EqTyS (ctx[k]!).ty t (by have:=hg.2.2;omega)
  rw [tyC_eq,tyC_eq] at hE
  have hL:Con Tryz.prog 233 [.one (.rows 4 ctx.length (flC tgC ctx)),.one (.str (ctx[k]!).name)] [.one (.int (lastTg ctx (ctx[k]!).name ctx.length))]:=con_last ctx (ctx[k]!).name (by omega)
  have hg1:=hg.1
  have hin:inI ((k:Int)+1):=by unfold inI;omega
  have hV:Con Tryz.prog 116 [.one (.str (ctx[k]!).name)] [.ag [.int 1,.str (ctx[k]!).name,.str ⟨#[]⟩,.int 0,.int 0,.rows 2 0 [],.int 0,.rows 2 0 [],.rows 9 0 []]]:=by
   have:=con_l5Var (ctx[k]!).name
   rw [tmC_eq] at this
   exact this
  generalize ctx[k]! = g at *
  generalize eqTy g.ty t=b at *
  generalize lastTg ctx g.name ctx.length=q at *
  refine sw_run 200 _ _ _ (byP hj ?_)
  refine sw_drawn (.cons 0 true (.cons 1 true (.cons 2 true (.cons 3 true (.cons 4 true (.cons 5 true (.cons 6 true (.cons 7 true (.cons 8 true (.cons 9 true (.cons 10 true (.cons 11 true (.cons 12 true (.cons 13 true (.cons 14 false (.cons 15 true (.cons 16 true (.cons 17 true (.cons 18 true (.cons 19 true (.cons 20 true (.cons 21 true (.cons 22 true (.cons 24 true (.cons 23 false (.cons 25 true (.cons 26 true (.nil)))))))))))))))))))))))))))) (by kernel_rfl) qLp_panic (by kernel_rfl) ?_
  by_cases hlv:g.level=n
  ·refine sw_run 200 _ _ _ (byP (fc hj (fc hR hlv)) ?_)
   refine sw_callD (hE) rfl (aAs_ok (byQ True.intro)) (byQ True.intro) ?_
   cases b
   ·refine sw_run 200 _ _ _ (byP (fc hj (fc hR (fc hlv hin))) ?_)
    refine ⟨(k+1,l),id,⟨by simp only;omega,by simp only;omega,hsz⟩,by simp only;omega, ?_⟩
    exact byP cast1 True.intro
   ·refine sw_run 200 _ _ _ (byP (fc hj (fc hR (fc hlv hin))) ?_)
    refine sw_callD (hL) rfl (aAs_ok (byQ True.intro)) (byQ True.intro) ?_
    by_cases hq:q=(k:Int)
    ·refine sw_run 200 _ _ _ (byP (fc hj (fc hR (fc hlv (fc (eq_true hq) hin)))) ?_)
     refine sw_call (hV) rfl (aAs_ok (byQ True.intro)) (byQ True.intro) ?_
     refine sw_run 200 _ _ _ (byQ ?_)
     have hst:tmsC (l++[.mk 1 g.name ⟨#[]⟩ 0 (.mk 0 []) (.mk 0 []) []])=tmsC l++[.int 1,.str g.name,.str ⟨#[]⟩,.int 0,.int 0,.rows 2 0 [],.int 0,.rows 2 0 [],.rows 9 0 []]:=by rw [tmsC_flat,tmsC_flat,flC_app,flC_one];rfl
     have hln:(l++[Tm.mk 1 g.name ⟨#[]⟩ 0 (.mk 0 []) (.mk 0 []) []]).length=l.length+1:=by simp
     refine ⟨⟨fun o ho=>by omega,by unfold maxLen;omega,by omega⟩,hin,(k+1,l++[.mk 1 g.name ⟨#[]⟩ 0 (.mk 0 []) (.mk 0 []) []]),rnL [(3,8)],⟨by simp only;omega,by simp only [hln];omega,fun u hu => ?_⟩,by simp only;omega, ?_⟩
     ·rcases List.mem_append.1 hu with hu | hu
      ·exact hsz u hu
      ·rw [List.mem_singleton.1 hu,tm_sz];show g.name.size+0+0+0+(0+0)≤1;omega
     ·exact byP (fc cast1 (fc hst hln)) True.intro
    ·refine sw_run 200 _ _ _ (byP (fc hj (fc hR (fc hlv (fc hq hin)))) ?_)
     refine ⟨(k+1,l),id,⟨by simp only;omega,by simp only;omega,hsz⟩,by simp only;omega, ?_⟩
     exact byP cast1 True.intro
  ·refine sw_run 200 _ _ _ (byP (fc hj (fc hR (fc hlv hin))) ?_)
   refine ⟨(k+1,l),id,⟨by simp only;omega,by simp only;omega,hsz⟩,by simp only;omega, ?_⟩
   exact byP cast1 True.intro
 ·have hj:¬ (k:Int)<(ctx.length:Int):=by omega
  by_cases hl0:l.length=0
  ·have hl00:(l.length:Int)=0:=by omega
   refine sw_run 200 _ _ _ (byP hj ?_)
   refine sw_run 200 _ _ _ ?_
   refine byP (fc hl00 (fc Tryz.ntmps252 Tryz.results252)) ?_
   refine ⟨.inl rfl,(.mk 0 ⟨#[]⟩ ⟨#[]⟩ 0 (.mk 0 []) (.mk 0 []) [],false,i,h),⟨Nat.zero_le _,hi⟩, ?_⟩
   refine byP (fc (drZ zs) (fc (knF zs) (fc Tryz.ntmps252 Tryz.results252))) ?_
   repeat' (with_reducible apply And.intro)
   all_goals first | exact True.intro | rfl
  ·have hl00:¬ (l.length:Int)=0:=by omega
   have hB:=con_Below zs hz (l.length:Int) (by omega) (by omega) i hi h
   refine sw_run 200 _ _ _ (byP hj ?_)
   refine sw_run 200 _ _ _ ?_
   refine byP (fc hl00 (fc Tryz.ntmps252 Tryz.results252)) ?_
   refine sw_fzE 3 rfl ?_
   refine byQ ?_
   refine sw_callXR (hB) rfl rfl rfl (byP (drZ zs) True.intro) (byP (drZ zs) True.intro) (byP (drZ zs) True.intro) ?_
   rintro ⟨v,i1,h1⟩ ⟨hv,hi1⟩
   simp only at hv hi1
   have hvl:v.toNat<l.length:=by omega
   have hv0:=hv.1
   have hv1:v<(l.length:Int):=by omega
   have hrow:=tmsC_row' l v.toNat hvl
   have hmem:=hsz _ (mem_bang hvl)
   generalize l[v.toNat]! = e at *
   refine sw_run 200 _ _ _ (byP (fc (drZ zs) (fc hv0 (fc hv1 (fc hrow (fc Tryz.ntmps252 Tryz.results252))))) ?_)
   refine ⟨.inl rfl,(e,true,i1,h1),⟨hmem,hi1⟩, ?_⟩
   refine byP (fc (drZ zs) (fc (knF zs) (fc Tryz.ntmps252 Tryz.results252))) ?_
   repeat' (with_reducible apply And.intro)
   all_goals first | exact True.intro | rfl
def gsz (s d:Nat):Nat:=(s+7) * 4 ^ d
theorem gsz_S (s d:Nat):gsz s (d+1)=4 * gsz s d:=by
 unfold gsz;rw [Nat.pow_succ,Nat.mul_comm 4,Nat.mul_assoc]
theorem gsz_p (d:Nat):1≤4 ^ d:=Nat.one_le_pow _ _ (by decide)
theorem gsz_7 (s d:Nat):7 * 4 ^ d≤gsz s d:=Nat.mul_le_mul_right _ (by omega)
theorem gsz_a (s k d:Nat):gsz (s+k) d=gsz s d+k * 4 ^ d:=by
 unfold gsz;rw [← Nat.add_mul];congr 1;omega
theorem gsz_m {s s':Nat} (h:s≤s') (d:Nat):gsz s d≤gsz s' d:=Nat.mul_le_mul_right _ (by omega)
theorem gsz_s (s d:Nat):s≤gsz s d:=by
 unfold gsz
 have:=Nat.mul_le_mul_left (s+7) (gsz_p d)
 omega
theorem gsz_b (s d:Nat) (h:s+d≤20) (hd:d≤6):gsz s d≤200000:=by
 have h1:4 ^ d≤4 ^ 6:=Nat.pow_le_pow_right (by decide) hd
 have h2:gsz s d≤27 * 4 ^ 6:=Nat.mul_le_mul (by omega) h1
 exact Nat.le_trans h2 (by decide)
theorem Cx.mono {m m':Nat} {ctx:List Tg} (h:Cx m ctx) (hm:m≤m'):Cx m' ctx:=⟨Nat.le_trans h.1 hm,h.2⟩
theorem form_C (t:Ty):formT (gC t)=formT t:=by
 unfold gC
 rw [formT]
 simp [formTs,shB]
theorem sz_C (t:Ty):szL (tyC (gC t))=1+szL (tyC t):=sz_one 4 t
def GenC (zs:List Int) (d:Nat):Prop:=∀ (ctx:List Tg) (t:Ty) (n:Int) (i:Nat) (h:Int),Cx (40-d) ctx→formT t=true→tsz t+d≤20→0≤n→n+d≤1000→i≤zs.length→ConX Tryz.prog 205 [.p (curA zs i h),.b (.one (.rows 4 ctx.length (flC tgC ctx))),.b (.ag [.int t.kind,.rows 2 t.args.length (tysC t.args)]),.b (.one (.int n)),.b (.one (.int d))] (tmI zs (gsz (tsz t) d)) (tmO zs) tmZs
set_option maxHeartbeats 8000000 in
theorem con_base9 (zs:List Int) (hz:BytOk zs) (d:Nat) (hd:d≤5) (hG:GenC zs d) (ctx:List Tg) (t:Ty) (n:Int) (i:Nat) (h:Int) (hc:Cx (40-d) ctx) (ht:tsz t+(d+1)≤20) (hn0:0≤n) (hn:n+d≤1000) (hi:i≤zs.length):ConX Tryz.prog 255 [.p (curA zs i h),.b (.one (.rows 4 ctx.length (flC tgC ctx))),.b (.ag [.int t.kind,.rows 2 t.args.length (tysC t.args)]),.b (.one (.int n)),.b (.one (.int ((d:Int)+1)))] (tmI zs (gsz (tsz t) (d+1))) (tmO zs) tmZs:=by
 have hB:=fun n hn hn2 i hi h=>con_Below zs hz n hn hn2 i hi h
 have hs:(d:Int)+1-1=(d:Int):=by omega
 have hin:inI (d:Int):=by unfold inI;omega
 have g0:=gsz_S (tsz t) d
 have g1:=gsz_7 (tsz t) d
 have g2:=gsz_p d
 have g3:=gsz_m (Nat.zero_le (tsz t)) d
 have g4:=gsz_b 0 d (by omega) (by omega)
 have z1:tsz gI=0:=rfl
 have z2:tsz gB=0:=rfl
 have hgI:∀ (i:Nat),i≤zs.length→∀ h:Int,ConX Tryz.prog 205 [.p (curA zs i h),.b (.one (.rows 4 ctx.length (flC tgC ctx))),.b (.ag [.int 1,.rows 2 0 []]),.b (.one (.int n)),.b (.one (.int d))] (tmI zs (gsz 0 d)) (tmO zs) tmZs:=fun i hi h=>hG ctx gI n i h hc (by decide) (by rw [z1];omega) hn0 hn hi
 have hgB:∀ (i:Nat),i≤zs.length→∀ h:Int,ConX Tryz.prog 205 [.p (curA zs i h),.b (.one (.rows 4 ctx.length (flC tgC ctx))),.b (.ag [.int 2,.rows 2 0 []]),.b (.one (.int n)),.b (.one (.int d))] (tmI zs (gsz 0 d)) (tmO zs) tmZs:=fun i hi h=>hG ctx gB n i h hc (by decide) (by rw [z2];omega) hn0 hn hi
 have cI:ConP Tryz.prog 201 [] [] [.ag [.r (.int 1),.r (.rows 2 0 [])]]:=con_gI
 have cB:ConP Tryz.prog 202 [] [] [.ag [.r (.int 2),.r (.rows 2 0 [])]]:=con_gB
 have hP4:∀ (i:Nat),i≤zs.length→∀ h:Int,ConX Tryz.prog 145 [.p (curA zs i h),.b (.one (.rows 1 4 [.str ⟨#[43]⟩,.str ⟨#[42]⟩,.str ⟨#[45]⟩,.str ⟨#[43]⟩]))] (txI zs [⟨#[43]⟩,⟨#[42]⟩,⟨#[45]⟩,⟨#[43]⟩]) (txO zs) txR:=fun i hi h=>con_Pick zs hz [⟨#[43]⟩,⟨#[42]⟩,⟨#[45]⟩,⟨#[43]⟩] (by decide) (by decide) i hi h
 have hP2:∀ (i:Nat),i≤zs.length→∀ h:Int,ConX Tryz.prog 145 [.p (curA zs i h),.b (.one (.rows 1 2 [.str ⟨#[38]⟩,.str ⟨#[124]⟩]))] (txI zs [⟨#[38]⟩,⟨#[124]⟩]) (txO zs) txR:=fun i hi h=>con_Pick zs hz [⟨#[38]⟩,⟨#[124]⟩] (by decide) (by decide) i hi h
 have hPe:∀ (i:Nat),i≤zs.length→∀ h:Int,ConX Tryz.prog 145 [.p (curA zs i h),.b (.one (.rows 1 2 [.str ⟨#[61]⟩,.str ⟨#[60]⟩]))] (txI zs [⟨#[61]⟩,⟨#[60]⟩]) (txO zs) txR:=fun i hi h=>con_Pick zs hz [⟨#[61]⟩,⟨#[60]⟩] (by decide) (by decide) i hi h
 refine con_runXF [0,1,2,3,4,5,6,7,8,9,10,11,12] Tryz.func255 rfl rfl (by simp [Tryz.ntmps255]) (fun _ _=>rfl) ?_
 refine byP (fc (drZ zs) (fc Tryz.ntmps255 Tryz.results255)) ?_
 refine sw_callPR (cI) rfl rfl rfl (byQ True.intro) (byQ True.intro) (byQ True.intro) ?_
 refine sw_run 200 _ _ _ (byP (fc (drZ zs) (fc Tryz.ntmps255 Tryz.results255)) ?_)
 refine sw_callPR (cB) rfl rfl rfl (byQ True.intro) (byQ True.intro) (byQ True.intro) ?_
 by_cases hk:t.kind=1
 ·refine sw_run 200 _ _ _ (byP (fc hk (fc Tryz.ntmps255 Tryz.results255)) ?_)
  refine sw_fzC 3 rfl rfl ?_
  refine sw_drawnS [5,7,8,12,14,15] (.cons 0 true (.cons 3 true (.cons 4 true (.cons 6 true (.cons 10 true (.cons 11 true (.cons 13 true (.cons 1 false (.cons 2 false (.cons 9 false (.cons 16 false (.cons 17 false (.cons 18 false (.cons 19 false (.nil))))))))))))))) (by kernel_rfl) fQXF_panic (by kernel_rfl) ?_ ?_
  ·exact byP (fc prF (fc hs hin)) True.intro
  refine sw_run 200 _ _ _ (byP (fc prF (fc hs (fc hin (fc Tryz.ntmps255 Tryz.results255)))) ?_)
  refine sw_fzG 5 rfl ?_
  refine byQ ?_
  refine sw_callDXR (hP4 i hi h) rfl rfl rfl (byP (drZ zs) True.intro) (byP (drZ zs) True.intro) (byP (drZ zs) True.intro) rfl ?_
  rintro ⟨s,ja,ka⟩ ⟨hsm,hja⟩
  simp only at hsm hja
  have s1:s.size≤1:=by
   simp only [List.mem_cons,List.not_mem_nil,or_false] at hsm
   rcases hsm with rfl | rfl | rfl | rfl <;> decide
  refine sw_run 200 _ _ _ (byP (drZ zs) ?_)
  refine sw_callDXR (hgI ja hja ka) rfl rfl rfl (byP (drZ zs) True.intro) (byP (drZ zs) True.intro) (byP (drZ zs) True.intro) rfl ?_
  rintro ⟨x,jb,kb⟩ ⟨hx,hjb⟩
  simp only at hx hjb
  refine sw_run 200 _ _ _ (byP (drZ zs) ?_)
  refine sw_callDXR (hgI jb hjb kb) rfl rfl rfl (byP (drZ zs) True.intro) (byP (drZ zs) True.intro) (byP (drZ zs) True.intro) rfl ?_
  rintro ⟨y,jc,kc⟩ ⟨hy,hjc⟩
  simp only at hy hjc
  refine sw_run 200 _ _ _ (byP (drZ zs) ?_)
  refine sw_fzG 6 rfl ?_
  refine byQ ?_
  refine sw_callDPB (cap:=[]) (con_op2 s x y (by omega) (by omega)) rfl rfl rfl (byQ True.intro) ?_
  refine sw_run 200 _ _ _ (byP (fc (drZ zs) (fc tmF (fc mkF (fc Tryz.ntmps255 Tryz.results255)))) ?_)
  refine ⟨.inl rfl,(tOp s [x,y],jc,kc),⟨?_,hjc⟩, ?_⟩
  ·show szL (tmC _)≤_
   rw [sz_op]
   rw [tmL2,szL_append]
   simp only [List.length_cons,List.length_nil]
   omega
  refine byP (fc (drZ zs) (fc tmF (fc mkF (fc Tryz.ntmps255 Tryz.results255)))) ?_
  repeat' (with_reducible apply And.intro)
  all_goals first | exact True.intro | rfl
 ·refine sw_run 200 _ _ _ (byP (fc hk (fc Tryz.ntmps255 Tryz.results255)) ?_)
  refine sw_callXR (hB 4 (by decide) (by decide) i hi h) rfl rfl rfl (byP (drZ zs) True.intro) (byP (drZ zs) True.intro) (byP (drZ zs) True.intro) ?_
  rintro ⟨v,i1,h1⟩ ⟨hv,hi1⟩
  simp only at hv hi1
  by_cases v0:v=0
  ·refine sw_run 200 _ _ _ (byP (fc (drZ zs) (fc (eq_true v0) (fc hs (fc hin (fc Tryz.ntmps255 Tryz.results255))))) ?_)
   refine sw_callXR (hgB i1 hi1 h1) rfl rfl rfl (byP (drZ zs) True.intro) (byP (drZ zs) True.intro) (byP (drZ zs) True.intro) ?_
   rintro ⟨x,jb,kb⟩ ⟨hx,hjb⟩
   simp only at hx hjb
   refine sw_run 200 _ _ _ (byP (drZ zs) ?_)
   refine sw_fzE 5 rfl ?_
   refine byQ ?_
   refine sw_callPR (con_op1 ⟨#[33]⟩ x (by omega)) rfl rfl rfl (byQ True.intro) (byQ True.intro) (byQ True.intro) ?_
   refine sw_run 200 _ _ _ (byP (fc (drZ zs) (fc tmF (fc mkF (fc Tryz.ntmps255 Tryz.results255)))) ?_)
   refine ⟨.inl rfl,(tOp ⟨#[33]⟩ [x],jb,kb),⟨?_,hjb⟩, ?_⟩
   ·show szL (tmC _)≤_
    rw [sz_op]
    rw [tmL1]
    have:(⟨#[33]⟩:ByteArray).size=1:=rfl
    simp only [List.length_cons,List.length_nil]
    omega
   refine byP (fc (drZ zs) (fc tmF (fc mkF (fc Tryz.ntmps255 Tryz.results255)))) ?_
   repeat' (with_reducible apply And.intro)
   all_goals first | exact True.intro | rfl
  by_cases v1:v=1
  ·refine sw_run 200 _ _ _ (byP (fc (drZ zs) (fc v0 (fc (eq_true v1) (fc Tryz.ntmps255 Tryz.results255)))) ?_)
   refine sw_fzC 4 rfl rfl ?_
   refine sw_drawnS [5,7,8,12,14,15] (.cons 0 true (.cons 3 true (.cons 4 true (.cons 6 true (.cons 10 true (.cons 11 true (.cons 13 true (.cons 1 false (.cons 2 false (.cons 9 false (.cons 16 false (.cons 17 false (.cons 18 false (.cons 19 false (.nil))))))))))))))) (by kernel_rfl) fQXF_panic (by kernel_rfl) ?_ ?_
   ·exact byP (fc prF (fc hs hin)) True.intro
   refine sw_run 200 _ _ _ (byP (fc prF (fc hs (fc hin (fc Tryz.ntmps255 Tryz.results255)))) ?_)
   refine sw_fzG 5 rfl ?_
   refine byQ ?_
   refine sw_callDXR (hP2 i1 hi1 h1) rfl rfl rfl (byP (drZ zs) True.intro) (byP (drZ zs) True.intro) (byP (drZ zs) True.intro) rfl ?_
   rintro ⟨s,ja,ka⟩ ⟨hsm,hja⟩
   simp only at hsm hja
   have s1:s.size≤1:=by
    simp only [List.mem_cons,List.not_mem_nil,or_false] at hsm
    rcases hsm with rfl | rfl <;> decide
   refine sw_run 200 _ _ _ (byP (drZ zs) ?_)
   refine sw_callDXR (hgB ja hja ka) rfl rfl rfl (byP (drZ zs) True.intro) (byP (drZ zs) True.intro) (byP (drZ zs) True.intro) rfl ?_
   rintro ⟨x,jb,kb⟩ ⟨hx,hjb⟩
   simp only at hx hjb
   refine sw_run 200 _ _ _ (byP (drZ zs) ?_)
   refine sw_callDXR (hgB jb hjb kb) rfl rfl rfl (byP (drZ zs) True.intro) (byP (drZ zs) True.intro) (byP (drZ zs) True.intro) rfl ?_
   rintro ⟨y,jc,kc⟩ ⟨hy,hjc⟩
   simp only at hy hjc
   refine sw_run 200 _ _ _ (byP (drZ zs) ?_)
   refine sw_fzG 6 rfl ?_
   refine byQ ?_
   refine sw_callDPB (cap:=[]) (con_op2 s x y (by omega) (by omega)) rfl rfl rfl (byQ True.intro) ?_
   refine sw_run 200 _ _ _ (byP (fc (drZ zs) (fc tmF (fc mkF (fc Tryz.ntmps255 Tryz.results255)))) ?_)
   refine ⟨.inl rfl,(tOp s [x,y],jc,kc),⟨?_,hjc⟩, ?_⟩
   ·show szL (tmC _)≤_
    rw [sz_op]
    rw [tmL2,szL_append]
    simp only [List.length_cons,List.length_nil]
    omega
   refine byP (fc (drZ zs) (fc tmF (fc mkF (fc Tryz.ntmps255 Tryz.results255)))) ?_
   repeat' (with_reducible apply And.intro)
   all_goals first | exact True.intro | rfl
  ·refine sw_run 200 _ _ _ (byP (fc (drZ zs) (fc v0 (fc v1 (fc Tryz.ntmps255 Tryz.results255)))) ?_)
   refine sw_fzC 3 rfl rfl ?_
   refine sw_drawnS [5,7,8,12,14,15] (.cons 0 true (.cons 3 true (.cons 4 true (.cons 6 true (.cons 10 true (.cons 11 true (.cons 13 true (.cons 1 false (.cons 2 false (.cons 9 false (.cons 16 false (.cons 17 false (.cons 18 false (.cons 19 false (.nil))))))))))))))) (by kernel_rfl) fQXF_panic (by kernel_rfl) ?_ ?_
   ·exact byP (fc prF (fc hs hin)) True.intro
   refine sw_run 200 _ _ _ (byP (fc prF (fc hs (fc hin (fc Tryz.ntmps255 Tryz.results255)))) ?_)
   refine sw_fzG 5 rfl ?_
   refine byQ ?_
   refine sw_callDXR (hPe i1 hi1 h1) rfl rfl rfl (byP (drZ zs) True.intro) (byP (drZ zs) True.intro) (byP (drZ zs) True.intro) rfl ?_
   rintro ⟨s,ja,ka⟩ ⟨hsm,hja⟩
   simp only at hsm hja
   have s1:s.size≤1:=by
    simp only [List.mem_cons,List.not_mem_nil,or_false] at hsm
    rcases hsm with rfl | rfl <;> decide
   refine sw_run 200 _ _ _ (byP (drZ zs) ?_)
   refine sw_callDXR (hgI ja hja ka) rfl rfl rfl (byP (drZ zs) True.intro) (byP (drZ zs) True.intro) (byP (drZ zs) True.intro) rfl ?_
   rintro ⟨x,jb,kb⟩ ⟨hx,hjb⟩
   simp only at hx hjb
   refine sw_run 200 _ _ _ (byP (drZ zs) ?_)
   refine sw_callDXR (hgI jb hjb kb) rfl rfl rfl (byP (drZ zs) True.intro) (byP (drZ zs) True.intro) (byP (drZ zs) True.intro) rfl ?_
   rintro ⟨y,jc,kc⟩ ⟨hy,hjc⟩
   simp only at hy hjc
   refine sw_run 200 _ _ _ (byP (drZ zs) ?_)
   refine sw_fzG 6 rfl ?_
   refine byQ ?_
   refine sw_callDPB (cap:=[]) (con_op2 s x y (by omega) (by omega)) rfl rfl rfl (byQ True.intro) ?_
   refine sw_run 200 _ _ _ (byP (fc (drZ zs) (fc tmF (fc mkF (fc Tryz.ntmps255 Tryz.results255)))) ?_)
   refine ⟨.inl rfl,(tOp s [x,y],jc,kc),⟨?_,hjc⟩, ?_⟩
   ·show szL (tmC _)≤_
    rw [sz_op]
    rw [tmL2,szL_append]
    simp only [List.length_cons,List.length_nil]
    omega
   refine byP (fc (drZ zs) (fc tmF (fc mkF (fc Tryz.ntmps255 Tryz.results255)))) ?_
   repeat' (with_reducible apply And.intro)
   all_goals first | exact True.intro | rfl
set_option maxHeartbeats 16000000 in
theorem con_any9 (zs:List Int) (hz:BytOk zs) (d:Nat) (hd:d≤5) (hG:GenC zs d) (ctx:List Tg) (t:Ty) (n:Int) (i:Nat) (h:Int) (hc:Cx (39-d) ctx) (hf:formT t=true) (ht:tsz t+(d+1)≤20) (hn0:0≤n) (hn:n+(d+1)≤1000) (hi:i≤zs.length):ConX Tryz.prog 254 [.p (curA zs i h),.b (.one (.rows 4 ctx.length (flC tgC ctx))),.b (.ag [.int t.kind,.rows 2 t.args.length (tysC t.args)]),.b (.one (.int n)),.b (.one (.int ((d:Int)+1)))] (tmI zs (gsz (tsz t) (d+1))) (tmO zs) tmZs:=by
 have hB:=fun n hn hn2 i hi h=>con_Below zs hz n hn hn2 i hi h
 have hs:(d:Int)+1-1=(d:Int):=by omega
 have hin:inI (d:Int):=by unfold inI;omega
 have g0:=gsz_S (tsz t) d
 have g1:=gsz_7 (tsz t) d
 have g2:=gsz_p d
 have g3:=gsz_m (Nat.zero_le (tsz t)) d
 have g5:=gsz_a (tsz t) 1 d
 have g6:gsz 2 d=gsz 0 d+2 * 4 ^ d:=gsz_a 0 2 d
 have g7:=gsz_b (tsz t) d (by omega) (by omega)
 have g8:=gsz_b 2 d (by omega) (by omega)
 have g9:=gsz_b (tsz t+1) d (by omega) (by omega)
 have g10:=gsz_s (tsz t) d
 have z2:tsz gB=0:=rfl
 have hzt:szL (tyC t)=tsz t:=rfl
 have hCC:tsz (gC t)=tsz t+1:=by unfold tsz;rw [sz_C];omega
 have hc1:Cx (40-d) ctx:=hc.mono (by omega)
 have hgB:∀ (i:Nat),i≤zs.length→∀ h:Int,ConX Tryz.prog 205 [.p (curA zs i h),.b (.one (.rows 4 ctx.length (flC tgC ctx))),.b (.ag [.int 2,.rows 2 0 []]),.b (.one (.int n)),.b (.one (.int d))] (tmI zs (gsz 0 d)) (tmO zs) tmZs:=fun i hi h=>hG ctx gB n i h hc1 (by decide) (by rw [z2];omega) hn0 (by omega) hi
 have hgT:=fun i hi h=>hG ctx t n i h hc1 hf (by omega) hn0 (by omega) hi
 have cB:ConP Tryz.prog 202 [] [] [.ag [.r (.int 2),.r (.rows 2 0 [])]]:=con_gB
 have hP3:∀ (i:Nat),i≤zs.length→∀ h:Int,ConX Tryz.prog 145 [.p (curA zs i h),.b (.one (.rows 1 3 [.str ⟨#[120]⟩,.str ⟨#[121]⟩,.str ⟨#[122]⟩]))] (txI zs [⟨#[120]⟩,⟨#[121]⟩,⟨#[122]⟩]) (txO zs) txR:=fun i hi h=>con_Pick zs hz [⟨#[120]⟩,⟨#[121]⟩,⟨#[122]⟩] (by decide) (by decide) i hi h
 refine con_runXF [0,1,2,3,4,5,6,7,8,9,10,11,12] Tryz.func254 rfl rfl (by simp [Tryz.ntmps254]) (fun _ _=>rfl) ?_
 refine byP (fc (drZ zs) (fc Tryz.ntmps254 Tryz.results254)) ?_
 refine sw_fzE 3 rfl ?_
 refine byQ ?_
 refine sw_callXR (hP3 i hi h) rfl rfl rfl (byP (drZ zs) True.intro) (byP (drZ zs) True.intro) (byP (drZ zs) True.intro) ?_
 rintro ⟨s,j1,q1⟩ ⟨hsm,hj1⟩
 simp only at hsm hj1
 have s1:s.size≤1:=by
  simp only [List.mem_cons,List.not_mem_nil,or_false] at hsm
  rcases hsm with rfl | rfl | rfl <;> decide
 refine sw_run 200 _ _ _ (byP (drZ zs) ?_)
 refine sw_callXR (hB 5 (by decide) (by decide) j1 hj1 q1) rfl rfl rfl (byP (drZ zs) True.intro) (byP (drZ zs) True.intro) (byP (drZ zs) True.intro) ?_
 rintro ⟨v,j2,q2⟩ ⟨hv,hj2⟩
 simp only at hv hj2
 by_cases v0:v=0
 ·refine sw_run 200 _ _ _ (byP (fc (drZ zs) (fc (eq_true v0) (fc Tryz.ntmps254 Tryz.results254))) ?_)
  refine sw_fzC 1 rfl rfl ?_
  refine sw_drawnS [4,5,9,11,12,16,18,19] (.cons 0 true (.cons 1 true (.cons 3 true (.cons 7 true (.cons 8 true (.cons 10 true (.cons 14 true (.cons 15 true (.cons 17 true (.cons 2 false (.cons 6 false (.cons 13 false (.cons 20 false (.cons 21 false (.cons 22 false (.cons 23 false (.nil))))))))))))))))) (by kernel_rfl) fQXF_panic (by kernel_rfl) ?_ ?_
  ·exact byP (fc prF (fc hs hin)) True.intro
  refine sw_run 200 _ _ _ (byP (fc prF (fc hs (fc hin (fc Tryz.ntmps254 Tryz.results254)))) ?_)
  refine sw_callDPB (cap:=[]) (cB) rfl rfl rfl (byQ True.intro) ?_
  refine sw_run 200 _ _ _ (byQ ?_)
  refine sw_callDXR (hgB j2 hj2 q2) rfl rfl rfl (byP (drZ zs) True.intro) (byP (drZ zs) True.intro) (byP (drZ zs) True.intro) rfl ?_
  rintro ⟨x,j3,q3⟩ ⟨hx,hj3⟩
  simp only at hx hj3
  refine sw_run 200 _ _ _ (byP (drZ zs) ?_)
  refine sw_callDXR (hgT j3 hj3 q3) rfl rfl rfl (byP (drZ zs) True.intro) (byP (drZ zs) True.intro) (byP (drZ zs) True.intro) rfl ?_
  rintro ⟨y,j4,q4⟩ ⟨hy,hj4⟩
  simp only at hy hj4
  refine sw_run 200 _ _ _ (byP (drZ zs) ?_)
  refine sw_callDXR (hgT j4 hj4 q4) rfl rfl rfl (byP (drZ zs) True.intro) (byP (drZ zs) True.intro) (byP (drZ zs) True.intro) rfl ?_
  rintro ⟨z,j5,q5⟩ ⟨hz,hj5⟩
  simp only at hz hj5
  refine sw_run 200 _ _ _ (byP (drZ zs) ?_)
  refine sw_fzG 4 rfl ?_
  refine byQ ?_
  refine sw_callDPB (cap:=[]) (con_node3 5 x y z (by omega) (by omega) (by omega)) rfl rfl rfl (byQ True.intro) ?_
  refine sw_run 200 _ _ _ (byP (fc (drZ zs) (fc tmF (fc mkF (fc Tryz.ntmps254 Tryz.results254)))) ?_)
  refine ⟨.inl rfl,(tNode 5 [x,y,z],j5,q5),⟨?_,hj5⟩, ?_⟩
  ·show szL (tmC _)≤_
   rw [sz_node]
   rw [tmL3,szL_append,szL_append]
   simp only [List.length_cons,List.length_nil]
   omega
  refine byP (fc (drZ zs) (fc tmF (fc mkF (fc Tryz.ntmps254 Tryz.results254)))) ?_
  repeat' (with_reducible apply And.intro)
  all_goals first | exact True.intro | rfl
 have hpick:=fun i hi h=>con_pick9 zs hz n i hi h
 by_cases v1:v=1
 ·refine sw_run 200 _ _ _ (byP (fc (drZ zs) (fc v0 (fc (eq_true v1) (fc Tryz.ntmps254 Tryz.results254)))) ?_)
  refine sw_callXR (hpick j2 hj2 q2) rfl rfl rfl (byP (drZ zs) True.intro) (byP (drZ zs) True.intro) (byP (drZ zs) True.intro) ?_
  rintro ⟨u,j3,q3⟩ ⟨⟨hu1,hu2⟩,hj3⟩
  simp only at hu1 hu2 hj3
  have hu1':tsz u≤2:=hu1
  have gu:=gsz_m hu1' d
  have hgU:=fun i hi h=>hG ctx u n i h hc1 hu2 (by omega) hn0 (by omega) hi
  have hW:=con_withZ ctx s u n (by have:=hc.1;omega)
  have hX:=fun i hi h=>hG (ctx++[(⟨s,u,n⟩:Tg)]) t n i h ((cx_app (g:=⟨s,u,n⟩) hc ⟨s1,hu2,by simp only;omega⟩).mono (by omega)) hf (by omega) hn0 (by omega) hi
  generalize ctx++[(⟨s,u,n⟩:Tg)]=ctx' at *
  refine sw_run 200 _ _ _ (byP (fc (drZ zs) (fc Tryz.ntmps254 Tryz.results254)) ?_)
  refine sw_fzC 1 rfl rfl ?_
  refine sw_fzC 4 rfl rfl ?_
  refine sw_drawnS [3,5,6,11,14,16,17] (.cons 0 true (.cons 1 true (.cons 2 true (.cons 4 true (.cons 8 true (.cons 9 true (.cons 10 true (.cons 12 true (.cons 15 true (.cons 7 false (.cons 13 false (.cons 18 false (.cons 19 false (.cons 20 false (.nil))))))))))))))) (by kernel_rfl) fQXF_panic (by kernel_rfl) ?_ ?_
  ·exact byP (fc prF (fc hs hin)) True.intro
  refine sw_run 200 _ _ _ (byP (fc prF (fc hs (fc hin (fc Tryz.ntmps254 Tryz.results254)))) ?_)
  refine sw_callDXR (hgU j3 hj3 q3) rfl rfl rfl (byP (drZ zs) True.intro) (byP (drZ zs) True.intro) (byP (drZ zs) True.intro) rfl ?_
  rintro ⟨x,j4,q4⟩ ⟨hx,hj4⟩
  simp only at hx hj4
  refine sw_run 200 _ _ _ (byP (drZ zs) ?_)
  refine sw_callDPB (cap:=[]) (hW) rfl rfl rfl (byQ True.intro) ?_
  refine sw_run 200 _ _ _ (byQ ?_)
  refine sw_callDXR (hX j4 hj4 q4) rfl rfl rfl (byP (drZ zs) True.intro) (byP (drZ zs) True.intro) (byP (drZ zs) True.intro) rfl ?_
  rintro ⟨y,j5,q5⟩ ⟨hy,hj5⟩
  simp only at hy hj5
  refine sw_run 200 _ _ _ (byP (drZ zs) ?_)
  refine sw_callDPB (cap:=[]) (con_letZ s x y (by omega) (by omega)) rfl rfl rfl (byP (tmC_eq) True.intro) ?_
  refine sw_run 200 _ _ _ (byP (fc (drZ zs) (fc tmF (fc mkF (fc Tryz.ntmps254 Tryz.results254)))) ?_)
  refine ⟨.inl rfl,(tLet s x y,j5,q5),⟨?_,hj5⟩, ?_⟩
  ·show szL (tmC _)≤_
   rw [sz_let]
   omega
  refine byP (fc (drZ zs) (fc tmF (fc mkF (fc Tryz.ntmps254 Tryz.results254)))) ?_
  repeat' (with_reducible apply And.intro)
  all_goals first | exact True.intro | rfl
 by_cases v2:v=2
 ·refine sw_run 200 _ _ _ (byP (fc (drZ zs) (fc v0 (fc v1 (fc (eq_true v2) (fc Tryz.ntmps254 Tryz.results254))))) ?_)
  refine sw_callXR (hpick j2 hj2 q2) rfl rfl rfl (byP (drZ zs) True.intro) (byP (drZ zs) True.intro) (byP (drZ zs) True.intro) ?_
  rintro ⟨u,j3,q3⟩ ⟨⟨hu1,hu2⟩,hj3⟩
  simp only at hu1 hu2 hj3
  have hu1':tsz u≤2:=hu1
  have hu3:szL (tyC u)=tsz u:=rfl
  have gu:=gsz_m hu1' d
  have hgU:=fun i hi h=>hG ctx u n i h hc1 hu2 (by omega) hn0 (by omega) hi
  have hW:=con_withZ ctx s u n (by have:=hc.1;omega)
  have hX:=fun i hi h=>hG (ctx++[(⟨s,u,n⟩:Tg)]) t n i h ((cx_app (g:=⟨s,u,n⟩) hc ⟨s1,hu2,by simp only;omega⟩).mono (by omega)) hf (by omega) hn0 (by omega) hi
  generalize ctx++[(⟨s,u,n⟩:Tg)]=ctx' at *
  refine sw_run 200 _ _ _ (byP (fc (drZ zs) (fc Tryz.ntmps254 Tryz.results254)) ?_)
  refine sw_fzC 1 rfl rfl ?_
  refine sw_fzC 4 rfl rfl ?_
  refine sw_drawnS [1,5,8,10,11,16,18,19] (.cons 0 true (.cons 2 true (.cons 3 true (.cons 4 true (.cons 6 true (.cons 9 true (.cons 14 true (.cons 15 true (.cons 17 true (.cons 7 false (.cons 12 false (.cons 13 false (.cons 20 false (.cons 21 false (.cons 22 false (.cons 23 false (.nil))))))))))))))))) (by kernel_rfl) fQXF_panic (by kernel_rfl) ?_ ?_
  ·exact byP (fc prF (fc hs hin)) True.intro
  refine sw_run 200 _ _ _ (byP (fc prF (fc hs (fc hin (fc Tryz.ntmps254 Tryz.results254)))) ?_)
  refine sw_callDPB (cap:=[]) (hW) rfl rfl rfl (byQ True.intro) ?_
  refine sw_run 200 _ _ _ (byQ ?_)
  refine sw_callDXR (hX j3 hj3 q3) rfl rfl rfl (byP (drZ zs) True.intro) (byP (drZ zs) True.intro) (byP (drZ zs) True.intro) rfl ?_
  rintro ⟨x,j4,q4⟩ ⟨hx,hj4⟩
  simp only at hx hj4
  refine sw_run 200 _ _ _ (byP (drZ zs) ?_)
  have hLam:=con_lamZ s u x (by omega) (by omega)
  have hls:=sz_lam s u x
  generalize hlm:tLam s u x=xl at *
  refine sw_callDPB (cap:=[]) (hLam) rfl rfl rfl (byP (tmC_eq) True.intro) ?_
  refine sw_run 200 _ _ _ (byP (drZ zs) ?_)
  refine sw_callDXR (hgU j4 hj4 q4) rfl rfl rfl (byP (drZ zs) True.intro) (byP (drZ zs) True.intro) (byP (drZ zs) True.intro) rfl ?_
  rintro ⟨y,j5,q5⟩ ⟨hy,hj5⟩
  simp only at hy hj5
  refine sw_run 200 _ _ _ (byP (drZ zs) ?_)
  refine sw_fzG 5 rfl ?_
  refine byQ ?_
  refine sw_callDPB (cap:=[]) (con_node2 7 xl y (by omega) (by omega)) rfl rfl rfl (byQ True.intro) ?_
  refine sw_run 200 _ _ _ (byP (fc (drZ zs) (fc tmF (fc mkF (fc Tryz.ntmps254 Tryz.results254)))) ?_)
  refine ⟨.inl rfl,(tNode 7 [xl,y],j5,q5),⟨?_,hj5⟩, ?_⟩
  ·show szL (tmC _)≤_
   rw [sz_node]
   rw [tmL2,szL_append]
   simp only [List.length_cons,List.length_nil]
   omega
  refine byP (fc (drZ zs) (fc tmF (fc mkF (fc Tryz.ntmps254 Tryz.results254)))) ?_
  repeat' (with_reducible apply And.intro)
  all_goals first | exact True.intro | rfl
 have hsm9:=con_small zs hz (tsz t) t (Nat.le_refl _) (by omega) hf n hn0 (by omega)
 have n1:inI (n-1):=by unfold inI;omega
 by_cases v3:v=3
 ·have hM:=con_most (tsz t) t (Nat.le_refl _) (by omega) hf
  have hmb:=most_le (tsz t) t (Nat.le_refl _) hf
  have hmi:inI (n+(mostT t:Int)):=by unfold inI;omega
  refine sw_run 200 _ _ _ (byP (fc (drZ zs) (fc v0 (fc v1 (fc v2 (fc (eq_true v3) (fc Tryz.ntmps254 Tryz.results254)))))) ?_)
  refine sw_call (hM) rfl (aAs_ok (byQ True.intro)) (byQ True.intro) ?_
  by_cases hlt:n+(mostT t:Int)<2
  ·have hS:=con_safeZ ctx n hc1 (by omega)
   have hX:=fun i hi h=>hG (safeTg ctx n ctx.length) (gC t) n i h (cx_safe hc1 n) (by rw [form_C];exact hf) (by omega) hn0 (by omega) hi
   rw [hCC,show (gC t).kind=4 from rfl,show (gC t).args=[t] from rfl] at hX
   have hcc:=con_gC t (by omega)
   rw [show tyZ (gC t) = .ag [.r (.int 4),.r (.rows 2 1 (tysC [t]))] from rfl] at hcc
   generalize safeTg ctx n ctx.length=ctx' at *
   refine sw_run 200 _ _ _ (byP (fc hmi (eq_true hlt)) ?_)
   refine sw_drawn (.cons 0 true (.cons 1 true (.cons 2 true (.cons 4 true (.cons 6 true (.cons 7 true (.cons 8 true (.cons 3 false (.cons 5 false (.cons 9 false (.cons 10 false (.cons 11 false (.cons 12 false (.nil)))))))))))))) (by kernel_rfl) fQXF_panic (by kernel_rfl) ?_
   refine sw_run 200 _ _ _ (byP (fc hs hin) ?_)
   refine sw_callDPB (cap:=[]) (hS) rfl rfl rfl (byQ True.intro) ?_
   refine sw_run 200 _ _ _ (byP (fc hs hin) ?_)
   refine sw_callDPB (cap:=[]) (hcc) rfl rfl rfl (byQ True.intro) ?_
   refine sw_run 200 _ _ _ (byP (fc hs (fc hin (drZ zs))) ?_)
   refine sw_callDXR (hX j2 hj2 q2) rfl rfl rfl (byP (drZ zs) True.intro) (byP (drZ zs) True.intro) (byP (drZ zs) True.intro) rfl ?_
   rintro ⟨x,j3,q3⟩ ⟨hx,hj3⟩
   simp only at hx hj3
   refine sw_run 200 _ _ _ (byP (drZ zs) ?_)
   refine sw_fzG 4 rfl ?_
   refine byQ ?_
   refine sw_callDPB (cap:=[]) (con_node1 12 x (by omega)) rfl rfl rfl (byQ True.intro) ?_
   refine sw_run 200 _ _ _ (byP (fc (drZ zs) (fc tmF (fc mkF (fc Tryz.ntmps254 Tryz.results254)))) ?_)
   refine ⟨.inl rfl,(tNode 12 [x],j3,q3),⟨?_,hj3⟩, ?_⟩
   ·show szL (tmC _)≤_
    rw [sz_node]
    rw [tmL1]
    simp only [List.length_cons,List.length_nil]
    omega
   refine byP (fc (drZ zs) (fc tmF (fc mkF (fc Tryz.ntmps254 Tryz.results254)))) ?_
   repeat' (with_reducible apply And.intro)
   all_goals first | exact True.intro | rfl
  ·refine sw_run 200 _ _ _ (byP (fc hmi (fc hlt (fc Tryz.ntmps254 Tryz.results254))) ?_)
   by_cases hnp:0<n
   ·have hX:=fun i hi h=>hG ctx (gC t) (n-1) i h hc1 (by rw [form_C];exact hf) (by omega) (by omega) (by omega) hi
    rw [hCC,show (gC t).kind=4 from rfl,show (gC t).args=[t] from rfl] at hX
    have hcc:=con_gC t (by omega)
    rw [show tyZ (gC t) = .ag [.r (.int 4),.r (.rows 2 1 (tysC [t]))] from rfl] at hcc
    refine byP (fc hnp (fc n1 (fc hs hin))) ?_
    refine sw_callPR (hcc) rfl rfl rfl (byQ True.intro) (byQ True.intro) (byQ True.intro) ?_
    refine sw_run 200 _ _ _ (byP (fc hs (fc hin (fc n1 (drZ zs)))) ?_)
    refine sw_callXR (hX j2 hj2 q2) rfl rfl rfl (byP (drZ zs) True.intro) (byP (drZ zs) True.intro) (byP (drZ zs) True.intro) ?_
    rintro ⟨x,j3,q3⟩ ⟨hx,hj3⟩
    simp only at hx hj3
    refine sw_run 200 _ _ _ (byP (drZ zs) ?_)
    refine sw_fzE 4 rfl ?_
    refine byQ ?_
    refine sw_callPR (con_node1 11 x (by omega)) rfl rfl rfl (byQ True.intro) (byQ True.intro) (byQ True.intro) ?_
    refine sw_run 200 _ _ _ (byP (fc (drZ zs) (fc tmF (fc mkF (fc Tryz.ntmps254 Tryz.results254)))) ?_)
    refine ⟨.inl rfl,(tNode 11 [x],j3,q3),⟨?_,hj3⟩, ?_⟩
    ·show szL (tmC _)≤_
     rw [sz_node]
     rw [tmL1]
     simp only [List.length_cons,List.length_nil]
     omega
    refine byP (fc (drZ zs) (fc tmF (fc mkF (fc Tryz.ntmps254 Tryz.results254)))) ?_
    repeat' (with_reducible apply And.intro)
    all_goals first | exact True.intro | rfl
   ·refine byP (fc hnp (drZ zs)) ?_
    refine sw_callXR (hsm9 j2 hj2 q2) rfl rfl rfl (byP (drZ zs) True.intro) (byP (drZ zs) True.intro) (byP (drZ zs) True.intro) ?_
    rintro ⟨x,j3,q3⟩ ⟨hx,hj3⟩
    simp only at hx hj3
    refine sw_run 200 _ _ _ (byP (fc (drZ zs) (fc Tryz.ntmps254 Tryz.results254)) ?_)
    refine ⟨.inl rfl,(x,j3,q3),⟨by show szL (tmC x)≤_;omega,hj3⟩, ?_⟩
    refine byP (fc (drZ zs) (fc tmF (fc mkF (fc Tryz.ntmps254 Tryz.results254)))) ?_
    repeat' (with_reducible apply And.intro)
    all_goals first | exact True.intro | rfl
 ·refine sw_run 200 _ _ _ (byP (fc (drZ zs) (fc v0 (fc v1 (fc v2 (fc v3 (fc Tryz.ntmps254 Tryz.results254)))))) ?_)
  by_cases hnp:0<n
  ·have hX:=fun i hi h=>hG ctx (gC t) (n-1) i h hc1 (by rw [form_C];exact hf) (by omega) (by omega) (by omega) hi
   rw [hCC,show (gC t).kind=4 from rfl,show (gC t).args=[t] from rfl] at hX
   have hcc:=con_gC t (by omega)
   rw [show tyZ (gC t) = .ag [.r (.int 4),.r (.rows 2 1 (tysC [t]))] from rfl] at hcc
   refine byP (fc hnp (fc n1 (fc hs hin))) ?_
   refine sw_callPR (hcc) rfl rfl rfl (byQ True.intro) (byQ True.intro) (byQ True.intro) ?_
   refine sw_run 200 _ _ _ (byP (fc hs (fc hin (fc n1 (drZ zs)))) ?_)
   refine sw_callXR (hX j2 hj2 q2) rfl rfl rfl (byP (drZ zs) True.intro) (byP (drZ zs) True.intro) (byP (drZ zs) True.intro) ?_
   rintro ⟨x,j3,q3⟩ ⟨hx,hj3⟩
   simp only at hx hj3
   refine sw_run 200 _ _ _ (byP (drZ zs) ?_)
   refine sw_fzE 4 rfl ?_
   refine byQ ?_
   refine sw_callPR (con_node1 11 x (by omega)) rfl rfl rfl (byQ True.intro) (byQ True.intro) (byQ True.intro) ?_
   refine sw_run 200 _ _ _ (byP (fc (drZ zs) (fc tmF (fc mkF (fc Tryz.ntmps254 Tryz.results254)))) ?_)
   refine ⟨.inl rfl,(tNode 11 [x],j3,q3),⟨?_,hj3⟩, ?_⟩
   ·show szL (tmC _)≤_
    rw [sz_node]
    rw [tmL1]
    simp only [List.length_cons,List.length_nil]
    omega
   refine byP (fc (drZ zs) (fc tmF (fc mkF (fc Tryz.ntmps254 Tryz.results254)))) ?_
   repeat' (with_reducible apply And.intro)
   all_goals first | exact True.intro | rfl
  ·refine byP (fc hnp (drZ zs)) ?_
   refine sw_callXR (hsm9 j2 hj2 q2) rfl rfl rfl (byP (drZ zs) True.intro) (byP (drZ zs) True.intro) (byP (drZ zs) True.intro) ?_
   rintro ⟨x,j3,q3⟩ ⟨hx,hj3⟩
   simp only at hx hj3
   refine sw_run 200 _ _ _ (byP (fc (drZ zs) (fc Tryz.ntmps254 Tryz.results254)) ?_)
   refine ⟨.inl rfl,(x,j3,q3),⟨by show szL (tmC x)≤_;omega,hj3⟩, ?_⟩
   refine byP (fc (drZ zs) (fc tmF (fc mkF (fc Tryz.ntmps254 Tryz.results254)))) ?_
   repeat' (with_reducible apply And.intro)
   all_goals first | exact True.intro | rfl
end Go.Proofs.YtaidalilfmjfgaaGreat
