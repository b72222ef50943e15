import Derived.Test.YtaidalilfmjfgaaGreatTqD
namespace Go.Proofs.YtaidalilfmjfgaaGreat
open Go.RowKit
set_option linter.unusedVariables false
set_option linter.unusedSimpArgs false
set_option maxRecDepth 20000
def SoS (e:Tm) (ctx:List Tg) (n:Int) (r:Ty × Bool):Prop:=ConP Tryz.prog 174 [.b (.one (.rows 4 ctx.length (flC tgC ctx))),.b (.ag (tmC e)),.b (.one (.int n))] [] [.ag [.r (.int r.1.kind),.r (.rows 2 r.1.args.length (tysC r.1.args))],.one (.r (.bool r.2))]
theorem con_so2 (e:Tm) (ctx:List Tg) (n:Int) (hk:e.kind=2) (hc:CtxW ctx e):SoS e ctx n (tI,true):=by
 have hcl:ctx.length≤1000000000∧szL (flC tgC ctx)≤1000000000:=by
  unfold CtxW at hc;omega
 unfold SoS
 refine con_runP Tryz.func174 rfl rfl (by simp [Tryz.ntmps174]) rfl ?_
 refine byP (fc hk (fc Tryz.ntmps174 Tryz.results174)) ?_
 refine sw_callPR (con_tyiSR) rfl rfl rfl (byQ True.intro) (byQ True.intro) (byQ True.intro) ?_
 refine sw_run 200 _ _ _ (byP (fc Tryz.ntmps174 Tryz.results174) ?_)
 exact ⟨rfl,rfl⟩
theorem con_so3 (e:Tm) (ctx:List Tg) (n:Int) (hk:e.kind=3) (hc:CtxW ctx e):SoS e ctx n (tB,true):=by
 have hcl:ctx.length≤1000000000∧szL (flC tgC ctx)≤1000000000:=by
  unfold CtxW at hc;omega
 unfold SoS
 refine con_runP Tryz.func174 rfl rfl (by simp [Tryz.ntmps174]) rfl ?_
 refine byP (fc hk (fc Tryz.ntmps174 Tryz.results174)) ?_
 refine sw_callPR (con_tybSR) rfl rfl rfl (byQ True.intro) (byQ True.intro) (byQ True.intro) ?_
 refine sw_run 200 _ _ _ (byP (fc Tryz.ntmps174 Tryz.results174) ?_)
 exact ⟨rfl,rfl⟩
theorem con_so1 (e:Tm) (ctx:List Tg) (n:Int) (hk:e.kind=1) (hc:CtxW ctx e):SoS e ctx n (if lastTg ctx e.name ctx.length<0 then no2 else if (ctx[(lastTg ctx e.name ctx.length).toNat]!).level=n then ((ctx[(lastTg ctx e.name ctx.length).toNat]!).ty,true) else no2):=by
 have hcl:ctx.length≤1000000000∧szL (flC tgC ctx)≤1000000000:=by
  unfold CtxW at hc;omega
 have hC:=con_last ctx e.name (by omega)
 simp only [tgsD] at hC
 have hrg:=last_rng ctx e.name ctx.length (Nat.le_refl _)
 generalize lastTg ctx e.name ctx.length=i at *
 by_cases h0:i<0
 case pos =>
  rw [if_pos h0]
  unfold SoS
  refine con_runP Tryz.func174 rfl rfl (by simp [Tryz.ntmps174]) rfl ?_
  refine byP (fc hk (fc Tryz.ntmps174 Tryz.results174)) ?_
  refine sw_call (hC) rfl (aAs_ok (byQ True.intro)) (byQ True.intro) ?_
  refine sw_run 200 _ _ _ (byP (fc h0 (fc Tryz.ntmps174 Tryz.results174)) ?_)
  exact ⟨⟨rfl,rfl,rfl⟩,rfl⟩
 obtain ⟨j,rfl⟩:∃ j:Nat,i=(j:Int):=⟨i.toNat,by omega⟩
 have hj:j<ctx.length:=by omega
 have hj2:(j:Int)<(ctx.length:Int):=by omega
 have hR:rowAt 4 (flC tgC ctx) j=[.str (ctx[j]!).name,.int (ctx[j]!).ty.kind,.rows 2 (ctx[j]!).ty.args.length (tysC (ctx[j]!).ty.args),.int (ctx[j]!).level]:=flC_row tgC_len ctx j hj
 have hs:=ctx_ty hj
 have hO:=conR (con_l3Copy (ctx[j]!).ty (by omega)) trivial
 rw [tyC_eq] at hO
 simp only [List.map,toR,tysD] at hO
 rw [if_neg h0,Int.toNat_natCast]
 by_cases hl:(ctx[j]!).level=n
 ·rw [if_pos hl]
  unfold SoS
  refine con_runP Tryz.func174 rfl rfl (by simp [Tryz.ntmps174]) rfl ?_
  refine byP (fc hk (fc Tryz.ntmps174 Tryz.results174)) ?_
  refine sw_call (hC) rfl (aAs_ok (byQ True.intro)) (byQ True.intro) ?_
  refine sw_run 200 _ _ _ (byP (fc h0 (fc hR (fc hj2 hl))) ?_)
  refine sw_callPR (hO) rfl rfl rfl (byQ True.intro) (byQ True.intro) (byQ True.intro) ?_
  exact sw_run 200 _ _ _ (byP (fc Tryz.ntmps174 Tryz.results174) True.intro)
 ·rw [if_neg hl]
  unfold SoS
  refine con_runP Tryz.func174 rfl rfl (by simp [Tryz.ntmps174]) rfl ?_
  refine byP (fc hk (fc Tryz.ntmps174 Tryz.results174)) ?_
  refine sw_call (hC) rfl (aAs_ok (byQ True.intro)) (byQ True.intro) ?_
  refine sw_run 200 _ _ _ (byP (fc h0 (fc hR (fc hj2 (fc hl (fc Tryz.ntmps174 Tryz.results174))))) ?_)
  exact ⟨⟨rfl,rfl,rfl⟩,rfl⟩
theorem con_soB (e:Tm) (ctx:List Tg) (n:Int) (hk:e.kind=6∨e.kind=8∨e.kind=9) (hc:CtxW ctx e) (T:Ty) (b:Bool) (h:BiS e ctx n T b):SoS e ctx n (T,b):=by
 have hcl:ctx.length≤1000000000∧szL (flC tgC ctx)≤1000000000:=by
  unfold CtxW at hc;omega
 unfold SoS
 unfold BiS at h
 rw [tmC_eq] at h
 rcases hk with hk | hk | hk
 all_goals
  rw [hk] at h
  refine con_runP Tryz.func174 rfl rfl (by simp [Tryz.ntmps174]) rfl ?_
  refine byP (fc hk (fc Tryz.ntmps174 Tryz.results174)) ?_
  refine sw_callPR (h) rfl rfl rfl (byQ True.intro) (byQ True.intro) (byQ True.intro) ?_
  exact sw_run 200 _ _ _ (byP (fc Tryz.ntmps174 Tryz.results174) True.intro)
theorem con_soT (e:Tm) (ctx:List Tg) (n:Int) (hk:e.kind=10∨e.kind=11∨e.kind=12∨e.kind=13) (hc:CtxW ctx e) (r:Ty × Bool) (h:SgS e ctx n r):SoS e ctx n r:=by
 have hcl:ctx.length≤1000000000∧szL (flC tgC ctx)≤1000000000:=by
  unfold CtxW at hc;omega
 obtain ⟨T,b⟩:=r
 unfold SoS
 unfold SgS at h
 rw [tmC_eq] at h
 simp only at h ⊢
 rcases hk with hk | hk | hk | hk
 all_goals
  rw [hk] at h
  refine con_runP Tryz.func174 rfl rfl (by simp [Tryz.ntmps174]) rfl ?_
  refine byP (fc hk (fc Tryz.ntmps174 Tryz.results174)) ?_
  refine sw_callPR (h) rfl rfl rfl (byQ True.intro) (byQ True.intro) (byQ True.intro) ?_
  exact sw_run 200 _ _ _ (byP (fc Tryz.ntmps174 Tryz.results174) True.intro)
theorem con_soF (e:Tm) (ctx:List Tg) (n:Int) (hk:e.kind=4∨e.kind=5∨e.kind=7) (hc:CtxW ctx e) (hP:∀ i,i<e.args.length→ConP Tryz.prog 87 [.b (.one (.rows 4 ctx.length (flC tgC ctx))),.b (.ag (tmC e.args[i]!)),.b (.one (.int n))] [] [.ag [.r (.int (tyT e.args[i]! ctx n).kind),.r (.rows 2 (tyT e.args[i]! ctx n).args.length (tysC (tyT e.args[i]! ctx n).args))],.one (.r (.bool (decide ((tyT e.args[i]! ctx n).kind≠0))))]) (r:Ty × Bool) (hF:(∀ a ∈ e.args,(tyT a ctx n).kind≠0)→FoS e (e.args.map fun a=>tyT a ctx n) r):SoS e ctx n (if (e.args.all fun a=>decide ((tyT a ctx n).kind≠0))=true then r else no2):=by
 have hcl:ctx.length≤1000000000∧szL (flC tgC ctx)≤1000000000:=by
  unfold CtxW at hc;omega
 obtain ⟨T,b⟩:=r
 have hze:=szL_tm e
 have hlz:e.args.length≤1000000000:=by unfold CtxW at hc;omega
 unfold SoS
 rcases hk with hk | hk | hk
 all_goals
  refine con_runP Tryz.func174 rfl rfl (by simp [Tryz.ntmps174]) rfl ?_
  refine byP (fc hk (fc Tryz.ntmps174 Tryz.results174)) ?_
  refine sw_loop (fun k:Nat=>k≤e.args.length∧((e.args.take k).all fun a=>decide ((tyT a ctx n).kind≠0))=true) (fun k=>⟨112,[(14,.i k),(13,.sl 2),(0,.br (.rows 4 ctx.length (flC tgC ctx))),(2,.i n),(7,.b false),(6,.bx 1 0),(4,.bx 0 0)],[(0,[.i e.kind,.s e.name,.s e.other,.i e.n,.i e.ty.kind,.br (.rows 2 e.ty.args.length (tysC e.ty.args)),.i e.res.kind,.br (.rows 2 e.res.args.length (tysC e.res.args)),.br (.rows 9 e.args.length (tmsC e.args))]),(1,[.i 0,.nl 2])],[(2,some ⟨.rows 2 k (tysC ((e.args.take k).map fun a=>tyT a ctx n)),some 26,decide (k=0)⟩)],3,[]⟩) (fun k=>e.args.length-k) 0 id ⟨Nat.zero_le _,rfl⟩ ?_ ?_
  ·exact byP (fc hk (fc Int.natCast_zero (show tysC []=[] from rfl))) True.intro
  ·rintro k ⟨hk0,hall⟩
   by_cases hlt:k<e.args.length
   ·have hi:(k:Int)<(e.args.length:Int):=by omega
    have hR:=tmsC_row' e.args k hlt
    have p0:=hP k hlt
    have hsa:((e.args.take (k+1)).all fun a=>decide ((tyT a ctx n).kind≠0))=decide ((tyT e.args[k]! ctx n).kind≠0):=by rw [take_snoc e.args k hlt,List.all_append,hall];simp
    have hst:tysC ((e.args.take (k+1)).map fun a=>tyT a ctx n)=tysC ((e.args.take k).map fun a=>tyT a ctx n)++tyC (tyT e.args[k]! ctx n):=by rw [tysC_flat,tysC_flat,take_snoc e.args k hlt,List.map_append,flC_app,List.map_cons,List.map_nil,flC_one]
    rw [tyC_eq] at hst
    rw [tmC_eq] at p0
    by_cases hb:(tyT e.args[k]! ctx n).kind≠0
    ·rw [decide_eq_true hb] at p0 hsa
     refine sw_run 200 _ _ _ (byP (fc hi hR) ?_)
     refine sw_callPR (p0) rfl rfl rfl (byQ True.intro) (byQ True.intro) (byQ True.intro) ?_
     refine sw_run 200 _ _ _ (byQ ?_)
     exact ⟨⟨fun o ho=>by omega,by unfold maxLen;omega,by omega⟩,by unfold inI;omega,k+1,rnL [(2,5)],⟨by omega,hsa⟩,by omega,byP hst True.intro⟩
    ·rw [decide_eq_false hb] at p0
     have hf:(e.args.all fun a=>decide ((tyT a ctx n).kind≠0))=false:=by
      rw [List.all_eq_false]
      exact ⟨e.args[k]!,mem_bang hlt,by simpa using hb⟩
     rw [hf]
     refine sw_run 200 _ _ _ (byP (fc hi hR) ?_)
     refine sw_callPR (p0) rfl rfl rfl (byQ True.intro) (byQ True.intro) (byQ True.intro) ?_
     refine sw_run 200 _ _ _ (byP (fc Tryz.ntmps174 Tryz.results174) ?_)
     exact ⟨⟨rfl,rfl,rfl⟩,rfl⟩
   ·have hi:¬ (k:Int)<(e.args.length:Int):=by omega
    obtain rfl:k=e.args.length:=by omega
    rw [List.take_length] at hall
    rw [hall,List.take_length]
    have hF':=hF fun a ha=>by simpa using (List.all_eq_true.1 hall) a ha
    unfold FoS at hF'
    rw [tmC_eq,List.length_map] at hF'
    simp only at hF'
    refine sw_run 200 _ _ _ (byP hi ?_)
    refine sw_run 200 _ _ _ ?_
    refine byQ ?_
    refine sw_fzE 2 rfl ?_
    refine byQ ?_
    refine sw_callPR (hF') rfl rfl rfl (byQ True.intro) (byQ True.intro) (byQ True.intro) ?_
    exact sw_run 200 _ _ _ (byP (fc Tryz.ntmps174 Tryz.results174) True.intro)
def TySp (e:Tm):Prop:=∀ ctx n,CtxW ctx e→rgL e n→allTm isFm e=true→ConP Tryz.prog 87 [.b (.one (.rows 4 ctx.length (flC tgC ctx))),.b (.ag (tmC e)),.b (.one (.int n))] [] [.ag [.r (.int (tyT e ctx n).kind),.r (.rows 2 (tyT e ctx n).args.length (tysC (tyT e ctx n).args))],.one (.r (.bool (decide ((tyT e ctx n).kind≠0))))]
theorem tyS_join (e:Tm) (ctx:List Tg) (n:Int) (r:Ty × Bool) (ha:allTm isFm e=true) (hS:SoS e ctx n r) (hr:smF e.kind e.name e.other e.ty e.res (e.args.map tyS) ctx n=r) (hz:szL (tyC r.1)≤1000000000):ConP Tryz.prog 87 [.b (.one (.rows 4 ctx.length (flC tgC ctx))),.b (.ag (tmC e)),.b (.one (.int n))] [] [.ag [.r (.int (tyT e ctx n).kind),.r (.rows 2 (tyT e ctx n).args.length (tysC (tyT e ctx n).args))],.one (.r (.bool (decide ((tyT e ctx n).kind≠0))))]:=by
 obtain ⟨T,b⟩:=r
 have h:=con_typeS e ctx n T b hz hS
 rw [← hr,← tyS_eq,ty_same e ha] at h
 exact h
theorem ite_sz1 {p:Prop} [Decidable p] {a b:Ty × Bool} {n:Nat} (ha:szL (tyC a.1)≤n) (hb:szL (tyC b.1)≤n):szL (tyC (if p then a else b).1)≤n:=by
 split
 ·exact ha
 ·exact hb
theorem opS_sz (s:ByteArray) (l:List Ty):szL (tyC (opS s l).1)≤29:=by
 have h0:=zv_sz (t:=z0) (.inl rfl)
 have h1:=zv_sz (t:=tI) (.inr v_tI)
 have h2:=zv_sz (t:=tB) (.inr v_tB)
 unfold opS
 refine ite_sz1 ?_ h0
 exact ite_sz h1 h2
theorem con_tyS:∀ e:Tm,TySp e:=by
 refine Tm.ind fun e ih ctx n hc hr ha => ?_
 have hF:isFm e=true:=by
  rw [allTm_eq,Bool.and_eq_true] at ha;exact ha.1
 obtain ⟨hl,h4,h9,h9',h6',hk1,hk2⟩:=fm_facts hF
 obtain ⟨n6,n8,n9⟩:=fm_names hF
 have hze:200 * (szL (tmC e)+1)≤1000000000:=by unfold CtxW at hc;omega
 have hn0 : -2000000000≤n∧n≤2000000000:=by unfold rgL at hr;omega
 have h0s:=zv_sz (t:=z0) (.inl rfl)
 have h0n:szL (tyC no2.1)≤29:=h0s
 have hP:∀ (i:Nat) (c:List Tg) (m:Int) (h:i<e.args.length),n-1≤m∧m≤n+1→CtxW c e.args[i]! → ConP Tryz.prog 87 [.b (.one (.rows 4 c.length (flC tgC c))),.b (.ag (tmC e.args[i]!)),.b (.one (.int m))] [] [.ag [.r (.int (tyT e.args[i]! c m).kind),.r (.rows 2 (tyT e.args[i]! c m).args.length (tysC (tyT e.args[i]! c m).args))],.one (.r (.bool (decide ((tyT e.args[i]! c m).kind≠0))))] :=
  fun i c m h hm hw=>ih _ (mem_bang h) c m hw (rgL_part hr h hm) (all_part ha h)
 have hs:∀ (i:Nat) (c:List Tg) (m:Int),i<e.args.length→tyS e.args[i]! c m=rr (tyT e.args[i]! c m):=fun i c m h=>ty_same _ (all_part ha h) c m
 have hb:∀ (i:Nat) (gs:List Tg),i<e.args.length→gs.length+szL (flC tgC gs)≤200→CtxW (ctx++gs) e.args[i]! := fun i gs h hg=>hc.bind (szK' h) hg
 have hp:∀ (i:Nat),i<e.args.length→CtxW ctx e.args[i]! := fun i h=>hc.part (szK' h)
 have nn:n-1≤n∧n≤n+1:=by omega
 have zz:=fun x c m=>zv_tyT x c m
 have hsm:∀ a ∈ e.args,tyS a ctx n=rr (tyT a ctx n):=by
  intro a hm
  refine ty_same a ?_ ctx n
  obtain ⟨i,hi,rfl⟩:=List.mem_iff_getElem.1 hm
  have:=all_part ha hi
  rw [getElem!_pos e.args i hi] at this
  exact this
 have e1:(((e.args.map tyS).map fun f=>(f ctx n).2).all id)=e.args.all fun a=>decide ((tyT a ctx n).kind≠0):=by
  have q:((e.args.map tyS).map fun f=>(f ctx n).2)=e.args.map fun a=>decide ((tyT a ctx n).kind≠0):=by
   rw [List.map_map]
   exact List.map_congr_left fun a ha=>by simp only [Function.comp];rw [hsm a ha];rfl
  rw [q,List.all_map];rfl
 have e2:((e.args.map tyS).map fun f=>(f ctx n).1)=e.args.map fun a=>tyT a ctx n:=by
  rw [List.map_map]
  exact List.map_congr_left fun a ha=>by simp only [Function.comp];rw [hsm a ha];rfl
 have hv:(∀ a ∈ e.args,(tyT a ctx n).kind≠0)→∀ t ∈ e.args.map (fun a=>tyT a ctx n),vTy t=true:=by
  intro h t ht
  obtain ⟨a,hm,rfl⟩:=List.mem_map.1 ht
  exact zv_ne (zz _ _ _) (h a hm)
 have lb:∀ i,i<e.args.length→(e.args.map fun a=>tyT a ctx n)[i]! = tyT e.args[i]! ctx n:=fun i h=>mapT_bang (fun a=>tyT a ctx n) e.args i h
 unfold arF at hl
 have hK:e.kind=1∨e.kind=2∨e.kind=3∨e.kind=4∨e.kind=5∨e.kind=6∨e.kind=7∨e.kind=8∨e.kind=9∨e.kind=10∨e.kind=11∨e.kind=12∨e.kind=13:=by omega
 rcases hK with hk | hk | hk | hk | hk | hk | hk | hk | hk | hk | hk | hk | hk
 all_goals simp only [hk,if_true,if_false,Int.reduceEq] at hl
 ·refine tyS_join e ctx n _ ha (con_so1 e ctx n hk hc) (by simp only [smF,hk,if_true]) ?_
  refine ite_sz1 (by omega) ?_
  by_cases h0:lastTg ctx e.name ctx.length<0
  ·refine ite_sz1 ?_ (by omega)
   rw [show (lastTg ctx e.name ctx.length).toNat=0 from by omega]
   by_cases hx:0<ctx.length
   ·have h1:=ctx_ty (ctx:=ctx) (i:=0) hx
    unfold CtxW at hc;show szL (tyC (ctx[0]!).ty)≤_;omega
   ·have:ctx=[]:=List.eq_nil_of_length_eq_zero (by omega)
    subst this
    show szL (tyC (default:Tg).ty)≤_
    have h2:szL (tyC (default:Tg).ty)≤29:=by decide
    omega
  ·have hrg:=last_rng ctx e.name ctx.length (Nat.le_refl _)
   have h1:=ctx_ty (ctx:=ctx) (i:=(lastTg ctx e.name ctx.length).toNat) (by omega)
   refine ite_sz1 ?_ (by omega)
   unfold CtxW at hc;show szL (tyC (ctx[(lastTg ctx e.name ctx.length).toNat]!).ty)≤_;omega
 ·exact tyS_join e ctx n _ ha (con_so2 e ctx n hk hc) (by simp only [smF,hk,if_true,if_false,Int.reduceEq]) (by have:=zv_sz (t:=tI) (.inr v_tI);show szL (tyC tI)≤_;omega)
 ·exact tyS_join e ctx n _ ha (con_so3 e ctx n hk hc) (by simp only [smF,hk,if_true,if_false,Int.reduceEq]) (by have:=zv_sz (t:=tB) (.inr v_tB);show szL (tyC tB)≤_;omega)
 ·exact tyS_join e ctx n _ ha (con_soF e ctx n (by omega) hc (fun i h=>hP i ctx n h nn (hp i h)) _ (fun h=>con_fo4 e _ (by rw [List.length_map];have:=szL_tm e;omega) hk)) (by
   simp only [smF,hk,if_true,if_false,Int.reduceEq,e1,e2]) (ite_sz1 (by have:=opS_sz e.name (e.args.map fun a=>tyT a ctx n);omega) (by omega))
 ·have l0:0<e.args.length:=by omega
  have l1:1<e.args.length:=by omega
  have l2:2<e.args.length:=by omega
  exact tyS_join e ctx n _ ha (con_soF e ctx n (by omega) hc (fun i h=>hP i ctx n h nn (hp i h)) _ (fun h=>con_fo5 e _ (by rw [List.length_map];omega) (hv h) hk)) (by
   simp only [smF,hk,if_true,if_false,Int.reduceEq,e1,mapT_bang tyS e.args 0 l0,mapT_bang tyS e.args 1 l1,mapT_bang tyS e.args 2 l2,hs 0 _ _ l0,hs 1 _ _ l1,hs 2 _ _ l2,rr_1,lb 0 l0,lb 1 l1,lb 2 l2]) (ite_sz1 (by rw [lb 1 l1];have:=zv_sz (zz e.args[1]! ctx n);show szL (tyC (tyT e.args[1]! ctx n))≤_;omega) (by omega))
 ·have l0:0<e.args.length:=by omega
  have s1:=v_sz (h6' hk)
  have s2:=nm_sz (n6 hk)
  have hg:[(⟨e.name,e.ty,n⟩:Tg)].length+szL (flC tgC [(⟨e.name,e.ty,n⟩:Tg)])≤200:=by
   rw [flC_one,tgC_sz];simp only [List.length_cons,List.length_nil];omega
  have zB:=zz e.args[0]! (ctx++[(⟨e.name,e.ty,n⟩:Tg)]) n
  exact tyS_join e ctx n _ ha (con_soB e ctx n (by omega) hc _ _ (con_bi6 e ctx n hk (by omega) hc (by omega) _ zB (hP 0 _ n l0 nn (hb 0 _ l0 hg)))) (by
   simp only [smF,hk,if_true,if_false,Int.reduceEq,mapT_bang tyS e.args 0 l0,hs 0 _ _ l0,rr_1,rr_2]) (by show szL (tyC (.mk 3 [_,_]))≤_;rw [fun_sz];have:=zv_sz zB;omega)
 ·have l0:0<e.args.length:=by omega
  have l1:1<e.args.length:=by omega
  have zA:=zz e.args[0]! ctx n
  refine tyS_join e ctx n _ ha (con_soF e ctx n (by omega) hc (fun i h=>hP i ctx n h nn (hp i h)) _ (fun h=>con_fo7 e _ (by rw [List.length_map];omega) (hv h) hk)) (by
   simp only [smF,hk,if_true,if_false,Int.reduceEq,e1,mapT_bang tyS e.args 0 l0,mapT_bang tyS e.args 1 l1,hs 0 _ _ l0,hs 1 _ _ l1,rr_1,lb 0 l0,lb 1 l1]) ?_
  rw [lb 0 l0,lb 1 l1]
  generalize tyT e.args[0]! ctx n=A at *
  refine ite_sz1 ?_ (by omega)
  by_cases h3:A.kind=3
  ·rw [if_pos h3]
   refine ite_sz1 ?_ (by omega)
   have hv:=zv_ne zA (by omega)
   rcases f_kind (v_form hv) with ⟨q,_⟩ | ⟨q,_⟩ | ⟨_,u,v,hu,_⟩ | ⟨q,_⟩
   ·omega
   ·omega
   ·have h1:=v_sz hv
    rw [ty_ext h3 hu,fun_sz] at h1
    rw [hu]
    show szL (tyC v)≤_
    omega
   ·omega
  ·rw [if_neg h3];omega
 ·have l0:0<e.args.length:=by omega
  have l1:1<e.args.length:=by omega
  have s2:=nm_sz (n8 hk)
  have zA:=zz e.args[0]! ctx n
  have s1:=zv_sz zA
  have hg:[(⟨e.name,tyT e.args[0]! ctx n,n⟩:Tg)].length+szL (flC tgC [(⟨e.name,tyT e.args[0]! ctx n,n⟩:Tg)])≤200:=by
   rw [flC_one,tgC_sz];simp only [List.length_cons,List.length_nil];omega
  exact tyS_join e ctx n _ ha (con_soB e ctx n (by omega) hc _ _ (con_bi8 e ctx n hk (by omega) hc _ zA (hP 0 ctx n l0 nn (hp 0 l0)) _ (hP 1 _ n l1 nn (hb 1 _ l1 hg)))) (by
   simp only [smF,hk,if_true,if_false,Int.reduceEq,mapT_bang tyS e.args 0 l0,mapT_bang tyS e.args 1 l1,hs 0 _ _ l0,hs 1 _ _ l1,rr_1,rr_2,decide_eq_true_eq]
   split <;> rfl) (by
   show szL (tyC (if _ then _ else _))≤_
   exact ite_sz (by have:=zv_sz (zz e.args[1]! (ctx++[(⟨e.name,tyT e.args[0]! ctx n,n⟩:Tg)]) n);omega) (by omega))
 ·have l0:0<e.args.length:=by omega
  have s1:=v_sz (h9 hk)
  have s1':=v_sz (h9' hk)
  have s2:=nm_sz (n9 hk).1
  have s3:=nm_sz (n9 hk).2
  have hg:[(⟨e.name,.mk 3 [e.ty,e.res],n⟩:Tg),⟨e.other,e.ty,n⟩].length+szL (flC tgC [(⟨e.name,.mk 3 [e.ty,e.res],n⟩:Tg),⟨e.other,e.ty,n⟩])≤200:=by
   rw [show [(⟨e.name,.mk 3 [e.ty,e.res],n⟩:Tg),⟨e.other,e.ty,n⟩]=[(⟨e.name,.mk 3 [e.ty,e.res],n⟩:Tg)]++[⟨e.other,e.ty,n⟩] from rfl,flC_app,szL_append,flC_one,flC_one,tgC_sz,tgC_sz]
   have:=fun_sz e.ty e.res
   simp only [List.length_append,List.length_cons,List.length_nil];omega
  exact tyS_join e ctx n _ ha (con_soB e ctx n (by omega) hc _ _ (con_bi9 e ctx n hk (by omega) hc (by omega) (by omega) _ (zz _ _ _) (hP 0 _ n l0 nn (hb 0 _ l0 hg)))) (by
   simp only [smF,hk,if_true,if_false,Int.reduceEq,mapT_bang tyS e.args 0 l0,hs 0 _ _ l0,rr_1,rr_2]) (by show szL (tyC (.mk 3 [_,_]))≤_;rw [fun_sz];omega)
 ·have l0:0<e.args.length:=by omega
  have zB:=zz e.args[0]! ctx (n+1)
  exact tyS_join e ctx n _ ha (con_soT e ctx n (by omega) hc _ (con_sg10 e ctx n hk (by omega) hn0 hc _ zB (hP 0 ctx (n+1) l0 (by omega) (hp 0 l0)))) (by
   simp only [smF,hk,if_true,if_false,Int.reduceEq,mapT_bang tyS e.args 0 l0,hs 0 _ _ l0,rr_1,rr_2,decide_eq_true_eq]) (ite_sz1 (by show szL (tyC (.mk 4 [_]))≤_;rw [code_sz];have:=zv_sz zB;omega) (by omega))
 ·have l0:0<e.args.length:=by omega
  have zB:=zz e.args[0]! ctx (n-1)
  exact tyS_join e ctx n _ ha (con_soT e ctx n (by omega) hc _ (con_sg11 e ctx n hk (by omega) hn0 hc _ zB (hP 0 ctx (n-1) l0 (by omega) (hp 0 l0)))) (by
   simp only [smF,hk,if_true,if_false,Int.reduceEq,mapT_bang tyS e.args 0 l0,hs 0 _ _ l0,rr_1,rr_2,decide_eq_true_eq]) (ite_sz1 (by
    have:=codeF_sz zB
    unfold codeF at this
    split
    ·rename_i h4
     rw [if_pos h4] at this
     show szL (tyC (tyT e.args[0]! ctx (n-1)).args[0]!)≤_
     omega
    ·omega) (by omega))
 ·have l0:0<e.args.length:=by omega
  have zB:=zz e.args[0]! (safeTg ctx n ctx.length) n
  exact tyS_join e ctx n _ ha (con_soT e ctx n (by omega) hc _ (con_sg12 e ctx n hk (by omega) hn0 hc _ zB (hP 0 _ n l0 nn (hc.safe (szK' l0))))) (by
   simp only [smF,hk,if_true,if_false,Int.reduceEq,mapT_bang tyS e.args 0 l0,hs 0 _ _ l0,rr_1,rr_2,decide_eq_true_eq]) (ite_sz1 (by
    have:=codeF_sz zB
    unfold codeF at this
    split
    ·rename_i h4
     rw [if_pos h4] at this
     show szL (tyC (tyT e.args[0]! (safeTg ctx n ctx.length) n).args[0]!)≤_
     omega
    ·omega) (by omega))
 ·have l0:0<e.args.length:=by omega
  have zB:=zz e.args[0]! ctx n
  exact tyS_join e ctx n _ ha (con_soT e ctx n (by omega) hc _ (con_sg13 e ctx n hk (by omega) hn0 hc _ zB (hP 0 ctx n l0 nn (hp 0 l0)))) (by
   simp only [smF,hk,if_true,if_false,Int.reduceEq,mapT_bang tyS e.args 0 l0,hs 0 _ _ l0,rr_1,rr_2,decide_eq_true_eq]) (ite_sz1 (by show szL (tyC (.mk 4 [_]))≤_;rw [code_sz];have:=zv_sz zB;omega) (by omega))
end Go.Proofs.YtaidalilfmjfgaaGreat
