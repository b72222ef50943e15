import Derived.Test.YtaidalilfmjfgaaGreatTqA
namespace Go.Proofs.YtaidalilfmjfgaaGreat
open Go.RowKit
set_option linter.unusedVariables false
set_option linter.unusedSimpArgs false
set_option maxRecDepth 20000
def FoS (e:Tm) (l:List Ty) (r:Ty × Bool):Prop:=ConP Tryz.prog 236 [.b (.ag (tmC e)),.b (.one (.rows 2 l.length (tysC l)))] [] [.ag [.r (.int r.1.kind),.r (.rows 2 r.1.args.length (tysC r.1.args))],.one (.r (.bool r.2))]
theorem con_fo4 (e:Tm) (l:List Ty) (hl:l.length≤2000000000) (hk:e.kind=4):FoS e l (opS e.name l):=by
 have hO:=con_opS e.name l hl
 unfold FoS
 generalize opS e.name l=r at *
 obtain ⟨T,b⟩:=r
 simp only at hO ⊢
 refine con_runP Tryz.func236 rfl rfl (by simp [Tryz.ntmps236]) rfl ?_
 refine byP (fc hk (fc Tryz.ntmps236 Tryz.results236)) ?_
 refine sw_callPR (hO) rfl rfl rfl (byQ True.intro) (byQ True.intro) (byQ True.intro) ?_
 exact sw_run 200 _ _ _ (byP (fc Tryz.ntmps236 Tryz.results236) True.intro)
theorem con_fo5 (e:Tm) (l:List Ty) (hl:l.length=3) (hv:∀ t ∈ l,vTy t=true) (hk:e.kind=5):FoS e l (l[1]!,decide ((l[0]!).kind=2) && eqTy l[1]! l[2]!):=by
 obtain ⟨x,y,z,rfl⟩:=len3 hl
 have hE:=con_EqTyS y z (by have:=v_sz (hv y (by simp));omega)
 have r0:rowAt 2 (tysC [x,y,z]) 0=tyC x:=by rw [tysC_row' [x,y,z] 0 (by simp)];rfl
 have r1:rowAt 2 (tysC [x,y,z]) 1=tyC y:=by rw [tysC_row' [x,y,z] 1 (by simp)];rfl
 have r2:rowAt 2 (tysC [x,y,z]) 2=tyC z:=by rw [tysC_row' [x,y,z] 2 (by simp)];rfl
 rw [tyC_eq] at r0 r1 r2
 have i0:((0:Int)<(([x,y,z]:List Ty).length:Int)):=by simp
 have i1:((1:Int)<(([x,y,z]:List Ty).length:Int)):=by simp
 have i2:((2:Int)<(([x,y,z]:List Ty).length:Int)):=by simp
 rw [tyC_eq] at hE
 rw [tyC_eq] at hE
 simp only [tysD] at hE
 show FoS e [x,y,z] (y,decide (x.kind=2) && eqTy y z)
 unfold FoS
 by_cases h2:x.kind=2
 ·rw [decide_eq_true h2,Bool.true_and]
  generalize eqTy y z=b at *
  refine con_runP Tryz.func236 rfl rfl (by simp [Tryz.ntmps236]) rfl ?_
  refine byP (fc hk (fc Tryz.ntmps236 Tryz.results236)) ?_
  refine sw_drawn (.cons 0 true (.cons 1 true (.cons 2 true (.cons 3 true (.cons 4 true (.cons 5 true (.cons 6 true (.cons 7 true (.cons 8 true (.cons 9 true (.cons 10 true (.cons 11 true (.cons 12 true (.cons 13 true (.cons 14 true (.cons 15 false (.fork (.alt 16 (.cons 17 false (.cons 18 true (.nil))) (.alt 17 (.cons 16 true (.cons 18 true (.nil))) (.last)))))))))))))))))))) (by kernel_rfl) fQP_panic (by kernel_rfl) ?_
  refine sw_run 200 _ _ _ (byP (fc i0 (fc i1 (fc i2 (fc r0 (fc r1 (fc r2 h2)))))) ?_)
  repeat' (with_reducible apply And.intro)
  all_goals
   refine sw_callD (hE) rfl (aAs_ok (byQ True.intro)) (byQ True.intro) ?_
  all_goals
   refine sw_run 200 _ _ _ (byP (fc Tryz.ntmps236 Tryz.results236) ?_)
  repeat' (with_reducible apply And.intro)
  all_goals first | exact True.intro | rfl
 ·rw [decide_eq_false h2,Bool.false_and]
  refine con_runP Tryz.func236 rfl rfl (by simp [Tryz.ntmps236]) rfl ?_
  refine byP (fc hk (fc Tryz.ntmps236 Tryz.results236)) ?_
  refine sw_drawn (.cons 0 true (.cons 1 true (.cons 2 true (.cons 3 true (.cons 4 true (.cons 5 true (.cons 6 true (.cons 7 true (.cons 8 true (.cons 9 true (.cons 10 true (.cons 11 true (.cons 12 true (.cons 13 true (.cons 14 true (.cons 15 false (.fork (.alt 16 (.cons 17 false (.cons 18 true (.nil))) (.alt 17 (.cons 16 true (.cons 18 true (.nil))) (.last)))))))))))))))))))) (by kernel_rfl) fQP_panic (by kernel_rfl) ?_
  refine sw_run 200 _ _ _ (byP (fc i0 (fc i1 (fc i2 (fc r0 (fc r1 (fc r2 (fc h2 (fc Tryz.ntmps236 Tryz.results236)))))))) ?_)
  repeat' (with_reducible apply And.intro)
  all_goals first | exact True.intro | rfl
theorem con_fo7 (e:Tm) (l:List Ty) (hl:l.length=2) (hv:∀ t ∈ l,vTy t=true) (hk:e.kind=7):FoS e l (if (l[0]!).kind=3 then (if eqTy (l[0]!).args[0]! l[1]! = true then ((l[0]!).args[1]!,true) else no2) else no2):=by
 obtain ⟨x,y,rfl⟩:=len2 hl
 have r0:rowAt 2 (tysC [x,y]) 0=tyC x:=by rw [tysC_row' [x,y] 0 (by simp)];rfl
 have r1:rowAt 2 (tysC [x,y]) 1=tyC y:=by rw [tysC_row' [x,y] 1 (by simp)];rfl
 rw [tyC_eq] at r0 r1
 have i0:((0:Int)<(([x,y]:List Ty).length:Int)):=by simp
 have i1:((1:Int)<(([x,y]:List Ty).length:Int)):=by simp
 show FoS e [x,y] (if x.kind=3 then (if eqTy x.args[0]! y=true then (x.args[1]!,true) else no2) else no2)
 unfold FoS
 by_cases h3:x.kind=3
 case neg =>
  rw [if_neg h3]
  refine con_runP Tryz.func236 rfl rfl (by simp [Tryz.ntmps236]) rfl ?_
  refine byP (fc hk (fc Tryz.ntmps236 Tryz.results236)) ?_
  refine sw_drawn (.cons 0 true (.cons 1 true (.cons 2 true (.cons 3 true (.cons 4 true (.cons 5 true (.cons 6 true (.cons 7 true (.cons 8 true (.cons 9 true (.cons 10 true (.cons 11 true (.cons 12 true (.cons 13 true (.cons 14 true (.cons 15 false (.cons 16 true (.nil)))))))))))))))))) (by kernel_rfl) fQP_panic (by kernel_rfl) ?_
  refine sw_run 200 _ _ _ (byP (fc i0 (fc i1 (fc r0 (fc r1 (fc h3 (fc Tryz.ntmps236 Tryz.results236)))))) ?_)
  exact ⟨⟨rfl,rfl,rfl⟩,rfl⟩
 rw [if_pos h3]
 have hvx:=hv x (by simp)
 obtain ⟨u,v,hu⟩:∃ u v,x.args=[u,v]:=by
  rcases f_kind (v_form hvx) with ⟨q,_⟩ | ⟨q,_⟩ | ⟨_,u,v,hu,_⟩ | ⟨q,_⟩
  ·omega
  ·omega
  ·exact ⟨u,v,hu⟩
  ·omega
 have hsz:=v_sz hvx
 rw [ty_ext h3 hu,fun_sz] at hsz
 have s0:rowAt 2 (tysC [u,v]) 0=tyC u:=by rw [tysC_row' [u,v] 0 (by simp)];rfl
 have s1:rowAt 2 (tysC [u,v]) 1=tyC v:=by rw [tysC_row' [u,v] 1 (by simp)];rfl
 have hE:=con_EqTyS u y (by omega)
 have hO:=conR (con_l3Copy v (by omega)) trivial
 rw [tyC_eq] at hE hO s0 s1
 rw [tyC_eq] at hE
 simp only [tysD] at hE
 simp only [List.map,toR,tysD] at hO
 rw [hu] at r0
 rw [show (if eqTy x.args[0]! y=true then (x.args[1]!,true) else no2)=(if eqTy u y=true then (v,true) else no2) from by rw [hu];rfl]
 have j0:((0:Int)<(([u,v]:List Ty).length:Int)):=by simp
 have j1:((1:Int)<(([u,v]:List Ty).length:Int)):=by simp
 by_cases b1:eqTy u y=true
 case neg =>
  rw [if_neg b1]
  rw [show eqTy u y=false by simpa using b1] at hE
  refine con_runP Tryz.func236 rfl rfl (by simp [Tryz.ntmps236]) rfl ?_
  refine byP (fc hk (fc Tryz.ntmps236 Tryz.results236)) ?_
  refine sw_drawn (.cons 0 true (.cons 1 true (.cons 2 true (.cons 3 true (.cons 4 true (.cons 5 true (.cons 6 true (.cons 7 true (.cons 8 true (.cons 9 true (.cons 10 true (.cons 11 true (.cons 12 true (.cons 13 true (.cons 14 true (.cons 15 false (.cons 16 true (.nil)))))))))))))))))) (by kernel_rfl) fQP_panic (by kernel_rfl) ?_
  refine sw_run 200 _ _ _ (byP (fc i0 (fc i1 (fc r0 (fc r1 (fc h3 (fc j0 (fc j1 (fc s0 s1)))))))) ?_)
  refine sw_callD (hE) rfl (aAs_ok (byQ True.intro)) (byQ True.intro) ?_
  refine sw_run 200 _ _ _ (byP (fc Tryz.ntmps236 Tryz.results236) ?_)
  exact ⟨⟨rfl,rfl,rfl⟩,rfl⟩
 case pos =>
  rw [if_pos b1]
  rw [b1] at hE
  refine con_runP Tryz.func236 rfl rfl (by simp [Tryz.ntmps236]) rfl ?_
  refine byP (fc hk (fc Tryz.ntmps236 Tryz.results236)) ?_
  refine sw_drawn (.cons 0 true (.cons 1 true (.cons 2 true (.cons 3 true (.cons 4 true (.cons 5 true (.cons 6 true (.cons 7 true (.cons 8 true (.cons 9 true (.cons 10 true (.cons 11 true (.cons 12 true (.cons 13 true (.cons 14 true (.cons 15 false (.cons 16 true (.nil)))))))))))))))))) (by kernel_rfl) fQP_panic (by kernel_rfl) ?_
  refine sw_run 200 _ _ _ (byP (fc i0 (fc i1 (fc r0 (fc r1 (fc h3 (fc j0 (fc j1 (fc s0 s1)))))))) ?_)
  refine sw_callD (hE) rfl (aAs_ok (byQ True.intro)) (byQ True.intro) ?_
  refine sw_run 200 _ _ _ (byP (fc i0 (fc i1 (fc r0 (fc r1 (fc h3 (fc j0 (fc j1 (fc s0 s1)))))))) ?_)
  refine sw_callPR (hO) rfl rfl rfl (byQ True.intro) (byQ True.intro) (byQ True.intro) ?_
  exact sw_run 200 _ _ _ (byP (fc Tryz.ntmps236 Tryz.results236) True.intro)
theorem con_typeS (e : Tm) (ctx : List Tg) (n : Int) (T : Ty) (b : Bool) (hz : szL (tyC T) ≤ 1000000000) (hS : ConP Tryz.prog 174 [.b (.one (.rows 4 ctx.length (flC tgC ctx))), .b (.ag (tmC e)), .b (.one (.int n))] [] [.ag [.r (.int T.kind), .r (.rows 2 T.args.length (tysC T.args))], .one (.r (.bool b))]) : ConP Tryz.prog 87 [.b (.one (.rows 4 ctx.length (flC tgC ctx))), .b (.ag (tmC e)), .b (.one (.int n))] [] [.ag [.r (.int (vd2 (T, b)).1.kind), .r (.rows 2 (vd2 (T, b)).1.args.length (tysC (vd2 (T, b)).1.args))], .one (.r (.bool (vd2 (T, b)).2))] := by
  have hV := con_ValidTyS T hz
  rw [tmC_eq] at hS
  rw [tyC_eq] at hV
  unfold vd2
  cases b with
  | false =>
    simp only [Bool.false_eq_true, if_false]
    refine con_runP Tryz.func87 rfl rfl (by simp [Tryz.ntmps87]) rfl ?_
    refine byP (fc Tryz.ntmps87 Tryz.results87) ?_
    refine sw_callPR (hS) rfl rfl rfl (byQ True.intro) (byQ True.intro) (byQ True.intro) ?_
    refine sw_run 200 _ _ _ (byP (fc Tryz.ntmps87 Tryz.results87) ?_)
    exact ⟨⟨rfl, rfl, rfl⟩, rfl⟩
  | true =>
    simp only [if_true]
    cases hv : vTy T with
    | false =>
      rw [hv] at hV
      simp only [Bool.false_eq_true, if_false]
      refine con_runP Tryz.func87 rfl rfl (by simp [Tryz.ntmps87]) rfl ?_
      refine byP (fc Tryz.ntmps87 Tryz.results87) ?_
      refine sw_callPR (hS) rfl rfl rfl (byQ True.intro) (byQ True.intro) (byQ True.intro) ?_
      refine sw_run 200 _ _ _ (byQ ?_)
      refine sw_call (hV) rfl (aAs_ok (byQ True.intro)) (byQ True.intro) ?_
      refine sw_run 200 _ _ _ (byP (fc Tryz.ntmps87 Tryz.results87) ?_)
      exact ⟨⟨rfl, rfl, rfl⟩, rfl⟩
    | true =>
      rw [hv] at hV
      simp only [if_true]
      refine con_runP Tryz.func87 rfl rfl (by simp [Tryz.ntmps87]) rfl ?_
      refine byP (fc Tryz.ntmps87 Tryz.results87) ?_
      refine sw_callPR (hS) rfl rfl rfl (byQ True.intro) (byQ True.intro) (byQ True.intro) ?_
      refine sw_run 200 _ _ _ (byQ ?_)
      refine sw_call (hV) rfl (aAs_ok (byQ True.intro)) (byQ True.intro) ?_
      exact sw_run 200 _ _ _ (byP (fc Tryz.ntmps87 Tryz.results87) True.intro)
def BiS (e:Tm) (ctx:List Tg) (n:Int) (T:Ty) (b:Bool):Prop:=ConP Tryz.prog 234 [.b (.one (.rows 4 ctx.length (flC tgC ctx))),.b (.ag (tmC e)),.b (.one (.int n))] [] [.ag [.r (.int T.kind),.r (.rows 2 T.args.length (tysC T.args))],.one (.r (.bool b))]
set_option maxHeartbeats 4000000 in
theorem con_bi6 (e:Tm) (ctx:List Tg) (n:Int) (hk:e.kind=6) (hl:e.args.length=1) (hc:CtxW ctx e) (hy:szL (tyC e.ty)≤1000000) (B:Ty) (zB:Zv B) (h0:ConP Tryz.prog 87 [.b (.one (.rows 4 (ctx++[(⟨e.name,e.ty,n⟩:Tg)]).length (flC tgC (ctx++[(⟨e.name,e.ty,n⟩:Tg)])))),.b (.ag (tmC e.args[0]!)),.b (.one (.int n))] [] [.ag [.r (.int B.kind),.r (.rows 2 B.args.length (tysC B.args))],.one (.r (.bool (decide (B.kind≠0))))]):BiS e ctx n (.mk 3 [e.ty,B]) (decide (B.kind≠0)):=by
 have hcl:ctx.length≤1000000000∧szL (flC tgC ctx)≤1000000000:=by
  unfold CtxW at hc;omega
 unfold BiS
 have i0:(0:Int)<(e.args.length:Int):=by omega
 have r0:=tmsC_row' e.args 0 (by omega)
 have hW:=con_withS ctx ⟨e.name,e.ty,n⟩ (by omega)
 have hO:=conR (con_l3Fun e.ty B (by omega) (by have:=zv_sz zB;omega)) trivial
 simp only at hW
 generalize ctx++[(⟨e.name,e.ty,n⟩:Tg)]=ctx' at *
 rw [tyC_eq,tyC_eq] at hO
 simp only [List.map_cons,List.map_nil,toR,tysD,tyC,List.length_cons,List.length_nil,Nat.zero_add,Nat.reduceAdd] at hO
 rw [tmC_eq] at h0
 generalize decide (B.kind≠0)=b at *
 refine con_runP Tryz.func234 rfl rfl (by simp [Tryz.ntmps234]) rfl ?_
 refine byP (fc hk (fc Tryz.ntmps234 Tryz.results234)) ?_
 refine sw_drawn (.cons 0 true (.cons 1 true (.cons 2 true (.cons 3 true (.cons 4 true (.cons 5 true (.cons 7 true (.cons 8 true (.cons 9 true (.cons 10 true (.cons 11 true (.fork (.alt 6 (.fork (.alt 12 (.cons 13 true (.cons 14 true (.fork (.alt 15 (.cons 16 false (.cons 17 false (.cons 18 true (.nil)))) (.alt 16 (.fork (.alt 15 (.cons 17 false (.cons 18 true (.nil))) (.alt 17 (.cons 15 true (.cons 18 true (.nil))) (.last)))) (.last)))))) (.alt 16 (.cons 12 false (.cons 13 true (.cons 14 true (.fork (.alt 15 (.cons 17 false (.cons 18 true (.nil))) (.alt 17 (.cons 15 true (.cons 18 true (.nil))) (.last))))))) (.last)))) (.alt 16 (.cons 6 false (.cons 12 false (.cons 13 true (.cons 14 true (.fork (.alt 15 (.cons 17 false (.cons 18 true (.nil))) (.alt 17 (.cons 15 true (.cons 18 true (.nil))) (.last)))))))) (.last))))))))))))))) (by kernel_rfl) fQP_panic (by kernel_rfl) ?_
 refine sw_run 200 _ _ _ (byP (fc i0 r0) ?_)
 repeat' (with_reducible apply And.intro)
 all_goals
  refine sw_callDPB (cap:=[]) (hW) rfl rfl rfl (byQ True.intro) ?_
  refine sw_run 200 _ _ _ (byP (fc i0 r0) ?_)
 repeat' (with_reducible apply And.intro)
 all_goals
  refine sw_callDPB (cap:=[]) (h0) rfl rfl rfl (byQ True.intro) ?_
 all_goals
  refine sw_run 200 _ _ _ (byP hk ?_)
 repeat' (with_reducible apply And.intro)
 all_goals
  refine sw_callPR (hO) rfl rfl rfl (byQ True.intro) (byQ True.intro) (byQ True.intro) ?_
 all_goals
  refine sw_run 200 _ _ _ (byP (fc Tryz.ntmps234 Tryz.results234) ?_)
 repeat' (with_reducible apply And.intro)
 all_goals first | exact True.intro | rfl
set_option maxHeartbeats 4000000 in
theorem con_bi8 (e:Tm) (ctx:List Tg) (n:Int) (hk:e.kind=8) (hl:e.args.length=2) (hc:CtxW ctx e) (A:Ty) (zA:Zv A) (h0:ConP Tryz.prog 87 [.b (.one (.rows 4 ctx.length (flC tgC ctx))),.b (.ag (tmC e.args[0]!)),.b (.one (.int n))] [] [.ag [.r (.int A.kind),.r (.rows 2 A.args.length (tysC A.args))],.one (.r (.bool (decide (A.kind≠0))))]) (B:Ty) (h1:ConP Tryz.prog 87 [.b (.one (.rows 4 (ctx++[(⟨e.name,A,n⟩:Tg)]).length (flC tgC (ctx++[(⟨e.name,A,n⟩:Tg)])))),.b (.ag (tmC e.args[1]!)),.b (.one (.int n))] [] [.ag [.r (.int B.kind),.r (.rows 2 B.args.length (tysC B.args))],.one (.r (.bool (decide (B.kind≠0))))]):BiS e ctx n (if A.kind≠0 then B else z0) (if A.kind≠0 then decide (B.kind≠0) else false):=by
 have hcl:ctx.length≤1000000000∧szL (flC tgC ctx)≤1000000000:=by
  unfold CtxW at hc;omega
 unfold BiS
 have i0:(0:Int)<(e.args.length:Int):=by omega
 have r0:=tmsC_row' e.args 0 (by omega)
 have i1:(1:Int)<(e.args.length:Int):=by omega
 have r1:=tmsC_row' e.args 1 (by omega)
 have hW:=con_withS ctx ⟨e.name,A,n⟩ (by omega)
 simp only at hW
 generalize ctx++[(⟨e.name,A,n⟩:Tg)]=ctx' at *
 rw [tmC_eq] at h0 h1
 generalize decide (B.kind≠0)=b at *
 by_cases hb:A.kind≠0
 case neg =>
  rw [if_neg hb,if_neg hb]
  rw [decide_eq_false hb] at h0
  refine con_runP Tryz.func234 rfl rfl (by simp [Tryz.ntmps234]) rfl ?_
  refine byP (fc hk (fc i0 (fc r0 (fc Tryz.ntmps234 Tryz.results234)))) ?_
  refine sw_callPR (h0) rfl rfl rfl (byQ True.intro) (byQ True.intro) (byQ True.intro) ?_
  refine sw_run 200 _ _ _ (byP (fc Tryz.ntmps234 Tryz.results234) ?_)
  repeat' (with_reducible apply And.intro)
  all_goals first | exact True.intro | rfl
 rw [if_pos hb,if_pos hb]
 rw [decide_eq_true hb] at h0
 refine con_runP Tryz.func234 rfl rfl (by simp [Tryz.ntmps234]) rfl ?_
 refine byP (fc hk (fc i0 (fc r0 (fc Tryz.ntmps234 Tryz.results234)))) ?_
 refine sw_callPR (h0) rfl rfl rfl (byQ True.intro) (byQ True.intro) (byQ True.intro) ?_
 refine sw_run 200 _ _ _ (byQ ?_)
 refine sw_drawn (.cons 0 true (.cons 1 true (.cons 2 true (.cons 3 true (.cons 4 true (.cons 6 true (.cons 7 true (.cons 8 true (.cons 9 true (.cons 10 true (.fork (.alt 5 (.fork (.alt 11 (.cons 12 true (.cons 13 true (.fork (.alt 14 (.cons 15 false (.cons 16 false (.cons 17 true (.nil)))) (.alt 15 (.fork (.alt 14 (.cons 16 false (.cons 17 true (.nil))) (.alt 16 (.cons 14 true (.cons 17 true (.nil))) (.last)))) (.last)))))) (.alt 15 (.cons 11 false (.cons 12 true (.cons 13 true (.fork (.alt 14 (.cons 16 false (.cons 17 true (.nil))) (.alt 16 (.cons 14 true (.cons 17 true (.nil))) (.last))))))) (.last)))) (.alt 15 (.cons 5 false (.cons 11 false (.cons 12 true (.cons 13 true (.fork (.alt 14 (.cons 16 false (.cons 17 true (.nil))) (.alt 16 (.cons 14 true (.cons 17 true (.nil))) (.last)))))))) (.last)))))))))))))) (by kernel_rfl) fQP_panic (by kernel_rfl) ?_
 refine sw_run 200 _ _ _ (byP (fc i1 r1) ?_)
 repeat' (with_reducible apply And.intro)
 all_goals
  refine sw_callDPB (cap:=[]) (hW) rfl rfl rfl (byQ True.intro) ?_
  refine sw_run 200 _ _ _ (byP (fc i1 r1) ?_)
 repeat' (with_reducible apply And.intro)
 all_goals
  refine sw_callDPB (cap:=[]) (h1) rfl rfl rfl (byQ True.intro) ?_
 all_goals
  refine sw_run 200 _ _ _ (byP (fc Tryz.ntmps234 Tryz.results234) ?_)
 repeat' (with_reducible apply And.intro)
 all_goals first | exact True.intro | rfl
set_option maxHeartbeats 4000000 in
theorem con_bi9 (e:Tm) (ctx:List Tg) (n:Int) (hk:e.kind=9) (hl:e.args.length=1) (hc:CtxW ctx e) (hy:szL (tyC e.ty)≤1000000) (hy2:szL (tyC e.res)≤1000000) (B:Ty) (zB:Zv B) (h0:ConP Tryz.prog 87 [.b (.one (.rows 4 (ctx++[(⟨e.name,.mk 3 [e.ty,e.res],n⟩:Tg),⟨e.other,e.ty,n⟩]).length (flC tgC (ctx++[(⟨e.name,.mk 3 [e.ty,e.res],n⟩:Tg),⟨e.other,e.ty,n⟩])))),.b (.ag (tmC e.args[0]!)),.b (.one (.int n))] [] [.ag [.r (.int B.kind),.r (.rows 2 B.args.length (tysC B.args))],.one (.r (.bool (decide (B.kind≠0))))]):BiS e ctx n (.mk 3 [e.ty,e.res]) (decide (B.kind≠0) && eqTy B e.res):=by
 have hcl:ctx.length≤1000000000∧szL (flC tgC ctx)≤1000000000:=by
  unfold CtxW at hc;omega
 unfold BiS
 have i0:(0:Int)<(e.args.length:Int):=by omega
 have r0:=tmsC_row' e.args 0 (by omega)
 have hW:=con_withS ctx ⟨e.name,.mk 3 [e.ty,e.res],n⟩ (by omega)
 have hW2:=con_withS (ctx++[⟨e.name,.mk 3 [e.ty,e.res],n⟩]) ⟨e.other,e.ty,n⟩ (by simp;omega)
 have hO:=conR (con_l3Fun e.ty e.res (by omega) (by omega)) trivial
 have hE:=con_EqTyS B e.res (by have:=zv_sz zB;omega)
 rw [List.append_assoc,show [(⟨e.name,.mk 3 [e.ty,e.res],n⟩:Tg)]++[⟨e.other,e.ty,n⟩]=[⟨e.name,.mk 3 [e.ty,e.res],n⟩,⟨e.other,e.ty,n⟩] from rfl] at hW2
 simp only at hW hW2
 generalize ctx++[(⟨e.name,.mk 3 [e.ty,e.res],n⟩:Tg),⟨e.other,e.ty,n⟩]=ctx2 at *
 generalize ctx++[(⟨e.name,.mk 3 [e.ty,e.res],n⟩:Tg)]=ctx1 at *
 rw [show (Ty.mk 3 [e.ty,e.res]).kind=3 from rfl,show (Ty.mk 3 [e.ty,e.res]).args=[e.ty,e.res] from rfl] at hW
 simp only [List.length_cons,List.length_nil,Nat.zero_add,Nat.reduceAdd] at hW
 rw [tyC_eq,tyC_eq] at hO
 simp only [List.map_cons,List.map_nil,toR,tysD,tyC,List.length_cons,List.length_nil,Nat.zero_add,Nat.reduceAdd] at hO
 rw [tmC_eq] at h0
 rw [tyC_eq] at hE
 rw [tyC_eq] at hE
 simp only [tysD] at hE
 generalize eqTy B e.res=c at *
 by_cases hb:B.kind≠0
 case pos =>
  rw [decide_eq_true hb] at h0 ⊢
  rw [Bool.true_and]
  refine con_runP Tryz.func234 rfl rfl (by simp [Tryz.ntmps234]) rfl ?_
  refine byP (fc hk (fc Tryz.ntmps234 Tryz.results234)) ?_
  refine sw_callPR (hO) rfl rfl rfl (byQ True.intro) (byQ True.intro) (byQ True.intro) ?_
  refine sw_run 200 _ _ _ (byQ ?_)
  refine sw_drawn (.cons 0 true (.cons 1 true (.cons 2 true (.cons 3 true (.cons 4 true (.cons 6 true (.cons 7 true (.cons 8 true (.cons 9 true (.cons 10 true (.cons 12 true (.cons 13 true (.cons 14 true (.cons 15 true (.cons 16 true (.fork (.alt 5 (.fork (.alt 11 (.fork (.alt 17 (.cons 18 true (.cons 19 true (.fork (.alt 20 (.cons 21 false (.cons 22 false (.cons 23 true (.nil)))) (.alt 21 (.fork (.alt 20 (.cons 22 false (.cons 23 true (.nil))) (.alt 22 (.cons 20 true (.cons 23 true (.nil))) (.last)))) (.last)))))) (.alt 21 (.cons 17 false (.cons 18 true (.cons 19 true (.fork (.alt 20 (.cons 22 false (.cons 23 true (.nil))) (.alt 22 (.cons 20 true (.cons 23 true (.nil))) (.last))))))) (.last)))) (.alt 21 (.cons 11 false (.cons 17 false (.cons 18 true (.cons 19 true (.fork (.alt 20 (.cons 22 false (.cons 23 true (.nil))) (.alt 22 (.cons 20 true (.cons 23 true (.nil))) (.last)))))))) (.last)))) (.alt 21 (.cons 5 false (.cons 11 false (.cons 17 false (.cons 18 true (.cons 19 true (.fork (.alt 20 (.cons 22 false (.cons 23 true (.nil))) (.alt 22 (.cons 20 true (.cons 23 true (.nil))) (.last))))))))) (.last))))))))))))))))))) (by kernel_rfl) fQP_panic (by kernel_rfl) ?_
  refine sw_run 200 _ _ _ (byP (fc i0 r0) ?_)
  repeat' (with_reducible apply And.intro)
  all_goals
   refine sw_callDPB (cap:=[]) (hW) rfl rfl rfl (byQ True.intro) ?_
  all_goals
   refine sw_run 200 _ _ _ (byP (fc i0 r0) ?_)
   repeat' (with_reducible apply And.intro)
  all_goals
   refine sw_callDPB (cap:=[]) (hW2) rfl rfl rfl (byQ True.intro) ?_
  all_goals
   refine sw_run 200 _ _ _ (byP (fc i0 r0) ?_)
   repeat' (with_reducible apply And.intro)
  all_goals
   refine sw_callDPB (cap:=[]) (h0) rfl rfl rfl (byQ True.intro) ?_
  all_goals
   refine sw_run 200 _ _ _ (byQ ?_)
   repeat' (with_reducible apply And.intro)
  all_goals
   refine sw_drawn (.cons 0 true (.cons 1 true (.cons 2 true (.cons 3 true (.cons 4 true (.cons 5 true (.cons 6 false (.fork (.alt 7 (.cons 8 false (.cons 9 true (.nil))) (.alt 8 (.cons 7 true (.cons 9 true (.nil))) (.last))))))))))) (by kernel_rfl) fQP_panic (by kernel_rfl) ?_
   refine sw_run 200 _ _ _ (byQ ?_)
   repeat' (with_reducible apply And.intro)
  all_goals
   refine sw_callD (hE) rfl (aAs_ok (byQ True.intro)) (byQ True.intro) ?_
  all_goals
   refine sw_run 200 _ _ _ (byP (fc Tryz.ntmps234 Tryz.results234) ?_)
  repeat' (with_reducible apply And.intro)
  all_goals first | exact True.intro | rfl
 case neg =>
  rw [decide_eq_false hb] at h0 ⊢
  rw [Bool.false_and]
  refine con_runP Tryz.func234 rfl rfl (by simp [Tryz.ntmps234]) rfl ?_
  refine byP (fc hk (fc Tryz.ntmps234 Tryz.results234)) ?_
  refine sw_callPR (hO) rfl rfl rfl (byQ True.intro) (byQ True.intro) (byQ True.intro) ?_
  refine sw_run 200 _ _ _ (byQ ?_)
  refine sw_drawn (.cons 0 true (.cons 1 true (.cons 2 true (.cons 3 true (.cons 4 true (.cons 6 true (.cons 7 true (.cons 8 true (.cons 9 true (.cons 10 true (.cons 12 true (.cons 13 true (.cons 14 true (.cons 15 true (.cons 16 true (.fork (.alt 5 (.fork (.alt 11 (.fork (.alt 17 (.cons 18 true (.cons 19 true (.fork (.alt 20 (.cons 21 false (.cons 22 false (.cons 23 true (.nil)))) (.alt 21 (.fork (.alt 20 (.cons 22 false (.cons 23 true (.nil))) (.alt 22 (.cons 20 true (.cons 23 true (.nil))) (.last)))) (.last)))))) (.alt 21 (.cons 17 false (.cons 18 true (.cons 19 true (.fork (.alt 20 (.cons 22 false (.cons 23 true (.nil))) (.alt 22 (.cons 20 true (.cons 23 true (.nil))) (.last))))))) (.last)))) (.alt 21 (.cons 11 false (.cons 17 false (.cons 18 true (.cons 19 true (.fork (.alt 20 (.cons 22 false (.cons 23 true (.nil))) (.alt 22 (.cons 20 true (.cons 23 true (.nil))) (.last)))))))) (.last)))) (.alt 21 (.cons 5 false (.cons 11 false (.cons 17 false (.cons 18 true (.cons 19 true (.fork (.alt 20 (.cons 22 false (.cons 23 true (.nil))) (.alt 22 (.cons 20 true (.cons 23 true (.nil))) (.last))))))))) (.last))))))))))))))))))) (by kernel_rfl) fQP_panic (by kernel_rfl) ?_
  refine sw_run 200 _ _ _ (byP (fc i0 r0) ?_)
  repeat' (with_reducible apply And.intro)
  all_goals
   refine sw_callDPB (cap:=[]) (hW) rfl rfl rfl (byQ True.intro) ?_
  all_goals
   refine sw_run 200 _ _ _ (byP (fc i0 r0) ?_)
   repeat' (with_reducible apply And.intro)
  all_goals
   refine sw_callDPB (cap:=[]) (hW2) rfl rfl rfl (byQ True.intro) ?_
  all_goals
   refine sw_run 200 _ _ _ (byP (fc i0 r0) ?_)
   repeat' (with_reducible apply And.intro)
  all_goals
   refine sw_callDPB (cap:=[]) (h0) rfl rfl rfl (byQ True.intro) ?_
  all_goals
   refine sw_run 200 _ _ _ (byQ ?_)
   repeat' (with_reducible apply And.intro)
  all_goals
   refine sw_drawn (.cons 0 true (.cons 1 true (.cons 2 true (.cons 3 true (.cons 4 true (.cons 5 true (.cons 6 false (.fork (.alt 7 (.cons 8 false (.cons 9 true (.nil))) (.alt 8 (.cons 7 true (.cons 9 true (.nil))) (.last))))))))))) (by kernel_rfl) fQP_panic (by kernel_rfl) ?_
   refine sw_run 200 _ _ _ (byP (fc Tryz.ntmps234 Tryz.results234) ?_)
   repeat' (with_reducible apply And.intro)
  repeat' (with_reducible apply And.intro)
  all_goals first | exact True.intro | rfl
end Go.Proofs.YtaidalilfmjfgaaGreat
