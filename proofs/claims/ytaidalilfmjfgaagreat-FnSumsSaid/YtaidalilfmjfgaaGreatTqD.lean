import Derived.Test.YtaidalilfmjfgaaGreatTqC
namespace Go.Proofs.YtaidalilfmjfgaaGreat
open Go.RowKit
set_option linter.unusedVariables false
set_option linter.unusedSimpArgs false
set_option maxRecDepth 20000
def SgS (e:Tm) (ctx:List Tg) (n:Int) (r:Ty × Bool):Prop:=ConP Tryz.prog 235 [.b (.one (.rows 4 ctx.length (flC tgC ctx))),.b (.ag (tmC e)),.b (.one (.int n))] [] [.ag [.r (.int r.1.kind),.r (.rows 2 r.1.args.length (tysC r.1.args))],.one (.r (.bool r.2))]
set_option maxHeartbeats 4000000 in
theorem con_sg10 (e:Tm) (ctx:List Tg) (n:Int) (hk:e.kind=10) (hl:e.args.length=1) (hn0 : -2000000000≤n∧n≤2000000000) (hc:CtxW ctx e) (B:Ty) (zB:Zv B) (h0:ConP Tryz.prog 87 [.b (.one (.rows 4 ctx.length (flC tgC ctx))),.b (.ag (tmC e.args[0]!)),.b (.one (.int (n+1)))] [] [.ag [.r (.int B.kind),.r (.rows 2 B.args.length (tysC B.args))],.one (.r (.bool (decide (B.kind≠0))))]):SgS e ctx n (if B.kind≠0 then (.mk 4 [B],true) else no2):=by
 have hcl:ctx.length≤1000000000∧szL (flC tgC ctx)≤1000000000:=by
  unfold CtxW at hc;omega
 have i0:(0:Int)<(e.args.length:Int):=by omega
 have r0:=tmsC_row' e.args 0 (by omega)
 have hL:=con_plS e n (by omega)
 rw [tmC_eq,hk] at hL
 rw [show plF 10 n=(n+1) from by unfold plF;simp] at hL
 rw [tmC_eq] at h0
 by_cases hb:B.kind≠0
 case neg =>
  rw [decide_eq_false hb] at h0
  rw [if_neg hb]
  unfold SgS
  refine con_runP Tryz.func235 rfl rfl (by simp [Tryz.ntmps235]) rfl ?_
  refine byP (fc hk (fc Tryz.ntmps235 Tryz.results235)) ?_
  refine sw_drawn (.cons 0 true (.cons 1 true (.cons 2 true (.cons 3 true (.cons 4 true (.cons 5 true (.cons 6 true (.fork (.alt 7 (.fork (.alt 8 (.cons 9 true (.cons 10 true (.fork (.alt 11 (.cons 12 false (.cons 13 false (.cons 14 true (.nil)))) (.alt 12 (.fork (.alt 11 (.cons 13 false (.cons 14 true (.nil))) (.alt 13 (.cons 11 true (.cons 14 true (.nil))) (.last)))) (.last)))))) (.alt 12 (.cons 8 false (.cons 9 true (.cons 10 true (.fork (.alt 11 (.cons 13 false (.cons 14 true (.nil))) (.alt 13 (.cons 11 true (.cons 14 true (.nil))) (.last))))))) (.last)))) (.alt 12 (.cons 7 false (.cons 8 false (.cons 9 true (.cons 10 true (.fork (.alt 11 (.cons 13 false (.cons 14 true (.nil))) (.alt 13 (.cons 11 true (.cons 14 true (.nil))) (.last)))))))) (.last))))))))))) (by kernel_rfl) fQP_panic (by kernel_rfl) ?_
  refine sw_run 200 _ _ _ (byP (fc hk (fc i0 r0)) ?_)
  repeat' (with_reducible apply And.intro)
  all_goals
   refine sw_callD (hL) rfl (aAs_ok (byQ True.intro)) (byQ True.intro) ?_
  all_goals
   refine sw_run 200 _ _ _ (byP (fc hk (fc i0 r0)) ?_)
   repeat' (with_reducible apply And.intro)
  all_goals
   refine sw_callDPB (cap:=[]) (h0) rfl rfl rfl (byQ True.intro) ?_
  all_goals
   refine sw_run 200 _ _ _ (byP (fc hk (fc Tryz.ntmps235 Tryz.results235)) ?_)
  repeat' (with_reducible apply And.intro)
  all_goals first | exact True.intro | rfl
 rw [decide_eq_true hb] at h0
 rw [if_pos hb]
 have hsz:=zv_sz zB
 have hO:=conR (con_l3Code B (by omega)) trivial
 rw [tyC_eq] at hO
 simp only [List.map_cons,List.map_nil,toR,tysD,tyC,List.length_cons,List.length_nil,Nat.zero_add,Nat.reduceAdd] at hO
 unfold SgS
 refine con_runP Tryz.func235 rfl rfl (by simp [Tryz.ntmps235]) rfl ?_
 refine byP (fc hk (fc Tryz.ntmps235 Tryz.results235)) ?_
 refine sw_drawn (.cons 0 true (.cons 1 true (.cons 2 true (.cons 3 true (.cons 4 true (.cons 5 true (.cons 6 true (.fork (.alt 7 (.fork (.alt 8 (.cons 9 true (.cons 10 true (.fork (.alt 11 (.cons 12 false (.cons 13 false (.cons 14 true (.nil)))) (.alt 12 (.fork (.alt 11 (.cons 13 false (.cons 14 true (.nil))) (.alt 13 (.cons 11 true (.cons 14 true (.nil))) (.last)))) (.last)))))) (.alt 12 (.cons 8 false (.cons 9 true (.cons 10 true (.fork (.alt 11 (.cons 13 false (.cons 14 true (.nil))) (.alt 13 (.cons 11 true (.cons 14 true (.nil))) (.last))))))) (.last)))) (.alt 12 (.cons 7 false (.cons 8 false (.cons 9 true (.cons 10 true (.fork (.alt 11 (.cons 13 false (.cons 14 true (.nil))) (.alt 13 (.cons 11 true (.cons 14 true (.nil))) (.last)))))))) (.last))))))))))) (by kernel_rfl) fQP_panic (by kernel_rfl) ?_
 refine sw_run 200 _ _ _ (byP (fc hk (fc i0 r0)) ?_)
 repeat' (with_reducible apply And.intro)
 all_goals
  refine sw_callD (hL) rfl (aAs_ok (byQ True.intro)) (byQ True.intro) ?_
 all_goals
  refine sw_run 200 _ _ _ (byP (fc hk (fc i0 r0)) ?_)
  repeat' (with_reducible apply And.intro)
 all_goals
  refine sw_callDPB (cap:=[]) (h0) rfl rfl rfl (byQ True.intro) ?_
 all_goals
  refine sw_run 200 _ _ _ (byP hk ?_)
  repeat' (with_reducible apply And.intro)
 all_goals
  refine sw_callPR (hO) rfl rfl rfl (byQ True.intro) (byQ True.intro) (byQ True.intro) ?_
 all_goals
  refine sw_run 200 _ _ _ (byP (fc Tryz.ntmps235 Tryz.results235) ?_)
 repeat' (with_reducible apply And.intro)
 all_goals first | exact True.intro | rfl
set_option maxHeartbeats 4000000 in
theorem con_sg11 (e:Tm) (ctx:List Tg) (n:Int) (hk:e.kind=11) (hl:e.args.length=1) (hn0 : -2000000000≤n∧n≤2000000000) (hc:CtxW ctx e) (B:Ty) (zB:Zv B) (h0:ConP Tryz.prog 87 [.b (.one (.rows 4 ctx.length (flC tgC ctx))),.b (.ag (tmC e.args[0]!)),.b (.one (.int (n-1)))] [] [.ag [.r (.int B.kind),.r (.rows 2 B.args.length (tysC B.args))],.one (.r (.bool (decide (B.kind≠0))))]):SgS e ctx n (if B.kind≠0 then (if B.kind=4 then (B.args[0]!,true) else no2) else no2):=by
 have hcl:ctx.length≤1000000000∧szL (flC tgC ctx)≤1000000000:=by
  unfold CtxW at hc;omega
 have i0:(0:Int)<(e.args.length:Int):=by omega
 have r0:=tmsC_row' e.args 0 (by omega)
 have hL:=con_plS e n (by omega)
 rw [tmC_eq,hk] at hL
 rw [show plF 11 n=(n-1) from by unfold plF;simp] at hL
 rw [tmC_eq] at h0
 by_cases hb:B.kind≠0
 case neg =>
  rw [decide_eq_false hb] at h0
  rw [if_neg hb]
  unfold SgS
  refine con_runP Tryz.func235 rfl rfl (by simp [Tryz.ntmps235]) rfl ?_
  refine byP (fc hk (fc Tryz.ntmps235 Tryz.results235)) ?_
  refine sw_drawn (.cons 0 true (.cons 1 true (.cons 2 true (.cons 3 true (.cons 4 true (.cons 5 true (.cons 6 true (.fork (.alt 7 (.fork (.alt 8 (.cons 9 true (.cons 10 true (.fork (.alt 11 (.cons 12 false (.cons 13 false (.cons 14 true (.nil)))) (.alt 12 (.fork (.alt 11 (.cons 13 false (.cons 14 true (.nil))) (.alt 13 (.cons 11 true (.cons 14 true (.nil))) (.last)))) (.last)))))) (.alt 12 (.cons 8 false (.cons 9 true (.cons 10 true (.fork (.alt 11 (.cons 13 false (.cons 14 true (.nil))) (.alt 13 (.cons 11 true (.cons 14 true (.nil))) (.last))))))) (.last)))) (.alt 12 (.cons 7 false (.cons 8 false (.cons 9 true (.cons 10 true (.fork (.alt 11 (.cons 13 false (.cons 14 true (.nil))) (.alt 13 (.cons 11 true (.cons 14 true (.nil))) (.last)))))))) (.last))))))))))) (by kernel_rfl) fQP_panic (by kernel_rfl) ?_
  refine sw_run 200 _ _ _ (byP (fc hk (fc i0 r0)) ?_)
  repeat' (with_reducible apply And.intro)
  all_goals
   refine sw_callD (hL) rfl (aAs_ok (byQ True.intro)) (byQ True.intro) ?_
  all_goals
   refine sw_run 200 _ _ _ (byP (fc hk (fc i0 r0)) ?_)
   repeat' (with_reducible apply And.intro)
  all_goals
   refine sw_callDPB (cap:=[]) (h0) rfl rfl rfl (byQ True.intro) ?_
  all_goals
   refine sw_run 200 _ _ _ (byP (fc hk (fc Tryz.ntmps235 Tryz.results235)) ?_)
  repeat' (with_reducible apply And.intro)
  all_goals first | exact True.intro | rfl
 rw [decide_eq_true hb] at h0
 rw [if_pos hb]
 have hsz:=zv_sz zB
 by_cases h4:B.kind=4
 case neg =>
  rw [if_neg h4]
  unfold SgS
  refine con_runP Tryz.func235 rfl rfl (by simp [Tryz.ntmps235]) rfl ?_
  refine byP (fc hk (fc Tryz.ntmps235 Tryz.results235)) ?_
  refine sw_drawn (.cons 0 true (.cons 1 true (.cons 2 true (.cons 3 true (.cons 4 true (.cons 5 true (.cons 6 true (.fork (.alt 7 (.fork (.alt 8 (.cons 9 true (.cons 10 true (.fork (.alt 11 (.cons 12 false (.cons 13 false (.cons 14 true (.nil)))) (.alt 12 (.fork (.alt 11 (.cons 13 false (.cons 14 true (.nil))) (.alt 13 (.cons 11 true (.cons 14 true (.nil))) (.last)))) (.last)))))) (.alt 12 (.cons 8 false (.cons 9 true (.cons 10 true (.fork (.alt 11 (.cons 13 false (.cons 14 true (.nil))) (.alt 13 (.cons 11 true (.cons 14 true (.nil))) (.last))))))) (.last)))) (.alt 12 (.cons 7 false (.cons 8 false (.cons 9 true (.cons 10 true (.fork (.alt 11 (.cons 13 false (.cons 14 true (.nil))) (.alt 13 (.cons 11 true (.cons 14 true (.nil))) (.last)))))))) (.last))))))))))) (by kernel_rfl) fQP_panic (by kernel_rfl) ?_
  refine sw_run 200 _ _ _ (byP (fc hk (fc i0 r0)) ?_)
  repeat' (with_reducible apply And.intro)
  all_goals
   refine sw_callD (hL) rfl (aAs_ok (byQ True.intro)) (byQ True.intro) ?_
  all_goals
   refine sw_run 200 _ _ _ (byP (fc hk (fc i0 r0)) ?_)
   repeat' (with_reducible apply And.intro)
  all_goals
   refine sw_callDPB (cap:=[]) (h0) rfl rfl rfl (byQ True.intro) ?_
  all_goals
   refine sw_run 200 _ _ _ (byP (fc hk (fc h4 (fc Tryz.ntmps235 Tryz.results235))) ?_)
  repeat' (with_reducible apply And.intro)
  all_goals first | exact True.intro | rfl
 rw [if_pos h4]
 have hv:=zv_ne zB (by omega)
 obtain ⟨u,hu⟩:∃ u,B.args=[u]:=by
  rcases f_kind (v_form hv) with ⟨q,_⟩ | ⟨q,_⟩ | ⟨q,_⟩ | ⟨_,u,hu,_⟩
  ·omega
  ·omega
  ·omega
  ·exact ⟨u,hu⟩
 rw [ty_ext h4 hu,code_sz] at hsz
 have hO:=conR (con_l3Copy u (by omega)) trivial
 have s0:rowAt 2 (tysC [u]) 0=tyC u:=by rw [tysC_row' [u] 0 (by simp)];rfl
 have j0:((0:Int)<(([u]:List Ty).length:Int)):=by simp
 rw [tyC_eq] at hO s0
 simp only [List.map,toR,tysD] at hO
 rw [h4,hu] at h0
 rw [show B.args[0]! = u from by rw [hu];rfl]
 unfold SgS
 refine con_runP Tryz.func235 rfl rfl (by simp [Tryz.ntmps235]) rfl ?_
 refine byP (fc hk (fc Tryz.ntmps235 Tryz.results235)) ?_
 refine sw_drawn (.cons 0 true (.cons 1 true (.cons 2 true (.cons 3 true (.cons 4 true (.cons 5 true (.cons 6 true (.fork (.alt 7 (.fork (.alt 8 (.cons 9 true (.cons 10 true (.fork (.alt 11 (.cons 12 false (.cons 13 false (.cons 14 true (.nil)))) (.alt 12 (.fork (.alt 11 (.cons 13 false (.cons 14 true (.nil))) (.alt 13 (.cons 11 true (.cons 14 true (.nil))) (.last)))) (.last)))))) (.alt 12 (.cons 8 false (.cons 9 true (.cons 10 true (.fork (.alt 11 (.cons 13 false (.cons 14 true (.nil))) (.alt 13 (.cons 11 true (.cons 14 true (.nil))) (.last))))))) (.last)))) (.alt 12 (.cons 7 false (.cons 8 false (.cons 9 true (.cons 10 true (.fork (.alt 11 (.cons 13 false (.cons 14 true (.nil))) (.alt 13 (.cons 11 true (.cons 14 true (.nil))) (.last)))))))) (.last))))))))))) (by kernel_rfl) fQP_panic (by kernel_rfl) ?_
 refine sw_run 200 _ _ _ (byP (fc hk (fc i0 r0)) ?_)
 repeat' (with_reducible apply And.intro)
 all_goals
  refine sw_callD (hL) rfl (aAs_ok (byQ True.intro)) (byQ True.intro) ?_
 all_goals
  refine sw_run 200 _ _ _ (byP (fc hk (fc i0 r0)) ?_)
  repeat' (with_reducible apply And.intro)
 all_goals
  refine sw_callDPB (cap:=[]) (h0) rfl rfl rfl (byQ True.intro) ?_
 all_goals
  refine sw_run 200 _ _ _ (byP (fc hk (fc j0 s0)) ?_)
  repeat' (with_reducible apply And.intro)
 all_goals
  refine sw_callPR (hO) rfl rfl rfl (byQ True.intro) (byQ True.intro) (byQ True.intro) ?_
 all_goals
  refine sw_run 200 _ _ _ (byP (fc Tryz.ntmps235 Tryz.results235) ?_)
 repeat' (with_reducible apply And.intro)
 all_goals first | exact True.intro | rfl
set_option maxHeartbeats 4000000 in
theorem con_sg12 (e:Tm) (ctx:List Tg) (n:Int) (hk:e.kind=12) (hl:e.args.length=1) (hn0 : -2000000000≤n∧n≤2000000000) (hc:CtxW ctx e) (B:Ty) (zB:Zv B) (h0:ConP Tryz.prog 87 [.b (.one (.rows 4 (safeTg ctx n ctx.length).length (flC tgC (safeTg ctx n ctx.length)))),.b (.ag (tmC e.args[0]!)),.b (.one (.int n))] [] [.ag [.r (.int B.kind),.r (.rows 2 B.args.length (tysC B.args))],.one (.r (.bool (decide (B.kind≠0))))]):SgS e ctx n (if B.kind≠0 then (if B.kind=4 then (B.args[0]!,true) else no2) else no2):=by
 have hcl:ctx.length≤1000000000∧szL (flC tgC ctx)≤1000000000:=by
  unfold CtxW at hc;omega
 have i0:(0:Int)<(e.args.length:Int):=by omega
 have r0:=tmsC_row' e.args 0 (by omega)
 have hL:=con_plS e n (by omega)
 rw [tmC_eq,hk] at hL
 rw [show plF 12 n=n from by unfold plF;simp] at hL
 rw [tmC_eq] at h0
 have hS:=conR (con_SafeCtxS ctx n (by rw [tgsD,szD];unfold CtxW at hc;omega)) trivial
 simp only [List.map_cons,List.map_nil,toR,tgsD] at hS
 generalize safeTg ctx n ctx.length=ctx' at *
 by_cases hb:B.kind≠0
 case neg =>
  rw [decide_eq_false hb] at h0
  rw [if_neg hb]
  unfold SgS
  refine con_runP Tryz.func235 rfl rfl (by simp [Tryz.ntmps235]) rfl ?_
  refine byP (fc hk (fc Tryz.ntmps235 Tryz.results235)) ?_
  refine sw_callPR (hS) rfl rfl rfl (byQ True.intro) (byQ True.intro) (byQ True.intro) ?_
  refine sw_run 200 _ _ _ (byP hk ?_)
  refine sw_drawn (.cons 0 true (.cons 1 true (.cons 2 true (.cons 3 true (.cons 4 true (.cons 5 true (.cons 6 true (.fork (.alt 7 (.fork (.alt 8 (.cons 9 true (.cons 10 true (.fork (.alt 11 (.cons 12 false (.cons 13 false (.cons 14 true (.nil)))) (.alt 12 (.fork (.alt 11 (.cons 13 false (.cons 14 true (.nil))) (.alt 13 (.cons 11 true (.cons 14 true (.nil))) (.last)))) (.last)))))) (.alt 12 (.cons 8 false (.cons 9 true (.cons 10 true (.fork (.alt 11 (.cons 13 false (.cons 14 true (.nil))) (.alt 13 (.cons 11 true (.cons 14 true (.nil))) (.last))))))) (.last)))) (.alt 12 (.cons 7 false (.cons 8 false (.cons 9 true (.cons 10 true (.fork (.alt 11 (.cons 13 false (.cons 14 true (.nil))) (.alt 13 (.cons 11 true (.cons 14 true (.nil))) (.last)))))))) (.last))))))))))) (by kernel_rfl) fQP_panic (by kernel_rfl) ?_
  refine sw_run 200 _ _ _ (byP (fc hk (fc i0 r0)) ?_)
  repeat' (with_reducible apply And.intro)
  all_goals
   refine sw_callD (hL) rfl (aAs_ok (byQ True.intro)) (byQ True.intro) ?_
  all_goals
   refine sw_run 200 _ _ _ (byP (fc hk (fc i0 r0)) ?_)
   repeat' (with_reducible apply And.intro)
  all_goals
   refine sw_callDPB (cap:=[]) (h0) rfl rfl rfl (byQ True.intro) ?_
  all_goals
   refine sw_run 200 _ _ _ (byP (fc hk (fc Tryz.ntmps235 Tryz.results235)) ?_)
  repeat' (with_reducible apply And.intro)
  all_goals first | exact True.intro | rfl
 rw [decide_eq_true hb] at h0
 rw [if_pos hb]
 have hsz:=zv_sz zB
 by_cases h4:B.kind=4
 case neg =>
  rw [if_neg h4]
  unfold SgS
  refine con_runP Tryz.func235 rfl rfl (by simp [Tryz.ntmps235]) rfl ?_
  refine byP (fc hk (fc Tryz.ntmps235 Tryz.results235)) ?_
  refine sw_callPR (hS) rfl rfl rfl (byQ True.intro) (byQ True.intro) (byQ True.intro) ?_
  refine sw_run 200 _ _ _ (byP hk ?_)
  refine sw_drawn (.cons 0 true (.cons 1 true (.cons 2 true (.cons 3 true (.cons 4 true (.cons 5 true (.cons 6 true (.fork (.alt 7 (.fork (.alt 8 (.cons 9 true (.cons 10 true (.fork (.alt 11 (.cons 12 false (.cons 13 false (.cons 14 true (.nil)))) (.alt 12 (.fork (.alt 11 (.cons 13 false (.cons 14 true (.nil))) (.alt 13 (.cons 11 true (.cons 14 true (.nil))) (.last)))) (.last)))))) (.alt 12 (.cons 8 false (.cons 9 true (.cons 10 true (.fork (.alt 11 (.cons 13 false (.cons 14 true (.nil))) (.alt 13 (.cons 11 true (.cons 14 true (.nil))) (.last))))))) (.last)))) (.alt 12 (.cons 7 false (.cons 8 false (.cons 9 true (.cons 10 true (.fork (.alt 11 (.cons 13 false (.cons 14 true (.nil))) (.alt 13 (.cons 11 true (.cons 14 true (.nil))) (.last)))))))) (.last))))))))))) (by kernel_rfl) fQP_panic (by kernel_rfl) ?_
  refine sw_run 200 _ _ _ (byP (fc hk (fc i0 r0)) ?_)
  repeat' (with_reducible apply And.intro)
  all_goals
   refine sw_callD (hL) rfl (aAs_ok (byQ True.intro)) (byQ True.intro) ?_
  all_goals
   refine sw_run 200 _ _ _ (byP (fc hk (fc i0 r0)) ?_)
   repeat' (with_reducible apply And.intro)
  all_goals
   refine sw_callDPB (cap:=[]) (h0) rfl rfl rfl (byQ True.intro) ?_
  all_goals
   refine sw_run 200 _ _ _ (byP (fc hk (fc h4 (fc Tryz.ntmps235 Tryz.results235))) ?_)
  repeat' (with_reducible apply And.intro)
  all_goals first | exact True.intro | rfl
 rw [if_pos h4]
 have hv:=zv_ne zB (by omega)
 obtain ⟨u,hu⟩:∃ u,B.args=[u]:=by
  rcases f_kind (v_form hv) with ⟨q,_⟩ | ⟨q,_⟩ | ⟨q,_⟩ | ⟨_,u,hu,_⟩
  ·omega
  ·omega
  ·omega
  ·exact ⟨u,hu⟩
 rw [ty_ext h4 hu,code_sz] at hsz
 have hO:=conR (con_l3Copy u (by omega)) trivial
 have s0:rowAt 2 (tysC [u]) 0=tyC u:=by rw [tysC_row' [u] 0 (by simp)];rfl
 have j0:((0:Int)<(([u]:List Ty).length:Int)):=by simp
 rw [tyC_eq] at hO s0
 simp only [List.map,toR,tysD] at hO
 rw [h4,hu] at h0
 rw [show B.args[0]! = u from by rw [hu];rfl]
 unfold SgS
 refine con_runP Tryz.func235 rfl rfl (by simp [Tryz.ntmps235]) rfl ?_
 refine byP (fc hk (fc Tryz.ntmps235 Tryz.results235)) ?_
 refine sw_callPR (hS) rfl rfl rfl (byQ True.intro) (byQ True.intro) (byQ True.intro) ?_
 refine sw_run 200 _ _ _ (byP hk ?_)
 refine sw_drawn (.cons 0 true (.cons 1 true (.cons 2 true (.cons 3 true (.cons 4 true (.cons 5 true (.cons 6 true (.fork (.alt 7 (.fork (.alt 8 (.cons 9 true (.cons 10 true (.fork (.alt 11 (.cons 12 false (.cons 13 false (.cons 14 true (.nil)))) (.alt 12 (.fork (.alt 11 (.cons 13 false (.cons 14 true (.nil))) (.alt 13 (.cons 11 true (.cons 14 true (.nil))) (.last)))) (.last)))))) (.alt 12 (.cons 8 false (.cons 9 true (.cons 10 true (.fork (.alt 11 (.cons 13 false (.cons 14 true (.nil))) (.alt 13 (.cons 11 true (.cons 14 true (.nil))) (.last))))))) (.last)))) (.alt 12 (.cons 7 false (.cons 8 false (.cons 9 true (.cons 10 true (.fork (.alt 11 (.cons 13 false (.cons 14 true (.nil))) (.alt 13 (.cons 11 true (.cons 14 true (.nil))) (.last)))))))) (.last))))))))))) (by kernel_rfl) fQP_panic (by kernel_rfl) ?_
 refine sw_run 200 _ _ _ (byP (fc hk (fc i0 r0)) ?_)
 repeat' (with_reducible apply And.intro)
 all_goals
  refine sw_callD (hL) rfl (aAs_ok (byQ True.intro)) (byQ True.intro) ?_
 all_goals
  refine sw_run 200 _ _ _ (byP (fc hk (fc i0 r0)) ?_)
  repeat' (with_reducible apply And.intro)
 all_goals
  refine sw_callDPB (cap:=[]) (h0) rfl rfl rfl (byQ True.intro) ?_
 all_goals
  refine sw_run 200 _ _ _ (byP (fc hk (fc j0 s0)) ?_)
  repeat' (with_reducible apply And.intro)
 all_goals
  refine sw_callPR (hO) rfl rfl rfl (byQ True.intro) (byQ True.intro) (byQ True.intro) ?_
 all_goals
  refine sw_run 200 _ _ _ (byP (fc Tryz.ntmps235 Tryz.results235) ?_)
 repeat' (with_reducible apply And.intro)
 all_goals first | exact True.intro | rfl
set_option maxHeartbeats 4000000 in
theorem con_sg13 (e:Tm) (ctx:List Tg) (n:Int) (hk:e.kind=13) (hl:e.args.length=1) (hn0 : -2000000000≤n∧n≤2000000000) (hc:CtxW ctx e) (B:Ty) (zB:Zv B) (h0:ConP Tryz.prog 87 [.b (.one (.rows 4 ctx.length (flC tgC ctx))),.b (.ag (tmC e.args[0]!)),.b (.one (.int n))] [] [.ag [.r (.int B.kind),.r (.rows 2 B.args.length (tysC B.args))],.one (.r (.bool (decide (B.kind≠0))))]):SgS e ctx n (if B.kind≠0 then (.mk 4 [B],isBaseT B) else no2):=by
 have hcl:ctx.length≤1000000000∧szL (flC tgC ctx)≤1000000000:=by
  unfold CtxW at hc;omega
 have i0:(0:Int)<(e.args.length:Int):=by omega
 have r0:=tmsC_row' e.args 0 (by omega)
 have hL:=con_plS e n (by omega)
 rw [tmC_eq,hk] at hL
 rw [show plF 13 n=n from by unfold plF;simp] at hL
 rw [tmC_eq] at h0
 by_cases hb:B.kind≠0
 case neg =>
  rw [decide_eq_false hb] at h0
  rw [if_neg hb]
  unfold SgS
  refine con_runP Tryz.func235 rfl rfl (by simp [Tryz.ntmps235]) rfl ?_
  refine byP (fc hk (fc Tryz.ntmps235 Tryz.results235)) ?_
  refine sw_drawn (.cons 0 true (.cons 1 true (.cons 2 true (.cons 3 true (.cons 4 true (.cons 5 true (.cons 6 true (.fork (.alt 7 (.fork (.alt 8 (.cons 9 true (.cons 10 true (.fork (.alt 11 (.cons 12 false (.cons 13 false (.cons 14 true (.nil)))) (.alt 12 (.fork (.alt 11 (.cons 13 false (.cons 14 true (.nil))) (.alt 13 (.cons 11 true (.cons 14 true (.nil))) (.last)))) (.last)))))) (.alt 12 (.cons 8 false (.cons 9 true (.cons 10 true (.fork (.alt 11 (.cons 13 false (.cons 14 true (.nil))) (.alt 13 (.cons 11 true (.cons 14 true (.nil))) (.last))))))) (.last)))) (.alt 12 (.cons 7 false (.cons 8 false (.cons 9 true (.cons 10 true (.fork (.alt 11 (.cons 13 false (.cons 14 true (.nil))) (.alt 13 (.cons 11 true (.cons 14 true (.nil))) (.last)))))))) (.last))))))))))) (by kernel_rfl) fQP_panic (by kernel_rfl) ?_
  refine sw_run 200 _ _ _ (byP (fc hk (fc i0 r0)) ?_)
  repeat' (with_reducible apply And.intro)
  all_goals
   refine sw_callD (hL) rfl (aAs_ok (byQ True.intro)) (byQ True.intro) ?_
  all_goals
   refine sw_run 200 _ _ _ (byP (fc hk (fc i0 r0)) ?_)
   repeat' (with_reducible apply And.intro)
  all_goals
   refine sw_callDPB (cap:=[]) (h0) rfl rfl rfl (byQ True.intro) ?_
  all_goals
   refine sw_run 200 _ _ _ (byP (fc hk (fc Tryz.ntmps235 Tryz.results235)) ?_)
  repeat' (with_reducible apply And.intro)
  all_goals first | exact True.intro | rfl
 rw [decide_eq_true hb] at h0
 rw [if_pos hb]
 have hsz:=zv_sz zB
 have hO:=conR (con_l3Code B (by omega)) trivial
 rw [tyC_eq] at hO
 simp only [List.map_cons,List.map_nil,toR,tysD,tyC,List.length_cons,List.length_nil,Nat.zero_add,Nat.reduceAdd] at hO
 have hB:=con_IsBase B
 rw [tyC_eq] at hB
 generalize isBaseT B=c at *
 unfold SgS
 refine con_runP Tryz.func235 rfl rfl (by simp [Tryz.ntmps235]) rfl ?_
 refine byP (fc hk (fc Tryz.ntmps235 Tryz.results235)) ?_
 refine sw_drawn (.cons 0 true (.cons 1 true (.cons 2 true (.cons 3 true (.cons 4 true (.cons 5 true (.cons 6 true (.fork (.alt 7 (.fork (.alt 8 (.cons 9 true (.cons 10 true (.fork (.alt 11 (.cons 12 false (.cons 13 false (.cons 14 true (.nil)))) (.alt 12 (.fork (.alt 11 (.cons 13 false (.cons 14 true (.nil))) (.alt 13 (.cons 11 true (.cons 14 true (.nil))) (.last)))) (.last)))))) (.alt 12 (.cons 8 false (.cons 9 true (.cons 10 true (.fork (.alt 11 (.cons 13 false (.cons 14 true (.nil))) (.alt 13 (.cons 11 true (.cons 14 true (.nil))) (.last))))))) (.last)))) (.alt 12 (.cons 7 false (.cons 8 false (.cons 9 true (.cons 10 true (.fork (.alt 11 (.cons 13 false (.cons 14 true (.nil))) (.alt 13 (.cons 11 true (.cons 14 true (.nil))) (.last)))))))) (.last))))))))))) (by kernel_rfl) fQP_panic (by kernel_rfl) ?_
 refine sw_run 200 _ _ _ (byP (fc hk (fc i0 r0)) ?_)
 repeat' (with_reducible apply And.intro)
 all_goals
  refine sw_callD (hL) rfl (aAs_ok (byQ True.intro)) (byQ True.intro) ?_
 all_goals
  refine sw_run 200 _ _ _ (byP (fc hk (fc i0 r0)) ?_)
  repeat' (with_reducible apply And.intro)
 all_goals
  refine sw_callDPB (cap:=[]) (h0) rfl rfl rfl (byQ True.intro) ?_
 all_goals
  refine sw_run 200 _ _ _ (byP hk ?_)
  repeat' (with_reducible apply And.intro)
 all_goals
  refine sw_drawn (.cons 0 true (.cons 2 true (.cons 1 false (.cons 3 false (.cons 4 false (.cons 5 true (.nil))))))) (by kernel_rfl) fQP_panic (by kernel_rfl) ?_
  refine sw_run 200 _ _ _ (byP hk ?_)
  repeat' (with_reducible apply And.intro)
 all_goals
  refine sw_callDPB (cap:=[]) (hO) rfl rfl rfl (byQ True.intro) ?_
 all_goals
  refine sw_run 200 _ _ _ (byQ ?_)
  repeat' (with_reducible apply And.intro)
 all_goals
  refine sw_callD (hB) rfl (aAs_ok (byQ True.intro)) (byQ True.intro) ?_
 all_goals
  refine sw_run 200 _ _ _ (byP (fc Tryz.ntmps235 Tryz.results235) ?_)
 repeat' (with_reducible apply And.intro)
 all_goals first | exact True.intro | rfl
end Go.Proofs.YtaidalilfmjfgaaGreat
