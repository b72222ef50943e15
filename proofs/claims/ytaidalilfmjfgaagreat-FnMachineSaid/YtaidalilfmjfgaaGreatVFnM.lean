import Derived.Test.YtaidalilfmjfgaaGreatTqC
import Derived.Test.YtaidalilfmjfgaaGreatMfB
import Derived.Test.YtaidalilfmjfgaaGreatVmU
import Derived.ChangeSlices
import Derived.Test.YtaidalilfmjfgaaGreatVee
namespace Go.Proofs.YtaidalilfmjfgaaGreat
open Go.Proofs.Tryz
open Go.RowKit
set_option linter.unusedVariables false
set_option linter.unusedSimpArgs false
set_option maxRecDepth 20000
def SgS (e:Tm) (ctx:List Tg) (n:Int) (r:Ty × Bool):Prop:=Bc prog 235 [.b (.one (.rows 4 ctx.length (flC tgC ctx))),.b (.ag (tmC e)),.b (.one (.int n))] [] [.ag [.r (.int r.1.kind),.r (.rows 2 r.1.args.length (Ai r.1.args))],.one (.r (.bool r.2))]
set_option maxHeartbeats 4000000 in
theorem VC (e:Tm) (ctx:List Tg) (n:Int) (hk:e.kind=10) (hl:e.args.length=1) (hn0 : -2000000000≤n∧n≤2000000000) (hc:DG ctx e) (B:Ty) (zB:Zv B) (h0:Bc prog 87 [.b (.one (.rows 4 ctx.length (flC tgC ctx))),.b (.ag (tmC e.args[0]!)),.b (.one (.int (n+1)))] [] [.ag [.r (.int B.kind),.r (.rows 2 B.args.length (Ai B.args))],.one (.r (.bool (decide (B.kind≠0))))]):SgS e ctx n (if B.kind≠0 then (.mk 4 [B],true) else no2):=by
 have hcl:ctx.length≤1000000000∧szL (flC tgC ctx)≤1000000000:=by
  unfold DG at hc;omega
 have i0:(0:Int)<(e.args.length:Int):=by omega
 have r0:=Aj e.args 0 (by omega)
 have hL:=Fz e n (by omega)
 rw [Ak,hk] at hL
 rw [show plF 10 n=(n+1) from by unfold plF;simp] at hL
 rw [Ak] at h0
 by_cases hb:B.kind≠0
 case neg =>
  rw [decide_eq_false hb] at h0
  rw [if_neg hb]
  unfold SgS
  refine Ad func235 rfl rfl (by simp [ntmps235]) rfl ?_
  refine byP (fc hk (fc ntmps235 results235)) ?_
  refine Ac (oT [0,1,2,3,4,5,6] (.fork (.alt 7 (.fork (.alt 8 (oT [9,10] (.fork (.alt 11 (oF [12,13] (.cons 14 true .nil)) (.alt 12 (.fork (.alt 11 (.cons 13 false (.cons 14 true .nil)) (.alt 13 (oT [11,14] .nil) .last))) .last)))) (.alt 12 (.cons 8 false (oT [9,10] (.fork (.alt 11 (.cons 13 false (.cons 14 true .nil)) (.alt 13 (oT [11,14] .nil) .last))))) .last))) (.alt 12 (oF [7,8] (oT [9,10] (.fork (.alt 11 (.cons 13 false (.cons 14 true .nil)) (.alt 13 (oT [11,14] .nil) .last))))) .last)))) (by kernel_rfl) Ar (by kernel_rfl) ?_
  refine rG (fc hk (fc i0 r0)) ?_
  repeat' (with_reducible apply And.intro)
  all_goals
   refine KD hL ?_
  all_goals
   refine rG (fc hk (fc i0 r0)) ?_
   repeat' (with_reducible apply And.intro)
  all_goals
   refine KB h0 ?_
  all_goals
   refine rG (fc hk (fc ntmps235 results235)) ?_
  repeat' (with_reducible apply And.intro)
  all_goals first | exact tI | rfl
 rw [decide_eq_true hb] at h0
 rw [if_pos hb]
 have hsz:=Ew zB
 have hO:=Jj (GW B (by omega)) trivial
 rw [Au] at hO
 simp only [List.map_cons,List.map_nil,toR,GB,tyC,List.length_cons,List.length_nil,Nat.zero_add,Nat.reduceAdd] at hO
 unfold SgS
 refine Ad func235 rfl rfl (by simp [ntmps235]) rfl ?_
 refine byP (fc hk (fc ntmps235 results235)) ?_
 refine Ac (oT [0,1,2,3,4,5,6] (.fork (.alt 7 (.fork (.alt 8 (oT [9,10] (.fork (.alt 11 (oF [12,13] (.cons 14 true .nil)) (.alt 12 (.fork (.alt 11 (.cons 13 false (.cons 14 true .nil)) (.alt 13 (oT [11,14] .nil) .last))) .last)))) (.alt 12 (.cons 8 false (oT [9,10] (.fork (.alt 11 (.cons 13 false (.cons 14 true .nil)) (.alt 13 (oT [11,14] .nil) .last))))) .last))) (.alt 12 (oF [7,8] (oT [9,10] (.fork (.alt 11 (.cons 13 false (.cons 14 true .nil)) (.alt 13 (oT [11,14] .nil) .last))))) .last)))) (by kernel_rfl) Ar (by kernel_rfl) ?_
 refine rG (fc hk (fc i0 r0)) ?_
 repeat' (with_reducible apply And.intro)
 all_goals
  refine KD hL ?_
 all_goals
  refine rG (fc hk (fc i0 r0)) ?_
  repeat' (with_reducible apply And.intro)
 all_goals
  refine KB h0 ?_
 all_goals
  refine rG hk ?_
  repeat' (with_reducible apply And.intro)
 all_goals
  refine KR hO ?_
 all_goals
  refine rG (fc ntmps235 results235) ?_
 repeat' (with_reducible apply And.intro)
 all_goals first | exact tI | rfl
set_option maxHeartbeats 4000000 in
theorem VX (e:Tm) (ctx:List Tg) (n:Int) (hk:e.kind=11) (hl:e.args.length=1) (hn0 : -2000000000≤n∧n≤2000000000) (hc:DG ctx e) (B:Ty) (zB:Zv B) (h0:Bc prog 87 [.b (.one (.rows 4 ctx.length (flC tgC ctx))),.b (.ag (tmC e.args[0]!)),.b (.one (.int (n-1)))] [] [.ag [.r (.int B.kind),.r (.rows 2 B.args.length (Ai B.args))],.one (.r (.bool (decide (B.kind≠0))))]):SgS e ctx n (if B.kind≠0 then (if B.kind=4 then (B.args[0]!,true) else no2) else no2):=by
 have hcl:ctx.length≤1000000000∧szL (flC tgC ctx)≤1000000000:=by
  unfold DG at hc;omega
 have i0:(0:Int)<(e.args.length:Int):=by omega
 have r0:=Aj e.args 0 (by omega)
 have hL:=Fz e n (by omega)
 rw [Ak,hk] at hL
 rw [show plF 11 n=(n-1) from by unfold plF;simp] at hL
 rw [Ak] at h0
 by_cases hb:B.kind≠0
 case neg =>
  rw [decide_eq_false hb] at h0
  rw [if_neg hb]
  unfold SgS
  refine Ad func235 rfl rfl (by simp [ntmps235]) rfl ?_
  refine byP (fc hk (fc ntmps235 results235)) ?_
  refine Ac (oT [0,1,2,3,4,5,6] (.fork (.alt 7 (.fork (.alt 8 (oT [9,10] (.fork (.alt 11 (oF [12,13] (.cons 14 true .nil)) (.alt 12 (.fork (.alt 11 (.cons 13 false (.cons 14 true .nil)) (.alt 13 (oT [11,14] .nil) .last))) .last)))) (.alt 12 (.cons 8 false (oT [9,10] (.fork (.alt 11 (.cons 13 false (.cons 14 true .nil)) (.alt 13 (oT [11,14] .nil) .last))))) .last))) (.alt 12 (oF [7,8] (oT [9,10] (.fork (.alt 11 (.cons 13 false (.cons 14 true .nil)) (.alt 13 (oT [11,14] .nil) .last))))) .last)))) (by kernel_rfl) Ar (by kernel_rfl) ?_
  refine rG (fc hk (fc i0 r0)) ?_
  repeat' (with_reducible apply And.intro)
  all_goals
   refine KD hL ?_
  all_goals
   refine rG (fc hk (fc i0 r0)) ?_
   repeat' (with_reducible apply And.intro)
  all_goals
   refine KB h0 ?_
  all_goals
   refine rG (fc hk (fc ntmps235 results235)) ?_
  repeat' (with_reducible apply And.intro)
  all_goals first | exact tI | rfl
 rw [decide_eq_true hb] at h0
 rw [if_pos hb]
 have hsz:=Ew zB
 by_cases h4:B.kind=4
 case neg =>
  rw [if_neg h4]
  unfold SgS
  refine Ad func235 rfl rfl (by simp [ntmps235]) rfl ?_
  refine byP (fc hk (fc ntmps235 results235)) ?_
  refine Ac (oT [0,1,2,3,4,5,6] (.fork (.alt 7 (.fork (.alt 8 (oT [9,10] (.fork (.alt 11 (oF [12,13] (.cons 14 true .nil)) (.alt 12 (.fork (.alt 11 (.cons 13 false (.cons 14 true .nil)) (.alt 13 (oT [11,14] .nil) .last))) .last)))) (.alt 12 (.cons 8 false (oT [9,10] (.fork (.alt 11 (.cons 13 false (.cons 14 true .nil)) (.alt 13 (oT [11,14] .nil) .last))))) .last))) (.alt 12 (oF [7,8] (oT [9,10] (.fork (.alt 11 (.cons 13 false (.cons 14 true .nil)) (.alt 13 (oT [11,14] .nil) .last))))) .last)))) (by kernel_rfl) Ar (by kernel_rfl) ?_
  refine rG (fc hk (fc i0 r0)) ?_
  repeat' (with_reducible apply And.intro)
  all_goals
   refine KD hL ?_
  all_goals
   refine rG (fc hk (fc i0 r0)) ?_
   repeat' (with_reducible apply And.intro)
  all_goals
   refine KB h0 ?_
  all_goals
   refine rG (fc hk (fc h4 (fc ntmps235 results235))) ?_
  repeat' (with_reducible apply And.intro)
  all_goals first | exact tI | rfl
 rw [if_pos h4]
 have hv:=Pz zB (by omega)
 obtain ⟨u,hu⟩:∃ u,B.args=[u]:=by
  rcases FY (ER hv) with ⟨q,_⟩ | ⟨q,_⟩ | ⟨q,_⟩ | ⟨_,u,hu,_⟩
  ·omega
  ·omega
  ·omega
  ·exact ⟨u,hu⟩
 rw [IV h4 hu,Iq] at hsz
 have hO:=Jj (Ba u (by omega)) trivial
 have s0:rowAt 2 (Ai [u]) 0=tyC u:=by rw [Ax [u] 0 (by simp)];rfl
 have j0:((0:Int)<(([u]:List Ty).length:Int)):=by simp
 rw [Au] at hO s0
 simp only [List.map,toR,GB] at hO
 rw [h4,hu] at h0
 rw [show B.args[0]! = u from by rw [hu];rfl]
 unfold SgS
 refine Ad func235 rfl rfl (by simp [ntmps235]) rfl ?_
 refine byP (fc hk (fc ntmps235 results235)) ?_
 refine Ac (oT [0,1,2,3,4,5,6] (.fork (.alt 7 (.fork (.alt 8 (oT [9,10] (.fork (.alt 11 (oF [12,13] (.cons 14 true .nil)) (.alt 12 (.fork (.alt 11 (.cons 13 false (.cons 14 true .nil)) (.alt 13 (oT [11,14] .nil) .last))) .last)))) (.alt 12 (.cons 8 false (oT [9,10] (.fork (.alt 11 (.cons 13 false (.cons 14 true .nil)) (.alt 13 (oT [11,14] .nil) .last))))) .last))) (.alt 12 (oF [7,8] (oT [9,10] (.fork (.alt 11 (.cons 13 false (.cons 14 true .nil)) (.alt 13 (oT [11,14] .nil) .last))))) .last)))) (by kernel_rfl) Ar (by kernel_rfl) ?_
 refine rG (fc hk (fc i0 r0)) ?_
 repeat' (with_reducible apply And.intro)
 all_goals
  refine KD hL ?_
 all_goals
  refine rG (fc hk (fc i0 r0)) ?_
  repeat' (with_reducible apply And.intro)
 all_goals
  refine KB h0 ?_
 all_goals
  refine rG (fc hk (fc j0 s0)) ?_
  repeat' (with_reducible apply And.intro)
 all_goals
  refine KR hO ?_
 all_goals
  refine rG (fc ntmps235 results235) ?_
 repeat' (with_reducible apply And.intro)
 all_goals first | exact tI | rfl
set_option maxHeartbeats 4000000 in
theorem UV (e:Tm) (ctx:List Tg) (n:Int) (hk:e.kind=12) (hl:e.args.length=1) (hn0 : -2000000000≤n∧n≤2000000000) (hc:DG ctx e) (B:Ty) (zB:Zv B) (h0:Bc prog 87 [.b (.one (.rows 4 (Bp ctx n ctx.length).length (flC tgC (Bp ctx n ctx.length)))),.b (.ag (tmC e.args[0]!)),.b (.one (.int n))] [] [.ag [.r (.int B.kind),.r (.rows 2 B.args.length (Ai B.args))],.one (.r (.bool (decide (B.kind≠0))))]):SgS e ctx n (if B.kind≠0 then (if B.kind=4 then (B.args[0]!,true) else no2) else no2):=by
 have hcl:ctx.length≤1000000000∧szL (flC tgC ctx)≤1000000000:=by
  unfold DG at hc;omega
 have i0:(0:Int)<(e.args.length:Int):=by omega
 have r0:=Aj e.args 0 (by omega)
 have hL:=Fz e n (by omega)
 rw [Ak,hk] at hL
 rw [show plF 12 n=n from by unfold plF;simp] at hL
 rw [Ak] at h0
 have hS:=Jj (Hk ctx n (by rw [Tb,szD];unfold DG at hc;omega)) trivial
 simp only [List.map_cons,List.map_nil,toR,Tb] at hS
 generalize Bp ctx n ctx.length=ctx' at *
 by_cases hb:B.kind≠0
 case neg =>
  rw [decide_eq_false hb] at h0
  rw [if_neg hb]
  unfold SgS
  refine Ad func235 rfl rfl (by simp [ntmps235]) rfl ?_
  refine byP (fc hk (fc ntmps235 results235)) ?_
  refine KR hS ?_
  refine rG hk ?_
  refine Ac (oT [0,1,2,3,4,5,6] (.fork (.alt 7 (.fork (.alt 8 (oT [9,10] (.fork (.alt 11 (oF [12,13] (.cons 14 true .nil)) (.alt 12 (.fork (.alt 11 (.cons 13 false (.cons 14 true .nil)) (.alt 13 (oT [11,14] .nil) .last))) .last)))) (.alt 12 (.cons 8 false (oT [9,10] (.fork (.alt 11 (.cons 13 false (.cons 14 true .nil)) (.alt 13 (oT [11,14] .nil) .last))))) .last))) (.alt 12 (oF [7,8] (oT [9,10] (.fork (.alt 11 (.cons 13 false (.cons 14 true .nil)) (.alt 13 (oT [11,14] .nil) .last))))) .last)))) (by kernel_rfl) Ar (by kernel_rfl) ?_
  refine rG (fc hk (fc i0 r0)) ?_
  repeat' (with_reducible apply And.intro)
  all_goals
   refine KD hL ?_
  all_goals
   refine rG (fc hk (fc i0 r0)) ?_
   repeat' (with_reducible apply And.intro)
  all_goals
   refine KB h0 ?_
  all_goals
   refine rG (fc hk (fc ntmps235 results235)) ?_
  repeat' (with_reducible apply And.intro)
  all_goals first | exact tI | rfl
 rw [decide_eq_true hb] at h0
 rw [if_pos hb]
 have hsz:=Ew zB
 by_cases h4:B.kind=4
 case neg =>
  rw [if_neg h4]
  unfold SgS
  refine Ad func235 rfl rfl (by simp [ntmps235]) rfl ?_
  refine byP (fc hk (fc ntmps235 results235)) ?_
  refine KR hS ?_
  refine rG hk ?_
  refine Ac (oT [0,1,2,3,4,5,6] (.fork (.alt 7 (.fork (.alt 8 (oT [9,10] (.fork (.alt 11 (oF [12,13] (.cons 14 true .nil)) (.alt 12 (.fork (.alt 11 (.cons 13 false (.cons 14 true .nil)) (.alt 13 (oT [11,14] .nil) .last))) .last)))) (.alt 12 (.cons 8 false (oT [9,10] (.fork (.alt 11 (.cons 13 false (.cons 14 true .nil)) (.alt 13 (oT [11,14] .nil) .last))))) .last))) (.alt 12 (oF [7,8] (oT [9,10] (.fork (.alt 11 (.cons 13 false (.cons 14 true .nil)) (.alt 13 (oT [11,14] .nil) .last))))) .last)))) (by kernel_rfl) Ar (by kernel_rfl) ?_
  refine rG (fc hk (fc i0 r0)) ?_
  repeat' (with_reducible apply And.intro)
  all_goals
   refine KD hL ?_
  all_goals
   refine rG (fc hk (fc i0 r0)) ?_
   repeat' (with_reducible apply And.intro)
  all_goals
   refine KB h0 ?_
  all_goals
   refine rG (fc hk (fc h4 (fc ntmps235 results235))) ?_
  repeat' (with_reducible apply And.intro)
  all_goals first | exact tI | rfl
 rw [if_pos h4]
 have hv:=Pz zB (by omega)
 obtain ⟨u,hu⟩:∃ u,B.args=[u]:=by
  rcases FY (ER hv) with ⟨q,_⟩ | ⟨q,_⟩ | ⟨q,_⟩ | ⟨_,u,hu,_⟩
  ·omega
  ·omega
  ·omega
  ·exact ⟨u,hu⟩
 rw [IV h4 hu,Iq] at hsz
 have hO:=Jj (Ba u (by omega)) trivial
 have s0:rowAt 2 (Ai [u]) 0=tyC u:=by rw [Ax [u] 0 (by simp)];rfl
 have j0:((0:Int)<(([u]:List Ty).length:Int)):=by simp
 rw [Au] at hO s0
 simp only [List.map,toR,GB] at hO
 rw [h4,hu] at h0
 rw [show B.args[0]! = u from by rw [hu];rfl]
 unfold SgS
 refine Ad func235 rfl rfl (by simp [ntmps235]) rfl ?_
 refine byP (fc hk (fc ntmps235 results235)) ?_
 refine KR hS ?_
 refine rG hk ?_
 refine Ac (oT [0,1,2,3,4,5,6] (.fork (.alt 7 (.fork (.alt 8 (oT [9,10] (.fork (.alt 11 (oF [12,13] (.cons 14 true .nil)) (.alt 12 (.fork (.alt 11 (.cons 13 false (.cons 14 true .nil)) (.alt 13 (oT [11,14] .nil) .last))) .last)))) (.alt 12 (.cons 8 false (oT [9,10] (.fork (.alt 11 (.cons 13 false (.cons 14 true .nil)) (.alt 13 (oT [11,14] .nil) .last))))) .last))) (.alt 12 (oF [7,8] (oT [9,10] (.fork (.alt 11 (.cons 13 false (.cons 14 true .nil)) (.alt 13 (oT [11,14] .nil) .last))))) .last)))) (by kernel_rfl) Ar (by kernel_rfl) ?_
 refine rG (fc hk (fc i0 r0)) ?_
 repeat' (with_reducible apply And.intro)
 all_goals
  refine KD hL ?_
 all_goals
  refine rG (fc hk (fc i0 r0)) ?_
  repeat' (with_reducible apply And.intro)
 all_goals
  refine KB h0 ?_
 all_goals
  refine rG (fc hk (fc j0 s0)) ?_
  repeat' (with_reducible apply And.intro)
 all_goals
  refine KR hO ?_
 all_goals
  refine rG (fc ntmps235 results235) ?_
 repeat' (with_reducible apply And.intro)
 all_goals first | exact tI | rfl
set_option maxHeartbeats 4000000 in
theorem UY (e:Tm) (ctx:List Tg) (n:Int) (hk:e.kind=13) (hl:e.args.length=1) (hn0 : -2000000000≤n∧n≤2000000000) (hc:DG ctx e) (B:Ty) (zB:Zv B) (h0:Bc prog 87 [.b (.one (.rows 4 ctx.length (flC tgC ctx))),.b (.ag (tmC e.args[0]!)),.b (.one (.int n))] [] [.ag [.r (.int B.kind),.r (.rows 2 B.args.length (Ai B.args))],.one (.r (.bool (decide (B.kind≠0))))]):SgS e ctx n (if B.kind≠0 then (.mk 4 [B],Dg B) else no2):=by
 have hcl:ctx.length≤1000000000∧szL (flC tgC ctx)≤1000000000:=by
  unfold DG at hc;omega
 have i0:(0:Int)<(e.args.length:Int):=by omega
 have r0:=Aj e.args 0 (by omega)
 have hL:=Fz e n (by omega)
 rw [Ak,hk] at hL
 rw [show plF 13 n=n from by unfold plF;simp] at hL
 rw [Ak] at h0
 by_cases hb:B.kind≠0
 case neg =>
  rw [decide_eq_false hb] at h0
  rw [if_neg hb]
  unfold SgS
  refine Ad func235 rfl rfl (by simp [ntmps235]) rfl ?_
  refine byP (fc hk (fc ntmps235 results235)) ?_
  refine Ac (oT [0,1,2,3,4,5,6] (.fork (.alt 7 (.fork (.alt 8 (oT [9,10] (.fork (.alt 11 (oF [12,13] (.cons 14 true .nil)) (.alt 12 (.fork (.alt 11 (.cons 13 false (.cons 14 true .nil)) (.alt 13 (oT [11,14] .nil) .last))) .last)))) (.alt 12 (.cons 8 false (oT [9,10] (.fork (.alt 11 (.cons 13 false (.cons 14 true .nil)) (.alt 13 (oT [11,14] .nil) .last))))) .last))) (.alt 12 (oF [7,8] (oT [9,10] (.fork (.alt 11 (.cons 13 false (.cons 14 true .nil)) (.alt 13 (oT [11,14] .nil) .last))))) .last)))) (by kernel_rfl) Ar (by kernel_rfl) ?_
  refine rG (fc hk (fc i0 r0)) ?_
  repeat' (with_reducible apply And.intro)
  all_goals
   refine KD hL ?_
  all_goals
   refine rG (fc hk (fc i0 r0)) ?_
   repeat' (with_reducible apply And.intro)
  all_goals
   refine KB h0 ?_
  all_goals
   refine rG (fc hk (fc ntmps235 results235)) ?_
  repeat' (with_reducible apply And.intro)
  all_goals first | exact tI | rfl
 rw [decide_eq_true hb] at h0
 rw [if_pos hb]
 have hsz:=Ew zB
 have hO:=Jj (GW B (by omega)) trivial
 rw [Au] at hO
 simp only [List.map_cons,List.map_nil,toR,GB,tyC,List.length_cons,List.length_nil,Nat.zero_add,Nat.reduceAdd] at hO
 have hB:=Fe B
 rw [Au] at hB
 generalize Dg B=c at *
 unfold SgS
 refine Ad func235 rfl rfl (by simp [ntmps235]) rfl ?_
 refine byP (fc hk (fc ntmps235 results235)) ?_
 refine Ac (oT [0,1,2,3,4,5,6] (.fork (.alt 7 (.fork (.alt 8 (oT [9,10] (.fork (.alt 11 (oF [12,13] (.cons 14 true .nil)) (.alt 12 (.fork (.alt 11 (.cons 13 false (.cons 14 true .nil)) (.alt 13 (oT [11,14] .nil) .last))) .last)))) (.alt 12 (.cons 8 false (oT [9,10] (.fork (.alt 11 (.cons 13 false (.cons 14 true .nil)) (.alt 13 (oT [11,14] .nil) .last))))) .last))) (.alt 12 (oF [7,8] (oT [9,10] (.fork (.alt 11 (.cons 13 false (.cons 14 true .nil)) (.alt 13 (oT [11,14] .nil) .last))))) .last)))) (by kernel_rfl) Ar (by kernel_rfl) ?_
 refine rG (fc hk (fc i0 r0)) ?_
 repeat' (with_reducible apply And.intro)
 all_goals
  refine KD hL ?_
 all_goals
  refine rG (fc hk (fc i0 r0)) ?_
  repeat' (with_reducible apply And.intro)
 all_goals
  refine KB h0 ?_
 all_goals
  refine rG hk ?_
  repeat' (with_reducible apply And.intro)
 all_goals
  refine Ac (oT [0,2] (oF [1,3,4] (.cons 5 true .nil))) (by kernel_rfl) Ar (by kernel_rfl) ?_
  refine rG hk ?_
  repeat' (with_reducible apply And.intro)
 all_goals
  refine KB hO ?_
 all_goals
  refine rQ ?_
  repeat' (with_reducible apply And.intro)
 all_goals
  refine KD hB ?_
 all_goals
  refine rG (fc ntmps235 results235) ?_
 repeat' (with_reducible apply And.intro)
 all_goals first | exact tI | rfl
def SoS (e:Tm) (ctx:List Tg) (n:Int) (r:Ty × Bool):Prop:=Bc prog 174 [.b (.one (.rows 4 ctx.length (flC tgC ctx))),.b (.ag (tmC e)),.b (.one (.int n))] [] [.ag [.r (.int r.1.kind),.r (.rows 2 r.1.args.length (Ai r.1.args))],.one (.r (.bool r.2))]
theorem aAY (e:Tm) (ctx:List Tg) (n:Int) (hk:e.kind=2) (hc:DG ctx e):SoS e ctx n (tIq,true):=by
 have hcl:ctx.length≤1000000000∧szL (flC tgC ctx)≤1000000000:=by
  unfold DG at hc;omega
 unfold SoS
 refine Ad func174 rfl rfl (by simp [ntmps174]) rfl ?_
 refine byP (fc hk (fc ntmps174 results174)) ?_
 refine KR LZ ?_
 refine rG (fc ntmps174 results174) ?_
 exact ⟨rfl,rfl⟩
theorem aA1 (e:Tm) (ctx:List Tg) (n:Int) (hk:e.kind=3) (hc:DG ctx e):SoS e ctx n (tB,true):=by
 have hcl:ctx.length≤1000000000∧szL (flC tgC ctx)≤1000000000:=by
  unfold DG at hc;omega
 unfold SoS
 refine Ad func174 rfl rfl (by simp [ntmps174]) rfl ?_
 refine byP (fc hk (fc ntmps174 results174)) ?_
 refine KR Ib ?_
 refine rG (fc ntmps174 results174) ?_
 exact ⟨rfl,rfl⟩
theorem aAN (e:Tm) (ctx:List Tg) (n:Int) (hk:e.kind=1) (hc:DG ctx e):SoS e ctx n (if BH ctx e.name ctx.length<0 then no2 else if (ctx[(BH ctx e.name ctx.length).toNat]!).level=n then ((ctx[(BH ctx e.name ctx.length).toNat]!).ty,true) else no2):=by
 have hcl:ctx.length≤1000000000∧szL (flC tgC ctx)≤1000000000:=by
  unfold DG at hc;omega
 have hC:=Kz ctx e.name (by omega)
 simp only [Tb] at hC
 have hrg:=KF ctx e.name ctx.length (Nat.le_refl _)
 generalize BH ctx e.name ctx.length=i at *
 by_cases h0:i<0
 case pos =>
  rw [if_pos h0]
  unfold SoS
  refine Ad func174 rfl rfl (by simp [ntmps174]) rfl ?_
  refine byP (fc hk (fc ntmps174 results174)) ?_
  refine Kc hC ?_
  refine rG (fc h0 (fc ntmps174 results174)) ?_
  exact ⟨⟨rfl,rfl,rfl⟩,rfl⟩
 obtain ⟨j,rfl⟩:∃ j:Nat,i=(j:Int):=⟨i.toNat,by omega⟩
 have hj:j<ctx.length:=by omega
 have hj2:(j:Int)<(ctx.length:Int):=by omega
 have hR:rowAt 4 (flC tgC ctx) j=[.str (ctx[j]!).name,.int (ctx[j]!).ty.kind,.rows 2 (ctx[j]!).ty.args.length (Ai (ctx[j]!).ty.args),.int (ctx[j]!).level]:=CR Ky ctx j hj
 have hs:=TL hj
 have hO:=Jj (Ba (ctx[j]!).ty (by omega)) trivial
 rw [Au] at hO
 simp only [List.map,toR,GB] at hO
 rw [if_neg h0,Int.toNat_natCast]
 by_cases hl:(ctx[j]!).level=n
 ·rw [if_pos hl]
  unfold SoS
  refine Ad func174 rfl rfl (by simp [ntmps174]) rfl ?_
  refine byP (fc hk (fc ntmps174 results174)) ?_
  refine Kc hC ?_
  refine rG (fc h0 (fc hR (fc hj2 hl))) ?_
  refine KR hO ?_
  exact rG (fc ntmps174 results174) tI
 ·rw [if_neg hl]
  unfold SoS
  refine Ad func174 rfl rfl (by simp [ntmps174]) rfl ?_
  refine byP (fc hk (fc ntmps174 results174)) ?_
  refine Kc hC ?_
  refine rG (fc h0 (fc hR (fc hj2 (fc hl (fc ntmps174 results174))))) ?_
  exact ⟨⟨rfl,rfl,rfl⟩,rfl⟩
theorem Mv (e:Tm) (ctx:List Tg) (n:Int) (hk:e.kind=6∨e.kind=8∨e.kind=9) (hc:DG ctx e) (T:Ty) (b:Bool) (h:BiS e ctx n T b):SoS e ctx n (T,b):=by
 have hcl:ctx.length≤1000000000∧szL (flC tgC ctx)≤1000000000:=by
  unfold DG at hc;omega
 unfold SoS
 unfold BiS at h
 rw [Ak] at h
 rcases hk with hk | hk | hk
 all_goals
  rw [hk] at h
  refine Ad func174 rfl rfl (by simp [ntmps174]) rfl ?_
  refine byP (fc hk (fc ntmps174 results174)) ?_
  refine KR h ?_
  exact rG (fc ntmps174 results174) tI
theorem JS (e:Tm) (ctx:List Tg) (n:Int) (hk:e.kind=10∨e.kind=11∨e.kind=12∨e.kind=13) (hc:DG ctx e) (r:Ty × Bool) (h:SgS e ctx n r):SoS e ctx n r:=by
 have hcl:ctx.length≤1000000000∧szL (flC tgC ctx)≤1000000000:=by
  unfold DG at hc;omega
 obtain ⟨T,b⟩:=r
 unfold SoS
 unfold SgS at h
 rw [Ak] at h
 simp only at h ⊢
 rcases hk with hk | hk | hk | hk
 all_goals
  rw [hk] at h
  refine Ad func174 rfl rfl (by simp [ntmps174]) rfl ?_
  refine byP (fc hk (fc ntmps174 results174)) ?_
  refine KR h ?_
  exact rG (fc ntmps174 results174) tI
theorem Ns (e:Tm) (ctx:List Tg) (n:Int) (hk:e.kind=4∨e.kind=5∨e.kind=7) (hc:DG ctx e) (hP:∀ i,i<e.args.length→Bc prog 87 [.b (.one (.rows 4 ctx.length (flC tgC ctx))),.b (.ag (tmC e.args[i]!)),.b (.one (.int n))] [] [.ag [.r (.int (tyT e.args[i]! ctx n).kind),.r (.rows 2 (tyT e.args[i]! ctx n).args.length (Ai (tyT e.args[i]! ctx n).args))],.one (.r (.bool (decide ((tyT e.args[i]! ctx n).kind≠0))))]) (r:Ty × Bool) (hF:(∀ a ∈ e.args,(tyT a ctx n).kind≠0)→FoS e (e.args.map fun a=>tyT a ctx n) r):SoS e ctx n (if (e.args.all fun a=>decide ((tyT a ctx n).kind≠0))=true then r else no2):=by
 have hcl:ctx.length≤1000000000∧szL (flC tgC ctx)≤1000000000:=by
  unfold DG at hc;omega
 obtain ⟨T,b⟩:=r
 have hze:=BM e
 have hlz:e.args.length≤1000000000:=by unfold DG at hc;omega
 unfold SoS
 rcases hk with hk | hk | hk
 all_goals
  refine Ad func174 rfl rfl (by simp [ntmps174]) rfl ?_
  refine byP (fc hk (fc ntmps174 results174)) ?_
  refine Al (fun k:Nat=>k≤e.args.length∧((e.args.take k).all fun a=>decide ((tyT a ctx n).kind≠0))=true) (fun k=>⟨112,[(14,.i k),(13,.sl 2),(0,.br (.rows 4 ctx.length (flC tgC ctx))),(2,.i n),(7,.b false),(6,.bx 1 0),(4,.bx 0 0)],[(0,[.i e.kind,.s e.name,.s e.other,.i e.n,.i e.ty.kind,.br (.rows 2 e.ty.args.length (Ai e.ty.args)),.i e.res.kind,.br (.rows 2 e.res.args.length (Ai e.res.args)),.br (.rows 9 e.args.length (Av e.args))]),(1,[.i 0,.nl 2])],[(2,some ⟨.rows 2 k (Ai ((e.args.take k).map fun a=>tyT a ctx n)),some 26,decide (k=0)⟩)],3,[]⟩) (fun k=>e.args.length-k) 0 id ⟨Nat.zero_le _,rfl⟩ ?_ ?_
  ·exact byP (fc hk (fc Int.natCast_zero (show Ai []=[] from rfl))) tI
  ·rintro k ⟨hk0,hall⟩
   by_cases hlt:k<e.args.length
   ·have hi:(k:Int)<(e.args.length:Int):=by omega
    have hR:=Aj e.args k hlt
    have p0:=hP k hlt
    have hsa:((e.args.take (k+1)).all fun a=>decide ((tyT a ctx n).kind≠0))=decide ((tyT e.args[k]! ctx n).kind≠0):=by rw [AH e.args k hlt,List.all_append,hall];simp
    have hst:Ai ((e.args.take (k+1)).map fun a=>tyT a ctx n)=Ai ((e.args.take k).map fun a=>tyT a ctx n)++tyC (tyT e.args[k]! ctx n):=by rw [Dp,Dp,AH e.args k hlt,List.map_append,AM,List.map_cons,List.map_nil,AA]
    rw [Au] at hst
    rw [Ak] at p0
    by_cases hb:(tyT e.args[k]! ctx n).kind≠0
    ·rw [decide_eq_true hb] at p0 hsa
     refine rG (fc hi hR) ?_
     refine KR p0 ?_
     refine rQ ?_
     exact ⟨⟨fun o ho=>by omega,by unfold maxLen;omega,by omega⟩,by unfold inI;omega,k+1,rnL [(2,5)],⟨by omega,hsa⟩,by omega,byP hst tI⟩
    ·rw [decide_eq_false hb] at p0
     have hf:(e.args.all fun a=>decide ((tyT a ctx n).kind≠0))=false:=by
      rw [List.all_eq_false]
      exact ⟨e.args[k]!,Ab hlt,by simpa using hb⟩
     rw [hf]
     refine rG (fc hi hR) ?_
     refine KR p0 ?_
     refine rG (fc ntmps174 results174) ?_
     exact ⟨⟨rfl,rfl,rfl⟩,rfl⟩
   ·have hi:¬ (k:Int)<(e.args.length:Int):=by omega
    obtain rfl:k=e.args.length:=by omega
    rw [List.take_length] at hall
    rw [hall,List.take_length]
    have hF':=hF fun a ha=>by simpa using (List.all_eq_true.1 hall) a ha
    unfold FoS at hF'
    rw [Ak,List.length_map] at hF'
    simp only at hF'
    refine rG hi ?_
    refine rQ ?_
    refine AX 2 rfl ?_
    refine byQ ?_
    refine KR hF' ?_
    exact rG (fc ntmps174 results174) tI
def aJF (e:Tm):Prop:=∀ ctx n,DG ctx e→rgL e n→Bn EO e=true→Bc prog 87 [.b (.one (.rows 4 ctx.length (flC tgC ctx))),.b (.ag (tmC e)),.b (.one (.int n))] [] [.ag [.r (.int (tyT e ctx n).kind),.r (.rows 2 (tyT e ctx n).args.length (Ai (tyT e ctx n).args))],.one (.r (.bool (decide ((tyT e ctx n).kind≠0))))]
theorem Cy (e:Tm) (ctx:List Tg) (n:Int) (r:Ty × Bool) (ha:Bn EO e=true) (hS:SoS e ctx n r) (hr:smF e.kind e.name e.other e.ty e.res (e.args.map tyS) ctx n=r) (hz:szL (tyC r.1)≤1000000000):Bc prog 87 [.b (.one (.rows 4 ctx.length (flC tgC ctx))),.b (.ag (tmC e)),.b (.one (.int n))] [] [.ag [.r (.int (tyT e ctx n).kind),.r (.rows 2 (tyT e ctx n).args.length (Ai (tyT e ctx n).args))],.one (.r (.bool (decide ((tyT e ctx n).kind≠0))))]:=by
 obtain ⟨T,b⟩:=r
 have h:=RK e ctx n T b hz hS
 rw [← hr,← Xx,NB e ha] at h
 exact h
theorem Du {p:Prop} [Decidable p] {a b:Ty × Bool} {n:Nat} (ha:szL (tyC a.1)≤n) (hb:szL (tyC b.1)≤n):szL (tyC (if p then a else b).1)≤n:=by
 split
 ·exact ha
 ·exact hb
theorem aBF (s:ByteArray) (l:List Ty):szL (tyC (opS s l).1)≤29:=by
 have h0:=Ew (t:=z0) (.inl rfl)
 have h1:=Ew (t:=tIq) (.inr aBB)
 have h2:=Ew (t:=tB) (.inr Yq)
 unfold opS
 refine Du ?_ h0
 exact XM h1 h2
theorem YM:∀ e:Tm,aJF e:=by
 refine Tm.ind fun e ih ctx n hc hr ha => ?_
 have hF:EO e=true:=by
  rw [Cv,Bool.and_eq_true] at ha;exact ha.1
 obtain ⟨hl,h4,h9,h9',h6',hk1,hk2⟩:=Ok hF
 obtain ⟨n6,n8,n9⟩:=Vc hF
 have hze:200 * (szL (tmC e)+1)≤1000000000:=by unfold DG at hc;omega
 have hn0 : -2000000000≤n∧n≤2000000000:=by unfold rgL at hr;omega
 have h0s:=Ew (t:=z0) (.inl rfl)
 have h0n:szL (tyC no2.1)≤29:=h0s
 have hP:∀ (i:Nat) (c:List Tg) (m:Int) (h:i<e.args.length),n-1≤m∧m≤n+1→DG c e.args[i]! → Bc prog 87 [.b (.one (.rows 4 c.length (flC tgC c))),.b (.ag (tmC e.args[i]!)),.b (.one (.int m))] [] [.ag [.r (.int (tyT e.args[i]! c m).kind),.r (.rows 2 (tyT e.args[i]! c m).args.length (Ai (tyT e.args[i]! c m).args))],.one (.r (.bool (decide ((tyT e.args[i]! c m).kind≠0))))] :=
  fun i c m h hm hw=>ih _ (Ab h) c m hw (UI hr h hm) (Ko ha h)
 have hs:∀ (i:Nat) (c:List Tg) (m:Int),i<e.args.length→tyS e.args[i]! c m=rr (tyT e.args[i]! c m):=fun i c m h=>NB _ (Ko ha h) c m
 have hb:∀ (i:Nat) (gs:List Tg),i<e.args.length→gs.length+szL (flC tgC gs)≤200→DG (ctx++gs) e.args[i]! := fun i gs h hg=>hc.bind (aEi h) hg
 have hp:∀ (i:Nat),i<e.args.length→DG ctx e.args[i]! := fun i h=>hc.part (aEi h)
 have nn:n-1≤n∧n≤n+1:=by omega
 have zz:=fun x c m=>Gg x c m
 have hsm:∀ a ∈ e.args,tyS a ctx n=rr (tyT a ctx n):=by
  intro a hm
  refine NB a ?_ ctx n
  obtain ⟨i,hi,rfl⟩:=List.mem_iff_getElem.1 hm
  have:=Ko ha hi
  rw [getElem!_pos e.args i hi] at this
  exact this
 have e1:(((e.args.map tyS).map fun f=>(f ctx n).2).all id)=e.args.all fun a=>decide ((tyT a ctx n).kind≠0):=by
  have q:((e.args.map tyS).map fun f=>(f ctx n).2)=e.args.map fun a=>decide ((tyT a ctx n).kind≠0):=by
   rw [List.map_map]
   exact List.map_congr_left fun a ha=>by simp only [Function.comp];rw [hsm a ha];rfl
  rw [q,List.all_map];rfl
 have e2:((e.args.map tyS).map fun f=>(f ctx n).1)=e.args.map fun a=>tyT a ctx n:=by
  rw [List.map_map]
  exact List.map_congr_left fun a ha=>by simp only [Function.comp];rw [hsm a ha];rfl
 have hv:(∀ a ∈ e.args,(tyT a ctx n).kind≠0)→∀ t ∈ e.args.map (fun a=>tyT a ctx n),vTy t=true:=by
  intro h t ht
  obtain ⟨a,hm,rfl⟩:=List.mem_map.1 ht
  exact Pz (zz _ _ _) (h a hm)
 have lb:∀ i,i<e.args.length→(e.args.map fun a=>tyT a ctx n)[i]! = tyT e.args[i]! ctx n:=fun i h=>BX (fun a=>tyT a ctx n) e.args i h
 unfold arF at hl
 have hK:e.kind=1∨e.kind=2∨e.kind=3∨e.kind=4∨e.kind=5∨e.kind=6∨e.kind=7∨e.kind=8∨e.kind=9∨e.kind=10∨e.kind=11∨e.kind=12∨e.kind=13:=by omega
 rcases hK with hk | hk | hk | hk | hk | hk | hk | hk | hk | hk | hk | hk | hk
 all_goals simp only [hk,if_true,if_false,Int.reduceEq] at hl
 ·refine Cy e ctx n _ ha (aAN e ctx n hk hc) (by simp only [smF,hk,if_true]) ?_
  refine Du (by omega) ?_
  by_cases h0:BH ctx e.name ctx.length<0
  ·refine Du ?_ (by omega)
   rw [show (BH ctx e.name ctx.length).toNat=0 from by omega]
   by_cases hx:0<ctx.length
   ·have h1:=TL (ctx:=ctx) (i:=0) hx
    unfold DG at hc;show szL (tyC (ctx[0]!).ty)≤_;omega
   ·have:ctx=[]:=List.eq_nil_of_length_eq_zero (by omega)
    subst this
    show szL (tyC (default:Tg).ty)≤_
    have h2:szL (tyC (default:Tg).ty)≤29:=by decide
    omega
  ·have hrg:=KF ctx e.name ctx.length (Nat.le_refl _)
   have h1:=TL (ctx:=ctx) (i:=(BH ctx e.name ctx.length).toNat) (by omega)
   refine Du ?_ (by omega)
   unfold DG at hc;show szL (tyC (ctx[(BH ctx e.name ctx.length).toNat]!).ty)≤_;omega
 ·exact Cy e ctx n _ ha (aAY e ctx n hk hc) (by simp only [smF,hk,if_true,if_false,Int.reduceEq]) (by have:=Ew (t:=tIq) (.inr aBB);show szL (tyC tIq)≤_;omega)
 ·exact Cy e ctx n _ ha (aA1 e ctx n hk hc) (by simp only [smF,hk,if_true,if_false,Int.reduceEq]) (by have:=Ew (t:=tB) (.inr Yq);show szL (tyC tB)≤_;omega)
 ·exact Cy e ctx n _ ha (Ns e ctx n (by omega) hc (fun i h=>hP i ctx n h nn (hp i h)) _ (fun h=>aAy e _ (by rw [List.length_map];have:=BM e;omega) hk)) (by
   simp only [smF,hk,if_true,if_false,Int.reduceEq,e1,e2]) (Du (by have:=aBF e.name (e.args.map fun a=>tyT a ctx n);omega) (by omega))
 ·have l0:0<e.args.length:=by omega
  have l1:1<e.args.length:=by omega
  have l2:2<e.args.length:=by omega
  exact Cy e ctx n _ ha (Ns e ctx n (by omega) hc (fun i h=>hP i ctx n h nn (hp i h)) _ (fun h=>aAI e _ (by rw [List.length_map];omega) (hv h) hk)) (by
   simp only [smF,hk,if_true,if_false,Int.reduceEq,e1,BX tyS e.args 0 l0,BX tyS e.args 1 l1,BX tyS e.args 2 l2,hs 0 _ _ l0,hs 1 _ _ l1,hs 2 _ _ l2,Lc,lb 0 l0,lb 1 l1,lb 2 l2]) (Du (by rw [lb 1 l1];have:=Ew (zz e.args[1]! ctx n);show szL (tyC (tyT e.args[1]! ctx n))≤_;omega) (by omega))
 ·have l0:0<e.args.length:=by omega
  have s1:=Xz (h6' hk)
  have s2:=VI (n6 hk)
  have hg:[(⟨e.name,e.ty,n⟩:Tg)].length+szL (flC tgC [(⟨e.name,e.ty,n⟩:Tg)])≤200:=by
   rw [AA,Lo];simp only [List.length_cons,List.length_nil];omega
  have zB:=zz e.args[0]! (ctx++[(⟨e.name,e.ty,n⟩:Tg)]) n
  exact Cy e ctx n _ ha (Mv e ctx n (by omega) hc _ _ (YH e ctx n hk (by omega) hc (by omega) _ zB (hP 0 _ n l0 nn (hb 0 _ l0 hg)))) (by
   simp only [smF,hk,if_true,if_false,Int.reduceEq,BX tyS e.args 0 l0,hs 0 _ _ l0,Lc,Mp]) (by show szL (tyC (.mk 3 [_,_]))≤_;rw [LT];have:=Ew zB;omega)
 ·have l0:0<e.args.length:=by omega
  have l1:1<e.args.length:=by omega
  have zA:=zz e.args[0]! ctx n
  refine Cy e ctx n _ ha (Ns e ctx n (by omega) hc (fun i h=>hP i ctx n h nn (hp i h)) _ (fun h=>ZR e _ (by rw [List.length_map];omega) (hv h) hk)) (by
   simp only [smF,hk,if_true,if_false,Int.reduceEq,e1,BX tyS e.args 0 l0,BX tyS e.args 1 l1,hs 0 _ _ l0,hs 1 _ _ l1,Lc,lb 0 l0,lb 1 l1]) ?_
  rw [lb 0 l0,lb 1 l1]
  generalize tyT e.args[0]! ctx n=A at *
  refine Du ?_ (by omega)
  by_cases h3:A.kind=3
  ·rw [if_pos h3]
   refine Du ?_ (by omega)
   have hv:=Pz zA (by omega)
   rcases FY (ER hv) with ⟨q,_⟩ | ⟨q,_⟩ | ⟨_,u,v,hu,_⟩ | ⟨q,_⟩
   ·omega
   ·omega
   ·have h1:=Xz hv
    rw [IV h3 hu,LT] at h1
    rw [hu]
    show szL (tyC v)≤_
    omega
   ·omega
  ·rw [if_neg h3];omega
 ·have l0:0<e.args.length:=by omega
  have l1:1<e.args.length:=by omega
  have s2:=VI (n8 hk)
  have zA:=zz e.args[0]! ctx n
  have s1:=Ew zA
  have hg:[(⟨e.name,tyT e.args[0]! ctx n,n⟩:Tg)].length+szL (flC tgC [(⟨e.name,tyT e.args[0]! ctx n,n⟩:Tg)])≤200:=by
   rw [AA,Lo];simp only [List.length_cons,List.length_nil];omega
  exact Cy e ctx n _ ha (Mv e ctx n (by omega) hc _ _ (aAT e ctx n hk (by omega) hc _ zA (hP 0 ctx n l0 nn (hp 0 l0)) _ (hP 1 _ n l1 nn (hb 1 _ l1 hg)))) (by
   simp only [smF,hk,if_true,if_false,Int.reduceEq,BX tyS e.args 0 l0,BX tyS e.args 1 l1,hs 0 _ _ l0,hs 1 _ _ l1,Lc,Mp,decide_eq_true_eq]
   split <;> rfl) (by
   show szL (tyC (if _ then _ else _))≤_
   exact XM (by have:=Ew (zz e.args[1]! (ctx++[(⟨e.name,tyT e.args[0]! ctx n,n⟩:Tg)]) n);omega) (by omega))
 ·have l0:0<e.args.length:=by omega
  have s1:=Xz (h9 hk)
  have s1':=Xz (h9' hk)
  have s2:=VI (n9 hk).1
  have s3:=VI (n9 hk).2
  have hg:[(⟨e.name,.mk 3 [e.ty,e.res],n⟩:Tg),⟨e.other,e.ty,n⟩].length+szL (flC tgC [(⟨e.name,.mk 3 [e.ty,e.res],n⟩:Tg),⟨e.other,e.ty,n⟩])≤200:=by
   rw [show [(⟨e.name,.mk 3 [e.ty,e.res],n⟩:Tg),⟨e.other,e.ty,n⟩]=[(⟨e.name,.mk 3 [e.ty,e.res],n⟩:Tg)]++[⟨e.other,e.ty,n⟩] from rfl,AM,Ah,AA,AA,Lo,Lo]
   have:=LT e.ty e.res
   simp only [List.length_append,List.length_cons,List.length_nil];omega
  exact Cy e ctx n _ ha (Mv e ctx n (by omega) hc _ _ (YO e ctx n hk (by omega) hc (by omega) (by omega) _ (zz _ _ _) (hP 0 _ n l0 nn (hb 0 _ l0 hg)))) (by
   simp only [smF,hk,if_true,if_false,Int.reduceEq,BX tyS e.args 0 l0,hs 0 _ _ l0,Lc,Mp]) (by show szL (tyC (.mk 3 [_,_]))≤_;rw [LT];omega)
 ·have l0:0<e.args.length:=by omega
  have zB:=zz e.args[0]! ctx (n+1)
  exact Cy e ctx n _ ha (JS e ctx n (by omega) hc _ (VC e ctx n hk (by omega) hn0 hc _ zB (hP 0 ctx (n+1) l0 (by omega) (hp 0 l0)))) (by
   simp only [smF,hk,if_true,if_false,Int.reduceEq,BX tyS e.args 0 l0,hs 0 _ _ l0,Lc,Mp,decide_eq_true_eq]) (Du (by show szL (tyC (.mk 4 [_]))≤_;rw [Iq];have:=Ew zB;omega) (by omega))
 ·have l0:0<e.args.length:=by omega
  have zB:=zz e.args[0]! ctx (n-1)
  exact Cy e ctx n _ ha (JS e ctx n (by omega) hc _ (VX e ctx n hk (by omega) hn0 hc _ zB (hP 0 ctx (n-1) l0 (by omega) (hp 0 l0)))) (by
   simp only [smF,hk,if_true,if_false,Int.reduceEq,BX tyS e.args 0 l0,hs 0 _ _ l0,Lc,Mp,decide_eq_true_eq]) (Du (by
    have:=Pq zB
    unfold Ln at this
    split
    ·rename_i h4
     rw [if_pos h4] at this
     show szL (tyC (tyT e.args[0]! ctx (n-1)).args[0]!)≤_
     omega
    ·omega) (by omega))
 ·have l0:0<e.args.length:=by omega
  have zB:=zz e.args[0]! (Bp ctx n ctx.length) n
  exact Cy e ctx n _ ha (JS e ctx n (by omega) hc _ (UV e ctx n hk (by omega) hn0 hc _ zB (hP 0 _ n l0 nn (hc.safe (aEi l0))))) (by
   simp only [smF,hk,if_true,if_false,Int.reduceEq,BX tyS e.args 0 l0,hs 0 _ _ l0,Lc,Mp,decide_eq_true_eq]) (Du (by
    have:=Pq zB
    unfold Ln at this
    split
    ·rename_i h4
     rw [if_pos h4] at this
     show szL (tyC (tyT e.args[0]! (Bp ctx n ctx.length) n).args[0]!)≤_
     omega
    ·omega) (by omega))
 ·have l0:0<e.args.length:=by omega
  have zB:=zz e.args[0]! ctx n
  exact Cy e ctx n _ ha (JS e ctx n (by omega) hc _ (UY e ctx n hk (by omega) hn0 hc _ zB (hP 0 ctx n l0 nn (hp 0 l0)))) (by
   simp only [smF,hk,if_true,if_false,Int.reduceEq,BX tyS e.args 0 l0,hs 0 _ _ l0,Lc,Mp,decide_eq_true_eq]) (Du (by show szL (tyC (.mk 4 [_]))≤_;rw [Iq];have:=Ew zB;omega) (by omega))
theorem Gc (t:Tm) (m:Int) (hz:szL (tmC t)≤1000000000) (hm:rgL t m):Con prog 86 [.ag (tmC t),.one (.int m)] [.one (.bool (Bn EO t && Jx okB t m))]:=by
 have hI:=FD t hz
 have hL:=OL t hz m hm
 rw [Ak] at hI hL
 generalize Bn EO t=a at *
 generalize Jx okB t m=b at *
 cases a
 ·refine Af func86 rfl rfl (by simp [ntmps86]) ?_
  refine byP (fc ntmps86 results86) ?_
  refine Kc hI ?_
  refine rG (fc ntmps86 results86) ?_
  exact tI
 ·refine Af func86 rfl rfl (by simp [ntmps86]) ?_
  refine byP (fc ntmps86 results86) ?_
  refine Kc hI ?_
  refine rQ ?_
  refine Kc hL ?_
  refine rG (fc ntmps86 results86) ?_
  exact tI
theorem MS (e:Tm) (hz:szL (tmC e)≤2000000):∃ T:Ty,Bc prog 29 [.b (.one (.rows 4 0 [])),.b (.ag (tmC e)),.b (.one (.int 0))] [] [.ag [.r (.int T.kind),.r (.rows 2 T.args.length (Ai T.args))],.one (.r (.bool (toB e)))]:=by
 have hL:=Gc e 0 (by omega) (rg0 hz)
 have hT:=YM e [] 0
 unfold toB
 rw [show (Bn EO e && Jx okB e 0)=lvB e from rfl] at hL
 rw [Ak] at hL
 cases hl:lvB e with
 | false =>
  rw [hl] at hL
  rw [Bool.false_and]
  refine ⟨z0, ?_⟩
  refine Ad func29 rfl rfl (by simp [ntmps29]) rfl ?_
  refine byP (fc ntmps29 results29) ?_
  refine Kc Lh ?_
  refine rQ ?_
  refine Kc hL ?_
  refine rG (fc ntmps29 results29) ?_
  exact ⟨rfl,rfl,rfl⟩
 | true =>
  rw [hl] at hL
  rw [Bool.true_and]
  replace hT:=hT (by unfold DG;simp only [List.length_nil,flC,szL];omega) (rg0 hz) (by unfold lvB at hl;rw [Bool.and_eq_true] at hl;exact hl.1)
  refine ⟨tyT e [] 0, ?_⟩
  rw [Ak] at hT
  generalize decide ((tyT e [] 0).kind≠0)=b at *
  generalize tyT e [] 0=T at *
  simp only [List.length_nil,flC] at hT
  refine Ad func29 rfl rfl (by simp [ntmps29]) rfl ?_
  refine byP (fc ntmps29 results29) ?_
  refine Kc Lh ?_
  refine rQ ?_
  refine Kc hL ?_
  refine rQ ?_
  refine KR hT ?_
  refine rG (fc ntmps29 results29) ?_
  exact tI
def suO {α:Type} (_:α):List (List CD):=[]
def suR (t:Tm):List RD:=[tmZ t]
def f7R (e:Tm) (o:ByteArray × ByteArray × List Tm):List RD:=[tmA (.mk e.kind o.1 o.2.1 e.n e.ty e.res o.2.2)]
theorem suF:(∀ (α:Type) (x:α),suO x=[])∧(∀ t,suR t=[.ag [.r (.int t.kind),.r (.str t.name),.r (.str t.other),.r (.int t.n),.r (.int t.ty.kind),.r (.rows 2 t.ty.args.length (Ai t.ty.args)),.r (.int t.res.kind),.r (.rows 2 t.res.args.length (Ai t.res.args)),.r (.rows 9 t.args.length (Av t.args))]]) :=
 ⟨fun _ _=>rfl,fun _=>rfl⟩
theorem f7F:∀ e a b c,f7R e (a,b,c)=[.ag [.o (.int e.kind),.o (.str a),.o (.str b),.o (.int e.n),.o (.int e.ty.kind),.r (.rows 2 e.ty.args.length (Ai e.ty.args)),.o (.int e.res.kind),.r (.rows 2 e.res.args.length (Ai e.res.args)),.q 29 (.rows 9 c.length (Av c))]]:=fun _ _ _ _=>rfl
def aEs (m:Nat):Prop:=∀ (e:Tm) (x:ByteArray) (u:Tm),nT e<m→ShT e→nT e≤200000→ShT u→nT u≤400→Bz prog 239 [.b (.ag [.int e.kind,.str e.name,.str e.other,.int e.n,.int e.ty.kind,.rows 2 e.ty.args.length (Ai e.ty.args),.int e.res.kind,.rows 2 e.res.args.length (Ai e.res.args),.rows 9 e.args.length (Av e.args)]),.b (.one (.str x)),.b (.ag [.int u.kind,.str u.name,.str u.other,.int u.n,.int u.ty.kind,.rows 2 u.ty.args.length (Ai u.ty.args),.int u.res.kind,.rows 2 u.res.args.length (Ai u.res.args),.rows 9 u.args.length (Av u.args)])] (SuI e x u) suO suR
theorem aBD {y:ByteArray} (h:y.size≤24):ShT (aBg y):=MN ⟨rfl,fun h=>absurd (show (1:Int)=3 from h) (by decide),fun h=>absurd (show (1:Int)=4 from h) (by decide),h,show (⟨#[]⟩:ByteArray).size≤24 by decide,show szL (tyC (.mk 0 []))≤30 by decide,show szL (tyC (.mk 0 []))≤30 by decide⟩ fun x hx=>by cases hx
theorem Xq {e:Tm} {p:Nat} (hp:bdP e.kind e.args.length=(p:Int)):p<e.args.length∧(e.kind=6∨e.kind=8∨e.kind=9):=by
 unfold bdP at hp
 split at hp
 ·rename_i h;exact ⟨by omega,.inl h.1⟩
 split at hp
 ·rename_i h;exact ⟨by omega,.inr (.inl h.1)⟩
 split at hp
 ·rename_i h;exact ⟨by omega,.inr (.inr h.1)⟩
 ·omega
theorem aHs {e:Tm} (h:Sh e):∀ y ∈ bdN e.kind e.name e.other e.args.length,y.size≤24:=by
 intro y hy
 have h1:=h.nm;have h2:=h.ot
 unfold bdN at hy
 split at hy
 ·rw [List.mem_singleton] at hy;rw [hy];exact h1
 split at hy
 ·rw [List.mem_singleton] at hy;rw [hy];exact h1
 split at hy
 ·simp only [List.mem_cons,List.not_mem_nil,or_false] at hy
  rcases hy with hy | hy <;> rw [hy] <;> assumption
 ·cases hy
theorem Sa (l:List ByteArray):l.length≤sL l:=by rw [sL];omega
def FxI (e:Tm) (near:List ByteArray) (o:Nat × ByteArray × ByteArray × List Tm):Prop:=o.1≤(bdN e.kind e.name e.other e.args.length).length∧FrI e near o.2.1 o.2.2.1 o.2.2.2
set_option maxHeartbeats 8000000 in
theorem aCz (m:Nat) (hS:aEs m) (e:Tm) (p:Nat) (x:ByteArray) (near:List ByteArray) (hp:bdP e.kind e.args.length=(p:Int)) (hm:nT e≤m) (hsh:ShT e) (hn:nT e≤200000) (hl:sL near≤100000):Bz prog 268 [.b (.ag [.int e.kind,.str e.name,.str e.other,.int e.n,.int e.ty.kind,.rows 2 e.ty.args.length (Ai e.ty.args),.int e.res.kind,.rows 2 e.res.args.length (Ai e.res.args),.rows 9 e.args.length (Av e.args)]),.b (.one (.int p)),.b (.one (.str x)),.b (.one (.rows 1 near.length (near.map D.str)))] (fun o=>FrI e near o.1 o.2.1 o.2.2) suO (f7R e):=by
 have hze:=DW e hsh
 obtain ⟨hpl,hk3⟩:=Xq hp
 have hCp:=Is e (by omega)
 unfold tmA at hCp
 rw [Ak] at hCp
 have hB:=Jj (JX e (by omega)) trivial
 rw [Ak] at hB
 have hBz:=aHs hsh.sh
 have hBl:=OZ e.kind e.name e.other e.args.length
 simp only [Bl] at hB
 rw [hp] at hB
 have hnl:=Sa near
 have hp0:(0:Int)≤(p:Int):=by omega
 have hn4:e.kind≠4:=by omega
 have hFx:∀ o,FxI e near o→FxI e near o:=fun _ h=>h
 unfold FxI at hFx
 generalize hN:bdN e.kind e.name e.other e.args.length=ns at hB hBz hBl hFx
 refine AF func268 rfl rfl (by simp [ntmps268]) (fun _ _=>rfl) ?_
 refine byP (fc ntmps268 results268) ?_
 refine KR hCp ?_
 refine rQ ?_
 refine KR hB ?_
 refine rQ ?_
 refine Al (fun o:Nat × ByteArray × ByteArray × List Tm=>o.1≤ns.length∧FrI e near o.2.1 o.2.2.1 o.2.2.2) (fun o=>⟨78,[(12,.i o.1),(10,.br (.rows 1 ns.length (ns.map D.str))),(9,.bx 3 0),(8,.bx 1 0),(3,.br (.rows 1 near.length (near.map D.str))),(2,.s x),(1,.i p)],[(1,[.i 0,.s ⟨#[]⟩,.s ⟨#[]⟩,.i 0,.i 0,.nl 2,.i 0,.nl 2,.nl 9]),(3,[.i e.kind,.s o.2.1,.s o.2.2.1,.i e.n,.i e.ty.kind,.br (.rows 2 e.ty.args.length (Ai e.ty.args)),.i e.res.kind,.br (.rows 2 e.res.args.length (Ai e.res.args)),.sl 2])],[(2,some ⟨.rows 9 o.2.2.2.length (Av o.2.2.2),some 29,false⟩)],4,[]⟩) (fun o=>ns.length-o.1) (0,e.name,e.other,e.args) id ⟨Nat.zero_le _,Tw hsh near⟩ ?_ ?_
 ·exact byP Int.natCast_zero tI
 rintro ⟨i,nm,ot,l⟩ ⟨hi0,hF⟩
 simp only at hi0 hF ⊢
 by_cases hlt:i<ns.length
 ·have hi:(i:Int)<(ns.length:Int):=by omega
  have hR:=Cc ns i hlt
  have hI:=BU near ns[i]! (by omega)
  simp only [Bl] at hI
  refine rG (fc hi hR) ?_
  refine Kc hI ?_
  by_cases hneg:fi ns[i]! near 0<0
  ·refine rG hneg ?_
   exact ⟨by unfold inI;omega,(i+1,nm,ot,l),id,⟨by simp only;omega,hF⟩,by simp only;omega,byP Bx tI⟩
  ·have hln:=hF.len
   have hzo:=DW _ hF.sh
   have hno:=hF.n p hpl
   have hap:=hF.arg (k:=p) (by omega)
   have hza:=DW _ hap
   have hpn:=Cg hpl
   have hB2:=JX (.mk e.kind nm ot e.n e.ty e.res l) (by
    have h1:=ME l e.args 1 hln fun k hk=>by rw [Nat.mul_one];exact hF.n k hk
    rw [Ik] at hzo
    have h2:=Ik e
    simp only [AJ] at hzo
    omega)
   rw [Ak] at hB2
   simp only [Bl,Bf,Bd,AP,Gj,CP,BQ,AJ] at hB2
   have hB2l:=OZ e.kind nm ot l.length
   generalize bdN e.kind nm ot l.length=now at hB2 hB2l
   have hR9:=Aj l p (by omega)
   have hpi:(p:Int)<(l.length:Int):=by omega
   have hFr:=Jj (Gn l[p]! (by omega)) trivial
   rw [Ak] at hFr hR9
   simp only [Bl] at hFr
   have hfs:=Ka l[p]!
   have hfl:=Sa (AE l[p]!)
   have hU:=Qj near (AE l[p]!) (by omega) (by omega)
   simp only [Bl] at hU
   have hus:sL (Ml near (AE l[p]!))≤sL near+sL (AE l[p]!):=RB _ _
   have hul:=Sa (Ml near (AE l[p]!))
   have hul2:=NX near (AE l[p]!)
   have hfl2:=KP l[p]!
   generalize Ml near (AE l[p]!)=un at *
   refine rG hneg ?_
   refine Kc hB2 ?_
   refine rG (fc hR9 (fc hp0 hpi)) ?_
   refine KR hFr ?_
   refine rQ ?_
   refine KR hU ?_
   refine rQ ?_
   refine ⟨⟨fun h=>h.elim,fun o ho=>by omega,by unfold maxLen;omega,by omega⟩,⟨fun _ d hd=>by obtain ⟨z,_,rfl⟩:=List.mem_map.1 hd;rfl,fun _ _=>trivial,by unfold maxLen;omega,by omega⟩, ?_⟩
   refine AX 8 rfl ?_
   have hcat:(List.map D.str un++[D.str x])++List.map D.str now=List.map D.str (un++[x]++now):=by simp
   have hcl:un.length+1+now.length=(un++[x]++now).length:=by simp only [List.length_append,List.length_singleton]
   have hFN:=Rr (un++[x]++now) (by rw [← hcl];omega)
   generalize un++[x]++now=xs at hcat hcl hFN
   refine byP (fc hcat hcl) ?_
   refine KX (aII xs) hFN ?_
   rintro y hy
   have hy':y.size≤24:=hy
   refine rG (aII xs) ?_
   have hV:=Fs (LB y)
   unfold tmZ at hV
   have hSub:=hS l[p]! ns[i]! (aBg y) (by omega) hap (by omega) (aBD hy') (show 1≤400 by decide)
   have hls:∀ t:Tm,(l.set p t).length=l.length:=fun t=>List.length_set
   have hset:=fun t=>De l p t (by omega)
   have hne:near≠[]:=fun h=>by rw [h] at hneg;exact hneg (by rw [fi];decide)
   refine Ac (oT [0,1,2,3,4,5,6,7,8,9,10,11,12] (oF [13,14] (.cons 15 true (.cons 16 false .nil)))) (by kernel_rfl) AD (by kernel_rfl) ?_
   refine rG (fc hR (fc hR9 (fc hi (fc hp0 hpi)))) ?_
   refine KB hV ?_
   refine rQ ?_
   refine Bw (cap:=[]) (hSub) rfl rfl rfl (byP (suF) tI) ?_
   rintro t ht
   specialize hls t
   specialize hset t
   refine rG (fc suF (fc hp0 hpi)) ?_
   by_cases h0:(i:Int)=0
   ·rw [if_pos h0]
    exact ⟨by unfold inI;omega,(i+1,y,ot,l.set p t),id,⟨by simp only;omega,hF.turn hn4 hpl hy' ht hne true⟩,by simp only;omega,byP (fc Bx (fc hls hset)) tI⟩
   ·rw [if_neg h0]
    exact ⟨by unfold inI;omega,(i+1,nm,y,l.set p t),id,⟨by simp only;omega,hF.turn hn4 hpl hy' ht hne false⟩,by simp only;omega,byP (fc Bx (fc hls hset)) tI⟩
 ·have hi:¬ (i:Int)<(ns.length:Int):=by omega
  refine rG hi ?_
  refine rG (fc ntmps268 results268) ?_
  refine ⟨.inl rfl,(nm,ot,l),hF, ?_⟩
  refine byP (fc suF (fc f7F (fc ntmps268 results268))) ?_
  exact Fi
theorem VQ (e:Tm):(bdP e.kind e.args.length = -1∧bdN e.kind e.name e.other e.args.length=[])∨∃ p:Nat,bdP e.kind e.args.length=(p:Int):=by
 unfold bdP bdN
 split
 ·exact .inr ⟨0,rfl⟩
 split
 ·exact .inr ⟨1,rfl⟩
 split
 ·exact .inr ⟨0,rfl⟩
 ·exact .inl ⟨rfl,rfl⟩
theorem Xn {x:ByteArray} {ns:List ByteArray} {b:Bool} (h:decide (0≤fi x ns 0)=b):OB x ns=b:=by
 rw [← h,Bool.eq_iff_iff,Dz,decide_eq_true_eq,Lt x ns 0 (Int.le_refl _)]
set_option maxHeartbeats 16000000 in
theorem UQ (m:Nat) (ih:aEs m):aEs (m+1):=by
 intro e x u hm hsh hn hu hun
 have hze:=DW e hsh
 have hzu:=DW u hu
 have hCp:=Is e (by omega)
 unfold tmA at hCp
 rw [Ak] at hCp
 have hB:=Jj (JX e (by omega)) trivial
 rw [Ak] at hB
 simp only [Bl] at hB
 have hC:=Fs (Dh u (by omega))
 unfold tmZ at hC
 rw [Ak] at hC
 have hBl:=OZ e.kind e.name e.other e.args.length
 have hfu:=Jj (Gn u (by omega)) trivial
 rw [Ak] at hfu
 simp only [Bl] at hfu
 have hfl:=KP u
 have hfz:=Ka u
 refine AL [3] func239 rfl rfl (by simp [ntmps239]) (fun _ _=>rfl) ?_
 by_cases hv:e.kind=1∧e.name=x
 ·obtain ⟨h1,h2⟩:=hv
  refine byP (fc (eq_true h1) (fc (eq_true h2) (fc ntmps239 results239))) ?_
  refine KR hC ?_
  refine rG (fc ntmps239 results239) ?_
  refine ⟨.inl rfl,u,⟨hu,Nat.le_mul_of_pos_left _ (LK e),fun _ => ?_⟩, ?_⟩
  ·rw [Fb,if_pos ⟨h1,h2⟩]
  refine byP (fc suF (fc ntmps239 results239)) ?_
  exact Fi
 have hI:=BU (bdN e.kind e.name e.other e.args.length) x (by omega)
 simp only [Bl] at hI
 have hself:=Tw hsh (AE u)
 rcases VQ e with ⟨hpq,hnq⟩ | ⟨p,hpq⟩
 ·have hmq:OB x (bdN e.kind e.name e.other e.args.length)=false:=by rw [hnq];rfl
  have hneg:¬ (0:Int)≤fi x (bdN e.kind e.name e.other e.args.length) 0:=by rw [hnq,fi];decide
  rw [hpq] at hB
  generalize bdN e.kind e.name e.other e.args.length=ns at hB hI hneg hBl
  by_cases h1:e.kind=1
  ·have h2:¬ e.name=x:=fun h=>hv ⟨h1,h⟩
   refine byP (fc (eq_true h1) (fc h2 (fc ntmps239 results239))) ?_
   refine KR hCp ?_
   refine rQ ?_
   refine KR hB ?_
   refine rQ ?_
   refine Kc hI ?_
   refine rG hneg ?_
   refine Al (fun o:Nat × List Tm=>SuL e.args x u (-1) false o.1 o.2) (fun o=>⟨84,[(11,.i o.1),(10,.b false),(9,.i (-1)),(7,.bx 4 0),(6,.bx 2 0),(5,.bx 1 0),(1,.s x)],[(1,[.i u.kind,.s u.name,.s u.other,.i u.n,.i u.ty.kind,.br (.rows 2 u.ty.args.length (Ai u.ty.args)),.i u.res.kind,.br (.rows 2 u.res.args.length (Ai u.res.args)),.br (.rows 9 u.args.length (Av u.args))]),(2,[.i 0,.s ⟨#[]⟩,.s ⟨#[]⟩,.i 0,.i 0,.nl 2,.i 0,.nl 2,.nl 9]),(4,[.i e.kind,.s e.name,.s e.other,.i e.n,.i e.ty.kind,.br (.rows 2 e.ty.args.length (Ai e.ty.args)),.i e.res.kind,.br (.rows 2 e.res.args.length (Ai e.res.args)),.sl 3])],[(3,some ⟨.rows 9 o.2.length (Av o.2),some 29,false⟩)],5,[]⟩) (fun o=>(e.args).length-o.1) (0,e.args) id (Sl _ _ _ _ _) ?_ ?_
   ·exact byP Int.natCast_zero tI
   rintro ⟨k,l⟩ hL
   simp only at hL ⊢
   have hll:=hL.len
   have hkl:=hL.le
   have hl0:=hself.len
   by_cases hlt:k<(e.args).length
   ·have hi:(k:Int)<(l.length:Int):=by omega
    have k0:(0:Int)≤(k:Int):=by omega
    have hre:=hL.rest k (Nat.le_refl _) hlt
    have hsk:ShT l[k]! := by rw [hre];exact hself.arg hlt
    have hnk:nT l[k]! ≤ nT e.args[k]! := by rw [hre];exact hself.n k (by omega)
    have hpk:=Cg (t:=e) (k:=k) (by omega)
    have hbk:=(CJ (t:=e) (Nat.le_refl _)).2.2
    have hR9:=Aj l k (by omega)
    rw [Ak] at hR9
    have hSub:=ih l[k]! x u (by omega) hsk (by omega) hu hun
    have hls:∀ t:Tm,(l.set k t).length=l.length:=fun t=>List.length_set
    have hset:=fun t=>De l k t (by omega)
    have hkp:¬ (k:Int) = -1:=by omega
    refine rG (fc hi hkp) ?_
    refine Ac (oT [0,1,2,3,4,5,6,7,8,9] (.cons 10 false (.cons 11 true (.cons 12 false .nil)))) (by kernel_rfl) AD (by kernel_rfl) ?_
    refine rG (fc hR9 (fc hi k0)) ?_
    refine Bw (cap:=[]) (hSub) rfl rfl rfl (byP (suF) tI) ?_
    rintro t ht
    specialize hls t
    specialize hset t
    refine rG (fc suF (fc hi k0)) ?_
    exact ⟨by unfold inI;omega,(k+1,l.set k t),id,hL.put hlt (fun h=>hkp h.1) ht,by simp only;omega,byP (fc Bx (fc hls hset)) tI⟩
   ·have hi:¬ (k:Int)<(l.length:Int):=by omega
    obtain rfl:k=(e.args).length:=by omega
    refine rG hi ?_
    refine rG (fc ntmps239 results239) ?_
    refine ⟨.inl rfl,.mk e.kind e.name e.other e.n e.ty e.res l,Ma hv hself (by rw [hpq,hmq];exact hL), ?_⟩
    refine byP (fc suF (fc Bf (fc Bd (fc AP (fc Gj (fc CP (fc BQ (fc AJ (fc ntmps239 results239))))))))) ?_
    exact Fi
  ·refine byP (fc h1 (fc ntmps239 results239)) ?_
   refine KR hCp ?_
   refine rQ ?_
   refine KR hB ?_
   refine rQ ?_
   refine Kc hI ?_
   refine rG hneg ?_
   refine Al (fun o:Nat × List Tm=>SuL e.args x u (-1) false o.1 o.2) (fun o=>⟨84,[(11,.i o.1),(10,.b false),(9,.i (-1)),(7,.bx 4 0),(6,.bx 2 0),(5,.bx 1 0),(1,.s x)],[(1,[.i u.kind,.s u.name,.s u.other,.i u.n,.i u.ty.kind,.br (.rows 2 u.ty.args.length (Ai u.ty.args)),.i u.res.kind,.br (.rows 2 u.res.args.length (Ai u.res.args)),.br (.rows 9 u.args.length (Av u.args))]),(2,[.i 0,.s ⟨#[]⟩,.s ⟨#[]⟩,.i 0,.i 0,.nl 2,.i 0,.nl 2,.nl 9]),(4,[.i e.kind,.s e.name,.s e.other,.i e.n,.i e.ty.kind,.br (.rows 2 e.ty.args.length (Ai e.ty.args)),.i e.res.kind,.br (.rows 2 e.res.args.length (Ai e.res.args)),.sl 3])],[(3,some ⟨.rows 9 o.2.length (Av o.2),some 29,false⟩)],5,[]⟩) (fun o=>(e.args).length-o.1) (0,e.args) id (Sl _ _ _ _ _) ?_ ?_
   ·exact byP Int.natCast_zero tI
   rintro ⟨k,l⟩ hL
   simp only at hL ⊢
   have hll:=hL.len
   have hkl:=hL.le
   have hl0:=hself.len
   by_cases hlt:k<(e.args).length
   ·have hi:(k:Int)<(l.length:Int):=by omega
    have k0:(0:Int)≤(k:Int):=by omega
    have hre:=hL.rest k (Nat.le_refl _) hlt
    have hsk:ShT l[k]! := by rw [hre];exact hself.arg hlt
    have hnk:nT l[k]! ≤ nT e.args[k]! := by rw [hre];exact hself.n k (by omega)
    have hpk:=Cg (t:=e) (k:=k) (by omega)
    have hbk:=(CJ (t:=e) (Nat.le_refl _)).2.2
    have hR9:=Aj l k (by omega)
    rw [Ak] at hR9
    have hSub:=ih l[k]! x u (by omega) hsk (by omega) hu hun
    have hls:∀ t:Tm,(l.set k t).length=l.length:=fun t=>List.length_set
    have hset:=fun t=>De l k t (by omega)
    have hkp:¬ (k:Int) = -1:=by omega
    refine rG (fc hi hkp) ?_
    refine Ac (oT [0,1,2,3,4,5,6,7,8,9] (.cons 10 false (.cons 11 true (.cons 12 false .nil)))) (by kernel_rfl) AD (by kernel_rfl) ?_
    refine rG (fc hR9 (fc hi k0)) ?_
    refine Bw (cap:=[]) (hSub) rfl rfl rfl (byP (suF) tI) ?_
    rintro t ht
    specialize hls t
    specialize hset t
    refine rG (fc suF (fc hi k0)) ?_
    exact ⟨by unfold inI;omega,(k+1,l.set k t),id,hL.put hlt (fun h=>hkp h.1) ht,by simp only;omega,byP (fc Bx (fc hls hset)) tI⟩
   ·have hi:¬ (k:Int)<(l.length:Int):=by omega
    obtain rfl:k=(e.args).length:=by omega
    refine rG hi ?_
    refine rG (fc ntmps239 results239) ?_
    refine ⟨.inl rfl,.mk e.kind e.name e.other e.n e.ty e.res l,Ma hv hself (by rw [hpq,hmq];exact hL), ?_⟩
    refine byP (fc suF (fc Bf (fc Bd (fc AP (fc Gj (fc CP (fc BQ (fc AJ (fc ntmps239 results239))))))))) ?_
    exact Fi
 ·obtain ⟨hpl,hk3⟩:=Xq hpq
  have h1:¬ e.kind=1:=by omega
  have hp0:(0:Int)≤(p:Int):=by omega
  have hpi:(p:Int)<(e.args.length:Int):=by omega
  have hR:=Aj e.args p hpl
  have hsp:=Bv e.args p hpl
  have hz8:=CJ (t:=e) (Nat.le_refl _)
  have hF:=Gn e.args[p]! (by omega)
  have hFl:=KP e.args[p]!
  have hpn:=Cg hpl
  have hJ:=BU (AE e.args[p]!) x (by omega)
  rw [Ak] at hR hF
  simp only [Bl] at hF hJ
  rw [hpq] at hB
  by_cases hhid:(0:Int)≤fi x (bdN e.kind e.name e.other e.args.length) 0
  ·have hmq:=Xn (decide_eq_true hhid)
   generalize bdN e.kind e.name e.other e.args.length=ns at hB hI hhid hBl
   refine byP (fc h1 (fc ntmps239 results239)) ?_
   refine KR hCp ?_
   refine rQ ?_
   refine KR hB ?_
   refine rQ ?_
   refine Kc hI ?_
   refine rG (fc (eq_true hhid) hp0) ?_
   refine Al (fun o:Nat × List Tm=>SuL e.args x u (p:Int) true o.1 o.2) (fun o=>⟨84,[(11,.i o.1),(10,.b true),(9,.i (p:Int)),(7,.bx 4 0),(6,.bx 2 0),(5,.bx 1 0),(1,.s x)],[(1,[.i u.kind,.s u.name,.s u.other,.i u.n,.i u.ty.kind,.br (.rows 2 u.ty.args.length (Ai u.ty.args)),.i u.res.kind,.br (.rows 2 u.res.args.length (Ai u.res.args)),.br (.rows 9 u.args.length (Av u.args))]),(2,[.i 0,.s ⟨#[]⟩,.s ⟨#[]⟩,.i 0,.i 0,.nl 2,.i 0,.nl 2,.nl 9]),(4,[.i e.kind,.s e.name,.s e.other,.i e.n,.i e.ty.kind,.br (.rows 2 e.ty.args.length (Ai e.ty.args)),.i e.res.kind,.br (.rows 2 e.res.args.length (Ai e.res.args)),.sl 3])],[(3,some ⟨.rows 9 o.2.length (Av o.2),some 29,false⟩)],5,[]⟩) (fun o=>(e.args).length-o.1) (0,e.args) id (Sl _ _ _ _ _) ?_ ?_
   ·exact byP Int.natCast_zero tI
   rintro ⟨k,l⟩ hL
   simp only at hL ⊢
   have hll:=hL.len
   have hkl:=hL.le
   have hl0:=hself.len
   by_cases hlt:k<(e.args).length
   ·have hi:(k:Int)<(l.length:Int):=by omega
    have k0:(0:Int)≤(k:Int):=by omega
    have hre:=hL.rest k (Nat.le_refl _) hlt
    have hsk:ShT l[k]! := by rw [hre];exact hself.arg hlt
    have hnk:nT l[k]! ≤ nT e.args[k]! := by rw [hre];exact hself.n k (by omega)
    have hpk:=Cg (t:=e) (k:=k) (by omega)
    have hbk:=(CJ (t:=e) (Nat.le_refl _)).2.2
    have hR9:=Aj l k (by omega)
    rw [Ak] at hR9
    have hSub:=ih l[k]! x u (by omega) hsk (by omega) hu hun
    have hls:∀ t:Tm,(l.set k t).length=l.length:=fun t=>List.length_set
    have hset:=fun t=>De l k t (by omega)
    by_cases hkp:(k:Int)=(p:Int)
    ·refine rG (fc hi (eq_true hkp)) ?_
     exact ⟨by unfold inI;omega,(k+1,l),id,hL.skip hlt ⟨hkp,rfl⟩,by simp only;omega,byP Bx tI⟩
    ·have hq:¬ ((k:Int)=(p:Int)∧true=true):=fun h=>hkp h.1
     refine rG (fc hi hkp) ?_
     refine Ac (oT [0,1,2,3,4,5,6,7,8,9] (.cons 10 false (.cons 11 true (.cons 12 false .nil)))) (by kernel_rfl) AD (by kernel_rfl) ?_
     refine rG (fc hR9 (fc hi k0)) ?_
     refine Bw (cap:=[]) (hSub) rfl rfl rfl (byP (suF) tI) ?_
     rintro t ht
     specialize hls t
     specialize hset t
     refine rG (fc suF (fc hi k0)) ?_
     exact ⟨by unfold inI;omega,(k+1,l.set k t),id,hL.put hlt hq ht,by simp only;omega,byP (fc Bx (fc hls hset)) tI⟩
   ·have hi:¬ (k:Int)<(l.length:Int):=by omega
    obtain rfl:k=(e.args).length:=by omega
    refine rG hi ?_
    refine rG (fc ntmps239 results239) ?_
    refine ⟨.inl rfl,.mk e.kind e.name e.other e.n e.ty e.res l,Ma hv hself (by rw [hpq,hmq];exact hL), ?_⟩
    refine byP (fc suF (fc Bf (fc Bd (fc AP (fc Gj (fc CP (fc BQ (fc AJ (fc ntmps239 results239))))))))) ?_
    exact Fi
  ·have hmq:=Xn (decide_eq_false hhid)
   generalize bdN e.kind e.name e.other e.args.length=ns at hB hI hhid hBl
   refine byP (fc h1 (fc ntmps239 results239)) ?_
   refine KR hCp ?_
   refine rQ ?_
   refine KR hB ?_
   refine rQ ?_
   refine Kc hI ?_
   refine rG (fc hhid (fc hp0 (fc hR hpi))) ?_
   refine Kc hF ?_
   refine rQ ?_
   refine Kc hJ ?_
   by_cases hfr:(0:Int)≤fi x (AE e.args[p]!) 0
   ·refine rG (eq_true hfr) ?_
    refine Ac (oT [0,1,2,3] (oF [4,5,6] .nil)) (by kernel_rfl) AG (by kernel_rfl) ?_
    refine rQ ?_
    refine KB hfu ?_
    refine rQ ?_
    have hF7:=aCz m ih e p x (AE u) hpq (by omega) hsh hn (by omega)
    refine Bw (cap:=[]) (hF7) rfl rfl rfl (byP (suF) tI) ?_
    rintro ⟨nm,ot,l0⟩ hF0
    simp only at hF0
    refine rG (fc suF f7F) ?_
    refine Al (fun o:Nat × List Tm=>SuL l0 x u (p:Int) false o.1 o.2) (fun o=>⟨84,[(11,.i o.1),(10,.b false),(9,.i (p:Int)),(7,.bx 4 0),(6,.bx 2 0),(5,.bx 1 0),(1,.s x)],[(1,[.i u.kind,.s u.name,.s u.other,.i u.n,.i u.ty.kind,.br (.rows 2 u.ty.args.length (Ai u.ty.args)),.i u.res.kind,.br (.rows 2 u.res.args.length (Ai u.res.args)),.br (.rows 9 u.args.length (Av u.args))]),(2,[.i 0,.s ⟨#[]⟩,.s ⟨#[]⟩,.i 0,.i 0,.nl 2,.i 0,.nl 2,.nl 9]),(4,[.i e.kind,.s nm,.s ot,.i e.n,.i e.ty.kind,.br (.rows 2 e.ty.args.length (Ai e.ty.args)),.i e.res.kind,.br (.rows 2 e.res.args.length (Ai e.res.args)),.sl 3])],[(3,some ⟨.rows 9 o.2.length (Av o.2),some 29,false⟩)],5,[]⟩) (fun o=>(l0).length-o.1) (0,l0) (rnL [(3,6)]) (Sl _ _ _ _ _) ?_ ?_
    ·exact byP Int.natCast_zero tI
    rintro ⟨k,l⟩ hL
    simp only at hL ⊢
    have hll:=hL.len
    have hkl:=hL.le
    have hl0:=hF0.len
    by_cases hlt:k<(l0).length
    ·have hi:(k:Int)<(l.length:Int):=by omega
     have k0:(0:Int)≤(k:Int):=by omega
     have hre:=hL.rest k (Nat.le_refl _) hlt
     have hsk:ShT l[k]! := by rw [hre];exact hF0.arg hlt
     have hnk:nT l[k]! ≤ nT e.args[k]! := by rw [hre];exact hF0.n k (by omega)
     have hpk:=Cg (t:=e) (k:=k) (by omega)
     have hbk:=(CJ (t:=e) (Nat.le_refl _)).2.2
     have hR9:=Aj l k (by omega)
     rw [Ak] at hR9
     have hSub:=ih l[k]! x u (by omega) hsk (by omega) hu hun
     have hls:∀ t:Tm,(l.set k t).length=l.length:=fun t=>List.length_set
     have hset:=fun t=>De l k t (by omega)
     by_cases hkp:(k:Int)=(p:Int)
     ·have hq:¬ ((k:Int)=(p:Int)∧false=true):=fun h=>absurd h.2 (by decide)
      refine rG (fc hi (eq_true hkp)) ?_
      refine Ac (oT [0,1,2,3,4,5,6,7,8,9] (.cons 10 false (.cons 11 true (.cons 12 false .nil)))) (by kernel_rfl) AD (by kernel_rfl) ?_
      refine rG (fc hR9 (fc hi k0)) ?_
      refine Bw (cap:=[]) (hSub) rfl rfl rfl (byP (suF) tI) ?_
      rintro t ht
      specialize hls t
      specialize hset t
      refine rG (fc suF (fc hi k0)) ?_
      exact ⟨by unfold inI;omega,(k+1,l.set k t),id,hL.put hlt hq ht,by simp only;omega,byP (fc Bx (fc hls hset)) tI⟩
     ·have hq:¬ ((k:Int)=(p:Int)∧false=true):=fun h=>hkp h.1
      refine rG (fc hi hkp) ?_
      refine Ac (oT [0,1,2,3,4,5,6,7,8,9] (.cons 10 false (.cons 11 true (.cons 12 false .nil)))) (by kernel_rfl) AD (by kernel_rfl) ?_
      refine rG (fc hR9 (fc hi k0)) ?_
      refine Bw (cap:=[]) (hSub) rfl rfl rfl (byP (suF) tI) ?_
      rintro t ht
      specialize hls t
      specialize hset t
      refine rG (fc suF (fc hi k0)) ?_
      exact ⟨by unfold inI;omega,(k+1,l.set k t),id,hL.put hlt hq ht,by simp only;omega,byP (fc Bx (fc hls hset)) tI⟩
    ·have hi:¬ (k:Int)<(l.length:Int):=by omega
     obtain rfl:k=(l0).length:=by omega
     refine rG hi ?_
     refine rG (fc ntmps239 results239) ?_
     refine ⟨.inl rfl,.mk e.kind nm ot e.n e.ty e.res l,Ma hv hF0 (by rw [hpq,hmq];exact hL), ?_⟩
     refine byP (fc suF (fc Bf (fc Bd (fc AP (fc Gj (fc CP (fc BQ (fc AJ (fc ntmps239 results239))))))))) ?_
     exact Fi
   ·refine rG hfr ?_
    refine Al (fun o:Nat × List Tm=>SuL e.args x u (p:Int) false o.1 o.2) (fun o=>⟨84,[(11,.i o.1),(10,.b false),(9,.i (p:Int)),(7,.bx 4 0),(6,.bx 2 0),(5,.bx 1 0),(1,.s x)],[(1,[.i u.kind,.s u.name,.s u.other,.i u.n,.i u.ty.kind,.br (.rows 2 u.ty.args.length (Ai u.ty.args)),.i u.res.kind,.br (.rows 2 u.res.args.length (Ai u.res.args)),.br (.rows 9 u.args.length (Av u.args))]),(2,[.i 0,.s ⟨#[]⟩,.s ⟨#[]⟩,.i 0,.i 0,.nl 2,.i 0,.nl 2,.nl 9]),(4,[.i e.kind,.s e.name,.s e.other,.i e.n,.i e.ty.kind,.br (.rows 2 e.ty.args.length (Ai e.ty.args)),.i e.res.kind,.br (.rows 2 e.res.args.length (Ai e.res.args)),.sl 3])],[(3,some ⟨.rows 9 o.2.length (Av o.2),some 29,false⟩)],5,[]⟩) (fun o=>(e.args).length-o.1) (0,e.args) id (Sl _ _ _ _ _) ?_ ?_
    ·exact byP Int.natCast_zero tI
    rintro ⟨k,l⟩ hL
    simp only at hL ⊢
    have hll:=hL.len
    have hkl:=hL.le
    have hl0:=hself.len
    by_cases hlt:k<(e.args).length
    ·have hi:(k:Int)<(l.length:Int):=by omega
     have k0:(0:Int)≤(k:Int):=by omega
     have hre:=hL.rest k (Nat.le_refl _) hlt
     have hsk:ShT l[k]! := by rw [hre];exact hself.arg hlt
     have hnk:nT l[k]! ≤ nT e.args[k]! := by rw [hre];exact hself.n k (by omega)
     have hpk:=Cg (t:=e) (k:=k) (by omega)
     have hbk:=(CJ (t:=e) (Nat.le_refl _)).2.2
     have hR9:=Aj l k (by omega)
     rw [Ak] at hR9
     have hSub:=ih l[k]! x u (by omega) hsk (by omega) hu hun
     have hls:∀ t:Tm,(l.set k t).length=l.length:=fun t=>List.length_set
     have hset:=fun t=>De l k t (by omega)
     by_cases hkp:(k:Int)=(p:Int)
     ·have hq:¬ ((k:Int)=(p:Int)∧false=true):=fun h=>absurd h.2 (by decide)
      refine rG (fc hi (eq_true hkp)) ?_
      refine Ac (oT [0,1,2,3,4,5,6,7,8,9] (.cons 10 false (.cons 11 true (.cons 12 false .nil)))) (by kernel_rfl) AD (by kernel_rfl) ?_
      refine rG (fc hR9 (fc hi k0)) ?_
      refine Bw (cap:=[]) (hSub) rfl rfl rfl (byP (suF) tI) ?_
      rintro t ht
      specialize hls t
      specialize hset t
      refine rG (fc suF (fc hi k0)) ?_
      exact ⟨by unfold inI;omega,(k+1,l.set k t),id,hL.put hlt hq ht,by simp only;omega,byP (fc Bx (fc hls hset)) tI⟩
     ·have hq:¬ ((k:Int)=(p:Int)∧false=true):=fun h=>hkp h.1
      refine rG (fc hi hkp) ?_
      refine Ac (oT [0,1,2,3,4,5,6,7,8,9] (.cons 10 false (.cons 11 true (.cons 12 false .nil)))) (by kernel_rfl) AD (by kernel_rfl) ?_
      refine rG (fc hR9 (fc hi k0)) ?_
      refine Bw (cap:=[]) (hSub) rfl rfl rfl (byP (suF) tI) ?_
      rintro t ht
      specialize hls t
      specialize hset t
      refine rG (fc suF (fc hi k0)) ?_
      exact ⟨by unfold inI;omega,(k+1,l.set k t),id,hL.put hlt hq ht,by simp only;omega,byP (fc Bx (fc hls hset)) tI⟩
    ·have hi:¬ (k:Int)<(l.length:Int):=by omega
     obtain rfl:k=(e.args).length:=by omega
     refine rG hi ?_
     refine rG (fc ntmps239 results239) ?_
     refine ⟨.inl rfl,.mk e.kind e.name e.other e.n e.ty e.res l,Ma hv hself (by rw [hpq,hmq];exact hL), ?_⟩
     refine byP (fc suF (fc Bf (fc Bd (fc AP (fc Gj (fc CP (fc BQ (fc AJ (fc ntmps239 results239))))))))) ?_
     exact Fi
theorem OG:∀ m,aEs m
 | 0=>fun e x u h=>absurd h (by omega)
 | m+1=>UQ m (OG m)
theorem FQ (e:Tm) (x:ByteArray) (u:Tm) (hsh:ShT e) (hn:nT e≤200000) (hu:ShT u) (hun:nT u≤400):Bz prog 239 [.b (.ag [.int e.kind,.str e.name,.str e.other,.int e.n,.int e.ty.kind,.rows 2 e.ty.args.length (Ai e.ty.args),.int e.res.kind,.rows 2 e.res.args.length (Ai e.res.args),.rows 9 e.args.length (Av e.args)]),.b (.one (.str x)),.b (.ag [.int u.kind,.str u.name,.str u.other,.int u.n,.int u.ty.kind,.rows 2 u.ty.args.length (Ai u.ty.args),.int u.res.kind,.rows 2 u.res.args.length (Ai u.res.args),.rows 9 u.args.length (Av u.args)])] (SuI e x u) suO suR:=OG (nT e+1) e x u (by omega) hsh hn hu hun
theorem Im (e:Tm) (k:Nat) (x:Tm):tmZ (EC e k x) = .ag [.r (.int e.kind),.r (.str e.name),.r (.str e.other),.r (.int e.n),.r (.int e.ty.kind),.r (.rows 2 e.ty.args.length (Ai e.ty.args)),.r (.int e.res.kind),.r (.rows 2 e.res.args.length (Ai e.res.args)),.r (.rows 9 e.args.length (Av (e.args.set k x)))]:=by
 unfold tmZ EC
 simp only [Bf,Bd,AP,Gj,CP,BQ,AJ,List.length_set]
theorem KA (e:Tm) (k:Nat) (x:Tm) (hz:szL (tmC e)≤1000000) (hk:k<e.args.length):Bc prog 180 [.b (.ag [.int e.kind,.str e.name,.str e.other,.int e.n,.int e.ty.kind,.rows 2 e.ty.args.length (Ai e.ty.args),.int e.res.kind,.rows 2 e.res.args.length (Ai e.res.args),.rows 9 e.args.length (Av e.args)]),.b (.one (.int k)),.b (.ag [.int x.kind,.str x.name,.str x.other,.int x.n,.int x.ty.kind,.rows 2 x.ty.args.length (Ai x.ty.args),.int x.res.kind,.rows 2 x.res.args.length (Ai x.res.args),.rows 9 x.args.length (Av x.args)])] [] [tmZ (EC e k x)]:=by
 have hCp:=Is e (by omega)
 unfold tmA at hCp
 rw [Ak] at hCp
 have hset:=De e.args k x hk
 have hki:(k:Int)<(e.args.length:Int):=by omega
 have hk0:(0:Int)≤(k:Int):=by omega
 rw [Im]
 refine BZ [3] func180 rfl rfl (by simp [ntmps180]) rfl ?_
 refine byP (fc ntmps180 results180) ?_
 refine KR hCp ?_
 refine rG (fc hki (fc hk0 (fc ntmps180 results180))) ?_
 refine byP (fc hset (fc ntmps180 results180)) ?_
 exact Fi
def stR (o:Tm × Int):List RD:=[tmZ o.1,.one (.o (.int o.2))]
theorem FN:∀ t r,stR (t,r)=[.ag [.r (.int t.kind),.r (.str t.name),.r (.str t.other),.r (.int t.n),.r (.int t.ty.kind),.r (.rows 2 t.ty.args.length (Ai t.ty.args)),.r (.int t.res.kind),.r (.rows 2 t.res.args.length (Ai t.res.args)),.r (.rows 9 t.args.length (Av t.args))],.one (.o (.int r))]:=fun _ _=>rfl
def StC (m:Nat):Prop:=∀ e:Tm,nT e<m→ShT e→nT e≤400→Bz prog 91 [.b (.ag [.int e.kind,.str e.name,.str e.other,.int e.n,.int e.ty.kind,.rows 2 e.ty.args.length (Ai e.ty.args),.int e.res.kind,.rows 2 e.res.args.length (Ai e.res.args),.rows 9 e.args.length (Av e.args)])] (fun o=>StI e o.1 o.2) suO stR
theorem aBe:∀ t r,stR (t,r)=[tmZ t,.one (.o (.int r))]:=fun _ _=>rfl
theorem NH (m:Nat) (hS:StC m) (e:Tm) (k:Nat) (hm:nT e≤m) (hsh:ShT e) (hn:nT e≤400) (hk:k<e.args.length):Bz prog 237 [.b (.ag [.int e.kind,.str e.name,.str e.other,.int e.n,.int e.ty.kind,.rows 2 e.ty.args.length (Ai e.ty.args),.int e.res.kind,.rows 2 e.res.args.length (Ai e.res.args),.rows 9 e.args.length (Av e.args)]),.b (.one (.int k))] (fun o=>AtI e k o.1 o.2) suO stR:=by
 have hze:=DW e hsh
 have hpk:=Cg hk
 have hSt:=hS e.args[k]! (by omega) (hsh.arg _ (Ab hk)) (by omega)
 have hR:=Aj e.args k hk
 rw [Ak] at hR
 have hki:(k:Int)<(e.args.length:Int):=by omega
 have hk0:(0:Int)≤(k:Int):=by omega
 refine AF func237 rfl rfl (by simp [ntmps237]) (fun _ _=>rfl) ?_
 refine byP (fc hR (fc hki (fc hk0 (fc ntmps237 results237)))) ?_
 refine KX (suF) hSt ?_
 rintro ⟨y,r⟩ hy
 simp only at hy
 have hr:=hy.rr
 by_cases h0:r=0
 ·refine rG (fc suF (fc FN (fc (eq_true h0) (fc ntmps237 results237)))) ?_
  refine ⟨.inl rfl,(e,r),⟨hr,fun _=>rfl,fun h=>absurd h0 h⟩, ?_⟩
  refine byP (fc suF (fc FN (fc ntmps237 results237))) ?_
  exact Fi
 ·have hW:=KA e k y (by omega) hk
  rw [Im] at hW
  refine rG (fc suF (fc FN (fc h0 (fc ntmps237 results237)))) ?_
  refine KR hW ?_
  refine rG (fc ntmps237 results237) ?_
  refine ⟨.inl rfl,(EC e k y,r),⟨hr,fun h=>absurd h h0,fun _=>⟨y,hy,rfl⟩⟩, ?_⟩
  refine byP (fc suF (fc aBe (fc (Im e k y) (fc ntmps237 results237)))) ?_
  exact Fi
theorem YG (n:Int):Bc prog 238 [.b (.one (.int n))] [] [tmZ (tBo n)]:=by
 show Bc prog 238 [.b (.one (.int n))] [] [.ag [.r (.int 3),.r (.str ⟨#[]⟩),.r (.str ⟨#[]⟩),.r (.int n),.r (.int 0),.r (.rows 2 0 []),.r (.int 0),.r (.rows 2 0 []),.r (.rows 9 0 [])]]
 refine Ad func238 rfl rfl (by simp [ntmps238]) rfl ?_
 refine byP (fc ntmps238 results238) ?_
 exact Fi
theorem aAP (n:Int):Bc prog 115 [.b (.one (.int n))] [] [tmZ (tIn n)]:=Fs (Tv n)
theorem inZ (n:Int):tmZ (tIn n) = .ag [.r (.int 2),.r (.str ⟨#[]⟩),.r (.str ⟨#[]⟩),.r (.int n),.r (.int 0),.r (.rows 2 0 []),.r (.int 0),.r (.rows 2 0 []),.r (.rows 9 0 [])]:=rfl
theorem boZ (n:Int):tmZ (tBo n) = .ag [.r (.int 3),.r (.str ⟨#[]⟩),.r (.str ⟨#[]⟩),.r (.int n),.r (.int 0),.r (.rows 2 0 []),.r (.int 0),.r (.rows 2 0 []),.r (.rows 9 0 [])]:=rfl
def nu0 (e:Tm) (k:Nat):Int:=if 0<k then (e.args[0]!).n else 0
def nu1 (e:Tm) (k:Nat):Int:=if 1<k then (e.args[1]!).n else 0
set_option maxHeartbeats 16000000 in
theorem aBq (m:Nat) (hS:StC m) (e:Tm) (hm:nT e≤m) (hsh:ShT e) (hn:nT e≤400) (h4:e.kind=4):Bz prog 177 [.b (.ag [.int e.kind,.str e.name,.str e.other,.int e.n,.int e.ty.kind,.rows 2 e.ty.args.length (Ai e.ty.args),.int e.res.kind,.rows 2 e.res.args.length (Ai e.res.args),.rows 9 e.args.length (Av e.args)])] (fun o=>StI e o.1 o.2) suO stR:=by
 have hze:=DW e hsh
 have hl:=(El hsh.sh).2.1 h4
 have hwan:((e.name=⟨#[38]⟩)=True∧(e.name=⟨#[124]⟩)=False∧(e.name=⟨#[33]⟩)=False∧KN e.name=3)∨((e.name=⟨#[38]⟩)=False∧(e.name=⟨#[124]⟩)=True∧(e.name=⟨#[33]⟩)=False∧KN e.name=3)∨((e.name=⟨#[38]⟩)=False∧(e.name=⟨#[124]⟩)=False∧(e.name=⟨#[33]⟩)=True∧KN e.name=3)∨((e.name=⟨#[38]⟩)=False∧(e.name=⟨#[124]⟩)=False∧(e.name=⟨#[33]⟩)=False∧KN e.name=2):=by
  unfold KN
  by_cases a:e.name=⟨#[38]⟩
  ·rw [a];left;simp
  by_cases b:e.name=⟨#[124]⟩
  ·rw [b];right;left;simp
  by_cases c:e.name=⟨#[33]⟩
  ·rw [c];right;right;left;simp
  ·right;right;right;simp [a,b,c]
 have hnum:∀ v,(((e.name=⟨#[43]⟩)=True∧(e.name=⟨#[45]⟩)=False∧(e.name=⟨#[42]⟩)=False∨(e.name=⟨#[43]⟩)=False∧(e.name=⟨#[45]⟩)=True∧(e.name=⟨#[42]⟩)=False∨(e.name=⟨#[43]⟩)=False∧(e.name=⟨#[45]⟩)=False∧(e.name=⟨#[42]⟩)=True)∧(if e.name=⟨#[43]⟩∨e.name=⟨#[45]⟩∨e.name=⟨#[42]⟩ then tIn v else tBo v)=tIn v)∨(((e.name=⟨#[43]⟩)=False∧(e.name=⟨#[45]⟩)=False∧(e.name=⟨#[42]⟩)=False)∧(if e.name=⟨#[43]⟩∨e.name=⟨#[45]⟩∨e.name=⟨#[42]⟩ then tIn v else tBo v)=tBo v):=by
  intro v
  by_cases a:e.name=⟨#[43]⟩
  ·rw [a];left;simp
  by_cases b:e.name=⟨#[45]⟩
  ·rw [b];left;simp
  by_cases c:e.name=⟨#[42]⟩
  ·rw [c];left;simp
  ·right;simp [a,b,c]
 refine AL [2,3,4,5,6] func177 rfl rfl (by simp [ntmps177]) (fun _ _=>rfl) ?_
 rcases hwan with ⟨a,b,c,hW⟩ | ⟨a,b,c,hW⟩ | ⟨a,b,c,hW⟩ | ⟨a,b,c,hW⟩
 all_goals
  refine byP (fc a (fc b (fc c (fc ntmps177 results177)))) ?_
  refine Al (fun k:Nat=>k≤e.args.length∧∀ j,j<k→IJ e.args[j]! = true) (fun k=>⟨102,[(6,.i k),(5,.sl 2),(4,.i (KN e.name)),(2,.bx 1 0),(1,.bx 0 0)],[(0,[.i e.kind,.s e.name,.s e.other,.i e.n,.i e.ty.kind,.br (.rows 2 e.ty.args.length (Ai e.ty.args)),.i e.res.kind,.br (.rows 2 e.res.args.length (Ai e.res.args)),.br (.rows 9 e.args.length (Av e.args))]),(1,[.i 0,.s ⟨#[]⟩,.s ⟨#[]⟩,.i 0,.i 0,.nl 2,.i 0,.nl 2,.nl 9])],[(2,some ⟨.rows 1 2 [.int 0,.int 0],some 3,true⟩)],3,[]⟩) (fun k=>e.args.length-k) 0 id ⟨Nat.zero_le _,fun j hj=>absurd hj (by omega)⟩ ?_ ?_
  ·exact byP (fc Int.natCast_zero hW) tI
  rintro k ⟨hk,hb⟩
  by_cases hlt:k<e.args.length
  ·have hi:(k:Int)<(e.args.length:Int):=by omega
   have hR:=Aj e.args k hlt
   have hsk:=hsh.arg _ (Ab hlt)
   have hzk:=DW _ hsk
   have hnk:=Cg hlt
   have hC:=Fh e.args[k]! (by omega) (fun h=>(El hsk.sh).2.2.2.1 (.inr (.inr (.inl h))))
   have hA:=NH m hS e k hm hsh hn hlt
   rw [Ak] at hR hC
   cases hres:IJ e.args[k]! with
   | false =>
    rw [hres] at hC
    refine rG (fc hi hR) ?_
    refine Kc hC ?_
    refine rQ ?_
    refine KX (suF) hA ?_
    rintro ⟨t,r⟩ ht
    simp only at ht
    have hr:=ht.rr
    refine rG (fc suF (fc FN (fc ntmps177 results177))) ?_
    refine ⟨.inl rfl,(t,r),RN hlt (fun _ => .inl h4) hsh hb hres ht, ?_⟩
    refine byP (fc suF (fc FN (fc ntmps177 results177))) ?_
    exact Fi
   | true =>
    rw [hres] at hC
    refine rG (fc hi hR) ?_
    refine Kc hC ?_
    refine rQ ?_
    exact ⟨by unfold inI;omega,k+1,id,⟨by omega,fun j hj=>by
     by_cases e1:j=k
     ·rw [e1];exact hres
     ·exact hb j (by omega)⟩,by omega,byP Bx tI⟩
  ·have hi:¬ (k:Int)<(e.args.length:Int):=by omega
   refine rG hi ?_
   refine rQ ?_
   refine Al (fun k:Nat=>k≤e.args.length∧∀ j,j<k→(e.args[j]!).kind=KN e.name) (fun k=>⟨102,[(9,.i k),(5,.sl 2),(4,.i (KN e.name)),(2,.bx 1 0),(1,.bx 0 0)],[(0,[.i e.kind,.s e.name,.s e.other,.i e.n,.i e.ty.kind,.br (.rows 2 e.ty.args.length (Ai e.ty.args)),.i e.res.kind,.br (.rows 2 e.res.args.length (Ai e.res.args)),.br (.rows 9 e.args.length (Av e.args))]),(1,[.i 0,.s ⟨#[]⟩,.s ⟨#[]⟩,.i 0,.i 0,.nl 2,.i 0,.nl 2,.nl 9])],[(2,some ⟨.rows 1 2 [.int (nu0 e k),.int (nu1 e k)],some 3,true⟩)],3,[]⟩) (fun k=>e.args.length-k) 0 id ⟨Nat.zero_le _,fun j hj=>absurd hj (by omega)⟩ ?_ ?_
   ·exact byP (fc Int.natCast_zero (fc (show nu0 e 0=0 from rfl) (show nu1 e 0=0 from rfl))) tI
   rintro q ⟨hq,hw⟩
   by_cases hlq:q<e.args.length
   ·have hR:=Aj e.args q hlq
    rw [Ak] at hR
    have hn0:q=0→nu0 e (q+1)=(e.args[q]!).n∧nu1 e (q+1)=0:=fun h=>by subst h;exact ⟨rfl,rfl⟩
    have hn1:q=1→nu0 e (q+1)=nu0 e q∧nu1 e (q+1)=(e.args[q]!).n:=fun h=>by subst h;exact ⟨rfl,rfl⟩
    have hnz:q=0→nu1 e q=0:=fun h=>by subst h;rfl
    have hstep:∀ j,j<q+1→(e.args[q]!).kind=KN e.name→(e.args[j]!).kind=KN e.name:=fun j hj h=>by
     by_cases e1:j=q
     ·rw [e1];exact h
     ·exact hw j (by omega)
    have hi:(q:Int)<(e.args.length:Int):=by omega
    have hi2:(q:Int)<2:=by omega
    have q0:(0:Int)≤(q:Int):=by omega
    by_cases hkd:(e.args[q]!).kind=KN e.name
    ·have hset:[D.int (nu0 e q),D.int (nu1 e q)].set q (D.int (e.args[q]!).n)=[D.int (nu0 e (q+1)),D.int (nu1 e (q+1))]:=by
      rcases (show q=0∨q=1 by omega) with h | h
      ·rw [(hn0 h).1,(hn0 h).2,hnz h];subst h;rfl
      ·rw [(hn1 h).1,(hn1 h).2];subst h;rfl
     refine rG (fc hi (fc hR (fc (eq_true hkd) (fc hi2 q0)))) ?_
     exact ⟨by unfold inI;omega,q+1,id,⟨by omega,fun j hj=>hstep j hj hkd⟩,by omega,byP (fc Bx hset) tI⟩
    ·refine rG (fc hi (fc hR (fc hkd (fc ntmps177 results177)))) ?_
     refine ⟨.inl rfl,(e,0),DT hsh, ?_⟩
     refine byP (fc suF (fc FN (fc ntmps177 results177))) ?_
     exact Fi
   ·have hi:¬ (q:Int)<(e.args.length:Int):=by omega
    refine rG hi ?_
    refine Aa 200 _ _ _ ?_
    obtain rfl:q=e.args.length:=by omega
    have hsti:=aDw hsh h4 hw
    have hv0:nu0 e e.args.length=(e.args[0]!).n:=if_pos (by omega)
    have hv1:nu1 e e.args.length=(if e.args.length=2 then (e.args[1]!).n else 0):=by
     unfold nu1
     by_cases h2:e.args.length=2
     ·rw [if_pos h2,if_pos (by omega)]
     ·rw [if_neg h2,if_neg (by omega)]
    rw [← hv0,← hv1] at hsti
    have hAp:=Jz e.name (nu0 e e.args.length) (nu1 e e.args.length)
    have hnv:=hnum (apV e.name (nu0 e e.args.length) (nu1 e e.args.length))
    unfold opv at hsti
    generalize nu0 e e.args.length=v0 at *
    generalize nu1 e e.args.length=v1 at *
    have hr0:rowAt 1 [D.int v0,D.int v1] 0=[D.int v0]:=rfl
    have hr1:rowAt 1 [D.int v0,D.int v1] 1=[D.int v1]:=rfl
    refine Ac (oT [0,1,2,3,4,5,6,7] (.cons 8 false (oT [9,10,11,12,13] .nil))) (by kernel_rfl) AG (by kernel_rfl) ?_
    refine rG (fc hr0 hr1) ?_
    refine KD hAp ?_
    have hI:=aAP (apV e.name v0 v1)
    have hBo:=YG (apV e.name v0 v1)
    generalize apV e.name v0 v1=v at *
    rw [inZ] at hI
    rw [boZ] at hBo
    rcases hnv with ⟨h3,hop⟩ | ⟨⟨a1,b1,c1⟩,hop⟩
    ·rw [hop] at hsti
     rcases h3 with ⟨a1,b1,c1⟩ | ⟨a1,b1,c1⟩ | ⟨a1,b1,c1⟩
     all_goals
      refine rG (fc a1 (fc b1 c1)) ?_
      refine KR hI ?_
      refine rG (fc ntmps177 results177) ?_
      refine ⟨.inl rfl,(tIn v,1),hsti, ?_⟩
      refine byP (fc suF (fc aBe (fc (inZ v) (fc ntmps177 results177)))) ?_
      exact Fi
    ·rw [hop] at hsti
     refine rG (fc a1 (fc b1 c1)) ?_
     refine KR hBo ?_
     refine rG (fc ntmps177 results177) ?_
     refine ⟨.inl rfl,(tBo v,1),hsti, ?_⟩
     refine byP (fc suF (fc aBe (fc (boZ v) (fc ntmps177 results177)))) ?_
     exact Fi
set_option maxHeartbeats 16000000 in
theorem Zk (m:Nat) (hS:StC m) (e:Tm) (hm:nT e≤m) (hsh:ShT e) (hn:nT e≤400) (h7:e.kind=7):Bz prog 178 [.b (.ag [.int e.kind,.str e.name,.str e.other,.int e.n,.int e.ty.kind,.rows 2 e.ty.args.length (Ai e.ty.args),.int e.res.kind,.rows 2 e.res.args.length (Ai e.res.args),.rows 9 e.args.length (Av e.args)])] (fun o=>StI e o.1 o.2) suO stR:=by
 have hze:=DW e hsh
 obtain ⟨hl,s0,s1,n0,n1⟩:=Gl hsh (.inl h7)
 have hR0:=Aj e.args 0 (by omega)
 have hR1:=Aj e.args 1 (by omega)
 rw [Ak] at hR0 hR1
 have hi0:(0:Int)<(e.args.length:Int):=by omega
 have hi1:(1:Int)<(e.args.length:Int):=by omega
 refine AF func178 rfl rfl (by simp [ntmps178]) (fun _ _=>rfl) ?_
 refine byP (fc hi0 (fc hR0 (fc ntmps178 results178))) ?_
 refine Al (fun k:Nat=>k≤2∧∀ j,j<k→IJ e.args[j]! = true) (fun k=>⟨64,[(5,.i k),(4,.bx 2 0),(2,.bx 1 0),(1,.bx 0 0)],[(0,[.i e.kind,.s e.name,.s e.other,.i e.n,.i e.ty.kind,.br (.rows 2 e.ty.args.length (Ai e.ty.args)),.i e.res.kind,.br (.rows 2 e.res.args.length (Ai e.res.args)),.br (.rows 9 e.args.length (Av e.args))]),(1,[.i 0,.s ⟨#[]⟩,.s ⟨#[]⟩,.i 0,.i 0,.nl 2,.i 0,.nl 2,.nl 9]),(2,[.i e.args[0]!.kind,.s e.args[0]!.name,.s e.args[0]!.other,.i e.args[0]!.n,.i e.args[0]!.ty.kind,.br (.rows 2 e.args[0]!.ty.args.length (Ai e.args[0]!.ty.args)),.i e.args[0]!.res.kind,.br (.rows 2 e.args[0]!.res.args.length (Ai e.args[0]!.res.args)),.br (.rows 9 e.args[0]!.args.length (Av e.args[0]!.args))])],[],3,[]⟩) (fun k=>2-k) 0 id ⟨Nat.zero_le _,fun j hj=>absurd hj (by omega)⟩ ?_ ?_
 ·exact byP Int.natCast_zero tI
 rintro k ⟨hk,hb⟩
 by_cases hlt:k<2
 ·have hi:(k:Int)<2:=by omega
  have hki:(k:Int)<(e.args.length:Int):=by omega
  have hk0:(0:Int)≤(k:Int):=by omega
  have hlk:k<e.args.length:=by omega
  have hR:=Aj e.args k hlk
  have hsk:=hsh.arg _ (Ab hlk)
  have hzk:=DW _ hsk
  have hnk:=Cg hlk
  have hC:=Fh e.args[k]! (by omega) (fun h=>(El hsk.sh).2.2.2.1 (.inr (.inr (.inl h))))
  have hA:=NH m hS e k hm hsh hn hlk
  rw [Ak] at hR hC
  cases hres:IJ e.args[k]! with
  | false =>
   rw [hres] at hC
   refine rG (fc hi (fc hR (fc hki hk0))) ?_
   refine Kc hC ?_
   refine rQ ?_
   refine KX (suF) hA ?_
   rintro ⟨t,r⟩ ht
   simp only at ht
   have hr:=ht.rr
   refine rG (fc suF (fc FN (fc ntmps178 results178))) ?_
   refine ⟨.inl rfl,(t,r),RN hlk (fun _ => .inr (.inl h7)) hsh hb hres ht, ?_⟩
   refine byP (fc suF (fc FN (fc ntmps178 results178))) ?_
   exact Fi
  | true =>
   rw [hres] at hC
   refine rG (fc hi (fc hR (fc hki hk0))) ?_
   refine Kc hC ?_
   refine rQ ?_
   exact ⟨by unfold inI;omega,k+1,id,⟨by omega,fun j hj=>by
    by_cases e1:j=k
    ·rw [e1];exact hres
    ·exact hb j (by omega)⟩,by omega,byP Bx tI⟩
 ·have hi:¬ (k:Int)<2:=by omega
  have hr:∀ j,j<2→IJ e.args[j]! = true:=fun j hj=>hb j (by omega)
  have hz0:=DW _ s0
  have hl0:=(El s0.sh).2.2.2.1
  by_cases h6:(e.args[0]!).kind=6
  ·have hb0:=Aj (e.args[0]!).args 0 (by have:=hl0 (.inl h6);omega)
   rw [Ak] at hb0
   have hbi:(0:Int)<((e.args[0]!).args.length:Int):=by have:=hl0 (.inl h6);omega
   have hsb:=s0.arg _ (aBK (hl0 (.inl h6)))
   have hnb:=Cg (t:=e.args[0]!) (k:=0) (by have:=hl0 (.inl h6);omega)
   have hSu:=FQ (e.args[0]!).args[0]! (e.args[0]!).name e.args[1]! hsb (by omega) s1 (by omega)
   refine rG hi ?_
   refine rG (eq_true h6) ?_
   refine Ac (oT [0,1,2,3,4,5,6,7,8,9] (oF [10,11] (.cons 12 true .nil))) (by kernel_rfl) Bs (by kernel_rfl) ?_
   refine rG (fc hb0 (fc hbi (fc hi1 hR1))) ?_
   refine Bw (cap:=[]) (hSu) rfl rfl rfl (byP (suF) tI) ?_
   rintro t ht
   refine rG (fc suF (fc ntmps178 results178)) ?_
   refine ⟨.inl rfl,(t,3),Vp hsh hn h7 hr h6 ht, ?_⟩
   refine byP (fc suF (fc FN (fc ntmps178 results178))) ?_
   exact Fi
  by_cases h9:(e.args[0]!).kind=9
  ·have hb0:=Aj (e.args[0]!).args 0 (by have:=hl0 (.inr (.inl h9));omega)
   rw [Ak] at hb0
   have hbi:(0:Int)<((e.args[0]!).args.length:Int):=by have:=hl0 (.inr (.inl h9));omega
   have hsb:=s0.arg _ (aBK (hl0 (.inr (.inl h9))))
   have hnb:=Cg (t:=e.args[0]!) (k:=0) (by have:=hl0 (.inr (.inl h9));omega)
   have hSu:=FQ (e.args[0]!).args[0]! (e.args[0]!).name e.args[0]! hsb (by omega) s0 (by omega)
   refine rG hi ?_
   refine rG (fc h6 (eq_true h9)) ?_
   refine Ac (oT [0,1,2,3,4,5,6,8,9,10,11,12,13] (oF [7,14,15] (.cons 16 true .nil))) (by kernel_rfl) Bs (by kernel_rfl) ?_
   refine rG (fc hb0 (fc hbi (fc hi1 hR1))) ?_
   refine Bw (cap:=[]) (hSu) rfl rfl rfl (byP (suF) tI) ?_
   rintro t1 ht1
   have hb2:=ht1.n
   have hb3:nT (e.args[0]!).args[0]! * nT e.args[0]! ≤ 400 * 400:=Nat.mul_le_mul (by omega) (by omega)
   have hSv:=FQ t1 (e.args[0]!).other e.args[1]! ht1.sh (by omega) s1 (by omega)
   refine rG suF ?_
   refine Bw (cap:=[]) (hSv) rfl rfl rfl (byP (suF) tI) ?_
   rintro t ht
   refine rG (fc suF (fc ntmps178 results178)) ?_
   refine ⟨.inl rfl,(t,4),Wh hsh hn h7 hr h9 ht1 ht, ?_⟩
   refine byP (fc suF (fc FN (fc ntmps178 results178))) ?_
   exact Fi
  ·refine rG hi ?_
   refine rG (fc h6 (fc h9 (fc ntmps178 results178))) ?_
   refine ⟨.inl rfl,(e,0),DT hsh, ?_⟩
   refine byP (fc suF (fc FN (fc ntmps178 results178))) ?_
   exact Fi
theorem Vt {x:Tm} (h:ShT x):ShT (CZ 10 [x]):=MN ⟨rfl,fun h=>absurd (show (10:Int)=3 from h) (by decide),fun h=>absurd (show (10:Int)=4 from h) (by decide),show (⟨#[]⟩:ByteArray).size≤24 by decide,show (⟨#[]⟩:ByteArray).size≤24 by decide,show szL (tyC (.mk 0 []))≤30 by decide,show szL (tyC (.mk 0 []))≤30 by decide⟩ fun y hy=>by
 have:y ∈ [x]:=hy
 rw [List.mem_singleton] at this
 rw [this];exact h
theorem WD (x:Tm):nT (CZ 10 [x])=nT x+1:=by
 rw [Ik]
 show 1+nTs [x]=_
 rw [nTs,nTs];omega
theorem aI8 (k:Int) (x:Tm):tmZ (CZ k [x]) = .ag [.r (.int k),.r (.str ⟨#[]⟩),.r (.str ⟨#[]⟩),.r (.int 0),.r (.int 0),.r (.rows 2 0 []),.r (.int 0),.r (.rows 2 0 []),.r (.rows 9 1 (tmC x))]:=by
 unfold tmZ CZ
 simp only [Bf,Bd,AP,Gj,CP,BQ,AJ]
 rw [IY]
 rfl
set_option maxHeartbeats 16000000 in
theorem UX (m:Nat) (hS:StC m) (e:Tm) (hm:nT e≤m) (hsh:ShT e) (hn:nT e≤400) (hkd:e.kind=5∨e.kind=8∨e.kind=12∨e.kind=13):Bz prog 181 [.b (.ag [.int e.kind,.str e.name,.str e.other,.int e.n,.int e.ty.kind,.rows 2 e.ty.args.length (Ai e.ty.args),.int e.res.kind,.rows 2 e.res.args.length (Ai e.res.args),.rows 9 e.args.length (Av e.args)])] (fun o=>StI e o.1 o.2) suO stR:=by
 have hze:=DW e hsh
 obtain ⟨_,_,l5,l6,l7,_,_⟩:=El hsh.sh
 have hl:0<e.args.length:=by
  rcases hkd with h | h | h | h
  ·have:=l5 h;omega
  ·have:=l7 (.inr h);omega
  ·have:=l6 (.inr (.inr (.inr (.inr (.inl h)))));omega
  ·have:=l6 (.inr (.inr (.inr (.inr (.inr h)))));omega
 have hR0:=Aj e.args 0 hl
 have s0:=hsh.arg _ (Ab hl)
 have n0:=Cg hl
 have hz0:=DW _ s0
 have hl0:=(El s0.sh).2.2.2.1
 have hi0:(0:Int)<(e.args.length:Int):=by omega
 have hC:=Fh e.args[0]! (by omega) (fun h=>hl0 (.inr (.inr (.inl h))))
 have hA:Bz prog 237 [.b (.ag [.int e.kind,.str e.name,.str e.other,.int e.n,.int e.ty.kind,.rows 2 e.ty.args.length (Ai e.ty.args),.int e.res.kind,.rows 2 e.res.args.length (Ai e.res.args),.rows 9 e.args.length (Av e.args)]),.b (.one (.int 0))] (fun o=>AtI e 0 o.1 o.2) suO stR:=NH m hS e 0 hm hsh hn hl
 rw [Ak] at hR0 hC
 refine AL [3,4,5,6] func181 rfl rfl (by simp [ntmps181]) (fun _ _=>rfl) ?_
 cases hres:IJ e.args[0]! with
 | false =>
  rw [hres] at hC
  refine byP (fc hi0 (fc hR0 (fc ntmps181 results181))) ?_
  refine Kc hC ?_
  refine rQ ?_
  refine KX (suF) hA ?_
  rintro ⟨t,r⟩ ht
  simp only at ht
  have hr:=ht.rr
  refine rG (fc suF (fc FN (fc ntmps181 results181))) ?_
  refine ⟨.inl rfl,(t,r),RN hl (fun h=>by omega) hsh (fun j hj=>absurd hj (by omega)) hres ht, ?_⟩
  refine byP (fc suF (fc FN (fc ntmps181 results181))) ?_
  exact Fi
 | true =>
  rw [hres] at hC
  by_cases k5:e.kind=5
  ·by_cases h3:(e.args[0]!).kind=3
   ·obtain ⟨hlt,h20,h2l,hst⟩:=aBy hsh k5 hres h3
    have hRt:=Aj e.args _ hlt
    have hst2:=hst.sh
    have hnt:=Cg hlt
    have hzt:=DW _ hst2
    have hCt:=Fs (Dh e.args[((2:Int)-(e.args[0]!).n).toNat]! (by omega))
    have hb3:=s0.sh.b3 h3
    have hin:inI ((2:Int)-(e.args[0]!).n):=by unfold inI;omega
    have k8:¬ e.kind=8:=by omega
    have k12:¬ e.kind=12:=by omega
    have k13:¬ e.kind=13:=by omega
    unfold tmZ at hCt
    rw [Ak] at hCt hRt
    refine byP (fc hi0 (fc hR0 (fc ntmps181 results181))) ?_
    refine Kc hC ?_
    refine rG (fc (eq_true k5) (fc (eq_true h3) (fc hin (fc h20 (fc h2l hRt))))) ?_
    refine KR hCt ?_
    refine rG (fc ntmps181 results181) ?_
    refine ⟨.inl rfl,(e.args[((2:Int)-(e.args[0]!).n).toNat]!,2),hst, ?_⟩
    refine byP (fc suF (fc FN (fc ntmps181 results181))) ?_
    exact Fi
   ·refine byP (fc hi0 (fc hR0 (fc ntmps181 results181))) ?_
    refine Kc hC ?_
    refine rG (fc (eq_true k5) (fc h3 (fc (show ¬ e.kind=8 by omega) (fc (show ¬ e.kind=12 by omega) (fc (show ¬ e.kind=13 by omega) (fc ntmps181 results181)))))) ?_
    refine ⟨.inl rfl,(e,0),DT hsh, ?_⟩
    refine byP (fc suF (fc FN (fc ntmps181 results181))) ?_
    exact Fi
  by_cases k8:e.kind=8
  ·have hl2:=l7 (.inr k8)
   have hR1:=Aj e.args 1 (by omega)
   rw [Ak] at hR1
   have hi1:(1:Int)<(e.args.length:Int):=by omega
   have s1:=hsh.arg _ (Ab (show 1<e.args.length by omega))
   have n1:=Cg (show 1<e.args.length by omega)
   have hSu:=FQ e.args[1]! e.name e.args[0]! s1 (by omega) s0 (by omega)
   refine byP (fc hi0 (fc hR0 (fc ntmps181 results181))) ?_
   refine Kc hC ?_
   refine rG (fc k5 (eq_true k8)) ?_
   refine Ac (oT [0,1,2,3,4,5,6] (oF [7,8] (.cons 9 true .nil))) (by kernel_rfl) AG (by kernel_rfl) ?_
   refine rG (fc hi1 hR1) ?_
   refine Bw (cap:=[]) (hSu) rfl rfl rfl (byP (suF) tI) ?_
   rintro t ht
   refine rG (fc suF (fc ntmps181 results181)) ?_
   refine ⟨.inl rfl,(t,5),Yb hsh hn k8 hres ht, ?_⟩
   refine byP (fc suF (fc FN (fc ntmps181 results181))) ?_
   exact Fi
  by_cases k12:e.kind=12
  ·by_cases h10:(e.args[0]!).kind=10
   ·have hlx:=hl0 (.inr (.inr (.inl h10)))
    have hRt:=Aj (e.args[0]!).args 0 (by omega)
    have hit:(0:Int)<((e.args[0]!).args.length:Int):=by omega
    have hst2:=s0.arg _ (Ab (show 0<(e.args[0]!).args.length by omega))
    have hnt:=Cg (t:=e.args[0]!) (k:=0) (by omega)
    have hzt:=DW _ hst2
    have hCt:=Fs (Dh (e.args[0]!).args[0]! (by omega))
    unfold tmZ at hCt
    rw [Ak] at hCt hRt
    refine byP (fc hi0 (fc hR0 (fc ntmps181 results181))) ?_
    refine Kc hC ?_
    refine rG (fc k5 (fc k8 (fc (eq_true k12) (fc (eq_true h10) (fc hit hRt))))) ?_
    refine KR hCt ?_
    refine rG (fc ntmps181 results181) ?_
    refine ⟨.inl rfl,((e.args[0]!).args[0]!,7),MP (by omega) (by omega) hst2 (by simp only;omega), ?_⟩
    refine byP (fc suF (fc FN (fc ntmps181 results181))) ?_
    exact Fi
   ·refine byP (fc hi0 (fc hR0 (fc ntmps181 results181))) ?_
    refine Kc hC ?_
    refine rG (fc k5 (fc k8 (fc (eq_true k12) (fc h10 (fc (show ¬ e.kind=13 by omega) (fc ntmps181 results181)))))) ?_
    refine ⟨.inl rfl,(e,0),DT hsh, ?_⟩
    refine byP (fc suF (fc FN (fc ntmps181 results181))) ?_
    exact Fi
  have k13:e.kind=13:=by omega
  have hNd:=CH 10 e.args[0]! (by omega)
  rw [aI8,Ak] at hNd
  have hq:StI e (CZ 10 [e.args[0]!]) 8:=MP (by omega) (by omega) (Vt s0) (by rw [WD];omega)
  have hZ:=aI8 10 e.args[0]!
  rw [Ak] at hZ
  by_cases h2:(e.args[0]!).kind=2
  ·refine byP (fc hi0 (fc hR0 (fc ntmps181 results181))) ?_
   refine Kc hC ?_
   refine rG (fc k5 (fc k8 (fc k12 (fc (eq_true k13) (eq_true h2))))) ?_
   refine AX 3 rfl ?_
   refine byQ ?_
   refine KR hNd ?_
   refine rG (fc ntmps181 results181) ?_
   refine ⟨.inl rfl,(CZ 10 [e.args[0]!],8),hq, ?_⟩
   refine byP (fc suF (fc aBe (fc hZ (fc ntmps181 results181)))) ?_
   exact Fi
  by_cases h3:(e.args[0]!).kind=3
  ·refine byP (fc hi0 (fc hR0 (fc ntmps181 results181))) ?_
   refine Kc hC ?_
   refine rG (fc k5 (fc k8 (fc k12 (fc (eq_true k13) (fc h2 (eq_true h3)))))) ?_
   refine AX 3 rfl ?_
   refine byQ ?_
   refine KR hNd ?_
   refine rG (fc ntmps181 results181) ?_
   refine ⟨.inl rfl,(CZ 10 [e.args[0]!],8),hq, ?_⟩
   refine byP (fc suF (fc aBe (fc hZ (fc ntmps181 results181)))) ?_
   exact Fi
  ·refine byP (fc hi0 (fc hR0 (fc ntmps181 results181))) ?_
   refine Kc hC ?_
   refine rG (fc k5 (fc k8 (fc k12 (fc (eq_true k13) (fc h2 (fc h3 (fc ntmps181 results181))))))) ?_
   refine ⟨.inl rfl,(e,0),DT hsh, ?_⟩
   refine byP (fc suF (fc FN (fc ntmps181 results181))) ?_
   exact Fi
theorem YZ (m:Mch) (d:Vl) (x:Ins) (h:(exM m d x).1≠1):(exM m d x).2.2=d:=by
 unfold exM at h ⊢
 split
 ·rfl
 rename_i n1;rw [if_neg n1] at h
 split
 ·split <;> rfl
 rename_i n2;rw [if_neg n2] at h
 split
 ·rfl
 rename_i n3;rw [if_neg n3] at h
 split
 ·rfl
 rename_i n4;rw [if_neg n4] at h
 split
 ·split
  ·rfl
  split
  ·rfl
  split <;> rfl
 rename_i n5;rw [if_neg n5] at h
 split
 ·rfl
 rename_i n6;rw [if_neg n6] at h
 split
 ·rfl
 rename_i n7;rw [if_neg n7] at h
 split
 ·rename_i q;rw [if_pos q] at h
  unfold Nk at h ⊢
  split
  ·rfl
  rename_i q1;rw [if_neg q1] at h
  split
  ·rename_i q2;rw [if_pos q2] at h;exact absurd rfl h
  ·rfl
 rename_i n8;rw [if_neg n8] at h
 split
 ·split <;> rfl
 ·split <;> rfl
theorem Gb {code:List Ins} (h:Hp code=true) {k:Nat} (hk:k<code.length):Ec code[k]! = true:=by
 unfold Hp at h
 simp only [Bool.and_eq_true] at h
 exact List.all_eq_true.1 h.2 _ (Ab hk)
theorem GM0:GM 0 ⟨0,[],[],[]⟩:=⟨by simp,by simp,by simp,by simp,by simp,by simp,by simp⟩
set_option maxRecDepth 20000 in
theorem NY (code:List Ins) (fuel:Int) (hl:code.length≤1000000000):Con prog 25 [.one (DO code),.one (.int fuel)] [.ag (otC (Qp code fuel))]:=by
 have hA:=KT code hl
 have hW:=BR fuel 0 3000
 unfold Qp
 cases hc:Hp code with
 | false =>
  rw [hc] at hA
  rw [if_neg (by simp)]
  simp only [DO,otC] at hA ⊢
  refine Af func25 rfl rfl (by simp [ntmps25]) ?_
  refine byP ntmps25 ?_
  refine Kc hA ?_
  exact rG results25 tI
 | true =>
  rw [hc] at hA
  cases hw:(decide (0≤fuel) && decide (fuel≤3000)) with
  | false =>
   rw [hw] at hW
   rw [if_neg (by simp)]
   simp only [DO,otC] at hA ⊢
   refine Af func25 rfl rfl (by simp [ntmps25]) ?_
   refine byP ntmps25 ?_
   refine Kc hA ?_
   refine rQ ?_
   refine Kc hW ?_
   exact rG results25 tI
  | true =>
   rw [hw] at hW
   rw [if_pos (by simp)]
   simp only [Bool.and_eq_true,decide_eq_true_eq] at hw
   obtain ⟨F,hF⟩:∃ F:Nat,fuel=(F:Int):=⟨fuel.toNat,by omega⟩
   subst hF
   rw [Int.toNat_natCast]
   have hF3:F≤3000:=by omega
   obtain ⟨R,hR⟩:∃ R,R=Jt code F 0 ⟨0,[],[],[]⟩:=⟨_,rfl⟩
   rw [← hR]
   simp only [DO,otC] at hA ⊢
   refine Af func25 rfl rfl (by simp [ntmps25]) ?_
   refine byP ntmps25 ?_
   refine Kc hA ?_
   refine rQ ?_
   refine Kc hW ?_
   refine rQ ?_
   refine Jm 1 1 rfl rfl ?_
   refine Jm 1 2 rfl rfl ?_
   refine Jm 1 8 rfl rfl ?_
   refine FK 1 3 232 rfl rfl ?_
   refine Al (fun i:Nat × Mch=>i.1≤F∧GM i.1 i.2∧Jt code (F-i.1) i.1 i.2=R)
    (fun i=>⟨71,[(6,.i i.1),(5,.bx 1 0),(4,.bx 0 0),(0,.br (.rows 2 code.length (flC Bk code))),(1,.i F)],[(0,[.i 0,.i 0,.b false,.i 0]),(1,[.i i.2.pc,.br (.rows 5 i.2.st.length (flC vlI i.2.st)),.br (.rows 5 i.2.nm.length (flC vlI i.2.nm)),.sl 2,.i 0,.b false,.b false,.i 0,.br (.rows 5 0 [])])],[(2,some ⟨.rows 3 i.2.fr.length (flC frI i.2.fr),some 232,false⟩)],3,[]⟩)
    (fun i=>F-i.1) (0,⟨0,[],[],[]⟩) id ⟨Nat.zero_le _,GM0,by rw [Nat.sub_zero];exact hR.symm⟩ ?_ ?_
   ·simp only [push_cast,Sub,EG,EL,ED,EH,inj,AV.ren,AV.rens,AV.lt,AV.lts,↓reduceIte,Nat.reduceLT,Nat.reduceAdd,Nat.reduceEqDiff,reduceCtorEq,flC]
   ·rintro ⟨k,m⟩ ⟨hk,hm,hrun⟩
    simp only at hk hm hrun
    refine Aa 200 _ _ _ ?_
    by_cases hkf:k=F
    ·have hkf':((k:Int)=(F:Int))=True:=eq_true (by omega)
     rw [hkf,Nat.sub_self] at hrun
     subst hrun
     exact byP (fc hkf (fc Jt.eq_1 results25)) tI
    ·have hkf':((k:Int)=(F:Int))=False:=eq_false (by omega)
     obtain ⟨r,hr⟩:∃ r,F-k=r+1:=⟨F-k-1,by omega⟩
     rw [hr] at hrun
     unfold Jt at hrun
     by_cases hpc:(code.length:Int)≤m.pc
     ·rw [if_pos hpc] at hrun
      subst hrun
      exact byP (fc hkf' (fc hpc results25)) tI
     ·rw [if_neg hpc] at hrun
      have h0:=hm.pc
      have hlt:m.pc.toNat<code.length:=by omega
      have hpp:m.pc<(code.length:Int):=by omega
      have hX:=WB m (.num 0) code[m.pc.toNat]! (hm.sz (by omega)) (Gb hc hlt)
      have hg:=aCT hm (Gb hc hlt) (.num 0)
      have hd:=YZ (pcM m (m.pc+1)) (.num 0) code[m.pc.toNat]!
      have hrow:=CR Gp code m.pc.toNat hlt
      generalize exM (pcM m (m.pc+1)) (.num 0) code[m.pc.toNat]! = e at hX hg hd hrun
      generalize code[m.pc.toNat]! = x at hX hrow
      obtain ⟨es,em,ed⟩:=e
      simp only at hX hg hd hrun
      unfold mcI at hX
      simp only [Bk,QQ,IG,Je,aAR,Jd,List.length_nil,flC] at hX hrow
      refine byP (fc hkf' (fc hpc (fc h0.1 (fc hpp hrow)))) ?_
      refine Bo hX rfl rfl rfl ?_ ?_ ?_ (Aa 200 _ _ _ ?_)
      ·exact byQ tI
      ·exact byQ tI
      ·exact byQ tI
      have i1:inI ((k:Int)+1):=by unfold inI;omega
      by_cases e0:es=0
      ·rw [if_pos e0] at hrun
       have hed:=hd (by omega)
       subst e0 hed
       simp only [QQ,IG,Je,aAR,Jd,List.length_nil,flC]
       refine byP i1 ?_
       refine ⟨(k+1,em),rn1 2 3,⟨by omega,hg rfl,by rw [← hrun];congr 1;omega⟩,by simp only;omega, ?_⟩
       exact byP rn1.eq_1 tI
      ·rw [if_neg e0] at hrun
       have e0':(es=0)=False:=eq_false e0
       by_cases e1:es=1
       ·rw [if_pos e1] at hrun
        subst e1
        cases hf:ed.f with
        | true =>
         rw [if_pos hf] at hrun
         subst hrun
         exact byP (fc i1 results25) tI
        | false =>
         rw [if_neg (by rw [hf];simp)] at hrun
         subst hrun
         exact byP (fc i1 results25) tI
       ·rw [if_neg e1] at hrun
        have e1':(es=1)=False:=eq_false e1
        have hed:=hd e1
        subst hed hrun
        simp only [QQ,IG,Je,aAR,Jd,List.length_nil,flC]
        exact byP (fc e0' (fc e1' (fc i1 results25))) tI
def tlM (m:Mch) (x:Ins):Vl:=if x.op=10 then rtV m else .num 0
set_option maxRecDepth 20000 in
theorem ZM (m:Mch) (a:Int) (hm:SzM m):Bc prog 77 [.p (mcS m 0),.b (.ag (Bk ⟨1,a⟩))] [mcS (exM m (.num 0) ⟨1,a⟩).2.1 (exM m (.num 0) ⟨1,a⟩).1] [.ag (vlQ (tlM m ⟨1,a⟩))]:=by
 have hst:=hm.st
 have hnm:=hm.nm
 have hfr:=hm.fr
 have ht:tlM m ⟨1,a⟩ = .num 0:=by unfold tlM;simp only;rw [if_neg (by decide)]
 rw [ht]
 have he:exM m (.num 0) ⟨1,a⟩=(0,EK m (.num a),.num 0):=by unfold exM;simp only;rw [if_pos (by decide)]
 rw [he]
 have hU:=Dn m 0 (.num a) (by omega)
 unfold mcS vlQ at hU
 unfold mcS vlQ
 simp only [Oc,IG,Je,Jd,List.length_nil,flC,Bk] at hU ⊢
 refine Ad func77 rfl rfl (by simp [ntmps77]) rfl ?_
 refine byP ntmps77 ?_
 refine KR hU ?_
 exact rG results77 tI
set_option maxRecDepth 20000 in
theorem aAO (m:Mch) (a:Int) (hm:SzM m):Bc prog 77 [.p (mcS m 0),.b (.ag (Bk ⟨2,a⟩))] [mcS (exM m (.num 0) ⟨2,a⟩).2.1 (exM m (.num 0) ⟨2,a⟩).1] [.ag (vlQ (tlM m ⟨2,a⟩))]:=by
 have hst:=hm.st
 have hnm:=hm.nm
 have hfr:=hm.fr
 have ht:tlM m ⟨2,a⟩ = .num 0:=by unfold tlM;simp only;rw [if_neg (by decide)]
 rw [ht]
 have he:exM m (.num 0) ⟨2,a⟩=(0,EK m (.num a),.num 0):=by unfold exM;simp only;rw [if_pos (by decide)]
 rw [he]
 have hU:=Dn m 0 (.num a) (by omega)
 unfold mcS vlQ at hU
 unfold mcS vlQ
 simp only [Oc,IG,Je,Jd,List.length_nil,flC,Bk] at hU ⊢
 refine Ad func77 rfl rfl (by simp [ntmps77]) rfl ?_
 refine byP ntmps77 ?_
 refine KR hU ?_
 exact rG results77 tI
set_option maxRecDepth 20000 in
theorem YN (m:Mch) (a:Int) (hm:SzM m) (ha:0≤a∧a≤299):Bc prog 77 [.p (mcS m 0),.b (.ag (Bk ⟨3,a⟩))] [mcS (exM m (.num 0) ⟨3,a⟩).2.1 (exM m (.num 0) ⟨3,a⟩).1] [.ag (vlQ (tlM m ⟨3,a⟩))]:=by
 have hst:=hm.st
 have hnm:=hm.nm
 have hfr:=hm.fr
 have ht:tlM m ⟨3,a⟩ = .num 0:=by unfold tlM;simp only;rw [if_neg (by decide)]
 rw [ht]
 have he:(exM m (.num 0) ⟨3,a⟩).1=(Qy m a).1∧(exM m (.num 0) ⟨3,a⟩).2.1=(Qy m a).2:=by
  unfold exM
  simp only
  rw [if_neg (by decide)]
  rw [if_pos (by decide)]
  (try unfold Qy)
  (try unfold Qu)
  (try unfold QA)
  (try unfold Qs)
  (repeat' split) <;> exact ⟨rfl,rfl⟩
 rw [he.1,he.2]
 have hU:=WS m a hm ha
 generalize Qy m a=q at hU ⊢
 unfold mcS at hU
 unfold mcS vlQ
 simp only [Oc,IG,Je,Jd,List.length_nil,flC,Bk] at hU ⊢
 refine Ad func77 rfl rfl (by simp [ntmps77]) rfl ?_
 refine byP ntmps77 ?_
 refine KR hU ?_
 exact rG results77 tI
set_option maxRecDepth 20000 in
theorem YF (m:Mch) (a:Int) (hm:SzM m) (ha:1≤a∧a≤8):Bc prog 77 [.p (mcS m 0),.b (.ag (Bk ⟨4,a⟩))] [mcS (exM m (.num 0) ⟨4,a⟩).2.1 (exM m (.num 0) ⟨4,a⟩).1] [.ag (vlQ (tlM m ⟨4,a⟩))]:=by
 have hst:=hm.st
 have hnm:=hm.nm
 have hfr:=hm.fr
 have ht:tlM m ⟨4,a⟩ = .num 0:=by unfold tlM;simp only;rw [if_neg (by decide)]
 rw [ht]
 have he:(exM m (.num 0) ⟨4,a⟩).1=(opM m (opB a)).1∧(exM m (.num 0) ⟨4,a⟩).2.1=(opM m (opB a)).2:=by
  unfold exM
  simp only
  rw [if_neg (by decide)]
  rw [if_neg (by decide)]
  rw [if_pos (by decide)]
  (try unfold Qy)
  (try unfold Qu)
  (try unfold QA)
  (try unfold Qs)
  (repeat' split) <;> exact ⟨rfl,rfl⟩
 rw [he.1,he.2]
 have hU:=Zg m a (by omega) ha
 generalize opM m (opB a)=q at hU ⊢
 unfold mcS at hU
 unfold mcS vlQ
 simp only [Oc,IG,Je,Jd,List.length_nil,flC,Bk] at hU ⊢
 refine Ad func77 rfl rfl (by simp [ntmps77]) rfl ?_
 refine byP ntmps77 ?_
 refine KR hU ?_
 exact rG results77 tI
set_option maxRecDepth 20000 in
theorem aAe (m:Mch) (a:Int) (hm:SzM m):Bc prog 77 [.p (mcS m 0),.b (.ag (Bk ⟨5,a⟩))] [mcS (exM m (.num 0) ⟨5,a⟩).2.1 (exM m (.num 0) ⟨5,a⟩).1] [.ag (vlQ (tlM m ⟨5,a⟩))]:=by
 have hst:=hm.st
 have hnm:=hm.nm
 have hfr:=hm.fr
 have ht:tlM m ⟨5,a⟩ = .num 0:=by unfold tlM;simp only;rw [if_neg (by decide)]
 rw [ht]
 unfold exM
 simp only
 rw [if_neg (by decide)]
 rw [if_neg (by decide)]
 rw [if_neg (by decide)]
 rw [if_pos (by decide)]
 unfold mcS vlQ
 simp only [pcM,Oc,IG,Je,Jd,List.length_nil,flC,Bk]
 refine Ad func77 rfl rfl (by simp [ntmps77]) rfl ?_
 exact byP (fc ntmps77 results77) tI
set_option maxRecDepth 20000 in
theorem ZQ (m:Mch) (a:Int) (hm:SzM m):Bc prog 77 [.p (mcS m 0),.b (.ag (Bk ⟨6,a⟩))] [mcS (exM m (.num 0) ⟨6,a⟩).2.1 (exM m (.num 0) ⟨6,a⟩).1] [.ag (vlQ (tlM m ⟨6,a⟩))]:=by
 have hst:=hm.st
 have hnm:=hm.nm
 have hfr:=hm.fr
 have ht:tlM m ⟨6,a⟩ = .num 0:=by unfold tlM;simp only;rw [if_neg (by decide)]
 rw [ht]
 have he:(exM m (.num 0) ⟨6,a⟩).1=(Qu m a).1∧(exM m (.num 0) ⟨6,a⟩).2.1=(Qu m a).2:=by
  unfold exM
  simp only
  rw [if_neg (by decide)]
  rw [if_neg (by decide)]
  rw [if_neg (by decide)]
  rw [if_neg (by decide)]
  rw [if_pos (by decide)]
  (try unfold Qy)
  (try unfold Qu)
  (try unfold QA)
  (try unfold Qs)
  (repeat' split) <;> exact ⟨rfl,rfl⟩
 rw [he.1,he.2]
 have hU:=VL m a hst
 generalize Qu m a=q at hU ⊢
 unfold mcS at hU
 unfold mcS vlQ
 simp only [Oc,IG,Je,Jd,List.length_nil,flC,Bk] at hU ⊢
 refine Ad func77 rfl rfl (by simp [ntmps77]) rfl ?_
 refine byP ntmps77 ?_
 refine KR hU ?_
 exact rG results77 tI
set_option maxRecDepth 20000 in
theorem Zb (m:Mch) (a:Int) (hm:SzM m):Bc prog 77 [.p (mcS m 0),.b (.ag (Bk ⟨7,a⟩))] [mcS (exM m (.num 0) ⟨7,a⟩).2.1 (exM m (.num 0) ⟨7,a⟩).1] [.ag (vlQ (tlM m ⟨7,a⟩))]:=by
 have hst:=hm.st
 have hnm:=hm.nm
 have hfr:=hm.fr
 have ht:tlM m ⟨7,a⟩ = .num 0:=by unfold tlM;simp only;rw [if_neg (by decide)]
 rw [ht]
 unfold exM
 simp only
 rw [if_neg (by decide)]
 rw [if_neg (by decide)]
 rw [if_neg (by decide)]
 rw [if_neg (by decide)]
 rw [if_neg (by decide)]
 rw [if_pos (by decide)]
 have hb:decide ((7:Int)=8)=false:=by decide
 (try rw [hb])
 (try rw [show decide True=true from rfl])
 have hU:=Dn m 0 (.fn false a m.nm) (by omega)
 unfold mcS vlQ at hU
 unfold mcS vlQ
 simp only [aIS,aEP,aFe,aE5,Oc,IG,Je,Jd,List.length_nil,flC,Bk] at hU ⊢
 refine Ad func77 rfl rfl (by simp [ntmps77]) rfl ?_
 refine byP ntmps77 ?_
 refine Ac (oT [0,1,2,3,4,5,6,7,8,9,10] (.cons 11 false .nil)) (by kernel_rfl) Ar (by kernel_rfl) (Aa 200 _ _ _ ?_)
 refine byQ ?_
 refine Dl (cap:=[]) (hU) rfl rfl rfl ?_ ?_ ?_ rfl (Aa 200 _ _ _ ?_)
 ·exact byQ tI
 ·exact byQ tI
 ·exact byQ tI
 exact byP results77 tI
set_option maxRecDepth 20000 in
theorem ZA (m:Mch) (a:Int) (hm:SzM m):Bc prog 77 [.p (mcS m 0),.b (.ag (Bk ⟨8,a⟩))] [mcS (exM m (.num 0) ⟨8,a⟩).2.1 (exM m (.num 0) ⟨8,a⟩).1] [.ag (vlQ (tlM m ⟨8,a⟩))]:=by
 have hst:=hm.st
 have hnm:=hm.nm
 have hfr:=hm.fr
 have ht:tlM m ⟨8,a⟩ = .num 0:=by unfold tlM;simp only;rw [if_neg (by decide)]
 rw [ht]
 unfold exM
 simp only
 rw [if_neg (by decide)]
 rw [if_neg (by decide)]
 rw [if_neg (by decide)]
 rw [if_neg (by decide)]
 rw [if_neg (by decide)]
 rw [if_pos (by decide)]
 have hb:decide ((8:Int)=8)=true:=by decide
 (try rw [hb])
 (try rw [show decide True=true from rfl])
 have hU:=Dn m 0 (.fn true a m.nm) (by omega)
 unfold mcS vlQ at hU
 unfold mcS vlQ
 simp only [aIS,aEP,aFe,aE5,Oc,IG,Je,Jd,List.length_nil,flC,Bk] at hU ⊢
 refine Ad func77 rfl rfl (by simp [ntmps77]) rfl ?_
 refine byP ntmps77 ?_
 refine Ac (oT [0,1,2,3,4,5,6,7,8,9,10] (.cons 11 false .nil)) (by kernel_rfl) Ar (by kernel_rfl) (Aa 200 _ _ _ ?_)
 refine byQ ?_
 refine Dl (cap:=[]) (hU) rfl rfl rfl ?_ ?_ ?_ rfl (Aa 200 _ _ _ ?_)
 ·exact byQ tI
 ·exact byQ tI
 ·exact byQ tI
 exact byP results77 tI
set_option maxRecDepth 20000 in
theorem Zq (m:Mch) (a:Int) (hm:SzM m):Bc prog 77 [.p (mcS m 0),.b (.ag (Bk ⟨9,a⟩))] [mcS (exM m (.num 0) ⟨9,a⟩).2.1 (exM m (.num 0) ⟨9,a⟩).1] [.ag (vlQ (tlM m ⟨9,a⟩))]:=by
 have hst:=hm.st
 have hnm:=hm.nm
 have hfr:=hm.fr
 have ht:tlM m ⟨9,a⟩ = .num 0:=by unfold tlM;simp only;rw [if_neg (by decide)]
 rw [ht]
 have he:(exM m (.num 0) ⟨9,a⟩).1=(FS m).1∧(exM m (.num 0) ⟨9,a⟩).2.1=(FS m).2:=by
  unfold exM
  simp only
  rw [if_neg (by decide)]
  rw [if_neg (by decide)]
  rw [if_neg (by decide)]
  rw [if_neg (by decide)]
  rw [if_neg (by decide)]
  rw [if_neg (by decide)]
  rw [if_pos (by decide)]
  (try unfold Qy)
  (try unfold Qu)
  (try unfold QA)
  (try unfold Qs)
  (repeat' split) <;> exact ⟨rfl,rfl⟩
 rw [he.1,he.2]
 have hU:=SI m hst (fun v hv=>hm.ct v hv) hfr
 generalize FS m=q at hU ⊢
 unfold mcS at hU
 unfold mcS vlQ
 simp only [Oc,IG,Je,Jd,List.length_nil,flC,Bk] at hU ⊢
 refine Ad func77 rfl rfl (by simp [ntmps77]) rfl ?_
 refine byP ntmps77 ?_
 refine KR hU ?_
 exact rG results77 tI
set_option maxRecDepth 20000 in
theorem VO (m:Mch) (a:Int) (hm:SzM m):Bc prog 77 [.p (mcS m 0),.b (.ag (Bk ⟨10,a⟩))] [mcS (exM m (.num 0) ⟨10,a⟩).2.1 (exM m (.num 0) ⟨10,a⟩).1] [.ag (vlQ (tlM m ⟨10,a⟩))]:=by
 have hst:=hm.st
 have hnm:=hm.nm
 have hfr:=hm.fr
 unfold exM
 simp only
 rw [if_neg (by decide)]
 rw [if_neg (by decide)]
 rw [if_neg (by decide)]
 rw [if_neg (by decide)]
 rw [if_neg (by decide)]
 rw [if_neg (by decide)]
 rw [if_neg (by decide)]
 rw [if_pos (by decide)]
 have ht:tlM m ⟨10,a⟩=rtV m:=by unfold tlM;rw [if_pos rfl]
 rw [ht]
 have hU:=VV m hst hfr (fun f hf=>hm.fs f hf)
 generalize Nk m (.num 0)=q at hU ⊢
 generalize rtV m=v at hU ⊢
 unfold mcS vlQ at hU ⊢
 simp only [Bk] at hU ⊢
 refine Ad func77 rfl rfl (by simp [ntmps77]) rfl ?_
 refine byP ntmps77 ?_
 refine KR hU ?_
 exact rG results77 tI
set_option maxRecDepth 20000 in
theorem WM (m:Mch) (a:Int) (hm:SzM m):Bc prog 77 [.p (mcS m 0),.b (.ag (Bk ⟨11,a⟩))] [mcS (exM m (.num 0) ⟨11,a⟩).2.1 (exM m (.num 0) ⟨11,a⟩).1] [.ag (vlQ (tlM m ⟨11,a⟩))]:=by
 have hst:=hm.st
 have hnm:=hm.nm
 have hfr:=hm.fr
 have ht:tlM m ⟨11,a⟩ = .num 0:=by unfold tlM;simp only;rw [if_neg (by decide)]
 rw [ht]
 have he:(exM m (.num 0) ⟨11,a⟩).1=(QA m).1∧(exM m (.num 0) ⟨11,a⟩).2.1=(QA m).2:=by
  unfold exM
  simp only
  rw [if_neg (by decide)]
  rw [if_neg (by decide)]
  rw [if_neg (by decide)]
  rw [if_neg (by decide)]
  rw [if_neg (by decide)]
  rw [if_neg (by decide)]
  rw [if_neg (by decide)]
  rw [if_neg (by decide)]
  rw [if_pos (by decide)]
  (try unfold Qy)
  (try unfold Qu)
  (try unfold QA)
  (try unfold Qs)
  (repeat' split) <;> exact ⟨rfl,rfl⟩
 rw [he.1,he.2]
 have hU:=VB m hst hnm
 generalize QA m=q at hU ⊢
 unfold mcS at hU
 unfold mcS vlQ
 simp only [Oc,IG,Je,Jd,List.length_nil,flC,Bk] at hU ⊢
 refine Ad func77 rfl rfl (by simp [ntmps77]) rfl ?_
 refine byP ntmps77 ?_
 refine KR hU ?_
 exact rG results77 tI
set_option maxRecDepth 20000 in
theorem VH (m:Mch) (a:Int) (hm:SzM m):Bc prog 77 [.p (mcS m 0),.b (.ag (Bk ⟨12,a⟩))] [mcS (exM m (.num 0) ⟨12,a⟩).2.1 (exM m (.num 0) ⟨12,a⟩).1] [.ag (vlQ (tlM m ⟨12,a⟩))]:=by
 have hst:=hm.st
 have hnm:=hm.nm
 have hfr:=hm.fr
 have ht:tlM m ⟨12,a⟩ = .num 0:=by unfold tlM;simp only;rw [if_neg (by decide)]
 rw [ht]
 have he:(exM m (.num 0) ⟨12,a⟩).1=(Qs m).1∧(exM m (.num 0) ⟨12,a⟩).2.1=(Qs m).2:=by
  unfold exM
  simp only
  rw [if_neg (by decide)]
  rw [if_neg (by decide)]
  rw [if_neg (by decide)]
  rw [if_neg (by decide)]
  rw [if_neg (by decide)]
  rw [if_neg (by decide)]
  rw [if_neg (by decide)]
  rw [if_neg (by decide)]
  rw [if_neg (by decide)]
  (try unfold Qy)
  (try unfold Qu)
  (try unfold QA)
  (try unfold Qs)
  (repeat' split) <;> exact ⟨rfl,rfl⟩
 rw [he.1,he.2]
 have hU:=UK m hnm
 generalize Qs m=q at hU ⊢
 unfold mcS at hU
 unfold mcS vlQ
 simp only [Oc,IG,Je,Jd,List.length_nil,flC,Bk] at hU ⊢
 refine Ad func77 rfl rfl (by simp [ntmps77]) rfl ?_
 refine byP ntmps77 ?_
 refine KR hU ?_
 exact rG results77 tI
theorem aDy (m:Mch) (x:Ins) (hm:SzM m) (hx:Ec x=true):Bc prog 77 [.p (mcS m 0),.b (.ag (Bk x))] [mcS (exM m (.num 0) x).2.1 (exM m (.num 0) x).1] [.ag (vlQ (tlM m x))]:=by
 obtain ⟨ho,ha,h4,h38⟩:=Ia hx
 obtain ⟨op,a⟩:=x
 simp only at ho ha h4 h38
 rcases ho with rfl | rfl | rfl | rfl | rfl | rfl | rfl | rfl | rfl | rfl | rfl | rfl
 ·exact ZM m a hm
 ·exact aAO m a hm
 ·exact YN m a hm ⟨ha.1,h38 (by omega)⟩
 ·exact YF m a hm (h4 rfl)
 ·exact aAe m a hm
 ·exact ZQ m a hm
 ·exact Zb m a hm
 ·exact ZA m a hm
 ·exact Zq m a hm
 ·exact VO m a hm
 ·exact WM m a hm
 ·exact VH m a hm
theorem aGf (m:Mch) (x:Ins) (hx:Ec x=true):((exM m (.num 0) x).1=1→tlM m x=(exM m (.num 0) x).2.2)∧((exM m (.num 0) x).1≠0→(exM m (.num 0) x).1≠1→(tlM m x).f=false):=by
 unfold tlM
 by_cases h:x.op=10
 ·rw [if_pos h]
  have e:exM m (.num 0) x=Nk m (.num 0):=by
   unfold exM
   rw [if_neg (by omega),if_neg (by omega),if_neg (by omega),if_neg (by omega),if_neg (by omega),if_neg (by omega),if_neg (by omega),if_pos h]
  rw [e]
  unfold Nk rtV
  split
  ·exact ⟨fun h=>(by simp at h),fun _ _=>rfl⟩
  ·split
   ·exact ⟨fun _=>rfl,fun _ h=>absurd rfl h⟩
   ·exact ⟨fun h=>(by simp at h),fun h _=>absurd rfl h⟩
 ·rw [if_neg h]
  refine ⟨fun h1 => ?_,fun _ _=>rfl⟩
  unfold exM at h1 ⊢
  split
  ·rfl
  rename_i n1;rw [if_neg n1] at h1
  split
  ·split <;> rfl
  rename_i n2;rw [if_neg n2] at h1
  split
  ·rfl
  rename_i n3;rw [if_neg n3] at h1
  split
  ·rfl
  rename_i n4;rw [if_neg n4] at h1
  split
  ·split
   ·rfl
   split
   ·rfl
   split <;> rfl
  rename_i n5;rw [if_neg n5] at h1
  split
  ·rfl
  rename_i n6;rw [if_neg n6] at h1
  split
  ·rfl
  split
  ·split <;> rfl
  ·split <;> rfl
set_option maxRecDepth 20000 in
theorem Vd (code:List Ins) (fuel:Int) (hl:code.length≤1000000000):Con prog 23 [.one (DO code),.one (.int fuel)] [.ag (otC (Qp code fuel))]:=by
 have hA:=MB code hl
 have hW:=BD fuel 0 3000
 unfold Qp
 cases hc:Hp code with
 | false =>
  rw [hc] at hA
  rw [if_neg (by simp)]
  simp only [DO,otC] at hA ⊢
  refine Af func23 rfl rfl (by simp [ntmps23]) ?_
  refine byP ntmps23 ?_
  refine Kc hA ?_
  exact rG results23 tI
 | true =>
  rw [hc] at hA
  cases hw:(decide (0≤fuel) && decide (fuel≤3000)) with
  | false =>
   rw [hw] at hW
   rw [if_neg (by simp)]
   simp only [DO,otC] at hA ⊢
   refine Af func23 rfl rfl (by simp [ntmps23]) ?_
   refine byP ntmps23 ?_
   refine Kc hA ?_
   refine rQ ?_
   refine Kc hW ?_
   exact rG results23 tI
  | true =>
   rw [hw] at hW
   rw [if_pos (by simp)]
   simp only [Bool.and_eq_true,decide_eq_true_eq] at hw
   obtain ⟨F,hF⟩:∃ F:Nat,fuel=(F:Int):=⟨fuel.toNat,by omega⟩
   subst hF
   rw [Int.toNat_natCast]
   have hF3:F≤3000:=by omega
   obtain ⟨R,hR⟩:∃ R,R=Jt code F 0 ⟨0,[],[],[]⟩:=⟨_,rfl⟩
   rw [← hR]
   simp only [DO,otC] at hA ⊢
   refine Af func23 rfl rfl (by simp [ntmps23]) ?_
   refine byP ntmps23 ?_
   refine Kc hA ?_
   refine rQ ?_
   refine Kc hW ?_
   refine rQ ?_
   refine Jm 1 1 rfl rfl ?_
   refine Jm 1 2 rfl rfl ?_
   refine Jm 1 3 rfl rfl ?_
   refine Al (fun i:Nat × Mch=>i.1≤F∧GM i.1 i.2∧Jt code (F-i.1) i.1 i.2=R)
    (fun i=>⟨83,[(6,.i i.1),(5,.bx 1 0),(4,.bx 0 0),(0,.br (.rows 2 code.length (flC Bk code))),(1,.i F)],[(0,[.i 0,.i 0,.b false,.i 0]),(1,[.i i.2.pc,.br (.rows 4 i.2.st.length (flC vlS i.2.st)),.br (.rows 4 i.2.nm.length (flC vlS i.2.nm)),.br (.rows 3 i.2.fr.length (flC frS i.2.fr)),.i 0])],[],2,[]⟩)
    (fun i=>F-i.1) (0,⟨0,[],[],[]⟩) id ⟨Nat.zero_le _,GM0,by rw [Nat.sub_zero];exact hR.symm⟩ ?_ ?_
   ·simp only [push_cast,Sub,EG,EL,ED,EH,inj,AV.ren,AV.rens,AV.lt,AV.lts,↓reduceIte,Nat.reduceLT,Nat.reduceEqDiff,reduceCtorEq,flC]
   ·rintro ⟨k,m⟩ ⟨hk,hm,hrun⟩
    simp only at hk hm hrun
    refine Aa 200 _ _ _ ?_
    by_cases hkf:k=F
    ·have hkf':((k:Int)=(F:Int))=True:=eq_true (by omega)
     rw [hkf,Nat.sub_self] at hrun
     subst hrun
     exact byP (fc hkf (fc Jt.eq_1 results23)) tI
    ·have hkf':((k:Int)=(F:Int))=False:=eq_false (by omega)
     obtain ⟨r,hr⟩:∃ r,F-k=r+1:=⟨F-k-1,by omega⟩
     rw [hr] at hrun
     unfold Jt at hrun
     by_cases hpc:(code.length:Int)≤m.pc
     ·rw [if_pos hpc] at hrun
      subst hrun
      exact byP (fc hkf' (fc hpc results23)) tI
     ·rw [if_neg hpc] at hrun
      have h0:=hm.pc
      have hlt:m.pc.toNat<code.length:=by omega
      have hpp:m.pc<(code.length:Int):=by omega
      have i0:inI (m.pc+1):=by unfold inI;omega
      have hsz:SzM (pcM m (m.pc+1)):=by
       have q:=hm.sz (by omega)
       exact ⟨⟨by unfold pcM;simp only;omega,by unfold pcM;simp only;omega⟩,q.st,q.nm,q.fr,q.ct,q.fs⟩
      have hX:=aDy (pcM m (m.pc+1)) code[m.pc.toNat]! hsz (Gb hc hlt)
      have ht:=aGf (pcM m (m.pc+1)) code[m.pc.toNat]! (Gb hc hlt)
      have hg:=aCT hm (Gb hc hlt) (.num 0)
      have hrow:=CR Gp code m.pc.toNat hlt
      generalize exM (pcM m (m.pc+1)) (.num 0) code[m.pc.toNat]! = e at hX hg ht hrun
      generalize tlM (pcM m (m.pc+1)) code[m.pc.toNat]! = v at hX ht
      generalize code[m.pc.toNat]! = x at hX hrow
      obtain ⟨es,em,ed⟩:=e
      simp only at hX hg ht hrun
      unfold mcS vlQ at hX
      simp only [Bk,pcM] at hX hrow
      refine byP (fc hkf' (fc hpc (fc h0.1 (fc hpp (fc hrow i0))))) ?_
      refine Bo hX rfl rfl rfl ?_ ?_ ?_ (Aa 200 _ _ _ ?_)
      ·exact byQ tI
      ·exact byQ tI
      ·exact byQ tI
      have i1:inI ((k:Int)+1):=by unfold inI;omega
      by_cases e0:es=0
      ·rw [if_pos e0] at hrun
       subst e0
       refine byP i1 ?_
       refine ⟨(k+1,em),id,⟨by omega,hg rfl,by rw [← hrun];congr 1;omega⟩,by simp only;omega, ?_⟩
       exact byQ tI
      ·rw [if_neg e0] at hrun
       have e0':(es=0)=False:=eq_false e0
       by_cases e1:es=1
       ·rw [if_pos e1] at hrun
        subst e1
        have hv:=ht.1 rfl
        subst hv
        cases hf:v.f with
        | true =>
         rw [if_pos hf] at hrun
         subst hrun
         refine byQ ?_
         refine Ac (oT [0,1,2,3,4,5,6,7,8] (.cons 9 false .nil)) (by kernel_rfl) (fun _ _ h=>False.elim h) (by kernel_rfl) (Aa 200 _ _ _ ?_)
         exact byP (fc i1 results23) tI
        | false =>
         rw [if_neg (by rw [hf];simp)] at hrun
         subst hrun
         exact byP (fc (aCZ hf) (fc i1 results23)) tI
       ·rw [if_neg e1] at hrun
        have e1':(es=1)=False:=eq_false e1
        have hvf:=ht.2 e0 e1
        subst hrun
        refine byP (fc e0' e1') ?_
        refine Ac (oT [0,1,2,3,4,5,6,7,8] (.cons 9 false .nil)) (by kernel_rfl) (fun _ _ h=>False.elim h) (by kernel_rfl) (Aa 200 _ _ _ ?_)
        exact byP (fc hvf (fc i1 results23)) tI
structure CdI (e t:Tm) (r:Int):Prop where
 sh:ShT t
 n:nT t≤nT e * 160000
 rr:0≤r∧r≤8
def cdR (o:Tm × Int × Bool):List RD:=[tmZ o.1,.one (.o (.int o.2.1)),.one (.o (.bool o.2.2))]
theorem cdF:∀ t r b,cdR (t,r,b)=[.ag [.r (.int t.kind),.r (.str t.name),.r (.str t.other),.r (.int t.n),.r (.int t.ty.kind),.r (.rows 2 t.ty.args.length (Ai t.ty.args)),.r (.int t.res.kind),.r (.rows 2 t.res.args.length (Ai t.res.args)),.r (.rows 9 t.args.length (Av t.args))],.one (.o (.int r)),.one (.o (.bool b))]:=fun _ _ _=>rfl
theorem aJg:∀ t r b,cdR (t,r,b)=[tmZ t,.one (.o (.int r)),.one (.o (.bool b))]:=fun _ _ _=>rfl
def aFA (m:Nat):Prop:=∀ (e:Tm) (n:Int),nT e<m→ShT e→nT e≤400 → -1000≤n-(nT e:Int)→n+(nT e:Int)≤1000→Bz prog 179 [.b (.ag [.int e.kind,.str e.name,.str e.other,.int e.n,.int e.ty.kind,.rows 2 e.ty.args.length (Ai e.ty.args),.int e.res.kind,.rows 2 e.res.args.length (Ai e.res.args),.rows 9 e.args.length (Av e.args)]),.b (.one (.int n))] (fun o=>CdI e o.1 o.2.1) suO cdR
theorem Rf {e y:Tm} {r:Int} {k:Nat} (hk:k<e.args.length) (hS:ShT e) (h:CdI e.args[k]! y r):CdI e (EC e k y) r:=by
 refine ⟨SC hS h.sh, ?_,h.rr⟩
 have a1:=Rp e k y hk
 have a2:=h.n
 have a3:=Cg hk
 omega
theorem aIq {e t:Tm} {r:Int} {k:Nat} (hk:k<e.args.length) (hS:ShT e) (h:AtI e k t r):CdI e t r:=by
 by_cases hr:r=0
 ·rw [h.no hr,hr];exact ⟨hS,by omega,by omega⟩
 ·obtain ⟨y,h1,rfl⟩:=h.yes hr
  exact Rf hk hS ⟨h1.sh,h1.n,h1.rr⟩
set_option maxHeartbeats 16000000 in
theorem QK (m:Nat) (hS:StC m) (hCd:aFA m) (e:Tm) (n:Int) (hm:nT e≤m) (hsh:ShT e) (hn:nT e≤400) (hlo : -1000≤n-(nT e:Int)) (hhi:n+(nT e:Int)≤1000):Bz prog 179 [.b (.ag [.int e.kind,.str e.name,.str e.other,.int e.n,.int e.ty.kind,.rows 2 e.ty.args.length (Ai e.ty.args),.int e.res.kind,.rows 2 e.res.args.length (Ai e.res.args),.rows 9 e.args.length (Av e.args)]),.b (.one (.int n))] (fun o=>CdI e o.1 o.2.1) suO cdR:=by
 have hze:=DW e hsh
 have hpos:=LK e
 refine AF func179 rfl rfl (by simp [ntmps179]) (fun _ _=>rfl) ?_
 by_cases hsp:e.kind=11∧n=1
 ·obtain ⟨k11,hn1⟩:=hsp
  have hl1:=(El hsh.sh).2.2.2.1 (.inr (.inr (.inr (.inl k11))))
  have hl:0<e.args.length:=by omega
  have hR0:=Aj e.args 0 hl
  have s0:=hsh.arg _ (Ab hl)
  have n0:=Cg hl
  have hz0:=DW _ s0
  have hl0:=(El s0.sh).2.2.2.1
  have hi0:(0:Int)<(e.args.length:Int):=by omega
  have hC:=Fh e.args[0]! (by omega) (fun h=>hl0 (.inr (.inr (.inl h))))
  have hA:Bz prog 237 [.b (.ag [.int e.kind,.str e.name,.str e.other,.int e.n,.int e.ty.kind,.rows 2 e.ty.args.length (Ai e.ty.args),.int e.res.kind,.rows 2 e.res.args.length (Ai e.res.args),.rows 9 e.args.length (Av e.args)]),.b (.one (.int 0))] (fun o=>AtI e 0 o.1 o.2) suO stR:=NH m hS e 0 hm hsh hn hl
  rw [Ak] at hR0 hC
  cases hres:IJ e.args[0]! with
  | false =>
   rw [hres] at hC
   refine byP (fc (eq_true k11) (fc (eq_true hn1) (fc hi0 (fc hR0 (fc ntmps179 results179))))) ?_
   refine Kc hC ?_
   refine rQ ?_
   refine KX (suF) hA ?_
   rintro ⟨t,r⟩ ht
   simp only at ht
   have hr:=ht.rr
   refine rG (fc suF (fc FN (fc ntmps179 results179))) ?_
   refine ⟨.inl rfl,(t,r,true),aIq hl hsh ht, ?_⟩
   refine byP (fc suF (fc cdF (fc ntmps179 results179))) ?_
   exact Fi
  | true =>
   rw [hres] at hC
   by_cases h10:(e.args[0]!).kind=10
   ·have hlx:=hl0 (.inr (.inr (.inl h10)))
    have hRt:=Aj (e.args[0]!).args 0 (by omega)
    have hit:(0:Int)<((e.args[0]!).args.length:Int):=by omega
    have hst2:=s0.arg _ (Ab (show 0<(e.args[0]!).args.length by omega))
    have hnt:=Cg (t:=e.args[0]!) (k:=0) (by omega)
    have hzt:=DW _ hst2
    have hCt:=Fs (Dh (e.args[0]!).args[0]! (by omega))
    unfold tmZ at hCt
    rw [Ak] at hCt hRt
    refine byP (fc (eq_true k11) (fc (eq_true hn1) (fc hi0 (fc hR0 (fc ntmps179 results179))))) ?_
    refine Kc hC ?_
    refine rG (fc (eq_true h10) (fc hit hRt)) ?_
    refine KR hCt ?_
    refine rG (fc ntmps179 results179) ?_
    refine ⟨.inl rfl,((e.args[0]!).args[0]!,6,true),⟨hst2,by simp only;omega,by simp only;omega⟩, ?_⟩
    refine byP (fc suF (fc cdF (fc ntmps179 results179))) ?_
    exact Fi
   ·refine byP (fc (eq_true k11) (fc (eq_true hn1) (fc hi0 (fc hR0 (fc ntmps179 results179))))) ?_
    refine Kc hC ?_
    refine rG (fc h10 (fc ntmps179 results179)) ?_
    refine ⟨.inl rfl,(e,0,true),⟨hsh,by simp only;omega,by simp only;omega⟩, ?_⟩
    refine byP (fc suF (fc cdF (fc ntmps179 results179))) ?_
    exact Fi
 have hsp2:((e.kind=11)=True∧(n=1)=False)∨((e.kind=11)=False∧True):=by
  by_cases h:e.kind=11
  ·exact .inl ⟨eq_true h,eq_false fun g=>hsp ⟨h,g⟩⟩
  ·exact .inr ⟨eq_false h,trivial⟩
 have hNx:=Fz e n (by omega)
 rw [Ak] at hNx
 have hrg:=Mx e.kind n
 generalize plF e.kind n=n2 at hNx hrg
 have hbl:=(CJ (t:=e) (Nat.le_refl _)).2.2
 rcases hsp2 with ⟨k11,hn1⟩ | ⟨k11,hn1⟩
 all_goals
  refine byP (fc k11 (fc hn1 (fc ntmps179 results179))) ?_
  refine Al (fun k:Nat=>k≤e.args.length) (fun k=>⟨71,[(10,.i k),(4,.bx 1 0),(2,.bx 0 0),(1,.i n)],[(0,[.i e.kind,.s e.name,.s e.other,.i e.n,.i e.ty.kind,.br (.rows 2 e.ty.args.length (Ai e.ty.args)),.i e.res.kind,.br (.rows 2 e.res.args.length (Ai e.res.args)),.br (.rows 9 e.args.length (Av e.args))]),(1,[.i 0,.s ⟨#[]⟩,.s ⟨#[]⟩,.i 0,.i 0,.nl 2,.i 0,.nl 2,.nl 9])],[],2,[]⟩) (fun k=>e.args.length-k) 0 id (Nat.zero_le _) ?_ ?_
  ·exact byP Int.natCast_zero tI
  rintro k hk
  by_cases hlt:k<e.args.length
  ·have hi:(k:Int)<(e.args.length:Int):=by omega
   have k0:(0:Int)≤(k:Int):=by omega
   have hR:=Aj e.args k hlt
   have sk:=hsh.arg _ (Ab hlt)
   have nk:=Cg hlt
   have hCk:=hCd e.args[k]! n2 (by omega) sk (by omega) (by omega) (by omega)
   rw [Ak] at hR
   refine rG hi ?_
   refine Ac (oT [0,1,2,3,4,5,6] (.fork (.alt 7 (.fork (.alt 8 (oT [9,10] (.fork (.alt 11 (.fork (.alt 12 (oF [13,14] (oT [15,16] .nil)) (.alt 13 (.fork (.alt 12 (.cons 14 false (oT [15,16] .nil)) (.alt 14 (oT [12,15,16] .nil) .last))) .last))) (.alt 12 (.fork (.alt 11 (oF [13,14] (oT [15,16] .nil)) (.alt 13 (.fork (.alt 11 (.cons 14 false (oT [15,16] .nil)) (.alt 14 (oT [11,15,16] .nil) .last))) .last))) (.alt 13 (.fork (.alt 11 (.fork (.alt 12 (.cons 14 false (oT [15,16] .nil)) (.alt 14 (oT [12,15,16] .nil) .last))) (.alt 12 (.fork (.alt 11 (.cons 14 false (oT [15,16] .nil)) (.alt 14 (oT [11,15,16] .nil) .last))) (.alt 14 (oT [11,12,15,16] .nil) .last)))) .last))))) (.alt 13 (.cons 8 false (oT [9,10] (.fork (.alt 11 (.fork (.alt 12 (.cons 14 false (oT [15,16] .nil)) (.alt 14 (oT [12,15,16] .nil) .last))) (.alt 12 (.fork (.alt 11 (.cons 14 false (oT [15,16] .nil)) (.alt 14 (oT [11,15,16] .nil) .last))) (.alt 14 (oT [11,12,15,16] .nil) .last)))))) .last))) (.alt 13 (oF [7,8] (oT [9,10] (.fork (.alt 11 (.fork (.alt 12 (.cons 14 false (oT [15,16] .nil)) (.alt 14 (oT [12,15,16] .nil) .last))) (.alt 12 (.fork (.alt 11 (.cons 14 false (oT [15,16] .nil)) (.alt 14 (oT [11,15,16] .nil) .last))) (.alt 14 (oT [11,12,15,16] .nil) .last)))))) .last)))) (by kernel_rfl) AD (by kernel_rfl) ?_
   refine rG (fc hi (fc k0 hR)) ?_
   repeat' (with_reducible apply And.intro)
   all_goals
    refine KD hNx ?_
    refine rQ ?_
    repeat' (with_reducible apply And.intro)
   all_goals
    refine Bw (cap:=[]) (hCk) rfl rfl rfl (byP (suF) tI) ?_
    rintro ⟨t,r,b⟩ ht
    simp only at ht
    have hr:=ht.rr
    cases b
    ·refine rG (fc suF cdF) ?_
     repeat' (with_reducible apply And.intro)
     all_goals first | (unfold inI;omega) | exact ⟨k+1,id,by omega,by omega,byP Bx tI⟩
    ·have hW:=KA e k t (by omega) hlt
     rw [Im] at hW
     refine rG (fc suF cdF) ?_
     repeat' (with_reducible apply And.intro)
     all_goals
      refine KR hW ?_
      refine rG (fc ntmps179 results179) ?_
      refine ⟨.inl rfl,(EC e k t,r,true),Rf hlt hsh ht, ?_⟩
      refine byP (fc suF (fc aJg (fc (Im e k t) (fc ntmps179 results179)))) ?_
      exact Fi
  ·have hi:¬ (k:Int)<(e.args.length:Int):=by omega
   obtain rfl:k=e.args.length:=by omega
   refine rG hi ?_
   refine rG (fc ntmps179 results179) ?_
   refine ⟨.inl rfl,(e,0,false),⟨hsh,by simp only;omega,by simp only;omega⟩, ?_⟩
   refine byP (fc suF (fc cdF (fc ntmps179 results179))) ?_
   exact Fi
set_option maxHeartbeats 16000000 in
theorem Sc (m:Nat) (hS:StC m) (hCd:aFA m):StC (m+1):=by
 intro e hm hsh hn
 have hze:=DW e hsh
 obtain ⟨l1,l4,l5,l6,l7,k1,k13⟩:=El hsh.sh
 have hC:=Fh e (by omega) (fun h=>l6 (.inr (.inr (.inl h))))
 rw [Ak] at hC
 refine AF func91 rfl rfl (by simp [ntmps91]) (fun _ _=>rfl) ?_
 cases hres:IJ e with
 | true =>
  rw [hres] at hC
  refine byP (fc ntmps91 results91) ?_
  refine Kc hC ?_
  refine rG (fc ntmps91 results91) ?_
  refine ⟨.inl rfl,(e,0),DT hsh, ?_⟩
  refine byP (fc suF (fc FN (fc ntmps91 results91))) ?_
  exact Fi
 | false =>
  rw [hres] at hC
  by_cases h4:e.kind=4
  ·have hF:=aBq m hS e (by omega) hsh hn h4
   refine byP (fc ntmps91 results91) ?_
   refine Kc hC ?_
   refine rG (eq_true h4) ?_
   refine KX (suF) hF ?_
   rintro ⟨t,r⟩ ht
   simp only at ht
   have hr:=ht.rr
   refine rG (fc suF (fc FN (fc ntmps91 results91))) ?_
   refine ⟨.inl rfl,(t,r),ht, ?_⟩
   refine byP (fc suF (fc FN (fc ntmps91 results91))) ?_
   exact Fi
  by_cases h7:e.kind=7
  ·have hF:=Zk m hS e (by omega) hsh hn h7
   refine byP (fc ntmps91 results91) ?_
   refine Kc hC ?_
   refine rG (fc h4 (eq_true h7)) ?_
   refine KX (suF) hF ?_
   rintro ⟨t,r⟩ ht
   simp only at ht
   have hr:=ht.rr
   refine rG (fc suF (fc FN (fc ntmps91 results91))) ?_
   refine ⟨.inl rfl,(t,r),ht, ?_⟩
   refine byP (fc suF (fc FN (fc ntmps91 results91))) ?_
   exact Fi
  by_cases h10:e.kind=10
  ·have hl:=l6 (.inr (.inr (.inl h10)))
   have hR0:=Aj e.args 0 (by omega)
   rw [Ak] at hR0
   have hi0:(0:Int)<(e.args.length:Int):=by omega
   have s0:=hsh.arg _ (aBK hl)
   have n0:=Cg (show 0<e.args.length by omega)
   have hF:=hCd e.args[0]! 1 (by omega) s0 (by omega) (by omega) (by omega)
   refine byP (fc ntmps91 results91) ?_
   refine Kc hC ?_
   refine rG (fc h4 (fc h7 (fc (eq_true h10) (fc hi0 hR0)))) ?_
   refine KX (suF) hF ?_
   rintro ⟨t,r,b⟩ ht
   simp only at ht
   have hr:=ht.rr
   have hW:Bc prog 180 [.b (.ag [.int e.kind,.str e.name,.str e.other,.int e.n,.int e.ty.kind,.rows 2 e.ty.args.length (Ai e.ty.args),.int e.res.kind,.rows 2 e.res.args.length (Ai e.res.args),.rows 9 e.args.length (Av e.args)]),.b (.one (.int 0)),.b (.ag [.int t.kind,.str t.name,.str t.other,.int t.n,.int t.ty.kind,.rows 2 t.ty.args.length (Ai t.ty.args),.int t.res.kind,.rows 2 t.res.args.length (Ai t.res.args),.rows 9 t.args.length (Av t.args)])] [] [tmZ (EC e 0 t)]:=KA e 0 t (by omega) (by omega)
   rw [Im] at hW
   have hcd:=Rf (show 0<e.args.length by omega) hsh ht
   refine rG (fc suF cdF) ?_
   refine KR hW ?_
   refine rG (fc ntmps91 results91) ?_
   refine ⟨.inl rfl,(EC e 0 t,r),MP (by omega) hr hcd.sh hcd.n, ?_⟩
   refine byP (fc suF (fc aBe (fc (Im e 0 t) (fc ntmps91 results91)))) ?_
   exact Fi
  by_cases hk:e.kind=5∨e.kind=8∨e.kind=12∨e.kind=13
  ·have hF:=UX m hS e (by omega) hsh hn hk
   have hk4:((e.kind=5)=True∧True∧True∧True)∨((e.kind=5)=False∧(e.kind=8)=True∧True∧True)∨((e.kind=5)=False∧(e.kind=8)=False∧(e.kind=12)=True∧True)∨((e.kind=5)=False∧(e.kind=8)=False∧(e.kind=12)=False∧(e.kind=13)=True):=by
    rcases hk with h | h | h | h <;> rw [h] <;> simp
   rcases hk4 with ⟨a,b,c,d⟩ | ⟨a,b,c,d⟩ | ⟨a,b,c,d⟩ | ⟨a,b,c,d⟩
   all_goals
    refine byP (fc ntmps91 results91) ?_
    refine Kc hC ?_
    refine rG (fc h4 (fc h7 (fc h10 (fc a (fc b (fc c d)))))) ?_
    refine KX (suF) hF ?_
    rintro ⟨t,r⟩ ht
    simp only at ht
    have hr:=ht.rr
    refine rG (fc suF (fc FN (fc ntmps91 results91))) ?_
    refine ⟨.inl rfl,(t,r),ht, ?_⟩
    refine byP (fc suF (fc FN (fc ntmps91 results91))) ?_
    exact Fi
  ·refine byP (fc ntmps91 results91) ?_
   refine Kc hC ?_
   refine rG (fc h4 (fc h7 (fc h10 (fc (show ¬ e.kind=5 by omega) (fc (show ¬ e.kind=8 by omega) (fc (show ¬ e.kind=12 by omega) (fc (show ¬ e.kind=13 by omega) (fc ntmps91 results91)))))))) ?_
   refine ⟨.inl rfl,(e,0),DT hsh, ?_⟩
   refine byP (fc suF (fc FN (fc ntmps91 results91))) ?_
   exact Fi
theorem Ov:∀ m,StC m∧aFA m
 | 0=>⟨fun e h=>absurd h (by omega),fun e n h=>absurd h (by omega)⟩
 | m+1=>by
  obtain ⟨h1,h2⟩:=Ov m
  exact ⟨Sc m h1 h2,fun e n hm hsh hn hlo hhi=>QK m h1 h2 e n (by omega) hsh hn hlo hhi⟩
theorem Ws (e:Tm) (hsh:ShT e) (hn:nT e≤400):Bz prog 91 [.b (.ag [.int e.kind,.str e.name,.str e.other,.int e.n,.int e.ty.kind,.rows 2 e.ty.args.length (Ai e.ty.args),.int e.res.kind,.rows 2 e.res.args.length (Ai e.res.args),.rows 9 e.args.length (Av e.args)])] (fun o=>StI e o.1 o.2) suO stR:=(Ov (nT e+1)).1 e (by omega) hsh hn
def tZr:Tm:=.mk 0 ⟨#[]⟩ ⟨#[]⟩ 0 (.mk 0 []) (.mk 0 []) []
structure RnI (e t:Tm) (s:Int) (n:Int):Prop where
 ss:0≤s∧s≤4
 nn:0≤n∧n≤200
 ok:s=1→plT e=true→Clo e→Ms e t∧vlB t=true
def rnR (o:Int × Tm × Int):List RD:=[.ag [.r (.int o.1),.r (.int o.2.1.kind),.r (.str o.2.1.name),.r (.str o.2.1.other),.r (.int o.2.1.n),.r (.int o.2.1.ty.kind),.r (.rows 2 o.2.1.ty.args.length (Ai o.2.1.ty.args)),.r (.int o.2.1.res.kind),.r (.rows 2 o.2.1.res.args.length (Ai o.2.1.res.args)),.r (.rows 9 o.2.1.args.length (Av o.2.1.args)),.r (.int o.2.2)]]
theorem rnF:∀ s t n,rnR (s,t,n)=[.ag [.r (.int s),.r (.int t.kind),.r (.str t.name),.r (.str t.other),.r (.int t.n),.r (.int t.ty.kind),.r (.rows 2 t.ty.args.length (Ai t.ty.args)),.r (.int t.res.kind),.r (.rows 2 t.res.args.length (Ai t.res.args)),.r (.rows 9 t.args.length (Av t.args)),.r (.int n)]]:=fun _ _ _=>rfl
theorem rnZ:∀ s n,rnR (s,tZr,n)=[.ag [.r (.int s),.r (.int 0),.r (.str ⟨#[]⟩),.r (.str ⟨#[]⟩),.r (.int 0),.r (.int 0),.r (.rows 2 0 []),.r (.int 0),.r (.rows 2 0 []),.r (.rows 9 0 []),.r (.int n)]]:=fun _ _=>rfl
structure RdI (e:Tm) (k:Nat) (x:Tm):Prop where
 le:k≤200
 sh:ShT x
 n:nT x≤100000000
 go:plT e=true→Clo e→Ms e x∧K9 x∧Clo x
theorem aHO {e:Tm} (h:plT e=true):K9 e:=by
 unfold plT at h
 rw [Bool.and_eq_true] at h
 refine Pt (fun t ht => ?_) e h.2
 unfold pnS at ht
 split at ht
 ·rename_i hk
  exact decide_eq_true (by omega)
 ·cases ht
theorem aAl {e x y:Tm} {k:Nat} {r:Int} (h:RdI e k x) (hn:nT x≤400) (hk:k<200) (hs:StI x y r) (hr:r≠0):RdI e (k+1) y:=by
 refine ⟨by omega,hs.sh,by have:=hs.n;omega,fun hp hc => ?_⟩
 obtain ⟨h1,h2,h3⟩:=h.go hp hc
 have h4:=hs.st hr h2 h3
 obtain ⟨h5,h6⟩:=aDc x y h4 h.sh h2 h3
 exact ⟨aAk h1 h4,h5,h6⟩
theorem aAr {e x:Tm} {k:Nat} (h:RdI e k x) (hr:IJ x=true):RnI e x 1 k:=by
 have:=h.le
 refine ⟨by omega,by omega,fun _ hp hc => ?_⟩
 obtain ⟨h1,h2,h3⟩:=h.go hp hc
 exact ⟨h1,by rw [← FX h2];exact hr⟩
theorem Wf {e t:Tm} {s n:Int} (hs:s=0∨s=2∨s=3∨s=4) (hn:0≤n∧n≤200):RnI e t s n:=⟨by omega,hn,fun h=>by omega⟩
set_option maxHeartbeats 16000000 in
theorem Wy (e:Tm) (hz:szL (tmC e)≤2000000):Bz prog 30 [.b (.ag [.int e.kind,.str e.name,.str e.other,.int e.n,.int e.ty.kind,.rows 2 e.ty.args.length (Ai e.ty.args),.int e.res.kind,.rows 2 e.res.args.length (Ai e.res.args),.rows 9 e.args.length (Av e.args)]),.b (.one (.int 200))] (fun o=>RnI e o.2.1 o.1 o.2.2) suO rnR:=by
 have hL:=Gc e 0 (by omega) ⟨by omega,by omega⟩
 rw [Ak] at hL
 have h200:=BD 200 0 200
 have hCp:=Fs (Dh e (by omega))
 unfold tmZ at hCp
 rw [Ak] at hCp
 have hnT:=aBS e
 refine AL [] func30 rfl rfl (by simp [ntmps30]) (fun _ _=>rfl) ?_
 cases hlv:(Bn EO e && Jx okB e 0) with
 | false =>
  rw [hlv] at hL
  refine byP (fc ntmps30 results30) ?_
  refine Kc hL ?_
  refine rG (fc ntmps30 results30) ?_
  refine ⟨.inl rfl,(0,tZr,0),Wf (.inl rfl) (by simp only;omega), ?_⟩
  refine byP (fc suF (fc rnZ (fc ntmps30 results30))) ?_
  exact Fi
 | true =>
  rw [hlv] at hL
  rw [Bool.and_eq_true] at hlv
  have hsh:=aCR hlv.1
  refine byP (fc ntmps30 results30) ?_
  refine Kc hL ?_
  refine rQ ?_
  refine Kc h200 ?_
  refine rQ ?_
  refine KR hCp ?_
  refine rQ ?_
  refine Al (fun o:Nat × Tm=>RdI e o.1 o.2) (fun o=>⟨49,[(6,.i o.1),(5,.bx 2 0),(4,.bx 1 0),(1,.i 200)],[(1,[.i 0,.i 0,.s ⟨#[]⟩,.s ⟨#[]⟩,.i 0,.i 0,.nl 2,.i 0,.nl 2,.nl 9,.i 0]),(2,[.i o.2.kind,.s o.2.name,.s o.2.other,.i o.2.n,.i o.2.ty.kind,.br (.rows 2 o.2.ty.args.length (Ai o.2.ty.args)),.i o.2.res.kind,.br (.rows 2 o.2.res.args.length (Ai o.2.res.args)),.br (.rows 9 o.2.args.length (Av o.2.args))])],[],3,[]⟩) (fun o=>200-o.1) (0,e) id ⟨Nat.zero_le _,hsh,by simp only;omega,fun hp hc=>⟨.done _,aHO hp,hc⟩⟩ ?_ ?_
  ·exact byP Int.natCast_zero tI
  rintro ⟨k,x⟩ hI
  simp only at hI ⊢
  have hk:=hI.le
  have hxn:=hI.n
  have hxz:=DW x hI.sh
  have hSz:=TX x (by omega)
  rw [Ak] at hSz
  by_cases hbig:400<nT x
  ·have hb:(400:Int)<(nT x:Int):=by omega
   refine rQ ?_
   refine Kc hSz ?_
   refine rG (fc hb (fc ntmps30 results30)) ?_
   refine ⟨.inl rfl,(3,tZr,k),Wf (.inr (.inr (.inl rfl))) (by simp only;omega), ?_⟩
   refine byP (fc suF (fc rnZ (fc ntmps30 results30))) ?_
   exact Fi
  have hb:¬ (400:Int)<(nT x:Int):=by omega
  have hC:=Fh x (by omega) (fun h=>(El hI.sh.sh).2.2.2.1 (.inr (.inr (.inl h))))
  rw [Ak] at hC
  cases hres:IJ x with
  | true =>
   rw [hres] at hC
   refine rQ ?_
   refine Kc hSz ?_
   refine rG hb ?_
   refine Kc hC ?_
   refine rG (fc ntmps30 results30) ?_
   refine ⟨.inl rfl,(1,x,k),aAr hI hres, ?_⟩
   refine byP (fc suF (fc rnF (fc ntmps30 results30))) ?_
   exact Fi
  | false =>
   rw [hres] at hC
   by_cases hk2:k=200
   ·have hk3:(k:Int)=200:=by omega
    refine rQ ?_
    refine Kc hSz ?_
    refine rG hb ?_
    refine Kc hC ?_
    refine rG (fc (eq_true hk3) (fc ntmps30 results30)) ?_
    refine ⟨.inl rfl,(2,x,k),Wf (.inr (.inl rfl)) (by simp only;omega), ?_⟩
    refine byP (fc suF (fc rnF (fc ntmps30 results30))) ?_
    exact Fi
   ·have hk3:¬ (k:Int)=200:=by omega
    have hSt:=Ws x hI.sh (by omega)
    refine rQ ?_
    refine Kc hSz ?_
    refine rG hb ?_
    refine Kc hC ?_
    refine rG hk3 ?_
    refine KX (suF) hSt ?_
    rintro ⟨y,r⟩ hy
    simp only at hy
    have hr:=hy.rr
    by_cases hr0:r=0
    ·refine rG (fc suF (fc FN (fc (eq_true hr0) (fc ntmps30 results30)))) ?_
     refine ⟨.inl rfl,(4,x,k),Wf (.inr (.inr (.inr rfl))) (by simp only;omega), ?_⟩
     refine byP (fc suF (fc rnF (fc ntmps30 results30))) ?_
     exact Fi
    ·refine rG (fc suF (fc FN (fc hr0 (fc ntmps30 results30)))) ?_
     exact ⟨by unfold inI;omega,(k+1,y),id,aAl hI (by omega) (by omega) hy hr0,by simp only;omega,byP Bx tI⟩
def BArg (w:World) (v:Value):Prop:=∃ zs:List Int,EM w w.heap.size (Bg zs) v∧zs.length≤maxLen∧∀ n ∈ zs,0≤n∧n<256
theorem LQ (w:World) (S:Nat):∀ zs:List Int,Di w S (zs.map D.byt) (zs.map (Value.int .u8))
 | []=>by unfold Di;rfl
 | z :: zs=>by
  rw [List.map_cons,List.map_cons]
  unfold Di
  exact ⟨_,_,rfl,by unfold EM;rfl,LQ w S zs⟩
theorem barg {H:Type} {enc:TypeId × Value→H} {w:World} {base:Nat} {spare:Nat→Bool} {held:Bool} {fuel:Nat} {a:Option Addr} {l c:Nat} {x:DataW H × List MemPlace}
  (hf:DataW.trod enc prog w base spare held fuel 22 (Value.slice a l c).cells.toList=some x):BArg w (.slice a l c):=by
 rcases ChangeShapes.open_ints Tryz.underlying22 Tryz.underlying5 (by kernel_rfl) hf with ⟨h,_⟩ | ⟨a',len,cap,zs,h,hb,hl,hm,hz,_,hc,hw⟩
 ·have h':[Value.slice a l c]=[.slice none 0 0]:=h
  simp only [List.cons.injEq,Value.slice.injEq,and_true] at h'
  obtain ⟨rfl,rfl,rfl⟩:=h'
  refine ⟨[], ?_,Nat.zero_le _,by simp⟩
  unfold Bg EM
  exact ⟨_,_,rfl,Nat.le_refl _,Nat.zero_le _,rfl,.inl rfl⟩
 ·have h':[Value.slice a l c]=[.slice (some a') len cap]:=h
  simp only [List.cons.injEq,Value.slice.injEq,and_true] at h'
  obtain ⟨rfl,rfl,rfl⟩:=h'
  have hlz:l≤zs.length:=by rw [hz];split <;> omega
  refine ⟨zs.take l, ?_,by rw [List.length_take];omega,fun n hn => ?_⟩
  ·have hlen:(zs.take l).length=l:=by rw [List.length_take];omega
   unfold Bg EM
   rw [hlen]
   refine ⟨_,_,rfl,hl,hm,by rw [List.length_map,hlen];omega, ?_⟩
   rcases Nat.eq_zero_or_pos l with h0 | h0
   ·exact .inl h0
   ·right
    have h1:=hc 0 (by omega)
    have h3:a'.add 0=a':=by simp [Addr.add]
    rw [h3] at h1
    have h4:=World.cell?_spot h1
    have h5:=World.block_lt_of_cell? w _ h1
    obtain ⟨b,off,s⟩:=a'
    have hs:s=none:=by simpa using h4
    subst hs
    refine ⟨b,off,(zs.take l).map (Value.int .u8),rfl,h5,fun i hi => ?_,LQ _ _ _⟩
    have hi':i<l:=by rw [List.length_map,hlen] at hi;exact hi
    have h6:=hc i (by omega)
    rw [show (⟨b,off,none⟩:Addr).add i=⟨b,off+i,none⟩ by unfold Addr.add;simp] at h6
    rw [h6]
    simp [List.getD_eq_getElem?_getD,List.getElem?_eq_getElem (show i<zs.length by omega)]
  ·have h7:(decide ((0:Int)≤n) && decide (n≤255))=true:=hw n (List.mem_of_mem_take hn)
   simp only [Bool.and_eq_true,decide_eq_true_eq] at h7
   omega
theorem Wu (zs:List Int):Con prog 7 [.one (.rows 1 zs.length (zs.map D.byt))] [.one (.bool (decide (1048576<(zs.length:Int))))]:=by
 refine Af func7 rfl rfl (by simp [ntmps7]) ?_
 exact byP (fc ntmps7 results7) tI
def vmN (n:Int):ByteArray:=if n=0 then ⟨#[98,97,100]⟩ else if n=1 then ⟨#[100,111,110,101]⟩ else if n=2 then ⟨#[102,117,101,108]⟩ else if n=3 then ⟨#[116,121,112,101]⟩ else if n=4 then ⟨#[102,97,117,108,116]⟩ else ⟨#[63]⟩
theorem XZ (n:Int):vmN n=if n=0 then ⟨#[98,97,100]⟩ else if n=1 then ⟨#[100,111,110,101]⟩ else if n=2 then ⟨#[102,117,101,108]⟩ else if n=3 then ⟨#[116,121,112,101]⟩ else if n=4 then ⟨#[102,97,117,108,116]⟩ else ⟨#[63]⟩:=rfl
theorem aIO:(∀ a b c d e:D,rowAt 1 [a,b,c,d,e] 0=[a])∧(∀ a b c d e:D,rowAt 1 [a,b,c,d,e] 1=[b])∧(∀ a b c d e:D,rowAt 1 [a,b,c,d,e] 2=[c])∧(∀ a b c d e:D,rowAt 1 [a,b,c,d,e] 3=[d])∧(∀ a b c d e:D,rowAt 1 [a,b,c,d,e] 4=[e]):=⟨fun _ _ _ _ _=>rfl,fun _ _ _ _ _=>rfl,fun _ _ _ _ _=>rfl,fun _ _ _ _ _=>rfl,fun _ _ _ _ _=>rfl⟩
theorem Uy (n:Int) (h : -1≤n∧n≤5):Con prog 27 [.one (.int n)] [.one (.str (vmN n))]:=by
 have hW:=BR n 0 4
 rcases (show n = -1∨n=0∨n=1∨n=2∨n=3∨n=4∨n=5 by omega) with rfl | rfl | rfl | rfl | rfl | rfl | rfl
 all_goals
  refine Af func27 rfl rfl (by simp [ntmps27]) ?_
  refine byP (fc ntmps27 results27) ?_
  refine Kc hW ?_
  exact rG (fc aIO (fc XZ (fc ntmps27 results27))) tI
theorem Uz (n:Int) (h : -1≤n∧n≤5):Con prog 28 [.one (.int n)] [.one (.str (vmN n))]:=by
 have hW:=BD n 0 4
 rcases (show n = -1∨n=0∨n=1∨n=2∨n=3∨n=4∨n=5 by omega) with rfl | rfl | rfl | rfl | rfl | rfl | rfl
 all_goals
  refine Af func28 rfl rfl (by simp [ntmps28]) ?_
  refine byP (fc ntmps28 results28) ?_
  refine Kc hW ?_
  exact rG (fc aIO (fc XZ (fc ntmps28 results28))) tI
def vmI (v:Int):Prop := -1≤v∧v≤5
def vmO (_:Int):List (List CD):=[]
def vmR (v:Int):List RD:=[.one (.o (.int v))]
theorem aI9:(∀ v,vmO v=[])∧(∀ v,vmR v=[.one (.o (.int v))]):=⟨fun _=>rfl,fun _=>rfl⟩
theorem Zf (zs:List Int) (hz:CT zs):Bz prog 26 [.b (.one (Bg zs))] vmI vmO vmR:=by
 refine AF func26 rfl rfl (by simp [ntmps26]) (fun _ _=>rfl) ?_
 refine byP (fc (dmF zs) (fc ntmps26 results26)) ?_
 refine Ku Mq rfl rfl hz.1 hz.2 fun h => ?_
 refine rG (fc (drZ zs) (dmF zs)) ?_
 refine KX (fc (drZ zs) Int.natCast_zero) (BA zs hz 7 (by decide) (by decide) 0 (Nat.zero_le _) h) ?_
 rintro ⟨v,i1,h1⟩ ⟨hv,hi1⟩
 simp only at hv hi1
 have hin:inI (v-1):=by unfold inI;omega
 refine rG (fc (drZ zs) (fc hin (fc ntmps26 results26))) ?_
 refine ⟨.inl rfl,v-1,⟨by omega,by omega⟩, ?_⟩
 refine byP (fc (drZ zs) (fc aI9 (fc ntmps26 results26))) ?_
 exact Fi
theorem YJ (t:Tm):Con prog 31 [.ag [.int t.kind,.str t.name,.str t.other,.int t.n,.int t.ty.kind,.rows 2 t.ty.args.length (Ai t.ty.args),.int t.res.kind,.rows 2 t.res.args.length (Ai t.res.args),.rows 9 t.args.length (Av t.args)]] [.one (.bool (decide (t.kind=2) || decide (t.kind=3)))]:=by
 by_cases h2:t.kind=2
 ·rw [decide_eq_true h2,Bool.true_or]
  refine Af func31 rfl rfl (by simp [ntmps31]) ?_
  exact byP (fc (eq_true h2) (fc ntmps31 results31)) tI
 ·rw [decide_eq_false h2,Bool.false_or]
  by_cases h3:t.kind=3
  ·rw [decide_eq_true h3]
   refine Af func31 rfl rfl (by simp [ntmps31]) ?_
   exact byP (fc h2 (fc (eq_true h3) (fc ntmps31 results31))) tI
  ·rw [decide_eq_false h3]
   refine Af func31 rfl rfl (by simp [ntmps31]) ?_
   exact byP (fc h2 (fc h3 (fc ntmps31 results31))) tI
set_option maxHeartbeats 16000000 in
theorem Kn (zs:List Int) (hz:∀ n ∈ zs,0≤n∧n<256):Con prog 5 [.one (Bg zs)] [.one (.bool true)]:=by
 have hb:=Wu zs
 show Con prog 5 [.one (.rows 1 zs.length (zs.map D.byt))] [.one (.bool true)]
 by_cases hbig:1048576<(zs.length:Int)
 ·rw [decide_eq_true hbig] at hb
  refine Af func5 rfl rfl (by simp [ntmps5]) ?_
  refine byP (fc ntmps5 results5) ?_
  refine Kc hb ?_
  exact rG (fc ntmps5 results5) tI
 rw [decide_eq_false hbig] at hb
 have hok:CT zs:=⟨by omega,hz⟩
 have hD1:Bz prog 8 [.b (.one (.rows 1 zs.length (zs.map D.byt)))] (dmI 200000) dmO dmR:=RL zs hok
 have hD2:Bz prog 24 [.b (.one (.rows 1 zs.length (zs.map D.byt)))] rlI rlO rlR:=VK zs hok
 have hD3:Bz prog 26 [.b (.one (.rows 1 zs.length (zs.map D.byt)))] vmI vmO vmR:=Zf zs hok
 refine Af func5 rfl rfl (by simp [ntmps5]) ?_
 refine byP (fc ntmps5 results5) ?_
 refine Kc hb ?_
 refine rQ ?_
 refine KX (fc (dmF zs) rlF) hD2 ?_
 rintro ⟨L,n⟩ ⟨hL,hn⟩
 simp only at hL hn
 have hRI:=NY L n (by omega)
 have hRS:=Vd L n (by omega)
 simp only [DO,otC] at hRI hRS
 generalize Qp L n=r at hRI hRS
 refine rG rlF ?_
 refine Kc hRI ?_
 refine rQ ?_
 refine KX (dmF zs) hD3 ?_
 rintro v hv
 have hv' : -1≤v∧v≤5:=hv
 have hNI:=Uy v hv'
 have hNS:=Uz v hv'
 generalize vmN v=nm at *
 refine rG aI9 ?_
 refine Ac (oT [0,1,2] (.cons 3 false (oT [4,5,6,8] (oF [7,9] (oT [10,11] .nil))))) (by kernel_rfl) DA (by kernel_rfl) ?_
 refine rQ ?_
 refine KD hRS ?_
 refine rQ ?_
 refine ⟨⟨by kernel_rfl,rfl⟩, ?_⟩
 refine KD hNI ?_
 refine rQ ?_
 refine KD hNS ?_
 refine rQ ?_
 refine KX (dmF zs) hD1 ?_
 rintro e he
 have he':szL (tmC e)≤200000:=he
 have hCe:=LR e (by omega)
 obtain ⟨T,hT⟩:=MS e (by omega)
 have hRT:=Wy e (by omega)
 have hlen:=Ry e
 have hR3:=NY (cmR e).1 3000 (by omega)
 have hlay:=fun h=>XQ (e:=e) h
 have hlaw:=fun t h=>aCA (e:=e) (v:=t) h
 rw [Ak] at hCe hT
 simp only [DO,otC] at hCe hR3
 generalize toB e=ty at hT
 generalize Qp (cmR e).1 3000=m at hR3 hlaw
 generalize (cmR e).2=ok at *
 generalize (cmR e).1=M at *
 refine rG (fc (dmF zs) (drZ zs)) ?_
 refine FV (hCe) rfl rfl rfl rfl (byQ tI) (byQ tI) (byQ tI) ?_
 refine rQ ?_
 refine AX 4 rfl ?_
 refine byQ ?_
 refine KR hT ?_
 refine rQ ?_
 refine KX (suF) hRT ?_
 rintro ⟨s,t,q⟩ ht
 simp only at ht
 refine rG (fc suF rnF) ?_
 refine Kc hR3 ?_
 cases ok
 ·exact rG (fc ntmps5 results5) tI
 cases ty
 ·exact rG (fc ntmps5 results5) tI
 by_cases hs:s=1
 ·by_cases hm2:m.s=2
  ·exact rG (fc (eq_true hs) (fc (eq_true hm2) (fc ntmps5 results5))) tI
  ·obtain ⟨hp,hc,_⟩:=hlay rfl
   obtain ⟨hms,hvl⟩:=ht.ok hs hp hc
   obtain ⟨h1,h2,h3⟩:=hlaw t rfl hms hvl hm2
   have hLt:=YJ t
   generalize (decide (t.kind=2) || decide (t.kind=3))=lt at hLt h2
   refine rG (fc (eq_true hs) hm2) ?_
   refine Ac (oT [0,1,2,3,4,5,6,7] (.cons 8 false (oT [9,10,11,12,13,14,15,16,17,18,19,20,21,22,23,24] .nil))) (by kernel_rfl) DA (by kernel_rfl) ?_
   cases lt
   ·have h4:m.f=true:=h2
    refine rG (fc (eq_true h1) h4) ?_
    refine KD hLt ?_
    exact rG (fc h4 (fc ntmps5 results5)) tI
   ·have h4:m.f=false:=h2
    have h5:=h3 h4
    refine rG (fc (eq_true h1) h4) ?_
    refine KD hLt ?_
    exact rG (fc h4 (fc h5 (fc ntmps5 results5))) tI
 ·exact rG (fc hs (fc ntmps5 results5)) tI
theorem KH (w:World) (v:Value) (h:BArg w v):Calls prog 5 #[v] w fun e w'=>e = .returned (.bool true)∧Below w.heap.size w w':=by
 obtain ⟨zs,hr,_,hz⟩:=h
 exact aCI (Kn zs hz) (Uu (Yj hr) (aAF _))
end Go.Proofs.YtaidalilfmjfgaaGreat
