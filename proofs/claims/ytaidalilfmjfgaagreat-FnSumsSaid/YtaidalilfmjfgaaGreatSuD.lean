import Derived.Test.YtaidalilfmjfgaaGreatDrm
import Derived.Test.YtaidalilfmjfgaaGreatSafe
import Derived.Test.YtaidalilfmjfgaaGreatEqT
import Derived.Test.YtaidalilfmjfgaaGreatMk
import Derived.Test.YtaidalilfmjfgaaGreatConR
import Derived.Test.YtaidalilfmjfgaaGreatLp
import Derived.Lib.AppendStr
import Derived.Laws.IdiomStrings
import Derived.Test.YtaidalilfmjfgaaGreatLst
import Derived.Test.YtaidalilfmjfgaaGreatTyC
import Derived.Test.YtaidalilfmjfgaaGreatMarkText
import Derived.Test.YtaidalilfmjfgaaGreatNm
import Derived.Lib.Join
import Derived.Lib.ItoaNum
import Derived.Lib.SmallJoins
import Derived.Lib.AtoiAllCases
import Derived.Test.YtaidalilfmjfgaaGreatTvA
import Derived.Test.YtaidalilfmjfgaaGreatTmC
import Derived.Test.YtaidalilfmjfgaaGreatSuA
import Derived.Test.YtaidalilfmjfgaaGreatSuP
namespace Go.Proofs.YtaidalilfmjfgaaGreat
open Go.RowKit
set_option linter.unusedVariables false
set_option linter.unusedSimpArgs false
set_option maxRecDepth 20000
def tmZ (t:Tm):RD:=.ag [.r (.int t.kind),.r (.str t.name),.r (.str t.other),.r (.int t.n),.r (.int t.ty.kind),.r (.rows 2 t.ty.args.length (tysC t.ty.args)),.r (.int t.res.kind),.r (.rows 2 t.res.args.length (tysC t.res.args)),.r (.rows 9 t.args.length (tmsC t.args))]
def tmZs (x:Tm × Nat × Int):List RD:=[tmZ x.1]
theorem drM2:(∀ v i h,tmZs (v,i,h)=[tmZ v])∧(∀ t,tmZ t = .ag [.r (.int t.kind),.r (.str t.name),.r (.str t.other),.r (.int t.n),.r (.int t.ty.kind),.r (.rows 2 t.ty.args.length (tysC t.ty.args)),.r (.int t.res.kind),.r (.rows 2 t.res.args.length (tysC t.res.args)),.r (.rows 9 t.args.length (tmsC t.args))]):=⟨fun _ _ _=>rfl,fun _=>rfl⟩
theorem drM3:(∀ v i h,tyRo (v,i,h)=[tyR v])∧(∀ t,tyR t = .ag [.o (.int t.kind),.o (.rows 2 t.args.length (tysC t.args))]):=⟨fun _ _ _=>rfl,fun _=>rfl⟩
set_option maxHeartbeats 8000000 in
theorem con_bent (zs:List Int) (hz:BytOk zs) (i:Nat) (hi:i≤zs.length) (h:Int):ConX Tryz.prog 64 [.p (curA zs i h)] (tmI zs 1100) (tmO zs) tmZs:=by
 have hB:=fun n hn hn2 i hi h=>con_Below zs hz n hn hn2 i hi h
 refine con_runXF [0,1,2,3,4,5,6,7,8,9] Tryz.func64 rfl rfl (by simp [Tryz.ntmps64]) (fun _ _=>rfl) ?_
 refine byP (fc (drF zs) (fc Tryz.ntmps64 Tryz.results64)) ?_
 refine sw_callXR (hB 4 (by decide) (by decide) i hi h) rfl rfl rfl (byP (drF zs) True.intro) (byP (drF zs) True.intro) (byP (drF zs) True.intro) ?_
 rintro ⟨u,i1,h1⟩ ⟨hu,hi1⟩
 simp only at hu hi1
 obtain ⟨d,hd⟩:∃ d:Nat,1+u=(d:Int):=⟨(1+u).toNat,by omega⟩
 have hin:inI (d:Int):=by unfold inI;omega
 have hA:=con_any zs hz d (by omega) (by omega) i1 hi1 h1
 have h3:3 ^ d≤81:=Nat.le_trans (Nat.pow_le_pow_right (by decide) (show d≤4 by omega)) (by decide)
 refine sw_run 200 _ _ _ (byP (fc (drF zs) (fc hd hin)) ?_)
 refine sw_callXR (hA) rfl rfl rfl (byP (drF zs) True.intro) (byP (drF zs) True.intro) (byP (drF zs) True.intro) ?_
 rintro ⟨e,i2,h2⟩ ⟨he,hi2⟩
 simp only at he hi2
 have he2:e.name.size+e.other.size+szL (tyC e.ty)+szL (tyC e.res)+(e.args.length+szL (tmsC e.args))≤805:=by rw [← szL_tm];omega
 clear h3 he
 refine sw_run 200 _ _ _ (byP (drF zs) ?_)
 refine sw_callXR (hB 14 (by decide) (by decide) i2 hi2 h2) rfl rfl rfl (byP (drF zs) True.intro) (byP (drF zs) True.intro) (byP (drF zs) True.intro) ?_
 rintro ⟨v,i3,h3⟩ ⟨hv,hi3⟩
 simp only at hv hi3
 by_cases v0:v=0
 ·refine sw_run 200 _ _ _ (byP (fc (drF zs) (fc (eq_true v0) (fc Tryz.ntmps64 Tryz.results64))) ?_)
  refine sw_callXR (hB 15 (by decide) (by decide) i3 hi3 h3) rfl rfl rfl (byP (drF zs) True.intro) (byP (drF zs) True.intro) (byP (drF zs) True.intro) ?_
  rintro ⟨n,i4,h4⟩ ⟨hn,hi4⟩
  simp only at hn hi4
  refine sw_run 200 _ _ _ (byP (fc (drF zs) (fc Tryz.ntmps64 Tryz.results64)) ?_)
  refine ⟨.inl rfl,(Tm.mk n e.name e.other e.n e.ty e.res e.args,i4,h4),⟨?_,hi4⟩, ?_⟩
  ·show szL (tmC (Tm.mk n e.name e.other e.n e.ty e.res e.args))≤1100
   rw [szL_tm]
   simp only [mk_kind,mk_name,mk_other,mk_n,mk_ty,mk_res,mk_args]
   omega
  refine byP (fc (drF zs) (fc drM2 (fc mk_kind (fc mk_name (fc mk_other (fc mk_n (fc mk_ty (fc mk_res (fc mk_args (fc Tryz.ntmps64 Tryz.results64)))))))))) ?_
  repeat' (with_reducible apply And.intro)
  all_goals first | exact True.intro | rfl
 by_cases v1:v=1
 ·have hP:∀ (i:Nat),i≤zs.length→∀ h:Int,ConX Tryz.prog 81 [.p (curA zs i h),.b (.one (.rows 1 5 [.int 0,.int 1,.int 10006,.int 10007,.int (-1)]))] (pkI zs [0,1,10006,10007,-1]) (curO zs) curR:=fun i hi h=>con_PickInt zs hz [0,1,10006,10007,-1] (by decide) (by decide) i hi h
  refine sw_run 200 _ _ _ (byP (fc (drF zs) (fc v0 (fc (eq_true v1) (fc Tryz.ntmps64 Tryz.results64)))) ?_)
  refine sw_fzE 4 rfl ?_
  refine byQ ?_
  refine sw_callXR (hP i3 hi3 h3) rfl rfl rfl (byP (drF zs) True.intro) (byP (drF zs) True.intro) (byP (drF zs) True.intro) ?_
  rintro ⟨n,i4,h4⟩ ⟨hn,hi4⟩
  simp only at hn hi4
  refine sw_run 200 _ _ _ (byP (fc (drF zs) (fc Tryz.ntmps64 Tryz.results64)) ?_)
  refine ⟨.inl rfl,(Tm.mk e.kind e.name e.other n e.ty e.res e.args,i4,h4),⟨?_,hi4⟩, ?_⟩
  ·show szL (tmC (Tm.mk e.kind e.name e.other n e.ty e.res e.args))≤1100
   rw [szL_tm]
   simp only [mk_kind,mk_name,mk_other,mk_n,mk_ty,mk_res,mk_args]
   omega
  refine byP (fc (drF zs) (fc drM2 (fc mk_kind (fc mk_name (fc mk_other (fc mk_n (fc mk_ty (fc mk_res (fc mk_args (fc Tryz.ntmps64 Tryz.results64)))))))))) ?_
  repeat' (with_reducible apply And.intro)
  all_goals first | exact True.intro | rfl
 by_cases v2:v=2
 ·have hP:∀ (i:Nat),i≤zs.length→∀ h:Int,ConX Tryz.prog 145 [.p (curA zs i h),.b (.one (.rows 1 5 [.str ⟨#[]⟩,.str ⟨#[120]⟩,.str ⟨#[108,101,116]⟩,.str ⟨#[97,98,99,100,101]⟩,.str ⟨#[43]⟩]))] (txI zs [⟨#[]⟩,⟨#[120]⟩,⟨#[108,101,116]⟩,⟨#[97,98,99,100,101]⟩,⟨#[43]⟩]) (txO zs) txR:=fun i hi h=>con_Pick zs hz [⟨#[]⟩,⟨#[120]⟩,⟨#[108,101,116]⟩,⟨#[97,98,99,100,101]⟩,⟨#[43]⟩] (by decide) (by decide) i hi h
  refine sw_run 200 _ _ _ (byP (fc (drF zs) (fc v0 (fc v1 (fc (eq_true v2) (fc Tryz.ntmps64 Tryz.results64))))) ?_)
  refine sw_fzE 4 rfl ?_
  refine byQ ?_
  refine sw_callXR (hP i3 hi3 h3) rfl rfl rfl (byP (drF zs) True.intro) (byP (drF zs) True.intro) (byP (drF zs) True.intro) ?_
  rintro ⟨n,i4,h4⟩ ⟨hn,hi4⟩
  simp only at hn hi4
  have hn1:n.size≤5:=by
   simp only [List.mem_cons,List.not_mem_nil,or_false] at hn
   rcases hn with rfl | rfl | rfl | rfl | rfl <;> decide
  refine sw_run 200 _ _ _ (byP (fc (drF zs) (fc Tryz.ntmps64 Tryz.results64)) ?_)
  refine ⟨.inl rfl,(Tm.mk e.kind n e.other e.n e.ty e.res e.args,i4,h4),⟨?_,hi4⟩, ?_⟩
  ·show szL (tmC (Tm.mk e.kind n e.other e.n e.ty e.res e.args))≤1100
   rw [szL_tm]
   simp only [mk_kind,mk_name,mk_other,mk_n,mk_ty,mk_res,mk_args]
   omega
  refine byP (fc (drF zs) (fc drM2 (fc mk_kind (fc mk_name (fc mk_other (fc mk_n (fc mk_ty (fc mk_res (fc mk_args (fc Tryz.ntmps64 Tryz.results64)))))))))) ?_
  repeat' (with_reducible apply And.intro)
  all_goals first | exact True.intro | rfl
 by_cases v3:v=3
 ·have hX:=con_varA ⟨#[120]⟩
  have hst:tmsC (e.args++[.mk 1 ⟨#[120]⟩ ⟨#[]⟩ 0 (.mk 0 []) (.mk 0 []) []])=tmsC e.args++[.int 1,.str ⟨#[120]⟩,.str ⟨#[]⟩,.int 0,.int 0,.rows 2 0 [],.int 0,.rows 2 0 [],.rows 9 0 []]:=by rw [tmsC_flat,tmsC_flat,flC_app,flC_one];rfl
  have hln:(e.args++[Tm.mk 1 ⟨#[120]⟩ ⟨#[]⟩ 0 (.mk 0 []) (.mk 0 []) []]).length=e.args.length+1:=by simp
  refine sw_run 200 _ _ _ (byP (fc (drF zs) (fc v0 (fc v1 (fc v2 (fc (eq_true v3) (fc Tryz.ntmps64 Tryz.results64)))))) ?_)
  refine sw_drawn (.cons 0 true (.cons 1 true (.cons 2 false (.cons 3 false (.cons 4 false (.cons 5 true (.cons 6 false (.nil)))))))) (by kernel_rfl) fQXF_panic (by kernel_rfl) ?_
  refine sw_run 200 _ _ _ (byQ ?_)
  refine sw_callDPB (cap:=[]) (hX) rfl rfl rfl (byQ True.intro) ?_
  refine sw_run 200 _ _ _ (byQ ?_)
  refine ⟨⟨fun o ho=>by omega,by unfold maxLen;omega,by omega⟩, ?_⟩
  refine ⟨.inl rfl,(Tm.mk e.kind e.name e.other e.n e.ty e.res (e.args++[.mk 1 ⟨#[120]⟩ ⟨#[]⟩ 0 (.mk 0 []) (.mk 0 []) []]),i3,h3),⟨?_,hi3⟩, ?_⟩
  ·show szL (tmC (Tm.mk e.kind e.name e.other e.n e.ty e.res (e.args++[.mk 1 ⟨#[120]⟩ ⟨#[]⟩ 0 (.mk 0 []) (.mk 0 []) []])))≤1100
   rw [szL_tm]
   simp only [mk_kind,mk_name,mk_other,mk_n,mk_ty,mk_res,mk_args]
   rw [hst,hln,szL_append];show _+(_+1+(_+1))≤_;omega
  refine byP (fc (drF zs) (fc drM2 (fc hst (fc hln (fc mk_kind (fc mk_name (fc mk_other (fc mk_n (fc mk_ty (fc mk_res (fc mk_args (fc Tryz.ntmps64 Tryz.results64)))))))))))) ?_
  repeat' (with_reducible apply And.intro)
  all_goals first | exact True.intro | rfl
 by_cases v4:v=4
 ·refine sw_run 200 _ _ _ (byP (fc (drF zs) (fc v0 (fc v1 (fc v2 (fc v3 (fc (eq_true v4) (fc Tryz.ntmps64 Tryz.results64))))))) ?_)
  refine sw_callXR (con_l3Bent zs hz i3 hi3 h3) rfl rfl rfl (byP (drF zs) True.intro) (byP (drF zs) True.intro) (byP (drF zs) True.intro) ?_
  rintro ⟨t,i4,h4⟩ ⟨ht,hi4⟩
  simp only at ht hi4
  refine sw_run 200 _ _ _ (byP (fc (drF zs) (fc drM3 (fc Tryz.ntmps64 Tryz.results64))) ?_)
  refine ⟨.inl rfl,(Tm.mk e.kind e.name e.other e.n t e.res e.args,i4,h4),⟨?_,hi4⟩, ?_⟩
  ·show szL (tmC (Tm.mk e.kind e.name e.other e.n t e.res e.args))≤1100
   rw [szL_tm]
   simp only [mk_kind,mk_name,mk_other,mk_n,mk_ty,mk_res,mk_args]
   omega
  refine byP (fc (drF zs) (fc drM2 (fc mk_kind (fc mk_name (fc mk_other (fc mk_n (fc mk_ty (fc mk_res (fc mk_args (fc Tryz.ntmps64 Tryz.results64)))))))))) ?_
  repeat' (with_reducible apply And.intro)
  all_goals first | exact True.intro | rfl
 by_cases v5:v=5
 ·have hP:∀ (i:Nat),i≤zs.length→∀ h:Int,ConX Tryz.prog 145 [.p (curA zs i h),.b (.one (.rows 1 2 [.str ⟨#[120]⟩,.str ⟨#[122]⟩]))] (txI zs [⟨#[120]⟩,⟨#[122]⟩]) (txO zs) txR:=fun i hi h=>con_Pick zs hz [⟨#[120]⟩,⟨#[122]⟩] (by decide) (by decide) i hi h
  refine sw_run 200 _ _ _ (byP (fc (drF zs) (fc v0 (fc v1 (fc v2 (fc v3 (fc v4 (fc (eq_true v5) (fc Tryz.ntmps64 Tryz.results64)))))))) ?_)
  refine sw_fzE 4 rfl ?_
  refine byQ ?_
  refine sw_callXR (hP i3 hi3 h3) rfl rfl rfl (byP (drF zs) True.intro) (byP (drF zs) True.intro) (byP (drF zs) True.intro) ?_
  rintro ⟨n,i4,h4⟩ ⟨hn,hi4⟩
  simp only at hn hi4
  have hn1:n.size≤5:=by
   simp only [List.mem_cons,List.not_mem_nil,or_false] at hn
   rcases hn with rfl | rfl <;> decide
  refine sw_run 200 _ _ _ (byP (fc (drF zs) (fc Tryz.ntmps64 Tryz.results64)) ?_)
  refine ⟨.inl rfl,(Tm.mk e.kind e.name n e.n e.ty e.res e.args,i4,h4),⟨?_,hi4⟩, ?_⟩
  ·show szL (tmC (Tm.mk e.kind e.name n e.n e.ty e.res e.args))≤1100
   rw [szL_tm]
   simp only [mk_kind,mk_name,mk_other,mk_n,mk_ty,mk_res,mk_args]
   omega
  refine byP (fc (drF zs) (fc drM2 (fc mk_kind (fc mk_name (fc mk_other (fc mk_n (fc mk_ty (fc mk_res (fc mk_args (fc Tryz.ntmps64 Tryz.results64)))))))))) ?_
  repeat' (with_reducible apply And.intro)
  all_goals first | exact True.intro | rfl
 ·refine sw_run 200 _ _ _ (byP (fc (drF zs) (fc v0 (fc v1 (fc v2 (fc v3 (fc v4 (fc v5 (fc Tryz.ntmps64 Tryz.results64)))))))) ?_)
  refine ⟨.inl rfl,(e,i3,h3),⟨?_,hi3⟩, ?_⟩
  ·show szL (tmC (e))≤1100
   rw [szL_tm]
   omega
  refine byP (fc (drF zs) (fc drM2 (fc mk_kind (fc mk_name (fc mk_other (fc mk_n (fc mk_ty (fc mk_res (fc mk_args (fc Tryz.ntmps64 Tryz.results64)))))))))) ?_
  repeat' (with_reducible apply And.intro)
  all_goals first | exact True.intro | rfl
def tyZ (t:Ty):RD:=.ag [.r (.int t.kind),.r (.rows 2 t.args.length (tysC t.args))]
def tyZs (x:Ty × Nat × Int):List RD:=[tyZ x.1]
theorem drZ (zs:List Int):(∀ i h,curA zs i h=[.r (.rows 1 zs.length (zs.map D.byt)),.o (.int i),.o (.int h)])∧(∀ v i h,curO zs (v,i,h)=[curA zs i h])∧(∀ v i h,curR (v,i,h)=[.one (.o (.int v))])∧(∀ v i h,bitO zs (v,i,h)=[curA zs i h])∧(∀ v i h,bitR (v,i,h)=[.one (.o (.bool v))])∧(∀ v i h,txO zs (v,i,h)=[curA zs i h])∧(∀ v i h,txR (v,i,h)=[.one (.o (.str v))])∧(∀ v i h,tyO zs (v,i,h)=[curA zs i h])∧(∀ v i h,tyZs (v,i,h)=[tyZ v])∧(∀ v i h,tmO zs (v,i,h)=[curA zs i h])∧(∀ v i h,tmZs (v,i,h)=[tmZ v])∧(∀ t,tyZ t = .ag [.r (.int t.kind),.r (.rows 2 t.args.length (tysC t.args))])∧(∀ t,tmZ t = .ag [.r (.int t.kind),.r (.str t.name),.r (.str t.other),.r (.int t.n),.r (.int t.ty.kind),.r (.rows 2 t.ty.args.length (tysC t.ty.args)),.r (.int t.res.kind),.r (.rows 2 t.res.args.length (tysC t.res.args)),.r (.rows 9 t.args.length (tmsC t.args))]) :=
 ⟨fun _ _=>rfl,fun _ _ _=>rfl,fun _ _ _=>rfl,fun _ _ _=>rfl,fun _ _ _=>rfl,fun _ _ _=>rfl,fun _ _ _=>rfl,fun _ _ _=>rfl,fun _ _ _=>rfl,fun _ _ _=>rfl,fun _ _ _=>rfl,fun _=>rfl,fun _=>rfl⟩
theorem sz_op (s:ByteArray) (xs:List Tm):szL (tmC (tOp s xs))=s.size+(xs.length+szL (tmsC xs)):=by
 rw [szL_tm];show s.size+0+0+0+_=_;simp only [tOp,Tm.args];omega
def tLet (s:ByteArray) (a b:Tm):Tm:=.mk 8 s e0 0 ty0 ty0 [a,b]
theorem tmZ_R (t:Tm):toR (.ag (tmC t))=tmZ t:=by rw [tmC_eq];rfl
theorem conTm {f:FuncId} {args:List PD} {t:Tm} (h:Con Tryz.prog f args [.ag (tmC t)]):ConP Tryz.prog f (args.map PA.b) [] [tmZ t]:=by
 have:=conR h trivial
 rw [List.map_cons,List.map_nil,tmZ_R] at this
 exact this
theorem tmL1 (e:Tm):tmsC [e]=tmC e:=by rw [tmsC,tmsC,List.append_nil]
theorem tmL2 (a b:Tm):tmsC [a,b]=tmC a++tmC b:=by rw [tmsC,tmL1]
theorem tmL3 (a b c:Tm):tmsC [a,b,c]=tmC a++(tmC b++tmC c):=by rw [tmsC,tmL2]
theorem con_op2 (s:ByteArray) (a b:Tm) (ha:szL (tmC a)≤1000000) (hb:szL (tmC b)≤1000000):ConP Tryz.prog 117 [.b (.one (.str s)),.b (.one (.rows 9 2 (tmC a++tmC b)))] [] [tmZ (tOp s [a,b])]:=by
 have:=conTm (con_l5Op s [a,b] (by rw [tmL2,szL_append];simp only [List.length_cons,List.length_nil];omega))
 rw [tmL2] at this
 exact this
theorem mkF:(∀ (k:Int) (s o:ByteArray) (n:Int) (t r:Ty) (xs:List Tm),(Tm.mk k s o n t r xs).kind=k∧(Tm.mk k s o n t r xs).name=s∧(Tm.mk k s o n t r xs).other=o∧(Tm.mk k s o n t r xs).n=n∧(Tm.mk k s o n t r xs).ty=t∧(Tm.mk k s o n t r xs).res=r∧(Tm.mk k s o n t r xs).args=xs)∧ty0.kind=0∧ty0.args=[]∧e0=⟨#[]⟩∧tysC []=[]∧tmsC []=[]∧(∀ a,tmsC [a]=tmC a)∧(∀ a b,tmsC [a,b]=tmC a++tmC b)∧(∀ a b c,tmsC [a,b,c]=tmC a++(tmC b++tmC c)):=⟨fun _ _ _ _ _ _ _=>⟨rfl,rfl,rfl,rfl,rfl,rfl,rfl⟩,rfl,rfl,rfl,rfl,rfl,tmL1,tmL2,tmL3⟩
theorem tmF:(∀ k xs,tNode k xs = .mk k e0 e0 0 ty0 ty0 xs)∧(∀ s xs,tOp s xs = .mk 4 s e0 0 ty0 ty0 xs)∧(∀ s t e,tLam s t e = .mk 6 s e0 0 t ty0 [e])∧(∀ s a b,tLet s a b = .mk 8 s e0 0 ty0 ty0 [a,b]):=⟨fun _ _=>rfl,fun _ _=>rfl,fun _ _ _=>rfl,fun _ _ _=>rfl⟩
def dmI (m:Nat) (x:Tm):Prop:=szL (tmC x)≤m
def dmO (x:Tm):List (List CD):=[]
def dmR (x:Tm):List RD:=[tmZ x]
theorem dmF (zs:List Int):(∀ x,dmO x=[])∧(∀ x,dmR x=[tmZ x])∧bytD zs = .rows 1 zs.length (zs.map D.byt):=⟨fun _=>rfl,fun _=>rfl,rfl⟩
def suI (zs:List Int) (m:Nat) (x:Sm × Nat × Int):Prop:=szL (sumC x.1)≤m∧x.2.1≤zs.length
def suO (zs:List Int) (x:Sm × Nat × Int):List (List CD):=[curA zs x.2.1 x.2.2]
def suR (x:Sm × Nat × Int):List RD:=[.ag (smK x.1)]
def smZ (s:Sm):RD:=.ag [.r (.int s.const),.r (.rows 2 s.items.length (flC imC s.items))]
def suZ (x:Sm × Nat × Int):List RD:=[smZ x.1]
theorem suF (zs:List Int):(∀ s i h,suO zs (s,i,h)=[curA zs i h])∧(∀ s i h,suR (s,i,h)=[.ag [.o (.int s.const),.a 149 (.rows 2 s.items.length (flC imC s.items))]])∧(∀ s i h,suZ (s,i,h)=[smZ s])∧(∀ s,smZ s = .ag [.r (.int s.const),.r (.rows 2 s.items.length (flC imC s.items))])∧(∀ c l,(⟨c,l⟩:Sm).const=c∧(⟨c,l⟩:Sm).items=l):=⟨fun _ _ _=>rfl,fun _ _ _=>rfl,fun _ _ _=>rfl,fun _=>rfl,fun _ _=>⟨rfl,rfl⟩⟩
theorem im_snoc (l:List Im) (s:ByteArray) (c:Int):flC imC (l++[⟨s,c⟩])=flC imC l++[.str s,.int c]:=by rw [flC_app,flC_one];rfl
theorem sz_sm (s:Sm):szL (sumC s)=s.items.length+szL (flC imC s.items):=by simp [sumC,imsD,szL,szD]
set_option maxHeartbeats 4000000 in
theorem con_suD (zs:List Int) (hz:BytOk zs) (i:Nat) (hi:i≤zs.length) (h:Int):ConX Tryz.prog 93 [.p (curA zs i h)] (suI zs 900) (suO zs) suR:=by
 have hB:=fun n hn hn2 i hi h=>con_Below zs hz n hn hn2 i hi h
 have hP5:∀ (i:Nat),i≤zs.length→∀ h:Int,ConX Tryz.prog 81 [.p (curA zs i h),.b (.one (.rows 1 5 [.int 0,.int 0,.int 1,.int 5,.int 10006]))] (pkI zs [0,0,1,5,10006]) (curO zs) curR:=fun i hi h=>con_PickInt zs hz [0,0,1,5,10006] (by decide) (by decide) i hi h
 have hP6:∀ (i:Nat),i≤zs.length→∀ h:Int,ConX Tryz.prog 81 [.p (curA zs i h),.b (.one (.rows 1 5 [.int 1,.int 1,.int 2,.int 10006,.int 5000]))] (pkI zs [1,1,2,10006,5000]) (curO zs) curR:=fun i hi h=>con_PickInt zs hz [1,1,2,10006,5000] (by decide) (by decide) i hi h
 have hN3:∀ (i:Nat),i≤zs.length→∀ h:Int,ConX Tryz.prog 145 [.p (curA zs i h),.b (.one (.rows 1 3 [.str ⟨#[120]⟩,.str ⟨#[121]⟩,.str ⟨#[110]⟩]))] (txI zs [⟨#[120]⟩,⟨#[121]⟩,⟨#[110]⟩]) (txO zs) txR:=fun i hi h=>con_Pick zs hz [⟨#[120]⟩,⟨#[121]⟩,⟨#[110]⟩] (by decide) (by decide) i hi h
 refine con_runX  Tryz.func93 rfl rfl (by simp [Tryz.ntmps93]) (fun _ _=>rfl) ?_
 refine byP (fc (drZ zs) (fc Tryz.ntmps93 Tryz.results93)) ?_
 refine sw_fzE 2 rfl ?_
 refine byQ ?_
 refine sw_callXR (hP5 i hi h) rfl rfl rfl (byP (drZ zs) True.intro) (byP (drZ zs) True.intro) (byP (drZ zs) True.intro) ?_
 rintro ⟨c0,i1,h1⟩ ⟨hc0,hi1⟩
 simp only at hi1
 refine sw_run 200 _ _ _ (byP (drZ zs) ?_)
 refine sw_callXR (hB 4 (by decide) (by decide) i1 hi1 h1) rfl rfl rfl (byP (drZ zs) True.intro) (byP (drZ zs) True.intro) (byP (drZ zs) True.intro) ?_
 rintro ⟨n,i2,h2⟩ ⟨hn,hi2⟩
 simp only at hn hi2
 obtain ⟨m,hm⟩:∃ m:Nat,n=(m:Int):=⟨n.toNat,by omega⟩
 subst hm
 refine sw_run 200 _ _ _ (byP (drZ zs) ?_)
 refine sw_ownB 3 1 149 rfl rfl ?_
 refine byQ ?_
 refine sw_loop (fun x:Nat × Sm × Nat × Int=>x.1≤m∧szL (sumC x.2.1)≤900∧x.2.2.1≤zs.length) (fun x=>⟨34,[(5,.i x.1),(4,.i m),(3,.bx 2 0),(2,.bx 1 0),(0,.bx 0 0)],[(0,[.br (.rows 1 zs.length (zs.map D.byt)),.i x.2.2.1,.i x.2.2.2]),(1,[.i 0,.nl 2]),(2,[.i x.2.1.const,.sl 3])],[(3,some ⟨.rows 2 x.2.1.items.length (flC imC x.2.1.items),some 149,true⟩)],4,[0]⟩) (fun x=>m-x.1) (0,⟨c0,[]⟩,i2,h2) (rnL [(2,3),(3,4)]) ⟨Nat.zero_le _,Nat.zero_le _,hi2⟩ ?_ ?_
 ·exact byP (fc Int.natCast_zero (fc (show flC imC []=[] from rfl) (show ([]:List Im).length=0 from rfl))) True.intro
 rintro ⟨k,s,i3,h3⟩ ⟨hk,hs,hi3⟩
 simp only at hk hs hi3 ⊢
 by_cases hlt:k<m
 ·have hj:(k:Int)<(m:Int):=by omega
  refine sw_run 200 _ _ _ (byP hj ?_)
  refine sw_fzE 4 rfl ?_
  refine byQ ?_
  refine sw_callXR (hN3 i3 hi3 h3) rfl rfl rfl (byP (drZ zs) True.intro) (byP (drZ zs) True.intro) (byP (drZ zs) True.intro) ?_
  rintro ⟨nm,i4,h4⟩ ⟨hnm,hi4⟩
  simp only at hnm hi4
  have hsz:nm.size≤1:=by
   simp only [List.mem_cons,List.not_mem_nil,or_false] at hnm
   rcases hnm with rfl | rfl | rfl <;> decide
  refine sw_run 200 _ _ _ (byP (drZ zs) ?_)
  refine sw_fzE 5 rfl ?_
  refine byQ ?_
  refine sw_callXR (hP6 i4 hi4 h4) rfl rfl rfl (byP (drZ zs) True.intro) (byP (drZ zs) True.intro) (byP (drZ zs) True.intro) ?_
  rintro ⟨cf,i5,h5⟩ ⟨hcf,hi5⟩
  simp only at hi5
  have hA:=con_AddP s ⟨0,[⟨nm,cf⟩]⟩ (by omega) (by simp only [sumC,imsD,flC,imC,List.append_nil,szL,szD,List.length_cons,List.length_nil];omega)
  have hAs:=sz_ad s ⟨0,[⟨nm,cf⟩]⟩
  generalize adB s ⟨0,[⟨nm,cf⟩]⟩=bb at *
  generalize adR s ⟨0,[⟨nm,cf⟩]⟩=r at *
  simp only [sumC,imsD,smK,flC,imC,List.append_nil,List.length_cons,List.length_nil,Nat.zero_add] at hA
  refine sw_run 200 _ _ _ (byP (drZ zs) ?_)
  refine sw_callP (hA) rfl rfl rfl rfl (byQ True.intro) (byQ True.intro) (byQ True.intro) ?_
  refine sw_run 200 _ _ _ (byQ ?_)
  refine ⟨by unfold inI;omega,(k+1,r,i5,h5),rnL [(3,8)],⟨by omega,by simp only;omega,hi5⟩,by simp only;omega, ?_⟩
  exact byP cast1 True.intro
 ·have hj:¬ (k:Int)<(m:Int):=by omega
  refine sw_run 200 _ _ _ (byP hj ?_)
  refine sw_run 200 _ _ _ ?_
  refine byP (fc (drZ zs) (fc Tryz.ntmps93 Tryz.results93)) ?_
  refine ⟨.inl rfl,(s,i3,h3),⟨hs,hi3⟩, ?_⟩
  refine byP (fc (drZ zs) (fc (suF zs) (fc Tryz.ntmps93 Tryz.results93))) ?_
  repeat' (with_reducible apply And.intro)
  all_goals first | exact True.intro | rfl
set_option maxHeartbeats 4000000 in
theorem con_suB (zs : List Int) (hz : BytOk zs) (i : Nat) (hi : i ≤ zs.length) (h : Int) : ConX Tryz.prog 92 [.p (curA zs i h)] (suI zs 1000) (suO zs) suZ := by
  have hB := fun n hn hn2 i hi h => con_Below zs hz n hn hn2 i hi h
  have hP2 : ∀ (i : Nat), i ≤ zs.length → ∀ h : Int, ConX Tryz.prog 81 [.p (curA zs i h), .b (.one (.rows 1 2 [.int (-1), .int 10007]))] (pkI zs [(-1), 10007]) (curO zs) curR := fun i hi h => con_PickInt zs hz [(-1), 10007] (by decide) (by decide) i hi h
  have hN3 : ∀ (i : Nat), i ≤ zs.length → ∀ h : Int, ConX Tryz.prog 145 [.p (curA zs i h), .b (.one (.rows 1 3 [.str ⟨#[97]⟩, .str ⟨#[122]⟩, .str ⟨#[108, 101, 116]⟩]))] (txI zs [⟨#[97]⟩, ⟨#[122]⟩, ⟨#[108, 101, 116]⟩]) (txO zs) txR := fun i hi h => con_Pick zs hz [⟨#[97]⟩, ⟨#[122]⟩, ⟨#[108, 101, 116]⟩] (by decide) (by decide) i hi h
  refine con_runXF [0, 1, 2, 3, 4, 5, 6, 7, 8, 9, 10, 11, 12] Tryz.func92 rfl rfl (by simp [Tryz.ntmps92]) (fun _ _ => rfl) ?_
  refine byP (fc (drZ zs) (fc Tryz.ntmps92 Tryz.results92)) ?_
  refine sw_callXR (con_suD zs hz i hi h) rfl rfl rfl (byP (drZ zs) True.intro) (byP (drZ zs) True.intro) (byP (drZ zs) True.intro) ?_
  rintro ⟨s, i1, h1⟩ ⟨hs, hi1⟩
  simp only at hs hi1
  refine sw_run 200 _ _ _ (byP (fc (drZ zs) (suF zs)) ?_)
  refine sw_callXR (hB 8 (by decide) (by decide) i1 hi1 h1) rfl rfl rfl (byP (drZ zs) True.intro) (byP (drZ zs) True.intro) (byP (drZ zs) True.intro) ?_
  rintro ⟨v, i2, h2⟩ ⟨hv, hi2⟩
  simp only at hv hi2
  by_cases v0 : v = 0
  · refine sw_run 200 _ _ _ (byP (fc (drZ zs) (eq_true v0)) ?_)
    refine sw_fzE 4 rfl ?_
    refine byQ ?_
    refine sw_callXR (hP2 i2 hi2 h2) rfl rfl rfl (byP (drZ zs) True.intro) (byP (drZ zs) True.intro) (byP (drZ zs) True.intro) ?_
    rintro ⟨n, i3, h3⟩ ⟨hn, hi3⟩
    simp only at hi3
    refine sw_run 200 _ _ _ (byP (fc (drZ zs) (fc Tryz.ntmps92 Tryz.results92)) ?_)
    refine ⟨.inl rfl, (⟨n, s.items⟩, i3, h3), ⟨Nat.le_trans hs (by decide), hi3⟩, ?_⟩
    refine byP (fc (drZ zs) (fc (suF zs) (fc Tryz.ntmps92 Tryz.results92))) ?_
    repeat' (with_reducible apply And.intro)
    all_goals first | exact True.intro | rfl
  by_cases v1 : v = 1
  case neg =>
    refine sw_run 200 _ _ _ (byP (fc (drZ zs) (fc v0 (fc v1 (fc Tryz.ntmps92 Tryz.results92)))) ?_)
    refine ⟨.inl rfl, (s, i2, h2), ⟨Nat.le_trans hs (by decide), hi2⟩, ?_⟩
    refine byP (fc (drZ zs) (fc (suF zs) (fc Tryz.ntmps92 Tryz.results92))) ?_
    repeat' (with_reducible apply And.intro)
    all_goals first | exact True.intro | rfl
  have hsl := sz_sm s
  refine sw_run 200 _ _ _ (byP (fc (drZ zs) (fc v0 (eq_true v1))) ?_)
  refine sw_drawn (.cons 0 true (.cons 2 true (.cons 5 true (.fork (.alt 1 (.cons 3 false (.cons 4 false (.cons 6 false (.cons 7 true (.cons 8 false (.cons 9 false (.cons 10 true (.cons 11 false (.nil))))))))) (.alt 3 (.fork (.alt 1 (.cons 4 false (.cons 6 false (.cons 7 true (.cons 8 false (.cons 9 false (.cons 10 true (.cons 11 false (.nil)))))))) (.alt 4 (.fork (.alt 1 (.cons 6 false (.cons 7 true (.cons 8 false (.cons 9 false (.cons 10 true (.cons 11 false (.nil))))))) (.alt 6 (.cons 1 true (.cons 7 true (.cons 8 false (.cons 9 false (.cons 10 true (.cons 11 false (.nil))))))) (.last)))) (.last)))) (.last))))))) (by kernel_rfl) fQXF_panic (by kernel_rfl) ?_
  refine sw_run 200 _ _ _ (byQ ?_)
  repeat' (with_reducible apply And.intro)
  all_goals
    refine sw_fzG 4 rfl ?_
    refine byQ ?_
    refine sw_callDXR (hN3 i2 hi2 h2) rfl rfl rfl (byP (drZ zs) True.intro) (byP (drZ zs) True.intro) (byP (drZ zs) True.intro) rfl ?_
    rintro ⟨nm, i3, h3⟩ ⟨hnm, hi3⟩
    simp only at hnm hi3
    have hsz : nm.size ≤ 3 := by
      simp only [List.mem_cons, List.not_mem_nil, or_false] at hnm
      rcases hnm with rfl | rfl | rfl <;> decide
    refine sw_run 200 _ _ _ (byP (drZ zs) ?_)
    repeat' (with_reducible apply And.intro)
    all_goals
      refine sw_callDXR (hB 2 (by decide) (by decide) i3 hi3 h3) rfl rfl rfl (byP (drZ zs) True.intro) (byP (drZ zs) True.intro) (byP (drZ zs) True.intro) rfl ?_
      rintro ⟨cf, i4, h4⟩ ⟨hcf, hi4⟩
      simp only at hcf hi4
      have hst := im_snoc s.items nm cf
      have hln : (s.items ++ ([⟨nm, cf⟩] : List Im)).length = s.items.length + 1 := by simp
      have hnew : szL (sumC ⟨s.const, s.items ++ [⟨nm, cf⟩]⟩) ≤ 1000 := by
        rw [sz_sm]
        simp only [hst, hln, szL_append, szL, szD]
        omega
      refine sw_run 200 _ _ _ (byP (fc (drZ zs) (fc Tryz.ntmps92 Tryz.results92)) ?_)
      repeat' (with_reducible apply And.intro)
      all_goals first
        | (intro h; exact h.elim)
        | (intro o e1 e2; omega)
        | (unfold maxLen; omega)
        | omega
        | (refine ⟨.inl rfl, (⟨s.const, s.items ++ [⟨nm, cf⟩]⟩, i4, h4), ⟨hnew, hi4⟩, ?_⟩
           exact byP (fc (drZ zs) (fc (suF zs) (fc hst (fc hln (fc Tryz.ntmps92 Tryz.results92))))) True.intro)
def s2I (x:Sm × Sm):Prop:=szL (sumC x.1)≤1000∧szL (sumC x.2)≤1000
def s2O (x:Sm × Sm):List (List CD):=[]
def s2R (x:Sm × Sm):List RD:=[smZ x.1,smZ x.2]
theorem s2F:(∀ x,s2O x=[])∧(∀ a b,s2R (a,b)=[smZ a,smZ b]):=⟨fun _=>rfl,fun _ _=>rfl⟩
theorem con_addD (zs:List Int) (hz:BytOk zs):ConX Tryz.prog 32 [.b (.one (bytD zs))] s2I s2O s2R:=by
 refine con_runXF [0,1,2,3,4,5,6,7,8,9,10,11,12] Tryz.func32 rfl rfl (by simp [Tryz.ntmps32]) (fun _ _=>rfl) ?_
 refine byP (fc (dmF zs) (fc Tryz.ntmps32 Tryz.results32)) ?_
 refine sw_callN con_New rfl rfl hz.1 hz.2 fun h => ?_
 refine sw_run 200 _ _ _ (byP (fc (drZ zs) (dmF zs)) ?_)
 refine sw_callXR (con_suB zs hz 0 (Nat.zero_le _) h) rfl rfl rfl (byP (fc (drZ zs) Int.natCast_zero) True.intro) (byP (fc (drZ zs) Int.natCast_zero) True.intro) (byP (fc (drZ zs) Int.natCast_zero) True.intro) ?_
 rintro ⟨a,i1,h1⟩ ⟨ha,hi1⟩
 simp only at ha hi1
 refine sw_run 200 _ _ _ (byP (fc (drZ zs) (suF zs)) ?_)
 refine sw_drawn (.cons 1 true (.fork (.alt 0 (.cons 2 false (.cons 3 false (.cons 4 false (.nil)))) (.alt 2 (.cons 0 true (.cons 3 false (.cons 4 false (.nil)))) (.last))))) (by kernel_rfl) fQXF_panic (by kernel_rfl) ?_
 refine sw_run 200 _ _ _ (byQ ?_)
 repeat' (with_reducible apply And.intro)
 all_goals
  refine sw_callDXR (con_suD zs hz i1 hi1 h1) rfl rfl rfl (byP (drZ zs) True.intro) (byP (drZ zs) True.intro) (byP (drZ zs) True.intro) rfl ?_
  rintro ⟨b,i2,h2⟩ ⟨hb,hi2⟩
  simp only at hb hi2
  refine sw_run 200 _ _ _ (byP (fc (drZ zs) (fc (suF zs) (fc Tryz.ntmps32 Tryz.results32))) ?_)
  repeat' (with_reducible apply And.intro)
  all_goals
   refine ⟨.inl rfl,(a,b),⟨ha,Nat.le_trans hb (by decide)⟩, ?_⟩
   exact byP (fc s2F (fc (suF zs) (fc Tryz.ntmps32 Tryz.results32))) True.intro
def snI (x:Sm × Int):Prop:=szL (sumC x.1)≤1000 ∧ -1≤x.2∧x.2≤10007
def snO (x:Sm × Int):List (List CD):=[]
def snR (x:Sm × Int):List RD:=[smZ x.1,.one (.o (.int x.2))]
theorem snF:(∀ x,snO x=[])∧(∀ a b,snR (a,b)=[smZ a,.one (.o (.int b))]):=⟨fun _=>rfl,fun _ _=>rfl⟩
theorem con_scaD (zs:List Int) (hz:BytOk zs):ConX Tryz.prog 35 [.b (.one (bytD zs))] snI snO snR:=by
 have hP:∀ (i:Nat),i≤zs.length→∀ h:Int,ConX Tryz.prog 81 [.p (curA zs i h),.b (.one (.rows 1 6 [.int 0,.int 1,.int 2,.int (-1),.int 10006,.int 10007]))] (pkI zs [0,1,2,(-1),10006,10007]) (curO zs) curR:=fun i hi h=>con_PickInt zs hz [0,1,2,(-1),10006,10007] (by decide) (by decide) i hi h
 refine con_runXF [0,1,2,3,4,5,6,7,8,9,10,11,12] Tryz.func35 rfl rfl (by simp [Tryz.ntmps35]) (fun _ _=>rfl) ?_
 refine byP (fc (dmF zs) (fc Tryz.ntmps35 Tryz.results35)) ?_
 refine sw_callN con_New rfl rfl hz.1 hz.2 fun h => ?_
 refine sw_run 200 _ _ _ (byP (fc (drZ zs) (dmF zs)) ?_)
 refine sw_callXR (con_suB zs hz 0 (Nat.zero_le _) h) rfl rfl rfl (byP (fc (drZ zs) Int.natCast_zero) True.intro) (byP (fc (drZ zs) Int.natCast_zero) True.intro) (byP (fc (drZ zs) Int.natCast_zero) True.intro) ?_
 rintro ⟨a,i1,h1⟩ ⟨ha,hi1⟩
 simp only at ha hi1
 refine sw_run 200 _ _ _ (byP (fc (drZ zs) (suF zs)) ?_)
 refine sw_drawn (.cons 1 true (.fork (.alt 0 (.cons 2 false (.cons 3 false (.cons 4 false (.cons 5 true (.nil))))) (.alt 2 (.fork (.alt 0 (.cons 3 false (.cons 4 false (.cons 5 true (.nil)))) (.alt 3 (.cons 0 true (.cons 4 false (.cons 5 true (.nil)))) (.last)))) (.last))))) (by kernel_rfl) fQXF_panic (by kernel_rfl) ?_
 refine sw_run 200 _ _ _ (byQ ?_)
 repeat' (with_reducible apply And.intro)
 all_goals
  first | refine sw_fzG 2 rfl ?_ | refine sw_fzG 3 rfl ?_ | refine sw_fzG 4 rfl ?_
  refine byQ ?_
  refine sw_callDXR (hP i1 hi1 h1) rfl rfl rfl (byP (drZ zs) True.intro) (byP (drZ zs) True.intro) (byP (drZ zs) True.intro) rfl ?_
  rintro ⟨n,i2,h2⟩ ⟨hn,hi2⟩
  have hn2 : -1≤n∧n≤10007:=by
   simp only [List.mem_cons,List.not_mem_nil,or_false] at hn
   omega
  refine sw_run 200 _ _ _ (byP (fc (drZ zs) (fc Tryz.ntmps35 Tryz.results35)) ?_)
  repeat' (with_reducible apply And.intro)
  all_goals
   refine ⟨.inl rfl,(a,n),⟨ha,hn2⟩, ?_⟩
   exact byP (fc snF (fc (suF zs) (fc Tryz.ntmps35 Tryz.results35))) True.intro
def s1I (x:Sm):Prop:=szL (sumC x)≤1000
def s1O (x:Sm):List (List CD):=[]
def s1R (x:Sm):List RD:=[smZ x]
theorem s1F:(∀ x,s1O x=[])∧(∀ a,s1R a=[smZ a]):=⟨fun _=>rfl,fun _=>rfl⟩
theorem con_sumD (zs:List Int) (hz:BytOk zs):ConX Tryz.prog 41 [.b (.one (bytD zs))] s1I s1O s1R:=by
 refine con_runXF [0,1,2,3,4,5,6,7,8,9,10,11,12] Tryz.func41 rfl rfl (by simp [Tryz.ntmps41]) (fun _ _=>rfl) ?_
 refine byP (fc (dmF zs) (fc Tryz.ntmps41 Tryz.results41)) ?_
 refine sw_callN con_New rfl rfl hz.1 hz.2 fun h => ?_
 refine sw_run 200 _ _ _ (byP (fc (drZ zs) (dmF zs)) ?_)
 refine sw_callXR (con_suB zs hz 0 (Nat.zero_le _) h) rfl rfl rfl (byP (fc (drZ zs) Int.natCast_zero) True.intro) (byP (fc (drZ zs) Int.natCast_zero) True.intro) (byP (fc (drZ zs) Int.natCast_zero) True.intro) ?_
 rintro ⟨a,i1,h1⟩ ⟨ha,hi1⟩
 simp only at ha hi1
 refine sw_run 200 _ _ _ (byP (fc (drZ zs) (fc (suF zs) (fc Tryz.ntmps41 Tryz.results41))) ?_)
 refine ⟨.inl rfl,a,ha, ?_⟩
 exact byP (fc s1F (fc (suF zs) (fc Tryz.ntmps41 Tryz.results41))) True.intro
set_option maxHeartbeats 4000000 in
theorem con_equD (zs : List Int) (hz : BytOk zs) : ConX Tryz.prog 51 [.b (.one (bytD zs))] s2I s2O s2R := by
  have hO := fun n hn hn2 i hi h => con_Once zs hz n hn hn2 i hi h
  refine con_runXF [0, 1, 2, 3, 4, 5, 6, 7, 8, 9, 10, 11, 12] Tryz.func51 rfl rfl (by simp [Tryz.ntmps51]) (fun _ _ => rfl) ?_
  refine byP (fc (dmF zs) (fc Tryz.ntmps51 Tryz.results51)) ?_
  refine sw_callN con_New rfl rfl hz.1 hz.2 fun h => ?_
  refine sw_run 200 _ _ _ (byP (fc (drZ zs) (dmF zs)) ?_)
  refine sw_callXR (con_suB zs hz 0 (Nat.zero_le _) h) rfl rfl rfl (byP (fc (drZ zs) Int.natCast_zero) True.intro) (byP (fc (drZ zs) Int.natCast_zero) True.intro) (byP (fc (drZ zs) Int.natCast_zero) True.intro) ?_
  rintro ⟨a, i1, h1⟩ ⟨ha, hi1⟩
  simp only at ha hi1
  refine sw_run 200 _ _ _ (byP (fc (drZ zs) (suF zs)) ?_)
  refine sw_callXR (hO 2 (by decide) (by decide) i1 hi1 h1) rfl rfl rfl (byP (drZ zs) True.intro) (byP (drZ zs) True.intro) (byP (drZ zs) True.intro) ?_
  rintro ⟨b, i2, h2⟩ hi2
  have hi2' : i2 ≤ zs.length := hi2
  have hsl := sz_sm a
  cases b
  case true =>
    refine sw_run 200 _ _ _ (byP (drZ zs) ?_)
    refine sw_drawn (.cons 1 true (.cons 4 true (.cons 5 true (.fork (.alt 0 (.fork (.alt 2 (.cons 3 false (.cons 6 false (.fork (.alt 7 (.cons 8 false (.cons 9 false (.nil))) (.alt 8 (.cons 7 true (.cons 9 false (.nil))) (.last)))))) (.alt 3 (.fork (.alt 2 (.cons 6 false (.fork (.alt 7 (.cons 8 false (.cons 9 false (.nil))) (.alt 8 (.cons 7 true (.cons 9 false (.nil))) (.last))))) (.alt 6 (.fork (.alt 2 (.fork (.alt 7 (.cons 8 false (.cons 9 false (.nil))) (.alt 8 (.cons 7 true (.cons 9 false (.nil))) (.last)))) (.alt 8 (.cons 2 true (.cons 7 true (.cons 9 false (.nil)))) (.last)))) (.last)))) (.last)))) (.alt 2 (.fork (.alt 0 (.cons 3 false (.cons 6 false (.fork (.alt 7 (.cons 8 false (.cons 9 false (.nil))) (.alt 8 (.cons 7 true (.cons 9 false (.nil))) (.last)))))) (.alt 3 (.fork (.alt 0 (.cons 6 false (.fork (.alt 7 (.cons 8 false (.cons 9 false (.nil))) (.alt 8 (.cons 7 true (.cons 9 false (.nil))) (.last))))) (.alt 6 (.cons 0 true (.fork (.alt 7 (.cons 8 false (.cons 9 false (.nil))) (.alt 8 (.cons 7 true (.cons 9 false (.nil))) (.last))))) (.last)))) (.last)))) (.alt 3 (.fork (.alt 0 (.fork (.alt 2 (.cons 6 false (.fork (.alt 7 (.cons 8 false (.cons 9 false (.nil))) (.alt 8 (.cons 7 true (.cons 9 false (.nil))) (.last))))) (.alt 6 (.fork (.alt 2 (.fork (.alt 7 (.cons 8 false (.cons 9 false (.nil))) (.alt 8 (.cons 7 true (.cons 9 false (.nil))) (.last)))) (.alt 8 (.cons 2 true (.cons 7 true (.cons 9 false (.nil)))) (.last)))) (.last)))) (.alt 2 (.fork (.alt 0 (.cons 6 false (.fork (.alt 7 (.cons 8 false (.cons 9 false (.nil))) (.alt 8 (.cons 7 true (.cons 9 false (.nil))) (.last))))) (.alt 6 (.cons 0 true (.fork (.alt 7 (.cons 8 false (.cons 9 false (.nil))) (.alt 8 (.cons 7 true (.cons 9 false (.nil))) (.last))))) (.last)))) (.alt 6 (.cons 0 true (.fork (.alt 2 (.fork (.alt 7 (.cons 8 false (.cons 9 false (.nil))) (.alt 8 (.cons 7 true (.cons 9 false (.nil))) (.last)))) (.alt 8 (.cons 2 true (.cons 7 true (.cons 9 false (.nil)))) (.last))))) (.last))))) (.last)))))))) (by kernel_rfl) fQXF_panic (by kernel_rfl) ?_
    refine sw_run 200 _ _ _ (byP (fc Tryz.ntmps51 Tryz.results51) ?_)
    repeat' (with_reducible apply And.intro)
    all_goals first
      | exact fun _ => prim_ims a.items
      | (intro o ho; trivial)
      | (unfold maxLen; omega)
      | omega
      | (refine ⟨.inl rfl, (a, a), ⟨ha, ha⟩, ?_⟩
         exact byP (fc s2F (fc (suF zs) (fc Tryz.ntmps51 Tryz.results51))) True.intro)
  case false =>
    refine sw_run 200 _ _ _ (byP (drZ zs) ?_)
    refine sw_drawn (.cons 1 true (.fork (.alt 0 (.cons 2 false (.cons 3 false (.cons 4 false (.nil)))) (.alt 2 (.cons 0 true (.cons 3 false (.cons 4 false (.nil)))) (.last))))) (by kernel_rfl) fQXF_panic (by kernel_rfl) ?_
    refine sw_run 200 _ _ _ (byQ ?_)
    repeat' (with_reducible apply And.intro)
    all_goals
      refine sw_callDXR (con_suB zs hz i2 hi2' h2) rfl rfl rfl (byP (drZ zs) True.intro) (byP (drZ zs) True.intro) (byP (drZ zs) True.intro) rfl ?_
      rintro ⟨b, i3, h3⟩ ⟨hb, hi3⟩
      simp only at hb hi3
      refine sw_run 200 _ _ _ (byP (fc (drZ zs) (fc (suF zs) (fc Tryz.ntmps51 Tryz.results51))) ?_)
      repeat' (with_reducible apply And.intro)
      all_goals
        refine ⟨.inl rfl, (a, b), ⟨ha, hb⟩, ?_⟩
        exact byP (fc s2F (fc (suF zs) (fc Tryz.ntmps51 Tryz.results51))) True.intro
theorem vcF:Int.toNat 2=2∧Int.toNat 0=0:=⟨rfl,rfl⟩
theorem c03:(0:Int)<3:=by decide
def seI (x:Sm × List ByteArray × List Int):Prop:=szL (sumC x.1)≤1000∧x.2.1.length≤3∧x.2.2.length≤3
def seO (x:Sm × List ByteArray × List Int):List (List CD):=[]
def seR (x:Sm × List ByteArray × List Int):List RD:=[smZ x.1,.one (.r (.rows 1 x.2.1.length (x.2.1.map D.str))),.one (.r (.rows 1 x.2.2.length (x.2.2.map D.int)))]
theorem seF:(∀ x,seO x=[])∧(∀ a b c,seR (a,b,c)=[smZ a,.one (.r (.rows 1 b.length (b.map D.str))),.one (.r (.rows 1 c.length (c.map D.int)))]):=⟨fun _=>rfl,fun _ _ _=>rfl⟩
set_option maxHeartbeats 4000000 in
theorem con_evaD (zs:List Int) (hz:BytOk zs):ConX Tryz.prog 48 [.b (.one (bytD zs))] seI seO seR:=by
 have hO:=fun n hn hn2 i hi h=>con_Once zs hz n hn hn2 i hi h
 have hB:=fun n hn hn2 i hi h=>con_Below zs hz n hn hn2 i hi h
 have hP:∀ (i:Nat),i≤zs.length→∀ h:Int,ConX Tryz.prog 81 [.p (curA zs i h),.b (.one (.rows 1 2 [.int 10006,.int 3]))] (pkI zs [10006,3]) (curO zs) curR:=fun i hi h=>con_PickInt zs hz [10006,3] (by decide) (by decide) i hi h
 refine con_runXF [0,1,2,3,4,5,6,7,8,9,10,11,12] Tryz.func48 rfl rfl (by simp [Tryz.ntmps48]) (fun _ _=>rfl) ?_
 refine byP (fc (dmF zs) (fc Tryz.ntmps48 Tryz.results48)) ?_
 refine sw_callN con_New rfl rfl hz.1 hz.2 fun h => ?_
 refine sw_run 200 _ _ _ (byP (fc (drZ zs) (dmF zs)) ?_)
 refine sw_callXR (con_suB zs hz 0 (Nat.zero_le _) h) rfl rfl rfl (byP (fc (drZ zs) Int.natCast_zero) True.intro) (byP (fc (drZ zs) Int.natCast_zero) True.intro) (byP (fc (drZ zs) Int.natCast_zero) True.intro) ?_
 rintro ⟨a,i1,h1⟩ ⟨ha,hi1⟩
 simp only at ha hi1
 refine sw_run 200 _ _ _ (byP (fc (drZ zs) (suF zs)) ?_)
 refine sw_callXR (hB 4 (by decide) (by decide) i1 hi1 h1) rfl rfl rfl (byP (drZ zs) True.intro) (byP (drZ zs) True.intro) (byP (drZ zs) True.intro) ?_
 rintro ⟨v1,i2,h2⟩ ⟨hv1,hi2⟩
 simp only at hv1 hi2
 refine sw_run 200 _ _ _ (byP (drZ zs) ?_)
 first | (refine sw_fzE 4 rfl ?_) | (refine sw_fzE 5 rfl ?_) | (refine sw_fzE 3 rfl ?_)
 refine byQ ?_
 refine sw_callXR (hP i2 hi2 h2) rfl rfl rfl (byP (drZ zs) True.intro) (byP (drZ zs) True.intro) (byP (drZ zs) True.intro) ?_
 rintro ⟨v2,i3,h3⟩ ⟨hv2,hi3⟩
 simp only at hi3
 refine sw_run 200 _ _ _ (byP (drZ zs) ?_)
 refine sw_callXR (hB 9 (by decide) (by decide) i3 hi3 h3) rfl rfl rfl (byP (drZ zs) True.intro) (byP (drZ zs) True.intro) (byP (drZ zs) True.intro) ?_
 rintro ⟨v3,i4,h4⟩ ⟨hv3,hi4⟩
 simp only at hv3 hi4
 refine sw_run 200 _ _ _ (byP (drZ zs) ?_)
 refine sw_fzE 3 rfl ?_
 refine byQ ?_
 refine sw_callXR (hO 8 (by decide) (by decide) i4 hi4 h4) rfl rfl rfl (byP (drZ zs) True.intro) (byP (drZ zs) True.intro) (byP (drZ zs) True.intro) ?_
 rintro ⟨b1,i5,h5⟩ hi5
 have hi5':i5≤zs.length:=hi5
 have hcut:cutD (.rows 1 3 [.str ⟨#[110]⟩,.str ⟨#[120]⟩,.str ⟨#[121]⟩]) 0 2 = .rows 1 2 [.str ⟨#[110]⟩,.str ⟨#[120]⟩]:=rfl
 have c02:(0:Int)≤2:=by decide
 have c23:(2:Int)≤3:=by decide
 cases b1
 case true =>
  refine sw_run 200 _ _ _ (byP (fc (drZ zs) (fc vcF (fc hcut (fc c02 c23)))) ?_)
  refine sw_callXR (hO 8 (by decide) (by decide) i5 hi5' h5) rfl rfl rfl (byP (drZ zs) True.intro) (byP (drZ zs) True.intro) (byP (drZ zs) True.intro) ?_
  rintro ⟨b2,i6,h6⟩ hi6
  cases b2
  case true =>
   refine sw_run 200 _ _ _ (byP (fc (drZ zs) (fc c03 (fc Tryz.ntmps48 Tryz.results48))) ?_)
   refine ⟨.inl rfl,(a,[⟨#[110]⟩,⟨#[120]⟩],[10007,v2,v3]),⟨ha,(show (2:Nat)≤3 by decide),Nat.le_refl 3⟩, ?_⟩
   exact byP (fc seF (fc (suF zs) (fc Tryz.ntmps48 Tryz.results48))) True.intro
  case false =>
   refine sw_run 200 _ _ _ (byP (fc (drZ zs) (fc Tryz.ntmps48 Tryz.results48)) ?_)
   refine ⟨.inl rfl,(a,[⟨#[110]⟩,⟨#[120]⟩],[v1,v2,v3]),⟨ha,(show (2:Nat)≤3 by decide),Nat.le_refl 3⟩, ?_⟩
   exact byP (fc seF (fc (suF zs) (fc Tryz.ntmps48 Tryz.results48))) True.intro
 case false =>
  refine sw_run 200 _ _ _ (byP (drZ zs) ?_)
  refine sw_callXR (hO 8 (by decide) (by decide) i5 hi5' h5) rfl rfl rfl (byP (drZ zs) True.intro) (byP (drZ zs) True.intro) (byP (drZ zs) True.intro) ?_
  rintro ⟨b2,i6,h6⟩ hi6
  cases b2
  case true =>
   refine sw_run 200 _ _ _ (byP (fc (drZ zs) (fc c03 (fc Tryz.ntmps48 Tryz.results48))) ?_)
   refine ⟨.inl rfl,(a,[⟨#[110]⟩,⟨#[120]⟩,⟨#[121]⟩],[10007,v2,v3]),⟨ha,Nat.le_refl 3,Nat.le_refl 3⟩, ?_⟩
   exact byP (fc seF (fc (suF zs) (fc Tryz.ntmps48 Tryz.results48))) True.intro
  case false =>
   refine sw_run 200 _ _ _ (byP (fc (drZ zs) (fc Tryz.ntmps48 Tryz.results48)) ?_)
   refine ⟨.inl rfl,(a,[⟨#[110]⟩,⟨#[120]⟩,⟨#[121]⟩],[v1,v2,v3]),⟨ha,Nat.le_refl 3,Nat.le_refl 3⟩, ?_⟩
   exact byP (fc seF (fc (suF zs) (fc Tryz.ntmps48 Tryz.results48))) True.intro
def ltS:Nat→Nat
 | 0=>10
 | d+1=>2 * ltS d+10
theorem tiF:(∀ n,tInt n = .mk 2 e0 e0 n ty0 ty0 [])∧(∀ s,tVar s = .mk 1 s e0 0 ty0 ty0 []):=⟨fun _=>rfl,fun _=>rfl⟩
theorem lt_le:∀ d,d≤4→ltS d≤1000
 | 0,_=>by decide
 | 1,_=>by decide
 | 2,_=>by decide
 | 3,_=>by decide
 | 4,_=>by decide
 | d+5,h=>by omega
set_option maxHeartbeats 4000000 in
theorem con_l19T (zs : List Int) (hz : BytOk zs) : ∀ (d : Nat), 1 ≤ d → d ≤ 4 → ∀ (i : Nat), i ≤ zs.length → ∀ (h : Int), ConX Tryz.prog 118 [.p (curA zs i h), .b (.one (.int d))] (tmI zs (ltS d)) (tmO zs) tmZs
  | 0, h1, _, _, _, _ => absurd h1 (by decide)
  | d + 1, _, hd, i, hi, h => by
    have hO := fun n hn hn2 i hi h => con_Once zs hz n hn hn2 i hi h
    have hB := fun n hn hn2 i hi h => con_Below zs hz n hn hn2 i hi h
    have hN3 : ∀ (i : Nat), i ≤ zs.length → ∀ h : Int, ConX Tryz.prog 145 [.p (curA zs i h), .b (.one (.rows 1 3 [.str ⟨#[120]⟩, .str ⟨#[121]⟩, .str ⟨#[110]⟩]))] (txI zs [⟨#[120]⟩, ⟨#[121]⟩, ⟨#[110]⟩]) (txO zs) txR := fun i hi h => con_Pick zs hz [⟨#[120]⟩, ⟨#[121]⟩, ⟨#[110]⟩] (by decide) (by decide) i hi h
    have hN4 : ∀ (i : Nat), i ≤ zs.length → ∀ h : Int, ConX Tryz.prog 145 [.p (curA zs i h), .b (.one (.rows 1 4 [.str ⟨#[43]⟩, .str ⟨#[45]⟩, .str ⟨#[42]⟩, .str ⟨#[43]⟩]))] (txI zs [⟨#[43]⟩, ⟨#[45]⟩, ⟨#[42]⟩, ⟨#[43]⟩]) (txO zs) txR := fun i hi h => con_Pick zs hz [⟨#[43]⟩, ⟨#[45]⟩, ⟨#[42]⟩, ⟨#[43]⟩] (by decide) (by decide) i hi h
    rcases Nat.eq_zero_or_pos d with h0 | h0
    · subst h0
      refine con_runXF [0, 1, 2, 3, 4, 5, 6, 7, 8, 9, 10, 11, 12] Tryz.func118 rfl rfl (by simp [Tryz.ntmps118]) (fun _ _ => rfl) ?_
      have hc : (((0 : Nat) + 1 : Nat) : Int) < 2 := by decide
      refine byP (fc (drZ zs) (fc hc (fc Tryz.ntmps118 Tryz.results118))) ?_
      refine sw_callXR (hO 2 (by decide) (by decide) i hi h) rfl rfl rfl (byP (drZ zs) True.intro) (byP (drZ zs) True.intro) (byP (drZ zs) True.intro) ?_
      rintro ⟨b, i1, h1⟩ hi1
      have hi1' : i1 ≤ zs.length := hi1
      cases b
      case true =>
        refine sw_run 200 _ _ _ (byP (drZ zs) ?_)
        refine sw_callXR (hB 4 (by decide) (by decide) i1 hi1' h1) rfl rfl rfl (byP (drZ zs) True.intro) (byP (drZ zs) True.intro) (byP (drZ zs) True.intro) ?_
        rintro ⟨v, i2, h2⟩ ⟨hv, hi2⟩
        simp only at hv hi2
        have hV := con_l5Int v
        rw [show tmC (tInt v) = [.int 2, .str ⟨#[]⟩, .str ⟨#[]⟩, .int v, .int 0, .rows 2 0 [], .int 0, .rows 2 0 [], .rows 9 0 []] from rfl] at hV
        refine sw_run 200 _ _ _ (byP (drZ zs) ?_)
        refine sw_call (hV) rfl (aAs_ok (byQ True.intro)) (byQ True.intro) ?_
        refine sw_run 200 _ _ _ (byP (fc Tryz.ntmps118 Tryz.results118) ?_)
        refine ⟨.inl rfl, (tInt v, i2, h2), ⟨by show szL (tmC (tInt v)) ≤ _; rw [sz_tInt]; omega, hi2⟩, ?_⟩
        exact byP (fc (drZ zs) (fc mkF (fc tiF (fc Tryz.ntmps118 Tryz.results118)))) True.intro
      case false =>
        refine sw_run 200 _ _ _ (byP (drZ zs) ?_)
        first | (refine sw_fzE 1 rfl ?_) | (refine sw_fzE 2 rfl ?_) | (refine sw_fzE 3 rfl ?_)
        refine byQ ?_
        refine sw_callXR (hN3 i1 hi1' h1) rfl rfl rfl (byP (drZ zs) True.intro) (byP (drZ zs) True.intro) (byP (drZ zs) True.intro) ?_
        rintro ⟨s, i2, h2⟩ ⟨hs, hi2⟩
        simp only at hs hi2
        have hsz : s.size ≤ 1 := by
          simp only [List.mem_cons, List.not_mem_nil, or_false] at hs
          rcases hs with rfl | rfl | rfl <;> decide
        have hV := con_l5Var s
        rw [show tmC (tVar s) = [.int 1, .str s, .str ⟨#[]⟩, .int 0, .int 0, .rows 2 0 [], .int 0, .rows 2 0 [], .rows 9 0 []] from rfl] at hV
        refine sw_run 200 _ _ _ (byP (drZ zs) ?_)
        refine sw_call (hV) rfl (aAs_ok (byQ True.intro)) (byQ True.intro) ?_
        refine sw_run 200 _ _ _ (byP (fc Tryz.ntmps118 Tryz.results118) ?_)
        refine ⟨.inl rfl, (tVar s, i2, h2), ⟨by show szL (tmC (tVar s)) ≤ _; rw [sz_tVar]; show s.size ≤ 30; omega, hi2⟩, ?_⟩
        exact byP (fc (drZ zs) (fc mkF (fc tiF (fc Tryz.ntmps118 Tryz.results118)))) True.intro
    · have ih := con_l19T zs hz d h0 (by omega)
      have hb := lt_le (d + 1) (by omega)
      have hle : ltS (d + 1) = 2 * ltS d + 10 := rfl
      have hc : ¬ (d : Int) + 1 < 2 := by omega
      have hs : (d : Int) + 1 - 1 = (d : Int) := by omega
      have hin : inI (d : Int) := by unfold inI; omega
      refine con_runXF [0, 1, 2, 3, 4, 5, 6, 7, 8, 9, 10, 11, 12] Tryz.func118 rfl rfl (by simp [Tryz.ntmps118]) (fun _ _ => rfl) ?_
      refine byP (fc (drZ zs) (fc hc (fc Tryz.ntmps118 Tryz.results118))) ?_
      first | (refine sw_fzE 1 rfl ?_) | (refine sw_fzE 2 rfl ?_) | (refine sw_fzE 3 rfl ?_)
      refine byQ ?_
      refine sw_callXR (hN4 i hi h) rfl rfl rfl (byP (drZ zs) True.intro) (byP (drZ zs) True.intro) (byP (drZ zs) True.intro) ?_
      rintro ⟨s, i1, h1⟩ ⟨hs4, hi1⟩
      simp only at hs4 hi1
      have hsz : s.size ≤ 1 := by
        simp only [List.mem_cons, List.not_mem_nil, or_false] at hs4
        rcases hs4 with rfl | rfl | rfl | rfl <;> decide
      refine sw_run 200 _ _ _ (byP (fc (drZ zs) (fc hs hin)) ?_)
      refine sw_callXR (ih i1 hi1 h1) rfl rfl rfl (byP (drZ zs) True.intro) (byP (drZ zs) True.intro) (byP (drZ zs) True.intro) ?_
      rintro ⟨x, i2, h2⟩ ⟨hx, hi2⟩
      simp only at hx hi2
      refine sw_run 200 _ _ _ (byP (fc (drZ zs) (fc hs hin)) ?_)
      refine sw_callXR (ih i2 hi2 h2) rfl rfl rfl (byP (drZ zs) True.intro) (byP (drZ zs) True.intro) (byP (drZ zs) True.intro) ?_
      rintro ⟨y, i3, h3⟩ ⟨hy, hi3⟩
      simp only at hy hi3
      refine sw_run 200 _ _ _ (byP (drZ zs) ?_)
      first | (refine sw_fzE 2 rfl ?_) | (refine sw_fzE 3 rfl ?_) | (refine sw_fzE 4 rfl ?_)
      refine byQ ?_
      refine sw_callPR (con_op2 s x y (by omega) (by omega)) rfl rfl rfl (byQ True.intro) (byQ True.intro) (byQ True.intro) ?_
      refine sw_run 200 _ _ _ (byP (fc (drZ zs) (fc tmF (fc mkF (fc Tryz.ntmps118 Tryz.results118)))) ?_)
      refine ⟨.inl rfl, (tOp s [x, y], i3, h3), ⟨?_, hi3⟩, ?_⟩
      · show szL (tmC (tOp s [x, y])) ≤ _
        rw [sz_op, tmL2, szL_append]
        simp only [List.length_cons, List.length_nil]
        omega
      exact byP (fc (drZ zs) (fc mkF (fc tmF (fc Tryz.ntmps118 Tryz.results118)))) True.intro
theorem con_linD (zs:List Int) (hz:BytOk zs):ConX Tryz.prog 46 [.b (.one (bytD zs))] (dmI 200000) dmO dmR:=by
 have hO:=fun n hn hn2 i hi h=>con_Once zs hz n hn hn2 i hi h
 have hB:=fun n hn hn2 i hi h=>con_Below zs hz n hn hn2 i hi h
 refine con_runXF [0,1,2,3,4,5,6,7,8,9,10,11,12] Tryz.func46 rfl rfl (by simp [Tryz.ntmps46]) (fun _ _=>rfl) ?_
 refine byP (fc (dmF zs) (fc Tryz.ntmps46 Tryz.results46)) ?_
 refine sw_callN con_New rfl rfl hz.1 hz.2 fun h => ?_
 refine sw_run 200 _ _ _ (byP (fc (drZ zs) (dmF zs)) ?_)
 refine sw_callXR (hO 6 (by decide) (by decide) 0 (Nat.zero_le _) h) rfl rfl rfl (byP (fc (drZ zs) Int.natCast_zero) True.intro) (byP (fc (drZ zs) Int.natCast_zero) True.intro) (byP (fc (drZ zs) Int.natCast_zero) True.intro) ?_
 rintro ⟨b,i1,h1⟩ hi1
 have hi1':i1≤zs.length:=hi1
 cases b
 case true =>
  refine sw_run 200 _ _ _ (byP (drZ zs) ?_)
  refine sw_callXR (con_bent zs hz i1 hi1' h1) rfl rfl rfl (byP (drZ zs) True.intro) (byP (drZ zs) True.intro) (byP (drZ zs) True.intro) ?_
  rintro ⟨e,i4,h4⟩ ⟨he,hi4⟩
  simp only at he hi4
  refine sw_run 200 _ _ _ (byP (fc (drZ zs) (fc Tryz.ntmps46 Tryz.results46)) ?_)
  refine ⟨.inl rfl,e,by show szL (tmC e)≤200000;omega, ?_⟩
  refine byP (fc (dmF zs) (fc (drZ zs) (fc tmF (fc mkF (fc Tryz.ntmps46 Tryz.results46))))) ?_
  repeat' (with_reducible apply And.intro)
  all_goals first | exact True.intro | rfl
 case false =>
  refine sw_run 200 _ _ _ (byP (drZ zs) ?_)
  refine sw_callXR (hB 4 (by decide) (by decide) i1 hi1' h1) rfl rfl rfl (byP (drZ zs) True.intro) (byP (drZ zs) True.intro) (byP (drZ zs) True.intro) ?_
  rintro ⟨v,i2,h2⟩ ⟨hv,hi2⟩
  simp only at hv hi2
  obtain ⟨d,hd⟩:∃ d:Nat,1+v=(d:Int):=⟨(1+v).toNat,by omega⟩
  have hb:=lt_le d (by omega)
  have hin:inI (d:Int):=by unfold inI;omega
  refine sw_run 200 _ _ _ (byP (fc (drZ zs) (fc hd hin)) ?_)
  refine sw_callXR (con_l19T zs hz d (by omega) (by omega) i2 hi2 h2) rfl rfl rfl (byP (drZ zs) True.intro) (byP (drZ zs) True.intro) (byP (drZ zs) True.intro) ?_
  rintro ⟨e,i4,h4⟩ ⟨he,hi4⟩
  simp only at he hi4
  refine sw_run 200 _ _ _ (byP (fc (drZ zs) (fc Tryz.ntmps46 Tryz.results46)) ?_)
  refine ⟨.inl rfl,e,by show szL (tmC e)≤200000;omega, ?_⟩
  refine byP (fc (dmF zs) (fc (drZ zs) (fc tmF (fc mkF (fc Tryz.ntmps46 Tryz.results46))))) ?_
  repeat' (with_reducible apply And.intro)
  all_goals first | exact True.intro | rfl
end Go.Proofs.YtaidalilfmjfgaaGreat
