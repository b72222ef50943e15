import Derived.Test.YtaidalilfmjfgaaGreatDrm
namespace Go.Proofs.YtaidalilfmjfgaaGreat
open Go.Proofs.Tryz
open Go.RowKit
set_option linter.unusedVariables false
set_option linter.unusedSimpArgs false
set_option maxRecDepth 20000
def tmZ (t:Tm):RD:=.ag [.r (.int t.kind),.r (.str t.name),.r (.str t.other),.r (.int t.n),.r (.int t.ty.kind),.r (.rows 2 t.ty.args.length (Ai t.ty.args)),.r (.int t.res.kind),.r (.rows 2 t.res.args.length (Ai t.res.args)),.r (.rows 9 t.args.length (Av t.args))]
def KZ (x:Tm × Nat × Int):List RD:=[tmZ x.1]
theorem ZS:(∀ v i h,KZ (v,i,h)=[tmZ v])∧(∀ t,tmZ t = .ag [.r (.int t.kind),.r (.str t.name),.r (.str t.other),.r (.int t.n),.r (.int t.ty.kind),.r (.rows 2 t.ty.args.length (Ai t.ty.args)),.r (.int t.res.kind),.r (.rows 2 t.res.args.length (Ai t.res.args)),.r (.rows 9 t.args.length (Av t.args))]):=⟨fun _ _ _=>rfl,fun _=>rfl⟩
theorem aJA:(∀ v i h,Yw (v,i,h)=[tyR v])∧(∀ t,tyR t = .ag [.o (.int t.kind),.o (.rows 2 t.args.length (Ai t.args))]):=⟨fun _ _ _=>rfl,fun _=>rfl⟩
set_option maxHeartbeats 8000000 in
theorem WI (zs:List Int) (hz:CT zs) (i:Nat) (hi:i≤zs.length) (h:Int):Bz prog 64 [.p (AK zs i h)] (tmI zs 1100) (tmO zs) KZ:=by
 have hB:=fun n hn hn2 i hi h=>BA zs hz n hn hn2 i hi h
 refine AL [0,1,2,3,4,5,6,7,8,9] func64 rfl rfl (by simp [ntmps64]) (fun _ _=>rfl) ?_
 refine byP (fc (drF zs) (fc ntmps64 results64)) ?_
 refine KX (drF zs) (hB 4 (by decide) (by decide) i hi h) ?_
 rintro ⟨u,i1,h1⟩ ⟨hu,hi1⟩
 simp only at hu hi1
 obtain ⟨d,hd⟩:∃ d:Nat,1+u=(d:Int):=⟨(1+u).toNat,by omega⟩
 have hin:inI (d:Int):=by unfold inI;omega
 have hA:=GT zs hz d (by omega) (by omega) i1 hi1 h1
 have h3:3 ^ d≤81:=Nat.le_trans (Nat.pow_le_pow_right (by decide) (show d≤4 by omega)) (by decide)
 refine rG (fc (drF zs) (fc hd hin)) ?_
 refine KX (drF zs) hA ?_
 rintro ⟨e,i2,h2⟩ ⟨he,hi2⟩
 simp only at he hi2
 have he2:e.name.size+e.other.size+szL (tyC e.ty)+szL (tyC e.res)+(e.args.length+szL (Av e.args))≤805:=by rw [← BM];omega
 clear h3 he
 refine rG (drF zs) ?_
 refine KX (drF zs) (hB 14 (by decide) (by decide) i2 hi2 h2) ?_
 rintro ⟨v,i3,h3⟩ ⟨hv,hi3⟩
 simp only at hv hi3
 by_cases v0:v=0
 ·refine rG (fc (drF zs) (fc (eq_true v0) (fc ntmps64 results64))) ?_
  refine KX (drF zs) (hB 15 (by decide) (by decide) i3 hi3 h3) ?_
  rintro ⟨n,i4,h4⟩ ⟨hn,hi4⟩
  simp only at hn hi4
  refine rG (fc (drF zs) (fc ntmps64 results64)) ?_
  refine ⟨.inl rfl,(Tm.mk n e.name e.other e.n e.ty e.res e.args,i4,h4),⟨?_,hi4⟩, ?_⟩
  ·show szL (tmC (Tm.mk n e.name e.other e.n e.ty e.res e.args))≤1100
   rw [BM]
   simp only [Bf,Bd,AP,Gj,CP,BQ,AJ]
   omega
  refine byP (fc (drF zs) (fc ZS (fc Bf (fc Bd (fc AP (fc Gj (fc CP (fc BQ (fc AJ (fc ntmps64 results64)))))))))) ?_
  exact Fi
 by_cases v1:v=1
 ·have hP:∀ (i:Nat),i≤zs.length→∀ h:Int,Bz prog 81 [.p (AK zs i h),.b (.one (.rows 1 5 [.int 0,.int 1,.int 10006,.int 10007,.int (-1)]))] (pkI zs [0,1,10006,10007,-1]) (Fv zs) Fu:=fun i hi h=>Df zs hz [0,1,10006,10007,-1] (by decide) (by decide) i hi h
  refine rG (fc (drF zs) (fc v0 (fc (eq_true v1) (fc ntmps64 results64)))) ?_
  refine AX 4 rfl ?_
  refine byQ ?_
  refine KX (drF zs) (hP i3 hi3 h3) ?_
  rintro ⟨n,i4,h4⟩ ⟨hn,hi4⟩
  simp only at hn hi4
  refine rG (fc (drF zs) (fc ntmps64 results64)) ?_
  refine ⟨.inl rfl,(Tm.mk e.kind e.name e.other n e.ty e.res e.args,i4,h4),⟨?_,hi4⟩, ?_⟩
  ·show szL (tmC (Tm.mk e.kind e.name e.other n e.ty e.res e.args))≤1100
   rw [BM]
   simp only [Bf,Bd,AP,Gj,CP,BQ,AJ]
   omega
  refine byP (fc (drF zs) (fc ZS (fc Bf (fc Bd (fc AP (fc Gj (fc CP (fc BQ (fc AJ (fc ntmps64 results64)))))))))) ?_
  exact Fi
 by_cases v2:v=2
 ·have hP:∀ (i:Nat),i≤zs.length→∀ h:Int,Bz prog 145 [.p (AK zs i h),.b (.one (.rows 1 5 [.str ⟨#[]⟩,.str ⟨#[120]⟩,.str ⟨#[108,101,116]⟩,.str ⟨#[97,98,99,100,101]⟩,.str ⟨#[43]⟩]))] (txI zs [⟨#[]⟩,⟨#[120]⟩,⟨#[108,101,116]⟩,⟨#[97,98,99,100,101]⟩,⟨#[43]⟩]) (txO zs) txR:=fun i hi h=>CK zs hz [⟨#[]⟩,⟨#[120]⟩,⟨#[108,101,116]⟩,⟨#[97,98,99,100,101]⟩,⟨#[43]⟩] (by decide) (by decide) i hi h
  refine rG (fc (drF zs) (fc v0 (fc v1 (fc (eq_true v2) (fc ntmps64 results64))))) ?_
  refine AX 4 rfl ?_
  refine byQ ?_
  refine KX (drF zs) (hP i3 hi3 h3) ?_
  rintro ⟨n,i4,h4⟩ ⟨hn,hi4⟩
  simp only at hn hi4
  have hn1:n.size≤5:=by
   simp only [List.mem_cons,List.not_mem_nil,or_false] at hn
   rcases hn with rfl | rfl | rfl | rfl | rfl <;> decide
  refine rG (fc (drF zs) (fc ntmps64 results64)) ?_
  refine ⟨.inl rfl,(Tm.mk e.kind n e.other e.n e.ty e.res e.args,i4,h4),⟨?_,hi4⟩, ?_⟩
  ·show szL (tmC (Tm.mk e.kind n e.other e.n e.ty e.res e.args))≤1100
   rw [BM]
   simp only [Bf,Bd,AP,Gj,CP,BQ,AJ]
   omega
  refine byP (fc (drF zs) (fc ZS (fc Bf (fc Bd (fc AP (fc Gj (fc CP (fc BQ (fc AJ (fc ntmps64 results64)))))))))) ?_
  exact Fi
 by_cases v3:v=3
 ·have hX:=Hw ⟨#[120]⟩
  have hst:Av (e.args++[.mk 1 ⟨#[120]⟩ ⟨#[]⟩ 0 (.mk 0 []) (.mk 0 []) []])=Av e.args++[.int 1,.str ⟨#[120]⟩,.str ⟨#[]⟩,.int 0,.int 0,.rows 2 0 [],.int 0,.rows 2 0 [],.rows 9 0 []]:=by rw [At,At,AM,AA];rfl
  have hln:(e.args++[Tm.mk 1 ⟨#[120]⟩ ⟨#[]⟩ 0 (.mk 0 []) (.mk 0 []) []]).length=e.args.length+1:=by simp
  refine rG (fc (drF zs) (fc v0 (fc v1 (fc v2 (fc (eq_true v3) (fc ntmps64 results64)))))) ?_
  refine Ac (oT [0,1] (oF [2,3,4] (.cons 5 true (.cons 6 false .nil)))) (by kernel_rfl) AG (by kernel_rfl) ?_
  refine rQ ?_
  refine KB hX ?_
  refine rQ ?_
  refine ⟨⟨fun o ho=>by omega,by unfold maxLen;omega,by omega⟩, ?_⟩
  refine ⟨.inl rfl,(Tm.mk e.kind e.name e.other e.n e.ty e.res (e.args++[.mk 1 ⟨#[120]⟩ ⟨#[]⟩ 0 (.mk 0 []) (.mk 0 []) []]),i3,h3),⟨?_,hi3⟩, ?_⟩
  ·show szL (tmC (Tm.mk e.kind e.name e.other e.n e.ty e.res (e.args++[.mk 1 ⟨#[120]⟩ ⟨#[]⟩ 0 (.mk 0 []) (.mk 0 []) []])))≤1100
   rw [BM]
   simp only [Bf,Bd,AP,Gj,CP,BQ,AJ]
   rw [hst,hln,Ah];show _+(_+1+(_+1))≤_;omega
  refine byP (fc (drF zs) (fc ZS (fc hst (fc hln (fc Bf (fc Bd (fc AP (fc Gj (fc CP (fc BQ (fc AJ (fc ntmps64 results64)))))))))))) ?_
  exact Fi
 by_cases v4:v=4
 ·refine rG (fc (drF zs) (fc v0 (fc v1 (fc v2 (fc v3 (fc (eq_true v4) (fc ntmps64 results64))))))) ?_
  refine KX (drF zs) (PU zs hz i3 hi3 h3) ?_
  rintro ⟨t,i4,h4⟩ ⟨ht,hi4⟩
  simp only at ht hi4
  refine rG (fc (drF zs) (fc aJA (fc ntmps64 results64))) ?_
  refine ⟨.inl rfl,(Tm.mk e.kind e.name e.other e.n t e.res e.args,i4,h4),⟨?_,hi4⟩, ?_⟩
  ·show szL (tmC (Tm.mk e.kind e.name e.other e.n t e.res e.args))≤1100
   rw [BM]
   simp only [Bf,Bd,AP,Gj,CP,BQ,AJ]
   omega
  refine byP (fc (drF zs) (fc ZS (fc Bf (fc Bd (fc AP (fc Gj (fc CP (fc BQ (fc AJ (fc ntmps64 results64)))))))))) ?_
  exact Fi
 by_cases v5:v=5
 ·have hP:∀ (i:Nat),i≤zs.length→∀ h:Int,Bz prog 145 [.p (AK zs i h),.b (.one (.rows 1 2 [.str ⟨#[120]⟩,.str ⟨#[122]⟩]))] (txI zs [⟨#[120]⟩,⟨#[122]⟩]) (txO zs) txR:=fun i hi h=>CK zs hz [⟨#[120]⟩,⟨#[122]⟩] (by decide) (by decide) i hi h
  refine rG (fc (drF zs) (fc v0 (fc v1 (fc v2 (fc v3 (fc v4 (fc (eq_true v5) (fc ntmps64 results64)))))))) ?_
  refine AX 4 rfl ?_
  refine byQ ?_
  refine KX (drF zs) (hP i3 hi3 h3) ?_
  rintro ⟨n,i4,h4⟩ ⟨hn,hi4⟩
  simp only at hn hi4
  have hn1:n.size≤5:=by
   simp only [List.mem_cons,List.not_mem_nil,or_false] at hn
   rcases hn with rfl | rfl <;> decide
  refine rG (fc (drF zs) (fc ntmps64 results64)) ?_
  refine ⟨.inl rfl,(Tm.mk e.kind e.name n e.n e.ty e.res e.args,i4,h4),⟨?_,hi4⟩, ?_⟩
  ·show szL (tmC (Tm.mk e.kind e.name n e.n e.ty e.res e.args))≤1100
   rw [BM]
   simp only [Bf,Bd,AP,Gj,CP,BQ,AJ]
   omega
  refine byP (fc (drF zs) (fc ZS (fc Bf (fc Bd (fc AP (fc Gj (fc CP (fc BQ (fc AJ (fc ntmps64 results64)))))))))) ?_
  exact Fi
 ·refine rG (fc (drF zs) (fc v0 (fc v1 (fc v2 (fc v3 (fc v4 (fc v5 (fc ntmps64 results64)))))))) ?_
  refine ⟨.inl rfl,(e,i3,h3),⟨?_,hi3⟩, ?_⟩
  ·show szL (tmC (e))≤1100
   rw [BM]
   omega
  refine byP (fc (drF zs) (fc ZS (fc Bf (fc Bd (fc AP (fc Gj (fc CP (fc BQ (fc AJ (fc ntmps64 results64)))))))))) ?_
  exact Fi
end Go.Proofs.YtaidalilfmjfgaaGreat
