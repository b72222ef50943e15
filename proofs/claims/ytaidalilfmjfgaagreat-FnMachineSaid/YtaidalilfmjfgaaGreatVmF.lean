import Derived.Test.YtaidalilfmjfgaaGreatVmE
namespace Go.Proofs.YtaidalilfmjfgaaGreat
open Go.RowKit
set_option linter.unusedVariables false
set_option linter.unusedSimpArgs false
inductive Gd (n:Nat):Vl→Prop
 | num (a:Int):Gd n (.num a)
 | fn (r:Bool) (p:Int) (c:List Vl) (hp:0≤p∧p≤299) (hl:c.length≤n) (hc:∀ v ∈ c,Gd n v):Gd n (.fn r p c)
theorem Gd.mono {n k:Nat} (h:n≤k) {v:Vl} (hv:Gd n v):Gd k v:=by
 induction hv with
 | num a=>exact .num a
 | fn r p c hp hl hc ih=>exact .fn r p c hp (by omega) ih
theorem Gd.c {n:Nat} {v:Vl} (h:Gd n v):v.c.length≤n∧(∀ u ∈ v.c,Gd n u)∧(v.f=true→0≤v.p∧v.p≤299):=by
 cases h with
 | num a=>exact ⟨Nat.zero_le _,fun u hu=>(by simp [Vl.c] at hu),fun e=>(by cases e)⟩
 | fn r p c hp hl hc=>exact ⟨hl,hc,fun _=>hp⟩
structure GM (n:Nat) (m:Mch):Prop where
 pc:0≤m.pc∧m.pc≤n+300
 st:m.st.length≤n
 nm:m.nm.length≤2 * n
 fr:m.fr.length≤n
 sv:∀ v ∈ m.st,Gd (2 * n) v
 nv:∀ v ∈ m.nm,Gd (2 * n) v
 fv:∀ f ∈ m.fr,(0≤f.pc∧f.pc≤n+300)∧f.st.length≤n∧f.nm.length≤2 * n∧(∀ v ∈ f.st,Gd (2 * n) v)∧∀ v ∈ f.nm,Gd (2 * n) v
theorem GM.sz {n:Nat} {m:Mch} (h:GM n m) (hn:n≤10000):SzM m:=by
 refine ⟨⟨h.pc.1,by have:=h.pc;omega⟩,by have:=h.st;omega,by have:=h.nm;omega,by have:=h.fr;omega,fun v hv => ?_,fun f hf => ?_⟩
 ·have:=(h.sv v hv).c.1;omega
 ·have:=(h.fv f hf).2.1;omega
theorem GM.up {n:Nat} {m:Mch} (h:GM n m):GM (n+1) (pcM m (m.pc+1)):=by
 have u:∀ v,Gd (2 * n) v→Gd (2 * (n+1)) v:=fun v hv=>hv.mono (by omega)
 refine ⟨by have:=h.pc;unfold pcM;simp only;omega,by have:=h.st;unfold pcM;simp only;omega,by have:=h.nm;unfold pcM;simp only;omega,by have:=h.fr;unfold pcM;simp only;omega,fun v hv=>u v (h.sv v hv),fun v hv=>u v (h.nv v hv),fun f hf => ?_⟩
 obtain ⟨h1,h2,h3,h4,h5⟩:=h.fv f hf
 exact ⟨by omega,by omega,by omega,fun v hv=>u v (h4 v hv),fun v hv=>u v (h5 v hv)⟩
theorem JM {n:Nat} {m:Mch} (h:GM (n+1) m) (hs:m.st.length≤n) {v:Vl} (hv:Gd (2 * (n+1)) v):GM (n+1) (EK m v):=by
 refine ⟨h.pc,by unfold EK;simp only [List.length_append,List.length_singleton];omega,h.nm,h.fr,fun u hu => ?_,h.nv,h.fv⟩
 unfold EK at hu
 rcases List.mem_append.1 hu with hu | hu
 ·exact h.sv u hu
 ·rw [List.mem_singleton.1 hu];exact hv
theorem aDf {n:Nat} {m:Mch} (h:GM n m) (k:Nat):GM n (CN m k) :=
 ⟨h.pc,by unfold CN;simp only [List.length_take];have:=h.st;omega,h.nm,h.fr,fun u hu=>h.sv u (List.mem_of_mem_take hu),h.nv,h.fv⟩
theorem Rs {m:Mch} {k:Nat} {v:Vl} (h:v ∈ Ee m k):v ∈ m.st:=List.mem_of_mem_drop h
theorem ID {n:Nat} {l:List Vl} (h:∀ v ∈ l,Gd n v) (k:Nat):Gd n l[k]! := by
 by_cases hk:k<l.length
 ·exact h _ (Ab hk)
 ·rw [getElem!_neg l k hk];exact .num 0
set_option maxHeartbeats 4000000 in
theorem aCT {n:Nat} {m:Mch} (h:GM n m) {x:Ins} (hx:Ec x=true) (d:Vl) (h0:(exM (pcM m (m.pc+1)) d x).1=0):GM (n+1) (exM (pcM m (m.pc+1)) d x).2.1:=by
 obtain ⟨ho,ha,h4,h38⟩:=Ia hx
 have hu:=h.up
 have hl:(pcM m (m.pc+1)).st.length≤n:=h.st
 have hln:(pcM m (m.pc+1)).nm.length≤2 * n:=h.nm
 have hlf:(pcM m (m.pc+1)).fr.length≤n:=h.fr
 have hfs:∀ f ∈ (pcM m (m.pc+1)).fr,f.st.length≤n:=fun f hf=>(h.fv f hf).2.1
 have hcx:∀ v ∈ (pcM m (m.pc+1)).st,v.c.length≤2 * n:=fun v hv=>(h.sv v hv).c.1
 generalize pcM m (m.pc+1)=m1 at *
 have hp:=aDf hu
 have hpl:∀ k,(CN m1 k).st.length≤n:=fun k=>by rw [GA];omega
 have htg:∀ k,∀ v ∈ Ee m1 k,Gd (2 * (n+1)) v:=fun k v hv=>hu.sv v (Rs hv)
 unfold exM at h0 ⊢
 split
 ·exact JM hu hl (.num _)
 rename_i n1;rw [if_neg n1] at h0
 split
 ·rename_i n2;rw [if_pos n2] at h0
  split
  ·rename_i n3;rw [if_pos n3] at h0;cases h0
  ·exact JM hu hl (ID hu.nv _)
 rename_i n2;rw [if_neg n2] at h0
 split
 ·rename_i n3;rw [if_pos n3] at h0
  simp only at h0 ⊢
  unfold opM at h0 ⊢
  split
  ·rename_i q;rw [if_pos q] at h0;cases h0
  rename_i q;rw [if_neg q] at h0
  split
  ·rename_i q2;rw [if_pos q2] at h0;cases h0
  ·exact JM (hp _) (hpl _) (.num _)
 rename_i n3;rw [if_neg n3] at h0
 split
 ·rename_i q
  exact ⟨by unfold pcM;simp only;have:=h38 (by omega);omega,hu.st,hu.nm,hu.fr,hu.sv,hu.nv,hu.fv⟩
 rename_i n4;rw [if_neg n4] at h0
 split
 ·rename_i q;rw [if_pos q] at h0
  split
  ·rename_i q1;rw [if_pos q1] at h0;cases h0
  rename_i q1;rw [if_neg q1] at h0
  split
  ·rename_i q2;rw [if_pos q2] at h0;cases h0
  split
  ·have h2:=hp 1
   exact ⟨by unfold pcM;simp only;have:=h38 (by omega);omega,h2.st,h2.nm,h2.fr,h2.sv,h2.nv,h2.fv⟩
  ·exact hp 1
 rename_i n5;rw [if_neg n5] at h0
 split
 ·rename_i q
  exact JM hu hl (.fn _ _ _ ⟨ha.1,h38 (by omega)⟩ hu.nm hu.nv)
 rename_i n6;rw [if_neg n6] at h0
 split
 ·rename_i q;rw [if_pos q] at h0
  simp only at h0 ⊢
  unfold FS at h0 ⊢
  split
  ·rename_i q1;rw [if_pos q1] at h0;cases h0
  rename_i q1;rw [if_neg q1] at h0
  split
  ·rename_i q2;rw [if_pos q2] at h0;cases h0
  rename_i q2
  have h2:=hp 2
  have ht:(Ee m1 2).length=2:=by rw [Ds];omega
  have g0:=ID (htg 2) 0
  have g1:=ID (htg 2) 1
  have c0:((Ee m1 2)[0]!).c.length≤2 * n:=hcx _ (Rs (Ab (by omega)))
  generalize (Ee m1 2)[0]! = a at *
  generalize (Ee m1 2)[1]! = b at *
  have hf:a.f=true:=by simpa using q2
  refine ⟨?_,Nat.zero_le _, ?_, ?_,fun v hv=>(by simp at hv),fun v hv => ?_,fun f hf => ?_⟩
  ·have:=g0.c.2.2 hf;simp only;omega
  ·simp only;unfold LH
   split <;> simp only [List.length_append,List.length_singleton] <;> omega
  ·simp only [List.length_append,List.length_singleton];omega
  ·simp only at hv
   unfold LH at hv
   split at hv
   ·simp only [List.mem_append,List.mem_singleton] at hv
    rcases hv with (hv | rfl) | rfl
    ·exact g0.c.2.1 v hv
    ·exact g0
    ·exact g1
   ·simp only [List.mem_append,List.mem_singleton] at hv
    rcases hv with hv | rfl
    ·exact g0.c.2.1 v hv
    ·exact g1
  ·simp only [List.mem_append,List.mem_singleton] at hf
   rcases hf with hf | rfl
   ·exact hu.fv f hf
   ·exact ⟨hu.pc,h2.st,hu.nm,h2.sv,hu.nv⟩
 rename_i n7;rw [if_neg n7] at h0
 split
 ·rename_i q;rw [if_pos q] at h0
  unfold Nk at h0 ⊢
  split
  ·rename_i q1;rw [if_pos q1] at h0;cases h0
  rename_i q1;rw [if_neg q1] at h0
  split
  ·rename_i q2;rw [if_pos q2] at h0;cases h0
  rename_i q2
  have hm:=Ab (xs:=m1.fr) (k:=m1.fr.length-1) (by omega)
  obtain ⟨f1,f2,f3,f4,f5⟩:=hu.fv _ hm
  have f6:=hfs _ hm
  have g0:=ID hu.sv 0
  refine ⟨f1,by simp only [List.length_append,List.length_singleton];omega,f3, ?_,fun v hv => ?_,f5,fun f hf=>hu.fv f (List.mem_of_mem_take hf)⟩
  ·simp only [List.length_take];omega
  ·simp only [List.mem_append,List.mem_singleton] at hv
   rcases hv with hv | rfl
   ·exact f4 v hv
   ·exact g0
 rename_i n8;rw [if_neg n8] at h0
 split
 ·rename_i q;rw [if_pos q] at h0
  split
  ·rename_i q1;rw [if_pos q1] at h0;cases h0
  have h2:=hp 1
  refine ⟨h2.pc,h2.st, ?_,h2.fr,h2.sv,fun v hv => ?_,h2.fv⟩
  ·unfold nmM;simp only [List.length_append,List.length_singleton];omega
  ·unfold nmM at hv
   simp only [List.mem_append,List.mem_singleton] at hv
   rcases hv with hv | rfl
   ·exact hu.nv v hv
   ·exact ID (htg 1) 0
 rename_i n9;rw [if_neg n9] at h0
 split
 ·rename_i q;rw [if_pos q] at h0;cases h0
 ·exact ⟨hu.pc,hu.st,by unfold nmM;simp only [List.length_take];have:=hu.nm;omega,hu.fr,hu.sv,fun v hv=>hu.nv v (List.mem_of_mem_take hv),hu.fv⟩
structure Otc where
 s:Int
 n:Int
 f:Bool
 k:Int
def otC (o:Otc):List D:=[.int o.s,.int o.n,.bool o.f,.int o.k]
def Jt (code:List Ins):Nat→Nat→Mch→Otc
 | 0,n,m=>⟨2,0,false,n⟩
 | r+1,n,m =>
  if (code.length:Int)≤m.pc then ⟨4,0,false,n⟩
  else if (exM (pcM m (m.pc+1)) (.num 0) code[m.pc.toNat]!).1=0 then Jt code r (n+1) (exM (pcM m (m.pc+1)) (.num 0) code[m.pc.toNat]!).2.1
  else if (exM (pcM m (m.pc+1)) (.num 0) code[m.pc.toNat]!).1=1 then
   (if (exM (pcM m (m.pc+1)) (.num 0) code[m.pc.toNat]!).2.2.f=true then ⟨1,0,true,n+1⟩ else ⟨1,(exM (pcM m (m.pc+1)) (.num 0) code[m.pc.toNat]!).2.2.n,false,n+1⟩)
  else ⟨(exM (pcM m (m.pc+1)) (.num 0) code[m.pc.toNat]!).1,0,false,n+1⟩
def Qp (code:List Ins) (fuel:Int):Otc:=if (Hp code && (decide (0≤fuel) && decide (fuel≤3000)))=true then Jt code fuel.toNat 0 ⟨0,[],[],[]⟩ else ⟨0,0,false,0⟩
theorem WB (m:Mch) (d:Vl) (x:Ins) (hm:SzM m) (hx:Ec x=true):Bc Tryz.prog 83 [.p (mcI m d),.b (.ag (Bk x))] [mcI (exM (pcM m (m.pc+1)) d x).2.1 (exM (pcM m (m.pc+1)) d x).2.2] [.one (.o (.int (exM (pcM m (m.pc+1)) d x).1))]:=by
 obtain ⟨ho,ha,h4,h38⟩:=Ia hx
 obtain ⟨op,a⟩:=x
 simp only at ho ha h4 h38
 rcases ho with rfl | rfl | rfl | rfl | rfl | rfl | rfl | rfl | rfl | rfl | rfl | rfl
 ·exact aAt m d a hm
 ·exact aAo m d a hm
 ·exact ZP m d a hm ⟨ha.1,h38 (by omega)⟩
 ·exact ZE m d a hm (h4 rfl)
 ·exact aAv m d a hm
 ·exact ZT m d a hm
 ·exact YI m d a hm
 ·exact ZU m d a hm
 ·exact aAU m d a hm
 ·exact WJ m d a hm
 ·exact Vy m d a hm
 ·exact Wp m d a hm
end Go.Proofs.YtaidalilfmjfgaaGreat
