import Derived.Test.YtaidalilfmjfgaaGreatCpL
namespace Go.Proofs.YtaidalilfmjfgaaGreat
open Go.RowKit
set_option linter.unusedVariables false
set_option linter.unusedSimpArgs false
def gIn (L:Nat) (x:Ins):Prop :=
 (x.op=1∧0≤x.a∧x.a≤10006)∨(x.op=2∧0≤x.a∧x.a≤1)∨(x.op=4∧1≤x.a∧x.a≤8)∨((x.op=3∨x.op=5∨x.op=6∨x.op=7∨x.op=8)∧0≤x.a∧x.a<L)∨(9≤x.op∧x.op≤12∧x.a=0)
theorem gIn.mono {L M:Nat} {x:Ins} (h:gIn L x) (hL:L≤M):gIn M x:=by unfold gIn at *; omega
theorem g_int {L:Nat} {a:Int} (h:0≤a∧a≤10006):gIn L ⟨1,a⟩:=.inl ⟨rfl,h.1,h.2⟩
theorem g_bool {L:Nat} {a:Int} (h:0≤a∧a≤1):gIn L ⟨2,a⟩:=.inr (.inl ⟨rfl,h.1,h.2⟩)
theorem g_op {L:Nat} {a:Int} (h:1≤a∧a≤8):gIn L ⟨4,a⟩:=.inr (.inr (.inl ⟨rfl,h.1,h.2⟩))
theorem g_ref {L:Nat} {o a:Int} (ho:o=3∨o=5∨o=6∨o=7∨o=8) (h:0≤a∧a<L):gIn L ⟨o,a⟩:=.inr (.inr (.inr (.inl ⟨ho,h.1,h.2⟩)))
theorem g_end {L:Nat} {o:Int} (h:9≤o∧o≤12):gIn L ⟨o,0⟩:=.inr (.inr (.inr (.inr ⟨h.1,h.2,rfl⟩)))
theorem gIn.ins {x:Ins} (h:gIn 300 x):insB x=true:=by
 unfold gIn at h
 unfold insB numB
 rcases h with ⟨h,a,b⟩ | ⟨h,a,b⟩ | ⟨h,a,b⟩ | ⟨h,a,b⟩ | ⟨h,a,b⟩
 ·rw [if_pos h];simp only [Bool.and_eq_true,decide_eq_true_eq];omega
 ·rw [if_neg (by omega),if_pos h];simp only [Bool.and_eq_true,decide_eq_true_eq];omega
 ·rw [if_neg (by omega),if_neg (by omega),if_pos h];simp only [Bool.and_eq_true,decide_eq_true_eq];omega
 ·rw [if_neg (by omega),if_neg (by omega),if_neg (by omega),if_pos (by omega)];simp only [Bool.and_eq_true,decide_eq_true_eq];omega
 ·rw [if_neg (by omega),if_neg (by omega),if_neg (by omega),if_neg (by omega)];simp only [Bool.and_eq_true,decide_eq_true_eq];omega
def mkB (o:Int):Bool:=decide (o=7) || decide (o=8)
def nM (l:List Ins):Nat:=(l.map Ins.op).countP mkB
mutual
def cF:Tm→Nat
 | .mk k _ _ _ _ _ xs=>(if k=6∨k=9 then 1 else 0)+cFs xs
def cFs:List Tm→Nat
 | []=>0
 | x :: xs=>cF x+cFs xs
end
theorem cF_eq (e:Tm):cF e=(if e.kind=6∨e.kind=9 then 1 else 0)+cFs e.args:=by obtain ⟨k,s,o,n,ty,r,xs⟩:=e;rw [cF];rfl
theorem cFs_app:∀ (a b:List Tm),cFs (a++b)=cFs a+cFs b
 | [],b=>by rw [List.nil_append,cFs];omega
 | x :: a,b=>by rw [List.cons_append,cFs,cFs,cFs_app a b];omega
theorem cFs_one {e:Tm} (h:e.args.length=1):cFs e.args=cF e.args[0]! := by
 match hx:e.args,h with
 | [x],_=>rw [cFs,cFs];rfl
theorem cFs_two {e:Tm} (h:e.args.length=2):cFs e.args=cF e.args[0]! + cF e.args[1]! := by
 match hx:e.args,h with
 | [x,y],_=>rw [cFs,cFs,cFs];rfl
theorem cFs_three {e:Tm} (h:e.args.length=3):cFs e.args=cF e.args[0]! + (cF e.args[1]! + cF e.args[2]!):=by
 match hx:e.args,h with
 | [x,y,z],_=>rw [cFs,cFs,cFs,cFs];rfl
def cQ (q:List Wt):Nat:=(q.map fun x=>cF x.body).sum
theorem cQ_app (a b:List Wt):cQ (a++b)=cQ a+cQ b:=by unfold cQ;rw [List.map_append,List.sum_append]
structure WN (s:CS) (x:Wt):Prop where
 pl:0≤x.pl∧x.pl<(s.code.length:Int)
 op:(s.code[x.pl.toNat]!).op=7∨(s.code[x.pl.toNat]!).op=8
 nm:x.nms.length≤s.code.length+1
 pt:plT x.body=true
 cv:Cov x.nms x.body
structure Gdc (c:Nat) (s s':CS):Prop where
 len:s.code.length≤s'.code.length
 ops:∀ k,k<s.code.length→(s'.code[k]!).op=(s.code[k]!).op
 good:(∀ x ∈ s.code,gIn (s.code.length+1) x)→∀ x ∈ s'.code,gIn (s'.code.length+1) x
 cnt:nM s'.code+cQ s'.q=nM s.code+cQ s.q+c
 pre:∃ t,s'.q=s.q++t
 new:∀ x ∈ s'.q,x ∈ s.q∨WN s' x
theorem WN.up {s s':CS} {x:Wt} (h:WN s x) (hl:s.code.length≤s'.code.length) (ho:∀ k,k<s.code.length→(s'.code[k]!).op=(s.code[k]!).op):WN s' x:=by
 have h1:=h.pl;have h2:=h.nm
 exact ⟨by omega,by rw [ho _ (by omega)];exact h.op,by omega,h.pt,h.cv⟩
theorem Gdc.trans {c1 c2:Nat} {s1 s2 s3:CS} (h:Gdc c1 s1 s2) (k:Gdc c2 s2 s3):Gdc (c1+c2) s1 s3:=by
 have l1:=h.len;have l2:=k.len;have n1:=h.cnt;have n2:=k.cnt
 refine ⟨by omega,fun i hi=>by rw [k.ops i (by omega),h.ops i hi],fun g=>k.good (h.good g),by omega, ?_,fun x hx => ?_⟩
 ·obtain ⟨t,ht⟩:=h.pre
  obtain ⟨u,hu⟩:=k.pre
  exact ⟨t++u,by rw [hu,ht,List.append_assoc]⟩
 ·rcases k.new x hx with hx | hx
  ·rcases h.new x hx with hx | hx
   ·exact .inl hx
   ·exact .inr (hx.up l2 k.ops)
  ·exact .inr hx
theorem Gdc.refl (s:CS):Gdc 0 s s:=⟨Nat.le_refl _,fun _ _=>rfl,fun h=>h,rfl,⟨[],(List.append_nil _).symm⟩,fun _ hx => .inl hx⟩
theorem Gdc.of {c c':Nat} {s s':CS} (h:Gdc c s s') (e:c=c'):Gdc c' s s':=e ▸ h
theorem nM_app (a b:List Ins):nM (a++b)=nM a+nM b:=by unfold nM;rw [List.map_append,List.countP_append]
theorem at_app {s:CS} {x:Ins} {k:Nat} (h:k<s.code.length):(s.code++[x])[k]! = s.code[k]! := by
 rw [getElem!_pos (s.code++[x]) k (by simp;omega),getElem!_pos s.code k h,List.getElem_append_left h]
theorem at_end (l:List Ins) (x:Ins):(l++[x])[l.length]! = x:=by
 rw [getElem!_pos (l++[x]) l.length (by simp)];simp
theorem gd_put (s:CS) (op a:Int) (hg:gIn (s.code.length+2) ⟨op,a⟩):Gdc (if mkB op=true then 1 else 0) s (putC s op a):=by
 refine ⟨by unfold putC;simp,fun k hk=>by unfold putC;rw [at_app hk],fun g x hx => ?_, ?_,⟨[],(List.append_nil _).symm⟩,fun _ hx => .inl hx⟩
 ·unfold putC at hx ⊢
  simp only [List.length_append,List.length_cons,List.length_nil,Nat.zero_add]
  rcases List.mem_append.1 hx with hx | hx
  ·exact (g x hx).mono (by omega)
  ·rw [List.mem_singleton.1 hx];exact hg
 ·unfold putC
  rw [nM_app]
  show nM s.code+nM [⟨op,a⟩]+cQ s.q=_
  have:nM [⟨op,a⟩]=if mkB op=true then 1 else 0:=by
   unfold nM;simp only [List.map_cons,List.map_nil,List.countP_cons,List.countP_nil,Nat.zero_add]
  omega
theorem gd_put0 (s:CS) (op a:Int) (hg:gIn (s.code.length+2) ⟨op,a⟩) (h:mkB op=false):Gdc 0 s (putC s op a):=by
 have:=gd_put s op a hg
 rw [h] at this
 exact this
theorem set_at {l:List Ins} {k j:Nat} (v:Ins) (hj:j<l.length):((l.set k v)[j]!)=if k=j then v else l[j]! := by
 rw [getElem!_pos (l.set k v) j (by simpa using hj),getElem!_pos l j hj,List.getElem_set]
theorem gd_set (s:CS) (k:Nat) (a:Int) (hk:k<s.code.length) (ho:(s.code[k]!).op=5∨(s.code[k]!).op=6∨(s.code[k]!).op=7∨(s.code[k]!).op=8) (ha:0≤a∧a≤(s.code.length:Int)):Gdc 0 s (setA s k a):=by
 have hm:(setA s k a).code.map Ins.op=s.code.map Ins.op:=by
  unfold setA
  simp only [List.map_set]
  rw [getElem!_pos s.code k hk,← List.getElem_map Ins.op (l:=s.code) (h:=by simpa using hk),List.set_getElem_self]
 refine ⟨by rw [setA_len];exact Nat.le_refl _,fun j hj => ?_,fun g x hx => ?_, ?_,⟨[],(List.append_nil _).symm⟩,fun _ hx => .inl hx⟩
 ·unfold setA
  simp only
  rw [set_at _ hj]
  split
  ·rename_i e;subst e;rfl
  ·rfl
 ·rw [setA_len]
  unfold setA at hx
  rcases List.mem_or_eq_of_mem_set hx with hx | hx
  ·exact g x hx
  ·rw [hx];exact g_ref (by omega) (by omega)
 ·unfold nM
  rw [hm];rfl
theorem gd_add (s:CS) (x:Wt) (h:WN s x):Gdc (cF x.body) s (addQ s x) :=
 ⟨Nat.le_refl _,fun _ _=>rfl,fun g=>g,by
  show nM s.code+cQ (s.q++[x])=_
  rw [cQ_app]
  have:cQ [x]=cF x.body:=by unfold cQ;simp
  omega,⟨[x],rfl⟩,fun y hy=>by
   rcases List.mem_append.1 hy with hy | hy
   ·exact .inl hy
   ·rw [List.mem_singleton.1 hy];exact .inr ⟨h.pl,h.op,h.nm,h.pt,h.cv⟩⟩
theorem pl_form {e:Tm} (h:plT e=true):(e.args.length:Int)=arF 0 e.kind e.name∧(e.kind=2→0≤e.n∧e.n≤10006)∧(e.kind=3→0≤e.n∧e.n≤1)∧(e.kind=4→0<opAr e.name):=by
 unfold plT at h
 rw [Bool.and_eq_true,allTm_eq,Bool.and_eq_true] at h
 obtain ⟨⟨h1,_⟩,_⟩:=h
 rw [isFm_eq] at h1
 simp only [Bool.and_eq_true,decide_eq_true_eq] at h1
 obtain ⟨ha,hn,_⟩:=h1
 unfold isNm at hn
 refine ⟨ha,fun hk => ?_,fun hk => ?_,fun hk => ?_⟩
 all_goals simp only [hk,if_true,if_false,Int.reduceEq] at hn
 ·unfold rgB at hn;simp only [Bool.and_eq_true,decide_eq_true_eq] at hn;exact hn
 ·unfold rgB at hn;simp only [Bool.and_eq_true,decide_eq_true_eq] at hn;exact hn
 ·simpa using hn
theorem op_num {s:ByteArray} (h:0<opAr s):1≤fi s opsL 0+1∧fi s opsL 0+1≤8:=by
 unfold opAr at h
 repeat' split at h
 all_goals first | (rename_i e;subst e;decide) | omega
theorem lsN_rng {x : ByteArray} {xs : List ByteArray} : ∀ k, k ≤ xs.length → lsN xs x k < k ∧ (x ∈ xs.take k → 0 ≤ lsN xs x k)
  | 0, _ => ⟨by rw [lsN]; decide, fun h => by simp at h⟩
  | k + 1, h => by
    have ih := lsN_rng (x := x) (xs := xs) k (by omega)
    rw [lsN]
    split
    · exact ⟨by omega, fun _ => by omega⟩
    · rename_i hne
      refine ⟨by omega, fun hm => ih.2 ?_⟩
      rw [take_snoc xs k (by omega), List.mem_append, List.mem_singleton] at hm
      exact hm.resolve_right fun e => hne e.symm
theorem plN_rng {xs:List ByteArray} {x:ByteArray} (h:x ∈ xs):0≤plN xs x∧plN xs x<xs.length:=by
 have h1:=lsN_rng (x:=x) (xs:=xs) xs.length (Nat.le_refl _)
 have h2:=h1.2 (by rw [List.take_length];exact h)
 unfold plN;omega
theorem cp_gd : ∀ e : Tm, ∀ names s, plT e = true → Cov names e → names.length ≤ s.code.length → Gdc (cF e) s (cpT e names s) := by
  refine Tm.ind fun e ih names s hp hc hL => ?_
  obtain ⟨hk, k5, k6, k7, k8, k9⟩ := pl_kind hp
  obtain ⟨hl, f2, f3, f4⟩ := pl_form hp
  have hpa := pl_args hp
  unfold arF at hl
  rw [cpT_eq, cpF, cF_eq]
  have z0 : e.args.length = 0 → cFs e.args = 0 := fun h => by rw [List.eq_nil_of_length_eq_zero h, cFs]
  by_cases g2 : e.kind = 2
  · rw [if_pos g2]
    have := z0 (by simp only [g2, if_true, if_false, Int.reduceEq] at hl; omega)
    exact (gd_put0 s 1 e.n (g_int (f2 g2)) rfl).of (by rw [if_neg (by omega)]; omega)
  rw [if_neg g2]
  by_cases g3 : e.kind = 3
  · rw [if_pos g3]
    have := z0 (by simp only [g3, if_true, if_false, Int.reduceEq] at hl; omega)
    exact (gd_put0 s 2 e.n (g_bool (f3 g3)) rfl).of (by rw [if_neg (by omega)]; omega)
  rw [if_neg g3]
  by_cases g1 : e.kind = 1
  · rw [if_pos g1]
    have := z0 (by simp only [g1, if_true, if_false, Int.reduceEq] at hl; omega)
    have hr := plN_rng (hc.var g1)
    exact (gd_put0 s 3 _ (g_ref (by omega) (by omega)) rfl).of (by rw [if_neg (by omega)]; omega)
  rw [if_neg g1]
  by_cases g4 : e.kind = 4
  · rw [if_pos g4]
    have key : ∀ k, k ≤ e.args.length → Gdc (cFs (e.args.take k)) s (allF ((e.args.take k).map cpT) names s) := by
      intro k
      induction k with
      | zero => intro _; exact Gdc.refl _
      | succ k ihk =>
        intro hk
        have h1 := ihk (by omega)
        have h2 := ih _ (mem_bang (show k < e.args.length by omega)) names (allF ((e.args.take k).map cpT) names s) (hpa _ (mem_bang (by omega))) (cov_same hc (.inl g4) (by omega)) (by have := h1.len; omega)
        rw [allF_step e names s (by omega)]
        refine (h1.trans h2).of ?_
        rw [take_snoc e.args k (by omega), cFs_app, cFs, cFs]; omega
    have h := key e.args.length (Nat.le_refl _)
    rw [List.take_length] at h
    have ho := op_num (f4 g4)
    exact (h.trans (gd_put0 _ 4 _ (g_op ho) rfl)).of (by rw [if_neg (by omega)]; omega)
  rw [if_neg g4]
  by_cases g5 : e.kind = 5
  · have hl5 := k5 g5
    rw [if_pos g5, ifF]
    rw [map_bang cpT (by omega), map_bang cpT (by omega), map_bang cpT (by omega), cFs_three hl5, if_neg (by omega)]
    have a1 := fun s' h => ih _ (mem_bang (show 0 < e.args.length by omega)) names s' (hpa _ (mem_bang (by omega))) (cov_same hc (.inr (.inl g5)) (by omega)) h
    have a2 := fun s' h => ih _ (mem_bang (show 1 < e.args.length by omega)) names s' (hpa _ (mem_bang (by omega))) (cov_same hc (.inr (.inl g5)) (by omega)) h
    have a3 := fun s' h => ih _ (mem_bang (show 2 < e.args.length by omega)) names s' (hpa _ (mem_bang (by omega))) (cov_same hc (.inr (.inl g5)) (by omega)) h
    have b1 := a1 s hL
    obtain ⟨A, hA⟩ : ∃ A, A = cpT e.args[0]! names s := ⟨_, rfl⟩
    rw [← hA] at b1 ⊢
    have p1 := gd_put0 A 6 0 (g_ref (by omega) (by omega)) rfl
    have o1 : ((putC A 6 0).code[A.code.length]!).op = 6 := by unfold putC; rw [at_end]
    have n1 : (putC A 6 0).code.length = A.code.length + 1 := putC_len ..
    have b2 := a2 (putC A 6 0) (by have := b1.len; omega)
    obtain ⟨B, hB⟩ : ∃ B, B = cpT e.args[1]! names (putC A 6 0) := ⟨_, rfl⟩
    rw [← hB] at b2 ⊢
    have p2 := gd_put0 B 5 0 (g_ref (by omega) (by omega)) rfl
    have o2 : ((putC B 5 0).code[B.code.length]!).op = 5 := by unfold putC; rw [at_end]
    have n2 : (putC B 5 0).code.length = B.code.length + 1 := putC_len ..
    have lb := b2.len
    have o1' : ((putC B 5 0).code[A.code.length]!).op = 6 := by rw [p2.ops _ (by omega), b2.ops _ (by omega), o1]
    have p3 := gd_set (putC B 5 0) A.code.length (putC B 5 0).code.length (by omega) (by omega) (by omega)
    have b3 := a3 (setA (putC B 5 0) A.code.length (putC B 5 0).code.length) (by rw [setA_len]; have := b1.len; omega)
    have n3 : (setA (putC B 5 0) A.code.length (putC B 5 0).code.length).code.length = B.code.length + 1 := by rw [setA_len]; exact n2
    have o2' : ((setA (putC B 5 0) A.code.length (putC B 5 0).code.length).code[B.code.length]!).op = 5 := by rw [p3.ops _ (by omega), o2]
    obtain ⟨S, hS⟩ : ∃ S, S = setA (putC B 5 0) A.code.length (putC B 5 0).code.length := ⟨_, rfl⟩
    rw [← hS] at b3 n3 o2' p3 ⊢
    obtain ⟨C, hC⟩ : ∃ C, C = cpT e.args[2]! names S := ⟨_, rfl⟩
    rw [← hC] at b3 ⊢
    have lc := b3.len
    have p4 := gd_set C B.code.length C.code.length (by omega) (by rw [b3.ops _ (by omega)]; omega) (by omega)
    exact ((((((b1.trans p1).trans b2).trans p2).trans p3).trans b3).trans p4).of (by omega)
  rw [if_neg g5]
  by_cases g6 : e.kind = 6
  · have hl6 := k6 g6
    rw [if_pos g6, cFs_one hl6, if_pos (.inl g6)]
    have p1 := gd_put s 7 0 (g_ref (by omega) (by omega))
    have n1 : (putC s 7 0).code.length = s.code.length + 1 := putC_len ..
    have o1 : ((putC s 7 0).code[s.code.length]!).op = 7 := by unfold putC; rw [at_end]
    exact (p1.trans (gd_add (putC s 7 0) ⟨s.code.length, names ++ [e.name], e.args[0]!⟩ ⟨by simp only; omega, by simp only [Int.toNat_natCast]; exact .inl o1, by simp only [List.length_append, List.length_cons, List.length_nil]; omega, hpa _ (mem_bang (by omega)), cov_lam hc g6 hl6⟩)).of (by
      rw [show mkB 7 = true from rfl, if_pos rfl])
  rw [if_neg g6]
  by_cases g9 : e.kind = 9
  · have hl9 := k9 g9
    rw [if_pos g9, cFs_one hl9, if_pos (.inr g9)]
    have p1 := gd_put s 8 0 (g_ref (by omega) (by omega))
    have n1 : (putC s 8 0).code.length = s.code.length + 1 := putC_len ..
    have o1 : ((putC s 8 0).code[s.code.length]!).op = 8 := by unfold putC; rw [at_end]
    exact (p1.trans (gd_add (putC s 8 0) ⟨s.code.length, names ++ [e.name, e.other], e.args[0]!⟩ ⟨by simp only; omega, by simp only [Int.toNat_natCast]; exact .inr o1, by simp only [List.length_append, List.length_cons, List.length_nil]; omega, hpa _ (mem_bang (by omega)), cov_rec hc g9 hl9⟩)).of (by
      rw [show mkB 8 = true from rfl, if_pos rfl])
  rw [if_neg g9]
  by_cases g7 : e.kind = 7
  · have hl7 := k7 g7
    rw [if_pos g7, map_bang cpT (by omega), map_bang cpT (by omega), cFs_two hl7, if_neg (by omega)]
    have b1 := ih _ (mem_bang (show 0 < e.args.length by omega)) names s (hpa _ (mem_bang (by omega))) (cov_same hc (.inr (.inr g7)) (by omega)) hL
    have b2 := ih _ (mem_bang (show 1 < e.args.length by omega)) names (cpT e.args[0]! names s) (hpa _ (mem_bang (by omega))) (cov_same hc (.inr (.inr g7)) (by omega)) (by have := b1.len; omega)
    exact ((b1.trans b2).trans (gd_put0 _ 9 0 (g_end (by omega)) rfl)).of (by omega)
  rw [if_neg g7]
  have g8 : e.kind = 8 := by omega
  have hl8 := k8 g8
  rw [if_pos g8, map_bang cpT (by omega), map_bang cpT (by omega), cFs_two hl8, if_neg (by omega)]
  have b1 := ih _ (mem_bang (show 0 < e.args.length by omega)) names s (hpa _ (mem_bang (by omega))) (cov_let0 hc g8 hl8) hL
  have p1 := gd_put0 (cpT e.args[0]! names s) 11 0 (g_end (by omega)) rfl
  have n1 := putC_len (cpT e.args[0]! names s) 11 0
  have b2 := ih _ (mem_bang (show 1 < e.args.length by omega)) (names ++ [e.name]) (putC (cpT e.args[0]! names s) 11 0) (hpa _ (mem_bang (by omega))) (cov_let1 hc g8 hl8) (by have := b1.len; simp only [List.length_append, List.length_cons, List.length_nil]; omega)
  exact (((b1.trans p1).trans b2).trans (gd_put0 _ 12 0 (g_end (by omega)) rfl)).of (by omega)
structure Iv (c i:Nat) (s:CS):Prop where
 good:∀ x ∈ s.code,gIn s.code.length x
 cnt:nM s.code+cQ s.q=c+cQ (s.q.take i)
 q:∀ x ∈ s.q,WN s x∧x.nms.length≤s.code.length
 lst:∃ l,s.code=l++[⟨10,0⟩]
 le:i≤s.q.length
theorem iv_put {c i n:Nat} {s s':CS} (h:Gdc n s s') (hg:∀ x ∈ s.code,gIn (s.code.length+1) x) (hc:nM s.code+cQ s.q+n=c+cQ (s.q.take i)) (hq:∀ x ∈ s.q,WN s x) (hi:i≤s.q.length):Iv c i (putC s' 10 0):=by
 have p:=gd_put0 s' 10 0 (g_end (by omega)) rfl
 have hn:(putC s' 10 0).code.length=s'.code.length+1:=putC_len ..
 have hcnt:=h.cnt
 obtain ⟨t,ht⟩:=h.pre
 refine ⟨fun x hx => ?_, ?_,fun x hx => ?_,⟨s'.code,rfl⟩, ?_⟩
 ·rw [hn]
  unfold putC at hx
  rcases List.mem_append.1 hx with hx | hx
  ·exact h.good hg x hx
  ·rw [List.mem_singleton.1 hx];exact g_end (by omega)
 ·have hp:=p.cnt
  rw [putC_q] at hp ⊢
  rw [show s'.q.take i=s.q.take i from by rw [ht,List.take_append_of_le_length hi]]
  omega
 ·rw [putC_q] at hx
  have w:WN s' x:=by
   rcases h.new x hx with hx | hx
   ·exact (hq x hx).up h.len h.ops
   ·exact hx
  have:=w.nm
  exact ⟨w.up p.len p.ops,by omega⟩
 ·rw [putC_q,ht];simp;omega
theorem iv_first {e:Tm} (hp:plT e=true) (hc:Cov [] e):Iv (cF e) 0 (putC (cpT e [] ⟨[],[]⟩) 10 0) :=
 iv_put (cp_gd e [] ⟨[],[]⟩ hp hc (Nat.le_refl _)) (fun x hx=>by cases hx) (by
  show nM []+cQ []+cF e=cF e+cQ []
  rw [show nM []=0 from rfl];omega) (fun x hx=>by cases hx) (Nat.le_refl _)
theorem iv_step {c i:Nat} {s:CS} (h:Iv c i s) (hi:i<s.q.length):Iv c (i+1) (putC (cpT (s.q[i]!).body (s.q[i]!).nms (setA s (s.q[i]!).pl.toNat s.code.length)) 10 0):=by
 obtain ⟨w,hnm⟩:=h.q _ (mem_bang hi)
 have hpl:=w.pl
 have st:=gd_set s (s.q[i]!).pl.toNat s.code.length (by omega) (by have:=w.op;omega) (by omega)
 have hn:(setA s (s.q[i]!).pl.toNat s.code.length).code.length=s.code.length:=setA_len ..
 have g:=cp_gd (s.q[i]!).body (s.q[i]!).nms (setA s (s.q[i]!).pl.toNat s.code.length) w.pt w.cv (by omega)
 have hs:=st.cnt
 have hc:=h.cnt
 refine iv_put g (st.good fun x hx=>(h.good x hx).mono (by omega)) ?_ (fun x hx=>(h.q x hx).1.up st.len st.ops) hi
 rw [setA_q] at hs ⊢
 rw [take_snoc s.q i hi,cQ_app]
 have:cQ [s.q[i]!]=cF (s.q[i]!).body:=by unfold cQ;simp
 omega
theorem iv_fin {c : Nat} : ∀ (f i : Nat) (s : CS), Iv c i s → 302 ≤ f + s.code.length → ∃ j, Iv c j (cmL f i s) ∧ (300 < (cmL f i s).code.length ∨ (cmL f i s).q.length ≤ j)
  | 0, i, s, h, hf => ⟨i, h, .inl (by rw [cmL]; omega)⟩
  | f + 1, i, s, h, hf => by
    rw [cmL]
    split
    · rename_i hc
      have h2 := iv_step h hc.1
      refine iv_fin f (i + 1) _ h2 ?_
      have g := h.q _ (mem_bang hc.1)
      obtain ⟨w, hnm⟩ := g
      have hl := (cp_gd (s.q[i]!).body (s.q[i]!).nms (setA s (s.q[i]!).pl.toNat s.code.length) w.pt w.cv (by rw [setA_len]; omega)).len
      rw [setA_len] at hl
      rw [putC_len]; omega
    · rename_i hc
      exact ⟨i, h, by
        by_cases hq : i < s.q.length
        · exact .inl (by omega)
        · exact .inr (by omega)⟩
theorem cm_law (e:Tm):(∀ x ∈ (cmR e).1,insB x=true)∧((cmR e).2=true→nM (cmR e).1=cF e∧∃ l,(cmR e).1=l++[⟨10,0⟩]):=by
 unfold cmR
 split
 case isFalse=>exact ⟨fun x hx=>(by cases hx),fun h=>absurd h (by decide)⟩
 rename_i hb
 split
 case isTrue=>exact ⟨fun x hx=>(by cases hx),fun h=>absurd h (by decide)⟩
 rename_i hl
 unfold cmB at hb
 rw [Bool.and_eq_true,decide_eq_true_eq] at hb
 have hf:freeT e=[]:=List.eq_nil_of_length_eq_zero (by omega)
 obtain ⟨j,hj,hd⟩:=iv_fin 400 0 _ (iv_first hb.1 (Cov.nil hf)) (by omega)
 change Iv (cF e) j (cmS e) at hj
 change 300<(cmS e).code.length∨(cmS e).q.length≤j at hd
 refine ⟨fun x hx=>((hj.good x hx).mono (by omega)).ins,fun _=>⟨?_,hj.lst⟩⟩
 have hc:=hj.cnt
 rw [List.take_of_length_le (by omega)] at hc
 show nM (cmS e).code=cF e
 omega
def mkP (x:Ins):Prop:=x.op=7∨x.op=8
theorem get_pre {α:Type} [Inhabited α] (l t:List α) {k:Nat} (h:k<l.length):(l++t)[k]! = l[k]! := by
 rw [getElem!_pos (l++t) k (by rw [List.length_append];omega),getElem!_pos l k h,List.getElem_append_left h]
theorem get_last {α:Type} [Inhabited α] (l:List α) (x:α) {k:Nat} (h:k=l.length):(l++[x])[k]! = x:=by
 subst h
 rw [getElem!_pos (l++[x]) l.length (by simp)];simp
structure LocQ (code:List Ins) (S:List Shp) (k:Nat):Prop where
 may:mayF code[k]! S[k]! = true
 mks:mkP code[k]! → k+1<S.length∧S[k+1]! = aftF code[k]! S[k]!
 no:¬ mkP code[k]! → ∀ y ∈ folI k code[k]! S[k]!,0≤y.p∧y.p.toNat<S.length∧S[y.p.toNat]! = y.s
structure Pend (code:List Ins) (S:List Shp) (x:Wt):Prop where
 pl:0≤x.pl∧x.pl.toNat<code.length
 mks:mkP code[x.pl.toNat]!
 sh:insF code[x.pl.toNat]! S[x.pl.toNat]! = ⟨true,0,x.nms.length,x.nms.length⟩
 pt:plT x.body=true
 cv:Cov x.nms x.body
structure Sg (H:Nat→Prop) (s s':CS) (S S':List Shp) (sh:Shp):Prop where
 pre:∃ t,S'=S++t
 len:S'.length=s'.code.length+1
 fin:S'[s'.code.length]! = sh
 old:s.code.length≤s'.code.length∧∀ k,k<s.code.length→s'.code[k]! = s.code[k]!
 loc:∀ k,s.code.length≤k→k<s'.code.length→¬ H k→LocQ s'.code S' k
 q:∃ t,s'.q=s.q++t∧(∀ x ∈ t,s.code.length≤x.pl.toNat∧Pend s'.code S' x)∧∀ k,s.code.length≤k→k<s'.code.length→mkP s'.code[k]! → ∃ x ∈ t,x.pl=k
theorem LocQ.up {c c':List Ins} {S t:List Shp} {k:Nat} (h:LocQ c S k) (hc:c'[k]! = c[k]!) (hk:k<S.length):LocQ c' (S++t) k:=by
 refine ⟨by rw [hc,get_pre _ _ hk];exact h.may,fun hm => ?_,fun hm y hy => ?_⟩
 ·rw [hc] at hm ⊢
  obtain ⟨h1,h2⟩:=h.mks hm
  rw [get_pre _ _ hk,get_pre _ _ h1]
  exact ⟨by rw [List.length_append];omega,h2⟩
 ·rw [hc] at hm hy
  rw [get_pre _ _ hk] at hy
  obtain ⟨h1,h2,h3⟩:=h.no hm y hy
  exact ⟨h1,by rw [List.length_append];omega,by rw [get_pre _ _ h2];exact h3⟩
theorem Pend.up {c c':List Ins} {S t:List Shp} {x:Wt} (h:Pend c S x) (hl:c.length≤c'.length) (hc:c'[x.pl.toNat]!.op=c[x.pl.toNat]!.op) (hk:x.pl.toNat<S.length):Pend c' (S++t) x:=by
 have h1:=h.pl
 refine ⟨⟨h1.1,by omega⟩, ?_, ?_,h.pt,h.cv⟩
 ·unfold mkP;rw [hc];exact h.mks
 ·rw [get_pre _ _ hk,← h.sh]
  unfold insF
  rw [hc]
theorem sg_refl {s:CS} {S:List Shp} (hS:S.length=s.code.length+1):Sg (fun _=>False) s s S S S[s.code.length]! :=
 ⟨⟨[],(List.append_nil _).symm⟩,hS,rfl,⟨Nat.le_refl _,fun _ _=>rfl⟩,fun k h1 h2=>absurd h2 (by omega),⟨[],(List.append_nil _).symm,fun x hx=>(by cases hx),fun k h1 h2=>absurd h2 (by omega)⟩⟩
theorem sg_trans {H1 H2 H:Nat→Prop} {s1 s2 s3:CS} {S1 S2 S3:List Shp} {a b:Shp} (h:Sg H1 s1 s2 S1 S2 a) (g:Sg H2 s2 s3 S2 S3 b) (hH:∀ k,H1 k∨H2 k→H k):Sg H s1 s3 S1 S3 b:=by
 obtain ⟨t1,e1⟩:=h.pre
 obtain ⟨t2,e2⟩:=g.pre
 obtain ⟨u1,f1,p1,m1⟩:=h.q
 obtain ⟨u2,f2,p2,m2⟩:=g.q
 have o1:=h.old;have o2:=g.old;have l2:=h.len
 refine ⟨⟨t1++t2,by rw [e2,e1,List.append_assoc]⟩,g.len,g.fin,⟨by omega,fun k hk=>by rw [o2.2 k (by omega),o1.2 k hk]⟩,fun k k1 k2 hn => ?_,⟨u1++u2,by rw [f2,f1,List.append_assoc],fun x hx => ?_,fun k k1 k2 hm => ?_⟩⟩
 ·by_cases hk:k<s2.code.length
  ·have:=h.loc k k1 hk (fun hh=>hn (hH k (.inl hh)))
   rw [e2]
   exact this.up (o2.2 k hk) (by omega)
  ·exact g.loc k (by omega) k2 (fun hh=>hn (hH k (.inr hh)))
 ·rcases List.mem_append.1 hx with hx | hx
  ·obtain ⟨q1,q2⟩:=p1 x hx
   have:=q2.pl
   rw [e2]
   exact ⟨q1,q2.up o2.1 (by rw [o2.2 _ this.2]) (by omega)⟩
  ·obtain ⟨q1,q2⟩:=p2 x hx
   exact ⟨by omega,q2⟩
 ·by_cases hk:k<s2.code.length
  ·rw [o2.2 k hk] at hm
   obtain ⟨x,hx,e⟩:=m1 k k1 hk hm
   exact ⟨x,List.mem_append_left _ hx,e⟩
  ·obtain ⟨x,hx,e⟩:=m2 k (by omega) k2 hm
   exact ⟨x,List.mem_append_right _ hx,e⟩
theorem put_get (s:CS) (op a:Int):(∀ k,k<s.code.length→(putC s op a).code[k]! = s.code[k]!)∧(putC s op a).code[s.code.length]! = ⟨op,a⟩:=by
 unfold putC
 exact ⟨fun k hk=>get_pre _ _ hk,get_last _ _ rfl⟩
theorem sg_hole {s:CS} {S:List Shp} (op a:Int) (nx:Shp) (hS:S.length=s.code.length+1) (hm:¬ (op=7∨op=8)):Sg (· = s.code.length) s (putC s op a) S (S++[nx]) nx:=by
 obtain ⟨g1,g2⟩:=put_get s op a
 refine ⟨⟨[nx],rfl⟩,by rw [List.length_append,putC_len,hS];rfl,get_last _ _ (by rw [putC_len,hS]),⟨by rw [putC_len];omega,g1⟩,fun k k1 k2 hn=>absurd (by rw [putC_len] at k2;omega) hn,⟨[],by rw [putC_q,List.append_nil],fun x hx=>(by cases hx),fun k k1 k2 hk => ?_⟩⟩
 rw [putC_len] at k2
 obtain rfl:k=s.code.length:=by omega
 rw [g2] at hk
 exact absurd hk hm
theorem sg_fill {H H':Nat→Prop} {s s':CS} {S S':List Shp} {sh:Shp} (h:Sg H s s' S S' sh) (hH:∀ k,H k→k ∈ ([]:List Nat)∨H' k∨LocQ s'.code S' k):Sg H' s s' S S' sh :=
 ⟨h.pre,h.len,h.fin,h.old,fun k k1 k2 hn=>by
  by_cases hk:H k
  ·rcases hH k hk with hk | hk | hk
   ·cases hk
   ·exact absurd hk hn
   ·exact hk
  ·exact h.loc k k1 k2 hk,h.q⟩
theorem sg_put {s:CS} {S:List Shp} (op a:Int) (hS:S.length=s.code.length+1) (hop:op=1∨op=2∨op=3∨op=4∨op=9∨op=11∨op=12) (hm:mayF ⟨op,a⟩ S[s.code.length]! = true):Sg (fun _=>False) s (putC s op a) S (S++[aftF ⟨op,a⟩ S[s.code.length]!]) (aftF ⟨op,a⟩ S[s.code.length]!):=by
 obtain ⟨g1,g2⟩:=put_get s op a
 refine sg_fill (sg_hole op a (aftF ⟨op,a⟩ S[s.code.length]!) hS (by omega)) fun k hk => ?_
 have hk':k=s.code.length:=hk
 subst hk'
 refine .inr (.inr ⟨?_,fun hh => ?_,fun _ y hy => ?_⟩)
 ·rw [g2,get_pre _ _ (by omega)];exact hm
 ·rw [g2] at hh;unfold mkP at hh;simp only at hh;omega
 ·rw [g2,get_pre _ _ (by omega)] at hy
  have hf:folI (s.code.length:Int) ⟨op,a⟩ S[s.code.length]! = [⟨(s.code.length:Int)+1,aftF ⟨op,a⟩ S[s.code.length]!⟩]:=by
   unfold folI
   simp only
   rw [if_neg (by omega),if_neg (by omega),if_neg (by omega),if_neg (by omega)]
  rw [hf,List.mem_singleton] at hy
  subst hy
  have e:((s.code.length:Int)+1).toNat=S.length:=by omega
  simp only [e]
  exact ⟨by omega,by rw [List.length_append];simp,get_last _ _ rfl⟩
theorem sg_make {s:CS} {S:List Shp} (op:Int) (nms:List ByteArray) (body:Tm) (hS:S.length=s.code.length+1) (hop:op=7∨op=8) (h0:0≤(S[s.code.length]!).h) (hp:plT body=true) (hc:Cov nms body) (hi:insF ⟨op,0⟩ S[s.code.length]! = ⟨true,0,nms.length,nms.length⟩) :
  Sg (fun _=>False) s (addQ (putC s op 0) ⟨s.code.length,nms,body⟩) S (S++[aftF ⟨op,0⟩ S[s.code.length]!]) (aftF ⟨op,0⟩ S[s.code.length]!):=by
 obtain ⟨g1,g2⟩:=put_get s op 0
 have hlen:(putC s op 0).code.length=s.code.length+1:=putC_len ..
 have hpl:(((s.code.length:Nat):Int)).toNat=s.code.length:=by omega
 have hL:LocQ (putC s op 0).code (S++[aftF ⟨op,0⟩ S[s.code.length]!]) s.code.length:=by
  refine ⟨?_,fun _ => ?_,fun hn => ?_⟩
  ·rw [g2,get_pre _ _ (by omega)]
   have hp0:popF ⟨op,0⟩=0:=by rcases hop with rfl | rfl <;> simp [popF]
   generalize S[s.code.length]! = y at h0 ⊢
   unfold mayF
   rw [hp0,if_neg (by rcases hop with rfl | rfl <;> simp <;> omega),if_neg (by rcases hop with rfl | rfl <;> simp),if_neg (by rcases hop with rfl | rfl <;> simp)]
  ·have hk:s.code.length<S.length:=by omega
   rw [g2,get_pre S _ hk]
   exact ⟨by rw [List.length_append,List.length_singleton];omega,get_last S _ hS.symm⟩
  ·rw [g2] at hn;exact absurd hop hn
 refine ⟨⟨_,rfl⟩,by rw [List.length_append,addQ_len,hlen,hS];rfl,get_last _ _ (by rw [addQ_len,hlen,hS]),⟨by rw [addQ_len,hlen];omega,g1⟩,fun k k1 k2 _ => ?_,⟨[⟨s.code.length,nms,body⟩],by rw [addQ_q,putC_q],fun x hx => ?_,fun k k1 k2 _ => ?_⟩⟩
 ·rw [addQ_len,hlen] at k2
  obtain rfl:k=s.code.length:=by omega
  exact hL
 ·rw [List.mem_singleton.1 hx]
  refine ⟨by simp only;omega,⟨by simp only;omega,by simp only;rw [addQ_len,hlen];omega⟩, ?_, ?_,hp,hc⟩
  ·simp only [hpl]
   show mkP (putC s op 0).code[s.code.length]!
   rw [g2];exact hop
  ·simp only [hpl]
   show insF (putC s op 0).code[s.code.length]! (S++_)[s.code.length]! = _
   rw [g2,get_pre _ _ (by omega)];exact hi
 ·rw [addQ_len,hlen] at k2
  exact ⟨_,List.mem_singleton.2 rfl,by simp only;omega⟩
theorem set_get (s:CS) (k:Nat) (a:Int):(∀ j,j<s.code.length→j≠k→(setA s k a).code[j]! = s.code[j]!)∧(∀ j,j<s.code.length→((setA s k a).code[j]!).op=(s.code[j]!).op)∧(k<s.code.length→(setA s k a).code[k]! = ⟨(s.code[k]!).op,a⟩):=by
 refine ⟨fun j hj hn => ?_,fun j hj => ?_,fun hk => ?_⟩
 ·unfold setA;simp only;rw [set_at _ hj,if_neg (Ne.symm hn)]
 ·unfold setA;simp only;rw [set_at _ hj]
  split
  ·rename_i e;subst e;rfl
  ·rfl
 ·unfold setA;simp only;rw [set_at _ hk,if_pos rfl]
theorem sg_set {H H':Nat→Prop} {s s':CS} {S S':List Shp} {sh:Shp} (h:Sg H s s' S S' sh) (k:Nat) (a:Int) (k1:s.code.length≤k) (k2:k<s'.code.length) (hL:LocQ (setA s' k a).code S' k∨H' k) (hm:¬ mkP s'.code[k]!) (hH:∀ j,H j→j=k∨H' j):Sg H' s (setA s' k a) S S' sh:=by
 obtain ⟨g1,g2,g3⟩:=set_get s' k a
 have hl:=h.len;have o:=h.old
 obtain ⟨t,e,p,m⟩:=h.q
 refine ⟨h.pre,by rw [setA_len];exact hl,by rw [setA_len];exact h.fin,⟨by rw [setA_len];exact o.1,fun j hj=>by rw [g1 j (by omega) (by omega)];exact o.2 j hj⟩,fun j j1 j2 hn => ?_,⟨t,by rw [setA_q];exact e,fun x hx => ?_,fun j j1 j2 hj => ?_⟩⟩
 ·rw [setA_len] at j2
  by_cases hj:j=k
  ·subst hj
   exact hL.elim id fun hh=>absurd hh hn
  ·have:=h.loc j j1 j2 (fun hh=>(hH j hh).elim hj hn)
   have e2:=this.up (c':=(setA s' k a).code) (t:=[]) (g1 j j2 hj) (by omega)
   rwa [List.append_nil] at e2
 ·obtain ⟨q1,q2⟩:=p x hx
  have:=q2.pl
  have e2:=q2.up (c':=(setA s' k a).code) (t:=[]) (by rw [setA_len];exact Nat.le_refl _) (g2 _ this.2) (by omega)
  rw [List.append_nil] at e2
  exact ⟨q1,e2⟩
 ·rw [setA_len] at j2
  refine m j j1 j2 ?_
  unfold mkP at hj ⊢
  rwa [g2 j j2] at hj
theorem sg_of {H:Nat→Prop} {s s':CS} {S S':List Shp} {sh sh':Shp} (h:Sg H s s' S S' sh) (e:sh=sh'):Sg H s s' S S' sh':=e ▸ h
theorem op_popn {s:ByteArray} (h:0<opAr s):popF ⟨4,fi s opsL 0+1⟩=opAr s:=by
 unfold opAr at h ⊢
 by_cases h1:s=⟨#[43]⟩
 ·subst h1;decide
 rw [if_neg h1] at h ⊢
 by_cases h2:s=⟨#[45]⟩
 ·subst h2;decide
 rw [if_neg h2] at h ⊢
 by_cases h3:s=⟨#[42]⟩
 ·subst h3;decide
 rw [if_neg h3] at h ⊢
 by_cases h4:s=⟨#[61]⟩
 ·subst h4;decide
 rw [if_neg h4] at h ⊢
 by_cases h5:s=⟨#[60]⟩
 ·subst h5;decide
 rw [if_neg h5] at h ⊢
 by_cases h6:s=⟨#[38]⟩
 ·subst h6;decide
 rw [if_neg h6] at h ⊢
 by_cases h7:s=⟨#[124]⟩
 ·subst h7;decide
 rw [if_neg h7] at h ⊢
 by_cases h8:s=⟨#[33]⟩
 ·subst h8;decide
 rw [if_neg h8] at h
 omega
def CpG (e:Tm):Prop:=∀ (names:List ByteArray) (s:CS) (S:List Shp) (h b:Int),plT e=true→Cov names e→S.length=s.code.length+1→S[s.code.length]! = ⟨true,h,names.length,b⟩→0≤h→b≤names.length→∃ S',Sg (fun _=>False) s (cpT e names s) S S' ⟨true,h+1,names.length,b⟩
theorem sg_two {s1 s2 s3:CS} {S1 S2 S3:List Shp} {a b:Shp} (h:Sg (fun _=>False) s1 s2 S1 S2 a) (g:Sg (fun _=>False) s2 s3 S2 S3 b):Sg (fun _=>False) s1 s3 S1 S3 b:=sg_trans h g fun k hk=>hk.elim id id
theorem cp_sg : ∀ e : Tm, CpG e := by
  refine Tm.ind fun e ih names s S h b hp hc hS hat h0 hb => ?_
  obtain ⟨hk, k5, k6, k7, k8, k9⟩ := pl_kind hp
  obtain ⟨hl, f2, f3, f4⟩ := pl_form hp
  have hpa := pl_args hp
  unfold arF at hl
  rw [cpT_eq, cpF]
  have one : ∀ (op a : Int), (op = 1 ∨ op = 2 ∨ op = 3) → (op = 3 → a < (names.length : Int)) → ∃ S', Sg (fun _ => False) s (putC s op a) S S' ⟨true, h + 1, names.length, b⟩ := fun op a ho hv => by
    have hp0 : popF ⟨op, a⟩ = 0 := by rcases ho with rfl | rfl | rfl <;> simp [popF]
    have hp1 : pushF ⟨op, a⟩ = 1 := by rcases ho with rfl | rfl | rfl <;> simp [pushF]
    refine ⟨_, sg_of (sg_put op a hS (by omega) ?_) ?_⟩
    · rw [hat]
      unfold mayF
      rw [hp0, if_neg (by simp only; omega)]
      split
      · rename_i h3; exact decide_eq_true (hv h3)
      · rw [if_neg (by simp only; omega)]
    · rw [hat]
      unfold aftF
      rw [hp0, hp1]
      simp only
      rw [if_neg (by omega), if_neg (by omega)]
      congr 1
  by_cases g2 : e.kind = 2
  · rw [if_pos g2]; exact one 1 e.n (by omega) (by omega)
  rw [if_neg g2]
  by_cases g3 : e.kind = 3
  · rw [if_pos g3]; exact one 2 e.n (by omega) (by omega)
  rw [if_neg g3]
  by_cases g1 : e.kind = 1
  · rw [if_pos g1]
    have hr := plN_rng (hc.var g1)
    exact one 3 _ (by omega) (fun _ => hr.2)
  rw [if_neg g1]
  by_cases g4 : e.kind = 4
  · rw [if_pos g4]
    have key : ∀ k, k ≤ e.args.length → ∃ S', Sg (fun _ => False) s (allF ((e.args.take k).map cpT) names s) S S' ⟨true, h + k, names.length, b⟩ := by
      intro k
      induction k with
      | zero =>
        intro _
        exact ⟨S, sg_of (sg_refl hS) (by rw [hat]; congr 1; omega)⟩
      | succ k ihk =>
        intro hk
        obtain ⟨S1, q1⟩ := ihk (by omega)
        obtain ⟨S2, q2⟩ := ih _ (mem_bang (show k < e.args.length by omega)) names (allF ((e.args.take k).map cpT) names s) S1 (h + k) b (hpa _ (mem_bang (by omega))) (cov_same hc (.inl g4) (by omega)) q1.len q1.fin (by omega) hb
        rw [allF_step e names s (by omega)]
        exact ⟨S2, sg_of (sg_two q1 q2) (by congr 1; omega)⟩
    obtain ⟨S1, q1⟩ := key e.args.length (Nat.le_refl _)
    rw [List.take_length] at q1
    have hpn := op_popn (f4 g4)
    have hlen : (e.args.length : Int) = opAr e.name := by simp only [g4, if_true, if_false, Int.reduceEq] at hl; exact hl
    have hp1 : pushF ⟨4, fi e.name opsL 0 + 1⟩ = 1 := by simp [pushF]
    refine ⟨_, sg_of (sg_two q1 (sg_put 4 _ q1.len (by omega) ?_)) ?_⟩
    · rw [q1.fin]
      unfold mayF
      rw [hpn, if_neg (by simp only; omega), if_neg (by simp), if_neg (by simp)]
    · rw [q1.fin]
      unfold aftF
      rw [hpn, hp1]
      simp only
      rw [if_neg (by omega), if_neg (by omega)]
      congr 1
      omega
  rw [if_neg g4]
  by_cases g5 : e.kind = 5
  · have hl5 := k5 g5
    rw [if_pos g5, ifF]
    rw [map_bang cpT (by omega), map_bang cpT (by omega), map_bang cpT (by omega)]
    have a0 := fun s' S' h => ih _ (mem_bang (show 0 < e.args.length by omega)) names s' S' h b (hpa _ (mem_bang (by omega))) (cov_same hc (.inr (.inl g5)) (by omega))
    have a1 := fun s' S' h => ih _ (mem_bang (show 1 < e.args.length by omega)) names s' S' h b (hpa _ (mem_bang (by omega))) (cov_same hc (.inr (.inl g5)) (by omega))
    have a2 := fun s' S' h => ih _ (mem_bang (show 2 < e.args.length by omega)) names s' S' h b (hpa _ (mem_bang (by omega))) (cov_same hc (.inr (.inl g5)) (by omega))
    obtain ⟨S1, q1⟩ := a0 s S h hS hat h0 hb
    obtain ⟨A, hA⟩ : ∃ A, A = cpT e.args[0]! names s := ⟨_, rfl⟩
    rw [← hA] at q1 ⊢
    have u1 := sg_hole (s := A) 6 0 ⟨true, h, names.length, b⟩ q1.len (by omega)
    have hA6 : (putC A 6 0).code.length = A.code.length + 1 := putC_len ..
    have o6 : (putC A 6 0).code[A.code.length]! = ⟨6, 0⟩ := (put_get A 6 0).2
    obtain ⟨S2, q2⟩ := a1 (putC A 6 0) _ h u1.len u1.fin h0 hb
    obtain ⟨B, hB⟩ : ∃ B, B = cpT e.args[1]! names (putC A 6 0) := ⟨_, rfl⟩
    rw [← hB] at q2 ⊢
    have u2 := sg_hole (s := B) 5 0 ⟨true, h, names.length, b⟩ q2.len (by omega)
    have hB5 : (putC B 5 0).code.length = B.code.length + 1 := putC_len ..
    have o5 : (putC B 5 0).code[B.code.length]! = ⟨5, 0⟩ := (put_get B 5 0).2
    have lq1 := q1.old; have lu1 := u1.old; have lq2 := q2.old; have lu2 := u2.old
    have o6' : (putC B 5 0).code[A.code.length]! = ⟨6, 0⟩ := by rw [lu2.2 _ (by omega), lq2.2 _ (by omega), o6]
    have c1 := sg_trans (H := fun k => k = A.code.length ∨ k = B.code.length) (sg_trans (H := fun k => k = A.code.length) (sg_trans (H := fun k => k = A.code.length) q1 u1 (fun k hk => hk.elim False.elim id)) q2 (fun k hk => hk.elim id False.elim)) u2 (fun k hk => hk)
    obtain ⟨D, hD⟩ : ∃ D, D = setA (putC B 5 0) A.code.length (putC B 5 0).code.length := ⟨_, rfl⟩
    obtain ⟨t2, e2⟩ := q2.pre
    have l1 := q1.len; have l2 := q2.len; have lu := u1.len
    have sA : (S2 ++ [(⟨true, h, names.length, b⟩ : Shp)])[A.code.length]! = ⟨true, h + 1, names.length, b⟩ := by
      rw [get_pre _ _ (by omega), e2, get_pre _ _ (by omega), get_pre _ _ (by omega)]; exact q1.fin
    have sA1 : (S2 ++ [(⟨true, h, names.length, b⟩ : Shp)])[A.code.length + 1]! = ⟨true, h, names.length, b⟩ := by
      rw [get_pre _ _ (by omega), e2, get_pre _ _ (by omega)]
      have := u1.fin
      rw [hA6] at this
      exact this
    have sB1 : (S2 ++ [(⟨true, h, names.length, b⟩ : Shp)])[(putC B 5 0).code.length]! = ⟨true, h, names.length, b⟩ := u2.fin
    have d1 : Sg (fun k => k = B.code.length) s D S (S2 ++ [⟨true, h, names.length, b⟩]) ⟨true, h, names.length, b⟩ := by
      rw [hD]
      refine sg_set c1 A.code.length (putC B 5 0).code.length (by omega) (by omega) (.inl ?_) (by rw [o6']; unfold mkP; decide) (fun j hj => hj)
      have g3' := (set_get (putC B 5 0) A.code.length (putC B 5 0).code.length).2.2 (by omega)
      rw [o6'] at g3'
      refine ⟨?_, fun hh => ?_, fun _ y hy => ?_⟩
      · rw [g3', sA]; simp [mayF, popF]; omega
      · rw [g3'] at hh; unfold mkP at hh; simp only at hh; omega
      · rw [g3', sA] at hy
        have hf : folI (A.code.length : Int) ⟨6, ((putC B 5 0).code.length : Int)⟩ ⟨true, h + 1, names.length, b⟩ = [⟨(A.code.length : Int) + 1, ⟨true, h, names.length, b⟩⟩, ⟨((putC B 5 0).code.length : Int), ⟨true, h, names.length, b⟩⟩] := by
          have ha : ∀ a : Int, aftF ⟨6, a⟩ ⟨true, h + 1, names.length, b⟩ = ⟨true, h, names.length, b⟩ := fun a => by simp [aftF, popF, pushF]; omega
          unfold folI
          simp only [Int.reduceEq, if_false, if_true, ha]
        rw [hf] at hy
        simp only [List.mem_cons, List.not_mem_nil, or_false] at hy
        have hS2l : (S2 ++ [(⟨true, h, names.length, b⟩ : Shp)]).length = S2.length + 1 := by rw [List.length_append]; rfl
        rcases hy with rfl | rfl
        · have e : ((A.code.length : Int) + 1).toNat = A.code.length + 1 := by omega
          simp only [e]
          exact ⟨by omega, by omega, sA1⟩
        · have e : (((putC B 5 0).code.length : Nat) : Int).toNat = (putC B 5 0).code.length := by omega
          simp only [e]
          exact ⟨by omega, by omega, sB1⟩
    have hDl : D.code.length = B.code.length + 1 := by rw [hD, setA_len]; exact hB5
    have o5' : D.code[B.code.length]! = ⟨5, 0⟩ := by rw [hD, (set_get (putC B 5 0) A.code.length (putC B 5 0).code.length).1 _ (by omega) (by omega), o5]
    rw [← hD]
    obtain ⟨S3, q3⟩ := a2 D _ h d1.len d1.fin h0 hb
    obtain ⟨C, hC⟩ : ∃ C, C = cpT e.args[2]! names D := ⟨_, rfl⟩
    rw [← hC] at q3 ⊢
    have c2 := sg_trans (H := fun k => k = B.code.length) d1 q3 (fun k hk => hk.elim id False.elim)
    obtain ⟨t3, e3⟩ := q3.pre
    have lq3 := q3.old
    have l3 := q3.len
    have sB : S3[B.code.length]! = ⟨true, h + 1, names.length, b⟩ := by
      rw [e3, get_pre _ _ (by rw [List.length_append]; simp; omega), get_pre _ _ (by omega)]; exact q2.fin
    have o5'' : C.code[B.code.length]! = ⟨5, 0⟩ := by rw [lq3.2 _ (by omega), o5']
    refine ⟨S3, sg_set c2 B.code.length C.code.length (by omega) (by omega) (.inl ?_) (by rw [o5'']; unfold mkP; decide) (fun j hj => .inl hj)⟩
    have g3' := (set_get C B.code.length C.code.length).2.2 (by omega)
    rw [o5''] at g3'
    refine ⟨?_, fun hh => ?_, fun _ y hy => ?_⟩
    · rw [g3', sB]; simp [mayF, popF]; omega
    · rw [g3'] at hh; unfold mkP at hh; simp only at hh; omega
    · rw [g3', sB] at hy
      have hf : folI (B.code.length : Int) ⟨5, (C.code.length : Int)⟩ ⟨true, h + 1, names.length, b⟩ = [⟨(C.code.length : Int), ⟨true, h + 1, names.length, b⟩⟩] := by
        have ha : ∀ a : Int, aftF ⟨5, a⟩ ⟨true, h + 1, names.length, b⟩ = ⟨true, h + 1, names.length, b⟩ := fun a => by simp [aftF, popF, pushF]
        unfold folI
        simp only [Int.reduceEq, if_false, if_true, ha]
      rw [hf, List.mem_singleton] at hy
      subst hy
      have e : ((C.code.length : Nat) : Int).toNat = C.code.length := by omega
      simp only [e]
      exact ⟨by omega, by omega, q3.fin⟩
  rw [if_neg g5]
  by_cases g6 : e.kind = 6
  · have hl6 := k6 g6
    rw [if_pos g6]
    refine ⟨_, sg_of (sg_make 7 (names ++ [e.name]) e.args[0]! hS (.inl rfl) (by rw [hat]; exact h0) (hpa _ (mem_bang (by omega))) (cov_lam hc g6 hl6) ?_) ?_⟩
    · rw [hat]; simp [insF]
    · rw [hat]; simp [aftF, popF, pushF]
  rw [if_neg g6]
  by_cases g9 : e.kind = 9
  · have hl9 := k9 g9
    rw [if_pos g9]
    refine ⟨_, sg_of (sg_make 8 (names ++ [e.name, e.other]) e.args[0]! hS (.inr rfl) (by rw [hat]; exact h0) (hpa _ (mem_bang (by omega))) (cov_rec hc g9 hl9) ?_) ?_⟩
    · rw [hat]; simp [insF]; omega
    · rw [hat]; simp [aftF, popF, pushF]
  rw [if_neg g9]
  by_cases g7 : e.kind = 7
  · have hl7 := k7 g7
    rw [if_pos g7, map_bang cpT (by omega), map_bang cpT (by omega)]
    obtain ⟨S1, q1⟩ := ih _ (mem_bang (show 0 < e.args.length by omega)) names s S h b (hpa _ (mem_bang (by omega))) (cov_same hc (.inr (.inr g7)) (by omega)) hS hat h0 hb
    obtain ⟨S2, q2⟩ := ih _ (mem_bang (show 1 < e.args.length by omega)) names (cpT e.args[0]! names s) S1 (h + 1) b (hpa _ (mem_bang (by omega))) (cov_same hc (.inr (.inr g7)) (by omega)) q1.len q1.fin (by omega) hb
    refine ⟨_, sg_of (sg_two (sg_two q1 q2) (sg_put 9 0 q2.len (by omega) ?_)) ?_⟩
    · rw [q2.fin]; simp [mayF, popF]; omega
    · rw [q2.fin]; simp [aftF, popF, pushF]; omega
  rw [if_neg g7]
  have g8 : e.kind = 8 := by omega
  have hl8 := k8 g8
  rw [if_pos g8, map_bang cpT (by omega), map_bang cpT (by omega)]
  obtain ⟨S1, q1⟩ := ih _ (mem_bang (show 0 < e.args.length by omega)) names s S h b (hpa _ (mem_bang (by omega))) (cov_let0 hc g8 hl8) hS hat h0 hb
  have p1 := sg_put 11 0 q1.len (by omega) (by rw [q1.fin]; simp [mayF, popF]; omega)
  rw [q1.fin] at p1
  have e1 : aftF ⟨11, 0⟩ ⟨true, h + 1, names.length, b⟩ = ⟨true, h, ((names ++ [e.name]).length : Int), b⟩ := by simp [aftF, popF, pushF]; omega
  rw [e1] at p1
  obtain ⟨S2, q2⟩ := ih _ (mem_bang (show 1 < e.args.length by omega)) (names ++ [e.name]) (putC (cpT e.args[0]! names s) 11 0) _ h b (hpa _ (mem_bang (by omega))) (cov_let1 hc g8 hl8) p1.len p1.fin h0 (by simp only [List.length_append, List.length_cons, List.length_nil]; omega)
  refine ⟨_, sg_of (sg_two (sg_two (sg_two q1 p1) q2) (sg_put 12 0 q2.len (by omega) ?_)) ?_⟩
  · rw [q2.fin]; simp [mayF, popF]; omega
  · rw [q2.fin]; simp [aftF, popF, pushF]
structure Iw (i:Nat) (s:CS) (S:List Shp):Prop where
 len:S.length=s.code.length
 pos:0<s.code.length
 zero:S[0]! = s0
 loc:∀ k,k<s.code.length→LocQ s.code S k
 q:∀ j,i≤j→j<s.q.length→Pend s.code S s.q[j]!
 mks:∀ k,k<s.code.length→mkP s.code[k]! → (0≤(s.code[k]!).a∧(s.code[k]!).a.toNat<s.code.length∧S[(s.code[k]!).a.toNat]! = insF s.code[k]! S[k]!)∨∃ j,i≤j∧j<s.q.length∧(s.q[j]!).pl=k
theorem iw_put {i:Nat} {s:CS} {S S0:List Shp} (e:Tm) (names:List ByteArray) (hp:plT e=true) (hc:Cov names e) (hS:S=S0++[⟨true,0,names.length,names.length⟩]) (hl:S0.length=s.code.length)
  (loc:∀ k,k<s.code.length→LocQ s.code S k) (q:∀ j,i≤j→j<s.q.length→Pend s.code S s.q[j]!) (z:S[0]! = s0) (hi:i≤s.q.length)
  (mk:∀ k,k<s.code.length→mkP s.code[k]! → (0≤(s.code[k]!).a∧(s.code[k]!).a.toNat<S.length∧S[(s.code[k]!).a.toNat]! = insF s.code[k]! S[k]!)∨∃ j,i≤j∧j<s.q.length∧(s.q[j]!).pl=k):∃ S',Iw i (putC (cpT e names s) 10 0) S':=by
 have hlS:S.length=s.code.length+1:=by rw [hS,List.length_append];simp;omega
 obtain ⟨S1,g⟩:=cp_sg e names s S 0 names.length hp hc hlS (by rw [hS];exact get_last _ _ hl.symm) (by omega) (by omega)
 obtain ⟨A,hA⟩:∃ A,A=cpT e names s:=⟨_,rfl⟩
 rw [← hA] at g ⊢
 obtain ⟨t,e1⟩:=g.pre
 have lo:=g.old;have ll:=g.len
 obtain ⟨u,eq,pu,mu⟩:=g.q
 obtain ⟨p1,p2⟩:=put_get A 10 0
 have hn:(putC A 10 0).code.length=A.code.length+1:=putC_len ..
 have up:∀ k,k<A.code.length→LocQ A.code S1 k:=fun k hk=>by
  by_cases h:k<s.code.length
  ·have:=(loc k h).up (c':=A.code) (t:=t) (lo.2 k h) (by omega)
   rwa [← e1] at this
  ·exact g.loc k (by omega) hk id
 have pup:∀ x,Pend s.code S x→Pend A.code S1 x:=fun x hx=>by
  have:=hx.pl
  have h2:=hx.up (c':=A.code) (t:=t) lo.1 (by rw [lo.2 _ this.2]) (by omega)
  rwa [← e1] at h2
 have ptop:∀ x,Pend A.code S1 x→Pend (putC A 10 0).code S1 x:=fun x hx=>by
  have:=hx.pl
  have h2:=hx.up (c':=(putC A 10 0).code) (t:=[]) (by omega) (by rw [p1 _ this.2]) (by omega)
  rwa [List.append_nil] at h2
 refine ⟨S1,by rw [hn];exact ll,by omega,by rw [e1,get_pre _ _ (by omega)];exact z,fun k hk => ?_,fun j j1 j2 => ?_,fun k hk hm => ?_⟩
 ·rw [hn] at hk
  by_cases h:k<A.code.length
  ·have:=(up k h).up (c':=(putC A 10 0).code) (t:=[]) (p1 k h) (by omega)
   rwa [List.append_nil] at this
  ·obtain rfl:k=A.code.length:=by omega
   refine ⟨by rw [p2,g.fin];simp [mayF,popF],fun hh => ?_,fun _ y hy => ?_⟩
   ·rw [p2] at hh;unfold mkP at hh;simp only at hh;omega
   ·rw [p2] at hy
    simp [folI] at hy
 ·rw [putC_q] at j2 ⊢
  refine ptop _ ?_
  by_cases h:j<s.q.length
  ·rw [eq,get_pre _ _ h];exact pup _ (q j j1 h)
  ·rw [eq] at j2 ⊢
   have hx:(s.q++u)[j]! ∈ u:=by
    rw [getElem!_pos (s.q++u) j (by omega),List.getElem_append_right (by omega)]
    exact List.getElem_mem _
   exact (pu _ hx).2
 ·rw [hn] at hk
  by_cases h:k<A.code.length
  ·rw [p1 k h] at hm ⊢
   by_cases h2:k<s.code.length
   ·rw [lo.2 k h2] at hm ⊢
    rcases mk k h2 hm with ⟨m1,m2,m3⟩ | ⟨j,j1,j2,j3⟩
    ·refine .inl ⟨m1,by omega, ?_⟩
     rw [e1,get_pre _ _ m2,get_pre _ _ (by omega)];exact m3
    ·refine .inr ⟨j,j1,by rw [putC_q,eq,List.length_append];omega, ?_⟩
     rw [putC_q,eq,get_pre _ _ j2];exact j3
   ·obtain ⟨x,hx,ex⟩:=mu k (by omega) h hm
    obtain ⟨j,hj,rfl⟩:=List.mem_iff_getElem.mp hx
    refine .inr ⟨s.q.length+j,by omega,by rw [putC_q,eq,List.length_append];omega, ?_⟩
    rw [putC_q,eq,getElem!_pos (s.q++u) (s.q.length+j) (by rw [List.length_append];omega),List.getElem_append_right (by omega)]
    simp only [Nat.add_sub_cancel_left]
    exact ex
  ·obtain rfl:k=A.code.length:=by omega
   rw [p2] at hm
   unfold mkP at hm;simp only at hm;omega
theorem iw_first {e:Tm} (hp:plT e=true) (hc:Cov [] e):∃ S,Iw 0 (putC (cpT e [] ⟨[],[]⟩) 10 0) S :=
 iw_put (S:=[s0]) (S0:=[]) e [] hp hc rfl rfl (fun k hk=>(by cases hk)) (fun j _ hj=>(by cases hj)) rfl (Nat.le_refl _) (fun k hk=>(by cases hk))
theorem iw_step {i:Nat} {s:CS} {S:List Shp} (h:Iw i s S) (hi:i<s.q.length):∃ S',Iw (i+1) (putC (cpT (s.q[i]!).body (s.q[i]!).nms (setA s (s.q[i]!).pl.toNat s.code.length)) 10 0) S':=by
 have w:=h.q i (Nat.le_refl _) hi
 have hpl:=w.pl
 have hl:=h.len;have hpos:=h.pos
 obtain ⟨g1,g2,g3⟩:=set_get s (s.q[i]!).pl.toNat s.code.length
 have g3':=g3 hpl.2
 have hlen:(setA s (s.q[i]!).pl.toNat s.code.length).code.length=s.code.length:=setA_len ..
 refine iw_put (S0:=S) (s.q[i]!).body (s.q[i]!).nms w.pt w.cv rfl (by rw [hlen];exact hl) (fun k hk => ?_) (fun j j1 j2 => ?_) (by rw [get_pre _ _ (by omega)];exact h.zero) (by rw [setA_q];omega) (fun k hk hm => ?_)
 ·rw [hlen] at hk
  by_cases hk2:k=(s.q[i]!).pl.toNat
  ·subst hk2
   have hL:=h.loc _ hk
   obtain ⟨m1,m2⟩:=hL.mks w.mks
   have hma:=hL.may
   have hmk:=w.mks
   have ho:((setA s (s.q[i]!).pl.toNat s.code.length).code[(s.q[i]!).pl.toNat]!)=⟨(s.code[(s.q[i]!).pl.toNat]!).op,(s.code.length:Int)⟩:=g3'
   generalize (s.q[i]!).pl.toNat=p at *
   generalize hx:s.code[p]! = x at *
   obtain ⟨op,a⟩:=x
   unfold mkP at hmk
   simp only at hmk ho
   refine ⟨?_,fun _ => ?_,fun hn => ?_⟩
   ·rw [ho,get_pre _ _ (by omega)]
    unfold mayF popF at hma ⊢
    simp only at hma ⊢
    rcases hmk with rfl | rfl
    ·simpa using hma
    ·simpa using hma
   ·have hpS:p<S.length:=by omega
    rw [ho,get_pre _ _ m1,get_pre _ _ hpS]
    refine ⟨by rw [List.length_append];omega, ?_⟩
    rw [m2]
    unfold aftF popF pushF
    rcases hmk with rfl | rfl <;> simp
   ·rw [ho] at hn;exact absurd hmk hn
  ·exact (h.loc k hk).up (g1 k hk hk2) (by omega)
 ·rw [setA_q] at j2 ⊢
  have:=h.q j (by omega) j2
  have p:=this.pl
  exact this.up (by omega) (g2 _ p.2) (by omega)
 ·rw [hlen] at hk
  by_cases hk2:k=(s.q[i]!).pl.toNat
  ·subst hk2
   refine .inl ?_
   rw [g3']
   have e:((s.code.length:Nat):Int).toNat=s.code.length:=by omega
   simp only [e]
   refine ⟨by omega,by rw [List.length_append];simp;omega, ?_⟩
   rw [get_last _ _ hl.symm,get_pre _ _ (by omega)]
   have:=w.sh
   rw [← this]
   unfold insF
   rfl
  ·rw [g1 k hk hk2] at hm ⊢
   rcases h.mks k hk hm with ⟨m1,m2,m3⟩ | ⟨j,j1,j2,j3⟩
   ·exact .inl ⟨m1,by rw [List.length_append];omega,by rw [get_pre _ _ (by omega),get_pre _ _ (by omega)];exact m3⟩
   ·refine .inr ⟨j, ?_,by rw [setA_q];exact j2,by rw [setA_q];exact j3⟩
    by_cases hj:j=i
    ·subst hj;exfalso;omega
    ·omega
theorem iw_fin : ∀ (f i : Nat) (s : CS) (S : List Shp), Iw i s S → 302 ≤ f + s.code.length → (cmL f i s).code.length ≤ 300 → ∃ j S', Iw j (cmL f i s) S' ∧ (cmL f i s).q.length ≤ j
  | 0, i, s, S, h, hf, hc => by rw [cmL] at hc; omega
  | f + 1, i, s, S, h, hf, hc => by
    rw [cmL] at hc ⊢
    split
    · rename_i hq
      rw [if_pos hq] at hc
      obtain ⟨S', h2⟩ := iw_step h hq.1
      refine iw_fin f (i + 1) _ S' h2 ?_ hc
      have w := h.q i (Nat.le_refl _) hq.1
      obtain ⟨S2, g⟩ := cp_sg (s.q[i]!).body (s.q[i]!).nms (setA s (s.q[i]!).pl.toNat s.code.length) (S ++ [⟨true, 0, (s.q[i]!).nms.length, (s.q[i]!).nms.length⟩]) 0 (s.q[i]!).nms.length w.pt w.cv (by rw [List.length_append, setA_len, h.len]; rfl) (by rw [setA_len]; exact get_last _ _ h.len.symm) (by omega) (by omega)
      have := g.old.1
      rw [setA_len] at this
      rw [putC_len]; omega
    · rename_i hq
      rw [if_neg hq] at hc
      refine ⟨i, S, h, ?_⟩
      by_cases h2 : i < s.q.length
      · exact absurd ⟨h2, hc⟩ hq
      · omega
theorem good_of {i : Nat} {s : CS} {S : List Shp} (h : Iw i s S) (hq : s.q.length ≤ i) (ha : okA s.code) : GoodC s.code := by
  have key : ∀ p sh, Rch s.code p sh → 0 ≤ p ∧ p < s.code.length ∧ S[p.toNat]! = sh := by
    intro p sh hr
    induction hr with
    | base => exact ⟨by omega, by have := h.pos; omega, h.zero⟩
    | step hr h1 h2 hy ih =>
      rename_i p sh y
      obtain ⟨i1, i2, i3⟩ := ih
      have hk : p.toNat < s.code.length := by omega
      have hL := h.loc _ hk
      have hpp : ((p.toNat : Nat) : Int) = p := by omega
      have hl := h.len
      by_cases hm : mkP s.code[p.toNat]!
      · obtain ⟨m1, m2⟩ := hL.mks hm
        rw [i3] at m2
        rcases h.mks _ hk hm with ⟨n1, n2, n3⟩ | ⟨j, j1, j2, _⟩
        · rw [i3] at n3
          unfold mkP at hm
          generalize s.code[p.toNat]! = x at *
          have hf : folI p x sh = [⟨p + 1, aftF x sh⟩, ⟨x.a, insF x sh⟩] := by
            unfold folI
            rw [if_neg (by omega), if_neg (by omega), if_neg (by omega), if_pos hm]
          rw [hf] at hy
          simp only [List.mem_cons, List.not_mem_nil, or_false] at hy
          rcases hy with rfl | rfl
          · have e : (p + 1).toNat = p.toNat + 1 := by omega
            simp only [e]
            exact ⟨by omega, by omega, m2⟩
          · exact ⟨n1, by simp only; omega, n3⟩
        · omega
      · have := hL.no hm y (by rw [hpp, i3]; exact hy)
        exact ⟨this.1, by omega, this.2.2⟩
  intro p sh hr
  obtain ⟨i1, i2, i3⟩ := key p sh hr
  refine ⟨i2, ?_, fun s' hs' => ?_⟩
  · have := (h.loc p.toNat (by omega)).may
    rwa [i3] at this
  · rw [← (key p s' hs').2.2, i3]
theorem vc_law (e:Tm) (h:(cmR e).2=true):(∀ x ∈ (cmR e).1,insB x=true)∧0<(cmR e).1.length∧(cmR e).1.length≤300∧(shRes (cmR e).1).isSome=true:=by
 have hin:=(cm_law e).1
 have hlen:=cm_len e
 have hok:okA (cmR e).1:=fun x hx=>(ins_cases (hin x hx)).2.1.1
 have key:0<(cmR e).1.length∧GoodC (cmR e).1:=by
  revert hok h
  unfold cmR
  split
  case isFalse=>intro h;exact absurd h (by decide)
  rename_i hb
  split
  case isTrue=>intro h;exact absurd h (by decide)
  rename_i hl
  intro _ hok
  unfold cmB at hb
  rw [Bool.and_eq_true,decide_eq_true_eq] at hb
  have hf:freeT e=[]:=List.eq_nil_of_length_eq_zero (by omega)
  obtain ⟨S,hS⟩:=iw_first hb.1 (Cov.nil hf)
  obtain ⟨j,S',hj,hd⟩:=iw_fin 400 0 _ S hS (by omega) (by show (cmS e).code.length≤300;omega)
  change Iw j (cmS e) S' at hj
  change (cmS e).q.length≤j at hd
  exact ⟨hj.pos,good_of hj hd hok⟩
 refine ⟨hin,key.1,hlen, ?_⟩
 have hr:=(shRes_goI hok).2
 cases hs:shRes (cmR e).1 with
 | none=>rw [hs] at hr;exact absurd key.2 hr
 | some T=>rfl
end Go.Proofs.YtaidalilfmjfgaaGreat
