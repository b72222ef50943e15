import Derived.Test.YtaidalilfmjfgaaGreatCpL
namespace Go.Proofs.YtaidalilfmjfgaaGreat
open Go.RowKit
set_option linter.unusedVariables false
set_option linter.unusedSimpArgs false
def gIn (L:Nat) (x:Ins):Prop :=
 (x.op=1∧0≤x.a∧x.a≤10006)∨(x.op=2∧0≤x.a∧x.a≤1)∨(x.op=4∧1≤x.a∧x.a≤8)∨((x.op=3∨x.op=5∨x.op=6∨x.op=7∨x.op=8)∧0≤x.a∧x.a<L)∨(9≤x.op∧x.op≤12∧x.a=0)
theorem gIn.mono {L M:Nat} {x:Ins} (h:gIn L x) (hL:L≤M):gIn M x:=by unfold gIn at *; omega
theorem g_int {L:Nat} {a:Int} (h:0≤a∧a≤10006):gIn L ⟨1,a⟩:=.inl ⟨rfl,h.1,h.2⟩
theorem g_bool {L:Nat} {a:Int} (h:0≤a∧a≤1):gIn L ⟨2,a⟩:=.inr (.inl ⟨rfl,h.1,h.2⟩)
theorem g_op {L:Nat} {a:Int} (h:1≤a∧a≤8):gIn L ⟨4,a⟩:=.inr (.inr (.inl ⟨rfl,h.1,h.2⟩))
theorem g_ref {L:Nat} {o a:Int} (ho:o=3∨o=5∨o=6∨o=7∨o=8) (h:0≤a∧a<L):gIn L ⟨o,a⟩:=.inr (.inr (.inr (.inl ⟨ho,h.1,h.2⟩)))
theorem g_end {L:Nat} {o:Int} (h:9≤o∧o≤12):gIn L ⟨o,0⟩:=.inr (.inr (.inr (.inr ⟨h.1,h.2,rfl⟩)))
theorem gIn.ins {x:Ins} (h:gIn 300 x):insB x=true:=by
 unfold gIn at h
 unfold insB numB
 rcases h with ⟨h,a,b⟩ | ⟨h,a,b⟩ | ⟨h,a,b⟩ | ⟨h,a,b⟩ | ⟨h,a,b⟩
 ·rw [if_pos h];simp only [Bool.and_eq_true,decide_eq_true_eq];omega
 ·rw [if_neg (by omega),if_pos h];simp only [Bool.and_eq_true,decide_eq_true_eq];omega
 ·rw [if_neg (by omega),if_neg (by omega),if_pos h];simp only [Bool.and_eq_true,decide_eq_true_eq];omega
 ·rw [if_neg (by omega),if_neg (by omega),if_neg (by omega),if_pos (by omega)];simp only [Bool.and_eq_true,decide_eq_true_eq];omega
 ·rw [if_neg (by omega),if_neg (by omega),if_neg (by omega),if_neg (by omega)];simp only [Bool.and_eq_true,decide_eq_true_eq];omega
def mkB (o:Int):Bool:=decide (o=7) || decide (o=8)
def nM (l:List Ins):Nat:=(l.map Ins.op).countP mkB
mutual
def cF:Tm→Nat
 | .mk k _ _ _ _ _ xs=>(if k=6∨k=9 then 1 else 0)+cFs xs
def cFs:List Tm→Nat
 | []=>0
 | x :: xs=>cF x+cFs xs
end
theorem cF_eq (e:Tm):cF e=(if e.kind=6∨e.kind=9 then 1 else 0)+cFs e.args:=by obtain ⟨k,s,o,n,ty,r,xs⟩:=e;rw [cF];rfl
theorem cFs_app:∀ (a b:List Tm),cFs (a++b)=cFs a+cFs b
 | [],b=>by rw [List.nil_append,cFs];omega
 | x :: a,b=>by rw [List.cons_append,cFs,cFs,cFs_app a b];omega
theorem cFs_one {e:Tm} (h:e.args.length=1):cFs e.args=cF e.args[0]! := by
 match hx:e.args,h with
 | [x],_=>rw [cFs,cFs];rfl
theorem cFs_two {e:Tm} (h:e.args.length=2):cFs e.args=cF e.args[0]! + cF e.args[1]! := by
 match hx:e.args,h with
 | [x,y],_=>rw [cFs,cFs,cFs];rfl
theorem cFs_three {e:Tm} (h:e.args.length=3):cFs e.args=cF e.args[0]! + (cF e.args[1]! + cF e.args[2]!):=by
 match hx:e.args,h with
 | [x,y,z],_=>rw [cFs,cFs,cFs,cFs];rfl
def cQ (q:List Wt):Nat:=(q.map fun x=>cF x.body).sum
theorem cQ_app (a b:List Wt):cQ (a++b)=cQ a+cQ b:=by unfold cQ;rw [List.map_append,List.sum_append]
structure WN (s:CS) (x:Wt):Prop where
 pl:0≤x.pl∧x.pl<(s.code.length:Int)
 op:(s.code[x.pl.toNat]!).op=7∨(s.code[x.pl.toNat]!).op=8
 nm:x.nms.length≤s.code.length+1
 pt:plT x.body=true
 cv:Cov x.nms x.body
structure Gd (c:Nat) (s s':CS):Prop where
 len:s.code.length≤s'.code.length
 ops:∀ k,k<s.code.length→(s'.code[k]!).op=(s.code[k]!).op
 good:(∀ x ∈ s.code,gIn (s.code.length+1) x)→∀ x ∈ s'.code,gIn (s'.code.length+1) x
 cnt:nM s'.code+cQ s'.q=nM s.code+cQ s.q+c
 pre:∃ t,s'.q=s.q++t
 new:∀ x ∈ s'.q,x ∈ s.q∨WN s' x
theorem WN.up {s s':CS} {x:Wt} (h:WN s x) (hl:s.code.length≤s'.code.length) (ho:∀ k,k<s.code.length→(s'.code[k]!).op=(s.code[k]!).op):WN s' x:=by
 have h1:=h.pl;have h2:=h.nm
 exact ⟨by omega,by rw [ho _ (by omega)];exact h.op,by omega,h.pt,h.cv⟩
theorem Gd.trans {c1 c2:Nat} {s1 s2 s3:CS} (h:Gd c1 s1 s2) (k:Gd c2 s2 s3):Gd (c1+c2) s1 s3:=by
 have l1:=h.len;have l2:=k.len;have n1:=h.cnt;have n2:=k.cnt
 refine ⟨by omega,fun i hi=>by rw [k.ops i (by omega),h.ops i hi],fun g=>k.good (h.good g),by omega, ?_,fun x hx => ?_⟩
 ·obtain ⟨t,ht⟩:=h.pre
  obtain ⟨u,hu⟩:=k.pre
  exact ⟨t++u,by rw [hu,ht,List.append_assoc]⟩
 ·rcases k.new x hx with hx | hx
  ·rcases h.new x hx with hx | hx
   ·exact .inl hx
   ·exact .inr (hx.up l2 k.ops)
  ·exact .inr hx
theorem Gd.refl (s:CS):Gd 0 s s:=⟨Nat.le_refl _,fun _ _=>rfl,fun h=>h,rfl,⟨[],(List.append_nil _).symm⟩,fun _ hx => .inl hx⟩
theorem Gd.of {c c':Nat} {s s':CS} (h:Gd c s s') (e:c=c'):Gd c' s s':=e ▸ h
theorem nM_app (a b:List Ins):nM (a++b)=nM a+nM b:=by unfold nM;rw [List.map_append,List.countP_append]
theorem at_app {s:CS} {x:Ins} {k:Nat} (h:k<s.code.length):(s.code++[x])[k]! = s.code[k]! := by
 rw [getElem!_pos (s.code++[x]) k (by simp;omega),getElem!_pos s.code k h,List.getElem_append_left h]
theorem at_end (l:List Ins) (x:Ins):(l++[x])[l.length]! = x:=by
 rw [getElem!_pos (l++[x]) l.length (by simp)];simp
theorem gd_put (s:CS) (op a:Int) (hg:gIn (s.code.length+2) ⟨op,a⟩):Gd (if mkB op=true then 1 else 0) s (putC s op a):=by
 refine ⟨by unfold putC;simp,fun k hk=>by unfold putC;rw [at_app hk],fun g x hx => ?_, ?_,⟨[],(List.append_nil _).symm⟩,fun _ hx => .inl hx⟩
 ·unfold putC at hx ⊢
  simp only [List.length_append,List.length_cons,List.length_nil,Nat.zero_add]
  rcases List.mem_append.1 hx with hx | hx
  ·exact (g x hx).mono (by omega)
  ·rw [List.mem_singleton.1 hx];exact hg
 ·unfold putC
  rw [nM_app]
  show nM s.code+nM [⟨op,a⟩]+cQ s.q=_
  have:nM [⟨op,a⟩]=if mkB op=true then 1 else 0:=by
   unfold nM;simp only [List.map_cons,List.map_nil,List.countP_cons,List.countP_nil,Nat.zero_add]
  omega
theorem gd_put0 (s:CS) (op a:Int) (hg:gIn (s.code.length+2) ⟨op,a⟩) (h:mkB op=false):Gd 0 s (putC s op a):=by
 have:=gd_put s op a hg
 rw [h] at this
 exact this
theorem set_at {l:List Ins} {k j:Nat} (v:Ins) (hj:j<l.length):((l.set k v)[j]!)=if k=j then v else l[j]! := by
 rw [getElem!_pos (l.set k v) j (by simpa using hj),getElem!_pos l j hj,List.getElem_set]
theorem gd_set (s:CS) (k:Nat) (a:Int) (hk:k<s.code.length) (ho:(s.code[k]!).op=5∨(s.code[k]!).op=6∨(s.code[k]!).op=7∨(s.code[k]!).op=8) (ha:0≤a∧a≤(s.code.length:Int)):Gd 0 s (setA s k a):=by
 have hm:(setA s k a).code.map Ins.op=s.code.map Ins.op:=by
  unfold setA
  simp only [List.map_set]
  rw [getElem!_pos s.code k hk,← List.getElem_map Ins.op (l:=s.code) (h:=by simpa using hk),List.set_getElem_self]
 refine ⟨by rw [setA_len];exact Nat.le_refl _,fun j hj => ?_,fun g x hx => ?_, ?_,⟨[],(List.append_nil _).symm⟩,fun _ hx => .inl hx⟩
 ·unfold setA
  simp only
  rw [set_at _ hj]
  split
  ·rename_i e;subst e;rfl
  ·rfl
 ·rw [setA_len]
  unfold setA at hx
  rcases List.mem_or_eq_of_mem_set hx with hx | hx
  ·exact g x hx
  ·rw [hx];exact g_ref (by omega) (by omega)
 ·unfold nM
  rw [hm];rfl
theorem gd_add (s:CS) (x:Wt) (h:WN s x):Gd (cF x.body) s (addQ s x) :=
 ⟨Nat.le_refl _,fun _ _=>rfl,fun g=>g,by
  show nM s.code+cQ (s.q++[x])=_
  rw [cQ_app]
  have:cQ [x]=cF x.body:=by unfold cQ;simp
  omega,⟨[x],rfl⟩,fun y hy=>by
   rcases List.mem_append.1 hy with hy | hy
   ·exact .inl hy
   ·rw [List.mem_singleton.1 hy];exact .inr ⟨h.pl,h.op,h.nm,h.pt,h.cv⟩⟩
theorem pl_form {e:Tm} (h:plT e=true):(e.args.length:Int)=arF 0 e.kind e.name∧(e.kind=2→0≤e.n∧e.n≤10006)∧(e.kind=3→0≤e.n∧e.n≤1)∧(e.kind=4→0<opAr e.name):=by
 unfold plT at h
 rw [Bool.and_eq_true,allTm_eq,Bool.and_eq_true] at h
 obtain ⟨⟨h1,_⟩,_⟩:=h
 rw [isFm_eq] at h1
 simp only [Bool.and_eq_true,decide_eq_true_eq] at h1
 obtain ⟨ha,hn,_⟩:=h1
 unfold isNm at hn
 refine ⟨ha,fun hk => ?_,fun hk => ?_,fun hk => ?_⟩
 all_goals simp only [hk,if_true,if_false,Int.reduceEq] at hn
 ·unfold rgB at hn;simp only [Bool.and_eq_true,decide_eq_true_eq] at hn;exact hn
 ·unfold rgB at hn;simp only [Bool.and_eq_true,decide_eq_true_eq] at hn;exact hn
 ·simpa using hn
theorem op_num {s:ByteArray} (h:0<opAr s):1≤fi s opsL 0+1∧fi s opsL 0+1≤8:=by
 unfold opAr at h
 repeat' split at h
 all_goals first | (rename_i e;subst e;decide) | omega
theorem lsN_rng {x : ByteArray} {xs : List ByteArray} : ∀ k, k ≤ xs.length → lsN xs x k < k ∧ (x ∈ xs.take k → 0 ≤ lsN xs x k)
  | 0, _ => ⟨by rw [lsN]; decide, fun h => by simp at h⟩
  | k + 1, h => by
    have ih := lsN_rng (x := x) (xs := xs) k (by omega)
    rw [lsN]
    split
    · exact ⟨by omega, fun _ => by omega⟩
    · rename_i hne
      refine ⟨by omega, fun hm => ih.2 ?_⟩
      rw [take_snoc xs k (by omega), List.mem_append, List.mem_singleton] at hm
      exact hm.resolve_right fun e => hne e.symm
theorem plN_rng {xs:List ByteArray} {x:ByteArray} (h:x ∈ xs):0≤plN xs x∧plN xs x<xs.length:=by
 have h1:=lsN_rng (x:=x) (xs:=xs) xs.length (Nat.le_refl _)
 have h2:=h1.2 (by rw [List.take_length];exact h)
 unfold plN;omega
theorem cp_gd : ∀ e : Tm, ∀ names s, plT e = true → Cov names e → names.length ≤ s.code.length → Gd (cF e) s (cpT e names s) := by
  refine Tm.ind fun e ih names s hp hc hL => ?_
  obtain ⟨hk, k5, k6, k7, k8, k9⟩ := pl_kind hp
  obtain ⟨hl, f2, f3, f4⟩ := pl_form hp
  have hpa := pl_args hp
  unfold arF at hl
  rw [cpT_eq, cpF, cF_eq]
  have z0 : e.args.length = 0 → cFs e.args = 0 := fun h => by rw [List.eq_nil_of_length_eq_zero h, cFs]
  by_cases g2 : e.kind = 2
  · rw [if_pos g2]
    have := z0 (by simp only [g2, if_true, if_false, Int.reduceEq] at hl; omega)
    exact (gd_put0 s 1 e.n (g_int (f2 g2)) rfl).of (by rw [if_neg (by omega)]; omega)
  rw [if_neg g2]
  by_cases g3 : e.kind = 3
  · rw [if_pos g3]
    have := z0 (by simp only [g3, if_true, if_false, Int.reduceEq] at hl; omega)
    exact (gd_put0 s 2 e.n (g_bool (f3 g3)) rfl).of (by rw [if_neg (by omega)]; omega)
  rw [if_neg g3]
  by_cases g1 : e.kind = 1
  · rw [if_pos g1]
    have := z0 (by simp only [g1, if_true, if_false, Int.reduceEq] at hl; omega)
    have hr := plN_rng (hc.var g1)
    exact (gd_put0 s 3 _ (g_ref (by omega) (by omega)) rfl).of (by rw [if_neg (by omega)]; omega)
  rw [if_neg g1]
  by_cases g4 : e.kind = 4
  · rw [if_pos g4]
    have key : ∀ k, k ≤ e.args.length → Gd (cFs (e.args.take k)) s (allF ((e.args.take k).map cpT) names s) := by
      intro k
      induction k with
      | zero => intro _; exact Gd.refl _
      | succ k ihk =>
        intro hk
        have h1 := ihk (by omega)
        have h2 := ih _ (mem_bang (show k < e.args.length by omega)) names (allF ((e.args.take k).map cpT) names s) (hpa _ (mem_bang (by omega))) (cov_same hc (.inl g4) (by omega)) (by have := h1.len; omega)
        rw [allF_step e names s (by omega)]
        refine (h1.trans h2).of ?_
        rw [take_snoc e.args k (by omega), cFs_app, cFs, cFs]; omega
    have h := key e.args.length (Nat.le_refl _)
    rw [List.take_length] at h
    have ho := op_num (f4 g4)
    exact (h.trans (gd_put0 _ 4 _ (g_op ho) rfl)).of (by rw [if_neg (by omega)]; omega)
  rw [if_neg g4]
  by_cases g5 : e.kind = 5
  · have hl5 := k5 g5
    rw [if_pos g5, ifF]
    rw [map_bang cpT (by omega), map_bang cpT (by omega), map_bang cpT (by omega), cFs_three hl5, if_neg (by omega)]
    have a1 := fun s' h => ih _ (mem_bang (show 0 < e.args.length by omega)) names s' (hpa _ (mem_bang (by omega))) (cov_same hc (.inr (.inl g5)) (by omega)) h
    have a2 := fun s' h => ih _ (mem_bang (show 1 < e.args.length by omega)) names s' (hpa _ (mem_bang (by omega))) (cov_same hc (.inr (.inl g5)) (by omega)) h
    have a3 := fun s' h => ih _ (mem_bang (show 2 < e.args.length by omega)) names s' (hpa _ (mem_bang (by omega))) (cov_same hc (.inr (.inl g5)) (by omega)) h
    have b1 := a1 s hL
    obtain ⟨A, hA⟩ : ∃ A, A = cpT e.args[0]! names s := ⟨_, rfl⟩
    rw [← hA] at b1 ⊢
    have p1 := gd_put0 A 6 0 (g_ref (by omega) (by omega)) rfl
    have o1 : ((putC A 6 0).code[A.code.length]!).op = 6 := by unfold putC; rw [at_end]
    have n1 : (putC A 6 0).code.length = A.code.length + 1 := putC_len ..
    have b2 := a2 (putC A 6 0) (by have := b1.len; omega)
    obtain ⟨B, hB⟩ : ∃ B, B = cpT e.args[1]! names (putC A 6 0) := ⟨_, rfl⟩
    rw [← hB] at b2 ⊢
    have p2 := gd_put0 B 5 0 (g_ref (by omega) (by omega)) rfl
    have o2 : ((putC B 5 0).code[B.code.length]!).op = 5 := by unfold putC; rw [at_end]
    have n2 : (putC B 5 0).code.length = B.code.length + 1 := putC_len ..
    have lb := b2.len
    have o1' : ((putC B 5 0).code[A.code.length]!).op = 6 := by rw [p2.ops _ (by omega), b2.ops _ (by omega), o1]
    have p3 := gd_set (putC B 5 0) A.code.length (putC B 5 0).code.length (by omega) (by omega) (by omega)
    have b3 := a3 (setA (putC B 5 0) A.code.length (putC B 5 0).code.length) (by rw [setA_len]; have := b1.len; omega)
    have n3 : (setA (putC B 5 0) A.code.length (putC B 5 0).code.length).code.length = B.code.length + 1 := by rw [setA_len]; exact n2
    have o2' : ((setA (putC B 5 0) A.code.length (putC B 5 0).code.length).code[B.code.length]!).op = 5 := by rw [p3.ops _ (by omega), o2]
    obtain ⟨S, hS⟩ : ∃ S, S = setA (putC B 5 0) A.code.length (putC B 5 0).code.length := ⟨_, rfl⟩
    rw [← hS] at b3 n3 o2' p3 ⊢
    obtain ⟨C, hC⟩ : ∃ C, C = cpT e.args[2]! names S := ⟨_, rfl⟩
    rw [← hC] at b3 ⊢
    have lc := b3.len
    have p4 := gd_set C B.code.length C.code.length (by omega) (by rw [b3.ops _ (by omega)]; omega) (by omega)
    exact ((((((b1.trans p1).trans b2).trans p2).trans p3).trans b3).trans p4).of (by omega)
  rw [if_neg g5]
  by_cases g6 : e.kind = 6
  · have hl6 := k6 g6
    rw [if_pos g6, cFs_one hl6, if_pos (.inl g6)]
    have p1 := gd_put s 7 0 (g_ref (by omega) (by omega))
    have n1 : (putC s 7 0).code.length = s.code.length + 1 := putC_len ..
    have o1 : ((putC s 7 0).code[s.code.length]!).op = 7 := by unfold putC; rw [at_end]
    exact (p1.trans (gd_add (putC s 7 0) ⟨s.code.length, names ++ [e.name], e.args[0]!⟩ ⟨by simp only; omega, by simp only [Int.toNat_natCast]; exact .inl o1, by simp only [List.length_append, List.length_cons, List.length_nil]; omega, hpa _ (mem_bang (by omega)), cov_lam hc g6 hl6⟩)).of (by
      rw [show mkB 7 = true from rfl, if_pos rfl])
  rw [if_neg g6]
  by_cases g9 : e.kind = 9
  · have hl9 := k9 g9
    rw [if_pos g9, cFs_one hl9, if_pos (.inr g9)]
    have p1 := gd_put s 8 0 (g_ref (by omega) (by omega))
    have n1 : (putC s 8 0).code.length = s.code.length + 1 := putC_len ..
    have o1 : ((putC s 8 0).code[s.code.length]!).op = 8 := by unfold putC; rw [at_end]
    exact (p1.trans (gd_add (putC s 8 0) ⟨s.code.length, names ++ [e.name, e.other], e.args[0]!⟩ ⟨by simp only; omega, by simp only [Int.toNat_natCast]; exact .inr o1, by simp only [List.length_append, List.length_cons, List.length_nil]; omega, hpa _ (mem_bang (by omega)), cov_rec hc g9 hl9⟩)).of (by
      rw [show mkB 8 = true from rfl, if_pos rfl])
  rw [if_neg g9]
  by_cases g7 : e.kind = 7
  · have hl7 := k7 g7
    rw [if_pos g7, map_bang cpT (by omega), map_bang cpT (by omega), cFs_two hl7, if_neg (by omega)]
    have b1 := ih _ (mem_bang (show 0 < e.args.length by omega)) names s (hpa _ (mem_bang (by omega))) (cov_same hc (.inr (.inr g7)) (by omega)) hL
    have b2 := ih _ (mem_bang (show 1 < e.args.length by omega)) names (cpT e.args[0]! names s) (hpa _ (mem_bang (by omega))) (cov_same hc (.inr (.inr g7)) (by omega)) (by have := b1.len; omega)
    exact ((b1.trans b2).trans (gd_put0 _ 9 0 (g_end (by omega)) rfl)).of (by omega)
  rw [if_neg g7]
  have g8 : e.kind = 8 := by omega
  have hl8 := k8 g8
  rw [if_pos g8, map_bang cpT (by omega), map_bang cpT (by omega), cFs_two hl8, if_neg (by omega)]
  have b1 := ih _ (mem_bang (show 0 < e.args.length by omega)) names s (hpa _ (mem_bang (by omega))) (cov_let0 hc g8 hl8) hL
  have p1 := gd_put0 (cpT e.args[0]! names s) 11 0 (g_end (by omega)) rfl
  have n1 := putC_len (cpT e.args[0]! names s) 11 0
  have b2 := ih _ (mem_bang (show 1 < e.args.length by omega)) (names ++ [e.name]) (putC (cpT e.args[0]! names s) 11 0) (hpa _ (mem_bang (by omega))) (cov_let1 hc g8 hl8) (by have := b1.len; simp only [List.length_append, List.length_cons, List.length_nil]; omega)
  exact (((b1.trans p1).trans b2).trans (gd_put0 _ 12 0 (g_end (by omega)) rfl)).of (by omega)
structure Iv (c i:Nat) (s:CS):Prop where
 good:∀ x ∈ s.code,gIn s.code.length x
 cnt:nM s.code+cQ s.q=c+cQ (s.q.take i)
 q:∀ x ∈ s.q,WN s x∧x.nms.length≤s.code.length
 lst:∃ l,s.code=l++[⟨10,0⟩]
 le:i≤s.q.length
theorem iv_put {c i n:Nat} {s s':CS} (h:Gd n s s') (hg:∀ x ∈ s.code,gIn (s.code.length+1) x) (hc:nM s.code+cQ s.q+n=c+cQ (s.q.take i)) (hq:∀ x ∈ s.q,WN s x) (hi:i≤s.q.length):Iv c i (putC s' 10 0):=by
 have p:=gd_put0 s' 10 0 (g_end (by omega)) rfl
 have hn:(putC s' 10 0).code.length=s'.code.length+1:=putC_len ..
 have hcnt:=h.cnt
 obtain ⟨t,ht⟩:=h.pre
 refine ⟨fun x hx => ?_, ?_,fun x hx => ?_,⟨s'.code,rfl⟩, ?_⟩
 ·rw [hn]
  unfold putC at hx
  rcases List.mem_append.1 hx with hx | hx
  ·exact h.good hg x hx
  ·rw [List.mem_singleton.1 hx];exact g_end (by omega)
 ·have hp:=p.cnt
  rw [putC_q] at hp ⊢
  rw [show s'.q.take i=s.q.take i from by rw [ht,List.take_append_of_le_length hi]]
  omega
 ·rw [putC_q] at hx
  have w:WN s' x:=by
   rcases h.new x hx with hx | hx
   ·exact (hq x hx).up h.len h.ops
   ·exact hx
  have:=w.nm
  exact ⟨w.up p.len p.ops,by omega⟩
 ·rw [putC_q,ht];simp;omega
theorem iv_first {e:Tm} (hp:plT e=true) (hc:Cov [] e):Iv (cF e) 0 (putC (cpT e [] ⟨[],[]⟩) 10 0) :=
 iv_put (cp_gd e [] ⟨[],[]⟩ hp hc (Nat.le_refl _)) (fun x hx=>by cases hx) (by
  show nM []+cQ []+cF e=cF e+cQ []
  rw [show nM []=0 from rfl];omega) (fun x hx=>by cases hx) (Nat.le_refl _)
theorem iv_step {c i:Nat} {s:CS} (h:Iv c i s) (hi:i<s.q.length):Iv c (i+1) (putC (cpT (s.q[i]!).body (s.q[i]!).nms (setA s (s.q[i]!).pl.toNat s.code.length)) 10 0):=by
 obtain ⟨w,hnm⟩:=h.q _ (mem_bang hi)
 have hpl:=w.pl
 have st:=gd_set s (s.q[i]!).pl.toNat s.code.length (by omega) (by have:=w.op;omega) (by omega)
 have hn:(setA s (s.q[i]!).pl.toNat s.code.length).code.length=s.code.length:=setA_len ..
 have g:=cp_gd (s.q[i]!).body (s.q[i]!).nms (setA s (s.q[i]!).pl.toNat s.code.length) w.pt w.cv (by omega)
 have hs:=st.cnt
 have hc:=h.cnt
 refine iv_put g (st.good fun x hx=>(h.good x hx).mono (by omega)) ?_ (fun x hx=>(h.q x hx).1.up st.len st.ops) hi
 rw [setA_q] at hs ⊢
 rw [take_snoc s.q i hi,cQ_app]
 have:cQ [s.q[i]!]=cF (s.q[i]!).body:=by unfold cQ;simp
 omega
theorem iv_fin {c : Nat} : ∀ (f i : Nat) (s : CS), Iv c i s → 302 ≤ f + s.code.length → ∃ j, Iv c j (cmL f i s) ∧ (300 < (cmL f i s).code.length ∨ (cmL f i s).q.length ≤ j)
  | 0, i, s, h, hf => ⟨i, h, .inl (by rw [cmL]; omega)⟩
  | f + 1, i, s, h, hf => by
    rw [cmL]
    split
    · rename_i hc
      have h2 := iv_step h hc.1
      refine iv_fin f (i + 1) _ h2 ?_
      have g := h.q _ (mem_bang hc.1)
      obtain ⟨w, hnm⟩ := g
      have hl := (cp_gd (s.q[i]!).body (s.q[i]!).nms (setA s (s.q[i]!).pl.toNat s.code.length) w.pt w.cv (by rw [setA_len]; omega)).len
      rw [setA_len] at hl
      rw [putC_len]; omega
    · rename_i hc
      exact ⟨i, h, by
        by_cases hq : i < s.q.length
        · exact .inl (by omega)
        · exact .inr (by omega)⟩
theorem cm_law (e:Tm):(∀ x ∈ (cmR e).1,insB x=true)∧((cmR e).2=true→nM (cmR e).1=cF e∧∃ l,(cmR e).1=l++[⟨10,0⟩]):=by
 unfold cmR
 split
 case isFalse=>exact ⟨fun x hx=>(by cases hx),fun h=>absurd h (by decide)⟩
 rename_i hb
 split
 case isTrue=>exact ⟨fun x hx=>(by cases hx),fun h=>absurd h (by decide)⟩
 rename_i hl
 unfold cmB at hb
 rw [Bool.and_eq_true,decide_eq_true_eq] at hb
 have hf:freeT e=[]:=List.eq_nil_of_length_eq_zero (by omega)
 obtain ⟨j,hj,hd⟩:=iv_fin 400 0 _ (iv_first hb.1 (Cov.nil hf)) (by omega)
 change Iv (cF e) j (cmS e) at hj
 change 300<(cmS e).code.length∨(cmS e).q.length≤j at hd
 refine ⟨fun x hx=>((hj.good x hx).mono (by omega)).ins,fun _=>⟨?_,hj.lst⟩⟩
 have hc:=hj.cnt
 rw [List.take_of_length_le (by omega)] at hc
 show nM (cmS e).code=cF e
 omega
end Go.Proofs.YtaidalilfmjfgaaGreat
