import Derived.Test.YtaidalilfmjfgaaGreatAI0
import Derived.Test.YtaidalilfmjfgaaGreatGI
namespace Go.Proofs.YtaidalilfmjfgaaGreat
open Go.RowKit
set_option linter.unusedVariables false
set_option linter.unusedSimpArgs false
mutual
def AW (w:World) (S:Nat→Prop):D→Value→Prop
 | .int n,v=>v = .int .i64 n
 | .bool b,v=>v = .bool b
 | .str s,v=>v = .string s
 | .any,v=>v.oneCell'=true
 | .byt n,v=>v = .int .u8 n
 | .rows sz n cs,v=>∃ a cap,v = .slice a n cap∧n≤cap∧cap≤maxLen∧cs.length=n * sz∧(n=0∨∃ b off vs,a=some ⟨b,off,none⟩∧S b∧Ey w b off vs∧An w S cs vs)
def An (w:World) (S:Nat→Prop):List D→List Value→Prop
 | [],vs=>vs=[]
 | d :: cs,vs=>∃ v r,vs=v :: r∧AW w S d v∧An w S cs r
end
mutual
theorem AW.mono {w w':World} {S S':Nat→Prop} (hS:∀ k,S k→S' k) (hw:∀ k,S k→w'.heap[k]? = w.heap[k]?):∀ (d:D) (v:Value),AW w S d v→AW w' S' d v
 | .int n,v,h=>by unfold AW at h ⊢; exact h
 | .bool b,v,h=>by unfold AW at h ⊢; exact h
 | .str s,v,h=>by unfold AW at h ⊢; exact h
 | .any,v,h=>by unfold AW at h ⊢; exact h
 | .byt n,v,h=>by unfold AW at h ⊢; exact h
 | .rows sz n cs,v,h=>by
  unfold AW at h ⊢
  obtain ⟨a,cap,h1,h2,h3,h4,h5⟩:=h
  refine ⟨a,cap,h1,h2,h3,h4, ?_⟩
  rcases h5 with h5 | ⟨b,off,vs,ha,hb,hc,hl⟩
  ·exact .inl h5
  ·exact .inr ⟨b,off,vs,ha,hS b hb,hc.keep (hw b hb),An.mono hS hw cs vs hl⟩
theorem An.mono {w w':World} {S S':Nat→Prop} (hS:∀ k,S k→S' k) (hw:∀ k,S k→w'.heap[k]? = w.heap[k]?):∀ (cs:List D) (vs:List Value),An w S cs vs→An w' S' cs vs
 | [],_,h=>by unfold An at h ⊢; exact h
 | d :: cs,vs,h=>by
  unfold An at h ⊢
  obtain ⟨v,r,e,hv,h2⟩:=h
  exact ⟨v,r,e,AW.mono hS hw d v hv,An.mono hS hw cs r h2⟩
end
mutual
theorem AW.v {w:World} {S:Nat}:∀ (d:D) (v:Value),AW w (· < S) d v→EM w S d v
 | .int n,v,h=>by unfold AW at h;unfold EM;exact h
 | .bool b,v,h=>by unfold AW at h;unfold EM;exact h
 | .str s,v,h=>by unfold AW at h;unfold EM;exact h
 | .any,v,h=>by unfold AW at h;unfold EM;exact h
 | .byt n,v,h=>by unfold AW at h;unfold EM;exact h
 | .rows sz n cs,v,h=>by
  unfold AW at h
  unfold EM
  obtain ⟨a,cap,h1,h2,h3,h4,h5⟩:=h
  refine ⟨a,cap,h1,h2,h3,h4, ?_⟩
  rcases h5 with h5 | ⟨b,off,vs,ha,hb,hc,hl⟩
  ·exact .inl h5
  ·exact .inr ⟨b,off,vs,ha,hb,hc,An.v cs vs hl⟩
theorem An.v {w:World} {S:Nat}:∀ (d:List D) (v:List Value),An w (· < S) d v→Di w S d v
 | [],_,h=>by unfold An at h;unfold Di;exact h
 | d :: cs,vs,h=>by
  unfold An at h
  unfold Di
  obtain ⟨v,r,e,hv,h2⟩:=h
  exact ⟨v,r,e,AW.v d v hv,An.v cs r h2⟩
end
mutual
theorem EM.p {w:World} {S:Nat}:∀ (d:D) (v:Value),EM w S d v→AW w (· < S) d v
 | .int n,v,h=>by unfold EM at h;unfold AW;exact h
 | .bool b,v,h=>by unfold EM at h;unfold AW;exact h
 | .str s,v,h=>by unfold EM at h;unfold AW;exact h
 | .any,v,h=>by unfold EM at h;unfold AW;exact h
 | .byt n,v,h=>by unfold EM at h;unfold AW;exact h
 | .rows sz n cs,v,h=>by
  unfold EM at h
  unfold AW
  obtain ⟨a,cap,h1,h2,h3,h4,h5⟩:=h
  refine ⟨a,cap,h1,h2,h3,h4, ?_⟩
  rcases h5 with h5 | ⟨b,off,vs,ha,hb,hc,hl⟩
  ·exact .inl h5
  ·exact .inr ⟨b,off,vs,ha,hb,hc,Di.p cs vs hl⟩
theorem Di.p {w:World} {S:Nat}:∀ (d:List D) (v:List Value),Di w S d v→An w (· < S) d v
 | [],_,h=>by unfold Di at h;unfold An;exact h
 | d :: cs,vs,h=>by
  unfold Di at h
  unfold An
  obtain ⟨v,r,e,hv,h2⟩:=h
  exact ⟨v,r,e,EM.p d v hv,Di.p cs r h2⟩
end
mutual
theorem Ch.p {w:World} {S:Nat→Prop}:∀ (d:D) (v:Value) (fp:List Nat),Ch w d v fp→(∀ k ∈ fp,S k)→AW w S d v
 | .int n,v,fp,h,_=>by unfold Ch at h;unfold AW;exact h.1
 | .bool b,v,fp,h,_=>by unfold Ch at h;unfold AW;exact h.1
 | .str s,v,fp,h,_=>by unfold Ch at h;unfold AW;exact h.1
 | .any,v,fp,h,_=>by unfold Ch at h;unfold AW;exact h.1
 | .byt n,v,fp,h,_=>by unfold Ch at h;unfold AW;exact h.1
 | .rows sz n cs,v,fp,h,hS=>by
  unfold Ch at h
  unfold AW
  obtain ⟨a,cap,h1,h2,h3,h4,h5⟩:=h
  refine ⟨a,cap,h1,h2,h3,h4, ?_⟩
  rcases h5 with ⟨h0,_⟩ | ⟨b,off,vs,f,ha,hb,rfl,hz,hc,hl⟩
  ·exact .inl h0
  ·exact .inr ⟨b,off,vs,ha,hS b (by simp),hc,Ao.p cs vs f hl fun k hk=>hS k (by simp [hk])⟩
theorem Ao.p {w:World} {S:Nat→Prop}:∀ (cs:List D) (vs:List Value) (fp:List Nat),Ao w cs vs fp→(∀ k ∈ fp,S k)→An w S cs vs
 | [],vs,fp,h,_=>by unfold Ao at h;unfold An;exact h.1
 | d :: cs,vs,fp,h,hS=>by
  unfold Ao at h
  unfold An
  obtain ⟨v,r,f1,f2,e1,rfl,hv,h2⟩:=h
  exact ⟨v,r,e1,Ch.p d v f1 hv fun k hk=>hS k (by simp [hk]),Ao.p cs r f2 h2 fun k hk=>hS k (by simp [hk])⟩
end
theorem An.len {w:World} {S:Nat→Prop}:∀ (cs:List D) (vs:List Value),An w S cs vs→vs.length=cs.length
 | [],vs,h=>by unfold An at h;subst h;rfl
 | d :: cs,vs,h=>by
  unfold An at h
  obtain ⟨v,r,rfl,_,h2⟩:=h
  simp [An.len cs r h2]
theorem An.take {w:World} {S:Nat→Prop}:∀ (n:Nat) (cs:List D) (vs:List Value),An w S cs vs→An w S (cs.take n) (vs.take n)
 | 0,cs,vs,_=>by simp;unfold An;rfl
 | n+1,[],vs,h=>by unfold An at h;subst h;simp;unfold An;rfl
 | n+1,d :: cs,vs,h=>by
  unfold An at h
  obtain ⟨v,r,rfl,h1,h2⟩:=h
  simp only [List.take_succ_cons]
  unfold An
  exact ⟨_,_,rfl,h1,An.take n cs r h2⟩
theorem An.drop {w:World} {S:Nat→Prop}:∀ (n:Nat) (cs:List D) (vs:List Value),An w S cs vs→An w S (cs.drop n) (vs.drop n)
 | 0,cs,vs,h=>by simpa using h
 | n+1,[],vs,h=>by unfold An at h;subst h;simp;unfold An;rfl
 | n+1,d :: cs,vs,h=>by
  unfold An at h
  obtain ⟨v,r,rfl,h1,h2⟩:=h
  simpa using An.drop n cs r h2
theorem An.append {w:World} {S:Nat→Prop}:∀ (cs ds:List D) (vs us:List Value),An w S cs vs→An w S ds us→An w S (cs++ds) (vs++us)
 | [],ds,vs,us,h,h'=>by unfold An at h;subst h;exact h'
 | d :: cs,ds,vs,us,h,h'=>by
  unfold An at h
  obtain ⟨v,r,rfl,h1,h2⟩:=h
  rw [List.cons_append,List.cons_append];unfold An
  exact ⟨_,_,rfl,h1,An.append cs ds r us h2 h'⟩
theorem AW.cell {w:World} {S:Nat→Prop} {sz n:Nat} {cs:List D} {a:Option Addr} {len cap k:Nat} (h:AW w S (.rows sz n cs) (.slice a len cap)) (hk:k<n) :
  ∃ b off vs,a=some ⟨b,off,none⟩∧S b∧Ey w b off vs∧An w S cs vs∧vs.length=n * sz∧len=n:=by
 unfold AW at h
 obtain ⟨a',cap',e,h2,h3,h4,h5⟩:=h
 injection e with e1 e2 e3
 subst e1
 rcases h5 with h5 | ⟨b,off,vs,ha,hb,hc,hl⟩
 ·omega
 ·exact ⟨b,off,vs,ha,hb,hc,hl,hl.len.trans h4,e2⟩
theorem AW.shape {w:World} {S:Nat→Prop} {sz n:Nat} {cs:List D} {v:Value} (h:AW w S (.rows sz n cs) v):∃ a cap,v = .slice a n cap∧n≤cap∧cap≤maxLen∧cs.length=n * sz:=by
 unfold AW at h
 obtain ⟨a',cap',e,h2,h3,h4,h5⟩:=h
 exact ⟨a',cap',e,h2,h3,h4⟩
inductive AV where
 | i (n:Int)
 | b (x:Bool)
 | s (x:ByteArray)
 | y (n:Int)
 | nl (sz:Nat)
 | x (v:Value)
 | sl (o:Nat)
 | sp (o:Nat) (d:D)
 | br (d:D)
 | cl (d:D)
 | bx (b off:Nat)
 | eb (d:D) (k off:Nat)
 | eo (o k off:Nat)
 | fn (f:FuncId) (cap:List AV)
 | ag (cs:List AV)
 | tu (vs:List AV)
 | rp (cs:List AV)
 | un
structure Cb where
 d:D
 ap:Option TypeId
 deep:Bool
structure AS where
 nt:Nat
 tm:List (Nat × AV)
 bx:List (Nat × List AV)
 ow:List (Nat × Option Cb)
 nx:Nat
 pb:List Nat
def AO {α:Type}:List (Nat × α)→Nat→Option α
 | [],_=>none
 | (k,v) :: r,i=>if i=k then some v else AO r i
def AS.owf (s:AS) (o:Nat):Option Cb:=(AO s.ow o).bind id
structure Gh where
 B:Nat→List Nat
 root:Nat→Value
 β:Nat→Nat
 Z:Nat→Prop
mutual
def RV (G:Gh) (w:World) (owf:Nat→Option Cb) (nx:Nat):AV→Value→Prop
 | .i n,v=>v = .int .i64 n
 | .b x,v=>v = .bool x
 | .s x,v=>v = .string x
 | .y n,v=>v = .int .u8 n
 | .nl _,v=>∃ a,v = .slice a 0 0
 | .x x,v=>v=x∧x.oneCell'=true
 | .sl o,v=>o<nx∧v.oneCell'=true∧∀ I,owf o=some I→v=G.root o
 | .sp o d,v=>o<nx∧v.oneCell'=true∧∀ I,owf o=some I→AW w (fun k=>G.Z k∨k ∈ G.B o) d v
 | .br d,v=>AW w G.Z d v
 | .cl d,v=>(∃ a n,v = .slice a n n)∧AW w G.Z d v
 | .bx b off,v=>b<nx∧v = .pointer (some ⟨G.β b,off,none⟩)
 | .eb d k off,v=>∃ sz n cs a o0 len cap,d = .rows sz n cs∧v = .pointer (some ⟨a,o0+k * sz+off,none⟩)∧AW w G.Z d (.slice (some ⟨a,o0,none⟩) len cap)∧k<n
 | .eo o k off,v=>o<nx∧v.oneCell'=true∧∀ I,owf o=some I→∃ sz n cs a o0 len cap,I.d = .rows sz n cs∧G.root o = .slice (some ⟨a,o0,none⟩) len cap∧v = .pointer (some ⟨a,o0+k * sz+off,none⟩)∧k<n
 | .fn f cap,v=>∃ us,v = .func (.func f) #[] us.toArray∧RVs G w owf nx cap us
 | .ag cs,v=>∃ us,v = .agg us.toArray∧RVs G w owf nx cs us
 | .tu vs,v=>∃ us,v = .tuple us.toArray∧RVs G w owf nx vs us
 | .rp cs,v=>∃ g us T,v = .pointer (some ⟨g,0,none⟩)∧G.Z g∧Blk w g T us.toArray∧RVs G w owf nx cs us
 | .un,_=>True
def RVs (G:Gh) (w:World) (owf:Nat→Option Cb) (nx:Nat):List AV→List Value→Prop
 | [],us=>us=[]
 | a :: l,us=>∃ u r,us=u :: r∧RV G w owf nx a u∧RVs G w owf nx l r
end
structure Aq extends World where
 mv:Nat→Prop
 wr:Nat→Prop
 pb:Nat→Nat
 pv:Nat→Option Value
 zs:Nat→Prop
 wm:∀ k,wr k→mv k
 mw:∀ k,mv k→wr k
 gi:∀ w':World,toWorld.heap.size≤w'.heap.size→(∀ k,k<toWorld.heap.size→¬ wr k→w'.heap[k]? = toWorld.heap[k]?)→GI w'
 gz:∀ k ∈ GBl,zs k
def Cm:Value→List Nat
 | .slice (some a) _ (_+1)=>[a.block]
 | _=>[]
def aGK:Value→Option Nat
 | .slice (some a) _ (_+1)=>some a.block
 | _=>none
def Jq (w:World) (T:TypeId) (sz:Nat) (v:Value) (n:Nat) (vs:List Value):Prop :=
 vs.length=n * sz∧((∃ a,v = .slice a 0 0∧n=0)∨∃ g o cap cur,v = .slice (some ⟨g,o,none⟩) n (cap+1)∧w.heap[g]? = some (.cells cur T (0,0))∧n≤cap+1∧cap+1≤maxLen∧o+(cap+1) * sz≤cur.size∧(cur.toList.drop o).take (n * sz)=vs)
theorem Fg (w:World) (T:TypeId) (sz:Nat) (a:Option Addr):Jq w T sz (.slice a 0 0) 0 []:=⟨by simp,.inl ⟨a,rfl,rfl⟩⟩
theorem IQ {w : World} {b : Nat} {T : TypeId} {sz n : Nat} {v : Value} {vs : List Value} (h : w.ownsRow b T sz v n vs) : Jq w T sz v n vs := by
  refine ⟨h.1, ?_⟩
  rcases h.2 with ⟨rfl, rfl⟩ | ⟨g, cap, cur, rfl, _, hh, hnc, hcm, hcs, ht⟩
  · exact .inl ⟨none, rfl, rfl⟩
  · cases cap with
    | zero => obtain rfl : n = 0 := by omega
              exact .inl ⟨_, rfl, rfl⟩
    | succ cap => exact .inr ⟨g, 0, cap, cur, rfl, hh, hnc, hcm, by omega, by simpa using ht⟩
def Res (w0 : Aq) (Z : Nat → Prop) (w : World) (B : List Nat) (v : Value) (I : Cb) : Prop :=
  (∀ k ∈ B, (¬ Z k ∧ (w0.heap.size ≤ k ∨ w0.mv k)) ∧ k < w.heap.size) ∧ AW w (fun k => Z k ∨ k ∈ B) I.d v ∧ (I.deep = true → Ch w I.d v B ∧ B.Nodup) ∧
  (∀ T, I.ap = some T → ∃ sz n cs vs, I.d = .rows sz n cs ∧ Jq w T sz v n vs ∧ An w (fun k => Z k ∨ (k ∈ B ∧ k ∉ Cm v)) cs vs ∧ (∀ k ∈ Cm v, k ∈ B ∧ (w0.heap.size ≤ k ∨ w0.wr k)) ∧
     (∀ u ∈ vs, u.oneCell' = true) ∧ (I.deep = true → ∃ fp, Ao w cs vs fp ∧ fp.Nodup ∧ ∀ k ∈ fp, k ∈ B ∧ k ∉ Cm v))
structure Bel (M:Nat→Prop) (w w':World):Prop where
 os:w'.os=w.os
 tape:w'.tape=w.tape
 output:w'.output=w.output
 size:w.heap.size≤w'.heap.size
 block:∀ k,k<w.heap.size→¬ M k→w'.heap[k]? = w.heap[k]?
theorem Bel.refl (M:Nat→Prop) (w:World):Bel M w w:=⟨rfl,rfl,rfl,Nat.le_refl _,fun _ _ _=>rfl⟩
theorem Bel.trans {M:Nat→Prop} {a b c:World} (h:Bel M a b) (k:Bel M b c):Bel M a c :=
 ⟨k.os.trans h.os,k.tape.trans h.tape,k.output.trans h.output,Nat.le_trans h.size k.size,fun i hi hm=>(k.block i (Nat.lt_of_lt_of_le hi h.size) hm).trans (h.block i hi hm)⟩
theorem aA5 {M:Nat→Prop} {a b:World} (h:Below a.heap.size a b):Bel M a b:=⟨h.os,h.tape,h.output,h.size,fun k hk _=>h.block k hk⟩
theorem Bel.below {M:Nat→Prop} {a b:World} (h:Bel M a b) (hm:∀ k,¬ M k):Below a.heap.size a b:=⟨h.os,h.tape,h.output,h.size,fun k hk=>h.block k hk (hm k)⟩
structure Rel (w0:Aq) (G:Gh) (s:AS) (a:Act) (w:World):Prop where
 nt:a.tmps.size=s.nt
 df:a.defers=[]
 tm:∀ t v,AO s.tm t=some v→∃ u,a.tmps[t]? = some u∧RV G w s.owf s.nx v u
 bx:∀ b cs,AO s.bx b=some cs→b<s.nx∧(¬ G.Z (G.β b)∧(w0.heap.size≤G.β b∨w0.wr (G.β b)))∧∃ us T,Blk w (G.β b) T us.toArray∧RVs G w s.owf s.nx cs us
 inj:∀ b b' cs cs',AO s.bx b=some cs→AO s.bx b'=some cs'→G.β b=G.β b'→b=b'
 own:∀ o I,s.owf o=some I→o<s.nx∧Res w0 G.Z w (G.B o) (G.root o) I∧∀ b cs,AO s.bx b=some cs→G.β b ∉ G.B o
 dis:∀ o o' I I',s.owf o=some I→s.owf o'=some I'→o≠o'→∀ k ∈ G.B o,k ∉ G.B o'
 bel:Bel w0.wr w0.toWorld w
 zl:∀ k,G.Z k→k<w.heap.size
 pb:∀ i b,s.pb[i]? = some b→b<s.nx∧w0.pb i=G.β b∧∀ v,w0.pv i=some v→G.root b=v
 zz:(∀ k,w0.zs k→G.Z k)∧∀ k,G.Z k→w0.zs k∨w0.mv k∨w0.heap.size≤k
mutual
theorem RV.turn {nx nx':Nat} {G G':Gh} {w w':World} {owf owf':Nat→Option Cb} (hnx:nx≤nx') (hb:∀ k,G.Z k→G'.Z k∧w'.heap[k]? = w.heap[k]?) (hβ:∀ b,b<nx→G'.β b=G.β b)
  (ho:∀ o I,o<nx→owf' o=some I→owf o=some I∧G'.root o=G.root o∧G'.B o=G.B o∧∀ k ∈ G.B o,w'.heap[k]? = w.heap[k]?):∀ (v:AV) (u:Value),RV G w owf nx v u→RV G' w' owf' nx' v u
 | .i n,u,h=>by unfold RV at h ⊢; exact h
 | .b n,u,h=>by unfold RV at h ⊢; exact h
 | .s n,u,h=>by unfold RV at h ⊢; exact h
 | .y n,u,h=>by unfold RV at h ⊢; exact h
 | .nl _,u,h=>by unfold RV at h ⊢; exact h
 | .x _,u,h=>by unfold RV at h ⊢; exact h
 | .sl o,u,h=>by
  unfold RV at h ⊢
  refine ⟨by omega,h.2.1,fun I hI => ?_⟩
  obtain ⟨h1,h2,_⟩:=ho o I h.1 hI
  rw [h2];exact h.2.2 I h1
 | .sp o d,u,h=>by
  unfold RV at h ⊢
  refine ⟨by omega,h.2.1,fun I hI => ?_⟩
  obtain ⟨h1,_,h3,h4⟩:=ho o I h.1 hI
  rw [h3]
  exact AW.mono (fun k hk=>hk.imp (fun hk=>(hb k hk).1) id) (fun k hk=>hk.elim (fun hk=>(hb k hk).2) (h4 k)) d u (h.2.2 I h1)
 | .br d,u,h=>by unfold RV at h ⊢; exact AW.mono (fun k hk=>(hb k hk).1) (fun k hk=>(hb k hk).2) d u h
 | .cl d,u,h=>by unfold RV at h ⊢; exact ⟨h.1,AW.mono (fun k hk=>(hb k hk).1) (fun k hk=>(hb k hk).2) d u h.2⟩
 | .bx b off,u,h=>by unfold RV at h ⊢; exact ⟨by omega,by rw [hβ b h.1];exact h.2⟩
 | .eb d k off,u,h=>by
  unfold RV at h ⊢
  obtain ⟨sz,n,cs,a,o0,len,cap,h1,h2,h3,h4⟩:=h
  exact ⟨sz,n,cs,a,o0,len,cap,h1,h2,AW.mono (fun k hk=>(hb k hk).1) (fun k hk=>(hb k hk).2) _ _ h3,h4⟩
 | .eo o k off,u,h=>by
  unfold RV at h ⊢
  refine ⟨by omega,h.2.1,fun I hI => ?_⟩
  obtain ⟨h1,h2,_⟩:=ho o I h.1 hI
  rw [h2];exact h.2.2 I h1
 | .fn f cap,u,h=>by
  unfold RV at h ⊢
  obtain ⟨us,e,h⟩:=h
  exact ⟨us,e,RVs.turn hnx hb hβ ho cap us h⟩
 | .ag cs,u,h=>by
  unfold RV at h ⊢
  obtain ⟨us,e,h⟩:=h
  exact ⟨us,e,RVs.turn hnx hb hβ ho cs us h⟩
 | .tu cs,u,h=>by
  unfold RV at h ⊢
  obtain ⟨us,e,h⟩:=h
  exact ⟨us,e,RVs.turn hnx hb hβ ho cs us h⟩
 | .rp cs,u,h=>by
  unfold RV at h ⊢
  obtain ⟨g,us,T,e,hg,hB,h⟩:=h
  exact ⟨g,us,T,e,(hb g hg).1,by unfold Blk at hB ⊢; rw [(hb g hg).2];exact hB,RVs.turn hnx hb hβ ho cs us h⟩
 | .un,u,h=>by unfold RV;trivial
theorem RVs.turn {nx nx':Nat} {G G':Gh} {w w':World} {owf owf':Nat→Option Cb} (hnx:nx≤nx') (hb:∀ k,G.Z k→G'.Z k∧w'.heap[k]? = w.heap[k]?) (hβ:∀ b,b<nx→G'.β b=G.β b)
  (ho:∀ o I,o<nx→owf' o=some I→owf o=some I∧G'.root o=G.root o∧G'.B o=G.B o∧∀ k ∈ G.B o,w'.heap[k]? = w.heap[k]?):∀ (v:List AV) (u:List Value),RVs G w owf nx v u→RVs G' w' owf' nx' v u
 | [],u,h=>by unfold RVs at h ⊢; exact h
 | a :: l,u,h=>by
  unfold RVs at h ⊢
  obtain ⟨x,r,e,h1,h2⟩:=h
  exact ⟨x,r,e,RV.turn hnx hb hβ ho a x h1,RVs.turn hnx hb hβ ho l r h2⟩
end
theorem RVs.len {nx:Nat} {G:Gh} {w:World} {owf:Nat→Option Cb}:∀ (v:List AV) (u:List Value),RVs G w owf nx v u→u.length=v.length
 | [],u,h=>by unfold RVs at h;subst h;rfl
 | a :: l,u,h=>by
  unfold RVs at h
  obtain ⟨x,r,rfl,_,h2⟩:=h
  simp [RVs.len l r h2]
theorem RVs.get {nx:Nat} {G:Gh} {w:World} {owf:Nat→Option Cb}:∀ (v:List AV) (u:List Value) (i:Nat) (a:AV),RVs G w owf nx v u→v[i]? = some a→∃ x,u[i]? = some x∧RV G w owf nx a x
 | [],u,i,a,_,hd=>by simp at hd
 | c :: cs,u,0,a,h,hd=>by
  unfold RVs at h
  obtain ⟨v,r,rfl,h1,_⟩:=h
  simp at hd;subst hd
  exact ⟨v,by simp,h1⟩
 | c :: cs,u,i+1,a,h,hd=>by
  unfold RVs at h
  obtain ⟨v,r,rfl,_,h2⟩:=h
  obtain ⟨x,hx,h3⟩:=RVs.get cs r i a h2 (by simpa using hd)
  exact ⟨x,by simpa using hx,h3⟩
theorem RVs.take {nx:Nat} {G:Gh} {w:World} {owf:Nat→Option Cb}:∀ (n:Nat) (v:List AV) (u:List Value),RVs G w owf nx v u→RVs G w owf nx (v.take n) (u.take n)
 | 0,v,u,_=>by simp;unfold RVs;rfl
 | n+1,[],u,h=>by unfold RVs at h;subst h;simp;unfold RVs;rfl
 | n+1,c :: v,u,h=>by
  unfold RVs at h
  obtain ⟨x,r,rfl,h1,h2⟩:=h
  simp only [List.take_succ_cons]
  unfold RVs
  exact ⟨_,_,rfl,h1,RVs.take n v r h2⟩
theorem RVs.drop {nx:Nat} {G:Gh} {w:World} {owf:Nat→Option Cb}:∀ (n:Nat) (v:List AV) (u:List Value),RVs G w owf nx v u→RVs G w owf nx (v.drop n) (u.drop n)
 | 0,v,u,h=>by simpa using h
 | n+1,[],u,h=>by unfold RVs at h;subst h;simp;unfold RVs;rfl
 | n+1,c :: v,u,h=>by
  unfold RVs at h
  obtain ⟨x,r,rfl,h1,h2⟩:=h
  simpa using RVs.drop n v r h2
theorem RVs.append {nx:Nat} {G:Gh} {w:World} {owf:Nat→Option Cb}:∀ (v v':List AV) (u u':List Value),RVs G w owf nx v u→RVs G w owf nx v' u'→RVs G w owf nx (v++v') (u++u')
 | [],v',u,u',h,h'=>by unfold RVs at h;subst h;exact h'
 | c :: v,v',u,u',h,h'=>by
  unfold RVs at h
  obtain ⟨x,r,rfl,h1,h2⟩:=h
  rw [List.cons_append,List.cons_append];unfold RVs
  exact ⟨_,_,rfl,h1,RVs.append v v' r u' h2 h'⟩
def Flq (G:Gh) (s:AS):Prop:=∀ o I T,s.owf o=some I→I.deep=false→I.ap=some T→∀ k ∈ G.B o,k ∈ Cm (G.root o)
mutual
theorem RV.wide {nx:Nat} {G G':Gh} {w:World} {owf:Nat→Option Cb} (hZ:∀ k,G.Z k→G'.Z k) (hβ:G'.β=G.β) (hr:G'.root=G.root) (hB:∀ o,∀ k ∈ G.B o,G'.Z k∨k ∈ G'.B o):∀ (v:AV) (u:Value),RV G w owf nx v u→RV G' w owf nx v u
 | .i n,u,h=>by unfold RV at h ⊢; exact h
 | .b n,u,h=>by unfold RV at h ⊢; exact h
 | .s n,u,h=>by unfold RV at h ⊢; exact h
 | .y n,u,h=>by unfold RV at h ⊢; exact h
 | .nl _,u,h=>by unfold RV at h ⊢; exact h
 | .x _,u,h=>by unfold RV at h ⊢; exact h
 | .sl o,u,h=>by unfold RV at h ⊢; rw [hr];exact h
 | .sp o d,u,h=>by
  unfold RV at h ⊢
  exact ⟨h.1,h.2.1,fun I hI=>AW.mono (fun k hk=>hk.elim (fun hk => .inl (hZ k hk)) (hB o k)) (fun _ _=>rfl) d u (h.2.2 I hI)⟩
 | .br d,u,h=>by unfold RV at h ⊢; exact AW.mono hZ (fun _ _=>rfl) d u h
 | .cl d,u,h=>by unfold RV at h ⊢; exact ⟨h.1,AW.mono hZ (fun _ _=>rfl) d u h.2⟩
 | .bx b off,u,h=>by unfold RV at h ⊢; rw [hβ];exact h
 | .eb d k off,u,h=>by
  unfold RV at h ⊢
  obtain ⟨sz,n,cs,a,o0,len,cap,h1,h2,h3,h4⟩:=h
  exact ⟨sz,n,cs,a,o0,len,cap,h1,h2,AW.mono hZ (fun _ _=>rfl) _ _ h3,h4⟩
 | .eo o k off,u,h=>by unfold RV at h ⊢; rw [hr];exact h
 | .fn f cap,u,h=>by
  unfold RV at h ⊢
  obtain ⟨us,e,h⟩:=h
  exact ⟨us,e,RVs.wide hZ hβ hr hB cap us h⟩
 | .ag cs,u,h=>by
  unfold RV at h ⊢
  obtain ⟨us,e,h⟩:=h
  exact ⟨us,e,RVs.wide hZ hβ hr hB cs us h⟩
 | .tu cs,u,h=>by
  unfold RV at h ⊢
  obtain ⟨us,e,h⟩:=h
  exact ⟨us,e,RVs.wide hZ hβ hr hB cs us h⟩
 | .rp cs,u,h=>by
  unfold RV at h ⊢
  obtain ⟨g,us,T,e,hg,hb,h⟩:=h
  exact ⟨g,us,T,e,hZ g hg,hb,RVs.wide hZ hβ hr hB cs us h⟩
 | .un,u,h=>by unfold RV;trivial
theorem RVs.wide {nx:Nat} {G G':Gh} {w:World} {owf:Nat→Option Cb} (hZ:∀ k,G.Z k→G'.Z k) (hβ:G'.β=G.β) (hr:G'.root=G.root) (hB:∀ o,∀ k ∈ G.B o,G'.Z k∨k ∈ G'.B o):∀ (v:List AV) (u:List Value),RVs G w owf nx v u→RVs G' w owf nx v u
 | [],u,h=>by unfold RVs at h ⊢; exact h
 | a :: l,u,h=>by
  unfold RVs at h ⊢
  obtain ⟨x,r,e,h1,h2⟩:=h
  exact ⟨x,r,e,RV.wide hZ hβ hr hB a x h1,RVs.wide hZ hβ hr hB l r h2⟩
end
theorem Rel.flq {w0:Aq} {G:Gh} {s:AS} {a:Act} {w:World} (h:Rel w0 G s a w):∃ G',Rel w0 G' s a w∧Flq G' s:=by
 classical
 obtain ⟨nd,hnd⟩:∃ nd:Nat→Prop,∀ o,nd o ↔ ∃ I T,s.owf o=some I∧I.deep=false∧I.ap=some T:=⟨_,fun _=>Iff.rfl⟩
 obtain ⟨G',hG⟩:∃ G':Gh,G'={ G with B:=fun o=>if nd o then (G.B o).filter (fun k=>decide (k ∈ Cm (G.root o))) else G.B o,Z:=fun k=>G.Z k∨∃ o,nd o∧k ∈ G.B o∧k ∉ Cm (G.root o) }:=⟨_,rfl⟩
 have hr:G'.root=G.root:=by rw [hG]
 have hβ:G'.β=G.β:=by rw [hG]
 have hZ:∀ k,G'.Z k ↔ G.Z k∨∃ o,nd o∧k ∈ G.B o∧k ∉ Cm (G.root o):=fun k=>by rw [hG]
 have hB1:∀ o,nd o→∀ k,k ∈ G'.B o ↔ k ∈ G.B o∧k ∈ Cm (G.root o):=fun o ho k=>by
  rw [hG];simp only [if_pos ho,List.mem_filter,decide_eq_true_eq]
 have hB2:∀ o,¬ nd o→G'.B o=G.B o:=fun o ho=>by rw [hG];simp only [if_neg ho]
 have hsub:∀ o,∀ k ∈ G'.B o,k ∈ G.B o:=fun o k hk=>by
  by_cases ho:nd o
  ·exact ((hB1 o ho k).1 hk).1
  ·rw [hB2 o ho] at hk;exact hk
 have hB:∀ o,∀ k ∈ G.B o,G'.Z k∨k ∈ G'.B o:=fun o k hk=>by
  by_cases ho:nd o
  ·by_cases hm:k ∈ Cm (G.root o)
   ·exact .inr ((hB1 o ho k).2 ⟨hk,hm⟩)
   ·exact .inl ((hZ k).2 (.inr ⟨o,ho,hk,hm⟩))
  ·exact .inr (by rw [hB2 o ho];exact hk)
 have hZ':∀ k,G.Z k→G'.Z k:=fun k hk=>(hZ k).2 (.inl hk)
 have live:∀ o,nd o→∃ I,s.owf o=some I:=fun o ho=>by obtain ⟨I,_,hI,_⟩:=(hnd o).1 ho;exact ⟨I,hI⟩
 have deep:∀ o I,s.owf o=some I→I.deep=true→¬ nd o:=fun o I ho hd hn=>by
  obtain ⟨I',_,hI',hd',_⟩:=(hnd o).1 hn
  rw [ho] at hI'; injection hI' with hI'; subst hI'
  rw [hd] at hd'; cases hd'
 refine ⟨G',⟨h.nt,h.df,fun t v ht => ?_,fun b cs hb => ?_, ?_,fun o I ho => ?_,fun o o' I I' ho ho' hne k hk hk'=>h.dis o o' I I' ho ho' hne k (hsub o k hk) (hsub o' k hk'),h.bel,fun k hk => ?_,fun i b hb => ?_,fun k hk=>hZ' k (h.zz.1 k hk),fun k hk => ?_⟩,fun o I T hI hd ha k hk => ?_⟩
 ·obtain ⟨u,hu,hv⟩:=h.tm t v ht
  exact ⟨u,hu,RV.wide hZ' hβ hr hB v u hv⟩
 ·obtain ⟨h1,h2,us,T,h3,h4⟩:=h.bx b cs hb
  refine ⟨h1,⟨fun hz => ?_,by rw [hβ];exact h2.2⟩,us,T,by rw [hβ];exact h3,RVs.wide hZ' hβ hr hB cs us h4⟩
  rw [hβ] at hz
  rcases (hZ _).1 hz with hz | ⟨o,ho,hk,_⟩
  ·exact h2.1 hz
  ·obtain ⟨I,hI⟩:=live o ho
   exact (h.own o I hI).2.2 b cs hb hk
 ·rw [hβ];exact h.inj
 ·obtain ⟨h1,⟨q1,q2,q3,q4⟩,h3⟩:=h.own o I ho
  refine ⟨h1,⟨fun k hk => ?_, ?_,fun hd => ?_,fun T hT => ?_⟩,fun b cs hb hk=>h3 b cs hb (by rw [hβ] at hk;exact hsub o _ hk)⟩
  ·obtain ⟨q5,q6⟩:=q1 k (hsub o k hk)
   refine ⟨⟨fun hz => ?_,q5.2⟩,q6⟩
   rcases (hZ _).1 hz with hz | ⟨o',ho',hk',hn'⟩
   ·exact q5.1 hz
   ·by_cases e:o=o'
    ·subst e
     exact hn' ((hB1 o ho' k).1 hk).2
    ·obtain ⟨I',hI'⟩:=live o' ho'
     exact h.dis o o' I I' ho hI' e k (hsub o k hk) hk'
  ·rw [hr]
   exact AW.mono (fun k hk=>hk.elim (fun hk => .inl (hZ' k hk)) (hB o k)) (fun _ _=>rfl) _ _ q2
  ·rw [hB2 o (deep o I ho hd),hr];exact q3 hd
  ·obtain ⟨sz,n,cs,vs,e,r1,r2,r3,r4,r5⟩:=q4 T hT
   rw [hr]
   refine ⟨sz,n,cs,vs,e,r1,An.mono (fun k hk => ?_) (fun _ _=>rfl) _ _ r2,fun k hk=>⟨?_,(r3 k hk).2⟩,r4,fun hd => ?_⟩
   ·rcases hk with hk | ⟨hk,hn⟩
    ·exact .inl (hZ' k hk)
    ·rcases hB o k hk with hz | hk
     ·exact .inl hz
     ·exact .inr ⟨hk,hn⟩
   ·by_cases hn:nd o
    ·exact (hB1 o hn k).2 ⟨(r3 k hk).1,hk⟩
    ·rw [hB2 o hn];exact (r3 k hk).1
   ·rw [hB2 o (deep o I ho hd)];exact r5 hd
 ·rcases (hZ k).1 hk with hk | ⟨o,ho,hk,_⟩
  ·exact h.zl k hk
  ·obtain ⟨I,hI⟩:=live o ho
   exact ((h.own o I hI).2.1.1 k hk).2
 ·rw [hβ,hr];exact h.pb i b hb
 ·rcases (hZ k).1 hk with hk | ⟨o,ho,hk,_⟩
  ·exact h.zz.2 k hk
  ·obtain ⟨I,hI⟩:=live o ho
   exact ((h.own o I hI).2.1.1 k hk).1.2.elim (fun e => .inr (.inr e)) (fun e => .inr (.inl e))
 ·rw [hr];exact ((hB1 o ((hnd o).2 ⟨I,T,hI,hd,ha⟩) k).1 hk).2
def AS.pt (s:AS) (d:Option Tmp) (v:AV):AS :=
 match d with
 | none=>s
 | some d=>if d<s.nt then { s with tm:=(d,v) :: s.tm } else s
theorem Rel.pt {w0:Aq} {G:Gh} {s:AS} {a:Act} {w:World} (h:Rel w0 G s a w) (d:Option Tmp) {v:AV} {u:Value} (hv:RV G w s.owf s.nx v u):Rel w0 G (s.pt d v) (a.put d u) w:=by
 cases d with
 | none=>exact h
 | some d =>
  by_cases hlt:d<s.nt
  ·have e1:s.pt (some d) v={ s with tm:=(d,v) :: s.tm }:=by simp only [AS.pt,if_pos hlt]
   rw [e1]
   refine ⟨by simp [Act.put,h.nt],by simp [Act.put,h.df],fun t v' ht => ?_,h.bx,h.inj,h.own,h.dis,h.bel,h.zl,h.pb,h.zz⟩
   simp only at ht
   unfold AO at ht
   split at ht
   ·rename_i e
    subst e
    injection ht with ht
    subst ht
    exact ⟨u,by simp [Act.put,h.nt,hlt],hv⟩
   ·rename_i e
    obtain ⟨x,hx,h2⟩:=h.tm t v' ht
    exact ⟨x,by rw [← hx];simp [Act.put,Array.getElem?_setIfInBounds_ne (Ne.symm e)],h2⟩
  ·have e1:s.pt (some d) v=s:=by simp only [AS.pt,if_neg hlt]
   have e2:a.put (some d) u=a:=by
    simp only [Act.put]
    have:a.tmps.size≤d:=by rw [h.nt];exact Nat.not_lt.1 hlt
    rw [Array.setIfInBounds_eq_of_size_le this]
   rw [e1,e2];exact h
def XV:Value→AV
 | .int .i64 n => .i n
 | .int .u8 n => .y n
 | .bool b => .b b
 | .string s => .s s
 | .slice none 0 0 => .nl 0
 | v=>if v.oneCell' then .x v else .un
def cav:Value→AV
 | .int .i64 n => .i n
 | .int .u8 n => .y n
 | .bool b => .b b
 | .string s => .s s
 | .slice none 0 0 => .nl 0
 | .agg us => .ag (us.toList.map XV)
 | v=>if v.oneCell' then .x v else .un
def AS.ev (s:AS):Operand→AV
 | .tmp t=>(AO s.tm t).getD .un
 | .const v=>cav v
 | .func f => .fn f []
 | .global _ => .un
theorem aAM {nx : Nat} {G : Gh} {w : World} {owf : Nat → Option Cb} (v : Value) : RV G w owf nx (XV v) v := by
  unfold XV
  split
  all_goals first
    | (split
       · rename_i h; unfold RV; exact ⟨rfl, h⟩
       · unfold RV; trivial)
    | (unfold RV; rfl)
    | (unfold RV; exact ⟨_, rfl⟩)
theorem Og {nx:Nat} {G:Gh} {w:World} {owf:Nat→Option Cb}:∀ vs:List Value,RVs G w owf nx (vs.map XV) vs
 | []=>by simp;unfold RVs;rfl
 | v :: vs=>by rw [List.map_cons];unfold RVs;exact ⟨v,vs,rfl,aAM v,Og vs⟩
theorem Xy {nx : Nat} {G : Gh} {w : World} {owf : Nat → Option Cb} (v : Value) : RV G w owf nx (cav v) v := by
  unfold cav
  split
  all_goals first
    | (split
       · rename_i h; unfold RV; exact ⟨rfl, h⟩
       · unfold RV; trivial)
    | (unfold RV; exact ⟨_, by simp, Og _⟩)
    | (unfold RV; rfl)
    | (unfold RV; exact ⟨_, rfl⟩)
theorem Rel.ev {w0:Aq} {G:Gh} {s:AS} {a:Act} {w:World} (h:Rel w0 G s a w) (x:Operand):RV G w s.owf s.nx (s.ev x) (a.eval x):=by
 cases x with
 | tmp t =>
  unfold AS.ev
  simp only
  cases hl:AO s.tm t with
  | none=>simp only [Option.getD_none];unfold RV;trivial
  | some v =>
   obtain ⟨u,hu,hv⟩:=h.tm t v hl
   simpa [Act.eval,Array.getD_eq_getD_getElem?,hu] using hv
 | const v=>exact Xy v
 | func f=>unfold AS.ev;simp only;unfold RV;exact ⟨[],rfl,by unfold RVs;rfl⟩
 | global g=>unfold AS.ev;simp only;unfold RV;trivial
def DN (P:Program) (t:TypeId):Option (Option Nat) :=
 match P.underlying t,P.info? t with
 | some (.struct _),some i=>some (some i.size)
 | some (.array _ _),some i=>some (some i.size)
 | some _,some i=>if i.size=1 then some none else none
 | _,_=>none
def BK (P:Program) (t:TypeId):Option (TypeId × Nat) :=
 match P.underlying t with
 | some (.slice e)=>(P.info? e).map fun i=>(e,i.size)
 | _=>none
def Ce (P:Program) (t:TypeId) (f:Nat):Option (Nat × Nat) :=
 match P.underlying t with
 | some (.struct fs)=>match fs[f]? with
  | some x=>(P.info? x.type).map fun i=>(x.offset,i.size)
  | none=>none
 | _=>none
def BP (P:Program) (t:TypeId):Nat :=
 match P.underlying t with
 | some .string=>1
 | some (.slice _)=>2
 | some (.int .i64)=>3
 | some (.int .u8)=>4
 | _=>0
def Yl {α:Type} (P:Program) (w:World) (x:Sem α) (v:α):Prop:=∀ w',Below w.heap.size w w'→x.run P w' = .ok v w'
def Hf (d:D) (k:Nat):List D:=match d with | .rows sz _ cs=>rowAt sz cs k | _=>[]
def avB:D→AV
 | .int n => .i n
 | .bool b => .b b
 | .str s => .s s
 | .any => .un
 | .byt n => .y n
 | d => .br d
def avO (o:Nat):D→AV
 | .int n => .i n
 | .bool b => .b b
 | .str s => .s s
 | .any => .un
 | .byt n => .y n
 | d => .sp o d
def avF (o:Nat):Option TypeId→Bool→D→AV
 | some _,false,d=>avB d
 | some _,true,d=>avO o d
 | none,_,d=>avO o d
def Ru (l:List AV) (off:Nat):Option Nat→(AV→Prop)→Prop
 | none,k=>match l[off]? with | some v=>k v | none=>False
 | some n,k=>off+n≤l.length∧k (.ag ((l.drop off).take n))
def Qa (P:Program) (s:AS) (T:TypeId) (x:AV) (k:AV→Prop):Prop :=
 match DN P T with
 | none=>False
 | some m=>match x with
  | .bx b off=>match AO s.bx b with
   | some cs=>Ru cs off m k
   | none=>False
  | .eb d kk off=>Ru ((Hf d kk).map avB) off m k
  | .eo o kk off=>match s.owf o with
   | some I=>Ru ((Hf I.d kk).map (avF o I.ap I.deep)) off m k
   | none=>False
  | .rp cs=>Ru cs 0 m k
  | _=>False
theorem OP {P:Program} {w:World} {b o:Nat} {v:Value} (h:w.cell? ⟨b,o,none⟩=some v) (m:Mode):(load ⟨b,o,none⟩ m).run P w = .ok v w:=by
 simp [load,Sem.run,h]
theorem DC (b o n:Nat):(⟨b,o,none⟩:Addr).add n=⟨b,o+n,none⟩:=by
 unfold Addr.add;split <;> simp_all
theorem Gi {P:Program} {w:World} {b o:Nat}:∀ (vs:List Value) (i:Nat) (acc:Array Value),(∀ j (h:j<vs.length),w.cell? ⟨b,o+i+j,none⟩=some vs[j]) →
  (loadCellsFrom ⟨b,o,none⟩ i vs.length acc).run P w = .ok (acc++vs.toArray) w
 | [],i,acc,h=>by simp [loadCellsFrom,Sem.run_pure]
 | v :: vs,i,acc,h=>by
  have h0:=h 0 (by simp)
  have hr:=Gi (P:=P) vs (i+1) (acc.push v) fun j hj=>by
   have:=h (j+1) (by simpa using hj)
   simpa [Nat.add_assoc,Nat.add_comm 1 j] using this
  simp only [List.length_cons,loadCellsFrom,Sem.run_bind,DC]
  rw [OP (by simpa using h0)]
  simp only [Result.andThen_ok]
  rw [hr]
  simp
theorem Jl {P:Program} {w:World} {T:TypeId} {m:Option Nat} (ht:DN P T=some m) {b o:Nat} {vs:List Value} (hc:∀ j (h:j<vs.length),w.cell? ⟨b,o+j,none⟩=some vs[j])
  (v:Value) (hv:match m with | none=>vs=[v] | some n=>vs.length=n∧v = .agg vs.toArray):(Instr.loadAt T (.pointer (some ⟨b,o,none⟩))).run P w = .ok v w:=by
 unfold DN at ht
 have hagg:(isAgg T).run P w = .ok m.isSome w:=by
  unfold isAgg
  simp only [underlying,program,Sem.run_bind,Sem.run,Result.andThen_ok]
  split at ht
  ·rename_i h1 h2;simp at ht;subst ht;rw [h1];simp [Sem.run_pure,Sem.run]
  ·rename_i h1 h2;simp at ht;subst ht;rw [h1];simp [Sem.run_pure,Sem.run]
  ·rename_i d i h1 h2 h3 h4
   split at ht
   ·simp at ht;subst ht;rw [h3]
    simp only [Sem.run]
    cases d <;> simp_all [Sem.run_pure,Sem.run]
   ·cases ht
  ·cases ht
 unfold Instr.loadAt Instr.sureAddr loadVar
 simp only [Sem.run_bind,Sem.run_pure,Result.andThen_ok,hagg]
 cases m with
 | none =>
  simp only at hv
  subst hv
  simp only [Option.isSome_none,Bool.false_eq_true,if_false]
  exact OP (by simpa using hc 0 (by simp)) _
 | some n =>
  obtain ⟨hl,rfl⟩:=hv
  have hsz:(sizeOf T).run P w = .ok n w:=by
   unfold sizeOf typeInfo
   simp only [program,Sem.run_bind,Sem.run,Result.andThen_ok]
   split at ht
   ·rename_i h1 h2;simp at ht;subst ht;rw [h2];simp [Sem.run_pure,Sem.run]
   ·rename_i h1 h2;simp at ht;subst ht;rw [h2];simp [Sem.run_pure,Sem.run]
   ·split at ht <;> simp at ht
   ·cases ht
  simp only [Option.isSome_some,if_true,Sem.run_bind,hsz,Result.andThen_ok,loadCells]
  subst hl
  rw [Gi vs 0 #[] (by simpa using hc)]
  simp [Sem.run_pure]
theorem JC {nx:Nat} {G:Gh} {w:World} {owf:Nat→Option Cb}:∀ {d:D} {v:Value},AW w G.Z d v→RV G w owf nx (avB d) v
 | .int n,v,h=>by unfold AW at h;unfold avB RV;exact h
 | .bool n,v,h=>by unfold AW at h;unfold avB RV;exact h
 | .str n,v,h=>by unfold AW at h;unfold avB RV;exact h
 | .any,v,h=>by unfold avB RV;trivial
 | .byt n,v,h=>by unfold AW at h;unfold avB RV;exact h
 | .rows sz n cs,v,h=>by unfold avB RV;exact h
theorem aDZ {nx:Nat} {G:Gh} {w:World} {owf:Nat→Option Cb} {o:Nat} (ho:o<nx):∀ {d:D} {v:Value},AW w (fun k=>G.Z k∨k ∈ G.B o) d v→RV G w owf nx (avO o d) v
 | .int n,v,h=>by unfold AW at h;unfold avO RV;exact h
 | .bool n,v,h=>by unfold AW at h;unfold avO RV;exact h
 | .str n,v,h=>by unfold AW at h;unfold avO RV;exact h
 | .any,v,h=>by unfold avO RV;trivial
 | .byt n,v,h=>by unfold AW at h;unfold avO RV;exact h
 | .rows sz n cs,v,h=>by unfold avO RV;exact ⟨ho,by obtain ⟨a,c,e,_⟩:=h.shape;rw [e];rfl,fun _ _=>h⟩
theorem RVs.of_rep {nx:Nat} {G:Gh} {w:World} {owf:Nat→Option Cb} {S:Nat→Prop} {f:D→AV} (hf:∀ d v,AW w S d v→RV G w owf nx (f d) v):∀ {ds:List D} {vs:List Value},An w S ds vs→RVs G w owf nx (ds.map f) vs
 | [],vs,h=>by unfold An at h;subst h;simp;unfold RVs;rfl
 | d :: ds,vs,h=>by
  unfold An at h
  obtain ⟨v,r,rfl,h1,h2⟩:=h
  simp only [List.map_cons];unfold RVs
  exact ⟨v,r,rfl,hf d v h1,RVs.of_rep hf h2⟩
theorem Oe {P:Program} {nx:Nat} {G:Gh} {w:World} {owf:Nat→Option Cb} {T:TypeId} {m:Option Nat} (ht:DN P T=some m) {l:List AV} {us:List Value} (hl:RVs G w owf nx l us) {g o0 off:Nat}
  {C:World→Prop} (hc:∀ w',C w'→Ey w' g o0 us) {k:AV→Prop} (hk:Ru l off m k):∃ av v,k av∧RV G w owf nx av v∧∀ w',C w'→(Instr.loadAt T (.pointer (some ⟨g,o0+off,none⟩))).run P w' = .ok v w':=by
 cases m with
 | none =>
  simp only [Ru] at hk
  split at hk
  ·rename_i v hv
   obtain ⟨x,hx,h1⟩:=RVs.get l us off v hl hv
   obtain ⟨hlt,hx'⟩:=List.getElem?_eq_some_iff.1 hx
   refine ⟨v,x,hk,h1,fun w' hb => ?_⟩
   refine Jl ht (vs:=[x]) (fun j hj => ?_) x rfl
   obtain rfl:j=0:=by simpa using hj
   have:=hc w' hb off hlt
   simpa [hx'] using this
  ·exact hk.elim
 | some n =>
  simp only [Ru] at hk
  obtain ⟨hle,hk⟩:=hk
  have hlen:=RVs.len l us hl
  refine ⟨_,.agg ((us.drop off).take n).toArray,hk,by unfold RV;exact ⟨_,rfl,(hl.drop off).take n⟩,fun w' hb => ?_⟩
  refine Jl ht (vs:=(us.drop off).take n) (fun j hj => ?_) _ ⟨by simp;omega,rfl⟩
  simp only [List.length_take,List.length_drop] at hj
  have:=hc w' hb (off+j) (by omega)
  rw [Nat.add_assoc,this]
  simp
theorem GJ {P:Program} {nx:Nat} {G:Gh} {w:World} {owf:Nat→Option Cb} {T:TypeId} {m:Option Nat} (ht:DN P T=some m) {l:List AV} {us:List Value} (hl:RVs G w owf nx l us) {g o0 off:Nat}
  (hc:∀ w',Below w.heap.size w w'→Ey w' g o0 us) {k:AV→Prop} (hk:Ru l off m k):∃ av v,k av∧RV G w owf nx av v∧Yl P w (Instr.loadAt T (.pointer (some ⟨g,o0+off,none⟩))) v :=
 Oe ht hl hc hk
theorem Wo {w:World} {S:Nat→Prop} {sz n:Nat} {T:TypeId} {a:Option Addr} {len cap:Nat} {vs:List Value} {cs:List D} (h:Jq w T sz (.slice a len cap) n vs) (hr:An w S cs vs) (hn:0<n):∃ g o vs',a=some ⟨g,o,none⟩∧Ey w g o vs'∧vs'.length=n * sz∧An w S cs vs':=by
 obtain ⟨hl,h⟩:=h
 rcases h with ⟨a',e,h0⟩ | ⟨g,o,cap',cur,e,hh,_,_,hcs,ht⟩
 ·omega
 ·injection e with e1 e2 e3
  refine ⟨g,o,vs,e1,fun i hi => ?_,hl,hr⟩
  unfold World.cell?
  show (match w.heap[g]? with | some (.cells c _ _)=>c[o+i]? | _=>none)=_
  rw [hh]
  have hg:vs[i]? = cur[o+i]? := by
   rw [← ht,List.getElem?_take]
   have:i<n * sz:=by omega
   rw [if_pos this,List.getElem?_drop];simp
  show cur[o+i]? = some vs[i]
  rw [← hg,List.getElem?_eq_getElem hi]
theorem Wm {P:Program} {w0:Aq} {G:Gh} {s:AS} {a:Act} {w:World} (h:Rel w0 G s a w) (hq:Flq G s) {T:TypeId} {x:AV} {u:Value} (hx:RV G w s.owf s.nx x u) {k:AV→Prop} (hk:Qa P s T x k) :
  ∃ av v,k av∧RV G w s.owf s.nx av v∧Yl P w (Instr.loadAt T u) v:=by
 unfold Qa at hk
 cases ht:DN P T with
 | none=>rw [ht] at hk;exact hk.elim
 | some m =>
  rw [ht] at hk
  simp only at hk
  cases x with
  | bx b off =>
   simp only at hk
   cases hl:AO s.bx b with
   | none=>rw [hl] at hk;exact hk.elim
   | some cs =>
    rw [hl] at hk
    simp only at hk
    obtain ⟨_,hbb,us,T',hB,hr⟩:=h.bx b cs hl
    unfold RV at hx
    obtain ⟨_,rfl⟩:=hx
    have:=GJ ht hr (g:=G.β b) (o0:=0) (off:=off) (fun w' hb=>(hB.below hb hB.lt).cells) hk
    simpa using this
  | rp cs =>
   simp only at hk
   unfold RV at hx
   obtain ⟨g,us,T',rfl,_,hB,hr⟩:=hx
   have:=GJ ht hr (g:=g) (o0:=0) (off:=0) (fun w' hb=>(hB.below hb hB.lt).cells) hk
   simpa using this
  | eb d kk off =>
   simp only at hk
   unfold RV at hx
   obtain ⟨sz,n,cs,a',o0,len,cap,rfl,rfl,hr,hkn⟩:=hx
   obtain ⟨b,off',vs,e,hS,hc,hrs,hvl,hln⟩:=hr.cell hkn
   injection e with e
   injection e with e1 e2
   subst e1;subst e2
   have hr2:RVs G w s.owf s.nx ((Hf (.rows sz n cs) kk).map avB) (rowAt sz vs kk):=RVs.of_rep (S:=G.Z) (fun d v hd=>JC hd) ((hrs.drop (kk * sz)).take sz)
   have hlt:a'<w.heap.size:=h.zl _ hS
   exact GJ ht hr2 (g:=a') (o0:=o0+kk * sz) (off:=off) (fun w' hb=>(hc.keep (hb.block a' hlt)).row sz kk) hk
  | eo o kk off =>
   simp only at hk
   cases hl:s.owf o with
   | none=>rw [hl] at hk;exact hk.elim
   | some I =>
    rw [hl] at hk
    simp only at hk
    unfold RV at hx
    obtain ⟨hox,_,hx⟩:=hx
    obtain ⟨sz,n,cs,a',o0,len,cap,e1,e2,rfl,hkn⟩:=hx I hl
    obtain ⟨_,⟨hB,hrep,_,hap⟩,_⟩:=h.own o I hl
    rw [e1,e2] at hrep
    rw [e1] at hk
    obtain ⟨b,off',vs,e,hS,hc,hrs,hvl,hln⟩:=hrep.cell hkn
    injection e with e
    injection e with e1' e2'
    subst e1'; subst e2'
    have hlt:a'<w.heap.size:=hS.elim (fun h1=>h.zl _ h1) (fun h1=>(hB a' h1).2)
    have hr2:RVs G w s.owf s.nx ((Hf (.rows sz n cs) kk).map (avF o I.ap I.deep)) (rowAt sz vs kk):=by
     have easy:∀ f:D→AV,(∀ d,f d=avO o d)→RVs G w s.owf s.nx ((Hf (.rows sz n cs) kk).map f) (rowAt sz vs kk):=fun f hf=>by
      rw [funext hf]
      exact RVs.of_rep (S:=fun k=>G.Z k∨k ∈ G.B o) (fun d v hd=>aDZ hox hd) ((hrs.drop (kk * sz)).take sz)
     cases hA:I.ap with
     | none=>exact easy _ fun d=>rfl
     | some T2 =>
      cases hD:I.deep with
      | true=>exact easy _ fun d=>rfl
      | false =>
       obtain ⟨sz2,n2,cs2,vs2,f1,f2,f3,_⟩:=hap T2 hA
       rw [e1] at f1
       injection f1 with f1 f4 f5
       subst f1;subst f4;subst f5
       have hfl:=hq o I T2 hl hD hA
       rw [e2] at hfl f2 f3
       have f6:An w G.Z cs vs2:=An.mono (fun k hk=>hk.elim id fun hk=>absurd (hfl k hk.1) hk.2) (fun _ _=>rfl) _ _ f3
       obtain ⟨b,off',vs3,e,hc3,hl3,hrs3⟩:=Wo f2 f6 (Nat.lt_of_le_of_lt (Nat.zero_le _) hkn)
       injection e with e
       injection e with e3 e4
       subst e3;subst e4
       have evs:vs3=vs:=List.ext_getElem (by rw [hl3,hvl]) fun i hi1 hi2=>by
        have q1:=hc3 i hi1
        have q2:=hc i hi2
        rw [q1] at q2;injection q2
       subst evs
       exact RVs.of_rep (S:=G.Z) (fun d v hd=>JC hd) ((hrs3.drop (kk * sz)).take sz)
    exact GJ ht hr2 (g:=a') (o0:=o0+kk * sz) (off:=off) (fun w' hb=>(hc.keep (hb.block a' hlt)).row sz kk) hk
  | _=>exact hk.elim
def aB8 (P:Program) (s:AS) (T:TypeId) (f:Nat) (x:AV) (k:AV→Prop):Prop :=
 match Ce P T f with
 | some (o,sz)=>sz≠0∧match x with
  | .bx b off=>k (.bx b (off+o))
  | .eb d kk off=>k (.eb d kk (off+o))
  | .eo ow kk off=>match s.owf ow with
   | some _=>k (.eo ow kk (off+o))
   | none=>False
  | _=>False
 | none=>False
theorem FB {P:Program} {w:World} {T:TypeId} {f o sz:Nat} (ht:Ce P T f=some (o,sz)) (hsz:sz≠0) (b off:Nat) :
  (Instr.fieldAt T (.pointer (some ⟨b,off,none⟩)) f).run P w = .ok (.pointer (some ⟨b,off+o,none⟩)) w:=by
 unfold Ce at ht
 unfold Instr.fieldAt Instr.sureAddr fieldPlace sizeOf typeInfo underlying
 simp only [program,Sem.run_bind,Sem.run,Result.andThen_ok]
 split at ht
 ·rename_i fs h1
  rw [h1]
  simp only [Sem.run,Result.andThen_ok]
  split at ht
  ·rename_i x h2
   simp only [Sem.run_pure,Result.andThen_ok]
   rw [h2]
   cases hi:P.info? x.type with
   | none=>rw [hi] at ht;simp at ht
   | some i =>
    rw [hi] at ht
    simp only [Option.map_some,Option.some.injEq,Prod.mk.injEq] at ht
    obtain ⟨rfl,rfl⟩:=ht
    simp only [Sem.run_bind,Sem.run_pure,Sem.run,Result.andThen_ok,hi]
    rw [if_neg hsz]
    simp [Sem.run_pure,DC]
  ·cases ht
 ·cases ht
theorem Nj {P:Program} {nx:Nat} {G:Gh} {w:World} {s:AS} {T:TypeId} {f:Nat} {x:AV} {u:Value} (hx:RV G w s.owf nx x u) {k:AV→Prop} (hk:aB8 P s T f x k) :
  ∃ av v,k av∧RV G w s.owf nx av v∧∀ w',(Instr.fieldAt T u f).run P w' = .ok v w':=by
 unfold aB8 at hk
 cases ht:Ce P T f with
 | none=>rw [ht] at hk;exact hk.elim
 | some q =>
  obtain ⟨o,sz⟩:=q
  rw [ht] at hk
  simp only at hk
  obtain ⟨hsz,hk⟩:=hk
  cases x with
  | bx b off =>
   unfold RV at hx
   obtain ⟨h1,rfl⟩:=hx
   exact ⟨_,_,hk,by unfold RV;exact ⟨h1,rfl⟩,fun w'=>FB ht hsz _ _⟩
  | eb d kk off =>
   unfold RV at hx
   obtain ⟨sz',n,cs,a',o0,len,cap,e,rfl,hr,hkn⟩:=hx
   exact ⟨_,_,hk,by unfold RV;exact ⟨sz',n,cs,a',o0,len,cap,e,rfl,hr,hkn⟩,fun w'=>by rw [FB ht hsz,Nat.add_assoc]⟩
  | eo ow kk off =>
   unfold RV at hx
   obtain ⟨h1,h1o,hx⟩:=hx
   simp only at hk
   cases hI:s.owf ow with
   | none=>rw [hI] at hk;exact hk.elim
   | some I =>
    rw [hI] at hk
    obtain ⟨sz',n,cs,a',o0,len,cap,e,e2,rfl,hkn⟩:=hx I hI
    have hv:RV G w s.owf nx (.eo ow kk (off+o)) (.pointer (some ⟨a',o0+kk * sz'+off+o,none⟩)):=by
     unfold RV
     refine ⟨h1,rfl,fun I' hI' => ?_⟩
     rw [hI] at hI'
     injection hI' with hI'
     subst hI'
     exact ⟨sz',n,cs,a',o0,len,cap,e,e2,by rw [Nat.add_assoc],hkn⟩
    exact ⟨_,_,hk,hv,fun w'=>FB ht hsz _ _⟩
  | _=>exact hk.elim
def AS.rd (s:AS):AV→Option D
 | .nl sz=>some (.rows sz 0 [])
 | .br d=>some d
 | .sp o d=>(s.owf o).map fun _=>d
 | .sl o=>(s.owf o).map (·.d)
 | _=>none
def aA7 (P:Program) (s:AS) (T:TypeId) (x i:AV) (k:AV→Prop):Prop :=
 match BK P T,i with
 | some (_,esz),.i j=>match x with
  | .br (.rows sz n cs)=>sz=esz∧(0≤j∧j<n)∧k (.eb (.rows sz n cs) j.toNat 0)
  | .sl o=>match s.owf o with
   | some I=>match I.d with
    | .rows sz n cs=>sz=esz∧(0≤j∧j<n)∧k (.eo o j.toNat 0)
    | _=>False
   | none=>False
  | _=>False
 | _,_=>False
theorem Fy {P:Program} {w:World} {T e:TypeId} {esz:Nat} (ht:BK P T=some (e,esz)) {b o n cap:Nat} {kd:IntKind} {j:Int} (h0:0≤j) (h1:j<n) :
  (Instr.indexAt T (.slice (some ⟨b,o,none⟩) n cap) (.int kd j)).run P w = .ok (.pointer (some ⟨b,o+j.toNat * esz,none⟩)) w:=by
 unfold BK at ht
 unfold Instr.indexAt asIntOf sizeOf typeInfo underlying
 simp only [program,Sem.run_bind,Sem.run,Result.andThen_ok,Sem.run_pure]
 split at ht
 ·rename_i e' h1'
  rw [h1']
  simp only [Sem.run_pure,Result.andThen_ok]
  cases hi:P.info? e' with
  | none=>rw [hi] at ht;simp at ht
  | some i =>
   rw [hi] at ht
   simp only [Option.map_some,Option.some.injEq,Prod.mk.injEq] at ht
   obtain ⟨rfl,rfl⟩:=ht
   have hb:(0≤j∧j<(n:Int)):=⟨h0,h1⟩
   simp only [Sem.run_bind,Sem.run_pure,Sem.run,Result.andThen_ok,hi,if_pos hb,DC,h1']
 ·cases ht
theorem YE {P:Program} {w0:Aq} {G:Gh} {s:AS} {a:Act} {w:World} (h:Rel w0 G s a w) {T:TypeId} {x i:AV} {u j:Value} (hx:RV G w s.owf s.nx x u) (hi:RV G w s.owf s.nx i j)
  {k:AV→Prop} (hk:aA7 P s T x i k):∃ av v,k av∧RV G w s.owf s.nx av v∧Yl P w (Instr.indexAt T u j) v:=by
 unfold aA7 at hk
 cases ht:BK P T with
 | none=>rw [ht] at hk;exact hk.elim
 | some q =>
  obtain ⟨e,esz⟩:=q
  rw [ht] at hk
  cases i with
  | i j =>
   unfold RV at hi
   subst hi
   simp only at hk
   cases x with
   | br d =>
    cases d with
    | rows sz n cs =>
     simp only at hk
     obtain ⟨rfl,⟨h0,h1⟩,hk⟩:=hk
     unfold RV at hx
     obtain ⟨a',cap,rfl,_⟩:=hx.shape
     have hlt:j.toNat<n:=by omega
     obtain ⟨b,off,vs,rfl,_⟩:=hx.cell hlt
     exact ⟨_,_,hk,by unfold RV;exact ⟨sz,n,cs,b,off,n,cap,rfl,rfl,hx,hlt⟩,fun w' _=>by rw [Fy ht h0 h1];rfl⟩
    | _=>exact hk.elim
   | sl o =>
    simp only at hk
    cases hI:s.owf o with
    | none=>rw [hI] at hk;exact hk.elim
    | some I =>
     rw [hI] at hk
     simp only at hk
     obtain ⟨d,ap,deep⟩:=I
     cases d with
     | rows sz n cs =>
      simp only at hk
      obtain ⟨rfl,⟨h0,h1⟩,hk⟩:=hk
      unfold RV at hx
      obtain ⟨ho,_,hx⟩:=hx
      have hroot:=hx _ hI
      subst hroot
      obtain ⟨_,⟨_,hrep,_,_⟩,_⟩:=h.own o _ hI
      obtain ⟨a',cap,e1,_⟩:=hrep.shape
      have hlt:j.toNat<n:=by omega
      rw [e1] at hrep
      obtain ⟨b,off,vs,rfl,_⟩:=hrep.cell hlt
      have hv:RV G w s.owf s.nx (.eo o j.toNat 0) (.pointer (some ⟨b,off+j.toNat * sz,none⟩)):=by
       unfold RV
       refine ⟨ho,rfl,fun I' hI' => ?_⟩
       rw [hI] at hI'
       injection hI' with hI'
       subst hI'
       exact ⟨sz,n,cs,b,off,n,cap,rfl,e1,rfl,hlt⟩
      exact ⟨_,_,hk,hv,fun w' _=>by rw [e1,Fy ht h0 h1]⟩
     | _=>exact hk.elim
   | _=>exact hk.elim
  | _=>cases x <;> exact hk.elim
def inI (n:Int):Prop := -9223372036854775808≤n∧n<9223372036854775808
theorem FG {n:Int} (h:inI n):IntKind.i64.wrap n=n:=by
 unfold inI at h
 have e:IntKind.i64.wrap n=if decide (n % 18446744073709551616 ≥ 9223372036854775808)=true then n % 18446744073709551616-18446744073709551616 else n % 18446744073709551616:=rfl
 rw [e]
 by_cases h0:0≤n
 ·have e:n % 18446744073709551616=n:=Int.emod_eq_of_lt h0 (by omega)
  rw [e,if_neg (by simp;omega)]
 ·have e:n % 18446744073709551616=n+18446744073709551616:=by omega
  rw [e,if_pos (by simp;omega)];omega
theorem aGl (x y:ByteArray):(x.toList == y.toList)=decide (x=y):=by
 by_cases h:x=y
 ·subst h;simp
 ·simp only [decide_eq_false h]
  have:x.toList≠y.toList:=fun e=>h (ByteArray.ext (by
   have:=congrArg List.toArray e
   simpa [ByteArray.toList_eq] using this))
  simpa using this
def RA (x y:Int):Int:=IntKind.i64.wrap ((BitVec.ofInt IntKind.i64.bits x &&& BitVec.ofInt IntKind.i64.bits y).toNat:Int)
def aBb (x y:Int):Int:=IntKind.i64.wrap ((BitVec.ofInt IntKind.i64.bits x ^^^ BitVec.ofInt IntKind.i64.bits y).toNat:Int)
def aDo (op:BinOp):AV→AV→(AV→Prop)→Prop
 | .i x,.i y,k=>match op with
  | .add=>inI (x+y)∧k (.i (x+y))
  | .sub=>inI (x-y)∧k (.i (x-y))
  | .mul=>inI (x * y)∧k (.i (x * y))
  | .quo=>y≠0∧inI (x.tdiv y)∧k (.i (x.tdiv y))
  | .rem=>y≠0∧k (.i (x.tmod y))
  | .and=>k (.i (RA x y))
  | .xor=>k (.i (aBb x y))
  | .eql=>k (.b (decide (x=y)))
  | .neq=>k (.b (decide (x≠y)))
  | .lss=>k (.b (decide (x<y)))
  | .leq=>k (.b (decide (x≤y)))
  | .gtr=>k (.b (decide (y<x)))
  | .geq=>k (.b (decide (y≤x)))
  | _=>False
 | .y x,.y y,k=>match op with
  | .eql=>k (.b (decide (x=y)))
  | .neq=>k (.b (decide (x≠y)))
  | .lss=>k (.b (decide (x<y)))
  | .leq=>k (.b (decide (x≤y)))
  | .gtr=>k (.b (decide (y<x)))
  | .geq=>k (.b (decide (y≤x)))
  | .sub=>(0≤x-y∧x-y<256)∧k (.y (x-y))
  | _=>False
 | .s x,.s y,k=>match op with
  | .add=>x.size+y.size≤maxLen∧k (.s (x++y))
  | .eql=>k (.b (decide (x=y)))
  | .neq=>k (.b (decide (x≠y)))
  | .lss=>k (.b (Op.bytesLess x.toList y.toList))
  | .leq=>k (.b (Op.bytesLess x.toList y.toList || decide (x=y)))
  | .gtr=>k (.b (!(Op.bytesLess x.toList y.toList || decide (x=y))))
  | .geq=>k (.b (!Op.bytesLess x.toList y.toList))
  | _=>False
 | .i x,.x (.int _ y),k=>match op with
  | .shr=>0≤y∧k (.i (x.fdiv (2 ^ min y.toNat IntKind.i64.bits)))
  | _=>False
 | _,_,_=>False
theorem aCK (k:IntKind) (n:Int):(Value.int k n).oneCell'=true:=rfl
theorem aAw {P : Program} {nx : Nat} {G : Gh} {w : World} {owf : Nat → Option Cb} {op : BinOp} {T : TypeId} {x y : AV} {u v : Value} (hx : RV G w owf nx x u) (hy : RV G w owf nx y v) {ox oy : Operand}
    {k : AV → Prop} (hk : aDo op x y k) : ∃ av r, k av ∧ RV G w owf nx av r ∧ Yl P w (do eqGuard op T ox oy u v; binOp op T u v) r := by
  unfold aDo at hk
  split at hk
  · unfold RV at hx hy
    subst hx; subst hy
    cases op <;> simp only at hk <;> first | exact hk.elim | skip
    all_goals first
      | (obtain ⟨h1, h2⟩ := hk
         refine ⟨_, _, h2, by unfold RV; rfl, fun w' _ => ?_⟩
         simp [eqGuard, binOp, Op.intArith, Sem.run_bind, Sem.run_pure, FG h1]
         done)
      | (obtain ⟨h0, h1, h2⟩ := hk
         refine ⟨_, _, h2, by unfold RV; rfl, fun w' _ => ?_⟩
         simp [eqGuard, binOp, Op.intDiv, Sem.run_bind, Sem.run_pure, FG h1, h0]
         done)
      | (obtain ⟨h0, h2⟩ := hk
         refine ⟨_, _, h2, by unfold RV; rfl, fun w' _ => ?_⟩
         simp [eqGuard, binOp, Op.intDiv, Sem.run_bind, Sem.run_pure, h0]
         done)
      | (refine ⟨_, _, hk, by unfold RV; rfl, fun w' _ => ?_⟩
         simp only [eqGuard, binOp, Op.intBits, RA, aBb, Sem.run_bind, Sem.run_pure]
         rfl)
      | (refine ⟨_, _, hk, by unfold RV; rfl, fun w' _ => ?_⟩
         simp [eqGuard, binOp, Op.intCmp, Sem.run_bind, Sem.run_pure, Bool.beq_eq_decide_eq, bne, decide_not]
         done)
  · unfold RV at hx hy
    subst hx; subst hy
    cases op <;> simp only at hk <;> first | exact hk.elim | skip
    all_goals first
      | (obtain ⟨h1, h2⟩ := hk
         refine ⟨_, _, h2, by unfold RV; rfl, fun w' _ => ?_⟩
         have : IntKind.u8.wrap (_ - _) = _ := Int.emod_eq_of_lt h1.1 h1.2
         simp [eqGuard, binOp, Op.intArith, Sem.run_bind, Sem.run_pure, IntKind.wrap, IntKind.bits, IntKind.signed, Int.emod_eq_of_lt h1.1 h1.2]
         done)
      | (refine ⟨_, _, hk, by unfold RV; rfl, fun w' _ => ?_⟩
         simp [eqGuard, binOp, Op.intCmp, Sem.run_bind, Sem.run_pure, Bool.beq_eq_decide_eq, bne, decide_not]
         done)
  · unfold RV at hx hy
    subst hx; subst hy
    cases op <;> simp only at hk <;> first | exact hk.elim | skip
    all_goals first
      | (obtain ⟨h1, h2⟩ := hk
         refine ⟨_, _, h2, by unfold RV; rfl, fun w' _ => ?_⟩
         have h3 : ¬ ((9223372036854775807 : Int) < (_ : Nat) + (_ : Nat)) := Int.not_lt.2 (by unfold maxLen at h1; exact Int.ofNat_le.2 h1)
         simp [eqGuard, binOp, Op.stringOp, Sem.run_bind, Sem.run_pure, h3]
         done)
      | (refine ⟨_, _, hk, by unfold RV; rfl, fun w' _ => ?_⟩
         simp [eqGuard, binOp, Op.stringOp, Sem.run_bind, Sem.run_pure, aGl, decide_not]
         done)
  · unfold RV at hx hy
    obtain ⟨hy, _⟩ := hy
    subst hx; subst hy
    cases op <;> simp only at hk <;> first | exact hk.elim | skip
    obtain ⟨h0, h2⟩ := hk
    refine ⟨_, _, h2, by unfold RV; rfl, fun w' _ => ?_⟩
    simp [eqGuard, binOp, Op.shift, Sem.run_bind, Sem.run_pure, Int.not_lt.2 h0]
  · exact hk.elim
def shp:AV→Nat | .i _=>1 | .s _=>2 | .b _=>3 | _=>0
def Om:AV→Bool | .ag _=>true | _=>false
def Hi:AV→List AV | .ag cs=>cs | _=>[]
def aGx:AV→AV→Bool
 | .i a,.i b=>decide (a=b)
 | .s a,.s b=>decide (a=b)
 | .b a,.b b=>decide (a=b)
 | _,_=>false
def LA:List AV→List AV→Bool
 | [],[]=>true
 | a :: r,b :: s=>aGx a b && LA r s
 | _,_=>false
def JY:List AV→List AV→Bool
 | [],[]=>true
 | a :: r,b :: s=>(shp a != 0 && shp b == shp a) && JY r s
 | _,_=>false
def aJx (P:Program) (T:TypeId) (op:BinOp) (cs ds:List AV) (k:AV→Prop):Prop:=(tEq P T (cs.map shp)=true∧JY cs ds=true)∧match op with
 | .eql=>k (.b (LA cs ds))
 | .neq=>k (.b (!LA cs ds))
 | _=>False
def OY:AV→Bool | .b _=>true | _=>false
def bvA:AV→Bool | .b x=>x | _=>false
def aCG (P:Program) (T:TypeId):Bool:=match P.underlying T with | some .bool=>true | _=>false
def aIP (P:Program) (T:TypeId) (op:BinOp) (a b:Bool) (k:AV→Prop):Prop:=aCG P T=true∧match op with
 | .eql=>k (.b (decide (a=b)))
 | .neq=>k (.b (decide (a≠b)))
 | _=>False
theorem YR {P:Program} {nx:Nat} {G:Gh} {w:World} {owf:Nat→Option Cb} {op:BinOp} {T:TypeId} {a b:Bool} {ox oy:Operand}
  {k:AV→Prop} (hk:aIP P T op a b k):∃ av r,k av∧RV G w owf nx av r∧Yl P w (do eqGuard op T ox oy (.bool a) (.bool b);binOp op T (.bool a) (.bool b)) r:=by
 obtain ⟨h1,h2⟩:=hk
 have hu:P.underlying T=some .bool:=by
  unfold aCG at h1
  split at h1
  ·assumption
  ·cases h1
 cases op <;> simp only at h2 <;> first | exact h2.elim | skip
 ·refine ⟨_,_,h2,by unfold RV;rfl,fun w' _ => ?_⟩
  simp [eqGuard,binOp,Sem.run_bind,Sem.run_pure,run_equal_bool w' T a b hu]
  cases a <;> cases b <;> rfl
 ·refine ⟨_,_,h2,by unfold RV;rfl,fun w' _ => ?_⟩
  simp [eqGuard,binOp,Sem.run_bind,Sem.run_pure,run_equal_bool w' T a b hu]
  cases a <;> cases b <;> rfl
def PP (P:Program) (T:TypeId) (op:BinOp) (x y:AV) (k:AV→Prop):Prop:=if Om x=true then Om y=true∧aJx P T op (Hi x) (Hi y) k else if OY x=true then OY y=true∧aIP P T op (bvA x) (bvA y) k else aDo op x y k
theorem Xt {nx:Nat} {G:Gh} {w:World} {owf:Nat→Option Cb}:∀ (cs ds:List AV) (us vs:List Value),RVs G w owf nx cs us→RVs G w owf nx ds vs→JY cs ds=true→PY (cs.map shp) us∧PY (cs.map shp) vs∧UW us vs=LA cs ds
 | [],[],us,vs,hu,hv,_=>by
  unfold RVs at hu hv
  subst hu hv
  exact ⟨by unfold List.map PY;rfl,by unfold List.map PY;rfl,rfl⟩
 | [],_ :: _,us,vs,hu,hv,h=>by unfold JY at h;cases h
 | _ :: _,[],us,vs,hu,hv,h=>by unfold JY at h;cases h
 | c :: cs,d :: ds,us,vs,hu,hv,h=>by
  unfold RVs at hu hv
  obtain ⟨u,r,rfl,hu1,hu2⟩:=hu
  obtain ⟨v,q,rfl,hv1,hv2⟩:=hv
  unfold JY at h
  simp only [Bool.and_eq_true] at h
  obtain ⟨⟨h1,h2⟩,h3⟩:=h
  obtain ⟨ih1,ih2,ih3⟩:=Xt cs ds r q hu2 hv2 h3
  have key:okS (shp c) u∧okS (shp c) v∧eqV u v=aGx c d:=by
   cases c <;> simp only [shp] at h1 h2 ⊢ <;> first | (simp at h1;done) | skip
   all_goals (cases d <;> simp only [shp] at h2 <;> first | (simp at h2;done) | skip)
   all_goals (unfold RV at hu1 hv1;subst hu1 hv1;exact ⟨⟨_,rfl⟩,⟨_,rfl⟩,rfl⟩)
  refine ⟨?_, ?_, ?_⟩
  ·rw [List.map_cons];unfold PY;exact ⟨u,r,rfl,key.1,ih1⟩
  ·rw [List.map_cons];unfold PY;exact ⟨v,q,rfl,key.2.1,ih2⟩
  ·rw [UW,LA,key.2.2,ih3]
theorem WO {P:Program} {nx:Nat} {G:Gh} {w:World} {owf:Nat→Option Cb} {op:BinOp} {T:TypeId} {x y:AV} {u v:Value} (hx:RV G w owf nx x u) (hy:RV G w owf nx y v) {ox oy:Operand}
  {k:AV→Prop} (hk:PP P T op x y k):∃ av r,k av∧RV G w owf nx av r∧Yl P w (do eqGuard op T ox oy u v;binOp op T u v) r:=by
 unfold PP at hk
 split at hk
 ·rename_i hag
  obtain ⟨hag2,⟨h1,h2⟩,h3⟩:=hk
  cases x <;> first | (cases hag;done) | skip
  cases y <;> first | (cases hag2;done) | skip
  rename_i cs ds
  simp only [Hi] at h1 h2 h3
  unfold RV at hx hy
  obtain ⟨us,rfl,hu⟩:=hx
  obtain ⟨vs,rfl,hv⟩:=hy
  obtain ⟨o1,o2,o3⟩:=Xt cs ds us vs hu hv h2
  cases op <;> simp only at h3 <;> first | exact h3.elim | skip
  ·exact ⟨_,_,h3,by unfold RV;rfl,fun w' _=>by rw [← o3];exact (OT h1 o1 o2 ox oy w').1⟩
  ·exact ⟨_,_,h3,by unfold RV;rfl,fun w' _=>by rw [← o3];exact (OT h1 o1 o2 ox oy w').2⟩
 ·split at hk
  ·rename_i hb
   obtain ⟨hb2,hk⟩:=hk
   cases x <;> first | (cases hb;done) | skip
   cases y <;> first | (cases hb2;done) | skip
   unfold RV at hx hy
   subst hx hy
   exact YR hk
  ·exact aAw hx hy hk
def aE3 (op:UnOp):AV→(AV→Prop)→Prop
 | .b x,k=>match op with | .not=>k (.b (!x)) | _=>False
 | .i x,k=>match op with | .neg=>inI (0-x)∧k (.i (0-x)) | _=>False
 | _,_=>False
theorem aAp {P:Program} {nx:Nat} {G:Gh} {w:World} {owf:Nat→Option Cb} {op:UnOp} {x:AV} {u:Value} (hx:RV G w owf nx x u)
  {k:AV→Prop} (hk:aE3 op x k):∃ av r,k av∧RV G w owf nx av r∧Yl P w (Op.unary op u) r:=by
 cases x <;> simp only [aE3] at hk <;> first | exact hk.elim | skip
 ·cases op <;> simp only at hk <;> first | exact hk.elim | skip
  all_goals
   unfold RV at hx
   subst hx
   obtain ⟨h1,h2⟩:=hk
   exact ⟨_,_,h2,by unfold RV;rfl,fun w' _=>by simp only [Op.unary,Op.intArith,Sem.run_pure,FG h1]⟩
 ·cases op <;> simp only at hk <;> first | exact hk.elim | skip
  all_goals
   unfold RV at hx
   subst hx
   exact ⟨_,_,hk,by unfold RV;rfl,fun w' _=>by simp only [Op.unary,Sem.run_pure]⟩
def YU:AV→AV→AV→(AV→Prop)→Prop
 | .b c,x,y,k=>(c=true→k x)∧(c=false→k y)
 | _,_,_,_=>False
theorem WH {P:Program} {nx:Nat} {G:Gh} {w:World} {owf:Nat→Option Cb} {c x y:AV} {b u v:Value} (hc:RV G w owf nx c b) (hx:RV G w owf nx x u) (hy:RV G w owf nx y v)
  {k:AV→Prop} (hk:YU c x y k):∃ av r,k av∧RV G w owf nx av r∧Yl P w (do pure (if ← asBool b then u else v):Sem Value) r:=by
 cases c <;> simp only [YU] at hk <;> first | exact hk.elim | skip
 rename_i c
 unfold RV at hc
 subst hc
 cases c
 ·exact ⟨_,_,hk.2 rfl,hy,fun w' _=>by simp [asBool,Sem.run_bind,Sem.run_pure]⟩
 ·exact ⟨_,_,hk.1 rfl,hx,fun w' _=>by simp [asBool,Sem.run_bind,Sem.run_pure]⟩
def aDe (P:Program) (s:AS) (T:TypeId) (x:AV) (k:AV→Prop):Prop :=
 match x with
 | .s t=>BP P T=1∧k (.i t.size)
 | _=>match s.rd x with
  | some (.rows _ n _)=>BP P T=2∧k (.i n)
  | _=>False
theorem aIB {w0:Aq} {G:Gh} {s:AS} {a:Act} {w:World} (h:Rel w0 G s a w) {x:AV} {u:Value} (hx:RV G w s.owf s.nx x u) {d:D} (hd:s.rd x=some d):AW w (· < w.heap.size) d u:=by
 have hb:=h.bel.size
 cases x <;> simp only [AS.rd] at hd <;> first | (cases hd;done) | skip
 case nl sz =>
  injection hd with hd;subst hd
  unfold RV at hx;obtain ⟨a0,rfl⟩:=hx
  unfold AW
  exact ⟨a0,0,rfl,by simp,by simp,by simp,.inl rfl⟩
 case sl o =>
  cases hI:s.owf o with
  | none=>rw [hI] at hd;cases hd
  | some I =>
   rw [hI] at hd
   injection hd with hd;subst hd
   unfold RV at hx
   rw [hx.2.2 I hI]
   obtain ⟨_,⟨hB,hrep,_⟩,_⟩:=h.own o I hI
   exact AW.mono (fun k hk=>hk.elim (fun h1=>h.zl _ h1) (fun h1=>(hB k h1).2)) (fun _ _=>rfl) _ _ hrep
 case sp o d' =>
  cases hI:s.owf o with
  | none=>rw [hI] at hd;cases hd
  | some I =>
   rw [hI] at hd
   injection hd with hd;subst hd
   unfold RV at hx
   obtain ⟨_,⟨hB,hrep,_⟩,_⟩:=h.own o I hI
   exact AW.mono (fun k hk=>hk.elim (fun h1=>h.zl _ h1) (fun h1=>(hB k h1).2)) (fun _ _=>rfl) _ _ (hx.2.2 I hI)
 case br d' =>
  injection hd with hd;subst hd
  unfold RV at hx
  exact AW.mono (fun k hk=>h.zl _ hk) (fun _ _=>rfl) _ _ hx
theorem Qc {P:Program} {T:TypeId} (h:BP P T=2):∃ e,P.underlying T=some (.slice e):=by
 unfold BP at h
 split at h <;> simp_all
theorem HD {P:Program} {T:TypeId} (h:BP P T=1):P.underlying T=some .string:=by
 unfold BP at h
 split at h <;> simp_all
theorem Cf {P:Program} {T:TypeId} {d:TypeDesc} (h:P.underlying T=some d) (w:World):(underlying T).run P w = .ok d w:=by
 unfold underlying
 simp [program,Sem.run_bind,Sem.run,h,Sem.run_pure]
theorem aAf {P:Program} {w0:Aq} {G:Gh} {s:AS} {a:Act} {w:World} (h:Rel w0 G s a w) {T ty:TypeId} {x:AV} {u:Value} (hx:RV G w s.owf s.nx x u)
  {k:AV→Prop} (hk:aDe P s T x k):∃ av v,k av∧RV G w s.owf s.nx av v∧Yl P w (Builtin.len_ #[T] ty #[u]) v:=by
 have hsl:∀ sz n cs,s.rd x=some (.rows sz n cs)→BP P T=2∧k (.i n)→∃ av v,k av∧RV G w s.owf s.nx av v∧Yl P w (Builtin.len_ #[T] ty #[u]) v:=by
  intro sz n cs hrd hk
  obtain ⟨a',cap,rfl,_⟩:=(aIB h hx hrd).shape
  obtain ⟨e,he⟩:=Qc hk.1
  exact ⟨_,_,hk.2,by unfold RV;rfl,fun w' _=>by simp [Builtin.len_,Sem.run_bind,Cf he,goInt,Sem.run_pure]⟩
 unfold aDe at hk
 split at hk
 ·unfold RV at hx
  subst hx
  exact ⟨_,_,hk.2,by unfold RV;rfl,fun w' _=>by simp [Builtin.len_,Sem.run_bind,Cf (HD hk.1),goInt,Sem.run_pure]⟩
 ·split at hk
  ·rename_i sz n cs hrd
   exact hsl sz n cs hrd hk
  ·exact hk.elim
def aEj (P:Program) (T:TypeId):AV→AV→(AV→Prop)→Prop
 | .s x,.i j,k=>BP P T=1∧(0≤j∧j<x.size)∧k (.y ((x.data.getD j.toNat 0).toNat))
 | _,_,_=>False
theorem aAi {P:Program} {nx:Nat} {G:Gh} {w:World} {owf:Nat→Option Cb} {T:TypeId} {x y:AV} {u v:Value} (hx:RV G w owf nx x u) (hy:RV G w owf nx y v)
  {k:AV→Prop} (hk:aEj P T x y k):∃ av r,k av∧RV G w owf nx av r∧Yl P w (Instr.index T u v) r:=by
 cases x <;> try exact hk.elim
 cases y <;> try exact hk.elim
 ·rename_i x j
  unfold aEj at hk
  unfold RV at hx hy
  subst hx;subst hy
  obtain ⟨h1,⟨h2,h3⟩,h4⟩:=hk
  refine ⟨_,_,h4,by unfold RV;rfl,fun w' _ => ?_⟩
  have hlt:j.toNat<x.data.size:=by have:x.data.size=x.size:=rfl;omega
  have hg:x[j.toNat]? = some (x.data.getD j.toNat 0):=by
   rw [Array.getD_eq_getD_getElem?,Array.getElem?_eq_getElem hlt]
   have hlt':j.toNat<x.size:=hlt
   rw [getElem?_pos x j.toNat hlt']
   rfl
  unfold Instr.index asIntOf
  simp only [Sem.run_bind,Sem.run_pure,Result.andThen_ok,Cf (HD h1),if_pos h2,hg]
def aCB:AV→Nat→(AV→Prop)→Prop
 | .tu vs,i,k=>match vs[i]? with | some v=>k v | none=>False
 | _,_,_=>False
theorem Zl {P:Program} {nx:Nat} {G:Gh} {w:World} {owf:Nat→Option Cb} {x:AV} {u:Value} {i:Nat} (hx:RV G w owf nx x u)
  {k:AV→Prop} (hk:aCB x i k):∃ av r,k av∧RV G w owf nx av r∧Yl P w (Instr.extract u i) r:=by
 cases x <;> simp only [aCB] at hk <;> first | exact hk.elim | skip
 rename_i vs
 split at hk
 ·rename_i v hv
  unfold RV at hx
  obtain ⟨us,rfl,hr⟩:=hx
  obtain ⟨z,hz,h1⟩:=RVs.get vs us i v hr hv
  exact ⟨v,z,hk,h1,fun w' _=>by simp [Instr.extract,hz,Sem.run_pure]⟩
 ·exact hk.elim
def AV.cells:AV→List AV
 | .ag cs=>cs
 | v=>[v]
def AV.one:AV→Bool
 | .ag _ | .tu _ | .un=>false
 | _=>true
def AV.whole:AV→Bool
 | .ag cs=>cs.all AV.one
 | v=>v.one
theorem Ua {nx:Nat} {G:Gh} {w:World} {owf:Nat→Option Cb} {v:AV} {u:Value} (h:RV G w owf nx v u) (h1:v.one=true):u.oneCell'=true:=by
 cases v <;> simp only [AV.one] at h1 <;> first | (cases h1;done) | skip
 case br d =>
  unfold RV at h
  cases d <;> unfold AW at h
  ·rw [h];rfl
  ·rw [h];rfl
  ·rw [h];rfl
  ·obtain ⟨a,c,e,_⟩:=h;rw [e];rfl
  ·exact h
  ·rw [h];rfl
 all_goals unfold RV at h
 case sl=>exact h.2.1
 case sp=>exact h.2.1
 case eo=>exact h.2.1
 case bx=>rw [h.2];rfl
 case eb =>
  obtain ⟨sz,n,cs,a,o0,len,cap,_,rfl,_⟩:=h
  rfl
 case fn=>obtain ⟨us,rfl,_⟩:=h;rfl
 case rp=>obtain ⟨_,_,_,rfl,_⟩:=h;rfl
 case x=>rw [h.1];exact h.2
 case nl=>obtain ⟨_,rfl⟩:=h;rfl
 case cl=>obtain ⟨⟨_,_,rfl⟩,_⟩:=h;rfl
 all_goals (rw [h];rfl)
theorem Ri {u:Value} (h:u.oneCell'=true):u.cells = #[u]:=by
 cases u <;> first | rfl | cases h
def Aw {α:Type} (l:List α) (p:Nat):List α→List α
 | []=>l
 | v :: vs=>Aw (l.set p v) (p+1) vs
theorem RVs.set {nx:Nat} {G:Gh} {w:World} {owf:Nat→Option Cb} {a:AV} {x:Value} (hx:RV G w owf nx a x):∀ (v:List AV) (u:List Value) (i:Nat),RVs G w owf nx v u→RVs G w owf nx (v.set i a) (u.set i x)
 | [],u,i,h=>by unfold RVs at h;subst h;simp;unfold RVs;rfl
 | c :: v,u,0,h=>by
  unfold RVs at h
  obtain ⟨y,r,rfl,h1,h2⟩:=h
  simp only [List.set_cons_zero];unfold RVs
  exact ⟨_,_,rfl,hx,h2⟩
 | c :: v,u,i+1,h=>by
  unfold RVs at h
  obtain ⟨y,r,rfl,h1,h2⟩:=h
  simp only [List.set_cons_succ];unfold RVs
  exact ⟨_,_,rfl,h1,RVs.set hx v r i h2⟩
theorem RVs.setRow {nx:Nat} {G:Gh} {w:World} {owf:Nat→Option Cb}:∀ (b:List AV) (y:List Value) (v:List AV) (u:List Value) (i:Nat),RVs G w owf nx v u→RVs G w owf nx b y→RVs G w owf nx (Aw v i b) (Aw u i y)
 | [],y,v,u,i,h,h'=>by unfold RVs at h'; subst h'; exact h
 | c :: b,y,v,u,i,h,h'=>by
  unfold RVs at h'
  obtain ⟨x,r,rfl,h1,h2⟩:=h'
  exact RVs.setRow b r (v.set i c) (u.set i x) (i+1) (RVs.set h1 v u i h) h2
theorem Eu {α:Type}:∀ (b l:List α) (i:Nat),(Aw l i b).length=l.length
 | [],l,i=>rfl
 | c :: b,l,i=>by rw [Aw,Eu b];simp
theorem LY:∀ (b:List Value) (n:Nat) (l:List Value) (off:Nat),(b.zipIdx n).foldl (fun (cs:Array Value) (x:Value × Nat)=>cs.setIfInBounds (off+x.2) x.1) l.toArray=(Aw l (off+n) b).toArray
 | [],n,l,off=>rfl
 | c :: b,n,l,off=>by
  rw [List.zipIdx_cons,List.foldl_cons]
  have:l.toArray.setIfInBounds (off+n) c=(l.set (off+n) c).toArray:=by simp
  simp only [this]
  rw [LY b (n+1) (l.set (off+n) c) off]
  rfl
def EE (place:Nat→Option (Nat × Nat)) (cells:List AV):List (Nat × AV)→Option (List AV)
 | []=>some cells
 | (i,v) :: r=>match place i with
  | some (off,size)=>if v.cells.length=size∧off+size≤cells.length∧v.whole=true then EE place (Aw cells off v.cells) r else none
  | none=>none
theorem HH {nx:Nat} {G:Gh} {w:World} {owf:Nat→Option Cb} {v:AV} {u:Value} (h:RV G w owf nx v u) (h1:v.whole=true):RVs G w owf nx v.cells u.cells.toList∧∀ x ∈ u.cells,x.oneCell'=true:=by
 have key:v.one=true→v.cells=[v]→RVs G w owf nx v.cells u.cells.toList∧∀ x ∈ u.cells,x.oneCell'=true:=fun h2 e=>by
  have h3:=Ua h h2
  rw [e,Ri h3]
  refine ⟨?_,by simp [h3]⟩
  unfold RVs RVs
  exact ⟨u,[],rfl,h,rfl⟩
 cases v <;> first | (exact key h1 rfl) | skip
 rename_i cs
 unfold RV at h
 obtain ⟨us,rfl,h⟩:=h
 refine ⟨by simpa [AV.cells,Value.cells] using h,fun x hx => ?_⟩
 simp only [Value.cells,List.mem_toArray] at hx
 obtain ⟨i,hi,rfl⟩:=List.mem_iff_getElem.1 hx
 have hi':i<cs.length:=by rw [← RVs.len _ _ h];exact hi
 obtain ⟨y,hy,h2⟩:=RVs.get cs us i cs[i] h (List.getElem?_eq_getElem hi')
 rw [List.getElem?_eq_getElem hi] at hy
 injection hy with hy
 rw [hy]
 exact Ua h2 (by simp only [AV.whole,List.all_eq_true] at h1;exact h1 _ (List.getElem_mem hi'))
theorem MF {nx:Nat} {G:Gh} {w:World} {owf:Nat→Option Cb} {place:Nat→Option (Nat × Nat)}:∀ (ps:List (Nat × AV)) (qs:List (Nat × Value)) (cells cs':List AV) (us:List Value),RVs G w owf nx cells us →
  (ps.length=qs.length∧∀ (j:Nat) (p:Nat × AV) (q:Nat × Value),ps[j]? = some p→qs[j]? = some q→p.1=q.1∧RV G w owf nx p.2 q.2)→EE place cells ps=some cs'→∃ us',Instr.fill place us.toArray qs=some us'.toArray∧RVs G w owf nx cs' us'
 | [],[],cells,cs',us,h,_,hf=>by
  unfold EE at hf
  injection hf with hf;subst hf
  exact ⟨us,rfl,h⟩
 | [],q :: qs,cells,cs',us,h,hh,hf=>by simp at hh
 | p :: ps,[],cells,cs',us,h,hh,hf=>by simp at hh
 | (i,v) :: ps,(j,u) :: qs,cells,cs',us,h,⟨hl,hh⟩,hf=>by
  obtain ⟨e,hv⟩:=hh 0 (i,v) (j,u) rfl rfl
  simp only at e hv
  subst e
  unfold EE at hf
  unfold Instr.fill
  split at hf
  ·rename_i off size hp
   rw [hp]
   simp only
   split at hf
   ·rename_i hc
    obtain ⟨h1,h2,h3⟩:=hc
    have hcv:=(HH hv h3).1
    have hl1:=RVs.len _ _ hcv
    have hl2:=RVs.len _ _ h
    have hsz:u.cells.size=size:=by rw [← h1,← hl1];simp
    rw [if_neg (by rw [hsz];simp;omega)]
    have e3:(u.cells.zipIdx.foldl (fun cs x=>cs.setIfInBounds (off+x.2) x.1) us.toArray)=(Aw us off u.cells.toList).toArray:=by
     rw [← Array.foldl_toList,Array.toList_zipIdx]
     exact LY u.cells.toList 0 us off
    have e4:(u.cells.zipIdx.foldl (fun cs (x:Value × Nat)=>match x with | (c,j)=>cs.setIfInBounds (off+j) c) us.toArray)=(Aw us off u.cells.toList).toArray:=e3
    rw [e4]
    exact MF ps qs _ cs' _ (RVs.setRow _ _ _ _ off h hcv) ⟨by simpa using hl,fun (j:Nat) (p:Nat × AV) (q:Nat × Value) hp hq=>hh (j+1) p q (by simpa using hp) (by simpa using hq)⟩ hf
   ·cases hf
  ·cases hf
def aD8 (P:Program):Nat→TypeId→List (Option Nat)
 | 0,_=>[none]
 | f+1,t=>match P.underlying t with
  | some (.struct fs)=>fs.toList.flatMap fun x=>aD8 P f x.type
  | some (.slice e)=>[(P.info? e).map (·.size)]
  | _=>[none]
def zAV:Option Nat→Value→AV
 | some sz,.slice none 0 0 => .nl sz
 | _,v=>cav v
def CE (P:Program) (t:TypeId):Option (List AV) :=
 match (P.info? t).bind (·.zero) with
 | some z=>if (aD8 P 8 t).length=z.cells.size then some (List.zipWith zAV (aD8 P 8 t) z.cells.toList) else none
 | none=>none
theorem aC6 {nx:Nat} {G:Gh} {w:World} {owf:Nat→Option Cb} (q:Option Nat) (v:Value):RV G w owf nx (zAV q v) v:=by
 unfold zAV
 split
 ·unfold RV;exact ⟨_,rfl⟩
 ·exact Xy v
theorem To {nx:Nat} {G:Gh} {w:World} {owf:Nat→Option Cb}:∀ (qs:List (Option Nat)) (vs:List Value),qs.length=vs.length→RVs G w owf nx (List.zipWith zAV qs vs) vs
 | [],[],_=>by unfold List.zipWith RVs;rfl
 | q :: qs,v :: vs,h=>by unfold List.zipWith RVs;exact ⟨v,vs,rfl,aC6 q v,To qs vs (by simpa using h)⟩
def BS (P:Program) (t:TypeId):Option (List (Nat × Nat) × List AV) :=
 match P.underlying t,CE P t with
 | some (.struct fs),some z=>(fs.toList.mapM fun f=>(P.info? f.type).map fun i=>(f.offset,i.size)).map fun ps=>(ps,z)
 | _,_=>none
theorem Hv {P:Program} {t:TypeId} {zs:List AV} (h:CE P t=some zs):∃ z,(P.info? t).bind (·.zero)=some z∧∀ {nx:Nat} {G:Gh} {w:World} {owf:Nat→Option Cb},RVs G w owf nx zs z.cells.toList:=by
 unfold CE at h
 split at h
 ·rename_i z hz
  split at h
  ·rename_i hl
   injection h with h
   subst h
   exact ⟨z,hz,To _ _ (by simpa using hl)⟩
  ·cases h
 ·cases h
theorem KO {P:Program} {t:TypeId} {z:Value} (h:(P.info? t).bind (·.zero)=some z) (w:World):(zeroValue t).run P w = .ok z w:=by
 cases hi:P.info? t with
 | none=>rw [hi] at h;cases h
 | some i =>
  rw [hi] at h
  unfold zeroValue typeInfo
  simp only [program,Sem.run_bind,Sem.run,Result.andThen_ok,hi,Sem.run_pure]
  simp only [Option.bind_some] at h
  rw [h]
  simp [Sem.run_pure]
theorem Pj {P:Program} {w:World} {α β:Type} (f:α→Sem β) (g:α→Option β):∀ (l:List α) (r:List β),(∀ a b,g a=some b→(f a).run P w = .ok b w)→l.mapM g=some r→(l.mapM f).run P w = .ok r w
 | [],r,hf,h=>by
  simp at h;subst h
  simp [Sem.run_pure]
 | a :: l,r,hf,h=>by
  rw [List.mapM_cons] at h ⊢
  cases ha:g a with
  | none=>rw [ha] at h;cases h
  | some b =>
   rw [ha] at h
   cases hl:l.mapM g with
   | none=>rw [hl] at h;cases h
   | some rs =>
    rw [hl] at h
    injection h with h
    subst h
    simp only [Sem.run_bind,hf a b ha,Result.andThen_ok,Pj f g l rs hf hl,Sem.run_pure]
def Me (P:Program) (t:TypeId) (ps:List (Nat × AV)) (k:AV→Prop):Prop :=
 match BS P t with
 | some (pl,z)=>match EE (pl[·]?) z ps with
  | some cs=>k (.ag cs)
  | none=>False
 | none=>False
theorem QX {P:Program} {nx:Nat} {G:Gh} {w:World} {owf:Nat→Option Cb} {t:TypeId} {ps:List (Nat × AV)} {qs:Array (Nat × Value)}
  (hh:ps.length=qs.toList.length∧∀ (j:Nat) (p:Nat × AV) (q:Nat × Value),ps[j]? = some p→qs.toList[j]? = some q→p.1=q.1∧RV G w owf nx p.2 q.2) {k:AV→Prop} (hk:Me P t ps k) :
  ∃ av v,k av∧RV G w owf nx av v∧Yl P w (Instr.build t qs) v:=by
 unfold Me at hk
 cases ht:BS P t with
 | none=>rw [ht] at hk;exact hk.elim
 | some q =>
  obtain ⟨pl,z⟩:=q
  rw [ht] at hk
  simp only at hk
  unfold BS at ht
  split at ht
  ·rename_i fs zs h1 h2'
   cases hm:(fs.toList.mapM fun f=>(P.info? f.type).map fun i=>(f.offset,i.size)) with
   | none=>rw [hm] at ht;cases ht
   | some pls =>
    rw [hm] at ht
    simp only [Option.map_some,Option.some.injEq,Prod.mk.injEq] at ht
    obtain ⟨rfl,rfl⟩:=ht
    cases hx:EE (pls[·]?) zs ps with
    | none=>rw [hx] at hk;exact hk.elim
    | some cs =>
     rw [hx] at hk
     obtain ⟨z',h2,hzr⟩:=Hv h2'
     obtain ⟨us',hf,hr⟩:=MF ps qs.toList _ cs _ hzr hh hx
     refine ⟨_,_,hk,by unfold RV;exact ⟨us',rfl,hr⟩,fun w' _ => ?_⟩
     unfold Instr.build
     simp only [Sem.run_bind,KO h2,Result.andThen_ok,Cf h1,Sem.run_pure]
     rw [Array.mapM_eq_mapM_toList]
     have hmr:=Pj (P:=P) (w:=w') (fun (f:Field)=>(do pure (f.offset,← sizeOf f.type):Sem (Nat × Nat))) (fun f=>(P.info? f.type).map fun i=>(f.offset,i.size)) fs.toList pls (fun f b hb=>by
      cases hi:P.info? f.type with
      | none=>rw [hi] at hb;cases hb
      | some i =>
       rw [hi] at hb
       injection hb with hb;subst hb
       unfold sizeOf typeInfo
       simp [program,Sem.run_bind,Sem.run,hi,Sem.run_pure]) hm
     simp only [map_eq_pure_bind,Sem.run_bind,hmr,Result.andThen_ok,Sem.run_pure]
     have hpl:(fun (x:Nat)=>pls.toArray[x]?)=(fun (x:Nat)=>pls[x]?):=by funext x;simp
     have hz:z'.cells.toList.toArray=z'.cells:=by simp
     rw [hpl,← hz,hf]
     simp [Sem.run_pure]
  ·cases ht
def ixL:Option AV→Option Int
 | none=>some 0
 | some (.i n)=>some n
 | _=>none
def ixH (n:Nat):Option AV→Option Int
 | none=>some n
 | some (.i n)=>some n
 | _=>none
def iOf:AV→Option Int
 | .i n=>some n
 | _=>none
def Hq (d:D) (l h:Nat):D:=match d with | .rows sz _ cs => .rows sz (h-l) ((cs.drop (l * sz)).take ((h-l) * sz)) | d=>d
def aDk (P:Program) (s:AS) (T:TypeId) (x:AV) (lo hi mx:Option AV) (k:AV→Prop):Prop :=
 match mx,x with
 | none,.s t=>match ixL lo,ixH t.size hi with
  | some l,some h=>BP P T=1∧(0≤l∧l≤h∧h≤t.size)∧k (.s (t.extract l.toNat h.toNat))
  | _,_=>False
 | none,.br (.rows sz n cs)=>match ixL lo,ixH n hi,BK P T with
  | some l,some h,some (_,esz)=>esz=sz∧(0≤l∧l≤h∧h≤n)∧k (.br (Hq (.rows sz n cs) l.toNat h.toNat))
  | _,_,_=>False
 | none,.sl o=>match s.owf o with
  | some I=>match I.d with
   | .rows sz n cs=>match ixL lo,ixH n hi,BK P T with
    | some l,some h,some (_,esz)=>esz=sz∧(0≤l∧l≤h∧h≤n)∧k (.sp o (Hq (.rows sz n cs) l.toNat h.toNat))
    | _,_,_=>False
   | _=>False
  | none=>False
 | none,.sp o (.rows sz n cs)=>match s.owf o,ixL lo,ixH n hi,BK P T with
  | some _,some l,some h,some (_,esz)=>esz=sz∧(0≤l∧l≤h∧h≤n)∧k (.sp o (Hq (.rows sz n cs) l.toNat h.toNat))
  | _,_,_,_=>False
 | some (.i m),.br (.rows sz n cs)=>match ixL lo,BK P T with
  | some l,some (_,esz)=>esz=sz∧hi.bind iOf=some m∧(0≤l∧l≤m∧m≤n)∧k (.cl (Hq (.rows sz n cs) l.toNat m.toNat))
  | _,_=>False
 | _,_=>False
theorem GF {P:Program} {w:World} {nx:Nat} {G:Gh} {W:World} {owf:Nat→Option Cb} {b:Bool} {n cap:Nat} (hnc:n≤cap) {lo hi:Option AV} {vl vh:Option Value} (hl:∀ a,lo=some a→∃ v,vl=some v∧RV G W owf nx a v) (hl0:lo=none→vl=none)
  (hh:∀ a,hi=some a→∃ v,vh=some v∧RV G W owf nx a v) (hh0:hi=none→vh=none) {l h:Int} (e1:ixL lo=some l) (e2:ixH n hi=some h) (h0:0≤l∧l≤h∧h≤n) :
  (Instr.sliceBounds b n cap vl vh none).run P w = .ok (l.toNat,h.toNat,cap) w:=by
 have hL:(vl=none∧l=0)∨vl=some (.int .i64 l):=by
  cases lo with
  | none=>simp only [ixL,Option.some.injEq] at e1;exact .inl ⟨hl0 rfl,e1.symm⟩
  | some a =>
   obtain ⟨v,rfl,hv⟩:=hl a rfl
   cases a <;> simp only [ixL] at e1 <;> first | (cases e1;done) | skip
   injection e1 with e1;subst e1
   unfold RV at hv;subst hv
   exact .inr rfl
 have hH:(vh=none∧h=n)∨vh=some (.int .i64 h):=by
  cases hi with
  | none=>simp only [ixH,Option.some.injEq] at e2;exact .inl ⟨hh0 rfl,e2.symm⟩
  | some a =>
   obtain ⟨v,rfl,hv⟩:=hh a rfl
   cases a <;> simp only [ixH] at e2 <;> first | (cases e2;done) | skip
   injection e2 with e2;subst e2
   unfold RV at hv;subst hv
   exact .inr rfl
 have hb1:(0≤h∧h≤(cap:Int)):=by omega
 have hb2:(0≤l∧l≤(h.toNat:Int)):=by omega
 have s1:∀ c,(Instr.sliceBound (.int .i64 h) cap c).run P w = .ok h.toNat w:=fun c=>by
  simp only [Instr.sliceBound,asIntOf,Sem.run_bind,Sem.run_pure,Result.andThen_ok,if_pos hb1]
 have s2:∀ c,(Instr.sliceBound (.int .i64 l) h.toNat c).run P w = .ok l.toNat w:=fun c=>by
  simp only [Instr.sliceBound,asIntOf,Sem.run_bind,Sem.run_pure,Result.andThen_ok,if_pos hb2]
 unfold Instr.sliceBounds
 rcases hH with ⟨rfl,rfl⟩ | rfl
 ·rcases hL with ⟨rfl,rfl⟩ | rfl
  ·simp [Sem.run_pure]
  ·have:=s2 .sliceB
   simp only [Int.toNat_natCast] at this
   simp [Sem.run_bind,Sem.run_pure,this]
 ·rcases hL with ⟨rfl,rfl⟩ | rfl
  ·simp only [Sem.run_bind,Sem.run_pure,Result.andThen_ok,s1]
   rfl
  ·simp only [Sem.run_bind,Sem.run_pure,Result.andThen_ok,s1,Option.isSome_none,Bool.false_eq_true,if_false,s2]
theorem QR {w:World} {S:Nat→Prop} {sz n:Nat} {cs:List D} {a:Option Addr} {cap:Nat} (hr:AW w S (.rows sz n cs) (.slice a n cap)) {l h:Nat} (hlh:l≤h) (hn:h≤n) :
  AW w S (Hq (.rows sz n cs) l h) (.slice (if cap=l then a else a.map (·.add (l * sz))) (h-l) (cap-l)):=by
 obtain ⟨a',cap',e,hnc,hcm,hcl⟩:=hr.shape
 injection e with e1 e2 e3
 subst e3
 have hlen:((cs.drop (l * sz)).take ((h-l) * sz)).length=(h-l) * sz:=by
  rw [List.length_take,List.length_drop,hcl]
  have:(h-l) * sz≤n * sz-l * sz:=by rw [← Nat.mul_sub_right_distrib];exact Nat.mul_le_mul_right _ (by omega)
  omega
 unfold Hq AW
 refine ⟨_,_,rfl,by omega,by omega,hlen, ?_⟩
 by_cases h0:h-l=0
 ·exact .inl h0
 ·refine .inr ?_
  have hk:l<n:=by omega
  obtain ⟨b,off,vs,rfl,hS,hc,hrs,hvl,_⟩:=hr.cell hk
  rw [if_neg (by omega)]
  refine ⟨b,off+l * sz,(vs.drop (l * sz)).take ((h-l) * sz),by simp [DC],hS,fun i hi => ?_,(hrs.drop _).take _⟩
  simp only [List.length_take,List.length_drop] at hi
  have:=hc (l * sz+i) (by omega)
  rw [Nat.add_assoc,this]
  simp
theorem Yd {P:Program} {w0:Aq} {G:Gh} {s:AS} {a:Act} {w:World} (h:Rel w0 G s a w) {T:TypeId} {x:AV} {u:Value} (hx:RV G w s.owf s.nx x u) {lo hi mx:Option AV} {vl vh vm:Option Value}
  (hl:∀ a,lo=some a→∃ v,vl=some v∧RV G w s.owf s.nx a v) (hl0:lo=none→vl=none) (hh:∀ a,hi=some a→∃ v,vh=some v∧RV G w s.owf s.nx a v) (hh0:hi=none→vh=none) (hm0:mx=none→vm=none) (hm1:∀ a,mx=some a→∃ v,vm=some v∧RV G w s.owf s.nx a v)
  {k:AV→Prop} (hk:aDk P s T x lo hi mx k):∃ av v,k av∧RV G w s.owf s.nx av v∧Yl P w (Instr.sliceAt T u vl vh vm) v:=by
 have main:∀ {S:Nat→Prop} {sz n:Nat} {cs:List D} {l h':Int} {e:TypeId} {esz:Nat} {v:Value},AW w S (.rows sz n cs) v→ixL lo=some l→ixH n hi=some h'→BK P T=some (e,esz)→esz=sz→(0≤l∧l≤h'∧h'≤n)→vm=none →
   ∃ r,AW w S (Hq (.rows sz n cs) l.toNat h'.toNat) r∧r.oneCell'=true∧Yl P w (Instr.sliceAt T v vl vh vm) r:=by
  intro S sz n cs l h' e esz v hr e1 e2 e3 e4 hb hm
  subst e4
  obtain ⟨a',cap,rfl,hnc,hcm,_⟩:=hr.shape
  refine ⟨_,QR hr (l:=l.toNat) (h:=h'.toNat) (by omega) (by omega),rfl,fun w' _ => ?_⟩
  subst hm
  unfold BK at e3
  split at e3
  ·rename_i e' hu
   cases hi':P.info? e' with
   | none=>rw [hi'] at e3;cases e3
   | some i =>
    rw [hi'] at e3
    simp only [Option.map_some,Option.some.injEq,Prod.mk.injEq] at e3
    obtain ⟨rfl,rfl⟩:=e3
    unfold Instr.sliceAt
    simp only [Sem.run_bind,Cf hu,Result.andThen_ok]
    unfold Instr.slice
    simp only [Sem.run_bind,Cf hu,Result.andThen_ok,GF (P:=P) (w:=w') hnc hl hl0 hh hh0 e1 e2 hb]
    simp [sizeOf,typeInfo,program,Sem.run_bind,Sem.run,hi',Sem.run_pure]
  ·cases e3
 unfold aDk at hk
 split at hk
 ·split at hk
  ·rename_i t _ l h' e1 e2
   obtain ⟨h1,h2,h3⟩:=hk
   unfold RV at hx;subst hx
   refine ⟨_,_,h3,by unfold RV;rfl,fun w' _ => ?_⟩
   rw [hm0 rfl]
   unfold Instr.sliceAt
   simp only [Sem.run_bind,Cf (HD h1),Result.andThen_ok]
   unfold Instr.slice
   simp only [Sem.run_bind,Cf (HD h1),Result.andThen_ok,Option.isSome_none,Bool.false_eq_true,if_false,Sem.run_pure]
   rw [GF (P:=P) (w:=w') (Nat.le_refl _) hl hl0 hh hh0 e1 e2 h2]
   simp [Sem.run_pure]
  ·exact hk.elim
 ·split at hk
  ·rename_i sz n cs _ _ _ l h' e esz e1 e2 e3
   obtain ⟨h1,h2,h3⟩:=hk
   unfold RV at hx
   obtain ⟨r,hr,h1o,hy⟩:=main hx e1 e2 e3 h1 h2 (hm0 rfl)
   exact ⟨_,r,h3,by unfold RV;exact hr,hy⟩
  ·exact hk.elim
 ·rename_i o
  cases hI:s.owf o with
  | none=>rw [hI] at hk;exact hk.elim
  | some I =>
   rw [hI] at hk
   simp only at hk
   obtain ⟨d,ap,deep⟩:=I
   cases d with
   | rows sz n cs =>
    simp only at hk
    split at hk
    ·rename_i l h' e esz e1 e2 e3
     obtain ⟨h1,h2,h3⟩:=hk
     unfold RV at hx
     obtain ⟨_,⟨hB,hrep,_⟩,_⟩:=h.own o _ hI
     have hv:=hx.2.2 _ hI
     rw [← hv] at hrep
     obtain ⟨r,hr,h1o,hy⟩:=main hrep e1 e2 e3 h1 h2 (hm0 rfl)
     exact ⟨_,r,h3,by unfold RV;exact ⟨hx.1,h1o,fun _ _=>hr⟩,hy⟩
    ·exact hk.elim
   | _=>exact hk.elim
 ·split at hk
  ·rename_i o sz n cs _ _ _ _ I l h' e esz hI e1 e2 e3
   obtain ⟨h1,h2,h3⟩:=hk
   unfold RV at hx
   obtain ⟨r,hr,h1o,hy⟩:=main (hx.2.2 I hI) e1 e2 e3 h1 h2 (hm0 rfl)
   exact ⟨_,r,h3,by unfold RV;exact ⟨hx.1,h1o,fun _ _=>hr⟩,hy⟩
  ·exact hk.elim
 ·split at hk
  ·rename_i m sz n cs _ _ l e esz e1 e3
   obtain ⟨h1,h4,h2,h3⟩:=hk
   subst h1
   unfold RV at hx
   obtain ⟨a',cap,rfl,hnc,hcm,_⟩:=hx.shape
   obtain ⟨vm',rfl,hvm⟩:=hm1 _ rfl
   unfold RV at hvm
   subst hvm
   obtain ⟨ah,eh,eh2⟩:=Option.bind_eq_some_iff.1 h4
   subst eh
   obtain ⟨vh',rfl,hvh⟩:=hh _ rfl
   cases ah <;> simp only [iOf] at eh2 <;> first | (cases eh2;done) | skip
   injection eh2 with eh2
   subst eh2
   unfold RV at hvh
   subst hvh
   have hL:(vl=none∧l=0)∨vl=some (.int .i64 l):=by
    cases lo with
    | none=>simp only [ixL,Option.some.injEq] at e1;exact .inl ⟨hl0 rfl,e1.symm⟩
    | some a =>
     obtain ⟨v,rfl,hv⟩:=hl a rfl
     cases a <;> simp only [ixL] at e1 <;> first | (cases e1;done) | skip
     injection e1 with e1;subst e1
     unfold RV at hv;subst hv
     exact .inr rfl
   rename_i m
   have hb1:(0≤m∧m≤(cap:Int)):=by omega
   have hb2:(0≤l∧l≤(m.toNat:Int)):=by omega
   have hb3:(0≤m∧m≤(m.toNat:Int)):=by omega
   have hsb:∀ w':World,(Instr.sliceBounds true n cap vl (some (.int .i64 m)) (some (.int .i64 m))).run P w' = .ok (l.toNat,m.toNat,m.toNat) w':=fun w'=>by
    have s0:∀ c,(Instr.sliceBound (.int .i64 m) cap c).run P w' = .ok m.toNat w':=fun c=>by
     simp only [Instr.sliceBound,asIntOf,Sem.run_bind,Sem.run_pure,Result.andThen_ok,if_pos hb1]
    have s1:∀ c,(Instr.sliceBound (.int .i64 m) m.toNat c).run P w' = .ok m.toNat w':=fun c=>by
     simp only [Instr.sliceBound,asIntOf,Sem.run_bind,Sem.run_pure,Result.andThen_ok,if_pos hb3]
    have s2:∀ c,(Instr.sliceBound (.int .i64 l) m.toNat c).run P w' = .ok l.toNat w':=fun c=>by
     simp only [Instr.sliceBound,asIntOf,Sem.run_bind,Sem.run_pure,Result.andThen_ok,if_pos hb2]
    unfold Instr.sliceBounds
    rcases hL with ⟨rfl,rfl⟩ | rfl
    ·simp only [Sem.run_bind,Sem.run_pure,Result.andThen_ok,s0,s1]
     rfl
    ·simp only [Sem.run_bind,Sem.run_pure,Result.andThen_ok,s0,s1,Option.isSome_some,if_true,s2]
   have hcut:=QR hx (l:=l.toNat) (h:=m.toNat) (by omega) (by omega)
   have hcut':AW w G.Z (Hq (.rows esz n cs) l.toNat m.toNat) (.slice (if m.toNat=l.toNat then a' else a'.map (·.add (l.toNat * esz))) (m.toNat-l.toNat) (m.toNat-l.toNat)):=by
    unfold Hq AW at hcut ⊢
    obtain ⟨a2,c2,q1,q2,q3,q4,q5⟩:=hcut
    injection q1 with q1 _ _
    refine ⟨_,_,rfl,Nat.le_refl _,by omega,q4, ?_⟩
    rcases q5 with q5 | ⟨b,off,vs,q6,q7⟩
    ·exact .inl q5
    ·by_cases h0:m.toNat-l.toNat=0
     ·exact .inl h0
     ·refine .inr ⟨b,off,vs, ?_,q7⟩
      rw [if_neg (by omega)]
      rw [if_neg (by omega)] at q1
      exact q1.trans q6
   refine ⟨_,_,h3,by unfold RV;exact ⟨⟨_,_,rfl⟩,hcut'⟩,fun w' _ => ?_⟩
   unfold BK at e3
   split at e3
   ·rename_i e' hu
    cases hi':P.info? e' with
    | none=>rw [hi'] at e3;cases e3
    | some i =>
     rw [hi'] at e3
     simp only [Option.map_some,Option.some.injEq,Prod.mk.injEq] at e3
     obtain ⟨rfl,rfl⟩:=e3
     unfold Instr.sliceAt
     simp only [Sem.run_bind,Cf hu,Result.andThen_ok]
     unfold Instr.slice
     simp only [Sem.run_bind,Cf hu,Result.andThen_ok,hsb]
     simp [sizeOf,typeInfo,program,Sem.run_bind,Sem.run,hi',Sem.run_pure]
   ·cases e3
  ·exact hk.elim
 ·exact hk.elim
def aEk (P:Program) (src dst:TypeId) (x:AV) (k:AV→Prop):Prop :=
 match x with
 | .y n=>BP P dst=3∧(∃ d,P.underlying src=some d)∧inI n∧k (.i n)
 | .i n=>(BP P dst=4∧(∃ d,P.underlying src=some d)∧(0≤n∧n<256)∧k (.y n))∨(BP P dst=3∧(∃ d,P.underlying src=some d)∧inI n∧k (.i n))
 | _=>False
theorem Oj {P:Program} {T:TypeId} (h:BP P T=3):P.underlying T=some (.int .i64):=by
 unfold BP at h
 split at h <;> simp_all
theorem RH {P:Program} {T:TypeId} (h:BP P T=4):P.underlying T=some (.int .u8):=by
 unfold BP at h
 split at h <;> simp_all
theorem aA2 {P:Program} {nx:Nat} {G:Gh} {w:World} {owf:Nat→Option Cb} {src dst:TypeId} {x:AV} {u:Value} (hx:RV G w owf nx x u)
  {k:AV→Prop} (hk:aEk P src dst x k):∃ av r,k av∧RV G w owf nx av r∧Yl P w (convert src dst u) r:=by
 cases x <;> simp only [aEk] at hk <;> first | exact hk.elim | skip
 ·unfold RV at hx;subst hx
  rcases hk with ⟨h1,⟨d,h2⟩,h3,h4⟩ | ⟨h1,⟨d,h2⟩,h3,h4⟩
  ·refine ⟨_,_,h4,by unfold RV;rfl,fun w' _ => ?_⟩
   unfold convert
   simp [Sem.run_bind,Cf h2,Cf (RH h1),Conv.intToInt,Sem.run_pure,IntKind.wrap,IntKind.bits,IntKind.signed,Int.emod_eq_of_lt h3.1 h3.2]
  ·refine ⟨_,_,h4,by unfold RV;rfl,fun w' _ => ?_⟩
   unfold convert
   simp [Sem.run_bind,Cf h2,Cf (Oj h1),Conv.intToInt,Sem.run_pure,FG h3]
 ·unfold RV at hx;subst hx
  obtain ⟨h1,⟨d,h2⟩,h3,h4⟩:=hk
  refine ⟨_,_,h4,by unfold RV;rfl,fun w' _ => ?_⟩
  unfold convert
  simp [Sem.run_bind,Cf h2,Cf (Oj h1),Conv.intToInt,Sem.run_pure,FG h3]
def aEE:AV→AV→(AV→Prop)→Prop
 | .i a,.i b,k=>k (.i (if a<b then b else a))
 | _,_,_=>False
def xP (P:Program) (s:AS) (op:Op) (k:AV→Prop):Prop :=
 match op with
 | .move x=>k (s.ev x)
 | .assign x=>k (s.ev x)
 | .pick c a b=>YU (s.ev c) (s.ev a) (s.ev b) k
 | .load t x=>Qa P s t (s.ev x) k
 | .binOp op T x y _=>PP P T op (s.ev x) (s.ev y) k
 | .unOp op _ x=>aE3 op (s.ev x) k
 | .fieldAddr t x f=>aB8 P s t f (s.ev x) k
 | .indexAddr t x i=>aA7 P s t (s.ev x) (s.ev i) k
 | .index t x i=>aEj P t (s.ev x) (s.ev i) k
 | .extract x i=>aCB (s.ev x) i k
 | .build t ps=>Me P t (ps.toList.map fun q=>(q.1,s.ev q.2)) k
 | .makeFunc (.func f) first cap=>first.toList.length=0∧k (.fn f (cap.toList.map s.ev))
 | .slice t x lo hi mx=>aDk P s t (s.ev x) (lo.map s.ev) (hi.map s.ev) (mx.map s.ev) k
 | .convert a b x=>aEk P a b (s.ev x) k
 | .nilCheck x=>match s.ev x with | .bx b o=>k (.bx b o) | _=>False
 | .call c=>match c.callee,c.args.toList,c.argTypes.toList with
  | .builtin .len,[x],[t]=>aDe P s t (s.ev x) k
  | .builtin .max,[x,y],_=>aEE (s.ev x) (s.ev y) k
  | _,_,_=>False
 | _=>False
theorem Yl.val {P:Program} {w:World} {x:Sem Value} {v:Value} (h:Yl P w x v):Yl P w (do pure (.value (← x)):Sem Next) (.value v):=fun w' hb=>by
 simp only [Sem.run_bind,h w' hb,Result.andThen_ok,Sem.run_pure]
theorem Rel.evs {w0:Aq} {G:Gh} {s:AS} {a:Act} {w:World} (h:Rel w0 G s a w):∀ (l:List Operand),RVs G w s.owf s.nx (l.map s.ev) (l.map a.eval)
 | []=>by simp;unfold RVs;rfl
 | x :: l=>by simp only [List.map_cons];unfold RVs;exact ⟨_,_,rfl,h.ev x,Rel.evs h l⟩
theorem ZL {P:Program} {w0:Aq} {G:Gh} {s:AS} {a:Act} {w:World} (h:Rel w0 G s a w) (hq:Flq G s) {o:Oper} {k:AV→Prop} (hk:xP P s o.op k) :
  ∃ av v,k av∧RV G w s.owf s.nx av v∧Yl P w (execOp a.eval o) (.value v):=by
 have fin:∀ {x:Sem Value},(∃ av v,k av∧RV G w s.owf s.nx av v∧Yl P w x v)→execOp a.eval o=(do pure (.value (← x)))→∃ av v,k av∧RV G w s.owf s.nx av v∧Yl P w (execOp a.eval o) (.value v) :=
  fun ⟨av,v,h1,h2,h3⟩ e=>⟨av,v,h1,h2,by rw [e];exact h3.val⟩
 obtain ⟨dst,op,type,pos,after,guard⟩:=o
 simp only at hk
 cases op <;> simp only [xP] at hk <;> first | exact hk.elim | skip
 case move x=>exact ⟨_,_,hk,h.ev x,fun w' _=>by simp only [execOp,Sem.run_pure]⟩
 case assign x=>exact ⟨_,_,hk,h.ev x,fun w' _=>by simp only [execOp,Sem.run_pure]⟩
 case pick c x y =>
  obtain ⟨av,v,h1,h2,h3⟩:=WH (P:=P) (h.ev c) (h.ev x) (h.ev y) hk
  refine ⟨av,v,h1,h2,fun w' hb => ?_⟩
  have:=h3 w' hb
  simp only [execOp,Sem.run_bind,Sem.run_pure] at this ⊢
  cases hr:(asBool (a.eval c)).run P w' with
  | ok r w2=>rw [hr] at this;simp only [Result.andThen_ok] at this ⊢; injection this with e1 e2;rw [e1,e2]
  | halt r w2=>rw [hr] at this;cases this
 case load t x=>exact fin (Wm h hq (h.ev x) hk) rfl
 case binOp bop t x y yt=>exact fin (WO (T:=t) (ox:=x) (oy:=y) (h.ev x) (h.ev y) hk) rfl
 case unOp uop t x=>exact fin (aAp (h.ev x) hk) rfl
 case fieldAddr t x f =>
  obtain ⟨av,v,h1,h2,h3⟩:=Nj (h.ev x) hk
  exact fin ⟨av,v,h1,h2,fun w' _=>h3 w'⟩ rfl
 case indexAddr t x i=>exact fin (YE h (h.ev x) (h.ev i) hk) rfl
 case index t x i=>exact fin (aAi (h.ev x) (h.ev i) hk) rfl
 case extract x i=>exact fin (Zl (h.ev x) hk) rfl
 case convert s d x=>exact fin (aA2 (h.ev x) hk) rfl
 case build t ps =>
  refine fin (QX (qs:=ps.map fun q=>(q.1,a.eval q.2)) ⟨by simp,fun j p q hp hq => ?_⟩ hk) rfl
  simp only [List.getElem?_map,Array.toList_map] at hp hq
  cases hz:ps.toList[j]? with
  | none=>rw [hz] at hp;cases hp
  | some z =>
   rw [hz] at hp hq
   injection hp with hp
   injection hq with hq
   subst hp;subst hq
   exact ⟨rfl,h.ev _⟩
 case slice t x lo hi mx =>
  refine fin (Yd h (h.ev x) (fun z hz => ?_) (fun hz => ?_) (fun z hz => ?_) (fun hz => ?_) (fun hz => ?_) (fun z hz => ?_) hk) rfl
  ·cases lo with
   | none=>cases hz
   | some y=>injection hz with hz;subst hz;exact ⟨_,rfl,h.ev y⟩
  ·cases lo with
   | none=>rfl
   | some y=>cases hz
  ·cases hi with
   | none=>cases hz
   | some y=>injection hz with hz;subst hz;exact ⟨_,rfl,h.ev y⟩
  ·cases hi with
   | none=>rfl
   | some y=>cases hz
  ·cases mx with
   | none=>rfl
   | some y=>cases hz
  ·cases mx with
   | none=>cases hz
   | some y=>injection hz with hz;subst hz;exact ⟨_,rfl,h.ev y⟩
 case makeFunc fn first cap =>
  cases fn <;> simp only at hk <;> first | exact hk.elim | skip
  rename_i f
  obtain ⟨h0,hk⟩:=hk
  refine fin ⟨_,.func (.func f) #[] (cap.map a.eval),hk, ?_,fun w' _ => ?_⟩ rfl
  ·unfold RV
   exact ⟨cap.toList.map a.eval,by rw [show cap.map a.eval=(cap.toList.map a.eval).toArray from Array.ext' (by simp)],h.evs cap.toList⟩
  ·have:first = #[]:=Array.ext' (List.eq_nil_of_length_eq_zero h0)
   subst this
   simp [Instr.makeFunc,Sem.run_pure,Sem.run]
 case nilCheck x =>
  have hx:=h.ev x
  cases hv:s.ev x <;> rw [hv] at hk <;> simp only at hk <;> first | exact hk.elim | skip
  rw [hv] at hx
  refine ⟨_,a.eval x,hk,hx,fun w' _ => ?_⟩
  unfold RV at hx
  simp only [execOp,hx.2,Sem.run_pure]
 case call c =>
  obtain ⟨callee,args,tys⟩:=c
  simp only at hk
  split at hk
  ·rename_i x t e1 e2
   have ea:args = #[x]:=by cases args;simp at e1;simp [e1]
   have et:tys = #[t]:=by cases tys;simp at e2;simp [e2]
   subst ea;subst et
   refine fin (aAf (ty:=type) h (h.ev x) hk) ?_
   simp [execOp,resolve,invoke,builtin]
  ·rename_i x y e1
   have ea:args = #[x,y]:=by cases args;simp at e1;simp [e1]
   subst ea
   have hx:=h.ev x
   have hy:=h.ev y
   cases hvx:s.ev x <;> rw [hvx] at hk hx <;> simp only [aEE] at hk <;> first | exact hk.elim | skip
   cases hvy:s.ev y <;> rw [hvy] at hk hy <;> simp only [aEE] at hk <;> first | exact hk.elim | skip
   rename_i a1 b1
   unfold RV at hx hy
   refine ⟨_,.int .i64 (if a1<b1 then b1 else a1),hk,by unfold RV;rfl,fun w' _ => ?_⟩
   simp [execOp,resolve,invoke,builtin,Builtin.max_,Builtin.max2,hx,hy,Sem.run_pure]
  ·exact hk.elim
theorem Res.keep {w0:Aq} {Z:Nat→Prop} {w w':World} {B:List Nat} {v:Value} {I:Cb} (h:Res w0 Z w B v I) (hs:w.heap.size≤w'.heap.size) (hb:∀ k,Z k→w'.heap[k]? = w.heap[k]?) (hB:∀ k ∈ B,w'.heap[k]? = w.heap[k]?):Res w0 Z w' B v I:=by
 obtain ⟨h1,h2,h3,h4⟩:=h
 refine ⟨fun k hk=>⟨(h1 k hk).1,Nat.lt_of_lt_of_le (h1 k hk).2 hs⟩,AW.mono (fun _ hk=>hk) (fun k hk=>hk.elim (hb k) (hB k)) _ _ h2,fun hd => ?_,fun T hT => ?_⟩
 ·obtain ⟨h5,h6⟩:=h3 hd
  exact ⟨Ch.keep hs _ _ _ hB h5,h6⟩
 ·obtain ⟨sz,n,cs,vs,e,h5,h6,h7,h8,h9⟩:=h4 T hT
  refine ⟨sz,n,cs,vs,e,⟨h5.1, ?_⟩,An.mono (fun _ hk=>hk) (fun k hk=>hk.elim (hb k) (fun h=>hB k h.1)) _ _ h6,h7,h8,fun hd => ?_⟩
  ·rcases h5.2 with h | ⟨g,o,cap,cur,e1,hh,r⟩
   ·exact .inl h
   ·exact .inr ⟨g,o,cap,cur,e1,(hB g (h7 g (by rw [e1];simp [Cm])).1).trans hh,r⟩
  ·obtain ⟨fp,h10,h11,h12⟩:=h9 hd
   exact ⟨fp,Ao.keep hs _ _ _ (fun k hk=>hB k (h12 k hk).1) h10,h11,h12⟩
def upd {α:Type} (f:Nat→α) (i:Nat) (v:α):Nat→α:=fun j=>if j=i then v else f j
theorem AQ {α:Type} (f:Nat→α) {i j:Nat} (v:α) (h:j≠i):upd f i v j=f j:=if_neg h
theorem Bu {α:Type} (f:Nat→α) (i:Nat) (v:α):upd f i v i=v:=if_pos rfl
def Ur (l:List Nat) (ow:List (Nat × Option Cb)):List (Nat × Option Cb):=l.foldr (fun o r=>(o,none) :: r) ow
theorem Az {α:Type} (k:Nat) (v:α) (r:List (Nat × α)) (i:Nat):AO ((k,v) :: r) i=if i=k then some v else AO r i:=rfl
theorem Ij:∀ (l:List Nat) (ow:List (Nat × Option Cb)) (o:Nat),AO (Ur l ow) o=if o ∈ l then some none else AO ow o
 | [],ow,o=>by simp [Ur]
 | e :: l,ow,o=>by
  have:=Ij l ow o
  unfold Ur at this ⊢
  rw [List.foldr_cons,Az]
  by_cases h:o=e
  ·simp [h]
  ·rw [if_neg h,this];simp [h]
def AS.mk' (s:AS) (eats:List Nat) (I:Cb):AS:={ s with ow:=(s.nx,some I) :: Ur eats s.ow,nx:=s.nx+1 }
theorem FH {s:AS} {eats:List Nat} {I:Cb} (o:Nat):(s.mk' eats I).owf o=if o=s.nx then some I else if o ∈ eats then none else s.owf o:=by
 unfold AS.mk' AS.owf
 simp only
 rw [Az]
 split
 ·rfl
 ·rw [Ij];split <;> rfl
def Gh.own (G:Gh) (i:Nat) (B:List Nat) (v:Value):Gh:={ G with B:=upd G.B i B,root:=upd G.root i v }
theorem Rel.own' {w0:Aq} {G:Gh} {s:AS} {a:Act} {w w':World} (h:Rel w0 G s a w) {eats:List Nat} {I:Cb} {B:List Nat} {v:Value} (hbel:Bel w0.wr w0.toWorld w') (hsz:w.heap.size≤w'.heap.size)
  (hun:∀ k,k<w.heap.size→(∀ o I,o ∈ eats→s.owf o=some I→k ∉ G.B o)→w'.heap[k]? = w.heap[k]?) (hR:Res w0 G.Z w' B v I) (hone:v.oneCell'=true)
  (hbx:∀ b cs,AO s.bx b=some cs→G.β b ∉ B) (hdis:∀ o I,s.owf o=some I→o ∉ eats→∀ k ∈ G.B o,k ∉ B) :
  Rel w0 (G.own s.nx B v) (s.mk' eats I) a w'∧RV (G.own s.nx B v) w' (s.mk' eats I).owf (s.mk' eats I).nx (.sl s.nx) v:=by
 have hbase:∀ k,G.Z k→w'.heap[k]? = w.heap[k]? := fun k hk=>hun k (h.zl k hk) fun o I _ ho hkB=>((h.own o I ho).2.1.1 k hkB).1.1 hk
 have hbz:∀ k,G.Z k→(G.own s.nx B v).Z k∧(w').heap[k]? = w.heap[k]? := fun k hk=>⟨hk,hbase k hk⟩
 have hold:∀ o I',(s.mk' eats I).owf o=some I'→o≠s.nx→s.owf o=some I'∧o ∉ eats:=fun o I' ho hne=>by
  rw [FH,if_neg hne] at ho
  split at ho
  ·cases ho
  ·rename_i hn;exact ⟨ho,hn⟩
 have hB:∀ o I',s.owf o=some I'→o ∉ eats→∀ k ∈ G.B o,w'.heap[k]? = w.heap[k]? := fun o I' ho hn k hk=>by
  obtain ⟨_,hres,_⟩:=h.own o I' ho
  exact hun k (hres.1 k hk).2 fun e Ie he hIe=>fun hke=>h.dis o e I' Ie ho hIe (fun e'=>hn (e' ▸ he)) k hk hke
 have hβ:∀ b,b<s.nx→(G.own s.nx B v).β b=G.β b:=fun b _=>rfl
 have hturn:∀ o I',o<s.nx→(s.mk' eats I).owf o=some I'→s.owf o=some I'∧(G.own s.nx B v).root o=G.root o∧(G.own s.nx B v).B o=G.B o∧∀ k ∈ G.B o,w'.heap[k]? = w.heap[k]? := fun o I' hlt ho=>by
  have hne:o≠s.nx:=Nat.ne_of_lt hlt
  obtain ⟨h1,h2⟩:=hold o I' ho hne
  exact ⟨h1,AQ _ _ hne,AQ _ _ hne,hB o I' h1 h2⟩
 have hnx:(s.mk' eats I).nx=s.nx+1:=rfl
 constructor
 ·refine ⟨h.nt,h.df,fun t x ht => ?_,fun b cs hb => ?_,h.inj,fun o I' ho => ?_,fun o o' I1 I2 ho ho' hne => ?_,hbel,fun k hk=>Nat.lt_of_lt_of_le (h.zl k hk) hsz,fun i b hb=>⟨by rw [hnx];exact Nat.lt_succ_of_lt (h.pb i b hb).1,(h.pb i b hb).2.1,fun v' hv'=>(AQ _ _ (Nat.ne_of_lt (h.pb i b hb).1)).trans ((h.pb i b hb).2.2 v' hv')⟩,h.zz⟩
  ·obtain ⟨u,hu,hr⟩:=h.tm t x ht
   exact ⟨u,hu,RV.turn (by rw [hnx];omega) hbz hβ hturn x u hr⟩
  ·obtain ⟨h1,h2,us,T,h3,h4⟩:=h.bx b cs hb
   refine ⟨by rw [hnx];omega,h2,us,T, ?_,RVs.turn (by rw [hnx];omega) hbz hβ hturn cs us h4⟩
   exact (hun _ h3.lt fun o Io _ ho=>(h.own o Io ho).2.2 b cs hb).trans h3
  ·by_cases hne:o=s.nx
   ·subst hne
    rw [FH,if_pos rfl] at ho
    injection ho with ho
    subst ho
    refine ⟨by rw [hnx];omega, ?_,fun b cs hb => ?_⟩
    ·simp only [Gh.own,Bu];exact hR
    ·simp only [Gh.own,Bu];exact hbx b cs hb
   ·obtain ⟨h1,h2⟩:=hold o I' ho hne
    obtain ⟨h3,h4,h5⟩:=h.own o I' h1
    refine ⟨by rw [hnx];omega, ?_,fun b cs hb => ?_⟩
    ·simp only [Gh.own,AQ _ _ hne];exact h4.keep hsz hbase (hB o I' h1 h2)
    ·simp only [Gh.own,AQ _ _ hne];exact h5 b cs hb
  ·by_cases e1:o=s.nx
   ·subst e1
    have e2:o'≠s.nx:=fun e=>hne e.symm
    obtain ⟨h1,h2⟩:=hold o' I2 ho' e2
    simp only [Gh.own,Bu,AQ _ _ e2]
    exact fun k hk hk'=>hdis o' I2 h1 h2 k hk' hk
   ·obtain ⟨h1,h2⟩:=hold o I1 ho e1
    by_cases e2:o'=s.nx
    ·subst e2
     simp only [Gh.own,Bu,AQ _ _ e1]
     exact hdis o I1 h1 h2
    ·obtain ⟨h3,h4⟩:=hold o' I2 ho' e2
     simp only [Gh.own,AQ _ _ e1,AQ _ _ e2]
     exact h.dis o o' I1 I2 h1 h3 hne
 ·unfold RV
  refine ⟨by rw [hnx];omega,hone,fun _ _ => ?_⟩
  simp only [Gh.own,Bu]
def AS.box (s:AS) (cs:List AV):AS:={ s with bx:=(s.nx,cs) :: s.bx,nx:=s.nx+1 }
def Gh.box (G:Gh) (i:Nat) (b:Nat):Gh:={ G with β:=upd G.β i b }
theorem Rel.box {w0:Aq} {G:Gh} {s:AS} {a:Act} {w:World} (h:Rel w0 G s a w) {cs:List AV} {us:List Value} (hr:RVs G w s.owf s.nx cs us) (T:TypeId) :
  Rel w0 (G.box s.nx w.heap.size) (s.box cs) a (w.alloc (.cells us.toArray T))∧RV (G.box s.nx w.heap.size) (w.alloc (.cells us.toArray T)) (s.box cs).owf (s.box cs).nx (.bx s.nx 0) (.pointer (some ⟨w.heap.size,0,none⟩)):=by
 have hk:∀ k,k<w.heap.size→(w.alloc (.cells us.toArray T)).heap[k]? = w.heap[k]? := fun k hk=>heap_alloc_old w _ hk
 have hbs:=h.bel.size
 have hbase:∀ k,G.Z k→(w.alloc (.cells us.toArray T)).heap[k]? = w.heap[k]? := fun k hk'=>hk k (h.zl k hk')
 have hbz:∀ k,G.Z k→(G.box s.nx w.heap.size).Z k∧(w.alloc (.cells us.toArray T)).heap[k]? = w.heap[k]? := fun k hk=>⟨hk,hbase k hk⟩
 have hβ:∀ b,b<s.nx→(G.box s.nx w.heap.size).β b=G.β b:=fun b hb=>AQ _ _ (Nat.ne_of_lt hb)
 have hturn:∀ o I',o<s.nx→(s.box cs).owf o=some I'→s.owf o=some I'∧(G.box s.nx w.heap.size).root o=G.root o∧(G.box s.nx w.heap.size).B o=G.B o∧∀ k ∈ G.B o,(w.alloc (.cells us.toArray T)).heap[k]? = w.heap[k]? := fun o I' hlt ho =>
  ⟨ho,rfl,rfl,fun k hk'=>hk k ((h.own o I' ho).2.1.1 k hk').2⟩
 have hnx:(s.box cs).nx=s.nx+1:=rfl
 constructor
 ·refine ⟨h.nt,h.df,fun t x ht => ?_,fun b cs' hb => ?_,fun b b' cs1 cs2 hb hb' e => ?_,fun o I' ho => ?_,h.dis,h.bel.trans (aA5 ((Below.refl _ _).alloc (Nat.le_refl _) _)),fun k hk=>Nat.lt_of_lt_of_le (h.zl k hk) (by simp),fun i b hb=>⟨by rw [hnx];exact Nat.lt_succ_of_lt (h.pb i b hb).1,(h.pb i b hb).2.1.trans (hβ b (h.pb i b hb).1).symm,(h.pb i b hb).2.2⟩,h.zz⟩
  ·obtain ⟨u,hu,hr'⟩:=h.tm t x ht
   exact ⟨u,hu,RV.turn (by rw [hnx];omega) hbz hβ hturn x u hr'⟩
  ·unfold AS.box AO at hb
   split at hb
   ·rename_i e
    subst e
    injection hb with hb
    subst hb
    refine ⟨by rw [hnx];omega, ?_,us,T, ?_,RVs.turn (by rw [hnx];omega) hbz hβ hturn _ _ hr⟩
    ·simp only [Gh.box,Bu];exact ⟨fun hz=>absurd (h.zl _ hz) (by omega),.inl (by omega)⟩
    ·simp only [Gh.box,Bu];exact Blk.new w T us.toArray
   ·rename_i hne
    obtain ⟨h1,h2,us',T',h3,h4⟩:=h.bx b cs' hb
    refine ⟨by rw [hnx];omega, ?_,us',T', ?_,RVs.turn (by rw [hnx];omega) hbz hβ hturn _ _ h4⟩
    ·simp only [Gh.box,AQ _ _ hne];exact h2
    ·simp only [Gh.box,AQ _ _ hne];exact (hk _ h3.lt).trans h3
  ·unfold AS.box AO at hb hb'
   have hlt:∀ b cs,AO s.bx b=some cs→G.β b≠w.heap.size:=fun b cs hb=>by
    obtain ⟨_,_,_,_,h3,_⟩:=h.bx b cs hb
    exact Nat.ne_of_lt h3.lt
   by_cases e1:b=s.nx
   ·by_cases e2:b'=s.nx
    ·rw [e1,e2]
    ·rw [if_neg e2] at hb'
     subst e1
     simp only [Gh.box,Bu,AQ _ _ e2] at e
     exact absurd e.symm (hlt b' cs2 hb')
   ·rw [if_neg e1] at hb
    by_cases e2:b'=s.nx
    ·subst e2
     simp only [Gh.box,Bu,AQ _ _ e1] at e
     exact absurd e (hlt b cs1 hb)
    ·rw [if_neg e2] at hb'
     simp only [Gh.box,AQ _ _ e1,AQ _ _ e2] at e
     exact h.inj b b' cs1 cs2 hb hb' e
  ·obtain ⟨h1,h2,h3⟩:=h.own o I' ho
   refine ⟨by rw [hnx];omega,h2.keep (by simp) hbase (fun k hk'=>hk k (h2.1 k hk').2),fun b cs' hb => ?_⟩
   unfold AS.box AO at hb
   split at hb
   ·rename_i e
    subst e
    simp only [Gh.box,Bu]
    exact fun hk'=>absurd (h2.1 _ hk').2 (by omega)
   ·rename_i hne
    simp only [Gh.box,AQ _ _ hne]
    exact h3 b cs' hb
 ·unfold RV
  exact ⟨by rw [hnx];omega,by simp only [Gh.box,Bu]⟩
def AS.setb (s:AS) (b:Nat) (cs:List AV):AS:={ s with bx:=(b,cs) :: s.bx }
theorem Rel.setb {w0:Aq} {G:Gh} {s:AS} {a:Act} {w w':World} (h:Rel w0 G s a w) {b:Nat} {cs0 cs:List AV} {us:List Value} {T:TypeId} (hb:AO s.bx b=some cs0) (hr:RVs G w s.owf s.nx cs us) (hB:Blk w' (G.β b) T us.toArray)
  (hch:La [G.β b] w w'):Rel w0 G (s.setb b cs) a w':=by
 obtain ⟨hbn,hbb,us0,T0,hB0,hr0⟩:=h.bx b cs0 hb
 have hk:∀ k,k<w.heap.size→k≠G.β b→w'.heap[k]? = w.heap[k]? := fun k hk hne=>hch.block k hk (by simpa using hne)
 have hbs:=h.bel.size
 have hbase:∀ k,G.Z k→w'.heap[k]? = w.heap[k]? := fun k hk'=>hk k (h.zl k hk') fun e=>hbb.1 (e ▸ hk')
 have hBo:∀ o I',s.owf o=some I'→∀ k ∈ G.B o,w'.heap[k]? = w.heap[k]? := fun o I' ho k hk'=>by
  obtain ⟨_,h2,h3⟩:=h.own o I' ho
  exact hk k (h2.1 k hk').2 fun e=>h3 b cs0 hb (e ▸ hk')
 have hturn:∀ o I',o<s.nx→(s.setb b cs).owf o=some I'→s.owf o=some I'∧G.root o=G.root o∧G.B o=G.B o∧∀ k ∈ G.B o,w'.heap[k]? = w.heap[k]? := fun o I' _ ho=>⟨ho,rfl,rfl,hBo o I' ho⟩
 have hlk:∀ b' cs',AO (s.setb b cs).bx b'=some cs'→∃ cs2,AO s.bx b'=some cs2:=fun b' cs' hl=>by
  unfold AS.setb AO at hl
  split at hl
  ·rename_i e;exact ⟨cs0,e ▸ hb⟩
  ·exact ⟨cs',hl⟩
 refine ⟨h.nt,h.df,fun t x ht => ?_,fun b' cs' hl => ?_,fun b1 b2 cs1 cs2 h1 h2 e => ?_,fun o I' ho => ?_,h.dis,⟨hch.os.trans h.bel.os,hch.tape.trans h.bel.tape,hch.output.trans h.bel.output,Nat.le_trans hbs hch.size,fun k hk1 hk2=>(hk k (Nat.lt_of_lt_of_le hk1 hbs) fun e=>hbb.2.elim (by omega) fun hm=>hk2 (e ▸ hm)).trans (h.bel.block k hk1 hk2)⟩,fun k hk=>Nat.lt_of_lt_of_le (h.zl k hk) hch.size,h.pb,h.zz⟩
 ·obtain ⟨u,hu,hr'⟩:=h.tm t x ht
  exact ⟨u,hu,RV.turn (Nat.le_refl _) (fun k hk=>⟨hk,hbase k hk⟩) (fun _ _=>rfl) hturn x u hr'⟩
 ·unfold AS.setb AO at hl
  split at hl
  ·rename_i e
   subst e
   injection hl with hl
   subst hl
   exact ⟨hbn,hbb,us,T,hB,RVs.turn (Nat.le_refl _) (fun k hk=>⟨hk,hbase k hk⟩) (fun _ _=>rfl) hturn _ _ hr⟩
  ·rename_i hne
   obtain ⟨h1,h2,us',T',h3,h4⟩:=h.bx b' cs' hl
   refine ⟨h1,h2,us',T',(hk _ h3.lt fun e=>hne (h.inj b' b cs' cs0 hl hb e)).trans h3,RVs.turn (Nat.le_refl _) (fun k hk=>⟨hk,hbase k hk⟩) (fun _ _=>rfl) hturn _ _ h4⟩
 ·obtain ⟨c1,h1'⟩:=hlk b1 cs1 h1
  obtain ⟨c2,h2'⟩:=hlk b2 cs2 h2
  exact h.inj b1 b2 c1 c2 h1' h2' e
 ·obtain ⟨h1,h2,h3⟩:=h.own o I' ho
  refine ⟨h1,h2.keep hch.size hbase (hBo o I' ho),fun b' cs' hl => ?_⟩
  obtain ⟨c1,hl'⟩:=hlk b' cs' hl
  exact h3 b' c1 hl'
theorem Rel.later {w0:Aq} {G:Gh} {s:AS} {a:Act} {w w':World} (h:Rel w0 G s a w) (hb:Below w.heap.size w w'):Rel w0 G s a w':=by
 have hbs:=h.bel.size
 have hbase:∀ k,G.Z k→w'.heap[k]? = w.heap[k]? := fun k hk'=>hb.block k (h.zl k hk')
 have hBo:∀ o I',s.owf o=some I'→∀ k ∈ G.B o,w'.heap[k]? = w.heap[k]? := fun o I' ho k hk'=>hb.block k ((h.own o I' ho).2.1.1 k hk').2
 have hturn:∀ o I',o<s.nx→s.owf o=some I'→s.owf o=some I'∧G.root o=G.root o∧G.B o=G.B o∧∀ k ∈ G.B o,w'.heap[k]? = w.heap[k]? := fun o I' _ ho=>⟨ho,rfl,rfl,hBo o I' ho⟩
 refine ⟨h.nt,h.df,fun t x ht => ?_,fun b' cs' hl => ?_,h.inj,fun o I' ho => ?_,h.dis,h.bel.trans (aA5 hb),fun k hk=>Nat.lt_of_lt_of_le (h.zl k hk) hb.size,h.pb,h.zz⟩
 ·obtain ⟨u,hu,hr'⟩:=h.tm t x ht
  exact ⟨u,hu,RV.turn (Nat.le_refl _) (fun k hk=>⟨hk,hbase k hk⟩) (fun _ _=>rfl) hturn x u hr'⟩
 ·obtain ⟨h1,h2,us',T',h3,h4⟩:=h.bx b' cs' hl
  exact ⟨h1,h2,us',T',h3.below hb h3.lt,RVs.turn (Nat.le_refl _) (fun k hk=>⟨hk,hbase k hk⟩) (fun _ _=>rfl) hturn _ _ h4⟩
 ·obtain ⟨h1,h2,h3⟩:=h.own o I' ho
  exact ⟨h1,h2.keep hb.size hbase (hBo o I' ho),h3⟩
inductive PD where
 | one (d:D)
 | ag (ds:List D)
 | byt (n:Int)
 | fn (f:FuncId) (cap:List PD)
 | rf (cs:List PD)
mutual
def DJ (w:World):PD→Value→Prop
 | .one d,v=>EM w w.heap.size d v
 | .ag ds,v=>∃ vs,v = .agg vs.toArray∧Di w w.heap.size ds vs
 | .byt n,v=>v = .int .u8 n
 | .fn f cap,v=>∃ us,v = .func (.func f) #[] us.toArray∧BB w cap us
 | .rf cs,v=>∃ g vs T,v = .pointer (some ⟨g,0,none⟩)∧Blk w g T vs.toArray∧BB w cs vs
def BB (w:World):List PD→List Value→Prop
 | [],vs=>vs=[]
 | p :: ps,vs=>∃ v r,vs=v :: r∧DJ w p v∧BB w ps r
end
mutual
def FO (w:World) (S:Nat→Prop):PD→Value→Prop
 | .one d,v=>AW w S d v
 | .ag ds,v=>∃ vs,v = .agg vs.toArray∧An w S ds vs
 | .byt n,v=>v = .int .u8 n
 | .fn f cap,v=>∃ us,v = .func (.func f) #[] us.toArray∧CM w S cap us
 | .rf cs,v=>∃ g vs T,v = .pointer (some ⟨g,0,none⟩)∧S g∧Blk w g T vs.toArray∧CM w S cs vs
def CM (w:World) (S:Nat→Prop):List PD→List Value→Prop
 | [],vs=>vs=[]
 | p :: ps,vs=>∃ v r,vs=v :: r∧FO w S p v∧CM w S ps r
end
mutual
theorem DJ.x {w:World}:∀ {p:PD} {u:Value},DJ w p u→FO w (· < w.heap.size) p u
 | .one d,u,h=>by unfold DJ at h;unfold FO;exact EM.p _ _ h
 | .ag ds,u,h=>by
  unfold DJ at h;unfold FO
  obtain ⟨vs,rfl,h⟩:=h
  exact ⟨vs,rfl,Di.p _ _ h⟩
 | .byt n,u,h=>by unfold DJ at h;unfold FO;exact h
 | .fn f c,u,h=>by
  unfold DJ at h;unfold FO
  obtain ⟨us,rfl,h⟩:=h
  exact ⟨us,rfl,BB.x h⟩
 | .rf c,u,h=>by
  unfold DJ at h;unfold FO
  obtain ⟨g,us,T,e,hB,h⟩:=h
  exact ⟨g,us,T,e,hB.lt,hB,BB.x h⟩
theorem BB.x {w:World}:∀ {p:List PD} {u:List Value},BB w p u→CM w (· < w.heap.size) p u
 | [],u,h=>by unfold BB at h;unfold CM;exact h
 | p :: ps,u,h=>by
  unfold BB at h;unfold CM
  obtain ⟨v,r,rfl,h1,h2⟩:=h
  exact ⟨v,r,rfl,DJ.x h1,BB.x h2⟩
end
mutual
theorem FO.pd {w:World} {S:Nat→Prop} (hS:∀ k,S k→k<w.heap.size):∀ {p:PD} {u:Value},FO w S p u→DJ w p u
 | .one d,u,h=>by unfold FO at h;unfold DJ;exact AW.v _ _ (AW.mono hS (fun _ _=>rfl) _ _ h)
 | .ag ds,u,h=>by
  unfold FO at h;unfold DJ
  obtain ⟨vs,rfl,h⟩:=h
  exact ⟨vs,rfl,An.v _ _ (An.mono hS (fun _ _=>rfl) _ _ h)⟩
 | .byt n,u,h=>by unfold FO at h;unfold DJ;exact h
 | .fn f c,u,h=>by
  unfold FO at h;unfold DJ
  obtain ⟨us,rfl,h⟩:=h
  exact ⟨us,rfl,CM.pd hS h⟩
 | .rf c,u,h=>by
  unfold FO at h;unfold DJ
  obtain ⟨g,us,T,e,_,hB,h⟩:=h
  exact ⟨g,us,T,e,hB,CM.pd hS h⟩
theorem CM.pd {w:World} {S:Nat→Prop} (hS:∀ k,S k→k<w.heap.size):∀ {p:List PD} {u:List Value},CM w S p u→BB w p u
 | [],u,h=>by unfold CM at h;unfold BB;exact h
 | p :: ps,u,h=>by
  unfold CM at h;unfold BB
  obtain ⟨v,r,rfl,h1,h2⟩:=h
  exact ⟨v,r,rfl,FO.pd hS h1,CM.pd hS h2⟩
end
theorem CM.len {w:World} {S:Nat→Prop}:∀ {ps:List PD} {us:List Value},CM w S ps us→us.length=ps.length
 | [],us,h=>by unfold CM at h;subst h;rfl
 | p :: ps,us,h=>by
  unfold CM at h
  obtain ⟨u,r,rfl,_,h2⟩:=h
  simp [CM.len h2]
def ET (G:Gh) (s:AS) (k:Nat):Prop:=G.Z k∨(∃ o I,s.owf o=some I∧k ∈ G.B o)∨∃ b cs,AO s.bx b=some cs∧G.β b=k
theorem Rel.reach {w0:Aq} {G:Gh} {s:AS} {a:Act} {w:World} (h:Rel w0 G s a w):∀ k,ET G s k→k<w.heap.size:=fun k hk=>by
 rcases hk with hk | ⟨o,I,ho,hk⟩ | ⟨b,cs,hb,rfl⟩
 ·exact h.zl k hk
 ·exact ((h.own o I ho).2.1.1 k hk).2
 ·obtain ⟨_,_,_,_,h3,_⟩:=h.bx b cs hb;exact h3.lt
theorem KV {w0:Aq} {G:Gh} {s:AS} {a:Act} {w:World} (h:Rel w0 G s a w) {x:AV} {u:Value} (hx:RV G w s.owf s.nx x u) {d:D} (hd:s.rd x=some d):AW w (ET G s) d u:=by
 cases x <;> simp only [AS.rd] at hd <;> first | (cases hd;done) | skip
 case nl sz =>
  injection hd with hd;subst hd
  unfold RV at hx;obtain ⟨a0,rfl⟩:=hx
  unfold AW
  exact ⟨a0,0,rfl,by simp,by simp,by simp,.inl rfl⟩
 case sl o =>
  cases hI:s.owf o with
  | none=>rw [hI] at hd;cases hd
  | some I =>
   rw [hI] at hd
   injection hd with hd;subst hd
   unfold RV at hx
   rw [hx.2.2 I hI]
   obtain ⟨_,⟨hB,hrep,_⟩,_⟩:=h.own o I hI
   exact AW.mono (fun k hk=>hk.elim .inl (fun h1 => .inr (.inl ⟨o,I,hI,h1⟩))) (fun _ _=>rfl) _ _ hrep
 case sp o d' =>
  cases hI:s.owf o with
  | none=>rw [hI] at hd;cases hd
  | some I =>
   rw [hI] at hd
   injection hd with hd;subst hd
   unfold RV at hx
   exact AW.mono (fun k hk=>hk.elim .inl (fun h1 => .inr (.inl ⟨o,I,hI,h1⟩))) (fun _ _=>rfl) _ _ (hx.2.2 I hI)
 case br d' =>
  injection hd with hd;subst hd
  unfold RV at hx
  exact AW.mono (fun k hk => .inl hk) (fun _ _=>rfl) _ _ hx
def CL:List PD→List D
 | []=>[]
 | .one d :: r=>d :: CL r
 | .ag ds :: r=>ds++CL r
 | _ :: r=>CL r
def Gq:List PD→List Value→List Value
 | [],_=>[]
 | .one _ :: r,us=>us.headD undef :: Gq r us.tail
 | .ag ds :: r,us => .agg (us.take ds.length).toArray :: Gq r (us.drop ds.length)
 | _ :: r,us=>undef :: Gq r us
def FZ:List PD→List AV→List AV
 | [],_=>[]
 | .one _ :: r,us=>us.headD .un :: FZ r us.tail
 | .ag ds :: r,us => .ag (us.take ds.length) :: FZ r (us.drop ds.length)
 | _ :: r,us => .un :: FZ r us
def Nf:List Value→Value
 | [v]=>v
 | vs => .tuple vs.toArray
def QD:List AV→AV
 | [v]=>v
 | vs => .tu vs
def Con (P:Program) (f:FuncId) (args rs:List PD):Prop :=
 (∃ fn, P.funcs[f]? = some fn ∧ fn.body.isNone = false ∧ (fn.name == "runtime.NumGoroutine") = false) ∧
 ∀ w us,GI w→BB w args us→Calls P f us.toArray w fun e w'=>Below w.heap.size w w'∧∃ vs,e = .returned (Nf (Gq rs vs))∧Lf w' w.heap.size (CL rs) vs
def aD (s:AS):AV→D→Prop
 | .y n,.byt m=>n=m
 | .i n,.int m=>n=m
 | .b n,.bool m=>n=m
 | .s n,.str m=>n=m
 | .nl _,.rows _ n cs=>n=0∧cs=[]
 | .br e,d=>e=d
 | .sp o e,d=>(s.owf o).isSome=true∧e=d
 | .sl o,d=>match s.owf o with | some I=>I.d=d | none=>False
 | _,_=>False
def aDs (s:AS):List AV→List D→Prop
 | [],[]=>True
 | a :: r,d :: ds=>aD s a d∧aDs s r ds
 | _,_=>False
mutual
inductive QB (s:AS):AV→PD→Prop
 | one {a d} (h:aD s a d):QB s a (.one d)
 | ag {cs ds} (h:aDs s cs ds):QB s (.ag cs) (.ag ds)
 | byt {n}:QB s (.y n) (.byt n)
 | fn {f c p} (h:DZ s c p):QB s (.fn f c) (.fn f p)
 | rf {b cs ps} (h1:AO s.bx b=some cs) (h2:DZ s cs ps):QB s (.bx b 0) (.rf ps)
 | rp {cs ps} (h2:DZ s cs ps):QB s (.rp cs) (.rf ps)
inductive DZ (s:AS):List AV→List PD→Prop
 | nil:DZ s [] []
 | cons {a p as' ps} (h:QB s a p) (h2:DZ s as' ps):DZ s (a :: as') (p :: ps)
end
theorem Ya {w0 : Aq} {G : Gh} {s : AS} {a : Act} {w : World} (h : Rel w0 G s a w) {x : AV} {u : Value} (hx : RV G w s.owf s.nx x u) {d : D} (hd : aD s x d) : AW w (ET G s) d u := by
  cases x <;> simp only [aD] at hd <;> first | exact hd.elim | skip
  case i n => cases d <;> simp only [aD] at hd <;> first | exact hd.elim | skip
              subst hd; unfold RV at hx; unfold AW; exact hx
  case b n => cases d <;> simp only [aD] at hd <;> first | exact hd.elim | skip
              subst hd; unfold RV at hx; unfold AW; exact hx
  case s n => cases d <;> simp only [aD] at hd <;> first | exact hd.elim | skip
              subst hd; unfold RV at hx; unfold AW; exact hx
  case y n => cases d <;> simp only [aD] at hd <;> first | exact hd.elim | skip
              subst hd; unfold RV at hx; unfold AW; exact hx
  case nl sz =>
    cases d <;> simp only [aD] at hd <;> first | exact hd.elim | skip
    obtain ⟨rfl, rfl⟩ := hd
    unfold RV at hx; obtain ⟨a0, rfl⟩ := hx; unfold AW
    exact ⟨a0, 0, rfl, by simp, by simp, by simp, .inl rfl⟩
  case br e => subst hd; exact KV h hx rfl
  case sp o e =>
    obtain ⟨h1, rfl⟩ := hd
    obtain ⟨I, hI⟩ := Option.isSome_iff_exists.1 h1
    exact KV h hx (by simp only [AS.rd, hI, Option.map_some])
  case sl o =>
    cases hI : s.owf o with
    | none => rw [hI] at hd; exact hd.elim
    | some I =>
      rw [hI] at hd
      simp only at hd
      subst hd
      exact KV h hx (by simp only [AS.rd, hI, Option.map_some])
theorem Xr {w0:Aq} {G:Gh} {s:AS} {a:Act} {w:World} (h:Rel w0 G s a w):∀ {xs:List AV} {us:List Value},RVs G w s.owf s.nx xs us→∀ {ds:List D},aDs s xs ds→An w (ET G s) ds us
 | [],us,hx,[],hd=>by unfold RVs at hx;unfold An;exact hx
 | [],us,hx,d :: ds,hd=>hd.elim
 | x :: xs,us,hx,[],hd=>hd.elim
 | x :: xs,us,hx,d :: ds,hd=>by
  unfold RVs at hx
  obtain ⟨u,r,rfl,h1,h2⟩:=hx
  unfold An
  exact ⟨u,r,rfl,Ya h h1 hd.1,Xr h h2 hd.2⟩
mutual
theorem QB.okX {w0:Aq} {G:Gh} {s:AS} {a:Act} {w:World} (h:Rel w0 G s a w) {x:AV} {p:PD} (hp:QB s x p) {u:Value} (hx:RV G w s.owf s.nx x u):FO w (ET G s) p u:=by
 cases hp with
 | one hd=>unfold FO;exact Ya h hx hd
 | ag hd=>unfold RV at hx;obtain ⟨us,rfl,hr⟩:=hx;unfold FO;exact ⟨us,rfl,Xr h hr hd⟩
 | byt=>unfold RV at hx;unfold FO;exact hx
 | fn hc=>unfold RV at hx;obtain ⟨us,rfl,hr⟩:=hx;unfold FO;exact ⟨us,rfl,DZ.okX h hc hr⟩
 | rf h1 h2 =>
  obtain ⟨_,_,us,T,hB,hr⟩:=h.bx _ _ h1
  unfold RV at hx;unfold FO
  exact ⟨_,us,T,hx.2,.inr (.inr ⟨_,_,h1,rfl⟩),hB,DZ.okX h h2 hr⟩
 | rp h2 =>
  unfold RV at hx;unfold FO
  obtain ⟨g,us,T,e,hz,hB,hr⟩:=hx
  exact ⟨g,us,T,e,.inl hz,hB,DZ.okX h h2 hr⟩
theorem DZ.okX {w0:Aq} {G:Gh} {s:AS} {a:Act} {w:World} (h:Rel w0 G s a w) {xs:List AV} {ps:List PD} (hp:DZ s xs ps) {us:List Value} (hx:RVs G w s.owf s.nx xs us):CM w (ET G s) ps us:=by
 cases hp with
 | nil=>unfold RVs at hx;unfold CM;exact hx
 | cons h1 h2 =>
  unfold RVs at hx
  obtain ⟨u,r,rfl,h3,h4⟩:=hx
  unfold CM
  exact ⟨u,r,rfl,QB.okX h h1 h3,DZ.okX h h2 h4⟩
end
theorem DZ.ok {w0:Aq} {G:Gh} {s:AS} {a:Act} {w:World} (h:Rel w0 G s a w) {xs:List AV} {ps:List PD} (hp:DZ s xs ps) {us:List Value} (hx:RVs G w s.owf s.nx xs us):BB w ps us:=CM.pd h.reach (DZ.okX h hp hx)
def mkR:AS→List D→List AV × AS
 | s,[]=>([],s)
 | s,d :: ds=>match d with
  | .int n=>let r:=mkR s ds; (.i n :: r.1,r.2)
  | .bool n=>let r:=mkR s ds; (.b n :: r.1,r.2)
  | .str n=>let r:=mkR s ds; (.s n :: r.1,r.2)
  | .any=>let r:=mkR s ds; (.un :: r.1,r.2)
  | .byt n=>let r:=mkR s ds; (.y n :: r.1,r.2)
  | .rows sz n cs=>let r:=mkR (s.mk' [] ⟨.rows sz n cs,none,true⟩) ds; (.sl s.nx :: r.1,r.2)
theorem Rk {w0:Aq} {a:Act} {w:World}:∀ (ds:List D) (us:List Value) (fp:List Nat) (G:Gh) (s:AS),Rel w0 G s a w→Ao w ds us fp→fp.Nodup→(∀ k ∈ fp,¬ G.Z k∧(w0.heap.size≤k∨w0.mv k))→(∀ k ∈ fp,(∀ b cs,AO s.bx b=some cs→G.β b≠k)∧∀ o I,s.owf o=some I→k ∉ G.B o) →
  ∃ G',Rel w0 G' (mkR s ds).2 a w∧RVs G' w (mkR s ds).2.owf (mkR s ds).2.nx (mkR s ds).1 us∧(∀ v u,RV G w s.owf s.nx v u→RV G' w (mkR s ds).2.owf (mkR s ds).2.nx v u)∧G'.Z=G.Z
 | [],us,fp,G,s,h,ho,hn,hb,hf=>by
  unfold Ao at ho
  obtain ⟨rfl,rfl⟩:=ho
  exact ⟨G,h,by unfold mkR RVs;rfl,fun v u hv=>hv,rfl⟩
 | d :: ds,us,fp,G,s,h,ho,hn,hb,hf=>by
  unfold Ao at ho
  obtain ⟨v,r,f1,f2,rfl,rfl,h1,h2⟩:=ho
  obtain ⟨n1,n2,n3⟩:=List.nodup_append.1 hn
  have prim:∀ (av:AV),(∀ {G nx owf},RV G w owf nx av v)→mkR s (d :: ds)=(av :: (mkR s ds).1,(mkR s ds).2)→∃ G',Rel w0 G' (mkR s (d :: ds)).2 a w∧RVs G' w (mkR s (d :: ds)).2.owf (mkR s (d :: ds)).2.nx (mkR s (d :: ds)).1 (v :: r)∧(∀ v u,RV G w s.owf s.nx v u→RV G' w (mkR s (d :: ds)).2.owf (mkR s (d :: ds)).2.nx v u)∧G'.Z=G.Z:=by
   intro av hav e
   obtain ⟨G',h3,h4,h5,h6⟩:=Rk ds r f2 G s h h2 n2 (fun k hk=>hb k (by simp [hk])) (fun k hk=>hf k (by simp [hk]))
   rw [e]
   exact ⟨G',h3,by unfold RVs;exact ⟨v,r,rfl,hav,h4⟩,h5,h6⟩
  cases d with
  | int n=>unfold Ch at h1;exact prim (.i n) (fun {_ _ _}=>by unfold RV;exact h1.1) rfl
  | bool n=>unfold Ch at h1;exact prim (.b n) (fun {_ _ _}=>by unfold RV;exact h1.1) rfl
  | str n=>unfold Ch at h1;exact prim (.s n) (fun {_ _ _}=>by unfold RV;exact h1.1) rfl
  | any=>unfold Ch at h1;obtain rfl:=h1.2;exact prim .un (fun {_ _ _}=>by unfold RV;trivial) rfl
  | byt n=>unfold Ch at h1;exact prim (.y n) (fun {_ _ _}=>by unfold RV;exact h1.1) rfl
  | rows sz n cs =>
   have hlt:=Ch.lt _ _ _ h1
   have hR:Res w0 G.Z w f1 v ⟨.rows sz n cs,none,true⟩ :=
    ⟨fun k hk=>⟨hb k (by simp [hk]),hlt k hk⟩,Ch.p _ _ _ h1 (fun k hk => .inr hk),fun _=>⟨h1,n1⟩,fun T hT=>by cases hT⟩
   obtain ⟨h3,h4⟩:=h.own' (eats:=[]) (I:=⟨.rows sz n cs,none,true⟩) h.bel (Nat.le_refl _) (fun _ _ _=>rfl) hR h1.one (fun b cs' hl hk=>(hf _ (by simp [hk])).1 b cs' hl rfl)
    (fun o I ho _ k hk hk'=>(hf k (by simp [hk'])).2 o I ho hk)
   have hkeep:∀ x u,RV G w s.owf s.nx x u→RV (G.own s.nx f1 v) w (s.mk' [] ⟨.rows sz n cs,none,true⟩).owf (s.mk' [] ⟨.rows sz n cs,none,true⟩).nx x u:=fun x u hx=>by
    refine RV.turn (G:=G) (G':=G.own s.nx f1 v) (owf:=s.owf) (owf':=(s.mk' [] ⟨.rows sz n cs,none,true⟩).owf) (nx:=s.nx) (Nat.le_succ _) (fun _ hk=>⟨hk,rfl⟩) (fun _ _=>rfl) (fun o I ho hI => ?_) x u hx
    have hne:o≠s.nx:=Nat.ne_of_lt ho
    rw [FH,if_neg hne,if_neg (by simp)] at hI
    exact ⟨hI,AQ _ _ hne,AQ _ _ hne,fun _ _=>rfl⟩
   obtain ⟨G',h5,h6,h7,h9⟩:=Rk ds r f2 (G.own s.nx f1 v) _ h3 h2 n2 (fun k hk=>hb k (by simp [hk])) (fun k hk=>by
    obtain ⟨q1,q2⟩:=hf k (by simp [hk])
    refine ⟨q1,fun o I ho => ?_⟩
    by_cases hne:o=s.nx
    ·subst hne
     simp only [Gh.own,Bu]
     exact fun hk'=>n3 k hk' k hk rfl
    ·rw [FH,if_neg hne,if_neg (by simp)] at ho
     simp only [Gh.own,AQ _ _ hne]
     exact q2 o I ho)
   exact ⟨G',h5,by
    have e:(mkR s (.rows sz n cs :: ds)).1 = .sl s.nx :: (mkR (s.mk' [] ⟨.rows sz n cs,none,true⟩) ds).1:=rfl
    rw [e];unfold RVs
    exact ⟨v,r,rfl,h7 _ _ h4,h6⟩,fun x u hx=>h7 _ _ (hkeep x u hx),h9⟩
theorem MX {nx:Nat} {G:Gh} {w:World} {owf:Nat→Option Cb}:∀ (rs:List PD) (as':List AV) (us:List Value),RVs G w owf nx as' us→as'.length=(CL rs).length→(∀ r ∈ rs,(∃ d,r = .one d)∨∃ ds,r = .ag ds)→RVs G w owf nx (FZ rs as') (Gq rs us)
 | [],as',us,h,hl,hr=>by unfold FZ Gq RVs;rfl
 | .one d :: rs,as',us,h,hl,hr=>by
  match as',us,h with
  | [],us,h=>simp [CL] at hl
  | x :: xs,us,h =>
   unfold RVs at h
   obtain ⟨u,r,rfl,h1,h2⟩:=h
   unfold FZ Gq RVs
   exact ⟨u,_,rfl,h1,MX rs xs r h2 (by simpa [CL] using hl) (fun r hr'=>hr r (by simp [hr']))⟩
 | .ag ds :: rs,as',us,h,hl,hr=>by
  unfold FZ Gq RVs
  refine ⟨_,_,rfl,by unfold RV;exact ⟨_,rfl,h.take _⟩,MX rs _ _ (h.drop _) (by simp [CL] at hl ⊢; omega) (fun r hr'=>hr r (by simp [hr']))⟩
 | .byt n :: rs,as',us,h,hl,hr=>by rcases hr (.byt n) (by simp) with ⟨d,e⟩ | ⟨d,e⟩ <;> cases e
 | .fn f c :: rs,as',us,h,hl,hr=>by rcases hr (.fn f c) (by simp) with ⟨d,e⟩ | ⟨d,e⟩ <;> cases e
 | .rf c :: rs,as',us,h,hl,hr=>by rcases hr (.rf c) (by simp) with ⟨d,e⟩ | ⟨d,e⟩ <;> cases e
theorem FC:∀ (ds:List D) (s:AS),(mkR s ds).1.length=ds.length
 | [],s=>rfl
 | .int _ :: ds,s=>by simp [mkR,FC ds s]
 | .bool _ :: ds,s=>by simp [mkR,FC ds s]
 | .str _ :: ds,s=>by simp [mkR,FC ds s]
 | .any :: ds,s=>by simp [mkR,FC ds s]
 | .byt _ :: ds,s=>by simp [mkR,FC ds s]
 | .rows sz n cs :: ds,s=>by simp [mkR,FC ds _]
theorem SK {nx:Nat} {G:Gh} {w:World} {owf:Nat→Option Cb}:∀ {l:List AV} {us:List Value},RVs G w owf nx l us→RV G w owf nx (QD l) (Nf us)
 | [],us,h=>by unfold RVs at h;subst h;unfold QD Nf RV;exact ⟨[],rfl,by unfold RVs;rfl⟩
 | [x],us,h=>by
  unfold RVs RVs at h
  obtain ⟨u,r,rfl,h1,rfl⟩:=h
  exact h1
 | x :: y :: l,us,h=>by
  have h':=h
  unfold RVs RVs at h
  obtain ⟨u,r,rfl,h1,u2,r2,rfl,h2,h3⟩:=h
  unfold QD Nf RV
  exact ⟨_,rfl,h'⟩
def aDB (P:Program) (s:AS) (f:FuncId) (as':List AV) (K:AV→AS→Prop):Prop :=
 ∃ ps rs,DZ s as' ps∧Con P f ps rs∧(∀ r ∈ rs,(∃ d,r = .one d)∨∃ ds,r = .ag ds)∧K (QD (FZ rs (mkR s (CL rs)).1)) (mkR s (CL rs)).2
theorem UM {P:Program} {w0:Aq} {G:Gh} {s:AS} {a:Act} {w:World} (h:Rel w0 G s a w) {f:FuncId} {xs:List AV} {us:List Value} (hx:RVs G w s.owf s.nx xs us) {K:AV→AS→Prop} (hk:aDB P s f xs K) :
  Calls P f us.toArray w fun e w'=>Below w.heap.size w w'∧∃ v av s' G',e = .returned v∧K av s'∧Rel w0 G' s' a w'∧RV G' w' s'.owf s'.nx av v:=by
 obtain ⟨ps,rs,h1,h2,h3,h4⟩:=hk
 refine (h2.2 w us (w0.gi w h.bel.size h.bel.block) (DZ.ok h h1 hx)).mono fun e w' ⟨hb,vs,he,hf⟩=>⟨hb, ?_⟩
 obtain ⟨fp,ho,hn,hB⟩:=hf
 have h':=h.later hb
 have hbs:=h.bel.size
 obtain ⟨G',h5,h6,_⟩:=Rk (CL rs) vs fp G s h' ho hn (fun k hk=>⟨fun hz=>absurd (h.zl _ hz) (Nat.not_lt.2 (hB k hk)),.inl (Nat.le_trans hbs (hB k hk))⟩) (fun k hk=>⟨fun b cs hl e=>by
  obtain ⟨_,_,_,_,h7,_⟩:=h.bx b cs hl
  have:=h7.lt
  have:=hB k hk
  omega,fun o I hI hk'=>by
  have:=((h.own o I hI).2.1.1 k hk').2
  have:=hB k hk
  omega⟩)
 exact ⟨_,_,_,G',he,h4,h5,SK (MX rs _ _ h6 (FC _ _) h3)⟩
def cD (s:AS):AV→Option D
 | .i n=>some (.int n)
 | .b n=>some (.bool n)
 | .s n=>some (.str n)
 | .y n=>some (.byt n)
 | .nl sz=>some (.rows sz 0 [])
 | .br d=>some d
 | .sl o=>(s.owf o).map (·.d)
 | _=>none
def cDs (s:AS):List AV→Option (List D)
 | []=>some []
 | a :: r=>match cD s a,cDs s r with
  | some d,some ds=>some (d :: ds)
  | _,_=>none
def AB:List AV→List Nat
 | []=>[]
 | .sl o :: r=>o :: AB r
 | _ :: r=>AB r
def Qx (s:AS):AV→Bool
 | .br _=>false
 | .sl o=>match s.owf o with | some I=>I.deep | none=>false
 | _=>true
theorem aHJ {nx:Nat} {G:Gh} {w:World} {owf:Nat→Option Cb} {s:AS} {a:AV} {u:Value} {d:D} (h:RV G w owf nx a u) (hd:cD s a=some d):u.oneCell'=true:=by
 refine Ua h ?_
 cases a <;> simp only [cD] at hd <;> first | rfl | cases hd
theorem Ih {w0:Aq} {G:Gh} {s:AS} {a:Act} {w:World} (h:Rel w0 G s a w):∀ (cs:List AV) (us:List Value) (ds:List D),RVs G w s.owf s.nx cs us→cDs s cs=some ds →
  An w (fun k=>G.Z k∨k ∈ (AB cs).flatMap G.B) ds us∧(∀ u ∈ us,u.oneCell'=true)∧(∀ o ∈ AB cs,∃ I,s.owf o=some I)∧ds.length=cs.length
 | [],us,ds,hr,hd=>by
  unfold RVs at hr;subst hr
  unfold cDs at hd;injection hd with hd;subst hd
  exact ⟨by unfold An;rfl,by simp,by simp [AB],rfl⟩
 | c :: cs,us,ds,hr,hd=>by
  unfold RVs at hr
  obtain ⟨u,r,rfl,h1,h2⟩:=hr
  unfold cDs at hd
  split at hd
  ·rename_i d ds' e1 e2
   injection hd with hd;subst hd
   obtain ⟨h3,h4,h5,h6⟩:=Ih h cs r ds' h2 e2
   have hsub:∀ k,(G.Z k∨k ∈ (AB cs).flatMap G.B)→(G.Z k∨k ∈ (AB (c :: cs)).flatMap G.B):=fun k hk=>hk.imp id fun hk=>by
    cases c <;> first | exact hk | (simp only [AB,List.flatMap_cons,List.mem_append];exact .inr hk)
   refine ⟨?_,fun x hx => ?_,fun o ho => ?_,by simp [h6]⟩
   ·unfold An
    refine ⟨u,r,rfl, ?_,An.mono hsub (fun _ _=>rfl) _ _ h3⟩
    cases c <;> simp only [cD] at e1 <;> first | (cases e1;done) | skip
    case i=>injection e1 with e1;subst e1;unfold RV at h1;unfold AW;exact h1
    case b=>injection e1 with e1;subst e1;unfold RV at h1;unfold AW;exact h1
    case s=>injection e1 with e1;subst e1;unfold RV at h1;unfold AW;exact h1
    case y=>injection e1 with e1;subst e1;unfold RV at h1;unfold AW;exact h1
    case nl=>injection e1 with e1;subst e1;unfold RV at h1;obtain ⟨a0,rfl⟩:=h1;unfold AW;exact ⟨a0,0,rfl,by simp,by simp,by simp,.inl rfl⟩
    case br=>injection e1 with e1;subst e1;unfold RV at h1;exact AW.mono (fun _ hk => .inl hk) (fun _ _=>rfl) _ _ h1
    case sl o =>
     cases hI:s.owf o with
     | none=>rw [hI] at e1;cases e1
     | some I =>
      rw [hI] at e1
      injection e1 with e1;subst e1
      unfold RV at h1
      rw [h1.2.2 I hI]
      exact AW.mono (fun k hk=>hk.imp id fun hk=>by simp only [AB,List.flatMap_cons,List.mem_append];exact .inl hk) (fun _ _=>rfl) _ _ (h.own o I hI).2.1.2.1
   ·rcases List.mem_cons.1 hx with rfl | hx
    ·exact aHJ h1 e1
    ·exact h4 x hx
   ·cases c <;> simp only [AB] at ho <;> first | exact h5 o ho | skip
    rename_i o'
    rcases List.mem_cons.1 ho with rfl | ho
    ·simp only [cD] at e1
     cases hI:s.owf o with
     | none=>rw [hI] at e1;cases e1
     | some I=>exact ⟨I,rfl⟩
    ·exact h5 o ho
  ·cases hd
theorem Ic {w0:Aq} {G:Gh} {s:AS} {a:Act} {w:World} (h:Rel w0 G s a w):∀ (cs:List AV) (us:List Value) (ds:List D),RVs G w s.owf s.nx cs us→cDs s cs=some ds→(AB cs).Nodup→cs.all (Qx s)=true →
  Ao w ds us ((AB cs).flatMap G.B)∧((AB cs).flatMap G.B).Nodup
 | [],us,ds,hr,hd,_,_=>by
  unfold RVs at hr;subst hr
  unfold cDs at hd;injection hd with hd;subst hd
  exact ⟨by unfold Ao;exact ⟨rfl,rfl⟩,by simp [AB]⟩
 | c :: cs,us,ds,hr,hd,hn,hdp=>by
  unfold RVs at hr
  obtain ⟨u,r,rfl,h1,h2⟩:=hr
  unfold cDs at hd
  split at hd
  ·rename_i d ds' e1 e2
   injection hd with hd;subst hd
   simp only [List.all_cons,Bool.and_eq_true] at hdp
   have easy:AB (c :: cs)=AB cs→Ch w d u []→Ao w (d :: ds') (u :: r) ((AB (c :: cs)).flatMap G.B)∧((AB (c :: cs)).flatMap G.B).Nodup:=fun e ho=>by
    rw [e] at hn ⊢
    obtain ⟨h3,h4⟩:=Ic h cs r ds' h2 e2 hn hdp.2
    refine ⟨?_,h4⟩
    unfold Ao
    exact ⟨u,r,[],_,rfl,rfl,ho,h3⟩
   cases c <;> simp only [cD] at e1 <;> first | (cases e1;done) | skip
   case i=>injection e1 with e1;subst e1;unfold RV at h1;exact easy rfl (by unfold Ch;exact ⟨h1,rfl⟩)
   case b=>injection e1 with e1;subst e1;unfold RV at h1;exact easy rfl (by unfold Ch;exact ⟨h1,rfl⟩)
   case s=>injection e1 with e1;subst e1;unfold RV at h1;exact easy rfl (by unfold Ch;exact ⟨h1,rfl⟩)
   case y=>injection e1 with e1;subst e1;unfold RV at h1;exact easy rfl (by unfold Ch;exact ⟨h1,rfl⟩)
   case nl=>injection e1 with e1;subst e1;unfold RV at h1;exact easy rfl (by unfold Ch;obtain ⟨a0,rfl⟩:=h1;exact ⟨a0,0,rfl,by simp,by simp,by simp,.inl ⟨rfl,rfl⟩⟩)
   case br=>simp [Qx] at hdp
   case sl o =>
    cases hI:s.owf o with
    | none=>rw [hI] at e1;cases e1
    | some I =>
     rw [hI] at e1
     injection e1 with e1;subst e1
     unfold RV at h1
     simp only [AB] at hn ⊢
     obtain ⟨n1,n2⟩:=List.nodup_cons.1 hn
     obtain ⟨h3,h4⟩:=Ic h cs r ds' h2 e2 n2 hdp.2
     have hdeep:I.deep=true:=by have:=hdp.1;simpa [Qx,hI] using this
     obtain ⟨_,⟨_,_,hown,_⟩,_⟩:=h.own o I hI
     obtain ⟨h5,h6⟩:=hown hdeep
     obtain ⟨_,_,hlive,_⟩:=Ih h cs r ds' h2 e2
     refine ⟨?_, ?_⟩
     ·rw [List.flatMap_cons]
      unfold Ao
      exact ⟨u,r,_,_,rfl,rfl,by rw [h1.2.2 I hI];exact h5,h3⟩
     ·rw [List.flatMap_cons]
      refine List.nodup_append.2 ⟨h6,h4,fun x hx y hy e => ?_⟩
      subst e
      obtain ⟨o',ho',hxo⟩:=List.mem_flatMap.1 hy
      obtain ⟨I',hI'⟩:=hlive o' ho'
      exact h.dis o o' I I' hI hI' (fun e=>n1 (e ▸ ho')) x hx hxo
  ·cases hd
def aDM (P:Program) (s:AS) (t:TypeId) (n:Nat) (ps:List (Nat × AV)) (K:AV→AS→Prop):Prop :=
 match BK P t with
 | some (e,sz)=>match EE (fun i=>some (i * sz,sz)) (List.replicate (n * sz) .un) ps with
  | some cs=>match cDs s cs with
   | some ds=>(n≤1000000∧n * sz≤16777216∧(n=0∨(CE P e).isSome=true)∧(AB cs).Nodup)∧K (.sl s.nx) (s.mk' (AB cs) ⟨.rows sz n ds,some e,cs.all (Qx s)⟩)
   | none=>False
  | none=>False
 | none=>False
theorem Hl {nx:Nat} {G:Gh} {w:World} {owf:Nat→Option Cb}:∀ (n:Nat) (us:List Value),us.length=n→RVs G w owf nx (List.replicate n .un) us
 | 0,us,h=>by unfold List.replicate RVs;exact List.eq_nil_of_length_eq_zero h
 | n+1,u :: us,h=>by
  rw [List.replicate_succ];unfold RVs
  exact ⟨u,us,rfl,by unfold RV;trivial,Hl n us (by simpa using h)⟩
theorem Ll {place:Nat→Option (Nat × Nat)}:∀ (ps:List (Nat × AV)) (cells cs:List AV),EE place cells ps=some cs→cs.length=cells.length
 | [],cells,cs,h=>by unfold EE at h;injection h with h;rw [h]
 | (i,v) :: ps,cells,cs,h=>by
  unfold EE at h
  split at h
  ·split at h
   ·rw [Ll ps _ cs h,Eu]
   ·cases h
  ·cases h
theorem aAA {P:Program} {w0:Aq} {G:Gh} {s:AS} {a:Act} {w:World} (h:Rel w0 G s a w) {t:TypeId} {n:Nat} {ps:List (Nat × AV)} {qs:Array (Nat × Value)}
  (hh:ps.length=qs.toList.length∧∀ (j:Nat) (p:Nat × AV) (q:Nat × Value),ps[j]? = some p→qs.toList[j]? = some q→p.1=q.1∧RV G w s.owf s.nx p.2 q.2) {K:AV→AS→Prop} (hk:aDM P s t n ps K) :
  ∃ av v s' G' w',K av s'∧(Instr.buildSlice t n qs).run P w = .ok v w'∧Below w.heap.size w w'∧Rel w0 G' s' a w'∧RV G' w' s'.owf s'.nx av v:=by
 unfold aDM at hk
 split at hk
 ·rename_i e sz ht
  split at hk
  ·rename_i cs hf
   split at hk
   ·rename_i ds hd
    obtain ⟨⟨hn1,hn2,hz,hnd⟩,hk⟩:=hk
    unfold BK at ht
    split at ht
    ·rename_i e' hu
     cases hi:P.info? e' with
     | none=>rw [hi] at ht;cases ht
     | some i =>
      rw [hi] at ht
      simp only [Option.map_some,Option.some.injEq,Prod.mk.injEq] at ht
      obtain ⟨rfl,rfl⟩:=ht
      have hz':∃ zc:Array Value,(n * i.size=0∧zc = #[])∨(n * i.size≠0∧∃ z,(zeroValue e').run P w = .ok z w∧zc=z.cells):=by
       by_cases h0:n * i.size=0
       ·exact ⟨#[],.inl ⟨h0,rfl⟩⟩
       ·have hn0:n≠0:=fun e=>h0 (by rw [e,Nat.zero_mul])
        obtain ⟨zs,hzs⟩:=Option.isSome_iff_exists.1 (hz.resolve_left hn0)
        obtain ⟨z,hz1,_⟩:=Hv hzs
        exact ⟨z.cells,.inr ⟨h0,z,KO hz1 w,rfl⟩⟩
      obtain ⟨zc,hzc⟩:=hz'
      have hlen0:((Array.range (n * i.size)).map (zc[· % zc.size]!)).toList.length=n * i.size:=by simp
      obtain ⟨us',hf',hr⟩:=MF ps qs.toList _ cs _ (Hl (nx:=s.nx) (G:=G) (w:=w) (owf:=s.owf) _ _ hlen0) hh hf
      have hul:us'.length=n * i.size:=by rw [RVs.len _ _ hr,Ll _ _ _ hf];simp
      obtain ⟨hrep,hone,hlive,hdl⟩:=Ih h cs us' ds hr hd
      have hbs:=h.bel.size
      have hBlt:∀ k ∈ (AB cs).flatMap G.B,(¬ G.Z k∧(w0.heap.size≤k∨w0.mv k))∧k<w.heap.size:=fun k hk=>by
       obtain ⟨o,ho,hko⟩:=List.mem_flatMap.1 hk
       obtain ⟨I,hI⟩:=hlive o ho
       exact (h.own o I hI).2.1.1 k hko
      have hkk:∀ k,k<w.heap.size→(w.alloc (.cells us'.toArray e')).heap[k]? = w.heap[k]? := fun k hk=>heap_alloc_old w _ hk
      have hblk:=Blk.new w e' us'.toArray
      have hcells:Ey (w.alloc (.cells us'.toArray e')) w.heap.size 0 us':=hblk.cells
      have hnm:n≤maxLen:=by unfold maxLen;omega
      have hds:ds.length=n * i.size:=by rw [hdl,← RVs.len _ _ hr,hul]
      have hrep':An (w.alloc (.cells us'.toArray e')) (fun k=>G.Z k∨k ∈ (AB cs).flatMap G.B) ds us':=An.mono (fun _ hk=>hk) (fun k hk=>hkk k (hk.elim (fun hz=>h.zl _ hz) (fun h=>(hBlt k h).2))) _ _ hrep
      have hbel:Below w.heap.size w (w.alloc (.cells us'.toArray e')):=(Below.refl _ _).alloc (Nat.le_refl _) _
      have hR:Res w0 G.Z (w.alloc (.cells us'.toArray e')) (w.heap.size :: (AB cs).flatMap G.B) (.slice (some ⟨w.heap.size,0,none⟩) n n) ⟨.rows i.size n ds,some e',cs.all (Qx s)⟩:=by
       have hdeep:cs.all (Qx s)=true→Ao (w.alloc (.cells us'.toArray e')) ds us' ((AB cs).flatMap G.B)∧((AB cs).flatMap G.B).Nodup:=fun hdp=>by
        obtain ⟨h5,h6⟩:=Ic h cs us' ds hr hd hnd hdp
        exact ⟨Ao.keep (by simp) _ _ _ (fun k hk=>hkk k (hBlt k hk).2) h5,h6⟩
       refine ⟨fun k hk => ?_, ?_,fun hdp => ?_,fun T hT => ?_⟩
       ·rcases List.mem_cons.1 hk with rfl | hk
        ·exact ⟨⟨fun hz=>absurd (h.zl _ hz) (by omega),.inl hbs⟩,by simp⟩
        ·have:=hBlt k hk;exact ⟨this.1,by simp;omega⟩
       ·unfold AW
        exact ⟨_,_,rfl,Nat.le_refl _,hnm,hds,.inr ⟨w.heap.size,0,us',rfl,.inr (by simp),hcells,An.mono (fun k hk=>hk.imp id fun hk=>by simp [hk]) (fun _ _=>rfl) _ _ hrep'⟩⟩
       ·obtain ⟨h5,h6⟩:=hdeep hdp
        refine ⟨?_,List.nodup_cons.2 ⟨fun hk=>absurd (hBlt _ hk).2 (by omega),h6⟩⟩
        unfold Ch
        exact ⟨_,_,rfl,Nat.le_refl _,hnm,hds,.inr ⟨w.heap.size,0,us',_,rfl,by simp,rfl,hblk.frozen,hcells,h5⟩⟩
       ·injection hT with hT;subst hT
        have hrin:∀ k ∈ Cm (.slice (some ⟨w.heap.size,0,none⟩) n n),k=w.heap.size:=fun k hk=>by
         cases n with
         | zero=>simp [Cm] at hk
         | succ n=>simpa [Cm] using hk
        have hnot:∀ k,k ∈ (AB cs).flatMap G.B→k ∉ Cm (.slice (some ⟨w.heap.size,0,none⟩) n n):=fun k hk1 hk2=>by
         have:=hrin k hk2
         have:=(hBlt k hk1).2
         omega
        refine ⟨i.size,n,ds,us',rfl,IQ (b:=0) ⟨hul,.inr ⟨w.heap.size,n,us'.toArray,rfl,Nat.zero_le _,hblk,Nat.le_refl _,hnm,by simp [hul],by simp [← hul]⟩⟩,An.mono (fun k hk1=>hk1.imp id fun hk2=>⟨List.mem_cons_of_mem _ hk2,hnot k hk2⟩) (fun _ _=>rfl) _ _ hrep',fun k hk=>by have:=hrin k hk;subst this;exact ⟨by simp,.inl hbs⟩,hone,fun hdp => ?_⟩
        obtain ⟨h5,h6⟩:=hdeep hdp
        exact ⟨_,h5,h6,fun k hk1=>⟨List.mem_cons_of_mem _ hk1,hnot k hk1⟩⟩
      have hbx:∀ b cs',AO s.bx b=some cs'→G.β b ∉ w.heap.size :: (AB cs).flatMap G.B:=fun b cs' hl hkb=>by
       obtain ⟨_,_,_,_,h3,_⟩:=h.bx b cs' hl
       rcases List.mem_cons.1 hkb with e | hkb
       ·have:=h3.lt;omega
       ·obtain ⟨o,ho,hko⟩:=List.mem_flatMap.1 hkb
        obtain ⟨I,hI⟩:=hlive o ho
        exact (h.own o I hI).2.2 b cs' hl hko
      have hdis:∀ o I,s.owf o=some I→o ∉ AB cs→∀ k ∈ G.B o,k ∉ w.heap.size :: (AB cs).flatMap G.B:=fun o I ho hno k hk hkb=>by
       rcases List.mem_cons.1 hkb with e | hkb
       ·have:=((h.own o I ho).2.1.1 k hk).2;omega
       ·obtain ⟨o',ho',hko⟩:=List.mem_flatMap.1 hkb
        obtain ⟨I',hI'⟩:=hlive o' ho'
        exact h.dis o o' I I' ho hI' (fun e=>hno (e ▸ ho')) k hk hko
      obtain ⟨h7,h8⟩:=h.own' (w':=w.alloc (.cells us'.toArray e')) (eats:=AB cs) (h.bel.trans (aA5 hbel)) hbel.size (fun k hk _=>hkk k hk) hR rfl hbx hdis
      refine ⟨_,_,_,_,_,hk, ?_,hbel,h7,h8⟩
      unfold Instr.buildSlice newRow
      have hlim:¬ (n * i.size > 2 ^ 24):=by omega
      have e5:((Array.range (n * i.size)).map (zc[· % zc.size]!)).toList.toArray=(Array.range (n * i.size)).map (zc[· % zc.size]!):=rfl
      rw [e5] at hf'
      rcases hzc with ⟨h0,rfl⟩ | ⟨h0,z,hzr,rfl⟩
      ·simp only [Sem.run_bind,Cf hu,Result.andThen_ok,sizeOf,typeInfo,program,Sem.run,hi,Sem.run_pure,if_neg hlim,if_pos h0,hf']
       rfl
      ·simp only [Sem.run_bind,Cf hu,Result.andThen_ok,sizeOf,typeInfo,program,Sem.run,hi,Sem.run_pure,if_neg hlim,if_neg h0,hzr,hf']
       rfl
    ·cases ht
   ·exact hk.elim
  ·exact hk.elim
 ·exact hk.elim
def Hs (P:Program) (t:TypeId):Option (TypeId × Nat × Nat) :=
 match P.underlying t with
 | some (.slice e)=>match P.info? e with
  | some i=>match i.zero with
   | some z=>if z.cells.size=i.size∧0<i.size then some (e,i.size,i.bytes) else none
   | none=>none
  | none=>none
 | _=>none
theorem Sd {P:Program} {t T:TypeId} {sz bytes:Nat} (h:Hs P t=some (T,sz,bytes)):∃ i z,P.underlying t=some (.slice T)∧P.info? T=some i∧i.zero=some z∧i.size=sz∧i.bytes=bytes∧z.cells.size=sz∧0<sz:=by
 unfold Hs at h
 split at h
 ·rename_i e hu
  split at h
  ·rename_i i hi
   split at h
   ·rename_i z hz
    split at h
    ·rename_i hc
     simp only [Option.some.injEq,Prod.mk.injEq] at h
     obtain ⟨rfl,rfl,rfl⟩:=h
     exact ⟨i,z,hu,hi,hz,rfl,rfl,hc.1,hc.2⟩
    ·cases h
   ·cases h
  ·cases h
 ·cases h
theorem BW {w:World} {sz n:Nat} {T:TypeId} {v:Value} {vs:List Value} (h:Jq w T sz v n vs):∃ a cap,v = .slice a n cap∧n≤cap∧cap≤maxLen∧(∀ k ∈ Cm v,k<w.heap.size∧0≤k) ∧
  ((Cm v=[]∧n=0)∨∃ g o,a=some ⟨g,o,none⟩∧Cm v=[g]∧Ey w g o vs∧∀ p,w.frozen? ⟨g,p,none⟩=false):=by
 rcases h.2 with ⟨a,rfl,rfl⟩ | ⟨g,o,cap,cur,rfl,hh,hnc,hcm,hcs,ht⟩
 ·cases a <;> exact ⟨_,0,rfl,Nat.le_refl _,Nat.zero_le _,by simp [Cm],.inl ⟨rfl,rfl⟩⟩
 ·refine ⟨_,cap+1,rfl,hnc,hcm, ?_,.inr ⟨g,o,rfl,rfl,fun i hi => ?_,fun o=>Blk.frozen (w:=w) (t:=T) (cs:=cur) hh o⟩⟩
  ·intro k hk
   simp only [Cm,List.mem_singleton] at hk
   subst hk
   exact ⟨Blk.lt (w:=w) (t:=T) (cs:=cur) hh,Nat.zero_le _⟩
  ·rw [cell_of_row w g _ cur T _ hh]
   have h9:(List.take (n * sz) (cur.toList.drop o))[i]? = some vs[i]:=by rw [ht];exact List.getElem?_eq_getElem hi
   rw [List.getElem?_take] at h9
   split at h9
   ·simpa [List.getElem?_drop] using h9
   ·cases h9
theorem GK {w:World} {S:Nat→Prop} {sz n:Nat} {T:TypeId} {v:Value} {vs:List Value} {cs:List D} (h:Jq w T sz v n vs) (hr:An w S cs vs) (hS:∀ k ∈ Cm v,S k):AW w S (.rows sz n cs) v:=by
 obtain ⟨a,cap,rfl,h1,h2,h3,h4⟩:=BW h
 unfold AW
 refine ⟨a,cap,rfl,h1,h2,by rw [← hr.len,h.1], ?_⟩
 rcases h4 with ⟨_,h5⟩ | ⟨g,o,rfl,h6,h7,h8⟩
 ·exact .inl h5
 ·exact .inr ⟨g,o,vs,rfl,hS g (by rw [h6];simp),h7,hr⟩
theorem Kx {w:World} {sz n:Nat} {T:TypeId} {v:Value} {vs:List Value} {cs:List D} {fp:List Nat} (h:Jq w T sz v n vs) (hr:Ao w cs vs fp):Ch w (.rows sz n cs) v (Cm v++fp):=by
 have hl:=Ao.len _ _ _ hr
 obtain ⟨a,cap,e,h1,h2,h3,h4⟩:=BW h
 have hcl:cs.length=n * sz:=by rw [← hl,h.1]
 rcases h4 with ⟨h5,h0⟩ | ⟨g,o,rfl,h6,h7,h8⟩
 ·subst h0
  have hcs:cs=[]:=List.eq_nil_of_length_eq_zero (by simpa using hcl)
  subst hcs
  unfold Ao at hr
  rw [h5,hr.2]
  unfold Ch
  exact ⟨a,cap,e,h1,h2,hcl,.inl ⟨rfl,rfl⟩⟩
 ·rw [h6]
  unfold Ch
  exact ⟨_,cap,e,h1,h2,hcl,.inr ⟨g,o,vs,fp,rfl,(h3 g (by rw [h6];simp)).1,rfl,h8,h7,hr⟩⟩
theorem EX {w:World} {g o:Nat} {us:List Value} (h:Ey w g o us):∀ j u,us[j]? = some u→w.cell? ((⟨g,o,none⟩:Addr).add j)=some u:=fun j u hj=>by
 obtain ⟨hlt,e⟩:=List.getElem?_eq_some_iff.1 hj
 rw [DC,h j hlt,e]
theorem Ho {P:Program} (w:World) (t ty e:TypeId) (i:TypeInfo) (ht:P.underlying t=some (.slice e)) (hi:P.info? e=some i)
  (g o sLen sCap:Nat) (cur:Array Value) (hg:w.heap[g]? = some (.cells cur e (0,0)))
  (a:Addr) (m c:Nat) (news:List Value) (hl:news.length=m * i.size) (hnews:∀ j u,news[j]? = some u→w.cell? (a.add j)=some u) (h1:∀ u ∈ news,u.oneCell'=true)
  (hroom:sLen+m≤sCap) (hfit:o+sLen * i.size+news.length≤cur.size) :
  (Builtin.append_ #[t,t] ty #[.slice (some ⟨g,o,none⟩) sLen sCap,.slice (some a) m c]).run P w =
   .ok (.slice (some ⟨g,o,none⟩) (sLen+m) sCap) (w.setRow g (cur.toList.take (o+sLen * i.size)++news++cur.toList.drop (o+sLen * i.size+news.length)).toArray):=by
 have hf:=run_firstCells_some (P:=P) w i.size m a m c news hl hnews
 have hst:=run_storeCells_at P g (o+sLen * i.size) e news 0 cur w hg (by simpa using hfit) h1
 simp only [Nat.add_zero] at hst
 simp [Builtin.append_,run_underlying ht,sizeOf,typeInfo,hi,Builtin.lenOf,hroom,hf,Addr.add_lit,hst]
inductive Tgt (w:World) (T:TypeId) (sz:Nat) (u:Value) (n m:Nat) (vs:List Value) (rb:List Nat) (ro:Option Nat):Prop
 | own (h:Jq w T sz u n vs) (h1:rb=Cm u) (h2:ro=aGK u)
 | clip (a:Option Addr) (hu:u = .slice a n n) (hl:vs.length=n * sz) (hc:∀ b,a=some b→∀ j z,vs[j]? = some z→w.cell? (b.add j)=some z) (h0:a=none→n=0) (hm:0<m) (h1:rb=[]) (h2:ro=none)
theorem Tgt.len {w:World} {T:TypeId} {sz n m:Nat} {u:Value} {vs:List Value} {rb:List Nat} {ro:Option Nat} (h:Tgt w T sz u n m vs rb ro):vs.length=n * sz:=by
 rcases h with ⟨h,_,_⟩ | ⟨_,_,h,_,_,_,_,_⟩
 ·exact h.1
 ·exact h
theorem Tgt.lt {w:World} {T:TypeId} {sz n m:Nat} {u:Value} {vs:List Value} {rb:List Nat} {ro:Option Nat} (h:Tgt w T sz u n m vs rb ro):(∀ k ∈ rb,k<w.heap.size)∧∀ k,some k=ro→k ∈ rb:=by
 rcases h with ⟨h,rfl,rfl⟩ | ⟨_,_,_,_,_,_,rfl,rfl⟩
 ·obtain ⟨_,_,_,_,_,h9,_⟩:=BW h
  refine ⟨fun k hk=>(h9 k hk).1,fun k e => ?_⟩
  unfold aGK at e
  split at e
  ·simp at e;subst e;simp [Cm]
  ·cases e
 ·exact ⟨by simp,by simp⟩
theorem Mk {w:World} {n m:Nat} {i:TypeInfo} {z:Value} {T:TypeId} {vs us:List Value} (hzs:z.cells.size=i.size) (hvl:vs.length=n * i.size) (hul:us.length=m * i.size) (h63:n+m≤maxLen) (old:Nat) (ho:old<n+m) (rb:List Nat) (ro:Option Nat) :
  Jq (w.drew.alloc (.cells (vs.toArray++us.toArray++Builtin.zeroCells z.cells (grownCap w (n+m) old T-(n+m))) T)) T i.size
   (.slice (some ⟨w.heap.size,0,none⟩) (n+m) (grownCap w (n+m) old T)) (n+m) (vs++us) ∧
  w.grownBy (w.drew.alloc (.cells (vs.toArray++us.toArray++Builtin.zeroCells z.cells (grownCap w (n+m) old T-(n+m))) T)) ro ∧
  ∀ k ∈ Cm (.slice (some ⟨w.heap.size,0,none⟩) (n+m) (grownCap w (n+m) old T)),k ∈ rb∨k=w.heap.size:=by
 have hlen:(vs++us).length=(n+m) * i.size:=by rw [List.length_append,hvl,hul,Nat.add_mul]
 have hge:=grownCap_ge w (n+m) old T
 have hcm:grownCap w (n+m) old T≤maxLen:=grownCap_le_maxLen w (n+m) old T h63
 refine ⟨IQ (b:=0) ⟨hlen,.inr ⟨w.heap.size,_,_,rfl,Nat.zero_le _,heap_alloc_new w.drew _,hge,hcm, ?_, ?_⟩⟩,⟨rfl,rfl,rfl,by simp,fun k hk _=>heap_alloc_old w.drew _ hk⟩,fun k hk => .inr ?_⟩
 ·simp only [Array.size_append,List.size_toArray,size_zeroCells,hzs,hvl,hul,← Nat.add_mul]
  congr 1
  omega
 ·simp only [Array.toList_append,List.append_assoc]
  rw [← List.append_assoc,← hlen]
  exact List.take_left
 ·generalize grownCap w (n+m) old T=q at hk
  cases q with
  | zero=>simp [Cm] at hk
  | succ q=>simpa [Cm] using hk
theorem Yc {P:Program} {w:World} {n m sz bytes:Nat} {t T:TypeId} {v y:Value} {vs us:List Value} {rb:List Nat} {ro:Option Nat} (ht:Hs P t=some (T,sz,bytes)) (h1:Tgt w T sz v n m vs rb ro) (ty:TypeId) {a:Option Addr} {c:Nat} (hy:y = .slice a m c)
  (hul:us.length=m * sz) (hc:∀ b,a=some b→∀ j u,us[j]? = some u→w.cell? (b.add j)=some u) (hn:a=none→m=0) (hone:∀ u ∈ us,u.oneCell'=true) (h63:n+m≤maxLen) (hby:(n+m) * bytes≤140737488355328) :
  ∃ v' w',(Builtin.append_ #[t,t] ty #[v,y]).run P w = .ok v' w'∧Jq w' T sz v' (n+m) (vs++us)∧w.grownBy w' ro∧∀ k ∈ Cm v',k ∈ rb∨k=w.heap.size:=by
 obtain ⟨i,z,hu,hi,hz,hsz,hbs,hzs,hpos⟩:=Sd ht
 subst hy
 subst hsz
 subst hbs
 have hvl:=h1.len
 have h63':n+m≤9223372036854775807:=by simp only [maxLen] at h63;omega
 have hlen:(vs++us).length=(n+m) * i.size:=by rw [List.length_append,hvl,hul,Nat.add_mul]
 have grow:∀ (ad b:Addr) (cap:Nat),a=some ad→v = .slice (some b) n cap→cap<n+m→(∀ j u,vs[j]? = some u→w.cell? (b.add j)=some u) →
   ∃ v' w',(Builtin.append_ #[t,t] ty #[v,.slice a m c]).run P w = .ok v' w'∧Jq w' T i.size v' (n+m) (vs++us)∧w.grownBy w' ro∧∀ k ∈ Cm v',k ∈ rb∨k=w.heap.size:=by
  intro ad b cap ea e hlt holds
  subst ea
  subst e
  have hr:=run_append_grow (P:=P) w t ty T i z hu hi hz b n cap vs hvl holds ad m c us hul (hc ad rfl) hlt (by omega) (growslice_fits hlt hby)
  obtain ⟨g1,g2,g3⟩:=Mk (w:=w) (T:=T) hzs hvl hul h63 cap hlt rb ro
  exact ⟨_,_,hr,g1,g2,g3⟩
 have fresh:∀ (ad:Addr),a=some ad→v = .slice none 0 0→n=0→0<m →
   ∃ v' w',(Builtin.append_ #[t,t] ty #[v,.slice a m c]).run P w = .ok v' w'∧Jq w' T i.size v' (n+m) (vs++us)∧w.grownBy w' ro∧∀ k ∈ Cm v',k ∈ rb∨k=w.heap.size:=by
  intro ad ea e hn0 hm
  subst ea
  subst e
  subst hn0
  have hvs:vs=[]:=List.eq_nil_of_length_eq_zero (by simpa using hvl)
  subst hvs
  have hr:=run_append_nil (P:=P) w t ty T i z hu hi hz ad m c us hul (hc ad rfl) hm (by omega) (by have hb:=hby;simp only [Nat.zero_add] at hb;omega)
  obtain ⟨g1,g2,g3⟩:=Mk (w:=w) (T:=T) hzs hvl hul h63 0 (by omega) rb ro
  simp only [Nat.zero_add,List.nil_append,Array.empty_append] at g1 g2 g3 ⊢
  exact ⟨_,_,hr,g1,g2,g3⟩
 rcases h1 with ⟨h1,rfl,rfl⟩ | ⟨a0,rfl,hl0,hc0,h00,hm,rfl,rfl⟩
 ·by_cases hm0:m=0
  ·subst hm0
   have hus:us=[]:=List.eq_nil_of_length_eq_zero (by simpa using hul)
   subst hus
   obtain ⟨a',cap,rfl,h2,h3,h4,h5⟩:=BW h1
   refine ⟨_,w, ?_,by simpa using h1,⟨rfl,rfl,rfl,Nat.le_refl _,fun _ _ _=>rfl⟩,fun k hk => .inl hk⟩
   have hfc:(Builtin.firstCells i.size 0 (.slice a 0 c)).run P w = .ok #[] w:=by
    cases a with
    | none=>exact run_firstCells_none (P:=P) w _ _ _ _
    | some b=>exact run_firstCells_some (P:=P) w i.size 0 b 0 c [] (by simp) (by simp)
   cases a' <;> simp [Builtin.append_,run_underlying hu,sizeOf,typeInfo,hi,Builtin.lenOf,h2,hfc,storeCells]
  ·obtain ⟨ad,ea⟩:∃ ad,a=some ad:=by
    cases a with
    | none=>exact absurd (hn rfl) hm0
    | some ad=>exact ⟨ad,rfl⟩
   rcases h1.2 with ⟨a0,e,rfl⟩ | ⟨g,o,cap,cur,e,hgg,hnc,hcm,hcs,htake⟩
   ·have hvs:vs=[]:=List.eq_nil_of_length_eq_zero (by simpa using h1.1)
    cases a0 with
    | none=>exact fresh ad ea e rfl (by omega)
    | some b=>exact grow ad b 0 ea e (by omega) (by subst hvs;simp)
   ·by_cases hroom:n+m≤cap+1
    ·have hle:(n+m) * i.size≤(cap+1) * i.size:=Nat.mul_le_mul_right _ hroom
     rw [Nat.add_mul] at hle
     have hfit:o+n * i.size+us.length≤cur.size:=by rw [hul];omega
     have hr:=Ho (P:=P) w t ty T i hu hi g o n (cap+1) cur hgg ad m c us hul (hc ad ea) hone hroom hfit
     subst e
     subst ea
     refine ⟨_,_,hr,⟨hlen,.inr ⟨g,o,cap,_,rfl,setRow_heap w g cur _ T _ hgg,hroom,hcm, ?_, ?_⟩⟩,⟨rfl,rfl,rfl,by simp,fun k _ hk=>setRow_other w g k _ (fun e=>hk (by simp [aGK,e]))⟩,fun k hk => .inl hk⟩
     ·simp only [List.size_toArray,List.length_append,List.length_take,List.length_drop,Array.length_toList]
      omega
     ·have hol:o≤cur.toList.length:=by simp only [Array.length_toList];omega
      have e1:List.drop o (List.take (o+n * i.size) cur.toList)=vs:=by
       rw [List.drop_take,Nat.add_sub_cancel_left];exact htake
      have e2:o≤(List.take (o+n * i.size) cur.toList).length:=by rw [List.length_take];simp only [Array.length_toList] at hol ⊢; omega
      simp only [List.append_assoc]
      rw [List.drop_append_of_le_length e2,e1,← List.append_assoc,← hlen]
      exact List.take_left
    ·exact grow ad ⟨g,o,none⟩ (cap+1) ea e (by omega) (by
      obtain ⟨a',cap',e',_,_,_,h9⟩:=BW h1
      rw [e] at e'
      injection e' with e1 _ _
      subst e1
      rcases h9 with ⟨h10,h11⟩ | ⟨g',o',e2,_,h11,_⟩
      ·subst h11
       have:vs=[]:=List.eq_nil_of_length_eq_zero (by simpa using h1.1)
       subst this;simp
      ·injection e2 with e2
       injection e2 with e3 e4 _
       subst e3 e4
       exact EX h11)
 ·obtain ⟨ad,ea⟩:∃ ad,a=some ad:=by
   cases a with
   | none=>exact absurd (hn rfl) (by omega)
   | some ad=>exact ⟨ad,rfl⟩
  cases a0 with
  | none =>
   obtain rfl:=h00 rfl
   exact fresh ad ea rfl rfl hm
  | some b=>exact grow ad b n ea rfl (by omega) (hc0 b rfl)
def D.prim:D→Bool
 | .rows _ _ _=>false
 | .any=>false
 | _=>true
def tSh (P:Program) (t:TypeId):Bool:=match P.underlying t with | some (.slice e)=>(aD8 P 8 e).any Option.isSome | _=>false
def Up (s:AS) (T:TypeId) (sz:Nat):AV→Option (List Nat × Nat × List D × Bool)
 | .nl _=>some ([],0,[],true)
 | .sl o=>match s.owf o with
  | some ⟨.rows sz' n cs,some T',dp⟩=>if sz'=sz∧T'=T then some ([o],n,cs,dp) else none
  | _=>none
 | .cl (.rows sz' n cs)=>if sz'=sz then some ([],n,cs,decide (n=0)) else none
 | _=>none
def QT:AV→Bool
 | .cl _=>true
 | _=>false
def We (s:AS) (sz:Nat) (sh:Bool):AV→Option (List Nat × Nat × List D × Bool)
 | .sl p=>match s.owf p with
  | some ⟨.rows sz' m ds,some _,dp⟩=>if sz'=sz then some ([p],m,ds,dp) else none
  | some ⟨.rows sz' m ds,none,dp⟩=>if sz'=sz∧sh=false then some ([],m,ds,true) else none
  | _=>none
 | .nl _=>some ([],0,[],true)
 | .br (.rows sz' m ds)=>if sz'=sz then some ([],m,ds,!sh) else none
 | .cl (.rows sz' m ds)=>if sz'=sz then some ([],m,ds,!sh) else none
 | .sp o (.rows sz' m ds)=>match s.owf o with
  | some _=>if sz'=sz∧sh=false then some ([],m,ds,true) else none
  | none=>none
 | _=>none
def apP:Bool→List Nat→List D→Prop
 | true,_,_=>True
 | false,e2,ds=>e2=[]→∀ d ∈ ds,d.prim=true
def apC (c:Bool) (n m:Nat):Prop:=match c with | false=>True | true=>n=0∨0<m
def aDn (P:Program) (s:AS) (t:TypeId) (x y:AV) (K:AV→AS→Prop):Prop :=
 match Hs P t with
 | some (T,sz,bytes)=>match Up s T sz x,We s sz (tSh P t) y with
  | some (e1,n,cs,dp),some (e2,m,ds,dp')=>(apC (QT x) n m∧apP (tSh P t) e2 ds)∧(∀ o ∈ e1,o ∉ e2)∧(n+m≤maxLen∧(n+m) * bytes≤140737488355328)∧K (.sl s.nx) (s.mk' (e1++e2) ⟨.rows sz (n+m) (cs++ds),some T,dp && dp'⟩)
  | _,_=>False
 | none=>False
structure aCY (w0:Aq) (G:Gh) (s:AS) (w:World) (e:List Nat) (rb:List Nat) (n sz:Nat) (cs:List D) (vs:List Value) (dp:Bool) (F:List Nat):Prop where
 rep:An w (fun k=>G.Z k∨k ∈ F) cs vs
 one:∀ u ∈ vs,u.oneCell'=true
 len:vs.length=n * sz
 sub:∀ k ∈ F,(∃ o ∈ e,k ∈ G.B o)∧k ∉ rb
 row:e≠[]→∀ k ∈ rb,∃ o ∈ e,k ∈ G.B o
 own:dp=true→Ao w cs vs F∧F.Nodup
theorem An.one {w:World} {S:Nat→Prop}:∀ (cs:List D) (vs:List Value),An w S cs vs→∀ u ∈ vs,u.oneCell'=true
 | [],vs,h,u,hu=>by unfold An at h;subst h;cases hu
 | d :: cs,vs,h,u,hu=>by
  unfold An at h
  obtain ⟨v,r,rfl,h1,h2⟩:=h
  rcases List.mem_cons.1 hu with rfl | hu
  ·cases d <;> unfold AW at h1
   ·subst h1;rfl
   ·subst h1;rfl
   ·subst h1;rfl
   ·obtain ⟨a,cap,rfl,_⟩:=h1;rfl
   ·exact h1
   ·subst h1;rfl
  ·exact An.one cs r h2 u hu
theorem QI {w0:Aq} {G:Gh} {s:AS} {a:Act} {w:World} (h:Rel w0 G s a w) {T:TypeId} {sz:Nat} {x:AV} {u:Value} (hx:RV G w s.owf s.nx x u) {e:List Nat} {n m:Nat} {cs:List D} {dp:Bool} (hl:Up s T sz x=some (e,n,cs,dp)) (hcl:apC (QT x) n m) :
  ∃ vs F rb ro,Tgt w T sz u n m vs rb ro∧(QT x=false→Jq w T sz u n vs∧rb=Cm u)∧aCY w0 G s w e rb n sz cs vs dp F∧(∀ o ∈ e,∃ I,s.owf o=some I)∧(e=[]→rb=[])∧cs.length=n * sz∧∀ k ∈ rb,w0.heap.size≤k∨w0.wr k:=by
 cases x <;> simp only [Up] at hl <;> first | (cases hl;done) | skip
 case nl q =>
  simp only [Option.some.injEq,Prod.mk.injEq] at hl
  obtain ⟨rfl,rfl,rfl,rfl⟩:=hl
  unfold RV at hx;obtain ⟨a0,rfl⟩:=hx
  have e0:Cm (.slice a0 0 0)=[]:=by cases a0 <;> rfl
  exact ⟨[],[],[],_,.own (Fg w _ _ _) e0.symm rfl,fun _=>⟨Fg w _ _ _,e0.symm⟩,⟨by unfold An;rfl,by simp,by simp,by simp,by simp,fun _=>⟨by unfold Ao;exact ⟨rfl,rfl⟩,by simp⟩⟩,by simp,fun _=>rfl,by simp,by simp⟩
 case cl d =>
  cases d <;> simp only at hl <;> first | (cases hl;done) | skip
  rename_i sz' n' cs'
  split at hl
  ·rename_i hc
   subst hc
   simp only [Option.some.injEq,Prod.mk.injEq] at hl
   obtain ⟨rfl,rfl,rfl,rfl⟩:=hl
   unfold RV at hx
   obtain ⟨⟨a0,n0,rfl⟩,hr⟩:=hx
   obtain ⟨a1,c1,e1,h1,h2,h3⟩:=hr.shape
   injection e1 with e1 e2 e3
   subst e1 e2 e3
   by_cases hn:n0=0
   ·subst hn
    have hcs:cs'=[]:=List.eq_nil_of_length_eq_zero (by simpa using h3)
    subst hcs
    have e0:Cm (.slice a0 0 0)=[]:=by cases a0 <;> rfl
    exact ⟨[],[],[],_,.own (Fg w _ _ _) e0.symm rfl,fun e=>by simp [QT] at e,⟨by unfold An;rfl,by simp,by simp,by simp,by simp,fun _=>⟨by unfold Ao;exact ⟨rfl,rfl⟩,by simp⟩⟩,by simp,fun _=>rfl,by simp,by simp⟩
   ·obtain ⟨b,off,vs,rfl,hS,hcc,hrs,hvl,_⟩:=hr.cell (k:=0) (by omega)
    refine ⟨vs,[],[],none,.clip _ rfl hvl (fun b' hb' => ?_) (by simp) (hcl.resolve_left hn) rfl rfl,fun e=>by simp [QT] at e,⟨An.mono (fun k hk => .inl hk) (fun _ _=>rfl) _ _ hrs,An.one _ _ hrs,hvl,by simp,by simp,fun e=>absurd (of_decide_eq_true e) hn⟩,by simp,fun _=>rfl,h3,by simp⟩
    injection hb' with hb'
    subst hb'
    exact EX hcc
  ·cases hl
 case sl o =>
  split at hl
  ·rename_i sz' n' cs' T' dp'' hI
   split at hl
   ·rename_i hc
    obtain ⟨rfl,rfl⟩:=hc
    simp only [Option.some.injEq,Prod.mk.injEq] at hl
    obtain ⟨rfl,rfl,rfl,rfl⟩:=hl
    unfold RV at hx
    obtain ⟨_,⟨hB,_,_,hap⟩,_⟩:=h.own o _ hI
    obtain ⟨sz2,n2,cs2,vs,e1,h1,h2,h3,h4,h5⟩:=hap _ rfl
    simp only [D.rows.injEq] at e1
    obtain ⟨rfl,rfl,rfl⟩:=e1
    rw [hx.2.2 _ hI]
    have hcl:cs'.length=n' * sz':=by rw [← h2.len,h1.1]
    cases dp'' with
    | false =>
     refine ⟨vs,(G.B o).filter (fun k => !decide (k ∈ Cm (G.root o))),_,_,.own h1 rfl rfl,fun _=>⟨h1,rfl⟩,⟨An.mono (fun k hk=>hk.imp id fun hk=>by simp [hk.1,hk.2]) (fun _ _=>rfl) _ _ h2,h4,h1.1,fun k hk => ?_,fun _ k hk=>⟨o,by simp,(h3 k hk).1⟩,fun hd=>by cases hd⟩,fun o' ho' => ?_,by simp,hcl,fun k hk=>(h3 k hk).2⟩
     ·simp only [List.mem_filter,Bool.not_eq_true',decide_eq_false_iff_not] at hk
      exact ⟨⟨o,by simp,hk.1⟩,hk.2⟩
     ·simp only [List.mem_singleton] at ho'; subst ho'; exact ⟨_,hI⟩
    | true =>
     obtain ⟨fp,h6,h7,h8⟩:=h5 rfl
     refine ⟨vs,fp,_,_,.own h1 rfl rfl,fun _=>⟨h1,rfl⟩,⟨Ao.p _ _ _ h6 (fun k hk => .inr hk),h4,h1.1,fun k hk=>⟨⟨o,by simp,(h8 k hk).1⟩,(h8 k hk).2⟩,fun _ k hk=>⟨o,by simp,(h3 k hk).1⟩,fun _=>⟨h6,h7⟩⟩,fun o' ho' => ?_,by simp,hcl,fun k hk=>(h3 k hk).2⟩
     simp only [List.mem_singleton] at ho'; subst ho'; exact ⟨_,hI⟩
   ·cases hl
  ·cases hl
theorem Oq {w:World} {S:Nat→Prop}:∀ {ds:List D} {vs:List Value},An w S ds vs→(∀ d ∈ ds,d.prim=true)→Ao w ds vs []∧∀ u ∈ vs,u.oneCell'=true
 | [],vs,h,_=>by unfold An at h;subst h;exact ⟨by unfold Ao;exact ⟨rfl,rfl⟩,by simp⟩
 | d :: ds,vs,h,hp=>by
  unfold An at h
  obtain ⟨v,r,rfl,h1,h2⟩:=h
  obtain ⟨h3,h4⟩:=Oq h2 (fun d' hd=>hp d' (by simp [hd]))
  have hd:=hp d (by simp)
  have key:Ch w d v []∧v.oneCell'=true:=by
   cases d <;> simp only [D.prim] at hd <;> first | (cases hd;done) | skip
   all_goals (unfold AW at h1;subst h1;exact ⟨by unfold Ch;exact ⟨rfl,rfl⟩,rfl⟩)
  refine ⟨by unfold Ao;exact ⟨v,r,[],[],rfl,rfl,key.1,h3⟩,fun u hu => ?_⟩
  rcases List.mem_cons.1 hu with rfl | hu
  ·exact key.2
  ·exact h4 u hu
theorem aAJ {w0:Aq} {G:Gh} {s:AS} {a:Act} {w:World} (h:Rel w0 G s a w) {sz:Nat} {sh:Bool} {x:AV} {u:Value} (hx:RV G w s.owf s.nx x u) {e:List Nat} {m:Nat} {ds:List D} {dp:Bool} (hl:We s sz sh x=some (e,m,ds,dp))
  (hp:apP sh e ds) :
  ∃ a' c us F rb,u = .slice a' m c∧(∀ b,a'=some b→∀ j z,us[j]? = some z→w.cell? (b.add j)=some z)∧(a'=none→m=0)∧aCY w0 G s w e rb m sz ds us dp F∧(∀ o ∈ e,∃ I,s.owf o=some I)∧ds.length=m * sz:=by
 have share:AW w G.Z (.rows sz m ds) u→e=[]→dp=false →
   ∃ a' c us F rb,u = .slice a' m c∧(∀ b,a'=some b→∀ j z,us[j]? = some z→w.cell? (b.add j)=some z)∧(a'=none→m=0)∧aCY w0 G s w e rb m sz ds us dp F∧(∀ o ∈ e,∃ I,s.owf o=some I)∧ds.length=m * sz:=by
  intro hr he hd
  subst he
  subst hd
  obtain ⟨a',c,rfl,h1,h2,h3⟩:=hr.shape
  by_cases hm:m=0
  ·subst hm
   have hds:ds=[]:=List.eq_nil_of_length_eq_zero (by simpa using h3)
   subst hds
   exact ⟨a',c,[],[],[],rfl,by simp,fun _=>rfl,⟨by unfold An;rfl,by simp,by simp,by simp,by simp,by simp⟩,by simp,by simp⟩
  ·obtain ⟨b,off,vs,rfl,hS,hc,hrs,hvl,_⟩:=hr.cell (k:=0) (by omega)
   refine ⟨_,c,vs,[],[],rfl,fun b' hb' => ?_,by simp,⟨An.mono (fun k hk => .inl hk) (fun _ _=>rfl) _ _ hrs,An.one _ _ hrs,hvl,by simp,by simp,by simp⟩,by simp,h3⟩
   injection hb' with hb'
   subst hb'
   exact EX hc
 have copy:∀ {S:Nat→Prop},AW w S (.rows sz m ds) u→e=[]→dp=true→sh=false∨ds=[] →
   ∃ a' c us F rb,u = .slice a' m c∧(∀ b,a'=some b→∀ j z,us[j]? = some z→w.cell? (b.add j)=some z)∧(a'=none→m=0)∧aCY w0 G s w e rb m sz ds us dp F∧(∀ o ∈ e,∃ I,s.owf o=some I)∧ds.length=m * sz:=by
  intro S hr he hd hs
  subst he
  obtain ⟨a',c,rfl,h1,h2,h3⟩:=hr.shape
  by_cases hm:m=0
  ·subst hm
   have hds:ds=[]:=List.eq_nil_of_length_eq_zero (by simpa using h3)
   subst hds
   exact ⟨a',c,[],[],[],rfl,by simp,fun _=>rfl,⟨by unfold An;rfl,by simp,by simp,by simp,by simp,fun _=>⟨by unfold Ao;exact ⟨rfl,rfl⟩,by simp⟩⟩,by simp,by simp⟩
  ·obtain ⟨b,off,vs,rfl,hS,hc,hrs,hvl,_⟩:=hr.cell (k:=0) (by omega)
   have hpr:∀ d ∈ ds,d.prim=true:=by
    rcases hs with rfl | rfl
    ·exact hp rfl
    ·simp
   obtain ⟨h4,h5⟩:=Oq hrs hpr
   refine ⟨_,c,vs,[],[],rfl,fun b' hb' => ?_,by simp,⟨Ao.p _ _ _ h4 (by simp),h5,hvl,by simp,by simp,fun _=>⟨h4,by simp⟩⟩,by simp,h3⟩
   injection hb' with hb'
   subst hb'
   exact EX hc
 have bor:AW w G.Z (.rows sz m ds) u→e=[]→dp = !sh →
   ∃ a' c us F rb,u = .slice a' m c∧(∀ b,a'=some b→∀ j z,us[j]? = some z→w.cell? (b.add j)=some z)∧(a'=none→m=0)∧aCY w0 G s w e rb m sz ds us dp F∧(∀ o ∈ e,∃ I,s.owf o=some I)∧ds.length=m * sz:=by
  intro hr he hd
  cases sh with
  | true=>exact share hr he hd
  | false=>exact copy hr he hd (.inl rfl)
 cases x <;> simp only [We] at hl <;> first | (cases hl;done) | skip
 case nl q =>
  simp only [Option.some.injEq,Prod.mk.injEq] at hl
  obtain ⟨rfl,rfl,rfl,rfl⟩:=hl
  unfold RV at hx;obtain ⟨a0,rfl⟩:=hx
  refine copy (S:=fun _=>True) ?_ rfl rfl (.inr rfl)
  unfold AW
  exact ⟨a0,0,rfl,by simp,by simp,by simp,.inl rfl⟩
 case br d =>
  cases d <;> simp only at hl <;> first | (cases hl;done) | skip
  split at hl
  ·rename_i hc
   subst hc
   simp only [Option.some.injEq,Prod.mk.injEq] at hl
   obtain ⟨rfl,rfl,rfl,rfl⟩:=hl
   unfold RV at hx
   exact bor hx rfl rfl
  ·cases hl
 case cl d =>
  cases d <;> simp only at hl <;> first | (cases hl;done) | skip
  split at hl
  ·rename_i hc
   subst hc
   simp only [Option.some.injEq,Prod.mk.injEq] at hl
   obtain ⟨rfl,rfl,rfl,rfl⟩:=hl
   unfold RV at hx
   exact bor hx.2 rfl rfl
  ·cases hl
 case sp o d =>
  cases d <;> simp only at hl <;> first | (cases hl;done) | skip
  split at hl
  ·rename_i I hI
   split at hl
   ·rename_i hc
    obtain ⟨hc,hs⟩:=hc
    subst hc
    simp only [Option.some.injEq,Prod.mk.injEq] at hl
    obtain ⟨rfl,rfl,rfl,rfl⟩:=hl
    unfold RV at hx
    exact copy (hx.2.2 _ hI) rfl rfl (.inl hs)
   ·cases hl
  ·cases hl
 case sl p =>
  split at hl
  ·rename_i sz' m' ds' T' dp' hI
   split at hl
   ·rename_i hc
    subst hc
    simp only [Option.some.injEq,Prod.mk.injEq] at hl
    obtain ⟨rfl,rfl,rfl,rfl⟩:=hl
    obtain ⟨vs,F,rb,ro,_,h0,h2,h3,h4,h5,_⟩:=QI h hx (T:=T') (sz:=sz') (e:=[p]) (n:=m') (m:=0) (cs:=ds') (dp:=dp') (by simp only [Up,hI];simp) trivial
    obtain ⟨h1,rfl⟩:=h0 rfl
    obtain ⟨a',cap,rfl,h6,h7,h8,h9⟩:=BW h1
    refine ⟨a',cap,vs,F,_,rfl,fun b hb => ?_,fun hn => ?_,h2,h3,h5⟩
    ·rcases h9 with ⟨h10,h11⟩ | ⟨g,_,rfl,_,h11,_⟩
     ·subst h11
      have:vs=[]:=List.eq_nil_of_length_eq_zero (by simpa using h1.1)
      subst this
      simp
     ·injection hb with hb
      subst hb
      exact EX h11
    ·subst hn
     rcases h9 with ⟨h10,h11⟩ | ⟨g,_,h10,_⟩
     ·exact h11
     ·cases h10
   ·cases hl
  ·rename_i sz' m' ds' dp' hI
   split at hl
   ·rename_i hc
    obtain ⟨hc,hs⟩:=hc
    subst hc
    simp only [Option.some.injEq,Prod.mk.injEq] at hl
    obtain ⟨rfl,rfl,rfl,rfl⟩:=hl
    unfold RV at hx
    obtain ⟨_,⟨_,hrep,_⟩,_⟩:=h.own p _ hI
    rw [hx.2.2 _ hI]
    rw [hx.2.2 _ hI] at copy
    exact copy hrep rfl rfl (.inl hs)
   ·cases hl
  ·cases hl
theorem aAK {P:Program} {w0:Aq} {G:Gh} {s:AS} {a:Act} {w:World} (h:Rel w0 G s a w) {t ty:TypeId} {x y:AV} {u z:Value} (hx:RV G w s.owf s.nx x u) (hy:RV G w s.owf s.nx y z) {K:AV→AS→Prop} (hk:aDn P s t x y K) :
  ∃ av v s' G' w',K av s'∧(Builtin.append_ #[t,t] ty #[u,z]).run P w = .ok v w'∧Rel w0 G' s' a w'∧RV G' w' s'.owf s'.nx av v:=by
 unfold aDn at hk
 split at hk
 ·rename_i T sz bytes ht
  split at hk
  ·rename_i e1 n cs dp e2 m ds dp' hl hr
   obtain ⟨⟨hcc,hp⟩,hne,⟨h63,hby⟩,hk⟩:=hk
   obtain ⟨vs,F1,rb,ro,hrow,_,S1,l1,n1,c1,hwr⟩:=QI h hx hl hcc
   obtain ⟨a',c,us,F2,rb2,rfl,hc,hn,S2,l2,c2⟩:=aAJ h hy hr hp
   have hbs:=h.bel.size
   obtain ⟨v',w',hrun,hown,hg,hwh⟩:=Yc (P:=P) ht hrow ty rfl S2.len hc hn S2.one h63 hby
   refine ⟨_,v',_,G.own s.nx (Cm v'++(F1++F2)) v',w',hk,hrun, ?_⟩
   have hB1:∀ o ∈ e1,∀ k ∈ G.B o,(¬ G.Z k∧(w0.heap.size≤k∨w0.mv k))∧k<w.heap.size:=fun o ho k hk=>by
    obtain ⟨I,hI⟩:=l1 o ho;exact (h.own o I hI).2.1.1 k hk
   have hB2:∀ o ∈ e2,∀ k ∈ G.B o,(¬ G.Z k∧(w0.heap.size≤k∨w0.mv k))∧k<w.heap.size:=fun o ho k hk=>by
    obtain ⟨I,hI⟩:=l2 o ho;exact (h.own o I hI).2.1.1 k hk
   have hrow0:∀ k ∈ rb,k<w.heap.size:=hrow.lt.1
   have hrwB:∀ k,some k=ro→k ∈ rb:=hrow.lt.2
   have hrow1:∀ k ∈ rb,∃ o ∈ e1,k ∈ G.B o:=fun k hk=>S1.row (fun e=>by rw [n1 e] at hk;cases hk) k hk
   have hF1:∀ k ∈ F1,k<w.heap.size∧(¬ G.Z k∧(w0.heap.size≤k∨w0.mv k))∧k ∉ rb:=fun k hk=>by
    obtain ⟨⟨o,ho,hko⟩,h2⟩:=S1.sub k hk
    have:=hB1 o ho k hko
    exact ⟨this.2,this.1,h2⟩
   have hF2:∀ k ∈ F2,k<w.heap.size∧(¬ G.Z k∧(w0.heap.size≤k∨w0.mv k))∧k ∉ rb:=fun k hk=>by
    obtain ⟨⟨o,ho,hko⟩,h2⟩:=S2.sub k hk
    have:=hB2 o ho k hko
    refine ⟨this.2,this.1,fun hk' => ?_⟩
    obtain ⟨o',ho',hko'⟩:=hrow1 k hk'
    obtain ⟨I,hI⟩:=l2 o ho
    obtain ⟨I',hI'⟩:=l1 o' ho'
    exact h.dis o' o I' I hI' hI (fun e=>hne o' ho' (e ▸ ho)) k hko' hko
   have hkeep:∀ k,k<w.heap.size→k ∉ rb→w'.heap[k]? = w.heap[k]? := fun k hk hn=>hg.block k hk fun e=>hn (hrwB k e)
   have hrowM:∀ k ∈ rb,¬ G.Z k∧(w0.heap.size≤k∨w0.mv k):=fun k hk=>by
    obtain ⟨o,ho,hko⟩:=hrow1 k hk
    exact (hB1 o ho k hko).1
   have hbase:∀ k,G.Z k→w'.heap[k]? = w.heap[k]? := fun k hk=>hkeep k (h.zl k hk) fun hk'=>(hrowM k hk').1 hk
   have hrep:An w' (fun k=>G.Z k∨(k ∈ F1++F2)) (cs++ds) (vs++us):=by
    refine An.append _ _ _ _ (An.mono (fun k hk=>hk.imp id fun hk=>by simp [hk]) (fun k hk=>hk.elim (hbase k) (fun hk=>hkeep k (hF1 k hk).1 (hF1 k hk).2.2)) _ _ S1.rep) (An.mono (fun k hk=>hk.imp id fun hk=>by simp [hk]) (fun k hk=>hk.elim (hbase k) (fun hk=>hkeep k (hF2 k hk).1 (hF2 k hk).2.2)) _ _ S2.rep)
   have hdeep:(dp && dp')=true→Ao w' (cs++ds) (vs++us) (F1++F2)∧(F1++F2).Nodup:=fun hd=>by
    simp only [Bool.and_eq_true] at hd
    obtain ⟨h1,h2⟩:=S1.own hd.1
    obtain ⟨h3,h4⟩:=S2.own hd.2
    refine ⟨Ao.append _ _ _ _ _ _ (Ao.keep hg.size _ _ _ (fun k hk=>hkeep k (hF1 k hk).1 (hF1 k hk).2.2) h1) (Ao.keep hg.size _ _ _ (fun k hk=>hkeep k (hF2 k hk).1 (hF2 k hk).2.2) h3),List.nodup_append.2 ⟨h2,h4,fun k hk k' hk' e => ?_⟩⟩
    subst e
    obtain ⟨⟨o,ho,hko⟩,_⟩:=S1.sub k hk
    obtain ⟨⟨o',ho',hko'⟩,_⟩:=S2.sub k hk'
    obtain ⟨I,hI⟩:=l1 o ho
    obtain ⟨I',hI'⟩:=l2 o' ho'
    exact h.dis o o' I I' hI hI' (fun e=>hne o ho (e ▸ ho')) k hko hko'
   obtain ⟨a2,cap2,ev,r1,r2,r3,r4⟩:=BW hown
   have hFn:∀ k ∈ F1++F2,k ∉ Cm v':=fun k hk hk'=>by
    have h1:k<w.heap.size∧k ∉ rb:=by
     rcases List.mem_append.1 hk with hk | hk
     ·exact ⟨(hF1 k hk).1,(hF1 k hk).2.2⟩
     ·exact ⟨(hF2 k hk).1,(hF2 k hk).2.2⟩
    rcases hwh k hk' with h2 | h2
    ·exact h1.2 h2
    ·omega
   have hwr':∀ k ∈ Cm v',w0.heap.size≤k∨w0.wr k:=fun k hk=>(hwh k hk).elim (hwr k) fun e => .inl (by omega)
   have hrowN:(Cm v').Nodup:=by
    unfold Cm
    split <;> simp
   have hR:Res w0 G.Z w' (Cm v'++(F1++F2)) v' ⟨.rows sz (n+m) (cs++ds),some T,dp && dp'⟩:=by
    refine ⟨fun k hk => ?_,GK hown (An.mono (fun k hk=>hk.imp id fun hk=>List.mem_append.2 (.inr hk)) (fun _ _=>rfl) _ _ hrep) (fun k hk => .inr (List.mem_append.2 (.inl hk))),fun hd => ?_,fun T' hT => ?_⟩
    ·rcases List.mem_append.1 hk with hk | hk
     ·refine ⟨?_,(r3 k hk).1⟩
      rcases hwh k hk with h1 | h1
      ·exact hrowM k h1
      ·exact ⟨fun hz=>absurd (h.zl _ hz) (by omega),.inl (by omega)⟩
     ·have hs:=hg.size
      rcases List.mem_append.1 hk with hk | hk
      ·exact ⟨(hF1 k hk).2.1,by have:=(hF1 k hk).1;omega⟩
      ·exact ⟨(hF2 k hk).2.1,by have:=(hF2 k hk).1;omega⟩
    ·obtain ⟨h1,h2⟩:=hdeep hd
     exact ⟨Kx hown h1,List.nodup_append.2 ⟨hrowN,h2,fun k hk k' hk' e=>hFn k' hk' (e ▸ hk)⟩⟩
    ·injection hT with hT;subst hT
     refine ⟨sz,n+m,cs++ds,vs++us,rfl,hown,An.mono (fun k hk=>hk.imp id fun hk=>⟨List.mem_append.2 (.inr hk),hFn k hk⟩) (fun _ _=>rfl) _ _ hrep,fun k hk=>⟨List.mem_append.2 (.inl hk),(hwr' k hk)⟩,fun q hq => ?_,fun hd => ?_⟩
     ·rcases List.mem_append.1 hq with hq | hq
      ·exact S1.one q hq
      ·exact S2.one q hq
     ·obtain ⟨h1,h2⟩:=hdeep hd
      exact ⟨_,h1,h2,fun k hk=>⟨List.mem_append.2 (.inr hk),hFn k hk⟩⟩
   have hin:∀ k ∈ Cm v'++(F1++F2),k=w.heap.size∨∃ o ∈ e1++e2,k ∈ G.B o:=fun k hk=>by
    rcases List.mem_append.1 hk with hk | hk
    ·rcases hwh k hk with h1 | h1
     ·obtain ⟨o,ho,hko⟩:=hrow1 k h1
      exact .inr ⟨o,by simp [ho],hko⟩
     ·exact .inl h1
    ·rcases List.mem_append.1 hk with hk | hk
     ·obtain ⟨⟨o,ho,hko⟩,_⟩:=S1.sub k hk
      exact .inr ⟨o,by simp [ho],hko⟩
     ·obtain ⟨⟨o,ho,hko⟩,_⟩:=S2.sub k hk
      exact .inr ⟨o,by simp [ho],hko⟩
   have hlive:∀ o ∈ e1++e2,∃ I,s.owf o=some I:=fun o ho=>by
    rcases List.mem_append.1 ho with ho | ho
    ·exact l1 o ho
    ·exact l2 o ho
   refine h.own' (eats:=e1++e2) ⟨hg.os.trans h.bel.os,hg.tape.trans h.bel.tape,hg.output.trans h.bel.output,Nat.le_trans hbs hg.size,fun k hk hm=>(hkeep k (Nat.lt_of_lt_of_le hk hbs) fun hk'=>(hwr k hk').elim (by omega) hm).trans (h.bel.block k hk hm)⟩ hg.size (fun k hk hn=>hkeep k hk fun hk' => ?_) hR (by rw [ev];rfl) (fun b cs' hl' hkb => ?_) (fun o I ho hno k hk hkb => ?_)
   ·obtain ⟨o,ho,hko⟩:=hrow1 k hk'
    obtain ⟨I,hI⟩:=l1 o ho
    exact hn o I (by simp [ho]) hI hko
   ·obtain ⟨_,_,_,_,h3,_⟩:=h.bx b cs' hl'
    rcases hin _ hkb with e | ⟨o,ho,hko⟩
    ·have:=h3.lt;omega
    ·obtain ⟨I,hI⟩:=hlive o ho
     exact (h.own o I hI).2.2 b cs' hl' hko
   ·rcases hin _ hkb with e | ⟨o',ho',hko⟩
    ·have:=((h.own o I ho).2.1.1 k hk).2;omega
    ·obtain ⟨I',hI'⟩:=hlive o' ho'
     exact h.dis o o' I I' ho hI' (fun e=>hno (e ▸ ho')) k hk hko
  ·exact hk.elim
 ·exact hk.elim
def Ck (P:Program) (t:TypeId):Option Nat:=(P.info? t).map (·.size)
def MH:AV→Option D
 | .y n=>some (.byt n)
 | .i n=>some (.int n)
 | .b x=>some (.bool x)
 | .s x=>some (.str x)
 | _=>none
def Ed:List AV→Option (List D)
 | []=>some []
 | a :: r=>match MH a,Ed r with
  | some d,some ds=>some (d :: ds)
  | _,_=>none
def XD:AV→Option D
 | .y n=>some (.byt n)
 | .i n=>some (.int n)
 | .b x=>some (.bool x)
 | .s x=>some (.str x)
 | .br d=>some d
 | .cl d=>some d
 | .nl sz=>some (.rows sz 0 [])
 | _=>none
def FI:List AV→Option (List D)
 | []=>some []
 | a :: r=>match XD a,FI r with
  | some d,some ds=>some (d :: ds)
  | _,_=>none
def Qz (l:List AV):Option Cb→Option (List D)
 | some ⟨_,_,false⟩=>FI l
 | _=>Ed l
theorem Of:∀ {l:List AV} {ds:List D},Ed l=some ds→FI l=some ds
 | [],ds,h=>h
 | a :: r,ds,h=>by
  unfold Ed at h
  split at h
  ·rename_i d ds' e1 e2
   unfold FI
   rw [Of e2]
   have:XD a=some d:=by cases a <;> simp only [MH] at e1 <;> first | exact e1 | cases e1
   rw [this];exact h
  ·cases h
theorem JL:∀ {l:List AV} {ds:List D},FI l=some ds→l.all AV.one=true∧ds.length=l.length
 | [],ds,h=>by injection h with h;subst h;exact ⟨rfl,rfl⟩
 | a :: r,ds,h=>by
  unfold FI at h
  split at h
  ·rename_i d ds' e1 e2
   injection h with h;subst h
   obtain ⟨h1,h2⟩:=JL e2
   refine ⟨?_,by simp [h2]⟩
   rw [List.all_cons,h1,Bool.and_true]
   cases a <;> simp only [XD] at e1 <;> first | rfl | cases e1
  ·cases h
theorem MY {nx:Nat} {G:Gh} {w w':World} {owf:Nat→Option Cb} (hw:∀ k,G.Z k→w'.heap[k]? = w.heap[k]?):∀ {l:List AV} {us:List Value} {ds:List D},RVs G w owf nx l us→FI l=some ds→An w' G.Z ds us
 | [],us,ds,h,hd=>by
  unfold RVs at h;subst h
  injection hd with hd;subst hd
  unfold An;rfl
 | a :: r,us,ds,h,hd=>by
  unfold RVs at h
  obtain ⟨u,q,rfl,h1,h2⟩:=h
  unfold FI at hd
  split at hd
  ·rename_i d ds' e1 e2
   injection hd with hd;subst hd
   unfold An
   refine ⟨u,q,rfl, ?_,MY hw h2 e2⟩
   cases a <;> simp only [XD] at e1 <;> first | (cases e1;done) | skip
   case br=>injection e1 with e1;subst e1;unfold RV at h1;exact AW.mono (fun _ h=>h) hw _ _ h1
   case cl=>injection e1 with e1;subst e1;unfold RV at h1;exact AW.mono (fun _ h=>h) hw _ _ h1.2
   case nl =>
    injection e1 with e1;subst e1
    unfold RV at h1
    obtain ⟨a0,rfl⟩:=h1
    unfold AW
    exact ⟨a0,0,rfl,Nat.le_refl _,Nat.zero_le _,by simp,.inl rfl⟩
   all_goals (injection e1 with e1;subst e1;unfold RV at h1;unfold AW;exact h1)
  ·cases hd
mutual
def AV.unsp (o:Nat):AV→AV
 | .sp q d=>if q=o then .un else .sp q d
 | .fn f cap => .fn f (AV.unsps o cap)
 | .ag cs => .ag (AV.unsps o cs)
 | .tu cs => .tu (AV.unsps o cs)
 | .rp cs => .rp (AV.unsps o cs)
 | v=>v
def AV.unsps (o:Nat):List AV→List AV
 | []=>[]
 | a :: r=>AV.unsp o a :: AV.unsps o r
end
def IK (o:Nat):List (Nat × AV)→List (Nat × AV)
 | []=>[]
 | (t,v) :: r=>(t,v.unsp o) :: IK o r
def Iz (o:Nat):List (Nat × List AV)→List (Nat × List AV)
 | []=>[]
 | (t,v) :: r=>(t,AV.unsps o v) :: Iz o r
def AS.setO (s:AS) (o:Nat) (I:Cb):AS:={ s with tm:=IK o s.tm,bx:=Iz o s.bx,ow:=(o,some I) :: s.ow }
def Ip (P:Program) (s:AS) (t:TypeId) (x y:AV) (K:AS→Prop):Prop :=
 match x with
 | .eo o k off=>match s.owf o,Ck P t,Qz y.cells (s.owf o) with
  | some ⟨.rows sz n cs,some T,dp⟩,some m,some ds=>(ds.length=m∧off+m≤sz)∧K (s.setO o ⟨.rows sz n (Aw cs (k * sz+off) ds),some T,dp⟩)
  | _,_,_=>False
 | .bx b off=>match AO s.bx b,Ck P t with
  | some cs,some n=>(y.whole=true∧y.cells.length=n∧off+n≤cs.length)∧K (s.setb b (Aw cs off y.cells))
  | _,_=>False
 | _=>False
theorem Ea {P:Program} {T:TypeId} {g off:Nat}:∀ (vs:List Value) (i:Nat) (us:List Value) (w:World),Blk w g T us.toArray→off+i+vs.length≤us.length→(∀ v ∈ vs,v.oneCell'=true) →
  ∃ w',(storeCells ⟨g,off,none⟩ vs i).run P w = .ok () w'∧Blk w' g T (Aw us (off+i) vs).toArray∧La [g] w w'
 | [],i,us,w,hB,_,_=>⟨w,by simp [storeCells,Sem.run_pure],hB,La.refl _ _⟩
 | v :: vs,i,us,w,hB,hl,ho=>by
  simp only [List.length_cons] at hl
  have h1:=hB.set_ (off+i) v
  have e1:us.toArray.setIfInBounds (off+i) v=(us.set (off+i) v).toArray:=by simp
  rw [e1] at h1
  obtain ⟨w',h2,h3,h4⟩:=Ea (P:=P) (T:=T) (g:=g) (off:=off) vs (i+1) (us.set (off+i) v) _ h1 (by simp;omega) (fun x hx=>ho x (by simp [hx]))
  have hlt:off+i<us.length:=by omega
  refine ⟨w', ?_,h3,((La.refl _ w).setCell (p:=⟨g,off+i,none⟩) (by simp) v).trans h4⟩
  simp only [storeCells,Sem.run_bind,DC]
  rw [run_store P w ⟨g,off+i,none⟩ v _ (ho v (by simp)),hB.cell,hB.frozen]
  simp only [List.getElem?_toArray,List.getElem?_eq_getElem hlt,Bool.false_eq_true,if_false,Result.andThen_ok]
  exact h2
theorem Js {o:Nat}:∀ {l:List (Nat × AV)} {t:Nat} {v:AV},AO (IK o l) t=some v→∃ v',AO l t=some v'∧v=v'.unsp o
 | [],t,v,h=>by cases h
 | (k,x) :: l,t,v,h=>by
  unfold IK at h
  rw [Az] at h ⊢
  split at h
  ·rename_i e;injection h with h;exact ⟨x,by rw [if_pos e],h.symm⟩
  ·rename_i e;rw [if_neg e];exact Js h
theorem DE {o:Nat}:∀ {l:List (Nat × List AV)} {t:Nat} {v:List AV},AO (Iz o l) t=some v→∃ v',AO l t=some v'∧v=AV.unsps o v'
 | [],t,v,h=>by cases h
 | (k,x) :: l,t,v,h=>by
  unfold Iz at h
  rw [Az] at h ⊢
  split at h
  ·rename_i e;injection h with h;exact ⟨x,by rw [if_pos e],h.symm⟩
  ·rename_i e;rw [if_neg e];exact DE h
mutual
theorem RV.unsp {nx o:Nat} {G G':Gh} {w w':World} {owf owf':Nat→Option Cb} (hb:∀ k,G.Z k→G'.Z k∧w'.heap[k]? = w.heap[k]?) (hβ:∀ b,b<nx→G'.β b=G.β b)
  (ho:∀ q I,q<nx→q≠o→owf' q=some I→owf q=some I∧G'.root q=G.root q∧G'.B q=G.B q∧∀ k ∈ G.B q,w'.heap[k]? = w.heap[k]?)
  (hr:G'.root o=G.root o) (hI:∀ I',owf' o=some I'→∃ I sz n cs cs',owf o=some I∧I.d = .rows sz n cs∧I'.d = .rows sz n cs'):∀ (v:AV) (u:Value),RV G w owf nx v u→RV G' w' owf' nx (v.unsp o) u
 | .i n,u,h=>by unfold AV.unsp;unfold RV at h ⊢; exact h
 | .b n,u,h=>by unfold AV.unsp;unfold RV at h ⊢; exact h
 | .s n,u,h=>by unfold AV.unsp;unfold RV at h ⊢; exact h
 | .y n,u,h=>by unfold AV.unsp;unfold RV at h ⊢; exact h
 | .nl _,u,h=>by unfold AV.unsp;unfold RV at h ⊢; exact h
 | .cl d,u,h=>by unfold AV.unsp;unfold RV at h ⊢; exact ⟨h.1,AW.mono (fun k hk=>(hb k hk).1) (fun k hk=>(hb k hk).2) d u h.2⟩
 | .x _,u,h=>by unfold AV.unsp;unfold RV at h ⊢; exact h
 | .sl q,u,h=>by
  unfold AV.unsp;unfold RV at h ⊢
  refine ⟨h.1,h.2.1,fun I hI' => ?_⟩
  by_cases e:q=o
  ·subst e
   obtain ⟨I2,_,_,_,_,h2,_⟩:=hI I hI'
   rw [hr];exact h.2.2 I2 h2
  ·obtain ⟨h1,h2,_⟩:=ho q I h.1 e hI'
   rw [h2];exact h.2.2 I h1
 | .sp q d,u,h=>by
  unfold AV.unsp
  split
  ·unfold RV;trivial
  ·rename_i e
   unfold RV at h ⊢
   refine ⟨h.1,h.2.1,fun I hI' => ?_⟩
   obtain ⟨h1,_,h3,h4⟩:=ho q I h.1 e hI'
   rw [h3]
   exact AW.mono (fun k hk=>hk.imp (fun hk=>(hb k hk).1) id) (fun k hk=>hk.elim (fun hk=>(hb k hk).2) (h4 k)) d u (h.2.2 I h1)
 | .br d,u,h=>by unfold AV.unsp;unfold RV at h ⊢; exact AW.mono (fun k hk=>(hb k hk).1) (fun k hk=>(hb k hk).2) d u h
 | .bx b off,u,h=>by unfold AV.unsp;unfold RV at h ⊢; exact ⟨h.1,by rw [hβ b h.1];exact h.2⟩
 | .eb d k off,u,h=>by
  unfold AV.unsp;unfold RV at h ⊢
  obtain ⟨sz,n,cs,a,o0,len,cap,h1,h2,h3,h4⟩:=h
  exact ⟨sz,n,cs,a,o0,len,cap,h1,h2,AW.mono (fun k hk=>(hb k hk).1) (fun k hk=>(hb k hk).2) _ _ h3,h4⟩
 | .eo q k off,u,h=>by
  unfold AV.unsp;unfold RV at h ⊢
  refine ⟨h.1,h.2.1,fun I hI' => ?_⟩
  by_cases e:q=o
  ·subst e
   obtain ⟨I2,sz,n,cs,cs',h2,h3,h4⟩:=hI I hI'
   obtain ⟨sz2,n2,cs2,a,o0,len,cap,h5,h6,h7,h8⟩:=h.2.2 I2 h2
   rw [h3] at h5
   injection h5 with e1 e2 e3
   subst e1 e2 e3
   exact ⟨sz,n,cs',a,o0,len,cap,h4,by rw [hr];exact h6,h7,h8⟩
  ·obtain ⟨h1,h2,_⟩:=ho q I h.1 e hI'
   rw [h2];exact h.2.2 I h1
 | .fn f cap,u,h=>by
  unfold AV.unsp;unfold RV at h ⊢
  obtain ⟨us,e,h⟩:=h
  exact ⟨us,e,RVs.unsp hb hβ ho hr hI cap us h⟩
 | .ag cs,u,h=>by
  unfold AV.unsp;unfold RV at h ⊢
  obtain ⟨us,e,h⟩:=h
  exact ⟨us,e,RVs.unsp hb hβ ho hr hI cs us h⟩
 | .tu cs,u,h=>by
  unfold AV.unsp;unfold RV at h ⊢
  obtain ⟨us,e,h⟩:=h
  exact ⟨us,e,RVs.unsp hb hβ ho hr hI cs us h⟩
 | .rp cs,u,h=>by
  unfold AV.unsp;unfold RV at h ⊢
  obtain ⟨g,us,T,e,hg,hB,h⟩:=h
  exact ⟨g,us,T,e,(hb g hg).1,by unfold Blk at hB ⊢; rw [(hb g hg).2];exact hB,RVs.unsp hb hβ ho hr hI cs us h⟩
 | .un,u,h=>by unfold AV.unsp;unfold RV;trivial
theorem RVs.unsp {nx o:Nat} {G G':Gh} {w w':World} {owf owf':Nat→Option Cb} (hb:∀ k,G.Z k→G'.Z k∧w'.heap[k]? = w.heap[k]?) (hβ:∀ b,b<nx→G'.β b=G.β b)
  (ho:∀ q I,q<nx→q≠o→owf' q=some I→owf q=some I∧G'.root q=G.root q∧G'.B q=G.B q∧∀ k ∈ G.B q,w'.heap[k]? = w.heap[k]?)
  (hr:G'.root o=G.root o) (hI:∀ I',owf' o=some I'→∃ I sz n cs cs',owf o=some I∧I.d = .rows sz n cs∧I'.d = .rows sz n cs'):∀ (v:List AV) (u:List Value),RVs G w owf nx v u→RVs G' w' owf' nx (AV.unsps o v) u
 | [],u,h=>by unfold AV.unsps;unfold RVs at h ⊢; exact h
 | a :: l,u,h=>by
  unfold AV.unsps;unfold RVs at h ⊢
  obtain ⟨x,r,e,h1,h2⟩:=h
  exact ⟨x,r,e,RV.unsp hb hβ ho hr hI a x h1,RVs.unsp hb hβ ho hr hI l r h2⟩
end
theorem IH {nx:Nat} {G:Gh} {w w':World} {owf:Nat→Option Cb}:∀ {as':List AV} {us:List Value} {ds:List D},RVs G w owf nx as' us→Ed as'=some ds→Ao w' ds us []∧us.length=ds.length
 | [],us,ds,h,hd=>by
  unfold RVs at h;subst h
  unfold Ed at hd;injection hd with hd;subst hd
  exact ⟨by unfold Ao;exact ⟨rfl,rfl⟩,rfl⟩
 | a :: r,us,ds,h,hd=>by
  unfold RVs at h
  obtain ⟨u,q,rfl,h1,h2⟩:=h
  unfold Ed at hd
  split at hd
  ·rename_i d ds' e1 e2
   injection hd with hd;subst hd
   obtain ⟨h3,h4⟩:=IH (w':=w') h2 e2
   refine ⟨?_,by simp [h4]⟩
   unfold Ao
   refine ⟨u,q,[],[],rfl,rfl, ?_,h3⟩
   cases a <;> simp only [MH] at e1 <;> first | (cases e1;done) | skip
   all_goals (injection e1 with e1;subst e1;unfold RV at h1;unfold Ch;exact ⟨h1,rfl⟩)
  ·cases hd
theorem Ao.set {w:World} {d:D} {u:Value} (hd:Ch w d u []):∀ (cs:List D) (vs:List Value) (fp:List Nat) (i:Nat),Ao w cs vs fp→∃ fp',Ao w (cs.set i d) (vs.set i u) fp'∧fp'.Sublist fp
 | [],vs,fp,i,h=>by
  unfold Ao at h
  obtain ⟨rfl,rfl⟩:=h
  exact ⟨[],by unfold Ao;exact ⟨rfl,rfl⟩,.refl _⟩
 | c :: cs,vs,fp,0,h=>by
  unfold Ao at h
  obtain ⟨v,r,f1,f2,rfl,rfl,h1,h2⟩:=h
  refine ⟨f2, ?_,List.sublist_append_right _ _⟩
  simp only [List.set_cons_zero]
  unfold Ao
  exact ⟨u,r,[],f2,rfl,rfl,hd,h2⟩
 | c :: cs,vs,fp,i+1,h=>by
  unfold Ao at h
  obtain ⟨v,r,f1,f2,rfl,rfl,h1,h2⟩:=h
  obtain ⟨f3,h3,h4⟩:=Ao.set hd cs r f2 i h2
  refine ⟨f1++f3, ?_,List.Sublist.append (.refl _) h4⟩
  simp only [List.set_cons_succ]
  unfold Ao
  exact ⟨v,_,f1,f3,rfl,rfl,h1,h3⟩
theorem Ao.setRow {w:World}:∀ (ds:List D) (us:List Value) (cs:List D) (vs:List Value) (fp:List Nat) (i:Nat),Ao w ds us []→Ao w cs vs fp→∃ fp',Ao w (Aw cs i ds) (Aw vs i us) fp'∧fp'.Sublist fp
 | [],us,cs,vs,fp,i,hd,h=>by
  unfold Ao at hd
  obtain ⟨rfl,_⟩:=hd
  exact ⟨fp,h,.refl _⟩
 | d :: ds,us,cs,vs,fp,i,hd,h=>by
  unfold Ao at hd
  obtain ⟨u,r,f1,f2,rfl,e,h1,h2⟩:=hd
  obtain ⟨rfl,rfl⟩:=List.append_eq_nil_iff.1 e.symm
  obtain ⟨f3,h3,h4⟩:=Ao.set h1 cs vs fp i h
  obtain ⟨f4,h5,h6⟩:=Ao.setRow ds r _ _ f3 (i+1) h2 h3
  exact ⟨f4,h5,h6.trans h4⟩
theorem An.set {w:World} {S:Nat→Prop} {d:D} {u:Value} (hd:AW w S d u):∀ (cs:List D) (vs:List Value) (i:Nat),An w S cs vs→An w S (cs.set i d) (vs.set i u)
 | [],vs,i,h=>by unfold An at h;subst h;simp;unfold An;rfl
 | c :: cs,vs,0,h=>by
  unfold An at h
  obtain ⟨v,r,rfl,h1,h2⟩:=h
  simp only [List.set_cons_zero];unfold An
  exact ⟨u,r,rfl,hd,h2⟩
 | c :: cs,vs,i+1,h=>by
  unfold An at h
  obtain ⟨v,r,rfl,h1,h2⟩:=h
  simp only [List.set_cons_succ];unfold An
  exact ⟨v,_,rfl,h1,An.set hd cs r i h2⟩
theorem An.setRow {w:World} {S:Nat→Prop}:∀ (ds:List D) (us:List Value) (cs:List D) (vs:List Value) (i:Nat),An w S ds us→An w S cs vs→An w S (Aw cs i ds) (Aw vs i us)
 | [],us,cs,vs,i,hd,h=>by unfold An at hd;subst hd;exact h
 | d :: ds,us,cs,vs,i,hd,h=>by
  unfold An at hd
  obtain ⟨u,r,rfl,h1,h2⟩:=hd
  exact An.setRow ds r _ _ (i+1) h2 (An.set h1 cs vs i h)
theorem Rel.setO {w0:Aq} {G:Gh} {s:AS} {a:Act} {w w':World} (h:Rel w0 G s a w) {o:Nat} {I I':Cb} {B':List Nat} (ho:s.owf o=some I) (hR:Res w0 G.Z w' B' (G.root o) I') (hsub:∀ k ∈ B',k ∈ G.B o)
  (hI:∃ sz n cs cs',I.d = .rows sz n cs∧I'.d = .rows sz n cs') (hch:La (Cm (G.root o)) w w') (hrow:∀ k ∈ Cm (G.root o),k ∈ G.B o∧(w0.heap.size≤k∨w0.wr k)):Rel w0 { G with B:=upd G.B o B' } (s.setO o I') a w':=by
 obtain ⟨sz,n,cs,cs',hI1,hI2⟩:=hI
 have hbs:=h.bel.size
 have hk:∀ k,k<w.heap.size→k ∉ Cm (G.root o)→w'.heap[k]? = w.heap[k]? := fun k hk hne=>hch.block k hk hne
 have hbase:∀ k,G.Z k→w'.heap[k]? = w.heap[k]? := fun k hk'=>hk k (h.zl k hk') fun e=>((h.own o I ho).2.1.1 k (hrow k e).1).1.1 hk'
 have howf:∀ q J,(s.setO o I').owf q=some J→(q=o∧J=I')∨(q≠o∧s.owf q=some J):=fun q J hq=>by
  unfold AS.setO AS.owf at hq
  simp only [Az] at hq
  split at hq
  ·rename_i e;injection hq with hq;exact .inl ⟨e,hq.symm⟩
  ·rename_i e;exact .inr ⟨e,hq⟩
 have hBo:∀ q J,s.owf q=some J→q≠o→∀ k ∈ G.B q,w'.heap[k]? = w.heap[k]? := fun q J hq hne k hkq =>
  hk k ((h.own q J hq).2.1.1 k hkq).2 fun e=>h.dis q o J I hq ho hne k hkq (hrow k e).1
 have hturn:∀ q J,q<s.nx→q≠o→(s.setO o I').owf q=some J→s.owf q=some J∧G.root q=G.root q∧upd G.B o B' q=G.B q∧∀ k ∈ G.B q,w'.heap[k]? = w.heap[k]? := fun q J _ hne hq=>by
  rcases howf q J hq with ⟨e,_⟩ | ⟨_,hq⟩
  ·exact absurd e hne
  ·exact ⟨hq,rfl,AQ _ _ hne,hBo q J hq hne⟩
 have hIo:∀ J,(s.setO o I').owf o=some J→∃ I sz n cs cs',s.owf o=some I∧I.d = .rows sz n cs∧J.d = .rows sz n cs':=fun J hJ=>by
  rcases howf o J hJ with ⟨_,e⟩ | ⟨e,_⟩
  ·exact ⟨I,sz,n,cs,cs',ho,hI1,by rw [e];exact hI2⟩
  ·exact absurd rfl e
 refine ⟨h.nt,h.df,fun t x ht => ?_,fun b cs2 hb => ?_,fun b b' c1 c2 hb hb' e => ?_,fun q J hq => ?_,fun q q' J J' hq hq' hne => ?_, ?_,fun k hk=>Nat.lt_of_lt_of_le (h.zl k hk) hch.size,h.pb,h.zz⟩
 ·obtain ⟨x',hx,rfl⟩:=Js ht
  obtain ⟨u,hu,hr⟩:=h.tm t x' hx
  exact ⟨u,hu,RV.unsp (G:=G) (G':={ G with B:=upd G.B o B' }) (w:=w) (w':=w') (owf:=s.owf) (fun k hk=>⟨hk,hbase k hk⟩) (fun _ _=>rfl) hturn rfl hIo x' u hr⟩
 ·obtain ⟨x',hx,rfl⟩:=DE hb
  obtain ⟨h1,h2,us,T,h3,h4⟩:=h.bx b x' hx
  refine ⟨h1,h2,us,T, ?_,RVs.unsp (G:=G) (G':={ G with B:=upd G.B o B' }) (w:=w) (w':=w') (owf:=s.owf) (fun k hk=>⟨hk,hbase k hk⟩) (fun _ _=>rfl) hturn rfl hIo x' us h4⟩
  exact (hk _ h3.lt fun e=>(h.own o I ho).2.2 b x' hx (hrow _ e).1).trans h3
 ·obtain ⟨x1,hx1,_⟩:=DE hb
  obtain ⟨x2,hx2,_⟩:=DE hb'
  exact h.inj b b' x1 x2 hx1 hx2 e
 ·rcases howf q J hq with ⟨rfl,rfl⟩ | ⟨hne,hq⟩
  ·refine ⟨(h.own q I ho).1,by simp only [Bu];exact hR,fun b cs2 hb => ?_⟩
   simp only [Bu]
   obtain ⟨x',hx,_⟩:=DE hb
   exact fun hk'=>(h.own q I ho).2.2 b x' hx (hsub _ hk')
  ·obtain ⟨h1,h2,h3⟩:=h.own q J hq
   refine ⟨h1,by simp only [AQ _ _ hne];exact h2.keep hch.size hbase (hBo q J hq hne),fun b cs2 hb => ?_⟩
   simp only [AQ _ _ hne]
   obtain ⟨x',hx,_⟩:=DE hb
   exact h3 b x' hx
 ·have hin:∀ q J,(s.setO o I').owf q=some J→∃ J2,s.owf q=some J2∧∀ k ∈ upd G.B o B' q,k ∈ G.B q:=fun q J hq=>by
   rcases howf q J hq with ⟨rfl,_⟩ | ⟨hne,hq⟩
   ·exact ⟨I,ho,by simp only [Bu];exact hsub⟩
   ·exact ⟨J,hq,by simp only [AQ _ _ hne];exact fun _ h=>h⟩
  obtain ⟨J1,h1,h2⟩:=hin q J hq
  obtain ⟨J2,h3,h4⟩:=hin q' J' hq'
  exact fun k hk1 hk2=>h.dis q q' J1 J2 h1 h3 hne k (h2 k hk1) (h4 k hk2)
 ·exact ⟨hch.os.trans h.bel.os,hch.tape.trans h.bel.tape,hch.output.trans h.bel.output,Nat.le_trans hbs hch.size,fun k hk1 hk2=>(hk k (Nat.lt_of_lt_of_le hk1 hbs) fun e=>(hrow k e).2.elim (by omega) hk2).trans (h.bel.block k hk1 hk2)⟩
theorem Hg {α:Type}:∀ (us l:List α) (i n:Nat),(Aw l i us).take n=Aw (l.take n) i us
 | [],l,i,n=>rfl
 | u :: us,l,i,n=>by
  rw [Aw,Aw,Hg us (l.set i u) (i+1) n,List.take_set]
theorem He {α:Type}:∀ (us l:List α) (i n:Nat),(Aw l (n+i) us).drop n=Aw (l.drop n) i us
 | [],l,i,n=>rfl
 | u :: us,l,i,n=>by
  rw [Aw,Aw,Nat.add_assoc,He us (l.set (n+i) u) (i+1) n,List.drop_set]
  rw [if_neg (by omega),Nat.add_sub_cancel_left]
theorem PB {P:Program} {w:World} {t T:TypeId} {m:Nat} (ht:Ck P t=some m) {g off:Nat} {us:List Value} {z:Value} (hB:Blk w g T us.toArray) (hz:z.cells.toList.length=m) (hl:off+m≤us.length) (ho:∀ v ∈ z.cells.toList,v.oneCell'=true) :
  ∃ w',(Instr.storeAt t (.pointer (some ⟨g,off,none⟩)) z).run P w = .ok () w'∧Blk w' g T (Aw us off z.cells.toList).toArray∧La [g] w w':=by
 obtain ⟨w',h6,h7,h8⟩:=Ea (P:=P) (T:=T) (g:=g) (off:=off) z.cells.toList 0 us w hB (by omega) ho
 refine ⟨w', ?_,h7,h8⟩
 unfold Instr.storeAt Instr.sureAddr storeVar
 unfold Ck at ht
 cases hi:P.info? t with
 | none=>rw [hi] at ht;cases ht
 | some i =>
  rw [hi] at ht
  injection ht with ht
  have hsz:z.cells.size=i.size:=by simpa [ht] using hz
  simp only [Sem.run_bind,Sem.run_pure,Result.andThen_ok,sizeOf,typeInfo,program,Sem.run,hi,hsz,ne_eq,not_true,if_false]
  exact h6
theorem Sk {P:Program} {w0:Aq} {G:Gh} {s:AS} {a:Act} {w:World} (h:Rel w0 G s a w) {t:TypeId} {x y:AV} {u z:Value} (hx:RV G w s.owf s.nx x u) (hy:RV G w s.owf s.nx y z) {K:AS→Prop} (hk:Ip P s t x y K) :
  ∃ s' w' G',K s'∧(Instr.storeAt t u z).run P w = .ok () w'∧Rel w0 G' s' a w':=by
 cases x <;> simp only [Ip] at hk <;> first | exact hk.elim | skip
 case eo o kk off =>
  split at hk
  ·rename_i sz n cs T dp m ds hI ht hd
   obtain ⟨⟨h1,h2⟩,hk⟩:=hk
   obtain ⟨h01,⟨hB,hrep,hdeep,hap⟩,hbx⟩:=h.own o _ hI
   obtain ⟨sz2,n2,cs2,vs,e1,hrow,h3,h4,h5,h6⟩:=hap T rfl
   simp only [D.rows.injEq] at e1
   obtain ⟨rfl,rfl,rfl⟩:=e1
   unfold RV at hx
   obtain ⟨sz3,n3,cs3,a',o0,len,cap,e2,e3,rfl,hkn⟩:=hx.2.2 _ hI
   simp only [D.rows.injEq] at e2
   obtain ⟨rfl,rfl,rfl⟩:=e2
   rw [hI] at hd
   have hf:FI y.cells=some ds:=by
    cases dp with
    | false=>exact hd
    | true=>exact Of hd
   have hyc:RVs G w s.owf s.nx y.cells z.cells.toList∧∀ x ∈ z.cells,x.oneCell'=true:=HH hy (by
    have:=(JL hf).1
    cases y <;> simp only [AV.cells] at this <;> first | exact this | (simp only [List.all_cons,List.all_nil,Bool.and_true] at this;exact this) | (simp [AV.one] at this))
   obtain ⟨h7,h8⟩:=hyc
   have h10:z.cells.toList.length=ds.length:=by rw [RVs.len _ _ h7,(JL hf).2]
   obtain ⟨hvl,hrr⟩:=hrow
   rcases hrr with ⟨_,e4,e5⟩ | ⟨g,o1,cap2,cur,e4,hh,hnc,hcm,hcs,htk⟩
   ·omega
   ·rw [e3] at e4
    simp only [Value.slice.injEq,Option.some.injEq,Addr.mk.injEq] at e4
    obtain ⟨⟨e5,e6,_⟩,e7,e8⟩:=e4
    subst e5 e6 e7 e8
    have hvr:Cm (G.root o)=[a']:=by rw [e3];rfl
    have hlen:o0+kk * sz+off+m≤cur.toList.length:=by
     have:(kk+1) * sz≤len * sz:=Nat.mul_le_mul_right _ hkn
     have h12:len * sz≤(cap2+1) * sz:=Nat.mul_le_mul_right _ hnc
     have:(kk+1) * sz=kk * sz+sz:=Nat.succ_mul _ _
     simp only [Array.length_toList]
     omega
    obtain ⟨w',hw1,hw2,hw3⟩:=PB (P:=P) ht (g:=a') (off:=o0+kk * sz+off) (us:=cur.toList) (T:=T) (z:=z) (by unfold Blk;simpa using hh) (by rw [h10,h1]) (by omega) (fun v hv=>h8 v (by simpa using hv))
    have hwkeep:∀ k,k<w.heap.size→k≠a'→w'.heap[k]? = w.heap[k]? := fun k hk hne=>hw3.block k hk (by simpa using hne)
    have hin:a' ∈ G.B o∧(w0.heap.size≤a'∨w0.wr a'):=h4 a' (by rw [hvr];simp)
    have htk':List.take (len * sz) ((Aw cur.toList (o0+kk * sz+off) z.cells.toList).drop o0)=Aw vs (kk * sz+off) z.cells.toList:=by rw [Nat.add_assoc,He,Hg,htk]
    have hrow':Jq w' T sz (G.root o) len (Aw vs (kk * sz+off) z.cells.toList):=by
     refine ⟨by rw [Eu,hvl],.inr ⟨a',o0,cap2,_,e3,hw2,hnc,hcm, ?_,by simpa using htk'⟩⟩
     simp only [List.size_toArray,Eu,Array.length_toList];exact hcs
    have hones:∀ u ∈ Aw vs (kk * sz+off) z.cells.toList,u.oneCell'=true:=by
     have key:∀ (us l:List Value) (i:Nat),(∀ u ∈ us,u.oneCell'=true)→(∀ u ∈ l,u.oneCell'=true)→∀ u ∈ Aw l i us,u.oneCell'=true:=by
      intro us
      induction us with
      | nil=>intro l i _ hl u hu;exact hl u hu
      | cons c us ih =>
       intro l i hc hl u hu
       refine ih (l.set i c) (i+1) (fun u hu=>hc u (by simp [hu])) (fun u hu => ?_) u hu
       rcases List.mem_or_eq_of_mem_set hu with hu | rfl
       ·exact hl u hu
       ·exact hc _ (by simp)
     exact key _ _ _ (fun u hu=>h8 u (by simpa using hu)) h5
    have hrepD:An w' (fun k=>G.Z k∨(k ∈ G.B o∧k ∉ Cm (G.root o))) ds z.cells.toList:=An.mono (fun k hk => .inl hk) (fun _ _=>rfl) _ _ (MY (w':=w') (fun k hk=>hwkeep k (h.zl k hk) fun e=>((hB _ hin.1).1.1 (e ▸ hk))) h7 hf)
    have hrep':An w' (fun k=>G.Z k∨(k ∈ G.B o∧k ∉ Cm (G.root o))) (Aw cs (kk * sz+off) ds) (Aw vs (kk * sz+off) z.cells.toList):=by
     refine An.setRow _ _ _ _ _ hrepD (An.mono (fun _ h=>h) (fun k hk => ?_) _ _ h3)
     rcases hk with hk | ⟨hk,hk2⟩
     ·exact hwkeep k (h.zl k hk) fun e=>((hB _ hin.1).1.1 (e ▸ hk))
     ·exact hwkeep k (hB k hk).2 fun e=>hk2 (by rw [hvr,e];simp)
    cases hdp:dp with
    | false =>
     refine ⟨_,w',_,hk,hw1,h.setO (B':=G.B o) hI ?_ (fun _ h=>h) ⟨sz,len,cs,_,rfl,rfl⟩ (by rw [hvr];exact hw3) h4⟩
     refine ⟨fun k hk=>⟨(hB k hk).1,Nat.lt_of_lt_of_le (hB k hk).2 hw3.size⟩,GK hrow' (An.mono (fun k hk=>hk.imp id And.left) (fun _ _=>rfl) _ _ hrep') (fun k hk => .inr (h4 k hk).1),fun e=>by simp [hdp] at e,fun T' hT => ?_⟩
     simp only [Option.some.injEq] at hT
     subst hT
     exact ⟨sz,len,_,_,rfl,hrow',hrep',h4,hones,fun e=>by simp [hdp] at e⟩
    | true =>
     subst hdp
     obtain ⟨h9,_⟩:=IH (w':=w) h7 hd
     obtain ⟨fp,q1,q2,q3⟩:=h6 rfl
     obtain ⟨fp',q4,q5⟩:=Ao.setRow ds z.cells.toList cs vs fp (kk * sz+off) h9 q1
     have hfpB:∀ k ∈ fp',k ∈ G.B o∧k ∉ Cm (G.root o):=fun k hk=>q3 k (q5.subset hk)
     have q6:Ao w' (Aw cs (kk * sz+off) ds) (Aw vs (kk * sz+off) z.cells.toList) fp':=Ao.keep hw3.size _ _ _ (fun k hk=>hwkeep k (hB k (hfpB k hk).1).2 fun e=>(hfpB k hk).2 (by rw [hvr,e];simp)) q4
     have hmem:∀ k ∈ Cm (G.root o)++fp',k ∈ G.B o:=fun k hk=>by
      rcases List.mem_append.1 hk with hk | hk
      ·exact (h4 k hk).1
      ·exact (hfpB k hk).1
     refine ⟨_,w',_,hk,hw1,h.setO (B':=Cm (G.root o)++fp') hI ?_ hmem ⟨sz,len,cs,_,rfl,rfl⟩ (by rw [hvr];exact hw3) h4⟩
     refine ⟨fun k hk=>⟨(hB k (hmem k hk)).1,Nat.lt_of_lt_of_le (hB k (hmem k hk)).2 hw3.size⟩,GK hrow' (Ao.p _ _ _ q6 (fun k hk => .inr (List.mem_append.2 (.inr hk)))) (fun k hk => .inr (List.mem_append.2 (.inl hk))),fun _=>⟨Kx hrow' q6, ?_⟩,fun T' hT => ?_⟩
     ·exact List.nodup_append.2 ⟨by rw [hvr];simp,q5.nodup q2,fun k hk k' hk' e=>(hfpB k' hk').2 (e ▸ hk)⟩
     ·simp only [Option.some.injEq] at hT
      subst hT
      exact ⟨sz,len,_,_,rfl,hrow',Ao.p _ _ _ q6 (fun k hk => .inr ⟨List.mem_append.2 (.inr hk),(hfpB k hk).2⟩),fun k hk=>⟨List.mem_append.2 (.inl hk),(h4 k hk).2⟩,hones,fun _=>⟨fp',q6,q5.nodup q2,fun k hk=>⟨List.mem_append.2 (.inr hk),(hfpB k hk).2⟩⟩⟩
  ·exact hk.elim
 rename_i b off
 split at hk
 ·rename_i cs n hl ht
  obtain ⟨⟨h1,h2,h3⟩,hk⟩:=hk
  obtain ⟨_,hbb,us,T,hB,hr⟩:=h.bx b cs hl
  unfold RV at hx
  obtain ⟨_,rfl⟩:=hx
  obtain ⟨h4,h5⟩:=HH hy h1
  have hzl:z.cells.toList.length=n:=by rw [RVs.len _ _ h4,h2]
  obtain ⟨w',h6,h7,h8⟩:=Ea (P:=P) (T:=T) (g:=G.β b) (off:=off) z.cells.toList 0 us w hB (by rw [RVs.len _ _ hr];omega) (fun v hv=>h5 v (by simpa using hv))
  refine ⟨_,w',G,hk, ?_,h.setb hl (RVs.setRow _ _ _ _ off hr h4) h7 h8⟩
  unfold Instr.storeAt Instr.sureAddr storeVar
  unfold Ck at ht
  cases hi:P.info? t with
  | none=>rw [hi] at ht;cases ht
  | some i =>
   rw [hi] at ht
   injection ht with ht
   have hsz:z.cells.size=i.size:=by simpa [ht] using hzl
   simp only [Sem.run_bind,Sem.run_pure,Result.andThen_ok,sizeOf,typeInfo,program,Sem.run,hi,hsz,ne_eq,not_true,if_false]
   exact h6
 ·exact hk.elim
def TW (k:Nat) (ds:List D):List D:=(List.replicate k ds).flatten
def Sr (P:Program) (s:AS) (t:TypeId) (x y:AV) (K:AV→AS→Prop):Prop :=
 match Hs P t,x,y with
 | some (T,sz,bytes),.i n,.i m=>match (CE P T).bind Ed with
  | some ds=>(n=m∧(0≤n∧n≤1000000)∧bytes≤1000)∧K (.sl s.nx) (s.mk' [] ⟨.rows sz n.toNat (TW n.toNat ds),some T,true⟩)
  | none=>False
 | _,_,_=>False
theorem Rt (z:Array Value) (n:Nat):(madeCells z (n * z.size)).toList=(List.replicate n z.toList).flatten:=by
 induction n with
 | zero=>simp [madeCells]
 | succ n ih =>
  have e:(madeCells z ((n+1) * z.size)).toList=(madeCells z (n * z.size)).toList++z.toList:=by
   simp only [madeCells,Array.toList_map,Array.toList_range,Nat.succ_mul,List.range_add,List.map_append,List.map_map]
   congr 1
   apply List.ext_getElem?
   intro j
   by_cases hj:j<z.size
   ·have h1:(n * z.size+j) % z.size=j:=by rw [Nat.mul_comm,Nat.mul_add_mod];exact Nat.mod_eq_of_lt hj
    simp [hj,h1]
   ·simp [hj]
  rw [e,ih,List.replicate_succ',List.flatten_append];simp
theorem RR {w:World} {ds:List D} {vs:List Value} (h:Ao w ds vs []):∀ n,Ao w (TW n ds) ((List.replicate n vs).flatten) []
 | 0=>by unfold TW;simp only [List.replicate_zero,List.flatten_nil];unfold Ao;exact ⟨rfl,rfl⟩
 | n+1=>by
  have h2:=RR h n
  unfold TW at h2 ⊢
  rw [List.replicate_succ,List.replicate_succ,List.flatten_cons,List.flatten_cons]
  have h3:=Ao.append _ _ _ _ _ _ h h2
  simpa using h3
theorem Vf (n:Nat) (ds:List D):(TW n ds).length=n * ds.length:=by
 induction n with
 | zero=>simp [TW]
 | succ n ih =>
  unfold TW at ih ⊢
  rw [List.replicate_succ,List.flatten_cons,List.length_append,ih,Nat.succ_mul];omega
theorem Vj {P:Program} {w0:Aq} {G:Gh} {s:AS} {a:Act} {w:World} (h:Rel w0 G s a w) {t:TypeId} {x y:AV} {u z:Value} (hx:RV G w s.owf s.nx x u) (hy:RV G w s.owf s.nx y z) {K:AV→AS→Prop} (hk:Sr P s t x y K) :
  ∃ av v s' G' w',K av s'∧(Instr.makeSlice t u z).run P w = .ok v w'∧Below w.heap.size w w'∧Rel w0 G' s' a w'∧RV G' w' s'.owf s'.nx av v:=by
 unfold Sr at hk
 split at hk
 ·rename_i T sz bytes n m ht
  split at hk
  ·rename_i ds hd
   obtain ⟨⟨rfl,⟨hn0,hn1⟩,hb⟩,hk⟩:=hk
   unfold RV at hx hy
   subst hx hy
   obtain ⟨zs,hz,hp⟩:=Option.bind_eq_some_iff.1 hd
   obtain ⟨zv,hz1,hz2⟩:=Hv hz
   obtain ⟨i,z,hu,hi,hzz,hsz,hbs,hzs,hpos⟩:=Sd ht
   have hzv:z=zv:=by rw [hi] at hz1;simpa [hzz] using hz1
   subst hzv
   obtain ⟨k,rfl⟩:∃ k:Nat,n=k:=⟨n.toNat,by omega⟩
   subst hsz
   subst hbs
   simp only [Int.toNat_natCast] at hk
   have hbk:(i.bytes:Int) * (k:Int)≤281474976710656:=by
    have h1:i.bytes * k≤1000 * 1000000:=Nat.mul_le_mul hb (by omega)
    have h2:((i.bytes * k:Nat):Int)≤281474976710656:=by omega
    rwa [Int.natCast_mul] at h2
   have hr:=run_make (P:=P) w t T i z hu hi hzz .i64 .i64 k k (by omega) (Int.le_refl _) hbk (by omega)
   simp only [Int.toNat_natCast] at hr
   have hbs:=h.bel.size
   obtain ⟨W,eW⟩:∃ W,W=w.alloc (.cells (madeCells z.cells (k * i.size)) T):=⟨_,rfl⟩
   rw [← eW] at hr
   have hkk:∀ k',k'<w.heap.size→W.heap[k']? = w.heap[k']? := fun k' hk=>by rw [eW];exact heap_alloc_old w _ hk
   have hsz2:W.heap.size=w.heap.size+1:=by rw [eW];simp
   have hbel:Below w.heap.size w W:=by rw [eW];exact (Below.refl _ _).alloc (Nat.le_refl _) _
   obtain ⟨vs,evs⟩:∃ vs,vs=(List.replicate k z.cells.toList).flatten:=⟨_,rfl⟩
   have hml:(madeCells z.cells (k * i.size)).toList=vs:=by rw [evs,← Rt,hzs]
   have hown0:Ao W ds z.cells.toList []∧_:=IH (w':=W) (hz2 (nx:=s.nx) (G:=G) (w:=w) (owf:=s.owf)) hp
   have hov:Ao W (TW k ds) vs []:=by rw [evs];exact RR hown0.1 k
   have hdl:ds.length=i.size:=by rw [← Ao.len _ _ _ hown0.1,Array.length_toList,hzs]
   have hvl:vs.length=k * i.size:=by rw [← hml];simp [size_madeCells]
   have hkm:k≤maxLen:=by unfold maxLen;omega
   have hrow:Jq W T i.size (.slice (some ⟨w.heap.size,0,none⟩) k k) k vs:=IQ (b:=0) ⟨hvl,.inr ⟨w.heap.size,k,_,rfl,Nat.zero_le _,by rw [eW];exact heap_alloc_new w _,Nat.le_refl _,hkm,by simp [size_madeCells],by rw [hml,← hvl,List.take_length]⟩⟩
   have hrin:∀ k' ∈ Cm (.slice (some ⟨w.heap.size,0,none⟩) k k),k'=w.heap.size:=fun k' hk=>by
    cases k with
    | zero=>simp [Cm] at hk
    | succ n=>simpa [Cm] using hk
   have hblk:Blk W w.heap.size T (madeCells z.cells (k * i.size)):=by rw [eW];exact Blk.new w T _
   have hcells:Ey W w.heap.size 0 vs:=by
    have h9:=hblk
    rw [← Array.toArray_toList (xs:=madeCells z.cells (k * i.size)),hml] at h9
    exact h9.cells
   have hrl:(TW k ds).length=k * i.size:=by rw [Vf,hdl]
   have hR:Res w0 G.Z W [w.heap.size] (.slice (some ⟨w.heap.size,0,none⟩) k k) ⟨.rows i.size k (TW k ds),some T,true⟩:=by
    refine ⟨fun k' hk' => ?_, ?_,fun _=>⟨?_,by simp⟩,fun T' hT => ?_⟩
    ·simp only [List.mem_singleton] at hk'
     subst hk'
     exact ⟨⟨fun hz=>absurd (h.zl _ hz) (by omega),.inl hbs⟩,by omega⟩
    ·unfold AW
     exact ⟨_,_,rfl,Nat.le_refl _,hkm,hrl,.inr ⟨w.heap.size,0,vs,rfl,.inr (by simp),hcells,Ao.p _ _ _ hov (by simp)⟩⟩
    ·unfold Ch
     exact ⟨_,_,rfl,Nat.le_refl _,hkm,hrl,.inr ⟨w.heap.size,0,vs,[],rfl,by omega,rfl,hblk.frozen,hcells,hov⟩⟩
    ·injection hT with hT
     subst hT
     exact ⟨i.size,k,_,vs,rfl,hrow,Ao.p _ _ _ hov (by simp),fun k' hk'=>by have:=hrin k' hk'; subst this;exact ⟨by simp,.inl hbs⟩,fun u hu=>(An.one (S:=fun _=>True) _ _ (Ao.p _ _ _ hov (by simp))) u hu,fun _=>⟨[],hov,by simp,by simp⟩⟩
   obtain ⟨h7,h8⟩:=h.own' (w':=W) (eats:=[]) (h.bel.trans (aA5 hbel)) hbel.size (fun k' hk' _=>hkk k' hk') hR rfl
    (fun b cs' hl hkb=>by
     obtain ⟨_,_,_,_,h3,_⟩:=h.bx b cs' hl
     simp only [List.mem_singleton] at hkb
     have:=h3.lt;omega)
    (fun o I ho hno k' hk' hkb=>by
     simp only [List.mem_singleton] at hkb
     have:=((h.own o I ho).2.1.1 k' hk').2;omega)
   exact ⟨_,_,_,_,_,hk,hr,hbel,h7,h8⟩
  ·exact hk.elim
 ·exact hk.elim
theorem Ao.drop {w:World}:∀ (n:Nat) (cs:List D) (vs:List Value) (fp:List Nat),Ao w cs vs fp→∃ fp',Ao w (cs.drop n) (vs.drop n) fp'∧fp'.Sublist fp
 | 0,cs,vs,fp,h=>⟨fp,by simpa using h,List.Sublist.refl _⟩
 | n+1,[],vs,fp,h=>by
  unfold Ao at h
  obtain ⟨rfl,rfl⟩:=h
  exact ⟨[],by simp only [List.drop_nil];unfold Ao;exact ⟨rfl,rfl⟩,List.Sublist.refl _⟩
 | n+1,d :: cs,vs,fp,h=>by
  unfold Ao at h
  obtain ⟨v,r,f1,f2,rfl,rfl,_,h2⟩:=h
  obtain ⟨fp',h3,h4⟩:=Ao.drop n cs r f2 h2
  exact ⟨fp',by simpa using h3,h4.trans (List.sublist_append_right _ _)⟩
theorem Ao.take {w:World}:∀ (n:Nat) (cs:List D) (vs:List Value) (fp:List Nat),Ao w cs vs fp→∃ fp',Ao w (cs.take n) (vs.take n) fp'∧fp'.Sublist fp
 | 0,cs,vs,fp,h=>⟨[],by simp only [List.take_zero];unfold Ao;exact ⟨rfl,rfl⟩,List.nil_sublist _⟩
 | n+1,[],vs,fp,h=>by
  unfold Ao at h
  obtain ⟨rfl,rfl⟩:=h
  exact ⟨[],by simp only [List.take_nil];unfold Ao;exact ⟨rfl,rfl⟩,List.Sublist.refl _⟩
 | n+1,d :: cs,vs,fp,h=>by
  unfold Ao at h
  obtain ⟨v,r,f1,f2,rfl,rfl,h1,h2⟩:=h
  obtain ⟨fp',h3,h4⟩:=Ao.take n cs r f2 h2
  refine ⟨f1++fp', ?_,h4.append_left f1⟩
  rw [List.take_succ_cons,List.take_succ_cons]
  unfold Ao
  exact ⟨v,_,f1,fp',rfl,rfl,h1,h3⟩
theorem UU {w:World} {T:TypeId} {sz n:Nat} {a:Option Addr} {cap:Nat} {vs:List Value} (h:Jq w T sz (.slice a n cap) n vs) {l h':Nat} (hlh:l≤h') (hn:h'≤n) :
  Jq w T sz (.slice (if cap=l then a else a.map (·.add (l * sz))) (h'-l) (cap-l)) (h'-l) ((vs.drop (l * sz)).take ((h'-l) * sz)) ∧
  ∀ k ∈ Cm (.slice (if cap=l then a else a.map (·.add (l * sz))) (h'-l) (cap-l)),k ∈ Cm (.slice a n cap):=by
 have hl:((vs.drop (l * sz)).take ((h'-l) * sz)).length=(h'-l) * sz:=by
  rw [List.length_take,List.length_drop,h.1]
  have:(h'-l) * sz≤n * sz-l * sz:=by rw [← Nat.mul_sub_right_distrib];exact Nat.mul_le_mul_right _ (by omega)
  omega
 obtain ⟨_,_,e0,hnc0,_⟩:=BW h
 injection e0 with _ _ e0
 subst e0
 by_cases hc:cap=l
 ·have e1:h'-l=0:=by omega
  have e2:cap-l=0:=by omega
  rw [e1] at hl ⊢
  rw [e2]
  refine ⟨⟨hl,.inl ⟨_,rfl,rfl⟩⟩,fun k hk => ?_⟩
  unfold Cm at hk
  split at hk
  ·rename_i e;injection e with _ _ e3;cases e3
  ·cases hk
 ·rw [if_neg hc]
  rcases h.2 with ⟨a',e,e1⟩ | ⟨g,o,c,cur,e,hh,hnc,hcm,hcs,ht⟩
  ·injection e with _ _ e2;omega
  ·injection e with e1 _ e2
   subst e1 e2
   obtain ⟨c',hc'⟩:∃ c',c+1-l=c'+1:=⟨c-l,by omega⟩
   have hle:l * sz+(c'+1) * sz=(c+1) * sz:=by rw [← Nat.add_mul];congr 1;omega
   have ea:(Option.map (fun x:Addr=>x.add (l * sz)) (some ⟨g,o,none⟩))=some ⟨g,o+l * sz,none⟩:=by simp [DC]
   rw [ea,hc']
   refine ⟨⟨hl,.inr ⟨g,o+l * sz,c',cur,rfl,hh,by omega,by omega,by omega, ?_⟩⟩,fun k hk=>by simpa [Cm] using hk⟩
   rw [← ht,List.drop_take,List.take_take,List.drop_drop]
   congr 1
   have:(h'-l) * sz≤n * sz-l * sz:=by rw [← Nat.mul_sub_right_distrib];exact Nat.mul_le_mul_right _ (by omega)
   omega
theorem Uk {P:Program} {nx:Nat} {G:Gh} {W:World} {owf:Nat→Option Cb} {T e:TypeId} {esz n cap:Nat} {a':Option Addr} {lo hi:Option AV} {vl vh:Option Value} {l h':Int} (hnc:n≤cap) (e3:BK P T=some (e,esz))
  (hl:∀ a,lo=some a→∃ v,vl=some v∧RV G W owf nx a v) (hl0:lo=none→vl=none) (hh:∀ a,hi=some a→∃ v,vh=some v∧RV G W owf nx a v) (hh0:hi=none→vh=none) (e1:ixL lo=some l) (e2:ixH n hi=some h') (hb:0≤l∧l≤h'∧h'≤n) (w':World) :
  (Instr.sliceAt T (.slice a' n cap) vl vh none).run P w' = .ok (.slice (if cap=l.toNat then a' else a'.map (·.add (l.toNat * esz))) (h'.toNat-l.toNat) (cap-l.toNat)) w':=by
 unfold BK at e3
 split at e3
 ·rename_i e' hu
  cases hi':P.info? e' with
  | none=>rw [hi'] at e3;cases e3
  | some i =>
   rw [hi'] at e3
   simp only [Option.map_some,Option.some.injEq,Prod.mk.injEq] at e3
   obtain ⟨rfl,rfl⟩:=e3
   unfold Instr.sliceAt
   simp only [Sem.run_bind,Cf hu,Result.andThen_ok]
   unfold Instr.slice
   simp only [Sem.run_bind,Cf hu,Result.andThen_ok,GF (P:=P) (w:=w') hnc hl hl0 hh hh0 e1 e2 hb]
   simp [sizeOf,typeInfo,program,Sem.run_bind,Sem.run,hi',Sem.run_pure]
 ·cases e3
theorem Ww {w0 : Aq} {G : Gh} {s : AS} {a : Act} {w : World} (h : Rel w0 G s a w) {o sz n : Nat} {cs : List D} {T : TypeId} {dp : Bool} (hI : s.owf o = some ⟨.rows sz n cs, some T, dp⟩) {x : AV} {u : Value} (hx : RV G w s.owf s.nx x u) (he : x = .sl o) {l h' : Nat} (hlh : l ≤ h') (hn : h' ≤ n) :
    ∃ a0 cap, u = .slice a0 n cap ∧ n ≤ cap ∧
      ∃ G', Rel w0 G' (s.mk' [o] ⟨Hq (.rows sz n cs) l h', some T, dp⟩) a w ∧ RV G' w (s.mk' [o] ⟨Hq (.rows sz n cs) l h', some T, dp⟩).owf (s.mk' [o] ⟨Hq (.rows sz n cs) l h', some T, dp⟩).nx (.sl s.nx) (.slice (if cap = l then a0 else a0.map (·.add (l * sz))) (h' - l) (cap - l)) := by
  subst he
  unfold RV at hx
  obtain ⟨hlt, ⟨hB, hrep, hdeep, hap⟩, hbxo⟩ := h.own o _ hI
  have hu := hx.2.2 _ hI
  obtain ⟨sz2, n2, cs2, vs, e1, h1, h2, h3, h4, h5⟩ := hap _ rfl
  simp only [D.rows.injEq] at e1
  obtain ⟨rfl, rfl, rfl⟩ := e1
  obtain ⟨a0, cap, ev, hnc, hcm, _⟩ := BW h1
  rw [ev] at h1 hrep h3 h2 h5
  refine ⟨a0, cap, hu.trans ev, hnc, ?_⟩
  obtain ⟨hrow', hsub⟩ := UU h1 hlh hn
  have hrep' := QR hrep hlh hn
  have key : ∃ F : List Nat, (∀ k ∈ F, k ∈ G.B o ∧ k ∉ Cm (.slice a0 n cap)) ∧ An w (fun k => G.Z k ∨ k ∈ F) ((cs.drop (l * sz)).take ((h' - l) * sz)) ((vs.drop (l * sz)).take ((h' - l) * sz)) ∧
      (dp = true → Ao w ((cs.drop (l * sz)).take ((h' - l) * sz)) ((vs.drop (l * sz)).take ((h' - l) * sz)) F ∧ F.Nodup) := by
    cases dp with
    | false =>
      refine ⟨(G.B o).filter (fun k => !decide (k ∈ Cm (.slice a0 n cap))), fun k hk => ?_, ?_, fun e => by cases e⟩
      · simpa [List.mem_filter] using hk
      · exact An.mono (fun k hk => hk.imp id fun hk => by simp [hk.1, hk.2]) (fun _ _ => rfl) _ _ ((h2.drop _).take _)
    | true =>
      obtain ⟨fp, q1, q2, q3⟩ := h5 rfl
      obtain ⟨f1, q4, q5⟩ := Ao.drop (l * sz) _ _ _ q1
      obtain ⟨f2, q6, q7⟩ := Ao.take ((h' - l) * sz) _ _ _ q4
      have q8 := q7.trans q5
      exact ⟨f2, fun k hk => q3 k (q8.subset hk), Ao.p _ _ _ q6 (fun k hk => .inr hk), fun _ => ⟨q6, q8.nodup q2⟩⟩
  obtain ⟨F, hF1, hF2, hF3⟩ := key
  have hmem : ∀ k ∈ Cm (.slice (if cap = l then a0 else a0.map (·.add (l * sz))) (h' - l) (cap - l)) ++ F, k ∈ G.B o := fun k hk => by
    rcases List.mem_append.1 hk with hk | hk
    · exact (h3 k (hsub k hk)).1
    · exact (hF1 k hk).1
  have hnd : (Cm (.slice (if cap = l then a0 else a0.map (·.add (l * sz))) (h' - l) (cap - l))).Nodup := by
    unfold Cm
    split <;> simp
  have hR : Res w0 G.Z w (Cm (.slice (if cap = l then a0 else a0.map (·.add (l * sz))) (h' - l) (cap - l)) ++ F) (.slice (if cap = l then a0 else a0.map (·.add (l * sz))) (h' - l) (cap - l)) ⟨Hq (.rows sz n cs) l h', some T, dp⟩ := by
    refine ⟨fun k hk => hB k (hmem k hk), ?_, fun hd => ?_, fun T' hT => ?_⟩
    · exact GK hrow' (An.mono (fun k hk => hk.imp id fun hk => List.mem_append.2 (.inr hk)) (fun _ _ => rfl) _ _ hF2) (fun k hk => .inr (List.mem_append.2 (.inl hk)))
    · obtain ⟨q1, q2⟩ := hF3 hd
      exact ⟨Kx hrow' q1, List.nodup_append.2 ⟨hnd, q2, fun k hk k' hk' e => (hF1 k' hk').2 (e ▸ hsub k hk)⟩⟩
    · injection hT with hT
      subst hT
      refine ⟨sz, h' - l, _, _, rfl, hrow', An.mono (fun k hk => hk.imp id fun hk => ⟨List.mem_append.2 (.inr hk), fun hk' => (hF1 k hk).2 (hsub k hk')⟩) (fun _ _ => rfl) _ _ hF2, fun k hk => ⟨List.mem_append.2 (.inl hk), (h3 k (hsub k hk)).2⟩, fun u hu => h4 u (List.mem_of_mem_drop (List.mem_of_mem_take hu)), fun hd => ?_⟩
      obtain ⟨q1, q2⟩ := hF3 hd
      exact ⟨F, q1, q2, fun k hk => ⟨List.mem_append.2 (.inr hk), fun hk' => (hF1 k hk).2 (hsub k hk')⟩⟩
  obtain ⟨h7, h8⟩ := h.own' (w' := w) (eats := [o]) h.bel (Nat.le_refl _) (fun _ _ _ => rfl) hR rfl (fun b cs' hl hkb => hbxo b cs' hl (hmem _ hkb))
    (fun o' I' ho' hno k hk hkb => h.dis o' o I' _ ho' hI (fun e => hno (by simp [e])) k hk (hmem k hkb))
  exact ⟨_, h7, h8⟩
attribute [push_cast] mkR CL FZ QD Hf shp Om OY bvA Hi aGx LA JY MH Ed XD FI Qz AS.setO AV.unsp AV.unsps IK Iz apP apC QT iOf EE Up We ixL ixH AS.pt AS.ev AS.box AS.setb AS.mk' AS.owf AS.rd Ur AO cav XV avB avO avF Aw AV.cells AV.whole AV.one cD cDs AB Qx List.headD_cons List.tail_cons eq_self true_or Option.bind Option.getD Option.map Option.isSome List.map List.take List.drop List.length List.getElem?_cons_zero List.getElem?_cons_succ List.getElem?_nil List.set List.flatMap List.foldr List.all List.replicate List.mem_cons List.not_mem_nil List.nodup_cons List.nodup_nil List.nil_append List.cons_append List.append_nil Nat.zero_add Nat.add_zero Nat.mul_zero Nat.zero_mul Nat.one_mul Nat.mul_one ne_eq not_false_eq_true not_true_eq_false true_and and_true false_and and_false or_false or_true false_or Bool.true_and Bool.and_true Bool.false_and Bool.and_false Bool.not_true Bool.not_false Bool.false_eq_true Bool.true_eq_false id_eq Int.toNat_natCast Int.toNat_zero Int.toNat_one Int.natCast_zero Int.le_refl Int.natCast_nonneg decide_true decide_false and_self decide_eq_true_eq decide_eq_false_iff_not Nat.succ_ne_zero Nat.zero_le Nat.le_refl
end Go.Proofs.YtaidalilfmjfgaaGreat
