import Derived.Test.YtaidalilfmjfgaaGreatRows
import Derived.WalkKit
import Derived.WalkLawsBesides
import Derived.Lib.Hide
import Derived.Deep.QuietTactic
import Derived.BigQuiet
namespace Go.Proofs.YtaidalilfmjfgaaGreat
open Go.RowKit
inductive D where
 | int (n:Int)
 | bool (b:Bool)
 | str (s:ByteArray)
 | rows (sz n:Nat) (cs:List D)
 | any
 | byt (n:Int)
def Ey (w:World) (b off:Nat) (vs:List Value):Prop:=∀ i (h:i<vs.length),w.cell? ⟨b,off+i,none⟩=some vs[i]
mutual
def EM (w:World) (S:Nat):D→Value→Prop
 | .int n,v=>v = .int .i64 n
 | .bool b,v=>v = .bool b
 | .str s,v=>v = .string s
 | .any,v=>v.oneCell'=true
 | .byt n,v=>v = .int .u8 n
 | .rows sz n cs,v=>∃ a cap,v = .slice a n cap∧n≤cap∧cap≤maxLen∧cs.length=n * sz∧(n=0∨∃ b off vs,a=some ⟨b,off,none⟩∧b<S∧Ey w b off vs∧Di w S cs vs)
def Di (w:World) (S:Nat):List D→List Value→Prop
 | [],vs=>vs=[]
 | d :: cs,vs=>∃ v r,vs=v :: r∧EM w S d v∧Di w S cs r
end
theorem Ey.keep {w w':World} {b off:Nat} {vs:List Value} (h:Ey w b off vs) (hb:w'.heap[b]? = w.heap[b]?):Ey w' b off vs :=
 fun i hi=>(World.cell?_of_block (w:=w) hb).trans (h i hi)
theorem Di.len {w:World} {S:Nat}:∀ (cs:List D) (vs:List Value),Di w S cs vs→vs.length=cs.length
 | [],vs,h=>by unfold Di at h;subst h;rfl
 | d :: cs,vs,h=>by
  unfold Di at h
  obtain ⟨v,r,rfl,_,h2⟩:=h
  simp [Di.len cs r h2]
theorem Di.get {w:World} {S:Nat}:∀ (cs:List D) (vs:List Value) (i:Nat) (hi:i<cs.length) (hj:i<vs.length),Di w S cs vs→EM w S cs[i] vs[i]
 | d :: cs,vs,0,_,_,h=>by
  unfold Di at h
  obtain ⟨v,r,rfl,h1,_⟩:=h
  exact h1
 | d :: cs,vs,i+1,hi,hj,h=>by
  unfold Di at h
  obtain ⟨v,r,rfl,_,h2⟩:=h
  exact Di.get cs r i (by simpa using hi) (by simpa using hj) h2
theorem EM.slc {w : World} {S sz n : Nat} {cs : List D} {v : Value} (h : EM w S (.rows sz n cs) v) :
    ∃ a cap, v = .slice a n cap ∧ n ≤ cap ∧ cap ≤ maxLen ∧ cs.length = n * sz ∧
      ∀ k, k < n → ∃ b off vs, a = some ⟨b, off, none⟩ ∧ b < S ∧ vs.length = n * sz ∧ Di w S cs vs ∧ Ey w b off vs := by
  unfold EM at h
  obtain ⟨a, cap, h1, h2, h3, h4, h5⟩ := h
  refine ⟨a, cap, h1, h2, h3, h4, fun k hk => ?_⟩
  rcases h5 with h5 | ⟨b, off, vs, ha, hb, hc, hl⟩
  · omega
  · exact ⟨b, off, vs, ha, hb, (hl.len).trans h4, hl, hc⟩
def Bl (ss:List ByteArray):D:=.rows 1 ss.length (ss.map .str)
def aCQ (ns:List Int):D:=.rows 1 ns.length (ns.map .int)
theorem EM.strs {w : World} {S : Nat} {ss : List ByteArray} {v : Value} (h : EM w S (Bl ss) v) :
    ∃ a cap, v = .slice a ss.length cap ∧ ss.length ≤ cap ∧ cap ≤ maxLen ∧
      ∀ k (hk : k < ss.length), ∃ b off, a = some ⟨b, off, none⟩ ∧ b < S ∧ w.cell? ⟨b, off + k, none⟩ = some (.string ss[k]) := by
  obtain ⟨a, cap, h1, h2, h3, h4, h5⟩ := h.slc
  refine ⟨a, cap, h1, h2, h3, fun k hk => ?_⟩
  obtain ⟨b, off, vs, ha, hb, hvl, hr, hc⟩ := h5 k hk
  have := hr.get _ _ k (by simpa using hk) (by omega)
  simp [EM] at this
  exact ⟨b, off, ha, hb, by rw [hc k (by omega), this]⟩
mutual
def Ch (w:World):D→Value→List Nat→Prop
 | .int n,v,fp=>v = .int .i64 n∧fp=[]
 | .bool b,v,fp=>v = .bool b∧fp=[]
 | .str s,v,fp=>v = .string s∧fp=[]
 | .any,v,fp=>v.oneCell'=true∧fp=[]
 | .byt n,v,fp=>v = .int .u8 n∧fp=[]
 | .rows sz n cs,v,fp=>∃ a cap,v = .slice a n cap∧n≤cap∧cap≤maxLen∧cs.length=n * sz ∧
   ((n=0∧fp=[])∨∃ b off vs f,a=some ⟨b,off,none⟩∧b<w.heap.size∧fp=b :: f∧(∀ o,w.frozen? ⟨b,o,none⟩=false)∧Ey w b off vs∧Ao w cs vs f)
def Ao (w:World):List D→List Value→List Nat→Prop
 | [],vs,fp=>vs=[]∧fp=[]
 | d :: cs,vs,fp=>∃ v r f1 f2,vs=v :: r∧fp=f1++f2∧Ch w d v f1∧Ao w cs r f2
end
mutual
theorem Ch.keep {w w':World} (hs:w.heap.size≤w'.heap.size):∀ (d:D) (v:Value) (fp:List Nat),(∀ k ∈ fp,w'.heap[k]? = w.heap[k]?)→Ch w d v fp→Ch w' d v fp
 | .int n,v,fp,_,h=>by unfold Ch at h ⊢; exact h
 | .bool b,v,fp,_,h=>by unfold Ch at h ⊢; exact h
 | .str s,v,fp,_,h=>by unfold Ch at h ⊢; exact h
 | .any,v,fp,_,h=>by unfold Ch at h ⊢; exact h
 | .byt n,v,fp,_,h=>by unfold Ch at h ⊢; exact h
 | .rows sz n cs,v,fp,hk,h=>by
  unfold Ch at h ⊢
  obtain ⟨a,cap,h1,h2,h3,h4,h5⟩:=h
  refine ⟨a,cap,h1,h2,h3,h4, ?_⟩
  rcases h5 with h5 | ⟨b,off,vs,f,ha,hb,hf,hz,hc,hl⟩
  ·exact .inl h5
  ·subst hf
   have hkb:=hk b (by simp)
   exact .inr ⟨b,off,vs,f,ha,by omega,rfl,fun o=>(World.frozen?_of_block (w:=w) hkb).trans (hz o),hc.keep hkb,Ao.keep hs cs vs f (fun k hm=>hk k (by simp [hm])) hl⟩
theorem Ao.keep {w w':World} (hs:w.heap.size≤w'.heap.size):∀ (cs:List D) (vs:List Value) (fp:List Nat),(∀ k ∈ fp,w'.heap[k]? = w.heap[k]?)→Ao w cs vs fp→Ao w' cs vs fp
 | [],vs,fp,_,h=>by unfold Ao at h ⊢; exact h
 | d :: cs,vs,fp,hk,h=>by
  unfold Ao at h ⊢
  obtain ⟨v,r,f1,f2,e1,e2,hv,h2⟩:=h
  subst e2
  exact ⟨v,r,f1,f2,e1,rfl,Ch.keep hs d v f1 (fun k hm=>hk k (by simp [hm])) hv,Ao.keep hs cs r f2 (fun k hm=>hk k (by simp [hm])) h2⟩
end
mutual
theorem Ch.lt {w:World}:∀ (d:D) (v:Value) (fp:List Nat),Ch w d v fp→∀ k ∈ fp,k<w.heap.size
 | .int n,v,fp,h=>by unfold Ch at h;obtain ⟨_,rfl⟩:=h;simp
 | .bool b,v,fp,h=>by unfold Ch at h;obtain ⟨_,rfl⟩:=h;simp
 | .str s,v,fp,h=>by unfold Ch at h;obtain ⟨_,rfl⟩:=h;simp
 | .any,v,fp,h=>by unfold Ch at h;obtain ⟨_,rfl⟩:=h;simp
 | .byt n,v,fp,h=>by unfold Ch at h;obtain ⟨_,rfl⟩:=h;simp
 | .rows sz n cs,v,fp,h=>by
  unfold Ch at h
  obtain ⟨a,cap,h1,h2,h3,h4,h5⟩:=h
  rcases h5 with ⟨_,rfl⟩ | ⟨b,off,vs,f,ha,hb,rfl,hz,hc,hl⟩
  ·simp
  ·intro k hk
   rcases List.mem_cons.1 hk with rfl | hk
   ·exact hb
   ·exact Ao.lt cs vs f hl k hk
theorem Ao.lt {w:World}:∀ (cs:List D) (vs:List Value) (fp:List Nat),Ao w cs vs fp→∀ k ∈ fp,k<w.heap.size
 | [],vs,fp,h=>by unfold Ao at h;obtain ⟨_,rfl⟩:=h;simp
 | d :: cs,vs,fp,h=>by
  unfold Ao at h
  obtain ⟨v,r,f1,f2,e1,rfl,hv,h2⟩:=h
  intro k hk
  rcases List.mem_append.1 hk with hk | hk
  ·exact Ch.lt d v f1 hv k hk
  ·exact Ao.lt cs r f2 h2 k hk
end
def aA3 (w:World) (B:Nat) (d:D) (v:Value):Prop:=∃ fp,Ch w d v fp∧fp.Nodup∧∀ k ∈ fp,B≤k
def Lf (w:World) (B:Nat) (ds:List D) (vs:List Value):Prop:=∃ fp,Ao w ds vs fp∧fp.Nodup∧∀ k ∈ fp,B≤k
structure La (fp:List Nat) (w w':World):Prop where
 os:w'.os=w.os
 tape:w'.tape=w.tape
 output:w'.output=w.output
 size:w.heap.size≤w'.heap.size
 block:∀ k,k<w.heap.size→k ∉ fp→w'.heap[k]? = w.heap[k]?
theorem La.refl (fp:List Nat) (w:World):La fp w w:=⟨rfl,rfl,rfl,Nat.le_refl _,fun _ _ _=>rfl⟩
theorem La.trans {fp:List Nat} {a b c:World} (h:La fp a b) (k:La fp b c):La fp a c :=
 ⟨k.os.trans h.os,k.tape.trans h.tape,k.output.trans h.output,Nat.le_trans h.size k.size,fun i hi hn=>(k.block i (Nat.lt_of_lt_of_le hi h.size) hn).trans (h.block i hi hn)⟩
theorem La.setCell {fp:List Nat} {a w:World} (h:La fp a w) {p:Addr} (hp:p.block ∈ fp) (u:Value):La fp a (w.setCell p u) :=
 h.trans ⟨rfl,rfl,rfl,by simp [World.setCell],fun k _ hn=>Below.heap_setCell _ _ _ _ (fun e=>hn (by rw [e];exact hp))⟩
def Blk (w:World) (g:Nat) (t:TypeId) (cs:Array Value):Prop:=w.heap[g]? = some (.cells cs t (0,0))
section
variable {w w':World} {g:Nat} {t:TypeId} {cs:Array Value}
theorem Blk.lt (h:Blk w g t cs):g<w.heap.size:=by
 rcases Nat.lt_or_ge g w.heap.size with hlt | hge
 ·exact hlt
 ·unfold Blk at h;rw [Array.getElem?_eq_none hge] at h;cases h
theorem Blk.cell (h:Blk w g t cs) (i:Nat):w.cell? ⟨g,i,none⟩=cs[i]? := cell_of_row w g i cs t (0,0) h
theorem Blk.frozen (h:Blk w g t cs) (i:Nat):w.frozen? ⟨g,i,none⟩=false:=by
 unfold Blk at h
 simp [World.frozen?,h]
theorem Blk.new (w:World) (t:TypeId) (cs:Array Value):Blk (w.alloc (.cells cs t)) w.heap.size t cs:=heap_alloc_new w _
theorem Blk.set_ (h:Blk w g t cs) (i:Nat) (u:Value):Blk (w.setCell ⟨g,i,none⟩ u) g t (cs.setIfInBounds i u):=by
 unfold Blk at h ⊢
 simp [World.setCell,Array.getElem?_modify,h]
theorem Blk.below {B:Nat} (h:Blk w g t cs) (hb:Below B w w') (hg:g<B):Blk w' g t cs:=(hb.block g hg).trans h
theorem Blk.cells {vs:List Value} (h:Blk w g t vs.toArray):Ey w g 0 vs:=fun i hi=>by
 rw [h.cell];simp [hi]
end
theorem Ao.append {w:World}:∀ (ds:List D) (vs:List Value) (f:List Nat) (es:List D) (us:List Value) (g:List Nat),Ao w ds vs f→Ao w es us g→Ao w (ds++es) (vs++us) (f++g)
 | [],vs,f,es,us,g,h,h'=>by
  unfold Ao at h
  obtain ⟨rfl,rfl⟩:=h
  exact h'
 | d :: ds,vs,f,es,us,g,h,h'=>by
  unfold Ao at h
  obtain ⟨v,r,f1,f2,rfl,rfl,hv,h2⟩:=h
  rw [List.cons_append,List.cons_append,List.append_assoc]
  unfold Ao
  exact ⟨v,r++us,f1,f2++g,rfl,rfl,hv,Ao.append ds r f2 es us g h2 h'⟩
theorem Lf.one {w:World} {B:Nat} {d:D} {v:Value} (h:aA3 w B d v):Lf w B [d] [v]:=by
 obtain ⟨fp,h,hn,hB⟩:=h
 refine ⟨fp, ?_,hn,hB⟩
 unfold Ao
 exact ⟨v,[],fp,[],rfl,by simp,h,by unfold Ao;exact ⟨rfl,rfl⟩⟩
attribute [push_cast] Bl aCQ
end Go.Proofs.YtaidalilfmjfgaaGreat
