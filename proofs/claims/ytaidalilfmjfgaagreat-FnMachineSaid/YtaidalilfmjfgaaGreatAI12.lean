import Derived.Test.YtaidalilfmjfgaaGreatAI9
namespace Go.Proofs.YtaidalilfmjfgaaGreat
open Go.RowKit
set_option linter.unusedVariables false
set_option linter.unusedSimpArgs false
def aIl:List FuncId:=List.flatten [
 [163],
 [166],
 [164],
 [168],
 [169],
 [83],
 [59],
 [58],
 [154],
 [227],
 [156],
 [158],
 [159],
 [157],
 [155],
 [160],
 [161],
 [77],
 [63],
 [141],
 [62],
 [171],
 [84],
 [79],
 [145],
 [81],
 [222],
 [146],
 [221],
 [144],
 [64],
 [252],
 [253],
 [255],
 [254],
 [273],
 [205],
 [200],
 [129],
 [130],
 [93],
 [92],
 [118],
 [162],
 [80],
 [54],
 [78],
 [280],
 [281],
 [284],
 [287],
 [288],
 [290],
 [289],
 [282],
 [283],
 [271],
 []]
def Hc (o:Oper):Bool :=
 match o.op with
 | .store _ _ _=>true
 | .call c=>match c.callee with | .builtin .append=>true | .value (.func f)=>aIl.contains f | _=>false
 | _=>false
def xO (P:Program) (s:AS) (o:Oper) (K:AS→Prop):Prop :=
 match o.op with
 | .alloc t=>match CE P t with | some zs=>K ((s.box zs).pt o.dst (.bx s.nx 0)) | none=>False
 | .box t x=>(s.ev x).whole=true∧K ((s.box (s.ev x).cells).pt o.dst (.bx s.nx 0))
 | .buildSlice t n ps=>aDM P s t n (ps.toList.map fun q=>(q.1,s.ev q.2)) fun av s'=>K (s'.pt o.dst av)
 | .store t x y=>Ip P s t (s.ev x) (s.ev y) fun s'=>K (s'.pt o.dst .un)
 | .makeSlice t l c=>Sr P s t (s.ev l) (s.ev c) fun av s'=>K (s'.pt o.dst av)
 | .call c=>match c.callee with
  | .builtin .append=>match c.args.toList,c.argTypes.toList with
   | [x,y],[t,t']=>t'=t∧aDn P s t (s.ev x) (s.ev y) fun av s'=>K (s'.pt o.dst av)
   | _,_=>False
  | .value f=>match s.ev f with
   | .fn F cap=>aDB P s F (c.args.toList.map s.ev++cap) fun av s'=>K (s'.pt o.dst av)
   | _=>False
  | _=>xP P s o.op fun av=>K (s.pt o.dst av)
 | _=>xP P s o.op fun av=>K (s.pt o.dst av)
def Aft (w0:Aq) (late:Bool) (w:World) (K:AS→Prop) (a':Act) (w':World):Prop:=(late=false→Below w.heap.size w w')∧∃ G' s',Rel w0 G' s' a' w'∧K s'
theorem Ui {P:Program} {t:TypeId} {z:Value} (h:(P.info? t).bind (·.zero)=some z) (w:World):(Instr.alloc t true (.tuple #[])).run P w = .ok (.pointer (some ⟨w.heap.size,0,none⟩)) (w.alloc (.cells z.cells t)):=by
 unfold Instr.alloc newVar newRow
 simp only [Sem.run_bind,KO h,Result.andThen_ok]
 rfl
theorem Za {P:Program} {w0:Aq} {G:Gh} {s:AS} {a:Act} {w:World} (h:Rel w0 G s a w) {o:Oper} {K:AS→Prop} (hk:xP P s o.op fun av=>K (s.pt o.dst av)) {late:Bool} {Q:Exit→Act→World→Prop}:o.wp P a w (Aft w0 late w K) Q:=by
 obtain ⟨G1,h,hq⟩:=h.flq
 obtain ⟨av,v,h1,h2,h3⟩:=ZL h hq hk
 unfold Oper.wp
 rw [h3 w (Below.refl _ _)]
 exact ⟨fun _=>Below.refl _ _,_,_,h.pt o.dst h2,h1⟩
theorem aBM {P:Program} {w0:Aq} {G:Gh} {s:AS} {a:Act} {w:World} (h:Rel w0 G s a w) {o:Oper} {K:AS→Prop} (hk:xO P s o K) {Q:Exit→Act→World→Prop}:o.wp P a w (Aft w0 (Hc o) w K) Q:=by
 obtain ⟨dst,op,type,pos,after,guard⟩:=o
 have key:∀ op':Op,xP P s op' (fun av=>K (s.pt dst av))→Oper.wp P ⟨dst,op',type,pos,after,guard⟩ a w (Aft w0 (Hc ⟨dst,op',type,pos,after,guard⟩) w K) Q:=fun op' hk=>Za (o:=⟨dst,op',type,pos,after,guard⟩) (K:=K) h hk
 cases op with
 | alloc t =>
  simp only [xO] at hk
  split at hk
  ·rename_i zs hz
   obtain ⟨z,h1,h2⟩:=Hv hz
   obtain ⟨h3,h4⟩:=h.box (us:=z.cells.toList) h2 t
   unfold Oper.wp
   simp only [execOp,Sem.run_bind,Ui h1,Result.andThen_ok,Sem.run_pure]
   exact ⟨fun _=>(Below.refl _ _).alloc (Nat.le_refl _) _,_,_,h3.pt dst h4,hk⟩
  ·exact hk.elim
 | box t x =>
  simp only [xO] at hk
  obtain ⟨h1,hk⟩:=hk
  obtain ⟨h2,_⟩:=HH (h.ev x) h1
  obtain ⟨h3,h4⟩:=h.box h2 t
  unfold Oper.wp
  have hr:(Instr.box t (a.eval x)).run P w = .ok (.pointer (some ⟨w.heap.size,0,none⟩)) (w.alloc (.cells (a.eval x).cells t)):=rfl
  simp only [execOp,Sem.run_bind,hr,Result.andThen_ok,Sem.run_pure]
  exact ⟨fun _=>(Below.refl _ _).alloc (Nat.le_refl _) _,_,_,h3.pt dst h4,hk⟩
 | buildSlice t n ps =>
  simp only [xO] at hk
  obtain ⟨av,v,s',G',w',h1,h2,h3,h4,h5⟩:=aAA (qs:=ps.map fun q=>(q.1,a.eval q.2)) h ⟨by simp,fun j p q hp hq=>by
   simp only [List.getElem?_map,Array.toList_map] at hp hq
   cases hz:ps.toList[j]? with
   | none=>rw [hz] at hp;cases hp
   | some z =>
    rw [hz] at hp hq
    injection hp with hp
    injection hq with hq
    subst hp;subst hq
    exact ⟨rfl,h.ev _⟩⟩ hk
  unfold Oper.wp
  simp only [execOp,Sem.run_bind,h2,Result.andThen_ok,Sem.run_pure]
  exact ⟨fun _=>h3,_,_,h4.pt dst h5,h1⟩
 | makeSlice t l c =>
  simp only [xO] at hk
  obtain ⟨av,v,s',G',w',h1,h2,h3,h4,h5⟩:=Vj h (h.ev l) (h.ev c) hk
  unfold Oper.wp
  simp only [execOp,Sem.run_bind,h2,Result.andThen_ok,Sem.run_pure]
  exact ⟨fun _=>h3,_,_,h4.pt dst h5,h1⟩
 | store t x y =>
  simp only [xO] at hk
  obtain ⟨s',w',G',h1,h2,h3⟩:=Sk h (h.ev x) (h.ev y) hk
  unfold Oper.wp
  simp only [execOp,Sem.run_bind,h2,Result.andThen_ok,Sem.run_pure]
  exact ⟨fun e=>(by cases e),_,_,h3.pt dst (by unfold RV;trivial),h1⟩
 | call c =>
  obtain ⟨callee,args,tys⟩:=c
  cases callee with
  | builtin b =>
   by_cases hb:b = .append
   ·subst hb
    simp only [xO] at hk
    split at hk
    ·rename_i x y t t' e1 e2
     obtain ⟨rfl,hk⟩:=hk
     have ea:args = #[x,y]:=Array.ext' e1
     have et:tys = #[t',t']:=Array.ext' e2
     subst ea;subst et
     obtain ⟨av,v,s',G',w',h1,h2,h3,h4⟩:=aAK (ty:=type) h (h.ev x) (h.ev y) hk
     unfold Oper.wp
     have hr:(execOp a.eval ⟨dst,.call { callee:=.builtin .append,args := #[x,y],argTypes := #[t',t'] },type,pos,after,guard⟩).run P w = .ok (.value v) w':=by
      simp [execOp,resolve,invoke,builtin,Sem.run_bind,Sem.run_pure,h2]
     rw [hr]
     exact ⟨fun e=>(by cases e),_,_,h3.pt dst h4,h1⟩
    ·exact hk.elim
   ·refine Za (o:=⟨dst,.call ⟨.builtin b,args,tys⟩,type,pos,after,guard⟩) (K:=K) h ?_
    cases b <;> first | exact absurd rfl hb | exact hk
  | invoke r m=>exact Za (o:=⟨dst,.call ⟨.invoke r m,args,tys⟩,type,pos,after,guard⟩) (K:=K) h hk
  | value f =>
   simp only [xO] at hk
   have hf:=h.ev f
   cases hv:s.ev f <;> rw [hv] at hk hf <;> simp only at hk <;> first | exact hk.elim | skip
   rename_i F cap
   unfold RV at hf
   obtain ⟨us,hu,hr⟩:=hf
   have hargs:RVs G w s.owf s.nx (args.toList.map s.ev++cap) (args.toList.map a.eval++us):=(h.evs args.toList).append _ _ _ _ hr
   have hc:=UM h hargs hk
   obtain ⟨ps,rs,_,hcon,_⟩:=hk
   obtain ⟨⟨fn,hfn,hbody,hname⟩,_⟩:=hcon
   unfold Oper.wp
   have hrun:(execOp a.eval ⟨dst,.call { callee:=.value f,args:=args,argTypes:=tys },type,pos,after,guard⟩).run P w = .ok (.enter F (args.toList.map a.eval++us).toArray) w:=by
    have e1:((#[]:Array Value)++args.map a.eval)++us.toArray=(args.toList.map a.eval++us).toArray:=by
     apply Array.ext'; simp
    simp only [execOp,resolve,Deferred.ofValue,hu,pure_bind,invoke,e1,callFunc,Sem.run_bind,program,Sem.run,Result.andThen_ok,hfn,hname,hbody,Bool.false_eq_true,if_false,Sem.run_pure]
   rw [hrun]
   refine hc.mono fun e w' ⟨hb,v,av,s',G',he,h1,h2,h3⟩ => ?_
   subst he
   exact ⟨fun _=>hb,_,_,h2.pt dst h3,h1⟩
 | _=>exact key _ hk
def AS.kn (s:AS) (t:Tmp) (b:Bool):AS:={ s with tm:=(t,.b b) :: s.tm }
theorem Rel.kn {w0:Aq} {G:Gh} {s:AS} {a:Act} {w:World} (h:Rel w0 G s a w) {t:Tmp} {b:Bool} (hl:AO s.tm t=some (.b b)):Rel w0 G (s.kn t b) a w:=by
 refine ⟨h.nt,h.df,fun t' v ht => ?_,h.bx,h.inj,h.own,h.dis,h.bel,h.zl,h.pb,h.zz⟩
 unfold AS.kn at ht
 simp only at ht
 rw [Az] at ht
 split at ht
 ·rename_i e
  subst e
  injection ht with ht
  subst ht
  exact h.tm _ _ hl
 ·exact h.tm _ _ ht
theorem FF {o:Oper} (h:o.guard=none) (y:Nat→Option Bool):Region.wanted o y=true:=by simp [Region.wanted,h]
def Lft (w0:Aq) (Q:Exit→AS→Prop):Exit→Act→World→Prop:=fun e a w=>∃ G s,Rel w0 G s a w∧Q e s
def XW (P:Program) (c:Code) (s:AS) (Q:Exit→AS→Prop):Prop:=∀ w0 G a w,Rel w0 G s a w→c.wp P (Lft w0 Q) a w
theorem XW.mono {P:Program} {c:Code} {s:AS} {Q Q':Exit→AS→Prop} (h:XW P c s Q) (hq:∀ e s,Q e s→Q' e s):XW P c s Q':=fun w0 G a w hr =>
 wp_mono (h w0 G a w hr) fun e a' w' ⟨G',s',hr',h'⟩=>⟨G',s',hr',hq e s' h'⟩
mutual
def AV.ren (ρ:Nat→Nat):AV→AV
 | .sl o => .sl (ρ o)
 | .sp o d => .sp (ρ o) d
 | .bx q off => .bx (ρ q) off
 | .eo o k off => .eo (ρ o) k off
 | .fn f cap => .fn f (AV.rens ρ cap)
 | .ag cs => .ag (AV.rens ρ cs)
 | .tu vs => .tu (AV.rens ρ vs)
 | .rp vs => .rp (AV.rens ρ vs)
 | v=>v
def AV.rens (ρ:Nat→Nat):List AV→List AV
 | []=>[]
 | a :: r=>AV.ren ρ a :: AV.rens ρ r
end
mutual
def AV.lt (n:Nat):AV→Prop
 | .sl o=>o<n
 | .sp o _=>o<n
 | .bx q _=>q<n
 | .eo o _ _=>o<n
 | .fn _ cap=>AV.lts n cap
 | .ag cs=>AV.lts n cs
 | .tu vs=>AV.lts n vs
 | .rp vs=>AV.lts n vs
 | _=>True
def AV.lts (n:Nat):List AV→Prop
 | []=>True
 | a :: r=>AV.lt n a∧AV.lts n r
end
mutual
theorem RV.ren {nx nx':Nat} {G:Gh} {w:World} {owf owf':Nat→Option Cb} {ρ:Nat→Nat} (ho:∀ o I,owf' o=some I→owf (ρ o)=some I):∀ (v:AV) (u:Value),v.lt nx'→RV G w owf nx (v.ren ρ) u→RV ⟨fun o=>G.B (ρ o),fun o=>G.root (ρ o),fun b=>G.β (ρ b),G.Z⟩ w owf' nx' v u
 | .i _,u,hl,h=>by unfold AV.ren at h;unfold RV at h ⊢; exact h
 | .b _,u,hl,h=>by unfold AV.ren at h;unfold RV at h ⊢; exact h
 | .s _,u,hl,h=>by unfold AV.ren at h;unfold RV at h ⊢; exact h
 | .y _,u,hl,h=>by unfold AV.ren at h;unfold RV at h ⊢; exact h
 | .nl _,u,hl,h=>by unfold AV.ren at h;unfold RV at h ⊢; exact h
 | .cl _,u,hl,h=>by unfold AV.ren at h;unfold RV at h ⊢; exact h
 | .x _,u,hl,h=>by unfold AV.ren at h;unfold RV at h ⊢; exact h
 | .br _,u,hl,h=>by unfold AV.ren at h;unfold RV at h ⊢; exact h
 | .eb _ _ _,u,hl,h=>by unfold AV.ren at h;unfold RV at h ⊢; exact h
 | .un,u,hl,h=>by unfold RV;trivial
 | .sl o,u,hl,h=>by unfold AV.ren at h;unfold AV.lt at hl;unfold RV at h ⊢; exact ⟨hl,h.2.1,fun I hI=>h.2.2 I (ho o I hI)⟩
 | .sp o d,u,hl,h=>by unfold AV.ren at h;unfold AV.lt at hl;unfold RV at h ⊢; exact ⟨hl,h.2.1,fun I hI=>h.2.2 I (ho o I hI)⟩
 | .bx b off,u,hl,h=>by unfold AV.ren at h;unfold AV.lt at hl;unfold RV at h ⊢; exact ⟨hl,h.2⟩
 | .eo o k off,u,hl,h=>by unfold AV.ren at h;unfold AV.lt at hl;unfold RV at h ⊢; exact ⟨hl,h.2.1,fun I hI=>h.2.2 I (ho o I hI)⟩
 | .fn f cap,u,hl,h=>by
  unfold AV.ren at h;unfold AV.lt at hl;unfold RV at h ⊢
  obtain ⟨us,e,h⟩:=h
  exact ⟨us,e,RVs.ren ho cap us hl h⟩
 | .ag cap,u,hl,h=>by
  unfold AV.ren at h;unfold AV.lt at hl;unfold RV at h ⊢
  obtain ⟨us,e,h⟩:=h
  exact ⟨us,e,RVs.ren ho cap us hl h⟩
 | .tu cap,u,hl,h=>by
  unfold AV.ren at h;unfold AV.lt at hl;unfold RV at h ⊢
  obtain ⟨us,e,h⟩:=h
  exact ⟨us,e,RVs.ren ho cap us hl h⟩
 | .rp cap,u,hl,h=>by
  unfold AV.ren at h;unfold AV.lt at hl;unfold RV at h ⊢
  obtain ⟨g,us,T,e,hg,hB,h⟩:=h
  exact ⟨g,us,T,e,hg,hB,RVs.ren ho cap us hl h⟩
theorem RVs.ren {nx nx':Nat} {G:Gh} {w:World} {owf owf':Nat→Option Cb} {ρ:Nat→Nat} (ho:∀ o I,owf' o=some I→owf (ρ o)=some I):∀ (v:List AV) (u:List Value),AV.lts nx' v→RVs G w owf nx (AV.rens ρ v) u→RVs ⟨fun o=>G.B (ρ o),fun o=>G.root (ρ o),fun b=>G.β (ρ b),G.Z⟩ w owf' nx' v u
 | [],u,hl,h=>by unfold AV.rens at h;unfold RVs at h ⊢; exact h
 | a :: r,u,hl,h=>by
  unfold AV.rens at h;unfold AV.lts at hl;unfold RVs at h ⊢
  obtain ⟨x,r',e,h1,h2⟩:=h
  exact ⟨x,r',e,RV.ren ho a x hl.1 h1,RVs.ren ho r r' hl.2 h2⟩
end
def EG (ρ:Nat→Nat) (s:AS) (n:Nat):List (Nat × AV)→Prop
 | []=>True
 | (t,v) :: r=>(AO s.tm t=some (v.ren ρ)∧v.lt n)∧EG ρ s n r
def EL (ρ:Nat→Nat) (s:AS) (n:Nat):List (Nat × List AV)→Prop
 | []=>True
 | (b,cs) :: r=>(AO s.bx (ρ b)=some (AV.rens ρ cs)∧AV.lts n cs∧b<n)∧EL ρ s n r
def ED (ρ:Nat→Nat) (s:AS) (n:Nat):List (Nat × Option Cb)→Prop
 | []=>True
 | (o,I) :: r=>(s.owf (ρ o)=I∧o<n)∧ED ρ s n r
def inj (ρ:Nat→Nat) (l:List Nat):Prop:=(l.map ρ).Nodup
def EH (ρ:Nat→Nat) (n:Nat):List Nat→List Nat→Prop
 | [],[]=>True
 | b :: l,c :: r=>(b=ρ c∧c<n)∧EH ρ n l r
 | _,_=>False
theorem Oy {ρ:Nat→Nat} {n:Nat}:∀ {l r:List Nat},EH ρ n l r→∀ (i b:Nat),r[i]? = some b→l[i]? = some (ρ b)∧b<n
 | [],[],_,i,b,hb=>by simp at hb
 | _ :: _,[],h,i,b,hb=>h.elim
 | [],_ :: _,h,i,b,hb=>h.elim
 | c :: l,d :: r,h,0,b,hb=>by
  simp at hb;subst hb
  exact ⟨by simp [h.1.1],h.1.2⟩
 | c :: l,d :: r,h,i+1,b,hb=>by simpa using Oy h.2 i b (by simpa using hb)
def Sub (ρ:Nat→Nat) (s' s:AS):Prop :=
 s'.nt=s.nt∧EG ρ s s'.nx s'.tm∧EL ρ s s'.nx s'.bx∧ED ρ s s'.nx s'.ow∧inj ρ (s'.bx.map (·.1))∧inj ρ (s'.ow.map (·.1))∧EH ρ s'.nx s.pb s'.pb
theorem Lq {ρ:Nat→Nat} {s:AS} {n:Nat}:∀ {l:List (Nat × AV)},EG ρ s n l→∀ {t v},AO l t=some v→AO s.tm t=some (v.ren ρ)∧v.lt n
 | [],_,t,v,h=>by cases h
 | (t',v') :: r,h,t,v,hl=>by
  rw [Az] at hl
  split at hl
  ·rename_i e;subst e;injection hl with hl;subst hl;exact h.1
  ·exact Lq h.2 hl
theorem EU {ρ:Nat→Nat} {s:AS} {n:Nat}:∀ {l:List (Nat × List AV)},EL ρ s n l→∀ {t v},AO l t=some v→AO s.bx (ρ t)=some (AV.rens ρ v)∧AV.lts n v∧t<n
 | [],_,t,v,h=>by cases h
 | (t',v') :: r,h,t,v,hl=>by
  rw [Az] at hl
  split at hl
  ·rename_i e;subst e;injection hl with hl;subst hl;exact h.1
  ·exact EU h.2 hl
theorem Mf {ρ:Nat→Nat} {s:AS} {n:Nat}:∀ {l:List (Nat × Option Cb)},ED ρ s n l→∀ {t v},AO l t=some v→s.owf (ρ t)=v∧t<n
 | [],_,t,v,h=>by cases h
 | (t',v') :: r,h,t,v,hl=>by
  rw [Az] at hl
  split at hl
  ·rename_i e;subst e;injection hl with hl;subst hl;exact h.1
  ·exact Mf h.2 hl
theorem HK {α:Type}:∀ {l:List (Nat × α)} {t:Nat} {v:α},AO l t=some v→t ∈ l.map (·.1)
 | [],t,v,h=>by cases h
 | (t',v') :: r,t,v,hl=>by
  rw [Az] at hl
  split at hl
  ·rename_i e;simp [e]
  ·simp [HK hl]
theorem Ro {ρ:Nat→Nat}:∀ {l:List Nat},inj ρ l→∀ {a b},a ∈ l→b ∈ l→ρ a=ρ b→a=b
 | [],_,a,b,ha,_,_=>by cases ha
 | c :: r,h,a,b,ha,hb,e=>by
  unfold inj at h
  rw [List.map_cons] at h
  obtain ⟨h1,h2⟩:=List.nodup_cons.1 h
  rcases List.mem_cons.1 ha with e1 | ha2
  ·rcases List.mem_cons.1 hb with e2 | hb2
   ·rw [e1,e2]
   ·rw [e1] at e;exact absurd (List.mem_map.2 ⟨b,hb2,e.symm⟩) h1
  ·rcases List.mem_cons.1 hb with e2 | hb2
   ·rw [e2] at e;exact absurd (List.mem_map.2 ⟨a,ha2,e⟩) h1
   ·exact Ro (l:=r) h2 ha2 hb2 e
theorem Rel.sub {w0:Aq} {G:Gh} {s s':AS} {a:Act} {w:World} {ρ:Nat→Nat} (h:Rel w0 G s a w) (hs:Sub ρ s' s):∃ G',Rel w0 G' s' a w:=by
 obtain ⟨h1,h2,h3,h4,h5,h6,h0⟩:=hs
 have ho:∀ o I,s'.owf o=some I→s.owf (ρ o)=some I∧o<s'.nx∧o ∈ s'.ow.map (·.1):=fun o I hI=>by
  unfold AS.owf at hI
  cases hl:AO s'.ow o with
  | none=>rw [hl] at hI;cases hI
  | some J =>
   rw [hl] at hI
   obtain ⟨h7,h8⟩:=Mf h4 hl
   have hJ:J=some I:=hI
   exact ⟨h7.trans hJ,h8,HK hl⟩
 have ho':∀ o I,s'.owf o=some I→s.owf (ρ o)=some I:=fun o I hI=>(ho o I hI).1
 refine ⟨⟨fun o=>G.B (ρ o),fun o=>G.root (ρ o),fun b=>G.β (ρ b),G.Z⟩,h.nt.trans h1.symm,h.df,fun t v ht => ?_,fun b cs hb => ?_,fun b b' cs cs' hb hb' e => ?_,fun o I hI => ?_,fun o o' I I' hI hI' hne => ?_,h.bel,h.zl,fun i b hb => ?_,h.zz⟩
 ·obtain ⟨h7,h8⟩:=Lq h2 ht
  obtain ⟨u,hu,hr⟩:=h.tm t _ h7
  exact ⟨u,hu,RV.ren ho' v u h8 hr⟩
 ·obtain ⟨h7,h8,h9⟩:=EU h3 hb
  obtain ⟨_,q2,us,T,q3,q4⟩:=h.bx _ _ h7
  exact ⟨h9,q2,us,T,q3,RVs.ren ho' cs us h8 q4⟩
 ·obtain ⟨h7,_⟩:=EU h3 hb
  obtain ⟨h8,_⟩:=EU h3 hb'
  exact Ro h5 (HK hb) (HK hb') (h.inj _ _ _ _ h7 h8 e)
 ·obtain ⟨h7,h8,_⟩:=ho o I hI
  obtain ⟨_,q2,q3⟩:=h.own _ _ h7
  exact ⟨h8,q2,fun b cs hb=>q3 _ _ (EU h3 hb).1⟩
 ·obtain ⟨h7,_,h8⟩:=ho o I hI
  obtain ⟨h9,_,h10⟩:=ho o' I' hI'
  exact h.dis _ _ I I' h7 h9 fun e=>hne (Ro h6 h8 h10 e)
 ·obtain ⟨q1,q2⟩:=Oy h0 i b hb
  exact ⟨q2,(h.pb i (ρ b) q1).2⟩
mutual
def Uq:PD→AV
 | .one d=>avB d
 | .ag ds => .ag (ds.map avB)
 | .byt n => .y n
 | .fn f c => .fn f (Nn c)
 | .rf c => .rp (Nn c)
def Nn:List PD→List AV
 | []=>[]
 | p :: ps=>Uq p :: Nn ps
end
def Zx:Nat→List PD→List (Nat × AV)
 | _,[]=>[]
 | i,p :: ps=>(i,Uq p) :: Zx (i+1) ps
def rD (s:AS):AV→D→Prop
 | .y n,.byt m=>n=m
 | .i n,.int m=>n=m
 | .b n,.bool m=>n=m
 | .s n,.str m=>n=m
 | .nl _,.rows _ n cs=>n=0∧cs=[]
 | .sl o,d=>match s.owf o with | some I=>I.deep=true∧I.d=d | none=>False
 | _,_=>False
def rDs (s:AS):List AV→List D→Prop
 | [],[]=>True
 | a :: r,d :: ds=>rD s a d∧rDs s r ds
 | _,_=>False
def LO (P:Program) (s:AS):ResultVar→Option AV
 | .tmp t=>AO s.tm t
 | .cell a T=>match AO s.tm a with
  | some (.bx b 0)=>match DN P T,AO s.bx b with
   | some none,some [v]=>some v
   | some (some n),some cs=>if cs.length=n then some (.ag cs) else none
   | _,_=>none
  | _=>none
def rPs (s:AS):List (Option AV)→List PD→Prop
 | [],[]=>True
 | some v :: r,.one d :: ps=>rD s v d∧rPs s r ps
 | some (.ag cs) :: r,.ag ds :: ps=>rDs s cs ds∧rPs s r ps
 | _,_=>False
def Gm:List (Option AV)→List AV
 | []=>[]
 | some (.ag cs) :: r=>cs++Gm r
 | some v :: r=>v :: Gm r
 | none :: r=>Gm r
def aB7 (P:Program) (fn:Func) (s:AS) (rs:List PD):Prop :=
 rPs s (fn.results.toList.map (LO P s)) rs∧(AB (Gm (fn.results.toList.map (LO P s)))).Nodup
theorem GR:∀ a b:List AV,AB (a++b)=AB a++AB b
 | [],b=>rfl
 | c :: a,b=>by
  have:=GR a b
  cases c <;> simp [AB,this]
theorem GQ {w0:Aq} {G:Gh} {s:AS} {a:Act} {w:World} (h:Rel w0 G s a w):∀ (l:List Nat),l.Nodup→(∀ o ∈ l,∃ I,s.owf o=some I∧I.deep=true)→(l.flatMap G.B).Nodup
 | [],_,_=>by simp
 | o :: l,hn,hl=>by
  obtain ⟨n1,n2⟩:=List.nodup_cons.1 hn
  rw [List.flatMap_cons]
  obtain ⟨I,hI,hd⟩:=hl o (by simp)
  refine List.nodup_append.2 ⟨((h.own o I hI).2.1.2.2.1 hd).2,GQ h l n2 (fun o ho=>hl o (by simp [ho])),fun k hk k' hk' e => ?_⟩
  subst e
  obtain ⟨o',ho',hko⟩:=List.mem_flatMap.1 hk'
  obtain ⟨I',hI',_⟩:=hl o' (by simp [ho'])
  exact h.dis o o' I I' hI hI' (fun e=>n1 (e ▸ ho')) k hk hko
theorem QY {w0 : Aq} {G : Gh} {s : AS} {a : Act} {w : World} (h : Rel w0 G s a w) {c : AV} {u : Value} {d : D} (hr : RV G w s.owf s.nx c u) (hd : rD s c d) : Ch w d u ((AB [c]).flatMap G.B) ∧ ∀ o ∈ AB [c], ∃ I, s.owf o = some I ∧ I.deep = true := by
  cases c <;> simp only [rD] at hd <;> first | exact hd.elim | skip
  case i n => cases d <;> simp only [rD] at hd <;> first | exact hd.elim | skip
              subst hd; unfold RV at hr; exact ⟨by unfold Ch; exact ⟨hr, rfl⟩, by simp [AB]⟩
  case b n => cases d <;> simp only [rD] at hd <;> first | exact hd.elim | skip
              subst hd; unfold RV at hr; exact ⟨by unfold Ch; exact ⟨hr, rfl⟩, by simp [AB]⟩
  case s n => cases d <;> simp only [rD] at hd <;> first | exact hd.elim | skip
              subst hd; unfold RV at hr; exact ⟨by unfold Ch; exact ⟨hr, rfl⟩, by simp [AB]⟩
  case y n => cases d <;> simp only [rD] at hd <;> first | exact hd.elim | skip
              subst hd; unfold RV at hr; exact ⟨by unfold Ch; exact ⟨hr, rfl⟩, by simp [AB]⟩
  case nl sz =>
    cases d <;> simp only [rD] at hd <;> first | exact hd.elim | skip
    obtain ⟨rfl, rfl⟩ := hd
    unfold RV at hr; obtain ⟨a0, rfl⟩ := hr
    exact ⟨by unfold Ch; exact ⟨a0, 0, rfl, by simp, by simp, by simp, .inl ⟨rfl, rfl⟩⟩, by simp [AB]⟩
  case sl o =>
    cases hI : s.owf o with
    | none => rw [hI] at hd; exact hd.elim
    | some I =>
      rw [hI] at hd
      obtain ⟨h1, rfl⟩ := hd
      unfold RV at hr
      rw [hr.2.2 I hI]
      refine ⟨by simpa [AB] using ((h.own o I hI).2.1.2.2.1 h1).1, fun o' ho' => ?_⟩
      simp only [AB, List.mem_singleton] at ho'
      subst ho'
      exact ⟨I, hI, h1⟩
theorem Lm (c:AV) (l:List AV):AB (c :: l)=AB [c]++AB l:=GR [c] l
theorem Rb {w0:Aq} {G:Gh} {s:AS} {a:Act} {w:World} (h:Rel w0 G s a w):∀ {cs:List AV} {us:List Value} {ds:List D},RVs G w s.owf s.nx cs us→rDs s cs ds→Ao w ds us ((AB cs).flatMap G.B)∧∀ o ∈ AB cs,∃ I,s.owf o=some I∧I.deep=true
 | [],us,[],hr,_=>by unfold RVs at hr;subst hr;exact ⟨by unfold Ao;exact ⟨rfl,rfl⟩,by simp [AB]⟩
 | [],us,d :: ds,hr,hd=>hd.elim
 | c :: cs,us,[],hr,hd=>hd.elim
 | c :: cs,us,d :: ds,hr,hd=>by
  unfold RVs at hr
  obtain ⟨u,r,rfl,h1,h2⟩:=hr
  obtain ⟨h3,h4⟩:=QY h h1 hd.1
  obtain ⟨h5,h6⟩:=Rb h h2 hd.2
  rw [Lm,List.flatMap_append]
  refine ⟨by unfold Ao;exact ⟨u,r,_,_,rfl,rfl,h3,h5⟩,fun o ho => ?_⟩
  rcases List.mem_append.1 ho with ho | ho
  ·exact h4 o ho
  ·exact h6 o ho
theorem Ni {w0:Aq} {G:Gh} {s:AS} {a:Act} {w:World} (h:Rel w0 G s a w):∀ {l:List (Option AV)} {avs:List AV} {us:List Value} {rs:List PD},l=avs.map some→RVs G w s.owf s.nx avs us→rPs s l rs →
  ∃ vs,us=Gq rs vs∧Ao w (CL rs) vs ((AB (Gm l)).flatMap G.B)∧∀ o ∈ AB (Gm l),∃ I,s.owf o=some I∧I.deep=true
 | [],[],us,rs,e,hr,hp=>by
  unfold RVs at hr;subst hr
  cases rs with
  | nil=>exact ⟨[],rfl,by unfold CL Ao;exact ⟨rfl,rfl⟩,by simp [Gm,AB]⟩
  | cons _ _=>simp [rPs] at hp
 | [],_ :: _,us,rs,e,hr,hp=>by cases e
 | _ :: _,[],us,rs,e,hr,hp=>by cases e
 | x :: l,v :: avs,us,rs,e,hr,hp=>by
  simp only [List.map_cons,List.cons.injEq] at e
  obtain ⟨rfl,e⟩:=e
  unfold RVs at hr
  obtain ⟨u,r,rfl,h1,h2⟩:=hr
  cases rs with
  | nil=>cases v <;> simp [rPs] at hp
  | cons p ps =>
   cases p with
   | one d =>
    have hp':rD s v d∧rPs s l ps:=by cases v <;> first | exact hp | (simp [rPs] at hp;exact hp)
    obtain ⟨h3,h4⟩:=QY h h1 hp'.1
    obtain ⟨vs,h5,h6,h7⟩:=Ni h e h2 hp'.2
    have hfl:Gm (some v :: l)=v :: Gm l:=by
     cases v <;> first | rfl | (have:=hp'.1;simp [rD] at this)
    rw [hfl,Lm,List.flatMap_append]
    refine ⟨u :: vs,by rw [h5];rfl,by unfold CL Ao;exact ⟨u,vs,_,_,rfl,rfl,h3,h6⟩,fun o ho => ?_⟩
    rcases List.mem_append.1 ho with ho | ho
    ·exact h4 o ho
    ·exact h7 o ho
   | ag ds =>
    cases v <;> first | (simp [rPs] at hp;done) | skip
    rename_i cs
    simp only [rPs] at hp
    unfold RV at h1
    obtain ⟨us',rfl,h1⟩:=h1
    obtain ⟨h3,h4⟩:=Rb h h1 hp.1
    obtain ⟨vs,h5,h6,h7⟩:=Ni h e h2 hp.2
    have hl:us'.length=ds.length:=Ao.len _ _ _ h3
    have hfl:Gm (some (.ag cs) :: l)=cs++Gm l:=rfl
    rw [hfl,GR,List.flatMap_append]
    refine ⟨us'++vs, ?_,by unfold CL;exact Ao.append _ _ _ _ _ _ h3 h6,fun o ho => ?_⟩
    ·unfold Gq
     rw [← hl,List.take_left',List.drop_left',h5] <;> rfl
    ·rcases List.mem_append.1 ho with ho | ho
     ·exact h4 o ho
     ·exact h7 o ho
   | byt n=>cases v <;> simp [rPs] at hp
   | fn f c=>cases v <;> simp [rPs] at hp
   | rf c=>cases v <;> simp [rPs] at hp
def aCH (a:Act):ResultVar→Sem Value
 | .tmp t=>pure (a.tmps.getD t undef)
 | .cell x t=>do loadVar t (← asAddr (a.tmps.getD x undef))
theorem Fj (fn:Func) (a:Act):results fn a.tmps=(do let vs ← fn.results.mapM (aCH a);pure (if h:vs.size=1 then vs[0] else .tuple vs)):=by
 have e:(fun (x:ResultVar)=>(match x with | .tmp t=>pure (a.tmps.getD t undef) | .cell x t=>do loadVar t (← asAddr (a.tmps.getD x undef)):Sem Value))=aCH a:=by funext x;cases x <;> rfl
 rw [← e];rfl
theorem Zs {P:Program} {w0:Aq} {G:Gh} {s:AS} {a:Act} {w:World} (h:Rel w0 G s a w) {r:ResultVar} {av:AV} (hr:LO P s r=some av) :
  ∃ u,(aCH a r).run P w = .ok u w∧RV G w s.owf s.nx av u:=by
 cases r with
 | tmp t =>
  obtain ⟨u,hu,hv⟩:=h.tm t av hr
  exact ⟨u,by simp [aCH,Sem.run_pure,Array.getD_eq_getD_getElem?,hu],hv⟩
 | cell x T =>
  simp only [LO] at hr
  split at hr
  ·rename_i b hb
   obtain ⟨u,hu,hv⟩:=h.tm x _ hb
   unfold RV at hv
   obtain ⟨_,rfl⟩:=hv
   have hx:a.tmps.getD x undef = .pointer (some ⟨G.β b,0,none⟩):=by simp [Array.getD_eq_getD_getElem?,hu]
   have hload:∀ v,(Instr.loadAt T (.pointer (some ⟨G.β b,0,none⟩))).run P w = .ok v w→(do loadVar T (← asAddr (a.tmps.getD x undef)):Sem Value).run P w = .ok v w:=fun v hv=>by
    rw [hx]
    simp only [asAddr,Sem.run_bind,Sem.run_pure,Result.andThen_ok]
    simpa only [Instr.loadAt,Instr.sureAddr,Sem.run_bind,Sem.run_pure,Result.andThen_ok] using hv
   split at hr
   ·rename_i v ht hl
    injection hr with hr
    subst hr
    obtain ⟨_,_,us,T',hB,hrs⟩:=h.bx b _ hl
    obtain ⟨av',u,e,h1,h2⟩:=GJ (P:=P) (T:=T) ht hrs (g:=G.β b) (o0:=0) (off:=0) (fun w' hb=>(hB.below hb hB.lt).cells) (k:=fun z=>z=v) (by simp [Ru])
    subst e
    exact ⟨u,hload u (by simpa using h2 w (Below.refl _ _)),h1⟩
   ·rename_i n cs ht hl
    split at hr
    ·rename_i hn
     injection hr with hr
     subst hr
     obtain ⟨_,_,us,T',hB,hrs⟩:=h.bx b _ hl
     obtain ⟨av',u,e,h1,h2⟩:=GJ (P:=P) (T:=T) ht hrs (g:=G.β b) (o0:=0) (off:=0) (fun w' hb=>(hB.below hb hB.lt).cells) (k:=fun z=>z = .ag cs) ⟨by omega,by rw [List.drop_zero,← hn,List.take_length]⟩
     subst e
     exact ⟨u,hload u (by simpa using h2 w (Below.refl _ _)),h1⟩
    ·cases hr
   ·cases hr
  ·cases hr
theorem OC {s:AS}:∀ {l:List (Option AV)} {rs:List PD},rPs s l rs→∃ avs:List AV,l=avs.map some
 | [],rs,_=>⟨[],rfl⟩
 | none :: l,rs,h=>by cases rs <;> simp [rPs] at h
 | some v :: l,rs,h=>by
  have:∃ ps,rPs s l ps:=by
   cases rs with
   | nil=>cases v <;> simp [rPs] at h
   | cons p ps=>cases p <;> cases v <;> simp only [rPs] at h <;> first | exact h.elim | exact ⟨ps,h.2⟩
  obtain ⟨ps,hps⟩:=this
  obtain ⟨avs,e⟩:=OC hps
  exact ⟨v :: avs,by rw [e];rfl⟩
theorem Gt {P:Program} {w0:Aq} {G:Gh} {s:AS} {a:Act} {w:World} (h:Rel w0 G s a w):∀ (l:List ResultVar) (avs:List AV),l.map (LO P s)=avs.map some →
  ∃ us,(l.mapM (aCH a)).run P w = .ok us w∧RVs G w s.owf s.nx avs us
 | [],[],_=>⟨[],by simp [Sem.run_pure],by unfold RVs;rfl⟩
 | [],_ :: _,e=>by cases e
 | _ :: _,[],e=>by cases e
 | r :: l,v :: avs,e=>by
  simp only [List.map_cons,List.cons.injEq] at e
  obtain ⟨u,h1,h2⟩:=Zs h e.1
  obtain ⟨us,h3,h4⟩:=Gt h l avs e.2
  refine ⟨u :: us, ?_,by unfold RVs;exact ⟨u,us,rfl,h2,h4⟩⟩
  rw [List.mapM_cons]
  simp only [Sem.run_bind,h1,Result.andThen_ok,h3,Sem.run_pure]
mutual
theorem Nz {w:World} {G:Gh} {owf:Nat→Option Cb} {nx:Nat}:∀ {p:PD} {u:Value},FO w G.Z p u→RV G w owf nx (Uq p) u
 | .one d,u,h=>by unfold FO at h;unfold Uq;exact JC h
 | .ag ds,u,h=>by
  unfold FO at h
  obtain ⟨vs,rfl,h⟩:=h
  unfold Uq RV
  exact ⟨vs,rfl,RVs.of_rep (S:=G.Z) (fun d v hd=>JC hd) h⟩
 | .byt n,u,h=>by unfold FO at h;unfold Uq RV;exact h
 | .fn f c,u,h=>by
  unfold FO at h
  obtain ⟨us,rfl,h⟩:=h
  unfold Uq RV
  exact ⟨us,rfl,KK h⟩
 | .rf c,u,h=>by
  unfold FO at h
  obtain ⟨g,us,T,e,hz,hB,h⟩:=h
  unfold Uq RV
  exact ⟨g,us,T,e,hz,hB,KK h⟩
theorem KK {w:World} {G:Gh} {owf:Nat→Option Cb} {nx:Nat}:∀ {p:List PD} {u:List Value},CM w G.Z p u→RVs G w owf nx (Nn p) u
 | [],u,h=>by unfold CM at h;unfold Nn RVs;exact h
 | p :: ps,u,h=>by
  unfold CM at h
  obtain ⟨v,r,rfl,h1,h2⟩:=h
  unfold Nn RVs
  exact ⟨v,r,rfl,Nz h1,KK h2⟩
end
theorem Lu {w:World} {G:Gh} {owf:Nat→Option Cb} {nx:Nat}:∀ (ps:List PD) (us:List Value) (i t:Nat) (v:AV),CM w G.Z ps us→AO (Zx i ps) t=some v→i≤t∧∃ u,us[t-i]? = some u∧RV G w owf nx v u
 | [],us,i,t,v,h,hl=>by cases hl
 | p :: ps,us,i,t,v,h,hl=>by
  unfold CM at h
  obtain ⟨u,r,rfl,h1,h2⟩:=h
  unfold Zx at hl
  rw [Az] at hl
  split at hl
  ·rename_i e
   subst e
   injection hl with hl
   subst hl
   exact ⟨Nat.le_refl _,u,by simp,Nz h1⟩
  ·obtain ⟨h3,u',h4,h5⟩:=Lu ps r (i+1) t v h2 hl
   refine ⟨by omega,u', ?_,h5⟩
   have:t-i=(t-(i+1))+1:=by omega
   rw [this];simpa using h4
theorem BB.len {w:World} {ps:List PD} {us:List Value} (h:BB w ps us):us.length=ps.length:=(BB.x h).len
theorem aCa {P : Program} {f : FuncId} {fn : Func} {c : Code} {args rs : List PD} (hf : P.funcs[f]? = some fn) (hb : fn.body = some c) (hn : (fn.name == "runtime.NumGoroutine") = false) (hnt : args.length ≤ fn.ntmps)
  (h:XW P c ⟨fn.ntmps,Zx 0 args,[],[],0,[]⟩ fun e s=>(e = .ret∨e = .normal)∧aB7 P fn s rs):Con P f args rs:=by
 refine ⟨⟨fn,hf,by simp [hb],hn⟩,fun w us hg hu=>calls_of_wp hf hb ?_⟩
 have hlen:=BB.len hu
 have hrel:Rel ⟨w,fun _=>False,fun _=>False,fun _=>0,fun _=>none,fun k=>k<w.heap.size,fun _ h=>h,fun _ h=>h,Nq hg (fun _ _ h=>h),hg.1⟩ ⟨fun _=>[],fun _=>undef,fun _=>0,fun k=>k<w.heap.size⟩ ⟨fn.ntmps,Zx 0 args,[],[],0,[]⟩ { tmps:=us.toArray++Array.replicate (fn.ntmps-us.toArray.size) undef,defers:=[] } w:=by
  refine ⟨by simp;omega,rfl,fun t v ht => ?_,fun b cs hb=>(by cases hb),fun _ _ _ _ hb=>(by cases hb),fun o I ho=>(by cases ho),fun _ _ _ _ ho=>(by cases ho),Bel.refl _ _,fun _ hk=>hk,fun _ _ hb=>(by simp at hb),fun _ hk=>hk,fun _ hk => .inl hk⟩
  obtain ⟨_,u,hu',hv⟩:=Lu (G:=⟨fun _=>[],fun _=>undef,fun _=>0,fun k=>k<w.heap.size⟩) args us 0 t v (BB.x hu) ht
  refine ⟨u, ?_,hv⟩
  have hlt:t<us.length:=by
   simp only [Nat.sub_zero] at hu'
   exact (List.getElem?_eq_some_iff.1 hu').1
  rw [Array.getElem?_append_left (by simpa using hlt)]
  simpa using hu'
 refine wp_mono (h ⟨w,fun _=>False,fun _=>False,fun _=>0,fun _=>none,fun k=>k<w.heap.size,fun _ h=>h,fun _ h=>h,Nq hg (fun _ _ h=>h),hg.1⟩ _ _ w hrel) fun e a' w' ⟨G',s',hr',he,hret,hnd⟩ => ?_
 have hpost:a'.defers=[]∧∃ v,(results fn a'.tmps).run P w' = .ok v w'∧(Below w.heap.size w w'∧∃ vs,(Ending.returned v) = .returned (Nf (Gq rs vs))∧Lf w' w.heap.size (CL rs) vs):=by
  obtain ⟨avs,hav⟩:=OC hret
  obtain ⟨us',h1,h2⟩:=Gt hr' _ _ hav
  obtain ⟨vs,h3,h4,h5⟩:=Ni hr' hav h2 hret
  refine ⟨hr'.df,Nf us', ?_,hr'.bel.below (fun _ h=>h),vs,by rw [← h3],_,h4,GQ hr' _ hnd h5,fun k hk => ?_⟩
  ·rw [Fj,Array.mapM_eq_mapM_toList]
   simp only [map_eq_pure_bind,Sem.run_bind,h1,Result.andThen_ok,Sem.run_pure]
   match us' with
   | []=>rfl
   | [u]=>rfl
   | u :: u2 :: r=>simp [Nf]
  ·obtain ⟨o,ho,hko⟩:=List.mem_flatMap.1 hk
   obtain ⟨I,hI,_⟩:=h5 o ho
   exact ((hr'.own o I hI).2.1.1 k hko).1.2.resolve_right id
 rcases he with rfl | rfl <;> exact hpost
attribute [push_cast] Zx Uq Nn aB7 rPs LO Gm rD rDs AS.kn
end Go.Proofs.YtaidalilfmjfgaaGreat
