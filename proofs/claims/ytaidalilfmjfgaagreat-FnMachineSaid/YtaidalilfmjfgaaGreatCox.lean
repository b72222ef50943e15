import Derived.Test.YtaidalilfmjfgaaGreatPtr
namespace Go.Proofs.YtaidalilfmjfgaaGreat
open Go.RowKit
set_option linter.unusedVariables false
set_option linter.unusedSimpArgs false
theorem aDI {P:Program} {o:Oper} {a:Act} {w:World} {K:Act→World→Prop} {Q:Exit→Act→World→Prop} {v:Value} (h:(execOp a.eval o).run P w = .ok (.value v) w) (hk:K (a.put o.dst v) w):o.wp P a w K Q:=by
 unfold Oper.wp
 rw [h]
 exact hk
def Ye (P:Program):Nat→List Oper→List Oper→List It→AS→QE→Prop
 | 0,all,rest,st,s,Q=>SW P (.ops all rest :: st) s Q
 | k+1,all,o :: rest,st,s,Q=>(gN o=true∧Cp o.op=false)∧(vE P s o.op).1.1∧Ye P k all rest st ((vE P s o.op).2.pt o.dst (vE P s o.op).1.2) Q
 | _+1,_,[],_,_,_=>False
theorem TK {P:Program}:∀ (k:Nat) (all rest:List Oper) (st:List It) (s:AS) (Q:QE),Ye P k all rest st s Q→SW P (.ops all rest :: st) s Q
 | 0,all,rest,st,s,Q,h=>h
 | k+1,all,[],st,s,Q,h=>h.elim
 | k+1,all,o :: rest,st,s,Q,h=>Ny h.1.1 (OJ (aGg h.2.1 (TK k all rest st _ Q h.2.2)))
theorem aCJ {P:Program} {all rest:List Oper} {o:Oper} {st:List It} {s:AS} {Q:QE} (hg:gN o=true) (h:SW P (.ex all o rest :: st) s Q):SW P (.ops all (o :: rest) :: st) s Q:=Ny hg h
theorem St {P:Program} {a b:Code} {st:List It} {s:AS} {Q:QE} (h:SW P (.code a :: .code b :: st) s Q):SW P (.code (.seq a b) :: st) s Q:=by
 intro w0 G c w hr
 refine wp_seq (wp_mono (h w0 G c w hr) fun e a' w' ⟨G',s',hr',hq⟩ => ?_)
 cases e <;> first | exact hq w0 G' a' w' hr' | exact ⟨G',s',hr',hq⟩
theorem Yx {P:Program} {id:Nat} {x:Code} {st:List It} {s:AS} {Q:QE} (h:SW P (.code x :: .blk id :: st) s Q):SW P (.code (.block id x) :: st) s Q:=by
 intro w0 G c w hr
 refine wp_block (wp_mono (h w0 G c w hr) fun e a' w' ⟨G',s',hr',hq⟩ => ?_)
 cases e
 case exit id2 _x =>
  have hq':if id2=id then (SWb P st Q).2 s' else SXe (SWb P st Q).1 Q (.exit id2) s':=hq
  unfold Exit.inBlock
  by_cases hid:id2=id
  ·simp only [hid,if_true] at hq' ⊢; exact ⟨G',s',hr',hq'⟩
  ·simp only [hid,if_false] at hq' ⊢; exact ⟨G',s',hr',hq'⟩
 all_goals exact ⟨G',s',hr',hq⟩
theorem UO {P:Program} {st:List It} {s:AS} {Q:QE} (h:SW P st s Q):SW P (.code .skip :: st) s Q:=fun w0 G c w hr=>wp_skip ⟨G,s,hr,h⟩
theorem Zu {P:Program} {id:Nat} {ops:Array Oper} {st:List It} {s:AS} {Q:QE} (h:SW P (.ops ops.toList ops.toList :: st) s Q):SW P (.code (.region id ops false) :: st) s Q:=fun w0 G a w hr=>wp_region_list (h w0 G a w hr)
def DI (P:Program):Nat→List It→AS→QE→Prop
 | n+1,.code (.seq a b) :: st,s,Q=>DI P n (.code a :: .code b :: st) s Q
 | n+1,.code (.block id c) :: st,s,Q=>DI P n (.code c :: .blk id :: st) s Q
 | n+1,.blk _ :: st,s,Q=>DI P n st s Q
 | n+1,.code .skip :: st,s,Q=>DI P n st s Q
 | _+1,.code (.region id ops d) :: st,s,Q=>d=false∧SW P (.ops ops.toList ops.toList :: st) s Q
 | _,_,_,_=>False
theorem IL {P:Program}:∀ (n:Nat) (st:List It) (s:AS) (Q:QE),DI P n st s Q→SW P st s Q
 | 0,st,s,Q,h=>by unfold DI at h;exact h.elim
 | n+1,.code (.seq a b) :: st,s,Q,h=>St (IL n (.code a :: .code b :: st) s Q h)
 | n+1,.code (.block id c) :: st,s,Q,h=>Yx (IL n (.code c :: .blk id :: st) s Q h)
 | n+1,.blk i :: st,s,Q,h=>IL n st s Q h
 | n+1,.code .skip :: st,s,Q,h=>UO (IL n st s Q h)
 | n+1,.code (.region id ops d) :: st,s,Q,h=>by
  have h':d=false∧SW P (.ops ops.toList ops.toList :: st) s Q:=h
  obtain ⟨rfl,h'⟩:=h'
  exact Zu h'
 | n+1,[],s,Q,h=>by unfold DI at h;exact h.elim
 | n+1,.ops _ _ :: _,s,Q,h=>by unfold DI at h;exact h.elim
 | n+1,.ex _ _ _ :: _,s,Q,h=>by unfold DI at h;exact h.elim
 | n+1,.dr _ _ :: _,s,Q,h=>by unfold DI at h;exact h.elim
 | n+1,.dx _ _ _ _ :: _,s,Q,h=>by unfold DI at h;exact h.elim
 | n+1,.dg _ _ _ _ :: _,s,Q,h=>by unfold DI at h;exact h.elim
 | n+1,.cut :: _,s,Q,h=>by unfold DI at h;exact h.elim
 | n+1,.code .ret :: _,s,Q,h=>by unfold DI at h;exact h.elim
 | n+1,.code (.cond _ _ _) :: _,s,Q,h=>by unfold DI at h;exact h.elim
 | n+1,.code (.exit _) :: _,s,Q,h=>by unfold DI at h;exact h.elim
 | n+1,.code (.loop _) :: _,s,Q,h=>by unfold DI at h;exact h.elim
 | n+1,.code (.rangeFunc _ _ _ _) :: _,s,Q,h=>by unfold DI at h;exact h.elim
 | n+1,.code (.scope _) :: _,s,Q,h=>by unfold DI at h;exact h.elim
 | n+1,.code (.label _) :: _,s,Q,h=>by unfold DI at h;exact h.elim
 | n+1,.code (.goto _) :: _,s,Q,h=>by unfold DI at h;exact h.elim
 | n+1,.code (.refuse _) :: _,s,Q,h=>by unfold DI at h;exact h.elim
theorem NU {P:Program} {st:List It} {s:AS} {Q:QE} (h:SW P st s Q):SW P (.cut :: st) s Q:=h
def Bz (P : Program) (f : FuncId) (args : List PA) {ι : Type} (I : ι → Prop) (outs : ι → List (List CD)) (rs : ι → List RD) : Prop :=
  (∃ fn, P.funcs[f]? = some fn ∧ fn.body.isNone = false ∧ (fn.name == "runtime.NumGoroutine") = false) ∧
  ∀ w us fp fw S, GI w → (∀ k ∈ GBl, S k) → (∀ k, S k → k < w.heap.size ∧ k ∉ fp) → Cu w S args us fp fw → fp.Nodup → Calls P f us.toArray w fun e w' => ∃ X, I X ∧ (Bel (· ∈ fp) w w' ∧ ∃ S' vs f1 f2 fw1 fw2,
    ((∀ k, S k → S' k) ∧ (∀ k, S' k → S k ∨ k ∈ fp ∨ w.heap.size ≤ k) ∧ ∀ k, S' k → k < w'.heap.size ∧ k ∉ f1 ++ f2) ∧ e = .returned (Nf (Fq (rs X) vs)) ∧ BG w' S' (Br (rs X)) vs f1 fw1 ∧ FM w' S' (FL args us) (outs X) f2 fw2 ∧
    (f1 ++ f2).Nodup ∧ (∀ k ∈ f1 ++ f2, k < w'.heap.size ∧ (k ∈ fp ∨ w.heap.size ≤ k)) ∧ ∀ k ∈ fw1 ++ fw2, k ∈ fp ∨ w.heap.size ≤ k)
theorem MM {P : Program} {ι : Type} {I : ι → Prop} {f : FuncId} {fn : Func} {c : Code} {args : List PA} {outs : ι → List (List CD)} {rs : ι → List RD} (hf : P.funcs[f]? = some fn) (hb : fn.body = some c) (hn : (fn.name == "runtime.NumGoroutine") = false) (hnt : args.length ≤ fn.ntmps) (hno : ∀ x, I x → nPs args = (outs x).length)
  (h:XW P c (s0P fn.ntmps args) fun e s=>(e = .ret∨e = .normal)∧∃ x,I x∧CC P fn s (outs x) (rs x)):Bz P f args I outs rs:=by
 refine ⟨⟨fn,hf,by simp [hb],hn⟩,fun w us fp fw S hg hgs hS hu hnd=>calls_of_wp hf hb ?_⟩
 have hlen:=hu.len
 have hpl:=HI args hu
 have hrel0:Rel ⟨w,fun k=>k ∈ fp,fun k=>k ∈ fp,fun i=>(FL args us).getD i 0,fun _=>none,S,fun _ h=>h,fun _ h=>h,Nq hg (fun k hk=>(hS k (hgs k hk)).2),hgs⟩ ⟨fun _=>[],fun _=>undef,fun _=>0,S⟩ ⟨fn.ntmps,[],[],[],0,[]⟩ { tmps:=us.toArray++Array.replicate (fn.ntmps-us.toArray.size) undef,defers:=[] } w :=
  ⟨by simp;omega,rfl,fun t v ht=>(by cases ht),fun b cs hb=>(by cases hb),fun _ _ _ _ hb=>(by cases hb),fun o I ho=>(by cases ho),fun _ _ _ _ ho=>(by cases ho),Bel.refl _ _,fun k hk=>(hS k hk).1,fun _ _ hb=>(by simp at hb),fun _ hk=>hk,fun _ hk => .inl hk⟩
 obtain ⟨G',hm,hrv⟩:=JV (fun _=>rfl) args us fp fw _ _ hrel0 hu rfl hnd (fun k hk=>⟨fun hz=>(hS k hz).2 hk,.inr hk⟩) (fun k hk => .inr (Kk args hu k hk)) (fun k hk=>⟨fun b cs hb=>(by cases hb),fun o I ho=>(by cases ho)⟩) (fun i g hi=>by
  show (FL args us).getD (0+i) 0=g
  rw [Nat.zero_add,List.getD_eq_getElem?_getD,hi];rfl)
 have hr1:=hm.rel
 have hrel:Rel ⟨w,fun k=>k ∈ fp,fun k=>k ∈ fp,fun i=>(FL args us).getD i 0,fun _=>none,S,fun _ h=>h,fun _ h=>h,Nq hg (fun k hk=>(hS k (hgs k hk)).2),hgs⟩ G' (s0P fn.ntmps args) { tmps:=us.toArray++Array.replicate (fn.ntmps-us.toArray.size) undef,defers:=[] } w:=by
  refine ⟨hr1.nt,rfl,fun t v ht => ?_,hr1.bx,hr1.inj,hr1.own,hr1.dis,hr1.bel,hr1.zl,hr1.pb,hr1.zz⟩
  obtain ⟨_,u,hu',hv⟩:=IA _ us 0 t v hrv ht
  refine ⟨u, ?_,hv⟩
  have hlt:t<us.length:=by
   simp only [Nat.sub_zero] at hu'
   exact (List.getElem?_eq_some_iff.1 hu').1
  rw [Array.getElem?_append_left (by simpa using hlt)]
  simpa using hu'
 refine wp_mono (h _ _ _ w hrel) fun e a' w' ⟨G2,s',hr',he,X,hX,hret,hout,hnb,hnd2⟩ => ?_
 obtain ⟨G2,hr',hq⟩:=hr'.flq
 have hno:=hno X hX
 obtain ⟨n1,n2,n3⟩:=List.nodup_append.1 hnd2
 obtain ⟨avs,hav⟩:=HM hret
 obtain ⟨us',h1,h2⟩:=Gt hr' _ _ hav
 rw [hav] at hret n1 n3
 obtain ⟨vs,f1,w1,q0,q1,q2,q3,q4⟩:=JU hr' hq h2 hret n1
 obtain ⟨f2,w2,p1,p2,p3,p4⟩:=MZ hr' hq hout hnb n2
 have hpo:s'.pb.length=(outs X).length:=by
  have:∀ (bs:List Nat) (ou:List (List CD)),rOs s' bs ou→bs.length=ou.length:=by
   intro bs
   induction bs with
   | nil=>intro o h;cases o <;> first | rfl | exact h.elim
   | cons b bs ih=>intro o h;cases o <;> first | exact h.elim | (simp only [List.length_cons,ih _ h.2])
  exact this _ _ hout
 have hpb:s'.pb.map G2.β=FL args us:=by
  refine List.ext_getElem (by rw [List.length_map,hpo,← hno,hpl]) fun i hi1 hi2 => ?_
  rw [List.getElem_map]
  have:=(hr'.pb i _ (List.getElem?_eq_getElem (by simpa using hi1))).2.1
  rw [← this]
  show (FL args us).getD i 0=_
  rw [List.getD_eq_getElem?_getD,List.getElem?_eq_getElem hi2];rfl
 rw [hpb] at p1
 have hfr:∀ k ∈ f1++f2,(¬ G2.Z k∧(w.heap.size≤k∨k ∈ fp))∧k<w'.heap.size:=fun k hk=>by
  rcases List.mem_append.1 hk with hk | hk
  ·exact Fr.lt hr' (q3 k hk)
  ·exact Fr.lt hr' (p3 k hk)
 have hpost:a'.defers=[]∧∃ v,(results fn a'.tmps).run P w' = .ok v w'∧∃ X,I X∧(Bel (· ∈ fp) w w'∧∃ S' vs f1 f2 fw1 fw2,
  ((∀ k,S k→S' k)∧(∀ k,S' k→S k∨k ∈ fp∨w.heap.size≤k)∧∀ k,S' k→k<w'.heap.size∧k ∉ f1++f2)∧(Ending.returned v) = .returned (Nf (Fq (rs X) vs))∧BG w' S' (Br (rs X)) vs f1 fw1∧FM w' S' (FL args us) (outs X) f2 fw2 ∧
  (f1++f2).Nodup∧(∀ k ∈ f1++f2,k<w'.heap.size∧(k ∈ fp∨w.heap.size≤k))∧∀ k ∈ fw1++fw2,k ∈ fp∨w.heap.size≤k):=by
  refine ⟨hr'.df,Nf us', ?_,X,hX,hr'.bel,G2.Z,vs,f1,f2,w1,w2,⟨hr'.zz.1,hr'.zz.2,fun k hk=>⟨hr'.zl k hk,fun hk'=>(hfr k hk').1.1 hk⟩⟩,by rw [← q0],q1,p1,List.nodup_append.2 ⟨q2,p2,fun k hk k' hk' e => ?_⟩,fun k hk=>⟨(hfr k hk).2,(hfr k hk).1.2.symm⟩,fun k hk => ?_⟩
  ·rw [Fj,Array.mapM_eq_mapM_toList]
   simp only [map_eq_pure_bind,Sem.run_bind,h1,Result.andThen_ok,Sem.run_pure]
   match us' with
   | []=>rfl
   | [u]=>rfl
   | u :: u2 :: r=>simp [Nf]
  ·subst e
   exact Fr.ne hr' (q3 k hk) (p3 k hk') (fun o ho ho'=>n3 o ho o ho' rfl) (by simp)
  ·rcases List.mem_append.1 hk with hk | hk
   ·exact (q4 k hk).2.symm
   ·exact (p4 k hk).2.symm
 rcases he with rfl | rfl <;> exact hpost
def fQX (P:Program) (fn:Func) {ι:Type} (I:ι→Prop) (outs:ι→List (List CD)) (rs:ι→List RD) (e:Exit) (s:AS):Prop:=(e = .ret∨e = .normal)∧∃ x,I x∧CC P fn s (outs x) (rs x)
theorem Bs {P:Program} {fn:Func} {ι:Type} {I:ι→Prop} {outs:ι→List (List CD)} {rs:ι→List RD}:∀ c s,¬ fQX P fn I outs rs (.panic c) s:=fun c s h=>by
 rcases h.1 with e | e <;> cases e
theorem AF {P : Program} {ι : Type} {I : ι → Prop} {f : FuncId} {fn : Func} {c : Code} {args : List PA} {outs : ι → List (List CD)} {rs : ι → List RD} (hf : P.funcs[f]? = some fn) (hb : fn.body = some c) (hn : (fn.name == "runtime.NumGoroutine") = false) (hnt : args.length ≤ fn.ntmps) (hno : ∀ x, I x → nPs args = (outs x).length)
  (h:Ct P 400 [.code c] (s0P fn.ntmps args) (fQX P fn I outs rs)):Bz P f args I outs rs :=
 MM hf hb hn hnt hno (Dm (Aa 400 _ _ _ h))
theorem Ff {P:Program} {ι:Type} {I:ι→Prop} {w0:Aq} {G:Gh} {s t:AS} {a:Act} {w:World} (h:Rel w0 G s a w) {F:FuncId} {cap:List AV} {args:Array Operand} {tys:Array TypeId} {f:Operand} {dst:Option Tmp} {ty:TypeId} {pos:String} {af:Array Edge} {gd:Option (Nat × Bool)} {ps:List PA} {outs:ι→List (List CD)} {rs:ι→List RD} {e b:List Nat}
  (hc:Bz P F ps I outs rs) (hf:s.ev f = .fn F cap) (he:ePs s (args.toList.map s.ev++cap) ps=e) (hb:bPs (args.toList.map s.ev++cap) ps=b)
  (htt:(t=(s.kl e).kb b∧∀ x,I x→((Br (rs x)).all noC && (outs x).all fun cs=>cs.all noC)=true)∨t=s.em) (ha:mPs t s (args.toList.map s.ev++cap) ps) (hne:e.Nodup) (hnb:b.Nodup) {Q:Exit→Act→World→Prop} {K:Act→World→Prop}
  (hK:∀ x,I x→∀ a' w',((e=[]∧b=[]→Below w.heap.size w w')∧∃ G',Rel w0 G' ((Eh s e b (outs x) (rs x)).pt dst (En s e b (rs x))) a' w')→K a' w') :
  (Oper.mk dst (.call ⟨.value f,args,tys⟩) ty pos af gd).wp P a w K Q:=by
 obtain ⟨G,h,hq⟩:=h.flq
 have hfv:=h.ev f
 rw [hf] at hfv
 unfold RV at hfv
 obtain ⟨us,hu,hr⟩:=hfv
 have hargs:RVs G w s.owf s.nx (args.toList.map s.ev++cap) (args.toList.map a.eval++us):=(h.evs args.toList).append _ _ _ _ hr
 have hrel0:Rel w0 { G with Z:=G.Z } ((s.kl e).kb b) a w:=by
  have:=(h.aft (e:=e) (b:=b) (fp:=[]) (fw:=[]) (w':=w) (Z1:=G.Z) (Bel.refl _ _) (by simp) (by simp) (fun _ h=>h) (fun _ h => .inl h) h.zl)
  exact this
 have hrt:Rel w0 G t a w∧t.nx=s.nx∧(∀ o I,t.owf o=some I→s.owf o=some I)∧∀ k,ET G t k→G.Z k∨((∃ o I,s.owf o=some I∧o ∉ e∧k ∈ G.B o)∨∃ x cs,AO s.bx x=some cs∧x ∉ b∧G.β x=k):=by
  rcases htt with ⟨rfl,_⟩ | rfl
  ·refine ⟨hrel0,rfl,fun o I ho=>(IC ho).1,fun k hk => ?_⟩
   rcases hk with hk | ⟨o,I,ho,hk⟩ | ⟨x,cs,hx,hk⟩
   ·exact .inl hk
   ·obtain ⟨h1,h2⟩:=IC (s:=s) (l:=e) ho
    exact .inr (.inl ⟨o,I,h1,h2,hk⟩)
   ·unfold AS.kb at hx
    simp only at hx
    rw [Dr] at hx
    split at hx
    ·cases hx
    ·rename_i hn;exact .inr (.inr ⟨x,cs,hx,hn,hk⟩)
  ·exact ⟨h.em,rfl,LE,fun k hk => .inl (Em hk)⟩
 obtain ⟨hrt1,hrt2,hrt3,hrt4⟩:=hrt
 obtain ⟨fp,fw,hrep,hnd,hfr,hfw,hptr,hlive⟩:=Kd h hq hrt1 hrt2 hrt3 ps hargs ha (by rw [he];exact hne) (by rw [hb];exact hnb)
 rw [he,hb] at hfr
 rw [hb] at hptr hlive
 have hS:∀ k,ET G t k→k<w.heap.size∧k ∉ fp:=fun k hk=>by
  refine ⟨hrt1.reach k hk,fun hk' => ?_⟩
  have h1:=hfr k hk'
  rcases hrt4 k hk with hz | ⟨o,I,ho,hno,hk⟩ | ⟨x,cs,hx,hnx,rfl⟩
  ·exact (Fr.lt h h1).1.1 hz
  ·exact Fr.ne h h1 (.inl ⟨o,List.mem_cons_self,I,ho,hk⟩:Fr G s [o] [] k) (fun q hq hq'=>hno (List.mem_singleton.1 hq' ▸ hq)) (by simp)
  ·exact Fr.ne h h1 (.inr ⟨x,List.mem_cons_self,cs,hx,rfl⟩:Fr G s [] [x] _) (by simp) (fun q hq hq'=>hnx (List.mem_singleton.1 hq' ▸ hq))
 obtain ⟨⟨fn,hfn,hbody,hname⟩,hcon⟩:=hc
 have hcall:=hcon w _ _ _ _ (w0.gi w h.bel.size h.bel.block) (fun k hk => .inl (h.zz.1 k (w0.gz k hk))) hS hrep hnd
 unfold Oper.wp
 have hrun:(execOp a.eval ⟨dst,.call { callee:=.value f,args:=args,argTypes:=tys },ty,pos,af,gd⟩).run P w = .ok (.enter F (args.toList.map a.eval++us).toArray) w:=by
  have e1:((#[]:Array Value)++args.map a.eval)++us.toArray=(args.toList.map a.eval++us).toArray:=by
   apply Array.ext'; simp
  simp only [execOp,resolve,Deferred.ofValue,hu,pure_bind,invoke,e1,callFunc,Sem.run_bind,program,Sem.run,Result.andThen_ok,hfn,hname,hbody,Bool.false_eq_true,if_false,Sem.run_pure]
 rw [hrun]
 refine hcall.mono fun en w' ⟨X,hX,hbel,S',vs,f1,f2,fw1,fw2,⟨hs1,hs2,hs3⟩,hen,hown,hout,hnd2,hsub,hsubw⟩ => ?_
 subst hen
 have hbs:=h.bel.size
 have hbz:=hbel.size
 rw [hptr] at hout
 obtain ⟨Z1,z1,z2,z3,z4,z5⟩:∃ Z1:Nat→Prop,(∀ k,G.Z k→Z1 k)∧(∀ k,Z1 k→G.Z k∨k ∈ fp∨w.heap.size≤k)∧(∀ k,Z1 k→k<w'.heap.size∧k ∉ f1++f2)∧BG w' Z1 (Br (rs X)) vs f1 fw1∧FM w' Z1 (b.map G.β) (outs X) f2 fw2:=by
  rcases htt with ⟨_,hno⟩ | rfl
  ·have hno:=hno X hX
   simp only [Bool.and_eq_true] at hno
   exact ⟨G.Z,fun _ h=>h,fun _ h => .inl h,fun k hk=>⟨Nat.lt_of_lt_of_le (h.zl k hk) hbz,(hs3 k (hs1 k (.inl hk))).2⟩,KJ hno.1 hown,Na hno.2 hout⟩
  ·exact ⟨S',fun k hk=>hs1 k (.inl hk),fun k hk=>(hs2 k hk).imp Em id,hs3,hown,hout⟩
 have hr1:=h.aft (e:=e) (b:=b) (fw:=fp) hbel hfr (fun k hk=>⟨hk,(Fr.lt h (hfr k hk)).1.2.imp id (w0.mw k)⟩) z1 z2 (fun k hk=>(z3 k hk).1)
 have hfree:∀ k ∈ f1++f2,(¬ Z1 k∧(w0.heap.size≤k∨w0.mv k))∧(∀ x cs,AO ((s.kl e).kb b).bx x=some cs→G.β x≠k)∧∀ o I,((s.kl e).kb b).owf o=some I→k ∉ G.B o:=fun k hk=>by
  obtain ⟨q1,q2⟩:=hsub k hk
  refine ⟨⟨fun hz=>(z3 k hz).2 hk, ?_⟩,fun x cs hx e2 => ?_,fun o I ho hko => ?_⟩
  ·rcases q2 with q2 | q2
   ·exact (Fr.lt h (hfr k q2)).1.2
   ·exact .inl (by omega)
  ·unfold AS.kb at hx
   simp only at hx
   rw [Dr] at hx
   split at hx
   ·cases hx
   ·rename_i hn
    rcases q2 with q2 | q2
    ·exact Fr.ne h (hfr k q2) (.inr ⟨x,List.mem_cons_self,cs,hx,e2⟩:Fr G s [] [x] k) (by simp) (fun q hq hq'=>hn (List.mem_singleton.1 hq' ▸ hq))
    ·obtain ⟨_,_,_,_,h7,_⟩:=h.bx x cs hx
     have:=h7.lt;omega
  ·obtain ⟨h1,h2⟩:=IC (s:=s) (l:=e) ho
   rcases q2 with q2 | q2
   ·exact Fr.ne h (hfr k q2) (.inl ⟨o,List.mem_cons_self,I,h1,hko⟩:Fr G s [o] [] k) (fun q hq hq'=>h2 (List.mem_singleton.1 hq' ▸ hq)) (by simp)
   ·have:=((h.own o I h1).2.1.1 k hko).2;omega
 have hwr:∀ k ∈ fw1++fw2,w0.heap.size≤k∨w0.wr k:=fun k hk=>(hsubw k hk).elim (fun h1=>(Fr.lt h (hfr k h1)).1.2.imp id (w0.mw k)) (fun h1 => .inl (by omega))
 obtain ⟨d1,d2,d3⟩:=List.nodup_append.1 hnd2
 obtain ⟨G',m1,m2,m3,m4,m5,m6,m7,m8,m9⟩:=Jr (Br (rs X)) vs f1 fw1 { G with Z:=Z1 } _ hr1 z4 (fun _ h=>h) d1 (fun k hk=>(hfree k (by simp [hk])).1) (fun k hk=>hwr k (by simp [hk])) (fun k hk=>(hfree k (by simp [hk])).2)
 obtain ⟨G2,r1,r2⟩:=Si b (outs X) f2 fw2 G' (mkC ((s.kl e).kb b) (Br (rs X))).2 (β0:=G.β) m1 (by rw [m4];exact z5) (fun x hx=>by
   obtain ⟨cs,hl⟩:=hlive x hx
   obtain ⟨q1,q2,us',T,q3,q4⟩:=h.bx x cs hl
   refine ⟨Nat.lt_of_lt_of_le q1 m7,m8 x q1, ?_, ?_,q2.2⟩
   ·rw [m5]
    show AO (EW b _) x=none
    rw [Dr,if_pos hx]
   ·rw [m4]
    intro hz
    have key:∀ (gs:List Nat) (ou:List (List CD)) (f fw:List Nat),FM w' Z1 gs ou f fw→∀ g ∈ gs,g ∈ f:=by
     intro gs
     induction gs with
     | nil=>intro _ _ _ _ g hg;cases hg
     | cons g gs ih =>
      intro ou f fw ho q hq
      cases ou with
      | nil=>unfold FM at ho;exact ho.elim
      | cons cs ou =>
       unfold FM at ho
       obtain ⟨_,_,_,f2',_,_,_,_,rfl,_,h5⟩:=ho
       rcases List.mem_cons.1 hq with rfl | hq
       ·simp
       ·simp [ih _ _ _ h5 q hq]
    exact (z3 _ hz).2 (List.mem_append.2 (.inr (key _ _ _ _ z5 _ (List.mem_map.2 ⟨x,hx,rfl⟩))))) d2 (fun k hk=>by rw [m4];exact (hfree k (by simp [hk])).1) (fun k hk=>hwr k (by simp [hk])) (fun k hk=>by
   obtain ⟨_,q1,q2⟩:=hfree k (by simp [hk])
   refine ⟨fun x cs hx => ?_,fun o I ho hk' => ?_⟩
   ·rw [m5] at hx
    rw [m8 x (hr1.bx x cs hx).1]
    exact q1 x cs hx
   ·rcases m9 o I ho with ⟨q3,q4⟩ | q
    ·exact q2 o I q3 (q4 ▸ hk')
    ·exact d3 k (q k hk') k hk rfl)
 have hbl:e=[]∧b=[]→Below w.heap.size w w':=fun ⟨he0,hb0⟩=>⟨hbel.os,hbel.tape,hbel.output,hbel.size,fun k hk=>hbel.block k hk fun hk'=>by
  have h1:=hfr k hk'
  rw [he0,hb0] at h1
  rcases h1 with ⟨o,ho,_⟩ | ⟨x,hx,_⟩
  ·cases ho
  ·cases hx⟩
 exact hK X hX _ w' ⟨hbl,G2,r1.pt dst (r2 _ _ (SK (HN (rs X) _ _ m2 (Dk _ _))))⟩
theorem PM {P:Program} {ι:Type} {I:ι→Prop} {all:List Oper} {r:AN} {st:List It} {dst:Option Tmp} {f:Operand} {args:Array Operand} {tys:Array TypeId} {ty:TypeId} {pos:String} {af:Array Edge} {gd:Option (Nat × Bool)} {s:AS} {Q:QE} {F:FuncId} {cap:List AV} {ps:List PA} {outs:ι→List (List CD)} {rs:ι→List RD}
  (hc:Bz P F ps I outs rs) (hf:s.ev f = .fn F cap) (he:ePs s (args.toList.map s.ev++cap) ps=[]) (hb:bPs (args.toList.map s.ev++cap) ps=[]) (hno:∀ x,I x→((Br (rs x)).all noC && (outs x).all fun cs=>cs.all noC)=true) (ha:mPs ((s.kl []).kb []) s (args.toList.map s.ev++cap) ps)
  (h:∀ x,I x→SW P (.dr all r :: st) ((Eh s [] [] (outs x) (rs x)).pt dst (En s [] [] (rs x))) Q):SW P (.dg all ⟨dst,.call ⟨.value f,args,tys⟩,ty,pos,af,gd⟩ false r :: st) s Q:=fun w0 G a w hr =>
 Ff hr hc hf he hb (.inl ⟨rfl,hno⟩) ha List.nodup_nil List.nodup_nil fun x hx a' w' ⟨hbl,G',hr'⟩=>⟨⟨fun _=>hbl ⟨rfl,rfl⟩,hr'.bel⟩,h x hx w0 G' a' w' hr'⟩
theorem RC {P:Program} {f:FuncId} {args:List PA} {outs:List (List CD)} {rs:List RD} (h:Bc P f args outs rs):Bz P f args (fun _:Unit=>True) (fun _=>outs) (fun _=>rs) :=
 ⟨h.1,fun w us fp fw S a b c d e=>(h.2 w us fp fw S a b c d e).mono fun _ _ hx=>⟨(),trivial,hx⟩⟩
theorem Bq {P:Program} {all:List Oper} {r:AN} {st:List It} {dst:Option Tmp} {f:Operand} {args:Array Operand} {tys:Array TypeId} {ty:TypeId} {pos:String} {af:Array Edge} {gd:Option (Nat × Bool)} {s:AS} {Q:QE} {F:FuncId} {cap:List AV} {ps:List PA} {outs:List (List CD)} {rs:List RD}
  (hc:Bc P F ps outs rs) (hf:s.ev f = .fn F cap) (he:ePs s (args.toList.map s.ev++cap) ps=[]) (hb:bPs (args.toList.map s.ev++cap) ps=[]) (ha:mPs s.em s (args.toList.map s.ev++cap) ps)
  (h:SW P (.dr all r :: st) ((Eh s [] [] outs rs).pt dst (En s [] [] rs)) Q):SW P (.dg all ⟨dst,.call ⟨.value f,args,tys⟩,ty,pos,af,gd⟩ false r :: st) s Q:=fun w0 G a w hr =>
 Ff hr (RC hc) hf he hb (.inr rfl) ha List.nodup_nil List.nodup_nil fun x hx a' w' ⟨hbl,G',hr'⟩=>⟨⟨fun _=>hbl ⟨rfl,rfl⟩,hr'.bel⟩,h w0 G' a' w' hr'⟩
theorem Dl {P:Program} {all:List Oper} {r:AN} {st:List It} {dst:Option Tmp} {f:Operand} {args:Array Operand} {tys:Array TypeId} {ty:TypeId} {pos:String} {af:Array Edge} {gd:Option (Nat × Bool)} {s:AS} {Q:QE} {F:FuncId} {cap:List AV} {ps:List PA} {outs:List (List CD)} {rs:List RD} {e b:List Nat}
  (hc:Bc P F ps outs rs) (hf:s.ev f = .fn F cap) (he:ePs s (args.toList.map s.ev++cap) ps=e) (hb:bPs (args.toList.map s.ev++cap) ps=b) (ha:mPs s.em s (args.toList.map s.ev++cap) ps) (hne:e.Nodup) (hnb:b.Nodup)
  (hl:Hc ⟨dst,.call ⟨.value f,args,tys⟩,ty,pos,af,gd⟩=true)
  (h:SW P (.dr all r :: st) ((Eh s e b outs rs).pt dst (En s e b rs)) Q):SW P (.dg all ⟨dst,.call ⟨.value f,args,tys⟩,ty,pos,af,gd⟩ false r :: st) s Q:=fun w0 G a w hr =>
 Ff hr (RC hc) hf he hb (.inr rfl) ha hne hnb fun x hx a' w' ⟨hbl,G',hr'⟩=>⟨⟨fun e=>(by rw [hl] at e;cases e),hr'.bel⟩,h w0 G' a' w' hr'⟩
theorem Tx {P:Program} {all rest:List Oper} {st:List It} {dst:Option Tmp} {op:BinOp} {T ty2:TypeId} {x y:Operand} {ty:TypeId} {pos:String} {af:Array Edge} {gd:Option (Nat × Bool)} {s:AS} {Q:QE} {m n:Int}
  (hx:s.ev x = .i m) (hy:s.ev y = .i n) (hop:op = .add∨op = .mul) (h:∀ k:Int,SW P (.ops all rest :: st) (s.pt dst (.i k)) Q):SW P (.ex all ⟨dst,.binOp op T x y ty2,ty,pos,af,gd⟩ rest :: st) s Q:=fun w0 G a w hr=>by
 have h1:=hr.ev x
 have h2:=hr.ev y
 rw [hx] at h1
 rw [hy] at h2
 unfold RV at h1 h2
 show (Oper.mk dst (.binOp op T x y ty2) ty pos af gd).wp P a w _ _
 rcases hop with rfl | rfl
 ·refine aDI (v:=.int .i64 (IntKind.i64.wrap (m+n))) ?_ (h (IntKind.i64.wrap (m+n)) w0 G _ w (hr.pt dst (by unfold RV;rfl)))
  simp [execOp,h1,h2,eqGuard,binOp,Op.intArith,Sem.run_bind,Sem.run_pure]
 ·refine aDI (v:=.int .i64 (IntKind.i64.wrap (m * n))) ?_ (h (IntKind.i64.wrap (m * n)) w0 G _ w (hr.pt dst (by unfold RV;rfl)))
  simp [execOp,h1,h2,eqGuard,binOp,Op.intArith,Sem.run_bind,Sem.run_pure]
theorem Bh {P:Program} {ι:Type} {I:ι→Prop} {all rest:List Oper} {st:List It} {dst:Option Tmp} {f:Operand} {args:Array Operand} {tys:Array TypeId} {ty:TypeId} {pos:String} {af:Array Edge} {gd:Option (Nat × Bool)} {s:AS} {Q:QE} {F:FuncId} {cap:List AV} {ps:List PA} {outs:ι→List (List CD)} {rs:ι→List RD} {e b:List Nat}
  (hc:Bz P F ps I outs rs) (hf:s.ev f = .fn F cap) (he:ePs s (args.toList.map s.ev++cap) ps=e) (hb:bPs (args.toList.map s.ev++cap) ps=b) (ha:mPs s.em s (args.toList.map s.ev++cap) ps) (hne:e.Nodup) (hnb:b.Nodup)
  (h:∀ x,I x→SW P (.ops all rest :: st) ((Eh s e b (outs x) (rs x)).pt dst (En s e b (rs x))) Q):SW P (.ex all ⟨dst,.call ⟨.value f,args,tys⟩,ty,pos,af,gd⟩ rest :: st) s Q:=fun w0 G a w hr =>
 Ff hr hc hf he hb (.inr rfl) ha hne hnb fun x hx a' w' ⟨hbl,G',hr'⟩=>h x hx w0 G' a' w' hr'
theorem Ay {P:Program} {ι:Type} {I:ι→Prop} {all:List Oper} {r:AN} {st:List It} {dst:Option Tmp} {f:Operand} {args:Array Operand} {tys:Array TypeId} {ty:TypeId} {pos:String} {af:Array Edge} {gd:Option (Nat × Bool)} {s:AS} {Q:QE} {F:FuncId} {cap:List AV} {ps:List PA} {outs:ι→List (List CD)} {rs:ι→List RD} {e b:List Nat}
  (hc:Bz P F ps I outs rs) (hf:s.ev f = .fn F cap) (he:ePs s (args.toList.map s.ev++cap) ps=e) (hb:bPs (args.toList.map s.ev++cap) ps=b) (ha:mPs s.em s (args.toList.map s.ev++cap) ps) (hne:e.Nodup) (hnb:b.Nodup)
  (hl:Hc ⟨dst,.call ⟨.value f,args,tys⟩,ty,pos,af,gd⟩=true)
  (h:∀ x,I x→SW P (.dr all r :: st) ((Eh s e b (outs x) (rs x)).pt dst (En s e b (rs x))) Q):SW P (.dg all ⟨dst,.call ⟨.value f,args,tys⟩,ty,pos,af,gd⟩ false r :: st) s Q:=fun w0 G a w hr =>
 Ff hr hc hf he hb (.inr rfl) ha hne hnb fun x hx a' w' ⟨hbl,G',hr'⟩=>⟨⟨fun e=>(by rw [hl] at e;cases e),hr'.bel⟩,h x hx w0 G' a' w' hr'⟩
theorem AX {P:Program} {Q:QE} {all rest:List Oper} {op:Oper} {st:List It} {s:AS} (o:Nat) {I:Cb} (hI:s.owf o=some I) (h:SW P (.ex all op rest :: st) (s.fz o I.d) Q):SW P (.ex all op rest :: st) s Q:=fun w0 G a w hr=>h w0 _ a w (hr.fz hI)
theorem EB {P:Program} {Q:QE} {all:List Oper} {op:Oper} {b:Bool} {r:AN} {st:List It} {s:AS} (o:Nat) {I:Cb} (hI:s.owf o=some I) (h:SW P (.dg all op b r :: st) (s.fz o I.d) Q):SW P (.dg all op b r :: st) s Q:=fun w0 G a w hr=>h w0 _ a w (hr.fz hI)
theorem Rel.boxN {w0:Aq} {G:Gh} {s:AS} {a:Act} {w:World} (h:Rel w0 G s a w) {cs:List AV} {us:List Value} {T:TypeId} {g:Nat} (hr:RVs G w s.owf s.nx cs us) (hB:Blk w g T us.toArray) (hz:¬ G.Z g∧(w0.heap.size≤g∨w0.wr g))
  (hnb:∀ b cs,AO s.bx b=some cs→G.β b≠g) (hno:∀ o I,s.owf o=some I→g ∉ G.B o) :
  Rel w0 (G.box s.nx g) (s.box cs) a w∧RV (G.box s.nx g) w (s.box cs).owf (s.box cs).nx (.bx s.nx 0) (.pointer (some ⟨g,0,none⟩)) ∧
   ∀ x u,RV G w s.owf s.nx x u→RV (G.box s.nx g) w (s.box cs).owf (s.box cs).nx x u:=by
 have hβ:∀ b,b<s.nx→(G.box s.nx g).β b=G.β b:=fun b hb=>AQ _ _ (Nat.ne_of_lt hb)
 have hturn:∀ o I',o<s.nx→(s.box cs).owf o=some I'→s.owf o=some I'∧(G.box s.nx g).root o=G.root o∧(G.box s.nx g).B o=G.B o∧∀ k ∈ G.B o,w.heap[k]? = w.heap[k]? := fun o I' hlt ho=>⟨ho,rfl,rfl,fun k _=>rfl⟩
 have hnx:(s.box cs).nx=s.nx+1:=rfl
 have hkeep:∀ x u,RV G w s.owf s.nx x u→RV (G.box s.nx g) w (s.box cs).owf (s.box cs).nx x u:=fun x u hx=>RV.turn (G:=G) (G':=G.box s.nx g) (by rw [hnx];omega) (fun k hk=>⟨hk,rfl⟩) hβ hturn x u hx
 have hkeeps:∀ x u,RVs G w s.owf s.nx x u→RVs (G.box s.nx g) w (s.box cs).owf (s.box cs).nx x u:=fun x u hx=>RVs.turn (G:=G) (G':=G.box s.nx g) (by rw [hnx];omega) (fun k hk=>⟨hk,rfl⟩) hβ hturn x u hx
 refine ⟨⟨h.nt,h.df,fun t x ht => ?_,fun b cs' hb => ?_,fun b b' cs1 cs2 hb hb' e => ?_,fun o I' ho => ?_,h.dis,h.bel,h.zl,fun i b hb => ?_,h.zz⟩, ?_,hkeep⟩
 ·obtain ⟨u,hu,hr'⟩:=h.tm t x ht
  exact ⟨u,hu,hkeep x u hr'⟩
 ·unfold AS.box AO at hb
  split at hb
  ·rename_i e
   subst e
   injection hb with hb
   subst hb
   refine ⟨by show s.nx<s.nx+1;omega, ?_,us,T, ?_,hkeeps _ _ hr⟩
   ·simp only [Gh.box,Bu];exact hz
   ·simp only [Gh.box,Bu];exact hB
  ·rename_i hne
   obtain ⟨h1,h2,us',T',h3,h4⟩:=h.bx b cs' hb
   refine ⟨by show b<s.nx+1;omega, ?_,us',T', ?_,hkeeps _ _ h4⟩
   ·simp only [Gh.box,AQ _ _ hne];exact h2
   ·simp only [Gh.box,AQ _ _ hne];exact h3
 ·unfold AS.box AO at hb hb'
  by_cases e1:b=s.nx
  ·by_cases e2:b'=s.nx
   ·rw [e1,e2]
   ·rw [if_neg e2] at hb'
    subst e1
    simp only [Gh.box,Bu,AQ _ _ e2] at e
    exact absurd e.symm (hnb b' cs2 hb')
  ·rw [if_neg e1] at hb
   by_cases e2:b'=s.nx
   ·subst e2
    simp only [Gh.box,Bu,AQ _ _ e1] at e
    exact absurd e (hnb b cs1 hb)
   ·rw [if_neg e2] at hb'
    simp only [Gh.box,AQ _ _ e1,AQ _ _ e2] at e
    exact h.inj b b' cs1 cs2 hb hb' e
 ·obtain ⟨h1,h2,h3⟩:=h.own o I' ho
  refine ⟨by show o<s.nx+1;omega,h2,fun b cs' hb => ?_⟩
  unfold AS.box AO at hb
  split at hb
  ·rename_i e
   subst e
   simp only [Gh.box,Bu]
   exact hno o I' ho
  ·rename_i hne
   simp only [Gh.box,AQ _ _ hne]
   exact h3 b cs' hb
 ·obtain ⟨q1,q2⟩:=h.pb i b hb
  exact ⟨by show b<s.nx+1;omega,q2.1.trans (hβ b q1).symm,q2.2⟩
 ·unfold RV
  exact ⟨by show s.nx<s.nx+1;omega,by simp only [Gh.box,Bu]⟩
def Bg (zs:List Int):D:=.rows 1 zs.length (zs.map D.byt)
def aGN (P : Program) (f : FuncId) : Prop :=
  (∃ fn, P.funcs[f]? = some fn ∧ fn.body.isNone = false ∧ (fn.name == "runtime.NumGoroutine") = false) ∧
  ∀ (zs : List Int) w u S, zs.length ≤ 1000000000 → (∀ n ∈ zs, 0 ≤ n ∧ n < 256) → GI w → (∀ k ∈ GBl, S k) → (∀ k, S k → k < w.heap.size) → AW w S (Bg zs) u → Calls P f #[u] w fun e w' => Below w.heap.size w w' ∧
    ∃ g T v, ∃ h : Int, ∃ S', ((∀ k, S k → S' k) ∧ (∀ k, S' k → S k ∨ w.heap.size ≤ k) ∧ ∀ k, S' k → k < w'.heap.size ∧ k ≠ g) ∧ e = .returned (.pointer (some ⟨g, 0, none⟩)) ∧ w.heap.size ≤ g ∧ Blk w' g T #[v, .int .i64 0, .int .i64 h] ∧ AW w' S' (Bg zs) v
theorem aCP {P : Program} {f : FuncId} {fn : Func} {c : Code} {t : Tmp} (hf : P.funcs[f]? = some fn) (hb : fn.body = some c) (hn : (fn.name == "runtime.NumGoroutine") = false) (hnt : 1 ≤ fn.ntmps) (hrs : fn.results = #[.tmp t])
  (h:∀ zs:List Int,zs.length≤1000000000→(∀ n ∈ zs,0≤n∧n<256)→XW P c ⟨fn.ntmps,[(0,.br (Bg zs))],[],[],0,[]⟩ fun e s=>(e = .ret∨e = .normal)∧∃ b,∃ h:Int,AO s.tm t=some (.bx b 0)∧AO s.bx b=some [.br (Bg zs),.i 0,.i h]):aGN P f:=by
 refine ⟨⟨fn,hf,by simp [hb],hn⟩,fun zs w u S hzl hzs hg hgs hS hu=>calls_of_wp hf hb ?_⟩
 have hrel:Rel ⟨w,fun _=>False,fun _=>False,fun _=>0,fun _=>none,S,fun _ h=>h,fun _ h=>h,Nq hg (fun _ _ h=>h),hgs⟩ ⟨fun _=>[],fun _=>undef,fun _=>0,S⟩ ⟨fn.ntmps,[(0,.br (Bg zs))],[],[],0,[]⟩ { tmps := #[u]++Array.replicate (fn.ntmps - #[u].size) undef,defers:=[] } w:=by
  refine ⟨by simp;omega,rfl,fun t v ht => ?_,fun b cs hb=>(by cases hb),fun _ _ _ _ hb=>(by cases hb),fun o I ho=>(by cases ho),fun _ _ _ _ ho=>(by cases ho),Bel.refl _ _,fun k hk=>hS k hk,fun _ _ hb=>(by simp at hb),fun _ hk=>hk,fun _ hk => .inl hk⟩
  simp only [Az] at ht
  split at ht
  ·rename_i e
   subst e
   injection ht with ht
   subst ht
   exact ⟨u,(by rw [Array.getElem?_append_left (by simp)];rfl),by unfold RV;exact hu⟩
  ·cases ht
 refine wp_mono (h zs hzl hzs _ _ _ w hrel) fun e a' w' ⟨G2,s',hr',he,b,hh,h1,h2⟩ => ?_
 have hav:fn.results.toList.map (LO P s')=[AV.bx b 0].map some:=by rw [hrs];simp [LO,h1]
 obtain ⟨us',r1,r2⟩:=Gt hr' _ _ hav
 unfold RVs RVs at r2
 obtain ⟨u0,_,rfl,r3,rfl⟩:=r2
 unfold RV at r3
 obtain ⟨_,rfl⟩:=r3
 obtain ⟨_,hz,us,T,hB,hrs2⟩:=hr'.bx b _ h2
 unfold RVs RVs RVs RVs at hrs2
 obtain ⟨u1,_,rfl,q1,u2,_,rfl,q2,u3,_,rfl,q3,rfl⟩:=hrs2
 unfold RV at q1 q2 q3
 subst q2 q3
 have hbel:Below w.heap.size w w':=hr'.bel.below (fun _ h=>h)
 have hpost:a'.defers=[]∧∃ v,(results fn a'.tmps).run P w' = .ok v w'∧(Below w.heap.size w w'∧∃ g T v',∃ h:Int,∃ S',((∀ k,S k→S' k)∧(∀ k,S' k→S k∨w.heap.size≤k)∧∀ k,S' k→k<w'.heap.size∧k≠g)∧(Ending.returned v) = .returned (.pointer (some ⟨g,0,none⟩))∧w.heap.size≤g∧Blk w' g T #[v',.int .i64 0,.int .i64 h]∧AW w' S' (Bg zs) v'):=by
  refine ⟨hr'.df,.pointer (some ⟨G2.β b,0,none⟩), ?_,hbel,G2.β b,T,u1,hh,G2.Z,⟨hr'.zz.1,fun k hk => ?_,fun k hk=>⟨hr'.zl k hk,fun e=>hz.1 (e ▸ hk)⟩⟩,rfl, ?_,hB,q1⟩
  ·rw [Fj,Array.mapM_eq_mapM_toList]
   simp only [map_eq_pure_bind,Sem.run_bind,r1,Result.andThen_ok,Sem.run_pure]
   rfl
  ·rcases hr'.zz.2 k hk with h | h | h
   ·exact .inl h
   ·exact h.elim
   ·exact .inr h
  ·rcases hz.2 with h | h
   ·exact h
   ·exact h.elim
 rcases he with rfl | rfl <;> exact hpost
theorem Ku {P:Program} {all rest:List Oper} {st:List It} {dst:Option Tmp} {f:Operand} {args:Array Operand} {tys:Array TypeId} {ty:TypeId} {pos:String} {af:Array Edge} {gd:Option (Nat × Bool)} {s:AS} {Q:QE} {F:FuncId} {zs:List Int}
  (hc:aGN P F) (hf:s.ev f = .fn F []) (ha:args.toList.map s.ev=[.br (Bg zs)]) (hl:zs.length≤1000000000) (hz:∀ n ∈ zs,0≤n∧n<256)
  (h:∀ h:Int,SW P (.ops all rest :: st) ((s.box [.br (Bg zs),.i 0,.i h]).pt dst (.bx s.nx 0)) Q) :
  SW P (.ex all ⟨dst,.call ⟨.value f,args,tys⟩,ty,pos,af,gd⟩ rest :: st) s Q:=fun w0 G a w hr=>by
 have hfv:=hr.ev f
 rw [hf] at hfv
 unfold RV at hfv
 obtain ⟨us,hu,hrs⟩:=hfv
 unfold RVs at hrs
 subst hrs
 have hargs:=hr.evs args.toList
 rw [ha] at hargs
 unfold RVs RVs at hargs
 obtain ⟨u1,r1,e1,hv1,e2⟩:=hargs
 subst e2
 unfold RV at hv1
 obtain ⟨⟨fn,hfn,hbody,hname⟩,hcon⟩:=hc
 have hcall:=hcon zs w u1 G.Z hl hz (w0.gi w hr.bel.size hr.bel.block) (fun k hk=>hr.zz.1 k (w0.gz k hk)) hr.zl hv1
 show (Oper.mk dst (.call ⟨.value f,args,tys⟩) ty pos af gd).wp P a w _ _
 unfold Oper.wp
 have hrun:(execOp a.eval ⟨dst,.call { callee:=.value f,args:=args,argTypes:=tys },ty,pos,af,gd⟩).run P w = .ok (.enter F #[u1]) w:=by
  have e4:((#[]:Array Value)++args.map a.eval)++([]:List Value).toArray = #[u1]:=by
   apply Array.ext'; simp [e1]
  simp only [execOp,resolve,Deferred.ofValue,hu,pure_bind,invoke,e4,callFunc,Sem.run_bind,program,Sem.run,Result.andThen_ok,hfn,hname,hbody,Bool.false_eq_true,if_false,Sem.run_pure]
 rw [hrun]
 refine hcall.mono fun e w' ⟨hb,g,T,v,hh,S',⟨z1,z2,z3⟩,he,hg,hB,hrep⟩ => ?_
 subst he
 have h0:=hr.aft (e:=[]) (b:=[]) (fp:=[]) (fw:=[]) (Z1:=S') (aA5 hb) (by simp) (by simp) z1 (fun k hk=>(z2 k hk).imp id .inr) (fun k hk=>(z3 k hk).1)
 have h1:Rel w0 { G with Z:=S' } s a w':=h0
 have hbs:=hr.bel.size
 obtain ⟨h2,h3,_⟩:=h1.boxN (cs:=[.br (Bg zs),.i 0,.i hh]) (us:=[v,.int .i64 0,.int .i64 hh]) (T:=T) (g:=g) (by
  unfold RVs RVs RVs RVs
  exact ⟨_,_,rfl,by unfold RV;exact hrep,_,_,rfl,by unfold RV;rfl,_,_,rfl,by unfold RV;rfl,rfl⟩) hB ⟨fun hz'=>(z3 g hz').2 rfl,.inl (Nat.le_trans hbs hg)⟩ (fun b cs hl' e=>by
  obtain ⟨_,_,_,_,h7,_⟩:=hr.bx b cs hl'
  have:=h7.lt
  have e':G.β b=g:=e
  omega) (fun o I ho hk=>by
  have:=((hr.own o I ho).2.1.1 g hk).2
  omega)
 exact h hh w0 _ _ w' (h2.pt dst h3)
theorem WT {P : Program} {ι : Type} {I : ι → Prop} {f : FuncId} {fn : Func} {c : Code} {args : List PA} {outs : ι → List (List CD)} {rs : ι → List RD} (hf : P.funcs[f]? = some fn) (hb : fn.body = some c) (hn : (fn.name == "runtime.NumGoroutine") = false) (hnt : args.length ≤ fn.ntmps) (hno : ∀ x, I x → nPs args = (outs x).length)
  (h:SW P [.code c] (s0P fn.ntmps args) (fQX P fn I outs rs)):Bz P f args I outs rs:=MM hf hb hn hnt hno (Dm h)
theorem OQ {P:Program} {A B:Code} {st:List It} {s:AS} {Q:QE} (h:SW P (.code A :: .cut :: .code B :: st) s Q):SW P (.code (.seq A B) :: st) s Q:=St h
end Go.Proofs.YtaidalilfmjfgaaGreat
