import Derived.Test.YtaidalilfmjfgaaGreatAI17
import Derived.Lib.AppendZeros
import Derived.Shelf.Small.Strs
import Derived.Test.YtaidalilfmjfgaaGreatProg
import Derived.Test.YtaidalilfmjfgaaGreatDat
import Derived.Test.YtaidalilfmjfgaaGreatSumB
import Derived.Lib.Bytealg
import Derived.Test.YtaidalilfmjfgaaGreatTd
import Derived.Test.YtaidalilfmjfgaaGreatLp
import Derived.Test.YtaidalilfmjfgaaGreatBy
namespace Go.Proofs.YtaidalilfmjfgaaGreat
open Go.RowKit
set_option linter.unusedVariables false
set_option linter.unusedSimpArgs false
set_option maxRecDepth 20000
def GrowC (P:Program) (F:FuncId) (T:TypeId) (sz:Nat):Prop :=
 (∃ fn, P.funcs[F]? = some fn ∧ fn.body.isNone = false ∧ (fn.name == "runtime.NumGoroutine") = false) ∧
 ∀ (n:Nat) (w:World),n≤1000000000→Calls P F #[.slice none 0 0,.int .i64 n] w fun e w'=>∃ v,e = .returned v∧w'.ownsRow w.heap.size T sz v 0 []∧Below w.heap.size w w'
theorem sw_callG {P:Program} {all rest:List Oper} {st:List It} {dst:Option Tmp} {f:Operand} {args:Array Operand} {tys:Array TypeId} {ty:TypeId} {pos:String} {af:Array Edge} {gd:Option (Nat × Bool)} {s:AS} {Q:QE} {F:FuncId} {T:TypeId} {sz n:Nat}
  {y:Operand} (hc:GrowC P F T sz) (hf:s.ev f = .fn F []) (ha:args.toList=[.const (.slice none 0 0),y]) (hy:s.ev y = .i n) (hn:n≤1000000000)
  (h:SW P (.ops all rest :: st) ((s.mk' [] ⟨.rows sz 0 [],some T,true⟩).pt dst (.sl s.nx)) Q) :
  SW P (.ex all ⟨dst,.call ⟨.value f,args,tys⟩,ty,pos,af,gd⟩ rest :: st) s Q:=fun w0 G a w hr=>by
 have hfv:=hr.ev f
 rw [hf] at hfv
 unfold RV at hfv
 obtain ⟨us,hu,hrs⟩:=hfv
 unfold RVs at hrs
 subst hrs
 have hv2:=hr.ev y
 rw [hy] at hv2
 unfold RV at hv2
 have e1:args.toList.map a.eval=[.slice none 0 0,.int .i64 n]:=by rw [ha];simp only [List.map_cons,List.map_nil,hv2];rfl
 obtain ⟨⟨fn,hfn,hbody,hname⟩,hcon⟩:=hc
 have hcall:=hcon n w hn
 show (Oper.mk dst (.call ⟨.value f,args,tys⟩) ty pos af gd).wp P a w _ _
 unfold Oper.wp
 have hrun:(execOp a.eval ⟨dst,.call { callee:=.value f,args:=args,argTypes:=tys },ty,pos,af,gd⟩).run P w = .ok (.enter F #[.slice none 0 0,.int .i64 n]) w:=by
  have e4:((#[]:Array Value)++args.map a.eval)++([]:List Value).toArray = #[.slice none 0 0,.int .i64 n]:=by
   apply Array.ext'; simp [e1]
  simp only [execOp,resolve,Deferred.ofValue,hu,pure_bind,invoke,e4,callFunc,Sem.run_bind,program,Sem.run,Result.andThen_ok,hfn,hname,hbody,Bool.false_eq_true,if_false,Sem.run_pure]
 rw [hrun]
 refine hcall.mono fun e w' ⟨v,he,hown,hb⟩ => ?_
 subst he
 have hbs:=hr.bel.size
 have h':=hr.later hb
 have hown':=ownsRow_r hown
 have hge:∀ k ∈ rowR v,w.heap.size≤k:=fun k hk=>by
  rcases hown.2 with ⟨rfl,_⟩ | ⟨g,cap,cur,rfl,hg,_⟩
  ·simp [rowR] at hk
  ·cases cap with
   | zero=>simp [rowR] at hk
   | succ c=>simp [rowR] at hk;omega
 obtain ⟨a2,cap2,ev,q1,q2,hlt,_⟩:=row_shape hown'
 have hrow:∀ k ∈ rowR v,k<w'.heap.size∧w.heap.size≤k:=fun k hk=>⟨(hlt k hk).1,hge k hk⟩
 have hrn:(rowR v).Nodup:=by
  subst ev
  cases a2 <;> cases cap2 <;> simp [rowR]
 have hO:OwnVs w' [] [] []:=by unfold OwnVs;exact ⟨rfl,rfl⟩
 have hP:∀ S:Nat→Prop,RepPs w' S [] []:=fun S=>by unfold RepPs;rfl
 have hR:Res w0 G.Z w' (rowR v) v ⟨.rows sz 0 [],some T,true⟩:=by
  refine ⟨fun k hk=>⟨⟨fun hz=>absurd (hr.zl _ hz) (Nat.not_lt.2 (hrow k hk).2),.inl (Nat.le_trans hbs (hrow k hk).2)⟩,(hrow k hk).1⟩,row_rep hown' (hP _) (fun k hk => .inr hk),fun _=>⟨by have:=row_own hown' hO;simpa using this,hrn⟩,fun T' hT => ?_⟩
  injection hT with hT
  subst hT
  exact ⟨sz,0,[],[],rfl,hown',hP _,fun k hk=>⟨hk,.inl (Nat.le_trans hbs (hrow k hk).2)⟩,by simp,fun _=>⟨[],hO,by simp,by simp⟩⟩
 obtain ⟨h3,h4⟩:=h'.own' (w':=w') (eats:=[]) h'.bel (Nat.le_refl _) (fun _ _ _=>rfl) hR (by rw [ev];rfl) (fun b cs hl hk=>by
  obtain ⟨_,_,_,_,h7,_⟩:=hr.bx b cs hl
  have:=h7.lt
  have:=(hrow _ hk).2
  omega) (fun o I ho _ k hk hk'=>by
  have:=((hr.own o I ho).2.1.1 k hk).2
  have:=(hrow k hk').2
  omega)
 exact h w0 _ _ w' (h3.pt dst h4)
end Go.Proofs.YtaidalilfmjfgaaGreat
namespace Go.Proofs
open Go.Shelf
def Tryz.YtaidalilfmjfgaaGreatlays106_ren:Go.Shelf.Ren:=⟨fun | 106=>97 | 213=>184 | 265=>242 | n=>n,fun | 9=>9 | 3=>3 | n=>n,fun | n=>n⟩
theorem Tryz.YtaidalilfmjfgaaGreatlays106:Go.Proofs.Lays.n106 Tryz.prog Tryz.YtaidalilfmjfgaaGreatlays106_ren:={
 mixed:=by kernel_rfl
 f106:=Tryz.func97.trans (congrArg some (by kernel_rfl))
 f213:=Tryz.func184.trans (congrArg some (by kernel_rfl))
 f265:=Tryz.func242.trans (congrArg some (by kernel_rfl))
 t3:=Tryz.underlying3
 a3:=Tryz.isAgg3
 z3:=Tryz.sizeOf3
 v3:=Tryz.zeroValue3
 t9:=Tryz.underlying9
 a9:=Tryz.isAgg9
 z9:=Tryz.sizeOf9
 v9:=Tryz.zeroValue9 }
open Go.RowKit Go.Lib in
theorem Tryz.YtaidalilfmjfgaaGreatstrings_Compare (a b:ByteArray) (w:World) :
  Calls Tryz.prog 97 #[.string a,.string b] w fun e w'=>e = .returned (.int .i64 (Lib.compareBytes a.data.toList b.data.toList))∧w'=w:=Any.strings_Compare Tryz.YtaidalilfmjfgaaGreatlays106 a b w
end Go.Proofs
namespace Go.Proofs.YtaidalilfmjfgaaGreat
open Go.RowKit
set_option linter.unusedVariables false
set_option linter.unusedSimpArgs false
set_option maxRecDepth 20000
def flatD':List D→Prop
 | []=>True
 | d :: ds=>d.prim=true∧flatD' ds
def ConW (P : Program) (f : FuncId) (T : TypeId) (d d' : D) (ps : List PD) : Prop :=
  (∃ fn, P.funcs[f]? = some fn ∧ fn.body.isNone = false ∧ (fn.name == "runtime.NumGoroutine") = false) ∧
  ∀ w v us fp fw S, GI w → (∀ k ∈ GBl, S k) → (∀ k, S k → k < w.heap.size ∧ k ∉ fp) → RepPAs w S (.m (.a T d) :: ps.map PA.b) (v :: us) fp fw → fp.Nodup → Calls P f (v :: us).toArray w fun e w' =>
    e = .returned (.tuple #[]) ∧ Bel (· ∈ fp) w w' ∧ ∃ fp', OwnVs w' [d'] [v] fp' ∧ fp'.Nodup ∧ ∀ j ∈ fp', j ∈ fp
theorem ownVs_flat {w : World} : ∀ {ds : List D} {vs : List Value} {fp : List Nat}, flatD' ds → OwnVs w ds vs fp → fp = []
  | [], vs, fp, _, h => by unfold OwnVs at h; exact h.2
  | d :: ds, vs, fp, hf, h => by
    unfold OwnVs at h
    obtain ⟨v, r, f1, f2, rfl, rfl, h1, h2⟩ := h
    have e1 : f1 = [] := by
      have := hf.1
      cases d <;> first | (unfold OwnV at h1; exact h1.2) | (simp [D.prim] at this)
    rw [e1, ownVs_flat hf.2 h2]; rfl
def s0W (nt:Nat) (args:List PA):AS:={ s0P nt args with pb:=[0] }
def xRetW (s : AS) (d' : D) : Prop := match s.pb with
  | [b] => match s.owf b with
    | some I => I.deep = true ∧ I.d = d'
    | none => False
  | _ => False
theorem mkPs_b : ∀ (ps : List PD) (s : AS), (mkPs s (ps.map PA.b)).2 = s
  | [], s => rfl
  | p :: ps, s => by
    rw [List.map_cons]
    unfold mkPs mkPA
    exact mkPs_b ps s
theorem nPs_b:∀ (ps:List PD),nPs (ps.map PA.b)=0
 | []=>rfl
 | p :: ps=>by rw [List.map_cons];unfold nPs nP;rw [nPs_b ps]
theorem con_ofW {P : Program} {f : FuncId} {fn : Func} {c : Code} {T : TypeId} {d d' : D} {ps : List PD} (hf : P.funcs[f]? = some fn) (hb : fn.body = some c) (hn : (fn.name == "runtime.NumGoroutine") = false) (hnt : ps.length + 1 ≤ fn.ntmps) (hres : fn.results = #[])
  (hfl:∃ sz n cs,d' = .rows sz n cs∧flatD' cs)
  (h:XW P c (s0W fn.ntmps (.m (.a T d) :: ps.map PA.b)) fun e s=>(e = .ret∨e = .normal)∧xRetW s d'):ConW P f T d d' ps:=by
 refine ⟨⟨fn,hf,by simp [hb],hn⟩,fun w v us fp fw S hg hgs hS hu hnd=>calls_of_wp hf hb ?_⟩
 have hlen:=hu.len
 simp only [List.length_cons,List.length_map] at hlen
 have hrel0:Rel ⟨w,fun k=>k ∈ fp,fun k=>k ∈ fp,fun _=>0,fun _=>none,S,fun _ h=>h,fun _ h=>h,GI_st hg (fun k hk=>(hS k (hgs k hk)).2),hgs⟩ ⟨fun _=>[],fun _=>undef,fun _=>0,S⟩ ⟨fn.ntmps,[],[],[],0,[]⟩ { tmps:=(v :: us).toArray++Array.replicate (fn.ntmps-(v :: us).toArray.size) undef,defers:=[] } w :=
  ⟨by simp;omega,rfl,fun t v ht=>(by cases ht),fun b cs hb=>(by cases hb),fun _ _ _ _ hb=>(by cases hb),fun o I ho=>(by cases ho),fun _ _ _ _ ho=>(by cases ho),Bel.refl _ _,fun k hk=>(hS k hk).1,fun _ _ hb=>(by simp at hb),fun _ hk=>hk,fun _ hk => .inl hk⟩
 have hpl:=ptrs_len (.m (.a T d) :: ps.map PA.b) hu
 have hn0:nPs (.m (.a T d) :: ps.map PA.b)=0:=by unfold nPs nP;rw [nPs_b ps]
 obtain ⟨G',hm,hrv⟩:=mkPs_ok (fun _=>rfl) (.m (.a T d) :: ps.map PA.b) (v :: us) fp fw _ _ hrel0 hu rfl hnd (fun k hk=>⟨fun hz=>(hS k hz).2 hk,.inr hk⟩) (fun k hk => .inr (fws_sub (.m (.a T d) :: ps.map PA.b) hu k hk)) (fun k hk=>⟨fun b cs hb=>(by cases hb),fun o I ho=>(by cases ho)⟩) (fun i g hi=>by
  rw [List.getElem?_eq_none (by omega)] at hi;cases hi)
 have hr1:=hm.rel
 have he2:(mkPs ⟨fn.ntmps,[],[],[],0,[]⟩ (.m (.a T d) :: ps.map PA.b)).2=(⟨fn.ntmps,[],[],[],0,[]⟩:AS).mk' [] ⟨d,some T,true⟩:=by
  unfold mkPs mkPA mkC mkC
  exact mkPs_b ps _
 have he1:∃ r,(mkPs ⟨fn.ntmps,[],[],[],0,[]⟩ (.m (.a T d) :: ps.map PA.b)).1 = .sl 0 :: r:=by
  unfold mkPs mkPA mkC mkC;exact ⟨_,rfl⟩
 obtain ⟨r,he1⟩:=he1
 have ho0:(mkPs ⟨fn.ntmps,[],[],[],0,[]⟩ (.m (.a T d) :: ps.map PA.b)).2.owf 0=some ⟨d,some T,true⟩:=by rw [he2];rfl
 have hnx:0<(mkPs ⟨fn.ntmps,[],[],[],0,[]⟩ (.m (.a T d) :: ps.map PA.b)).2.nx:=by rw [he2];show 0<0+1;omega
 have hroot:G'.root 0=v:=by
  have h1:=hrv
  rw [he1] at h1
  unfold RVs at h1
  obtain ⟨u,r',e,h2,_⟩:=h1
  injection e with e1 e2
  unfold RV at h2
  rw [e1]
  exact (h2.2.2 _ ho0).symm
 have hrel:Rel ⟨w,fun k=>k ∈ fp,fun k=>k ∈ fp,fun _=>G'.β 0,fun _=>some v,S,fun _ h=>h,fun _ h=>h,GI_st hg (fun k hk=>(hS k (hgs k hk)).2),hgs⟩ G' (s0W fn.ntmps (.m (.a T d) :: ps.map PA.b)) { tmps:=(v :: us).toArray++Array.replicate (fn.ntmps-(v :: us).toArray.size) undef,defers:=[] } w:=by
  refine ⟨hr1.nt,rfl,fun t v' ht => ?_,hr1.bx,hr1.inj,hr1.own,hr1.dis,hr1.bel,hr1.zl,fun i b hb => ?_,hr1.zz⟩
  ·obtain ⟨_,u,hu',hv⟩:=numT_look _ (v :: us) 0 t v' hrv ht
   refine ⟨u, ?_,hv⟩
   have hlt:t<(v :: us).length:=by
    simp only [Nat.sub_zero] at hu'
    exact (List.getElem?_eq_some_iff.1 hu').1
   rw [Array.getElem?_append_left (by simpa using hlt)]
   simpa using hu'
  ·have hb':([0]:List Nat)[i]? = some b:=hb
   have:b=0:=by
    cases i with
    | zero=>simpa using hb'.symm
    | succ i=>simp at hb'
   subst this
   exact ⟨hnx,rfl,fun v' hv'=>by injection hv' with hv'; rw [← hv'];exact hroot⟩
 refine wp_mono (h _ _ _ w hrel) fun e a' w' ⟨G2,s',hr',he,hret⟩ => ?_
 obtain ⟨sz,n,cs,rfl,hfl⟩:=hfl
 unfold xRetW at hret
 split at hret
 ·rename_i b hpb
  split at hret
  ·rename_i I hI
   obtain ⟨hdeep,hId⟩:=hret
   obtain ⟨_,hRes,_⟩:=hr'.own b I hI
   have hrt:G2.root b=v:=(hr'.pb 0 b (by rw [hpb];rfl)).2.2 v rfl
   obtain ⟨hO,hnd2⟩:=hRes.2.2.1 hdeep
   rw [hId,hrt] at hO
   have hfp':∃ fp',OwnV w' (.rows sz n cs) v fp'∧fp'.Nodup∧∀ j ∈ fp',j ∈ fp:=by
    have hO':=hO
    unfold OwnV at hO
    obtain ⟨a,cap,hv,hnc,hcm,hcl,hO⟩:=hO
    rcases Nat.eq_zero_or_pos n with h0 | h0
    ·exact ⟨[],by unfold OwnV;exact ⟨a,cap,hv,hnc,hcm,hcl,.inl ⟨h0,rfl⟩⟩,List.nodup_nil,by simp⟩
    ·rcases hO with ⟨h1,_⟩ | ⟨g,off,vs,f',ha,_,hB,_,_,hvs⟩
     ·omega
     ·refine ⟨G2.B b,hO',hnd2,fun j hj => ?_⟩
      rw [ownVs_flat hfl hvs] at hB
      rw [hB] at hj
      obtain rfl:=List.mem_singleton.1 hj
      unfold RepPAs at hu
      obtain ⟨v0,r0,f1,f2,w1,w2,e0,hfp0,_,hA,_⟩:=hu
      injection e0 with e0 _
      subst e0
      unfold RepPA OwnC at hA
      obtain ⟨_,_,_,_,fq,_,_,_,hf1,_⟩:=hA
      rw [hfp0,hf1,hv,ha]
      obtain ⟨cap',rfl⟩:∃ c',cap=c'+1:=⟨cap-1,by omega⟩
      simp [rowR]
   obtain ⟨fp',q1,q2,q3⟩:=hfp'
   have hpost:a'.defers=[]∧∃ u,(results fn a'.tmps).run P w' = .ok u w'∧((Ending.returned u) = .returned (.tuple #[])∧Bel (· ∈ fp) w w'∧∃ fp',OwnVs w' [.rows sz n cs] [v] fp'∧fp'.Nodup∧∀ j ∈ fp',j ∈ fp):=by
    refine ⟨hr'.df,.tuple #[],results_none hres _ _ _,rfl,hr'.bel,fp', ?_,q2,q3⟩
    unfold OwnVs OwnVs
    exact ⟨v,[],fp',[],rfl,by simp,q1,rfl,rfl⟩
   rcases he with rfl | rfl <;> exact hpost
  ·exact hret.elim
 ·exact hret.elim
def fQW (d':D) (e:Exit) (s:AS):Prop:=(e = .ret∨e = .normal)∧xRetW s d'
theorem con_runW {P : Program} {f : FuncId} {fn : Func} {c : Code} {T : TypeId} {d d' : D} {ps : List PD} (hf : P.funcs[f]? = some fn) (hb : fn.body = some c) (hn : (fn.name == "runtime.NumGoroutine") = false) (hnt : ps.length + 1 ≤ fn.ntmps) (hres : fn.results = #[])
  (hfl:∃ sz n cs,d' = .rows sz n cs∧flatD' cs) (h:xRun P 400 [.code c] (s0W fn.ntmps (.m (.a T d) :: ps.map PA.b)) (fQW d')):ConW P f T d d' ps :=
 con_ofW hf hb hn hnt hres hfl (XW_of_SW (sw_run 400 _ _ _ h))
theorem ePs_b (s : AS) : ∀ (l : List AV) (ps : List PD), ePs s l (ps.map PA.b) = []
  | [], [] => rfl
  | [], _ :: _ => rfl
  | a :: l, [] => rfl
  | a :: l, p :: ps => by
    rw [List.map_cons]
    unfold ePs
    rw [ePs_b s l ps]
    cases a <;> rfl
theorem bPs_b : ∀ (l : List AV) (ps : List PD), bPs l (ps.map PA.b) = []
  | [], [] => rfl
  | [], _ :: _ => rfl
  | a :: l, [] => rfl
  | a :: l, p :: ps => by
    rw [List.map_cons]
    unfold bPs
    rw [bPs_b l ps]
    cases a <;> rfl
theorem sw_callW {P:Program} {all rest:List Oper} {st:List It} {dst:Option Tmp} {f:Operand} {args:Array Operand} {tys:Array TypeId} {ty:TypeId} {pos:String} {af:Array Edge} {gd:Option (Nat × Bool)} {s:AS} {Q:QE} {F:FuncId} {o:Nat} {ys:List AV} {T:TypeId} {d d':D} {ps:List PD}
  (hc:ConW P F T d d' ps) (hf:s.ev f = .fn F []) (ha:args.toList.map s.ev = .sl o :: ys) (hI:s.owf o=some ⟨d,some T,true⟩) (hs:shp2 d d') (hys:mPs ((s.kl [o]).kb []) s ys (ps.map PA.b))
  (h:SW P (.ops all rest :: st) ((s.lend [.sl o] [d']).pt dst (.tu [])) Q) :
  SW P (.ex all ⟨dst,.call ⟨.value f,args,tys⟩,ty,pos,af,gd⟩ rest :: st) s Q:=fun w0 G a w hr=>by
 obtain ⟨G,hr,hq⟩:=hr.flq
 have hfv:=hr.ev f
 rw [hf] at hfv
 unfold RV at hfv
 obtain ⟨us,hu,hrs⟩:=hfv
 unfold RVs at hrs
 subst hrs
 have hargs:=hr.evs args.toList
 rw [ha] at hargs
 have he:ePs s (.sl o :: ys) (.m (.a T d) :: ps.map PA.b)=[o]:=by unfold ePs eP eC;rw [ePs_b];rfl
 have hb:bPs (.sl o :: ys) (.m (.a T d) :: ps.map PA.b)=[]:=by unfold bPs bP;rw [bPs_b];rfl
 have hrt1:Rel w0 { G with Z:=G.Z } ((s.kl [o]).kb []) a w :=
  (hr.aft (e:=[o]) (b:=[]) (fp:=[]) (fw:=[]) (w':=w) (Z1:=G.Z) (Bel.refl _ _) (by simp) (by simp) (fun _ h=>h) (fun _ h => .inl h) hr.zl)
 have hm:mPs ((s.kl [o]).kb []) s (.sl o :: ys) (.m (.a T d) :: ps.map PA.b):=by
  unfold mPs
  refine ⟨?_,hys⟩
  show (match s.owf o with | some I=>(I.ap=some T∧I.deep=true)∧I.d=d | none=>False)
  rw [hI];exact ⟨⟨rfl,rfl⟩,rfl⟩
 obtain ⟨fp,fw,hrep,hnd,hfr,hfw,hptr,hlive⟩:=mPs_own hr hq hrt1 rfl (fun o I ho=>(kl_owf ho).1) (.m (.a T d) :: ps.map PA.b) hargs hm (by rw [he];simp) (by rw [hb];exact List.nodup_nil)
 rw [he,hb] at hfr
 have hargs':=hargs
 unfold RVs at hargs'
 obtain ⟨v,r,e1,hv1,hv2⟩:=hargs'
 rw [e1] at hrep
 have hS:∀ k,Reach G ((s.kl [o]).kb []) k→k<w.heap.size∧k ∉ fp:=fun k hk=>by
  refine ⟨hrt1.reach k hk,fun hk' => ?_⟩
  have h1:=hfr k hk'
  rcases hk with hz | ⟨o',I,ho,hk⟩ | ⟨x,cs,hx,rfl⟩
  ·exact (Fr.lt hr h1).1.1 hz
  ·obtain ⟨q1,q2⟩:=kl_owf (s:=s) (l:=[o]) ho
   exact Fr.ne hr h1 (.inl ⟨o',List.mem_cons_self,I,q1,hk⟩:Fr G s [o'] [] k) (fun q hq hq'=>q2 (List.mem_singleton.1 hq' ▸ hq)) (by simp)
  ·unfold AS.kb at hx
   simp only at hx
   rw [look_rmBs] at hx
   split at hx
   ·cases hx
   ·exact Fr.ne hr h1 (.inr ⟨x,List.mem_cons_self,cs,hx,rfl⟩:Fr G s [] [x] _) (by simp) (by simp)
 obtain ⟨⟨fn,hfn,hbody,hname⟩,hcon⟩:=hc
 have hcall:=hcon w v r fp fw _ (w0.gi w hr.bel.size hr.bel.block) (fun k hk => .inl (hr.zz.1 k (w0.gz k hk))) hS hrep hnd
 show (Oper.mk dst (.call ⟨.value f,args,tys⟩) ty pos af gd).wp P a w _ _
 unfold Oper.wp
 have hrun:(execOp a.eval ⟨dst,.call { callee:=.value f,args:=args,argTypes:=tys },ty,pos,af,gd⟩).run P w = .ok (.enter F (v :: r).toArray) w:=by
  have e4:((#[]:Array Value)++args.map a.eval)++([]:List Value).toArray=(v :: r).toArray:=by
   apply Array.ext'; simp [e1]
  simp only [execOp,resolve,Deferred.ofValue,hu,pure_bind,invoke,e4,callFunc,Sem.run_bind,program,Sem.run,Result.andThen_ok,hfn,hname,hbody,Bool.false_eq_true,if_false,Sem.run_pure]
 rw [hrun]
 refine hcall.mono fun e w' ⟨hen,hbl,fp',hw,hn,hsub⟩ => ?_
 subst hen
 have hdd:rDs s [.sl o] [d]:=⟨by cases d <;> (show (match s.owf o with | some I=>I.deep=true∧I.d=_ | none=>False);rw [hI];exact ⟨rfl,rfl⟩),trivial⟩
 obtain ⟨G',hr'⟩:=hr.lend (l:=[.sl o]) (vs:=[v]) (ds:=[d]) (es:=[d']) (by unfold RVs RVs;exact ⟨v,[],rfl,hv1,rfl⟩) hdd ⟨hs,trivial⟩ (by simp [eatsOf]) (fun k hk=>by simpa [eatsOf] using hfr k hk) hbl hw hn hsub
 exact h w0 G' _ w' (hr'.pt dst (by unfold RV;exact ⟨[],rfl,by unfold RVs;rfl⟩))
def nmL (x:Im):List UInt8:=x.name.data.toList
theorem cb_lt : ∀ a b : List UInt8, Lib.compareBytes a b < 0 ↔ a < b
  | [], [] => by simp [Lib.compareBytes]
  | [], b :: m => by simp [Lib.compareBytes]
  | a :: l, [] => by simp [Lib.compareBytes]
  | a :: l, b :: m => by
    rw [List.cons_lt_cons_iff, Lib.compareBytes]
    by_cases h1 : a < b
    · rw [if_pos h1]; simp [h1]
    · rw [if_neg h1]
      by_cases h2 : b < a
      · rw [if_pos h2]
        have h3 : ¬ a = b := fun e => by subst e; exact h1 h2
        simp [h1, h3]
      · rw [if_neg h2, cb_lt l m]
        have h3 : a = b := UInt8.le_antisymm (UInt8.not_lt.1 h2) (UInt8.not_lt.1 h1)
        simp [h3]
theorem lt_irr (a:List UInt8):¬ a<a:=List.lt_irrefl a
theorem lt_tr {a b c:List UInt8} (h1:a<b) (h2:b<c):a<c:=List.lt_trans h1 h2
theorem lt_tot {a b:List UInt8} (h1:¬ a<b) (h2:¬ b<a):a=b:=List.le_antisymm (List.not_lt.1 h2) (List.not_lt.1 h1)
theorem nm_inj {x y:Im} (h:nmL x=nmL y):x.name=y.name:=by
 obtain ⟨⟨⟨l⟩⟩,c⟩:=x
 obtain ⟨⟨⟨m⟩⟩,d⟩:=y
 have e:l=m:=h
 rw [e]
def red (n:Int):Int:=n % 10007
def mgI : List Im → List Im → List Im
  | [], b => b
  | x :: a, [] => x :: a
  | x :: a, y :: b =>
    if nmL x < nmL y then x :: mgI a (y :: b)
    else if nmL y < nmL x then y :: mgI (x :: a) b
    else if red (x.coef + y.coef) = 0 then mgI a b else ⟨x.name, red (x.coef + y.coef)⟩ :: mgI a b
termination_by a b=>a.length+b.length
def ascL:List Im→Prop
 | []=>True
 | [_]=>True
 | x :: y :: r=>nmL x<nmL y∧ascL (y :: r)
def okC (l:List Im):Prop:=∀ x ∈ l,¬ x.coef=0
def bey (n:List UInt8) (l:List Im):Prop:=∀ x ∈ l,n<nmL x
theorem asc_bey {x : Im} {l : List Im} (h : ascL (x :: l)) : bey (nmL x) l ∧ ascL l := by
  induction l generalizing x with
  | nil => exact ⟨fun _ h => (by cases h), trivial⟩
  | cons y r ih =>
    obtain ⟨h1, h2⟩ := h
    obtain ⟨h3, _⟩ := ih h2
    refine ⟨fun z hz => ?_, h2⟩
    rcases List.mem_cons.1 hz with rfl | hz
    · exact h1
    · exact lt_tr h1 (h3 z hz)
theorem bey_mono {m n:List UInt8} {l:List Im} (h:m<n) (hb:bey n l):bey m l:=fun x hx=>lt_tr h (hb x hx)
theorem mg_nil (a:List Im):mgI a []=a:=by cases a <;> simp [mgI]
theorem mg_cons (x y:Im) (a b:List Im):mgI (x :: a) (y :: b)=if nmL x<nmL y then x :: mgI a (y :: b)
  else if nmL y<nmL x then y :: mgI (x :: a) b
  else if red (x.coef+y.coef)=0 then mgI a b else ⟨x.name,red (x.coef+y.coef)⟩ :: mgI a b:=by rw [mgI]
theorem mg_first {x:Im} {a b:List Im} (h:bey (nmL x) b):mgI (x :: a) b=x :: mgI a b:=by
 cases b with
 | nil=>rw [mg_nil,mg_nil]
 | cons y b=>rw [mg_cons,if_pos (h y (by simp))]
def putL : List Im → Im → List Im
  | [], y => if y.coef = 0 then [] else [y]
  | x :: a, y =>
    if nmL x < nmL y then x :: putL a y
    else if nmL y < nmL x then (if y.coef = 0 then x :: a else y :: x :: a)
    else if red (y.coef + x.coef) = 0 then a else ⟨y.name, red (y.coef + x.coef)⟩ :: a
theorem put_mg (y : Im) (b : List Im) (hy : ¬ y.coef = 0) (hb : bey (nmL y) b) : ∀ a, ascL a → mgI (putL a y) b = mgI a (y :: b)
  | [], _ => by rw [putL, if_neg hy, mg_first hb]; simp [mgI]
  | x :: a, ha => by
    obtain ⟨hx, ha'⟩ := asc_bey ha
    rw [putL, mg_cons]
    by_cases h1 : nmL x < nmL y
    · rw [if_pos h1, if_pos h1, mg_first (bey_mono h1 hb), put_mg y b hy hb a ha']
    · rw [if_neg h1, if_neg h1]
      by_cases h2 : nmL y < nmL x
      · rw [if_pos h2, if_neg hy, if_pos h2, mg_first hb]
      · rw [if_neg h2, if_neg h2]
        have e := lt_tot h1 h2
        have en := nm_inj e
        rw [Int.add_comm y.coef x.coef]
        by_cases h3 : red (x.coef + y.coef) = 0
        · rw [if_pos h3, if_pos h3]
        · rw [if_neg h3, if_neg h3, mg_first (x := ⟨y.name, red (x.coef + y.coef)⟩) hb, en]
theorem put_bey {n : List UInt8} (y : Im) (hy : n < nmL y) : ∀ a, bey n a → bey n (putL a y)
  | [], _ => by
    rw [putL]; split
    · exact fun _ h => by cases h
    · intro z hz; rw [List.mem_singleton.1 hz]; exact hy
  | x :: a, h => by
    have hx : n < nmL x := h x (by simp)
    have ha : bey n a := fun z hz => h z (by simp [hz])
    rw [putL]
    split
    · intro z hz
      rcases List.mem_cons.1 hz with rfl | hz
      · exact hx
      · exact put_bey y hy a ha z hz
    · split
      · split
        · exact h
        · intro z hz
          rcases List.mem_cons.1 hz with rfl | hz
          · exact hy
          · exact h z hz
      · split
        · exact ha
        · intro z hz
          rcases List.mem_cons.1 hz with rfl | hz
          · exact hy
          · exact ha z hz
theorem asc_cons {x:Im} {l:List Im} (h1:bey (nmL x) l) (h2:ascL l):ascL (x :: l):=by
 cases l with
 | nil=>trivial
 | cons y r=>exact ⟨h1 y (by simp),h2⟩
theorem put_asc (y : Im) : ∀ a, ascL a → ascL (putL a y)
  | [], _ => by rw [putL]; split <;> trivial
  | x :: a, ha => by
    obtain ⟨hx, ha'⟩ := asc_bey ha
    rw [putL]
    split
    · rename_i h; exact asc_cons (put_bey y h a hx) (put_asc y a ha')
    · rename_i h1
      split
      · rename_i h2
        split
        · exact ha
        · exact ⟨h2, ha⟩
      · rename_i h2
        have e := lt_tot h1 h2
        split
        · exact ha'
        · exact asc_cons (show bey (nmL y) a from e ▸ hx) ha'
theorem fold_put : ∀ (b a : List Im), ascL a → ascL b → okC b → b.foldl putL a = mgI a b
  | [], a, _, _, _ => by rw [mg_nil]; rfl
  | y :: b, a, ha, hb, hc => by
    obtain ⟨h1, h2⟩ := asc_bey hb
    rw [List.foldl_cons, fold_put b _ (put_asc y a ha) h2 (fun x hx => hc x (by simp [hx])), put_mg y b (hc y (by simp)) h1 a ha]
def stM:List Im→List Im→List Im
 | [],b=>b
 | x :: a,[]=>x :: a
 | x :: a,y :: b=>if nmL y<nmL x then y :: stM (x :: a) b else x :: stM a (y :: b)
termination_by a b=>a.length+b.length
theorem st_nil (a:List Im):stM a []=a:=by cases a <;> simp [stM]
theorem st_cons (x y:Im) (a b:List Im):stM (x :: a) (y :: b)=if nmL y<nmL x then y :: stM (x :: a) b else x :: stM a (y :: b):=by rw [stM]
theorem st_first {x:Im} {a b:List Im} (h:∀ z ∈ b,¬ nmL z<nmL x):stM (x :: a) b=x :: stM a b:=by
 cases b with
 | nil=>rw [st_nil,st_nil]
 | cons y b=>rw [st_cons,if_neg (h y (by simp))]
def insL (y:Im):List Im→List Im
 | []=>[y]
 | x :: a=>if nmL y<nmL x then y :: x :: a else x :: insL y a
def wkL:List Im→Prop
 | []=>True
 | [_]=>True
 | x :: y :: r=>¬ nmL y<nmL x∧wkL (y :: r)
theorem ins_st (y : Im) (b : List Im) (hb : bey (nmL y) b) : ∀ a, stM (insL y a) b = stM a (y :: b)
  | [] => by
    rw [insL, st_first (fun z hz h => lt_irr _ (lt_tr (hb z hz) h)), stM, stM]
  | x :: a => by
    rw [insL, st_cons]
    by_cases h : nmL y < nmL x
    · rw [if_pos h, if_pos h, st_first (fun z hz h' => lt_irr _ (lt_tr (hb z hz) h'))]
    · rw [if_neg h, if_neg h, st_first (fun z hz h' => h (lt_tr (hb z hz) h')), ins_st y b hb a]
theorem fold_ins : ∀ (b a : List Im), ascL b → b.foldl (fun A y => insL y A) a = stM a b
  | [], a, _ => by rw [st_nil]; rfl
  | y :: b, a, hb => by
    obtain ⟨h1, h2⟩ := asc_bey hb
    rw [List.foldl_cons, fold_ins b _ h2, ins_st y b h1]
def joinS (out:List Im) (x:Im):List Im:=match out.getLast? with
 | some l=>if l.name=x.name then out.dropLast++[⟨l.name,red (l.coef+x.coef)⟩] else out++[x]
 | none=>out++[x]
def delZ (l:List Im):List Im:=l.filter fun x => !decide (x.coef=0)
theorem join_new {out:List Im} {x:Im} (h:∀ l,out.getLast? = some l→nmL l<nmL x):joinS out x=out++[x]:=by
 unfold joinS
 split
 ·rename_i l hl
  rw [if_neg]
  intro e
  have h1:=h l hl
  have:nmL l=nmL x:=by unfold nmL;rw [e]
  rw [this] at h1
  exact lt_irr _ h1
 ·rfl
theorem del_app (a b:List Im):delZ (a++b)=delZ a++delZ b:=by unfold delZ;rw [List.filter_append]
theorem del_ok {a:List Im} (h:okC a):delZ a=a:=by
 unfold delZ
 rw [List.filter_eq_self]
 intro x hx
 simp [h x hx]
theorem fold_new : ∀ (b out : List Im), ascL b → (∀ l, out.getLast? = some l → bey (nmL l) b) → b.foldl joinS out = out ++ b
  | [], out, _, _ => by simp
  | x :: b, out, hb, h => by
    obtain ⟨h1, h2⟩ := asc_bey hb
    rw [List.foldl_cons, join_new (fun l hl => h l hl x (by simp)), fold_new b _ h2 (fun l hl => by
      rw [List.getLast?_append] at hl
      simp at hl
      rw [← hl]; exact h1)]
    simp
theorem fold_join : ∀ (n : Nat) (a b out : List Im), a.length + b.length ≤ n → ascL a → ascL b → okC a → okC b → (∀ l, out.getLast? = some l → bey (nmL l) a ∧ bey (nmL l) b) → delZ ((stM a b).foldl joinS out) = delZ out ++ mgI a b := by
  intro n
  induction n with
  | zero =>
    intro a b out hn _ _ _ _ _
    have ha : a = [] := List.eq_nil_of_length_eq_zero (by omega)
    have hb : b = [] := List.eq_nil_of_length_eq_zero (by omega)
    subst ha hb
    simp [stM, mgI]
  | succ n ih =>
    intro a b out hn ha hb hca hcb ho
    cases a with
    | nil =>
      rw [show stM [] b = b by rw [stM], show mgI [] b = b by rw [mgI], fold_new b out hb (fun l hl => (ho l hl).2), del_app, del_ok hcb]
    | cons x a =>
      cases b with
      | nil => rw [st_nil, mg_nil, fold_new _ out ha (fun l hl => (ho l hl).1), del_app, del_ok hca]
      | cons y b =>
        obtain ⟨hx, ha'⟩ := asc_bey ha
        obtain ⟨hy, hb'⟩ := asc_bey hb
        have hca' : okC a := fun z hz => hca z (by simp [hz])
        have hcb' : okC b := fun z hz => hcb z (by simp [hz])
        simp only [List.length_cons] at hn
        have lastS : ∀ (o : List Im) (z : Im) l, (o ++ [z]).getLast? = some l → l = z := fun o z l hl => by
          rw [List.getLast?_append] at hl; simp at hl; exact hl.symm
        have dz1 : ∀ (o : List Im) (z : Im), ¬ z.coef = 0 → delZ (o ++ [z]) = delZ o ++ [z] := fun o z hz => by rw [del_app, del_ok (show okC [z] from fun w hw => by rw [List.mem_singleton.1 hw]; exact hz)]
        rw [st_cons, mg_cons]
        by_cases h1 : nmL x < nmL y
        · have h2 : ¬ nmL y < nmL x := fun h => lt_irr _ (lt_tr h h1)
          rw [if_neg h2, if_pos h1, List.foldl_cons, join_new (fun l hl => (ho l hl).1 x (by simp)), ih a (y :: b) _ (by simp only [List.length_cons]; omega) ha' hb hca' hcb (fun l hl => by
            rw [lastS _ _ _ hl]
            exact ⟨hx, fun z hz => by
              rcases List.mem_cons.1 hz with rfl | hz
              · exact h1
              · exact lt_tr h1 (hy z hz)⟩), dz1 _ _ (hca x (by simp)), List.append_assoc]
          rfl
        · rw [if_neg h1]
          by_cases h2 : nmL y < nmL x
          · rw [if_pos h2, if_pos h2, List.foldl_cons, join_new (fun l hl => (ho l hl).2 y (by simp)), ih (x :: a) b _ (by simp only [List.length_cons]; omega) ha hb' hca hcb' (fun l hl => by
              rw [lastS _ _ _ hl]
              exact ⟨fun z hz => by
                rcases List.mem_cons.1 hz with rfl | hz
                · exact h2
                · exact lt_tr h2 (hx z hz), hy⟩), dz1 _ _ (hcb y (by simp)), List.append_assoc]
            rfl
          · have e := lt_tot h1 h2
            have en := nm_inj e
            have hax : bey (nmL y) a := e ▸ hx
            have hstep : stM a (y :: b) = y :: stM a b := by
              cases a with
              | nil => rw [stM, stM]
              | cons z a => rw [st_cons, if_pos (hax z (by simp))]
            have hj : joinS (out ++ [x]) y = out ++ [⟨x.name, red (x.coef + y.coef)⟩] := by
              unfold joinS
              rw [List.getLast?_append]
              simp [en]
            rw [if_neg h2, if_neg h2, List.foldl_cons, join_new (fun l hl => (ho l hl).1 x (by simp)), hstep, List.foldl_cons, hj, ih a b _ (by omega) ha' hb' hca' hcb' (fun l hl => by
              rw [lastS _ _ _ hl]
              exact ⟨hx, (show bey (nmL x) b from e ▸ hy)⟩), del_app, List.append_assoc]
            congr 1
            by_cases h3 : red (x.coef + y.coef) = 0
            · rw [if_pos h3]; simp [delZ, h3]
            · rw [if_neg h3]; simp [delZ, h3]
def cmpN (x y:Im):Int:=Lib.compareBytes (nmL x) (nmL y)
def stp (x:Im) (A:List Im):Nat→Nat
 | 0=>0
 | j+1=>if cmpN x A[j]! < 0 then stp x A j else j+1
def insP (x:Im) (A:List Im):List Im:=A.take (stp x A A.length)++x :: A.drop (stp x A A.length)
def srt (xs:List Im):Nat→List Im
 | 0=>[]
 | k+1=>insP xs[k]! (srt xs k)
theorem stp_le (x : Im) (A : List Im) : ∀ j, stp x A j ≤ j
  | 0 => Nat.le_refl _
  | j + 1 => by
    rw [stp]; split
    · exact Nat.le_succ_of_le (stp_le x A j)
    · exact Nat.le_refl _
theorem insP_len (x:Im) (A:List Im):(insP x A).length=A.length+1:=by
 have:=stp_le x A A.length
 rw [insP,List.length_append,List.length_take,List.length_cons,List.length_drop];omega
theorem srt_len (xs:List Im):∀ k,(srt xs k).length=k
 | 0=>rfl
 | k+1=>by rw [srt,insP_len,srt_len xs k]
theorem stp_spec (x : Im) (A : List Im) : ∀ j, (∀ k, stp x A j ≤ k → k < j → nmL x < nmL A[k]!) ∧ (0 < stp x A j → ¬ nmL x < nmL A[stp x A j - 1]!)
  | 0 => ⟨fun k _ h => by omega, fun h => by simp [stp] at h⟩
  | j + 1 => by
    obtain ⟨h1, h2⟩ := stp_spec x A j
    rw [stp]
    by_cases h : cmpN x A[j]! < 0
    · rw [if_pos h]
      refine ⟨fun k hk hkj => ?_, h2⟩
      by_cases e : k = j
      · rw [e]; exact (cb_lt _ _).1 h
      · exact h1 k hk (by omega)
    · rw [if_neg h]
      exact ⟨fun k _ _ => by omega, fun _ h' => h ((cb_lt _ _).2 h')⟩
theorem wk_cons {x:Im} {l:List Im} (h:wkL (x :: l)):wkL l:=by
 cases l with
 | nil=>trivial
 | cons y r=>exact h.2
theorem wk_head {x : Im} {l : List Im} (h : wkL (x :: l)) : ∀ y ∈ l, ¬ nmL y < nmL x := by
  induction l generalizing x with
  | nil => intro y hy; cases hy
  | cons z r ih =>
    intro y hy
    rcases List.mem_cons.1 hy with rfl | hy
    · exact h.1
    · have h1 := ih h.2 y hy
      intro h2
      by_cases h3 : nmL z < nmL x
      · exact h.1 h3
      · by_cases h4 : nmL x < nmL z
        · exact h1 (lt_tr h2 h4)
        · rw [lt_tot h3 h4] at h1; exact h1 h2
theorem wk_at : ∀ (A : List Im), wkL A → ∀ i j, i ≤ j → j < A.length → ¬ nmL A[j]! < nmL A[i]!
  | [], _, i, j, _, h => by simp at h
  | x :: A, hA, 0, 0, _, _ => lt_irr _
  | x :: A, hA, 0, j + 1, _, h => by
    have hj : j < A.length := by simpa using h
    have := wk_head hA A[j]! (by rw [getElem!_pos A j hj]; exact List.getElem_mem hj)
    simpa using this
  | x :: A, hA, i + 1, 0, h, _ => by omega
  | x :: A, hA, i + 1, j + 1, h, h2 => by
    have := wk_at A (wk_cons hA) i j (by omega) (by simpa using h2)
    simpa using this
theorem ins_split (x : Im) : ∀ (A : List Im) (p : Nat), p ≤ A.length → (∀ k, k < p → ¬ nmL x < nmL A[k]!) → (p < A.length → nmL x < nmL A[p]!) → insL x A = A.take p ++ x :: A.drop p
  | [], p, hp, _, _ => by
    obtain rfl : p = 0 := by simpa using hp
    rfl
  | a :: A, 0, _, _, h => by
    have : nmL x < nmL a := by simpa using h (by simp)
    rw [insL, if_pos this]; rfl
  | a :: A, p + 1, hp, h1, h2 => by
    have : ¬ nmL x < nmL a := by simpa using h1 0 (by omega)
    rw [insL, if_neg this, ins_split x A p (by simpa using hp) (fun k hk => by simpa using h1 (k + 1) (by omega)) (fun hk => by simpa using h2 (by simpa using hk))]
    rfl
theorem insP_L {x:Im} {A:List Im} (hA:wkL A):insP x A=insL x A:=by
 obtain ⟨h1,h2⟩:=stp_spec x A A.length
 have hle:=stp_le x A A.length
 rw [insP,ins_split x A (stp x A A.length) hle (fun k hk hlt => ?_) (fun hp=>h1 _ (Nat.le_refl _) hp)]
 have h3:=h2 (by omega)
 have h4:=wk_at A hA k (stp x A A.length-1) (by omega) (by omega)
 by_cases h5:nmL A[k]! < nmL A[stp x A A.length-1]!
 ·exact h3 (lt_tr hlt h5)
 ·rw [lt_tot h5 h4] at hlt;exact h3 hlt
theorem wk_ins (x : Im) : ∀ A, wkL A → wkL (insL x A)
  | [], _ => trivial
  | [a], _ => by
    rw [insL]
    split
    · rename_i h; exact ⟨fun h' => lt_irr _ (lt_tr h h'), trivial⟩
    · rename_i h; exact ⟨h, trivial⟩
  | a :: b :: A, hA => by
    rw [insL]
    split
    · rename_i h; exact ⟨fun h' => lt_irr _ (lt_tr h h'), hA⟩
    · rename_i h
      have ih := wk_ins x (b :: A) hA.2
      rw [insL] at ih ⊢
      split
      · rename_i h2; rw [if_pos h2] at ih; exact ⟨h, ih⟩
      · rename_i h2; rw [if_neg h2] at ih; exact ⟨hA.1, ih⟩
theorem srt_fold (xs : List Im) : ∀ k, k ≤ xs.length → srt xs k = (xs.take k).foldl (fun A y => insL y A) [] ∧ wkL (srt xs k)
  | 0, _ => ⟨rfl, trivial⟩
  | k + 1, h => by
    obtain ⟨h1, h2⟩ := srt_fold xs k (by omega)
    have e : srt xs (k + 1) = insL xs[k]! (srt xs k) := insP_L h2
    refine ⟨?_, by rw [e]; exact wk_ins _ _ h2⟩
    rw [e, h1, List.take_add_one, List.getElem?_eq_getElem (show k < xs.length by omega), getElem!_pos xs k (by omega), Option.toList, List.foldl_append]
    rfl
theorem srt_st (a b:List Im) (ha:ascL a) (hb:ascL b):srt (a++b) (a++b).length=stM a b:=by
 rw [(srt_fold (a++b) _ (Nat.le_refl _)).1,List.take_length,List.foldl_append,fold_ins a [] ha,show stM [] a=a by rw [stM],fold_ins b a hb]
theorem prog_mg (a b:List Im) (ha:ascL a) (hb:ascL b) (hca:okC a) (hcb:okC b):delZ ((srt (a++b) (a++b).length).foldl joinS [])=mgI a b:=by
 rw [srt_st a b ha hb,fold_join _ a b [] (Nat.le_refl _) ha hb hca hcb (fun l hl=>by cases hl)]
 rfl
def wan (xs:List Im) (i j:Nat):List Im:=(srt xs i).take j++xs[i]! :: ((srt xs i).drop j++xs.drop (i+1))
theorem wan_start (xs:List Im) (i:Nat) (h:i<xs.length):wan xs i i=srt xs i++xs.drop i:=by
 have hl:=srt_len xs i
 rw [wan,List.take_of_length_le (by omega),List.drop_of_length_le (by omega),List.nil_append,List.drop_eq_getElem_cons h,getElem!_pos xs i h]
theorem wan_end (xs:List Im) (i:Nat):wan xs i (stp xs[i]! (srt xs i) i)=srt xs (i+1)++xs.drop (i+1):=by
 have hl:=srt_len xs i
 rw [wan,srt,insP,hl];simp
theorem wan_len (xs:List Im) (i j:Nat) (h:i<xs.length) (hj:j≤i):(wan xs i j).length=xs.length:=by
 have hl:=srt_len xs i
 rw [wan,List.length_append,List.length_cons,List.length_append,List.length_take,List.length_drop,List.length_drop];omega
theorem wan_at (xs:List Im) (i j:Nat) (h:i<xs.length) (hj:j≤i):(wan xs i j)[j]! = xs[i]! := by
 have hl:=srt_len xs i
 rw [getElem!_pos _ j (by rw [wan_len xs i j h hj];omega)]
 simp only [wan]
 rw [List.getElem_append_right (by rw [List.length_take];omega)]
 simp [List.length_take,hl,Nat.min_eq_left hj]
theorem wan_pre (xs:List Im) (i j:Nat) (h:i<xs.length) (hj:j<i):(wan xs i (j+1))[j]! = (srt xs i)[j]! := by
 have hl:=srt_len xs i
 rw [getElem!_pos _ j (by rw [wan_len xs i _ h (by omega)];omega),getElem!_pos (srt xs i) j (by omega)]
 simp only [wan]
 rw [List.getElem_append_left (by rw [List.length_take];omega)]
 simp
theorem swap_app {α : Type} (a b : α) (r : List α) : ∀ l : List α, ((l ++ a :: b :: r).set (l.length + 1) a).set l.length b = l ++ b :: a :: r
  | [] => rfl
  | x :: l => by
    simp only [List.cons_append, List.length_cons, List.set_cons_succ]
    rw [swap_app a b r l]
theorem wan_swap (xs:List Im) (i j:Nat) (h:j+1≤i):((wan xs i (j+1)).set (j+1) (srt xs i)[j]!).set j xs[i]! = wan xs i j:=by
 have hl:=srt_len xs i
 have e1:wan xs i (j+1)=(srt xs i).take j++(srt xs i)[j]! :: xs[i]! :: ((srt xs i).drop (j+1)++xs.drop (i+1)):=by
  rw [wan,take_snoc (srt xs i) j (by omega),List.append_assoc];rfl
 have e2:wan xs i j=(srt xs i).take j++xs[i]! :: (srt xs i)[j]! :: ((srt xs i).drop (j+1)++xs.drop (i+1)):=by
  rw [wan,List.drop_eq_getElem_cons (show j<(srt xs i).length by omega),getElem!_pos (srt xs i) j (by omega)];rfl
 have hj:((srt xs i).take j).length=j:=by rw [List.length_take];omega
 rw [e1,e2]
 have:=swap_app (srt xs i)[j]! xs[i]! ((srt xs i).drop (j+1)++xs.drop (i+1)) ((srt xs i).take j)
 rwa [hj] at this
theorem flC_set (x : Im) : ∀ (ys : List Im) (k : Nat), k < ys.length → ((flC imC ys).set (k * 2) (.str x.name)).set (k * 2 + 1) (.int x.coef) = flC imC (ys.set k x)
  | [], k, h => by simp at h
  | y :: ys, 0, _ => rfl
  | y :: ys, k + 1, h => by
    have ih := flC_set x ys k (by simpa using h)
    rw [List.set_cons_succ, flC, flC, ← ih, show (k + 1) * 2 = k * 2 + 1 + 1 by omega]
    rfl
theorem flat_ims:∀ xs:List Im,flatD' (flC imC xs)
 | []=>trivial
 | x :: xs=>⟨rfl,rfl,flat_ims xs⟩
theorem con_Compare (a b:ByteArray):Con Tryz.prog 97 [.one (.str a),.one (.str b)] [.one (.int (Lib.compareBytes a.data.toList b.data.toList))]:=by
 refine con_U1 ⟨_,rfl,by kernel_rfl,by kernel_rfl⟩ ?_
 intro w us hu
 obtain ⟨v,r,rfl,h1,h2⟩:=rpd_c hu
 obtain ⟨v2,r2,rfl,h3,h4⟩:=rpd_c h2
 obtain rfl:=rpd_n h4
 obtain rfl:v = .string a:=by unfold RepPD RepV at h1;exact h1
 obtain rfl:v2 = .string b:=by unfold RepPD RepV at h3;exact h3
 refine (Tryz.YtaidalilfmjfgaaGreatstrings_Compare a b w).mono ?_
 rintro e w' ⟨rfl,rfl⟩
 exact ⟨_,rfl,fr_int _ _ _,Below.refl _ _⟩
theorem con_cmpN (x y:Im):Con Tryz.prog 96 [.ag (imC x),.ag (imC y)] [.one (.int (cmpN x y))]:=by
 have h:=con_Compare x.name y.name
 unfold cmpN nmL
 refine con_run Tryz.func96 rfl rfl (by simp [Tryz.ntmps96]) ?_
 refine byP (fc imC.eq_1 Tryz.ntmps96) ?_
 refine sw_call (h) rfl (aAs_ok ?_) ?_ (sw_run 200 _ _ _ ?_)
 ·exact byQ True.intro
 ·simp only [okR]
 exact byP Tryz.results96 True.intro
theorem con_insSort (xs : List Im) (hl : xs.length ≤ 1000000) : ConW Tryz.prog 240 149 (.rows 2 xs.length (flC imC xs)) (.rows 2 xs.length (flC imC (srt xs xs.length))) [.one (.int 0), .one (.int xs.length), .fn 96 []] := by
  refine con_runW Tryz.func240 rfl rfl (by simp [Tryz.ntmps240]) rfl ⟨_, _, _, rfl, flat_ims _⟩ ?_
  refine byP (fc s0W.eq_1 Tryz.ntmps240) ?_
  refine ⟨by unfold inI; omega, ?_⟩
  by_cases h0 : xs.length = 0
  · obtain rfl : xs = [] := List.eq_nil_of_length_eq_zero h0
    refine sw_loop (fun _ : Unit => True) (fun _ => ⟨53, [(8, .i 1), (0, .sl 0), (1, .i 0), (2, .i 0), (3, .fn 96 [])], [], [(0, some ⟨.rows 2 0 [], some 149, true⟩)], 1, [0]⟩) (fun _ => 0) () id trivial ?_ ?_
    · simp only [push_cast, Sub, subT, subB, subO, subP, inj, AV.ren, AV.rens, AV.lt, AV.lts, ↓reduceIte, Nat.reduceLT, Nat.reduceEqDiff, reduceCtorEq, flC]
    · rintro _ _
      refine sw_run 200 _ _ _ ?_
      refine byQ ?_
      refine sw_run 200 _ _ _ ?_
      simp only [push_cast, ↓reduceIte, reduceCtorEq, fQW, xRetW, srt, flC]
  refine sw_loop (fun i : Nat => 1 ≤ i ∧ i ≤ xs.length) (fun i => ⟨53, [(8, .i i), (0, .sl 0), (1, .i 0), (2, .i xs.length), (3, .fn 96 [])], [], [(0, some ⟨.rows 2 xs.length (flC imC (srt xs i ++ xs.drop i)), some 149, true⟩)], 1, [0]⟩) (fun i => xs.length - i) 1 id ⟨Nat.le_refl _, by omega⟩ ?_ ?_
  · have e1 : srt xs 1 ++ xs.drop 1 = xs := by
      cases xs with
      | nil => simp at h0
      | cons a r => rfl
    exact byP e1 True.intro
  rintro i ⟨hi1, hi2⟩
  refine sw_run 200 _ _ _ ?_
  by_cases hlt : i < xs.length
  case neg =>
    have hi : ¬ (i : Int) < (xs.length : Int) := by omega
    obtain rfl : i = xs.length := by omega
    have hd : srt xs xs.length ++ xs.drop xs.length = srt xs xs.length := by rw [List.drop_length, List.append_nil]
    refine byP (fc hi hd) ?_
    refine sw_run 200 _ _ _ ?_
    exact byP (fc fQW.eq_1 xRetW.eq_1) True.intro
  have hi : (i : Int) < (xs.length : Int) := by omega
  refine byP hi ?_
  refine sw_loop (fun j : Nat => j ≤ i ∧ stp xs[i]! (srt xs i) j = stp xs[i]! (srt xs i) i) (fun j => ⟨53, [(9, .i j), (8, .i i), (0, .sl 0), (1, .i 0), (2, .i xs.length), (3, .fn 96 [])], [], [(0, some ⟨.rows 2 xs.length (flC imC (wan xs i j)), some 149, true⟩)], 1, [0]⟩) (fun j => j) i id ⟨Nat.le_refl _, rfl⟩ ?_ ?_
  · exact byP (wan_start xs i hlt) True.intro
  rintro j ⟨hj, hst⟩
  refine sw_run 200 _ _ _ ?_
  cases j with
  | zero =>
    have hz : ¬ (0 : Int) < (((0 : Nat) : Nat) : Int) := by omega
    have he : wan xs i 0 = srt xs (i + 1) ++ xs.drop (i + 1) := by rw [← wan_end, ← hst]; rfl
    refine byQ ?_
    refine sw_drawn (.cons 0 true (.cons 1 true (.cons 2 true (.cons 3 true (.cons 4 true (.cons 5 true (.cons 6 true (.cons 7 true (.cons 8 true (.cons 9 true (.cons 10 true (.cons 11 true (.cons 12 true (.cons 13 true (.cons 14 false (.cons 15 true (.cons 16 true (.nil)))))))))))))))))) (by kernel_rfl) qLp_panic (by kernel_rfl) (sw_run 200 _ _ _ ?_)
    refine byP he ?_
    refine sw_run 200 _ _ _ ?_
    refine byQ ?_
    refine ⟨by unfold inI; omega, i + 1, id, ⟨by omega, by omega⟩, by omega, ?_⟩
    exact byQ True.intro
  | succ j =>
    have hp : (0 : Int) < (j : Int) + 1 := by omega
    have hs : (j : Int) + 1 - 1 = (j : Int) := by omega
    have ht : ((j : Int) + 1).toNat = j + 1 := by omega
    have hp2 : (0 : Int) ≤ (j : Int) + 1 := by omega
    have hw := wan_len xs i (j + 1) hlt hj
    have hR1 := flC_row imC_len (wan xs i (j + 1)) (j + 1) (by omega)
    have hR0 := flC_row imC_len (wan xs i (j + 1)) j (by omega)
    rw [wan_at xs i (j + 1) hlt hj] at hR1
    rw [wan_pre xs i j hlt (by omega)] at hR0
    simp only [imC] at hR0 hR1
    have hb1 : (j : Int) + 1 < (xs.length : Int) := by omega
    have hb0 : (j : Int) < (xs.length : Int) := by omega
    have hin : inI (j : Int) := by unfold inI; omega
    refine byQ ?_
    refine sw_drawn (.cons 0 true (.cons 1 true (.cons 2 true (.cons 3 true (.cons 4 true (.cons 5 true (.cons 6 true (.cons 7 true (.cons 8 true (.cons 9 true (.cons 10 true (.cons 11 true (.cons 12 true (.cons 13 true (.cons 14 false (.cons 15 true (.cons 16 true (.nil)))))))))))))))))) (by kernel_rfl) qLp_panic (by kernel_rfl) (sw_run 200 _ _ _ ?_)
    refine byP (fc hp (fc hp2 (fc ht (fc hs (fc hR1 (fc hR0 (fc hb1 (fc hb0 hin)))))))) ?_
    have hC := con_cmpN xs[i]! (srt xs i)[j]!
    refine sw_callD hC rfl (aAs_ok ?_) ?_ (sw_run 200 _ _ _ ?_)
    · exact byP imC.eq_1 True.intro
    · simp only [okR]
    rw [stp] at hst
    by_cases hc : cmpN xs[i]! (srt xs i)[j]! < 0
    · rw [if_pos hc] at hst
      refine byP (eq_true hc) ?_
      refine sw_drawn (.cons 0 true (.cons 1 true (.cons 2 true (.cons 3 true (.cons 5 true (.cons 6 true (.cons 7 true (.cons 8 true (.cons 9 true (.cons 10 true (.cons 11 true (.cons 12 true (.cons 13 true (.cons 14 true (.fork (.alt 4 (.cons 15 false (.cons 16 true (.cons 17 false (.nil)))) (.alt 15 (.cons 4 true (.cons 16 true (.cons 17 false (.nil)))) (.last)))))))))))))))))) (by kernel_rfl) qLp_panic (by kernel_rfl) (sw_run 200 _ _ _ ?_)
      refine byP (fc hs (fc ht (fc hp2 (fc hR1 (fc hR0 (fc hb1 (fc hb0 hin))))))) ?_
      have hrow : ((((flC imC (wan xs i (j + 1))).set ((j + 1) * 2) (D.str (srt xs i)[j]!.name)).set ((j + 1) * 2 + 1) (D.int (srt xs i)[j]!.coef)).set (j * 2) (D.str xs[i]!.name)).set (j * 2 + 1) (D.int xs[i]!.coef) = flC imC (wan xs i j) := by
        rw [flC_set _ _ (j + 1) (by omega), flC_set _ _ j (by rw [List.length_set]; omega), wan_swap xs i j hj]
      (try repeat' (with_reducible apply And.intro))
      all_goals
        refine ⟨j, id, ⟨by omega, hst⟩, by omega, ?_⟩
        exact byP hrow True.intro
    · rw [if_neg hc] at hst
      have he : wan xs i (j + 1) = srt xs (i + 1) ++ xs.drop (i + 1) := by rw [← wan_end, ← hst]
      refine byP (fc hc he) ?_
      refine sw_run 200 _ _ _ ?_
      refine byQ ?_
      refine ⟨by unfold inI; omega, i + 1, id, ⟨by omega, by omega⟩, by omega, ?_⟩
      exact byQ True.intro
theorem con_stable (xs:List Im) (hl:xs.length≤19):ConW Tryz.prog 183 149 (.rows 2 xs.length (flC imC xs)) (.rows 2 xs.length (flC imC (srt xs xs.length))) [.one (.int xs.length),.fn 96 []]:=by
 have h1:¬ (20:Int)≤(xs.length:Int):=by omega
 have h2:¬ (20:Int)<(xs.length:Int):=by omega
 refine con_runW Tryz.func183 rfl rfl (by simp [Tryz.ntmps183]) rfl ⟨_,_,_,rfl,flat_ims _⟩ ?_
 refine byP (fc s0W.eq_1 Tryz.ntmps183) ?_
 refine sw_loop (fun _:Unit=>True) (fun _=>⟨63,[(8,.i 20),(7,.i 0),(6,.i 20),(0,.sl 0),(1,.i xs.length),(2,.fn 96 [])],[],[(0,some ⟨.rows 2 xs.length (flC imC xs),some 149,true⟩)],1,[0]⟩) (fun _=>0) () id trivial ?_ ?_
 ·exact byQ True.intro
 rintro _ _
 refine sw_run 200 _ _ _ ?_
 refine byP h1 ?_
 refine sw_run 200 _ _ _ ?_
 refine byQ ?_
 refine sw_callW (con_insSort xs (by omega)) rfl rfl rfl ⟨rfl,rfl⟩ ?_ (sw_run 200 _ _ _ ?_)
 ·exact byQ True.intro
 simp only [push_cast,↓reduceIte,Nat.reduceLT,AS.lend,lendL,lendO,unspLT,unspLB,AV.unspL,AV.unspLs]
 refine sw_loop (fun _:Unit=>True) (fun _=>⟨63,[(6,.i 20),(1,.i xs.length)],[],[(0,some ⟨.rows 2 xs.length (flC imC (srt xs xs.length)),none,true⟩)],1,[0]⟩) (fun _=>0) () id trivial ?_ ?_
 ·exact byQ True.intro
 rintro _ _
 refine sw_run 200 _ _ _ ?_
 refine byP h2 ?_
 refine sw_run 200 _ _ _ ?_
 exact byP (fc fQW.eq_1 xRetW.eq_1) True.intro
theorem con_SortSt (xs:List Im) (hl:xs.length≤19):ConW Tryz.prog 95 149 (.rows 2 xs.length (flC imC xs)) (.rows 2 xs.length (flC imC (srt xs xs.length))) [.fn 96 []]:=by
 refine con_runW Tryz.func95 rfl rfl (by simp [Tryz.ntmps95]) rfl ⟨_,_,_,rfl,flat_ims _⟩ ?_
 refine byP (fc s0W.eq_1 Tryz.ntmps95) ?_
 refine sw_callW (con_stable xs hl) rfl rfl rfl ⟨rfl,rfl⟩ ?_ (sw_run 200 _ _ _ ?_)
 ·exact byQ True.intro
 simp only [push_cast,↓reduceIte,Nat.reduceLT,reduceCtorEq,AS.lend,lendL,lendO,unspLT,unspLB,AV.unspL,AV.unspLs,fQW,xRetW]
def plainZ (u:Value):Prop:=(∃ b,u = .string b)∨u = .int .i64 0
theorem own_plain : ∀ us : List Value, (∀ u ∈ us, plainZ u) → ∃ Z : List D, Z.length = us.length ∧ ∀ w, OwnVs w Z us []
  | [], _ => ⟨[], rfl, fun w => by unfold OwnVs; exact ⟨rfl, rfl⟩⟩
  | u :: us, h => by
    obtain ⟨Z, h1, h2⟩ := own_plain us fun u hu => h u (by simp [hu])
    rcases h u (by simp) with ⟨b, rfl⟩ | rfl
    · exact ⟨.str b :: Z, by simp [h1], fun w => by unfold OwnVs; exact ⟨_, us, [], [], rfl, rfl, by unfold OwnV; exact ⟨rfl, rfl⟩, h2 w⟩⟩
    · exact ⟨.int 0 :: Z, by simp [h1], fun w => by unfold OwnVs; exact ⟨_, us, [], [], rfl, rfl, by unfold OwnV; exact ⟨rfl, rfl⟩, h2 w⟩⟩
theorem zc_mem {z:Array Value} {n:Nat} (hz:∀ u ∈ z,plainZ u) (h0:0<z.size):∀ u ∈ (Builtin.zeroCells z n).toList,plainZ u:=by
 intro u hu
 simp only [Builtin.zeroCells,Array.toList_map,List.mem_map] at hu
 obtain ⟨i,_,rfl⟩:=hu
 have hi:i % z.size<z.size:=Nat.mod_lt _ h0
 rw [getElem!_pos z _ hi]
 exact hz _ (Array.getElem_mem hi)
theorem zc_len (z:Array Value) (n:Nat):(Builtin.zeroCells z n).toList.length=n * z.size:=by simp [Builtin.zeroCells]
theorem plain_one {u:Value} (h:plainZ u):u.oneCell'=true:=by
 rcases h with ⟨b,rfl⟩ | rfl <;> rfl
theorem sw_clear2 {P : Program} {all rest : List Oper} {st : List It} {d1 : Tmp} {t e : TypeId} {x lo : Operand} {ty ty2 : TypeId} {pos pos2 : String} {af af2 : Array Edge} {s : AS} {Q : QE} (o k : Nat) {sz n : Nat} {cs : List D} {T : TypeId} {z : Value}
    (hx : s.ev x = .sl o) (hI : s.owf o = some ⟨.rows sz n cs, some T, true⟩) (hT : tElem P t = some (e, sz)) (hlo : s.ev lo = .i k) (hk : k < n) (hd : d1 < s.nt)
    (hz : ∀ w, (zeroValue e).run P w = .ok z w) (hzs : z.cells.size = sz) (hz0 : 0 < sz) (hzp : ∀ u ∈ z.cells, plainZ u)
    (h : ∀ Z : List D, Z.length = (n - k) * sz → SW P (.ops all rest :: st) ((s.setO o ⟨.rows sz n (setRowG cs (k * sz) Z), some T, true⟩).pt (some d1) .un) Q) :
    SW P (.ex all ⟨some d1, .slice t x (some lo) none none, ty, pos, af, none⟩ (⟨none, .call ⟨.builtin .clear, #[.tmp d1], #[t]⟩, ty2, pos2, af2, none⟩ :: rest) :: st) s Q := fun w0 G a w hr => by
  obtain ⟨Z, hZl, hZo⟩ := own_plain (Builtin.zeroCells z.cells (n - k)).toList (zc_mem hzp (by omega))
  rw [zc_len, hzs] at hZl
  have hund : P.underlying t = some (.slice e) := by
    unfold tElem at hT
    split at hT
    · rename_i e' hu
      cases hi' : P.info? e' with
      | none => rw [hi'] at hT; cases hT
      | some i =>
        rw [hi'] at hT
        simp only [Option.map_some, Option.some.injEq, Prod.mk.injEq] at hT
        rw [hu, hT.1]
    · cases hT
  obtain ⟨h01, ⟨hB, hrep, hdeep, hap⟩, hbx⟩ := hr.own o _ hI
  obtain ⟨sz2, n2, cs2, vs, e1, hrow, h3, h4, h5, h6⟩ := hap T rfl
  simp only [D.rows.injEq] at e1
  obtain ⟨rfl, rfl, rfl⟩ := e1
  have hu : a.eval x = G.root o := by
    have := hr.ev x
    rw [hx] at this
    unfold RV at this
    exact this.2.2 _ hI
  obtain ⟨hvl, hrr⟩ := hrow
  rcases hrr with ⟨_, e4, e5⟩ | ⟨a', o0, cap2, cur, e4, hh, hnc, hcm, hcs, htk⟩
  · omega
  have hvr : rowR (G.root o) = [a'] := by rw [e4]; rfl
  have hlen : o0 + k * sz + (n - k) * sz ≤ cur.toList.length := by
    have h1 : k * sz + (n - k) * sz = n * sz := by rw [← Nat.add_mul]; congr 1; omega
    have h2 : n * sz ≤ (cap2 + 1) * sz := Nat.mul_le_mul_right _ hnc
    simp only [Array.length_toList]
    omega
  have hone : ∀ v ∈ (Builtin.zeroCells z.cells (n - k)).toList, v.oneCell' = true := fun v hv => plain_one (zc_mem hzp (by omega) v hv)
  obtain ⟨w', hw1, hw2, hw3⟩ := storeCells_run (P := P) (T := T) (g := a') (off := o0 + k * sz) (Builtin.zeroCells z.cells (n - k)).toList 0 cur.toList w (by unfold Blk; simpa using hh) (by rw [zc_len, hzs]; omega) hone
  rw [Nat.add_zero] at hw2
  have hwkeep : ∀ k, k < w.heap.size → k ≠ a' → w'.heap[k]? = w.heap[k]? := fun k hk hne => hw3.block k hk (by simpa using hne)
  have htk' : List.take (n * sz) ((setRowG cur.toList (o0 + k * sz) (Builtin.zeroCells z.cells (n - k)).toList).drop o0) = setRowG vs (k * sz) (Builtin.zeroCells z.cells (n - k)).toList := by rw [setRowG_drop, setRowG_take, htk]
  have hrow' : ownR w' T sz (G.root o) n (setRowG vs (k * sz) (Builtin.zeroCells z.cells (n - k)).toList) := by
    refine ⟨by rw [setRowG_len, hvl], .inr ⟨a', o0, cap2, _, e4, hw2, hnc, hcm, ?_, by simpa using htk'⟩⟩
    simp only [List.size_toArray, setRowG_len, Array.length_toList]; exact hcs
  have hones : ∀ u ∈ setRowG vs (k * sz) (Builtin.zeroCells z.cells (n - k)).toList, u.oneCell' = true := by
    have key : ∀ (us l : List Value) (i : Nat), (∀ u ∈ us, u.oneCell' = true) → (∀ u ∈ l, u.oneCell' = true) → ∀ u ∈ setRowG l i us, u.oneCell' = true := by
      intro us
      induction us with
      | nil => intro l i _ hl u hu; exact hl u hu
      | cons c us ih =>
        intro l i hc hl u hu
        refine ih (l.set i c) (i + 1) (fun u hu => hc u (by simp [hu])) (fun u hu => ?_) u hu
        rcases List.mem_or_eq_of_mem_set hu with hu | rfl
        · exact hl u hu
        · exact hc _ (by simp)
    exact key _ _ _ hone h5
  obtain ⟨fp, q1, q2, q3⟩ := h6 rfl
  obtain ⟨fp', q4, q5⟩ := OwnVs.setRow Z (Builtin.zeroCells z.cells (n - k)).toList cs vs fp (k * sz) (hZo w) q1
  have hfpB : ∀ k ∈ fp', k ∈ G.B o ∧ k ∉ rowR (G.root o) := fun k hk => q3 k (q5.subset hk)
  have q6 : OwnVs w' (setRowG cs (k * sz) Z) (setRowG vs (k * sz) (Builtin.zeroCells z.cells (n - k)).toList) fp' := OwnVs.keep hw3.size _ _ _ (fun k hk => hwkeep k (hB k (hfpB k hk).1).2 fun e => (hfpB k hk).2 (by rw [hvr, e]; simp)) q4
  have hmem : ∀ k ∈ rowR (G.root o) ++ fp', k ∈ G.B o := fun k hk => by
    rcases List.mem_append.1 hk with hk | hk
    · exact (h4 k hk).1
    · exact (hfpB k hk).1
  have hr2 : Rel w0 _ (s.setO o ⟨.rows sz n (setRowG cs (k * sz) Z), some T, true⟩) a w' := hr.setO (B' := rowR (G.root o) ++ fp') hI (by
    refine ⟨fun k hk => ⟨(hB k (hmem k hk)).1, Nat.lt_of_lt_of_le (hB k (hmem k hk)).2 hw3.size⟩, row_rep hrow' (OwnVs.p _ _ _ q6 (fun k hk => .inr (List.mem_append.2 (.inr hk)))) (fun k hk => .inr (List.mem_append.2 (.inl hk))), fun _ => ⟨row_own hrow' q6, ?_⟩, fun T' hT => ?_⟩
    · exact List.nodup_append.2 ⟨by rw [hvr]; simp, q5.nodup q2, fun k hk k' hk' e => (hfpB k' hk').2 (e ▸ hk)⟩
    · simp only [Option.some.injEq] at hT
      subst hT
      exact ⟨sz, n, _, _, rfl, hrow', OwnVs.p _ _ _ q6 (fun k hk => .inr ⟨List.mem_append.2 (.inr hk), (hfpB k hk).2⟩), fun k hk => ⟨List.mem_append.2 (.inl hk), (h4 k hk).2⟩, hones, fun _ => ⟨fp', q6, q5.nodup q2, fun k hk => ⟨List.mem_append.2 (.inr hk), (hfpB k hk).2⟩⟩⟩) hmem ⟨sz, n, cs, _, rfl, rfl⟩ (by rw [hvr]; exact hw3) h4
  have hrun := slice_run (P := P) (G := G) (W := w) (owf := s.owf) (nx := s.nx) (a' := some ⟨a', o0, none⟩) (lo := some (.i k)) (hi := none) (vl := some (a.eval lo)) (vh := none) (l := (k : Int)) (h' := (n : Int)) hnc hT
    (fun z hz => by injection hz with hz; subst hz; exact ⟨_, rfl, by have := hr.ev lo; rwa [hlo] at this⟩)
    (fun hz => by cases hz) (fun z hz => by cases hz) (fun _ => rfl) rfl rfl (by omega) w
  have hck : ¬ (cap2 + 1 = k) := by omega
  have e6 : (execOp a.eval ⟨some d1, .slice t x (some lo) none none, ty, pos, af, none⟩).run P w = .ok (.value (.slice (some ⟨a', o0 + k * sz, none⟩) (n - k) (cap2 + 1 - k))) w := by
    show ((do pure (.value (← Instr.sliceAt t (a.eval x) (some (a.eval lo)) none none)) : Sem Next)).run P w = _
    rw [hu, e4]
    simp only [Sem.run_bind, hrun, Result.andThen_ok, Sem.run_pure]
    simp [hck, add_addr]
  show Oper.wp P _ a w _ _
  unfold Oper.wp
  rw [e6]
  show wpList P all.toArray _ (_ :: rest) (a.put (some d1) _) w
  unfold wpList
  rw [if_pos (wanted_none rfl _)]
  refine .inl ?_
  unfold Oper.wp
  have hev : (a.put (some d1) (.slice (some ⟨a', o0 + k * sz, none⟩) (n - k) (cap2 + 1 - k))).eval (.tmp d1) = .slice (some ⟨a', o0 + k * sz, none⟩) (n - k) (cap2 + 1 - k) := by
    simp [Act.put, Act.eval, hr.nt, hd]
  have e7 : (execOp (a.put (some d1) (.slice (some ⟨a', o0 + k * sz, none⟩) (n - k) (cap2 + 1 - k))).eval ⟨none, .call ⟨.builtin .clear, #[.tmp d1], #[t]⟩, ty2, pos2, af2, none⟩).run P w = .ok (.value (.tuple #[])) w' := by
    obtain ⟨m, hm⟩ : ∃ m, n - k = m + 1 := ⟨n - k - 1, by omega⟩
    rw [hm] at hev hw1 ⊢
    simp only [execOp, resolve, invoke, List.map_toArray, List.map_cons, List.map_nil, hev, Sem.run_bind, Sem.run_pure, pure_bind, builtin]
    simp [Builtin.clear_, und_run hund, hz, hw1, Sem.run_bind, Result.andThen_ok]
  rw [e7]
  exact h Z hZl w0 _ _ w' (hr2.pt (some d1) (by unfold RV; trivial))
theorem im_info:(Tryz.prog.info? 149).map (fun i=>(i.zero,i.size,i.bytes))=some (some (.agg #[.string ⟨#[]⟩,.int .i64 0]),2,24):=by kernel_rfl
set_option maxRecDepth 100000 in
set_option maxHeartbeats 800000 in
theorem grow_im:GrowC Tryz.prog 182 149 2:=by
 refine ⟨⟨_,Tryz.func182,rfl,rfl⟩,fun n w hn => ?_⟩
 by_cases h0:n=0
 ·subst h0
  go_enter Tryz.func182,Tryz.ntmps182
  go_wp2
  go_ret
  exact ⟨_,rfl,World.ownsRow_nil _ _ _ _,Below.refl _ _⟩
 ·obtain ⟨i,hi,hzz⟩:∃ i,Tryz.prog.info? 149=some i∧(i.zero,i.size,i.bytes)=(some (.agg #[.string ⟨#[]⟩,.int .i64 0]),2,24):=by
   have:=im_info
   cases hx:Tryz.prog.info? 149 with
   | none=>rw [hx] at this;cases this
   | some i=>rw [hx] at this;exact ⟨i,rfl,by simpa using this⟩
  simp only [Prod.mk.injEq] at hzz
  obtain ⟨hz,hs,hby⟩:=hzz
  have hrun:=fun ty=>Lib.run_append_nil_zeros (P:=Tryz.prog) w 60 3 ty 149 i (.agg #[.string ⟨#[]⟩,.int .i64 0]) .i64 .i64 Tryz.underlying60 Tryz.underlying3 hi hz n (by omega) (by omega) (by omega) (by rw [hby];omega)
  have hpos:¬ (n:Int)<0:=by omega
  have hpos2:(0:Int)<(n:Int):=by omega
  go_enter Tryz.func182,Tryz.ntmps182
  go_wp2_with (at_builtin;refine Lib.wpList_append_run _ rfl _ _ _ _ rfl _ _ rfl rfl _ _ (hrun _) ?_)
  go_ret
  have hge:=grownCap_ge w n 0 149
  have hle:=grownCap_le_maxLen w n 0 149 (by unfold maxLen;omega)
  have hb0:Below w.heap.size w (w.alloc (.cells (Builtin.zeroCells #[Value.string ⟨#[]⟩,Value.int .i64 0] n++Builtin.zeroCells #[Value.string ⟨#[]⟩,Value.int .i64 0] (grownCap w n 0 149-n)) 149)):=(Below.refl _ _).alloc (Nat.le_refl _) _
  have hblk:=Blk.new w 149 (Builtin.zeroCells #[Value.string ⟨#[]⟩,Value.int .i64 0] n++Builtin.zeroCells #[Value.string ⟨#[]⟩,Value.int .i64 0] (grownCap w n 0 149-n))
  refine ⟨_,rfl,⟨rfl,.inr ⟨w.heap.size,grownCap w n 0 149,_,rfl,Nat.le_refl _,hblk,Nat.zero_le _,hle, ?_, ?_⟩⟩,hb0.drew⟩
  ·simp [Builtin.zeroCells]
   omega
  ·simp
theorem map_rowM {α:Type} [Inhabited α] (f:α→D) (xs:List α) (k:Nat) (h:k<xs.length):rowAt 1 (xs.map f) k=[f xs[k]!]:=by
 have h2:k<(xs.map f).length:=by simpa using h
 rw [rowAt,Nat.mul_one,List.drop_eq_getElem_cons h2]
 simp [getElem!_pos xs k h]
def flM (L:List (List Im)) (k:Nat):List Im:=(L.take k).flatten
theorem flM_snoc (L:List (List Im)) (k:Nat) (h:k<L.length):flM L (k+1)=flM L k++L[k]! := by
 rw [flM,take_snoc L k h,List.flatten_append];simp [flM]
theorem flM_le (L:List (List Im)) (k:Nat):(flM L k).length≤L.flatten.length:=by
 have e:L.flatten=(L.take k).flatten++(L.drop k).flatten:=by rw [← List.flatten_append,List.take_append_drop]
 rw [e,List.length_append,flM];omega
theorem flM0:flC imC []=[]:=rfl
theorem flM_app (a b:List Im):flC imC (a++b)=flC imC a++flC imC b:=flC_app imC a b
theorem prim_ims : ∀ (xs : List Im), ∀ d, d ∈ flC imC xs → d.prim = true
  | [], d, h => by cases h
  | x :: xs, d, h => by
    rw [flC] at h
    rcases List.mem_append.1 h with h | h
    · simp only [imC, List.mem_cons, List.not_mem_nil, or_false] at h
      rcases h with rfl | rfl <;> rfl
    · exact prim_ims xs d h
theorem con_ConcatM (L:List (List Im)) (hl:L.flatten.length≤1000000000) (hm:L.length≤1000000):ConP Tryz.prog 94 [.b (.one (.rows 1 L.length (L.map imsD)))] [] [.one (.a 149 (imsD L.flatten))]:=by
 refine con_runP Tryz.func94 rfl rfl (by simp [Tryz.ntmps94]) rfl ?_
 refine byP Tryz.ntmps94 ?_
 refine sw_loop (fun k:Nat=>k≤L.length) (fun k=>⟨36,[(11,.i k),(10,.i L.length),(9,.br (.rows 1 L.length (L.map imsD))),(3,.i (flM L k).length),(0,.br (.rows 1 L.length (L.map imsD)))],[],[],0,[]⟩) (fun k=>L.length-k) 0 id (Nat.zero_le _) ?_ ?_
 ·simp only [push_cast,Sub,subT,subB,subO,subP,inj,AV.ren,AV.lt,↓reduceIte,Nat.reduceEqDiff,reduceCtorEq,flM,List.flatten_nil,List.length_nil]
 ·rintro k hk
  refine sw_run 200 _ _ _ ?_
  by_cases hlt:k<L.length
  ·have hi:(k:Int)<(L.length:Int):=by omega
   have hR:=map_rowM imsD L k hlt
   have hs:=flM_snoc L k hlt
   have hle:=flM_le L (k+1)
   have hlen:(flM L (k+1)).length=(flM L k).length+L[k]!.length:=by rw [hs,List.length_append]
   have hn:¬ (((flM L k).length:Int)+(L[k]!.length:Int)<0):=by omega
   refine byP (fc hi (fc hR (fc imsD.eq_1 hn))) ?_
   refine ⟨by unfold inI;omega,by unfold inI;omega,k+1,id,by omega,by omega, ?_⟩
   exact byP hlen True.intro
  ·have hi:¬ (k:Int)<(L.length:Int):=by omega
   obtain rfl:k=L.length:=by omega
   have hall:flM L L.length=L.flatten:=by rw [flM,List.take_length]
   refine byP hi ?_
   refine sw_run 200 _ _ _ ?_
   refine byP hall ?_
   refine sw_callG grow_im rfl rfl rfl hl (sw_run 200 _ _ _ ?_)
   refine byQ ?_
   refine sw_loop (fun k:Nat=>k≤L.length) (fun k=>⟨36,[(27,.i k),(26,.i L.length),(25,.br (.rows 1 L.length (L.map imsD))),(6,.sl 0)],[],[(0,some ⟨.rows 2 (flM L k).length (flC imC (flM L k)),some 149,true⟩)],1,[]⟩) (fun k=>L.length-k) 0 id (Nat.zero_le _) ?_ ?_
   ·simp only [push_cast,Sub,subT,subB,subO,subP,inj,AV.ren,AV.lt,↓reduceIte,Nat.reduceLT,Nat.reduceEqDiff,flM,List.flatten_nil,List.length_nil,flM0]
   ·rintro k hk
    refine sw_run 200 _ _ _ ?_
    by_cases hlt:k<L.length
    ·have hi:(k:Int)<(L.length:Int):=by omega
     have hR:=map_rowM imsD L k hlt
     have hs:=flM_snoc L k hlt
     have hle:=flM_le L (k+1)
     have hlen:(flM L (k+1)).length=(flM L k).length+L[k]!.length:=by rw [hs,List.length_append]
     refine byP (fc hi (fc hR imsD.eq_1)) ?_
     refine ⟨⟨fun _=>prim_ims _,by simp,by unfold maxLen;omega,by omega⟩,by unfold inI;omega,k+1,rn1 0 1,by omega,by omega, ?_⟩
     simp only [push_cast,Sub,subT,subB,subO,subP,inj,AV.ren,AV.lt,↓reduceIte,Nat.reduceLT,Nat.reduceEqDiff,rn1,cast1,hs,List.length_append,flM_app]
    ·have hi:¬ (k:Int)<(L.length:Int):=by omega
     obtain rfl:k=L.length:=by omega
     refine byP hi ?_
     refine sw_run 200 _ _ _ ?_
     exact byP (fc hall (fc imsD.eq_1 Tryz.results94)) True.intro
def fz:List Im→Int→Int
 | [],_ => -1
 | x :: xs,i=>if x.coef=0 then i else fz xs (i+1)
theorem fz_step (xs:List Im) (k:Nat) (h:k<xs.length):fz (xs.drop k) k=if xs[k]!.coef=0 then (k:Int) else fz (xs.drop (k+1)) ((k+1:Nat):Int):=by
 rw [List.drop_eq_getElem_cons h,getElem!_pos xs k h];rfl
theorem fz_end (xs:List Im) (k:Nat) (h:xs.length≤k) (i:Int):fz (xs.drop k) i = -1:=by rw [List.drop_of_length_le h];rfl
theorem fz_cases : ∀ (xs : List Im) (i : Nat), (fz xs i = -1 ∧ delZ xs = xs) ∨ ∃ k, k < xs.length ∧ fz xs i = ((i + k : Nat) : Int) ∧ delZ (xs.take (k + 1)) = xs.take k
  | [], i => .inl ⟨rfl, rfl⟩
  | x :: xs, i => by
    rw [fz]
    by_cases h : x.coef = 0
    · rw [if_pos h]
      exact .inr ⟨0, by simp, by simp, by simp [delZ, h]⟩
    · rw [if_neg h]
      have e : (i : Int) + 1 = ((i + 1 : Nat) : Int) := by omega
      rw [e]
      rcases fz_cases xs (i + 1) with ⟨h1, h2⟩ | ⟨k, h1, h2, h3⟩
      · refine .inl ⟨h1, ?_⟩
        show delZ ([x] ++ xs) = _
        rw [del_app, h2, del_ok (show okC [x] from fun w hw => by rw [List.mem_singleton.1 hw]; exact h)]; rfl
      · refine .inr ⟨k + 1, by simpa using h1, by rw [h2]; congr 1; omega, ?_⟩
        show delZ ([x] ++ xs.take (k + 1)) = x :: xs.take k
        rw [del_app, h3, del_ok (show okC [x] from fun w hw => by rw [List.mem_singleton.1 hw]; exact h)]; rfl
theorem del_snoc (xs:List Im) (j:Nat) (h:j<xs.length):delZ (xs.take (j+1))=if xs[j]!.coef=0 then delZ (xs.take j) else delZ (xs.take j)++[xs[j]!]:=by
 rw [take_snoc xs j h,del_app]
 generalize xs[j]! = y
 by_cases hc:y.coef=0
 ·rw [if_pos hc];simp [delZ,hc]
 ·rw [if_neg hc];simp [delZ,hc]
theorem del_le (xs:List Im):(delZ xs).length≤xs.length:=List.length_filter_le _ _
def thin (xs ys:List Im) (j:Nat):Prop:=ys.length=xs.length∧ys.take (delZ (xs.take j)).length=delZ (xs.take j)∧ys.drop j=xs.drop j∧(delZ (xs.take j)).length<j
theorem drop_at {xs ys:List Im} {j:Nat} (h1:ys.length=xs.length) (h:ys.drop j=xs.drop j) (hj:j<xs.length):ys[j]! = xs[j]! ∧ ys.drop (j+1)=xs.drop (j+1):=by
 rw [List.drop_eq_getElem_cons hj,List.drop_eq_getElem_cons (by omega)] at h
 injection h with h1 h2
 exact ⟨by rw [getElem!_pos ys j (by omega),getElem!_pos xs j hj];exact h1,h2⟩
theorem thin_skip {xs ys:List Im} {j:Nat} (h:thin xs ys j) (hj:j<xs.length) (hc:xs[j]!.coef=0):delZ (xs.take (j+1))=delZ (xs.take j)∧thin xs ys (j+1):=by
 obtain ⟨h1,h2,h3,h4⟩:=h
 have e:=del_snoc xs j hj
 rw [if_pos hc] at e
 refine ⟨e,h1,by rw [e];exact h2,(drop_at h1 h3 hj).2,by rw [e];omega⟩
theorem thin_keep {xs ys:List Im} {j:Nat} (h:thin xs ys j) (hj:j<xs.length) (hc:¬ xs[j]!.coef=0):(delZ (xs.take (j+1))).length=(delZ (xs.take j)).length+1∧thin xs (ys.set (delZ (xs.take j)).length xs[j]!) (j+1):=by
 obtain ⟨h1,h2,h3,h4⟩:=h
 have e:=del_snoc xs j hj
 rw [if_neg hc] at e
 have e2:(delZ (xs.take (j+1))).length=(delZ (xs.take j)).length+1:=by rw [e,List.length_append];rfl
 refine ⟨e2,by rw [List.length_set,h1], ?_, ?_,by rw [e2];omega⟩
 ·rw [e2,e,List.take_set,List.take_add_one,h2,List.getElem?_eq_getElem (show _<ys.length by omega),Option.toList]
  rw [List.set_append_right _ _ (by omega)]
  simp
 ·rw [List.drop_set,if_pos (by omega)]
  exact (drop_at h1 h3 hj).2
theorem thin_start {xs:List Im} {k:Nat} (h:k<xs.length) (he:delZ (xs.take (k+1))=xs.take k):thin xs xs (k+1)∧(delZ (xs.take (k+1))).length=k:=by
 have e:(delZ (xs.take (k+1))).length=k:=by rw [he,List.length_take];omega
 exact ⟨⟨rfl,by rw [e,he],rfl,by omega⟩,e⟩
theorem setRow_pre {α : Type} : ∀ (us l : List α) (i : Nat), (setRowG l i us).take i = l.take i
  | [], l, i => rfl
  | u :: us, l, i => by
    have e : ∀ l' : List α, l'.take i = (l'.take (i + 1)).take i := fun l' => by rw [List.take_take, Nat.min_eq_left (by omega)]
    rw [setRowG, e (setRowG _ _ _), setRow_pre us (l.set i u) (i + 1), ← e, List.take_set, List.set_eq_of_length_le (by rw [List.length_take]; omega)]
theorem thin_end {xs ys:List Im} {Z:List D} (h:thin xs ys xs.length):(setRowG (flC imC ys) ((delZ xs).length * 2) Z).take ((delZ xs).length * 2)=flC imC (delZ xs):=by
 obtain ⟨h1,h2,h3,h4⟩:=h
 rw [List.take_length] at h2 h4
 rw [setRow_pre]
 have e:ys=ys.take (delZ xs).length++ys.drop (delZ xs).length:=(List.take_append_drop _ _).symm
 rw [h2] at e
 rw [e,flC_app,List.take_append_of_le_length (by rw [flC_len imC_len];exact Nat.le_refl _),List.take_of_length_le (by rw [flC_len imC_len];exact Nat.le_refl _)]
theorem con_isZ (x:Im):Con Tryz.prog 100 [.ag (imC x)] [.one (.bool (decide (x.coef=0)))]:=by
 refine con_run Tryz.func100 rfl rfl (by simp [Tryz.ntmps100]) ?_
 exact byP (fc imC.eq_1 (fc Tryz.ntmps100 Tryz.results100)) True.intro
theorem con_IdxIm (xs:List Im) (hl:xs.length≤1000000000):Con Tryz.prog 185 [.one (.rows 2 xs.length (flC imC xs)),.fn 100 []] [.one (.int (fz xs 0))]:=by
 refine con_run Tryz.func185 rfl rfl (by simp [Tryz.ntmps185]) ?_
 refine byP Tryz.ntmps185 ?_
 refine sw_loop (fun k:Nat=>k≤xs.length∧fz (xs.drop k) k=fz xs 0) (fun k=>⟨19,[(8,.i k),(7,.i xs.length),(0,.br (.rows 2 xs.length (flC imC xs))),(1,.fn 100 [])],[],[],0,[]⟩) (fun k=>xs.length-k) 0 id ⟨Nat.zero_le _,rfl⟩ ?_ ?_
 ·exact byQ True.intro
 ·rintro k ⟨hk,hf⟩
  refine sw_run 200 _ _ _ ?_
  by_cases hlt:k<xs.length
  ·have hi:(k:Int)<(xs.length:Int):=by omega
   have hR:=flC_row imC_len xs k hlt
   have hpc:=con_isZ xs[k]!
   simp only [imC] at hR hpc
   rw [fz_step xs k hlt] at hf
   refine byP (fc hi hR) ?_
   refine sw_call (hpc) rfl (aAs_ok ?_) ?_ (sw_run 200 _ _ _ ?_)
   ·exact byQ True.intro
   ·simp only [okR]
   by_cases hc:xs[k]!.coef=0
   ·rw [if_pos hc] at hf
    refine byP (fc hc Tryz.results185) ?_
    exact hf
   ·rw [if_neg hc] at hf
    refine byP hc ?_
    refine ⟨by unfold inI;omega,k+1,id,⟨by omega,hf⟩,by omega, ?_⟩
    exact byQ True.intro
  ·have hi:¬ (k:Int)<(xs.length:Int):=by omega
   rw [fz_end xs k (by omega)] at hf
   refine byP hi ?_
   refine sw_run 200 _ _ _ ?_
   simp only [push_cast,↓reduceIte,Nat.reduceLT,reduceCtorEq,Int.reduceNeg,← hf,Tryz.results185]
theorem im_zero (w:World):(zeroValue 149).run Tryz.prog w = .ok (.agg #[.string ⟨#[]⟩,.int .i64 0]) w:=by
 obtain ⟨i,hi,hz⟩:∃ i,Tryz.prog.info? 149=some i∧i.zero=some (.agg #[.string ⟨#[]⟩,.int .i64 0]):=by
  have:=im_info
  cases hx:Tryz.prog.info? 149 with
  | none=>rw [hx] at this;cases this
  | some i=>rw [hx] at this;simp only [Option.map_some,Option.some.injEq,Prod.mk.injEq] at this;exact ⟨i,rfl,this.1⟩
 simp [zeroValue,typeInfo,program,Sem.run_bind,Sem.run,hi,hz,Sem.run_pure,Result.andThen_ok]
theorem con_DelIm (xs:List Im) (hl:xs.length≤1000000):ConP Tryz.prog 99 [.m (.a 149 (imsD xs)),.b (.fn 100 [])] [] [.one (.a 149 (imsD (delZ xs)))]:=by
 have hI:=con_IdxIm xs (by omega)
 have hdl:=del_le xs
 refine con_runP Tryz.func99 rfl rfl (by simp [Tryz.ntmps99]) rfl ?_
 refine byP (fc imsD.eq_1 Tryz.ntmps99) ?_
 refine sw_call (hI) rfl (aAs_ok ?_) ?_ (sw_run 200 _ _ _ ?_)
 ·exact byQ True.intro
 ·simp only [okR]
 rcases fz_cases xs 0 with ⟨h1,h2⟩ | ⟨k0,h1,h2,h3⟩
 ·rw [Int.natCast_zero] at h1
  have hm:((-1:Int) = -1):=rfl
  exact byP (fc h1 (fc h2 Tryz.results99)) True.intro
 rw [Int.natCast_zero,Nat.zero_add] at h2
 obtain ⟨hth,hk0⟩:=thin_start h1 h3
 have hne:¬ ((k0:Int) = -1):=by omega
 have hin0:inI ((k0:Int)+1):=by unfold inI;omega
 refine byP (fc h2 (fc hne hin0)) ?_
 refine sw_loop (fun p:Nat × List Im=>p.1≤xs.length∧thin xs p.2 p.1) (fun p=>⟨42,[(6,.i p.1),(5,.i (delZ (xs.take p.1)).length),(0,.sl 0),(1,.fn 100 [])],[],[(0,some ⟨.rows 2 xs.length (flC imC p.2),some 149,true⟩)],1,[]⟩) (fun p=>xs.length-p.1) (k0+1,xs) id ⟨by simp only;omega,hth⟩ ?_ ?_
 ·exact byP hk0 True.intro
 ·rintro ⟨j,ys⟩ ⟨hj,ht⟩
  simp only at hj ht
  refine sw_run 200 _ _ _ ?_
  have hyl:=ht.1
  have hkj:=ht.2.2.2
  by_cases hlt:j<xs.length
  ·have hi:(j:Int)<(xs.length:Int):=by omega
   have hR:=flC_row imC_len ys j (by omega)
   rw [(drop_at ht.1 ht.2.2.1 hlt).1] at hR
   have hpc:=con_isZ xs[j]!
   simp only [imC] at hR hpc
   refine byP (fc hi hR) ?_
   refine sw_call (hpc) rfl (aAs_ok ?_) ?_ (sw_run 200 _ _ _ ?_)
   ·exact byQ True.intro
   ·simp only [okR]
   by_cases hc:xs[j]!.coef=0
   ·obtain ⟨e1,e2⟩:=thin_skip ht hlt hc
    refine byP hc ?_
    refine ⟨by unfold inI;omega,(j+1,ys),id,⟨by simp only;omega,e2⟩,by simp only;omega, ?_⟩
    exact byP e1 True.intro
   ·obtain ⟨e1,e2⟩:=thin_keep ht hlt hc
    have hs:=flC_set xs[j]! ys (delZ (xs.take j)).length (by omega)
    have hb:(((delZ (xs.take j)).length:Nat):Int)<(xs.length:Int):=by omega
    have hin:inI ((((delZ (xs.take j)).length:Nat):Int)+1):=by unfold inI;omega
    refine byP (fc hc (fc hb hin)) ?_
    refine ⟨by unfold inI;omega,(j+1,ys.set (delZ (xs.take j)).length xs[j]!),id,⟨by simp only;omega,e2⟩,by simp only;omega, ?_⟩
    exact byP (fc e1 hs) True.intro
  ·have hi:¬ (j:Int)<(xs.length:Int):=by omega
   obtain rfl:j=xs.length:=by omega
   have hfull:xs.take xs.length=xs:=List.take_length
   rw [hfull] at hkj
   have hmx:(((delZ xs).length:Nat):Int)≤(xs.length:Int):=by omega
   refine byP (fc hi hfull) ?_
   refine sw_run 200 _ _ _ ?_
   refine byQ ?_
   refine sw_clear2 0 (delZ xs).length rfl rfl (by kernel_rfl) rfl hkj (by show (38:Nat)<42;decide) im_zero rfl (by decide) (by
    intro u hu
    simp only [Value.cells,List.mem_toArray,List.mem_cons,List.not_mem_nil,or_false] at hu
    rcases hu with rfl | rfl
    ·exact .inl ⟨_,rfl⟩
    ·exact .inr rfl) (fun Z hZ=>sw_run 200 _ _ _ ?_)
   have hE:=thin_end (Z:=Z) ht
   refine byQ ?_
   refine sw_cutR 0 rfl rfl (by kernel_rfl) ?_ (sw_run 200 _ _ _ ?_)
   ·exact byP hmx True.intro
   simp only [push_cast,fQP,xRetP,rRs,rOs,rC,eRs,eOs,eC,↓reduceIte,Nat.reduceLT,Nat.reduceAdd,reduceCtorEq,cutD,Nat.sub_zero,hE,Tryz.results99]
def adS (a b:Sm):Sm:=⟨(a.const+b.const) % 10007,mgI a.items b.items⟩
def adB (a b:Sm):Bool:=sumOk a && (sumOk b && sumOk (adS a b))
def adR (a b:Sm):Sm:=if sumOk a && sumOk b then chkS (adS a b) else zeroS
theorem len_mg : ∀ a b : List Im, (mgI a b).length ≤ a.length + b.length
  | [], b => by simp [mgI]
  | x :: a, [] => by simp [mgI]
  | x :: a, y :: b => by
    have h1 := len_mg a (y :: b)
    have h2 := len_mg (x :: a) b
    have h3 := len_mg a b
    rw [mg_cons]
    (repeat' split) <;> simp only [List.length_cons] at * <;> omega
termination_by a b=>a.length+b.length
theorem sz_mg : ∀ a b : List Im, szL (flC imC (mgI a b)) ≤ szL (flC imC a) + szL (flC imC b)
  | [], b => by simp [mgI, flC, szL]
  | x :: a, [] => by simp [mgI, flC, szL]
  | x :: a, y :: b => by
    have h1 := sz_mg a (y :: b)
    have h2 := sz_mg (x :: a) b
    have h3 := sz_mg a b
    rw [mg_cons]
    (repeat' split) <;> simp only [flC, imC, List.cons_append, List.nil_append, szL, szD] at * <;> omega
termination_by a b=>a.length+b.length
theorem sz_adS {a b:Sm} (ha:sumOk a=true) (hb:sumOk b=true):szL (sumC (adS a b))≤1000:=by
 have h1:=sz_sumOk ha
 have h2:=sz_sumOk hb
 have h3:=len_mg a.items b.items
 have h4:=sz_mg a.items b.items
 simp only [adS,sumC,imsD,szL,szD] at *
 omega
theorem ascL_of : ∀ (xs : List Im), itAll xs xs.length = true → ascL xs := by
  intro xs h
  have key : ∀ (n : Nat) (ys : List Im), ys.length = n → (∀ k, k + 1 < ys.length → nmL ys[k]! < nmL ys[k + 1]!) → ascL ys := by
    intro n
    induction n with
    | zero => intro ys h _; rw [List.eq_nil_of_length_eq_zero h]; trivial
    | succ n ih =>
      intro ys h hk
      match ys, h with
      | [x], _ => trivial
      | x :: y :: r, h =>
        refine ⟨hk 0 (by simp), ih (y :: r) (by simpa using h) fun k hk' => hk (k + 1) (by simpa using hk')⟩
  refine key _ xs rfl fun k hk => ?_
  have := asc_far xs _ h (k + 1) hk k (by omega)
  rw [asc, bytesLess_eq, Lib.toList_data, Lib.toList_data] at this
  exact of_decide_eq_true this
theorem okC_of (xs:List Im) (h:itAll xs xs.length=true):∀ x ∈ xs,1≤x.coef∧x.coef≤10006:=by
 intro x hx
 obtain ⟨j,hj,rfl⟩:=List.mem_iff_getElem.mp hx
 have:=cfB_t (itOk_base xs j (itAll_at xs _ h j hj)).2
 rwa [getElem!_pos xs j hj] at this
theorem join_last (out:List Im) (x:Im) (h:0<out.length) (hn:out[out.length-1]!.name=x.name):joinS out x=out.set (out.length-1) ⟨out[out.length-1]!.name,red (out[out.length-1]!.coef+x.coef)⟩:=by
 obtain ⟨l,y,rfl⟩:∃ l y,out=l++[y]:=⟨out.dropLast,out[out.length-1]!,by
  rw [getElem!_pos out _ (by omega),← List.getLast_eq_getElem (List.ne_nil_of_length_pos h),List.dropLast_concat_getLast]⟩
 have e:(l++[y])[(l++[y]).length-1]! = y:=by
  have:=bang_end l y
  rwa [List.length_append,List.length_cons,List.length_nil,Nat.zero_add,Nat.add_sub_cancel]
 rw [e] at hn ⊢
 unfold joinS
 simp [hn]
theorem join_not (out:List Im) (x:Im) (h:¬ (0<out.length∧out[out.length-1]!.name=x.name)):joinS out x=out++[x]:=by
 rcases Nat.eq_zero_or_pos out.length with h0 | h0
 ·rw [List.eq_nil_of_length_eq_zero h0];rfl
 ·obtain ⟨l,y,rfl⟩:∃ l y,out=l++[y]:=⟨out.dropLast,out[out.length-1]!,by
   rw [getElem!_pos out _ (by omega),← List.getLast_eq_getElem (List.ne_nil_of_length_pos h0),List.dropLast_concat_getLast]⟩
  have e:(l++[y])[(l++[y]).length-1]! = y:=by
   have:=bang_end l y
   rwa [List.length_append,List.length_cons,List.length_nil,Nat.zero_add,Nat.add_sub_cancel]
  rw [e] at h
  unfold joinS
  have hn:¬ y.name=x.name:=fun e=>h ⟨h0,e⟩
  simp [hn]
def smI (x:Im):Prop:=0≤x.coef∧x.coef≤10006
theorem join_sm (out:List Im) (x:Im) (h:∀ y ∈ out,smI y) (hx:smI x):∀ y ∈ joinS out x,smI y:=by
 by_cases hc:0<out.length∧out[out.length-1]!.name=x.name
 ·rw [join_last out x hc.1 hc.2]
  intro y hy
  rcases List.mem_or_eq_of_mem_set hy with hy | rfl
  ·exact h y hy
  ·unfold smI red;simp only;omega
 ·rw [join_not out x hc]
  intro y hy
  rcases List.mem_append.1 hy with hy | hy
  ·exact h y hy
  ·rw [List.mem_singleton.1 hy];exact hx
def ouI (S:List Im) (k:Nat):List Im:=(S.take k).foldl joinS []
theorem ou_step (S:List Im) (k:Nat) (h:k<S.length):ouI S (k+1)=joinS (ouI S k) S[k]! := by
 rw [ouI,take_snoc S k h,List.foldl_append];rfl
theorem ou_sm (S : List Im) (h : ∀ x ∈ S, smI x) : ∀ k, k ≤ S.length → ∀ y ∈ ouI S k, smI y
  | 0, _ => fun y hy => by cases hy
  | k + 1, hk => by
    rw [ou_step S k hk]
    exact join_sm _ _ (ou_sm S h k (by omega)) (h _ (mem_bang hk))
theorem ou_len (S : List Im) : ∀ k, k ≤ S.length → (ouI S k).length ≤ k
  | 0, _ => Nat.le_refl _
  | k + 1, hk => by
    have := ou_len S k (by omega)
    rw [ou_step S k hk]
    by_cases hc : 0 < (ouI S k).length ∧ (ouI S k)[(ouI S k).length - 1]!.name = S[k]!.name
    · rw [join_last _ _ hc.1 hc.2, List.length_set]; omega
    · rw [join_not _ _ hc, List.length_append]; simp; omega
theorem flC_setc (c:Int) (ys:List Im) (k:Nat) (h:k<ys.length):(flC imC ys).set (k * 2+1) (.int c)=flC imC (ys.set k ⟨ys[k]!.name,c⟩):=by
 rw [← flC_set _ ys k h]
 congr 1
 have h2:k * 2<(flC imC ys).length:=by rw [flC_len imC_len];omega
 have e:(flC imC ys)[k * 2]? = some (.str ys[k]!.name):=by
  have:=flC_row imC_len ys k h
  rw [rowAt,List.drop_eq_getElem_cons h2] at this
  simp only [imC] at this
  injection this with this
  rw [List.getElem?_eq_getElem h2,this]
 obtain ⟨_,e2⟩:=List.getElem?_eq_some_iff.1 e
 rw [← e2];exact (List.set_getElem_self h2).symm
theorem srt_mem (xs : List Im) : ∀ k, k ≤ xs.length → ∀ y ∈ srt xs k, y ∈ xs
  | 0, _ => fun y hy => by cases hy
  | k + 1, hk => fun y hy => by
    have ih := srt_mem xs k (by omega)
    rw [srt, insP] at hy
    rcases List.mem_append.1 hy with hy | hy
    · exact ih y (List.mem_of_mem_take hy)
    · rcases List.mem_cons.1 hy with rfl | hy
      · exact mem_bang hk
      · exact ih y (List.mem_of_mem_drop hy)
theorem con_AddI (a b:Sm) (hza:szL (sumC a)≤1000000000) (hzb:szL (sumC b)≤1000000000):Con Tryz.prog 33 [.ag (sumC a),.ag (sumC b)] [.ag (sumC (adR a b)),.one (.bool (adB a b))]:=by
 have ha:=con_IsSumI a hza
 have hb:=con_IsSumI b hzb
 by_cases hoa:sumOk a=true
 case neg =>
  have hoa:sumOk a=false:=by simpa using hoa
  have hR:adR a b=zeroS:=by rw [adR,hoa];rfl
  have hB:adB a b=false:=by rw [adB,hoa];rfl
  rw [hoa] at ha
  rw [hR,hB]
  refine con_run Tryz.func33 rfl rfl (by simp [Tryz.ntmps33]) ?_
  refine byP (fc sumC.eq_1 (fc imsD.eq_1 Tryz.ntmps33)) ?_
  refine sw_call (ha) rfl (aAs_ok ?_) ?_ (sw_run 200 _ _ _ ?_)
  ·exact byP (fc sumC.eq_1 imsD.eq_1) True.intro
  ·simp only [okR]
  simp only [push_cast,↓reduceIte,Nat.reduceLT,Nat.reduceAdd,Nat.reduceEqDiff,reduceCtorEq,zeroS,flC,Tryz.results33]
 rw [hoa] at ha
 by_cases hob:sumOk b=true
 case neg =>
  have hob:sumOk b=false:=by simpa using hob
  have hR:adR a b=zeroS:=by rw [adR,hoa,hob];rfl
  have hB:adB a b=false:=by rw [adB,hoa,hob];rfl
  rw [hob] at hb
  rw [hR,hB]
  refine con_run Tryz.func33 rfl rfl (by simp [Tryz.ntmps33]) ?_
  refine byP (fc sumC.eq_1 (fc imsD.eq_1 Tryz.ntmps33)) ?_
  refine sw_call (ha) rfl (aAs_ok ?_) ?_ (sw_run 200 _ _ _ ?_)
  ·exact byP (fc sumC.eq_1 imsD.eq_1) True.intro
  ·simp only [okR]
  refine byQ ?_
  refine sw_call (hb) rfl (aAs_ok ?_) ?_ (sw_run 200 _ _ _ ?_)
  ·exact byP (fc sumC.eq_1 imsD.eq_1) True.intro
  ·simp only [okR]
  simp only [push_cast,↓reduceIte,Nat.reduceLT,Nat.reduceAdd,Nat.reduceEqDiff,reduceCtorEq,zeroS,flC,Tryz.results33]
 rw [hob] at hb
 have hR:adR a b=chkS (adS a b):=by rw [adR,hoa,hob];rfl
 have hB:adB a b=sumOk (adS a b):=by rw [adB,hoa,hob];rfl
 rw [hR,hB]
 obtain ⟨haA,hac,hal⟩:=sumOk_t hoa
 obtain ⟨hbA,hbc,hbl⟩:=sumOk_t hob
 have hpm:=prog_mg a.items b.items (ascL_of _ haA) (ascL_of _ hbA) (fun x hx h=>by have:=okC_of _ haA x hx;omega) (fun x hx h=>by have:=okC_of _ hbA x hx;omega)
 have hC:=con_ConcatM [a.items,b.items] (by simp;omega) (by simp)
 simp only [List.map_cons,List.map_nil,List.flatten_cons,List.flatten_nil,List.append_nil,List.length_cons,List.length_nil,imsD] at hC
 generalize hxs:a.items++b.items=xs at *
 have hxl:xs.length≤16:=by rw [← hxs,List.length_append];omega
 have hS:=con_SortSt xs (by omega)
 have hsl:(srt xs xs.length).length=xs.length:=srt_len xs xs.length
 have hsm:∀ x ∈ srt xs xs.length,smI x:=by
  intro x hx
  have hx:=srt_mem xs _ (Nat.le_refl _) x hx
  rw [← hxs] at hx
  rcases List.mem_append.1 hx with hx | hx
  ·have:=okC_of _ haA x hx;unfold smI;omega
  ·have:=okC_of _ hbA x hx;unfold smI;omega
 generalize hS':srt xs xs.length=S at *
 have hcin:inI (a.const+b.const):=by unfold inI;omega
 refine con_run Tryz.func33 rfl rfl (by simp [Tryz.ntmps33]) ?_
 refine byP (fc sumC.eq_1 (fc imsD.eq_1 Tryz.ntmps33)) ?_
 refine sw_call (ha) rfl (aAs_ok ?_) ?_ (sw_run 200 _ _ _ ?_)
 ·exact byP (fc sumC.eq_1 imsD.eq_1) True.intro
 ·simp only [okR]
 refine byQ ?_
 refine sw_call (hb) rfl (aAs_ok ?_) ?_ (sw_run 200 _ _ _ ?_)
 ·exact byP (fc sumC.eq_1 imsD.eq_1) True.intro
 ·simp only [okR]
 refine byQ ?_
 refine sw_callP (hC) rfl rfl rfl rfl ?_ ?_ ?_ (sw_run 200 _ _ _ ?_)
 ·exact byQ True.intro
 ·exact byQ True.intro
 ·exact byQ True.intro
 refine byQ ?_
 refine sw_callW hS rfl rfl rfl ⟨rfl,rfl⟩ ?_ (sw_run 200 _ _ _ ?_)
 ·exact byQ True.intro
 simp only [push_cast,↓reduceIte,Nat.reduceLT,Nat.reduceEqDiff,reduceCtorEq,AS.lend,lendL,lendO,unspLT,unspLB,AV.unspL,AV.unspLs]
 refine ⟨hcin, ?_⟩
 refine sw_call (con_ReduceI (a.const+b.const)) rfl (aAs_ok ?_) ?_ (sw_run 200 _ _ _ ?_)
 ·exact byQ True.intro
 ·simp only [okR]
 refine byQ ?_
 refine sw_ownB 5 1 149 rfl rfl ?_
 refine sw_loop (fun k:Nat=>k≤S.length) (fun k=>⟨88,[(37,.i k),(36,.i xs.length),(35,.sl 4),(7,.bx 5 0),(4,.bx 2 0)],[(2,[.i 0,.nl 2]),(5,[.i ((a.const+b.const) % 10007),.sl 6])],[(4,some ⟨.rows 2 xs.length (flC imC S),none,true⟩),(6,some ⟨.rows 2 (ouI S k).length (flC imC (ouI S k)),some 149,true⟩)],7,[]⟩) (fun k=>S.length-k) 0 id (Nat.zero_le _) ?_ ?_
 ·simp only [push_cast,Sub,subT,subB,subO,subP,inj,AV.ren,AV.rens,AV.lt,AV.lts,↓reduceIte,Nat.reduceLT,Nat.reduceAdd,Nat.reduceEqDiff,ouI,List.foldl_nil,List.length_nil,flC]
 rintro k hk
 refine sw_run 200 _ _ _ ?_
 by_cases hlt:k<S.length
 case neg =>
  have hi:¬ (k:Int)<(xs.length:Int):=by omega
  obtain rfl:k=S.length:=by omega
  have hou:ouI S S.length=S.foldl joinS []:=by rw [ouI,List.take_length]
  rw [hou]
  have hD:=con_DelIm (S.foldl joinS []) (by have:=ou_len S S.length (Nat.le_refl _);rw [hou] at this;omega)
  rw [hpm] at hD
  have hck:=con_checked (adS a b) (by have:=sz_adS hoa hob;omega)
  simp only [imsD] at hD
  simp only [sumC,imsD,adS] at hck
  refine byP hi ?_
  refine sw_run 200 _ _ _ ?_
  refine byQ ?_
  refine sw_callP (hD) rfl rfl rfl rfl ?_ ?_ ?_ (sw_run 200 _ _ _ ?_)
  ·exact byQ True.intro
  ·exact byQ True.intro
  ·exact byQ True.intro
  refine byQ ?_
  refine sw_callM hck rfl ?_ ?_ ?_ (sw_run 200 _ _ _ ?_)
  ·simp only [push_cast,mAs,mA,↓reduceIte]
  ·exact byQ True.intro
  ·exact byQ True.intro
  exact byP (fc adS.eq_1 Tryz.results33) True.intro
 have hi:(k:Int)<(xs.length:Int):=by omega
 have hR:=flC_row imC_len S k hlt
 simp only [imC] at hR
 have hol:=ou_len S k hk
 have hsn:=ou_step S k hlt
 have hal:(((ouI S k).length:Nat):Int)≤1000:=by omega
 have hin1:inI (((ouI S k).length:Int)-1):=by unfold inI;omega
 refine byP (fc hi (fc hR hin1)) ?_
 by_cases h0:0<(ouI S k).length
 case neg =>
  have hj:=join_not (ouI S k) S[k]! (fun h=>h0 h.1)
  have hz:¬ (0:Int)≤((ouI S k).length:Int)-1:=by omega
  rw [hj] at hsn
  refine sw_drawn (.cons 0 true (.cons 1 true (.cons 2 true (.cons 3 true (.cons 4 true (.cons 5 true (.cons 6 true (.cons 7 true (.cons 8 true (.cons 9 true (.cons 10 true (.cons 11 true (.cons 12 true (.nil)))))))))))))) (by kernel_rfl) qLp_panic (by kernel_rfl) (sw_run 200 _ _ _ ?_)
  refine byP hz ?_
  refine ⟨⟨fun h=>h.elim,fun o ho=>by omega,by unfold maxLen;omega,by omega⟩,by unfold inI;omega,k+1,rn1 6 9,by omega,by omega, ?_⟩
  simp only [push_cast,Sub,subT,subB,subO,subP,inj,AV.ren,AV.rens,AV.lt,AV.lts,↓reduceIte,Nat.reduceLT,Nat.reduceEqDiff,rn1,cast1,hsn,flC_app,flC_one,List.length_append,imC]
 have hz:(0:Int)≤((ouI S k).length:Int)-1:=by omega
 have hc1:((ouI S k).length:Int)-1=(((ouI S k).length-1:Nat):Int):=by omega
 have hlb:(((ouI S k).length-1:Nat):Int)<((ouI S k).length:Int):=by omega
 have hR2:=flC_row imC_len (ouI S k) ((ouI S k).length-1) (by omega)
 simp only [imC] at hR2
 refine sw_drawn (.cons 0 true (.cons 1 true (.cons 2 true (.cons 3 true (.cons 4 true (.cons 5 true (.cons 6 true (.cons 7 true (.cons 8 true (.cons 9 true (.cons 10 true (.cons 11 true (.cons 12 true (.nil)))))))))))))) (by kernel_rfl) qLp_panic (by kernel_rfl) (sw_run 200 _ _ _ ?_)
 by_cases hn:(ouI S k)[(ouI S k).length-1]!.name=S[k]!.name
 ·have hj:=join_last (ouI S k) S[k]! h0 hn
  rw [hj] at hsn
  have s1:=ou_sm S hsm k hk _ (mem_bang (show (ouI S k).length-1<(ouI S k).length by omega))
  have s2:=hsm _ (mem_bang hlt)
  unfold smI at s1 s2
  have hin2:inI ((ouI S k)[(ouI S k).length-1]!.coef+S[k]!.coef):=by unfold inI;omega
  have hset:=flC_setc (((ouI S k)[(ouI S k).length-1]!.coef+S[k]!.coef) % 10007) (ouI S k) ((ouI S k).length-1) (by omega)
  have hz':(0:Int)≤(((ouI S k).length-1:Nat):Int):=by omega
  have hred:red ((ouI S k)[(ouI S k).length-1]!.coef+S[k]!.coef)=((ouI S k)[(ouI S k).length-1]!.coef+S[k]!.coef) % 10007:=rfl
  rw [hred] at hsn
  refine byP (fc hc1 (fc hz' (fc hlb (fc hR2 hn)))) ?_
  refine sw_drawn (.cons 0 true (.cons 1 true (.cons 2 true (.cons 3 true (.cons 4 true (.cons 5 true (.cons 6 true (.cons 7 true (.cons 8 true (.cons 9 true (.cons 10 true (.cons 11 true (.cons 12 false (.cons 13 true (.cons 14 true (.cons 15 false (.nil))))))))))))))))) (by kernel_rfl) qLp_panic (by kernel_rfl) (sw_run 200 _ _ _ ?_)
  refine byP (fc hlb (fc hR2 (fc hn hin2))) ?_
  refine sw_callD (con_ReduceI ((ouI S k)[(ouI S k).length-1]!.coef+S[k]!.coef)) rfl (aAs_ok ?_) ?_ (sw_run 200 _ _ _ ?_)
  ·exact byQ True.intro
  ·simp only [okR]
  refine byP (fc hlb (fc hn hset)) ?_
  refine ⟨by unfold inI;omega,k+1,id,by omega,by omega, ?_⟩
  simp only [push_cast,Sub,subT,subB,subO,subP,inj,AV.ren,AV.rens,AV.lt,AV.lts,↓reduceIte,Nat.reduceLT,Nat.reduceEqDiff,cast1,hsn,hn,List.length_set]
 ·have hj:=join_not (ouI S k) S[k]! (fun h=>hn h.2)
  rw [hj] at hsn
  have hz':(0:Int)≤(((ouI S k).length-1:Nat):Int):=by omega
  refine byP (fc hc1 (fc hz' (fc hlb (fc hR2 hn)))) ?_
  refine ⟨⟨fun h=>h.elim,fun o ho=>by omega,by unfold maxLen;omega,by omega⟩,by unfold inI;omega,k+1,rn1 6 9,by omega,by omega, ?_⟩
  simp only [push_cast,Sub,subT,subB,subO,subP,inj,AV.ren,AV.rens,AV.lt,AV.lts,↓reduceIte,Nat.reduceLT,Nat.reduceEqDiff,rn1,cast1,hsn,flC_app,flC_one,List.length_append,imC]
def tw:List Im→Im→Nat
 | [],_=>0
 | x :: a,y=>if nmL x<nmL y then tw a y+1 else 0
theorem tw_le (y:Im):∀ l,tw l y≤l.length
 | []=>Nat.le_refl _
 | x :: a=>by have:=tw_le y a;rw [tw];split <;> simp <;> omega
theorem tw_lt (y : Im) : ∀ (l : List Im) (i : Nat), i < tw l y → nmL l[i]! < nmL y
  | [], i, h => by simp [tw] at h
  | x :: a, i, h => by
    rw [tw] at h
    split at h
    · rename_i hx
      cases i with
      | zero => exact hx
      | succ i => exact tw_lt y a i (by omega)
    · omega
theorem tw_end (y : Im) : ∀ (l : List Im), tw l y < l.length → ¬ nmL l[tw l y]! < nmL y
  | [], h => by simp at h
  | x :: a, h => by
    rw [tw] at h ⊢
    split
    · rename_i hx
      rw [if_pos hx] at h
      exact tw_end y a (by simpa using h)
    · rename_i hx; exact hx
theorem put_miss (y : Im) : ∀ (l : List Im), ¬ (tw l y < l.length ∧ l[tw l y]!.name = y.name) → putL l y = l.take (tw l y) ++ (if y.coef = 0 then [] else [y]) ++ l.drop (tw l y)
  | [], h => by rw [putL]; split <;> rfl
  | x :: a, h => by
    rw [tw] at h ⊢
    rw [putL]
    by_cases hx : nmL x < nmL y
    · simp only [if_pos hx] at h ⊢
      rw [put_miss y a (fun e => h ⟨by simpa using e.1, by simpa using e.2⟩)]
      simp
    · simp only [if_neg hx] at h ⊢
      have hne : ¬ x.name = y.name := fun e => h ⟨by simp, by simpa using e⟩
      have h2 : nmL y < nmL x := by
        by_cases h2 : nmL y < nmL x
        · exact h2
        · exact absurd (nm_inj (lt_tot hx h2)) hne
      rw [if_pos h2]
      split <;> simp
theorem put_hit (y : Im) : ∀ (l : List Im), tw l y < l.length → l[tw l y]!.name = y.name → putL l y = l.take (tw l y) ++ (if red (y.coef + l[tw l y]!.coef) = 0 then [] else [⟨y.name, red (y.coef + l[tw l y]!.coef)⟩]) ++ l.drop (tw l y + 1)
  | [], h, _ => by simp at h
  | x :: a, h, hn => by
    rw [tw] at h hn ⊢
    rw [putL]
    by_cases hx : nmL x < nmL y
    · simp only [if_pos hx] at h hn ⊢
      rw [put_hit y a (by simpa using h) (by simpa using hn)]
      simp
    · simp only [if_neg hx] at h hn ⊢
      have e : x.name = y.name := by simpa using hn
      have e2 : nmL x = nmL y := by unfold nmL; rw [e]
      have h2 : ¬ nmL y < nmL x := by rw [e2]; exact lt_irr _
      rw [if_neg h2]
      simp only [List.getElem!_cons_zero]
      split <;> simp
theorem asc_nm (x y:Im):asc x.name y.name=decide (nmL x<nmL y):=by
 rw [asc,bytesLess_eq,Lib.toList_data,Lib.toList_data];rfl
theorem put_cases (l:List Im) (y:Im):(∃ z r,l.drop (tw l y)=z :: r∧z ∈ l∧z.name=y.name∧putL l y=l.take (tw l y)++(if red (y.coef+z.coef)=0 then [] else [⟨y.name,red (y.coef+z.coef)⟩])++r) ∨
  ((∀ z r,l.drop (tw l y)=z :: r→¬ z.name=y.name)∧putL l y=l.take (tw l y)++(if y.coef=0 then [] else [y])++l.drop (tw l y)):=by
 by_cases h:tw l y<l.length∧l[tw l y]!.name=y.name
 ·exact .inl ⟨l[tw l y]!,l.drop (tw l y+1),by rw [getElem!_pos l _ h.1];exact List.drop_eq_getElem_cons h.1,mem_bang h.1,h.2,put_hit y l h.1 h.2⟩
 ·refine .inr ⟨fun z r e en=>h ?_,put_miss y l h⟩
  have hl:tw l y<l.length:=by
   have:(l.drop (tw l y)).length=r.length+1:=by rw [e];rfl
   rw [List.length_drop] at this;omega
  rw [List.drop_eq_getElem_cons hl] at e
  injection e with e1 e2
  exact ⟨hl,by rw [getElem!_pos l _ hl,e1,en]⟩
theorem cut_pre (l:List Im) (i:Nat) (h:i≤l.length):cutD (.rows 2 l.length (flC imC l)) 0 i = .rows 2 (l.take i).length (flC imC (l.take i)):=by
 have e:flC imC l=flC imC (l.take i)++flC imC (l.drop i):=by rw [← flC_app,List.take_append_drop]
 have e2:(flC imC (l.take i)).length=i * 2:=by rw [flC_len imC_len,List.length_take,Nat.min_eq_left h]
 rw [cutD,List.length_take,Nat.min_eq_left h,e,Nat.zero_mul,List.drop_zero,Nat.sub_zero,← e2,List.take_left]
theorem cut_post (l:List Im) (i:Nat) (h:i≤l.length):cutD (.rows 2 l.length (flC imC l)) i l.length = .rows 2 (l.drop i).length (flC imC (l.drop i)):=by
 have e:flC imC l=flC imC (l.take i)++flC imC (l.drop i):=by rw [← flC_app,List.take_append_drop]
 have e2:(flC imC (l.take i)).length=i * 2:=by rw [flC_len imC_len,List.length_take,Nat.min_eq_left h]
 have e3:(flC imC (l.drop i)).length=(l.length-i) * 2:=by rw [flC_len imC_len,List.length_drop]
 rw [cutD,List.length_drop,e,← e2,List.drop_left,← e3,List.take_length]
theorem con_Put (l : List Im) (y : Im) (hl : l.length ≤ 1000000) (hsl : ∀ x ∈ l, smI x) (hy : smI y) : Con Tryz.prog 103 [.one (.rows 2 l.length (flC imC l)), .ag (imC y)] [.one (imsD (putL l y))] := by
  have htl := tw_le y l
  refine con_run Tryz.func103 rfl rfl (by simp [Tryz.ntmps103]) ?_
  refine byP (fc imC.eq_1 Tryz.ntmps103) ?_
  refine sw_loop (fun k : Nat => k ≤ tw l y) (fun k => ⟨65, [(5, .i k), (3, .bx 0 0), (0, .br (.rows 2 l.length (flC imC l)))], [(0, [.s y.name, .i y.coef])], [], 1, []⟩) (fun k => tw l y - k) 0 id (Nat.zero_le _) ?_ ?_
  · exact byQ True.intro
  rintro k hk
  refine sw_run 200 _ _ _ ?_
  refine byQ ?_
  obtain ⟨bk, hbk⟩ : ∃ b, b = decide (k < tw l y) := ⟨_, rfl⟩
  refine sw_drawnK ⟨65, [(21, .b bk), (5, .i k), (3, .bx 0 0), (0, .br (.rows 2 l.length (flC imC l)))], [(0, [.s y.name, .i y.coef])], [], 1, []⟩ (.cons 0 true (.cons 1 true (.cons 2 true (.cons 3 true (.cons 4 true (.cons 5 true (.cons 6 true (.cons 7 true (.cons 8 true (.cons 9 true (.cons 10 true (.cons 11 true (.cons 12 true (.cons 13 true (.nil))))))))))))))) (by kernel_rfl) (by kernel_rfl) ?_ ?_
  · refine sw_run 200 _ _ _ ?_
    by_cases hlt : k < l.length
    · have hi : (k : Int) < (l.length : Int) := by omega
      have hR := flC_row imC_len l k hlt
      simp only [imC] at hR
      have hb : Op.bytesLess l[k]!.name.toList y.name.toList = bk := by
        rw [hbk, show Op.bytesLess l[k]!.name.toList y.name.toList = asc l[k]!.name y.name from rfl, asc_nm]
        by_cases h : k < tw l y
        · rw [decide_eq_true (tw_lt y l k h), decide_eq_true h]
        · obtain rfl : k = tw l y := by omega
          rw [decide_eq_false (tw_end y l hlt), decide_eq_false h]
      refine byP (fc hi (fc hR hb)) ?_
      refine ⟨rfl, id, ?_⟩
      exact byQ True.intro
    · have hi : ¬ (k : Int) < (l.length : Int) := by omega
      have hb : bk = false := by rw [hbk]; exact decide_eq_false (by omega)
      refine byP (fc hi hb) ?_
      refine ⟨rfl, id, ?_⟩
      exact byQ True.intro
  refine sw_run 200 _ _ _ ?_
  by_cases hk2 : k < tw l y
  · have hb : bk = true := by rw [hbk]; exact decide_eq_true hk2
    refine byP hb ?_
    refine ⟨by unfold inI; omega, k + 1, id, by omega, by omega, ?_⟩
    exact byQ True.intro
  have hb : bk = false := by rw [hbk]; exact decide_eq_false hk2
  obtain rfl : k = tw l y := by omega
  have hmx : ((tw l y : Nat) : Int) ≤ (l.length : Int) := by omega
  refine byP hb ?_
  refine sw_run 200 _ _ _ ?_
  have hcA := cut_pre l (tw l y) htl
  have hcB := cut_post l (tw l y) htl
  have hpc := put_cases l y
  have hHl : (l.take (tw l y)).length ≤ 1000000 := by rw [List.length_take]; omega
  have hRl : (l.drop (tw l y)).length ≤ 1000000 := by rw [List.length_drop]; omega
  refine byP (fc hmx (fc hcA hcB)) ?_
  generalize l.take (tw l y) = H at *
  generalize l.drop (tw l y) = R at *
  refine ⟨⟨fun _ => prim_ims H, by simp, by unfold maxLen; omega, by omega⟩, ?_⟩
  rcases hpc with ⟨z, r, rfl, hz, hzn, hput⟩ | ⟨hne, hput⟩
  · have hR0 : rowAt 2 (flC imC (z :: r)) 0 = [.str z.name, .int z.coef] := flC_row imC_len (z :: r) 0 (by simp)
    have hpos : (0 : Int) < ((z :: r).length : Int) := by simp only [List.length_cons]; omega
    have hle1 : (1 : Int) ≤ ((z :: r).length : Int) := by omega
    have hcut : cutD (.rows 2 (z :: r).length (flC imC (z :: r))) 1 (z :: r).length = .rows 2 r.length (flC imC r) := cut_post (z :: r) 1 (by simp)
    have hrl : r.length ≤ 1000000 := by simp only [List.length_cons] at hRl; omega
    have hzs := hsl z hz
    unfold smI at hzs hy
    have hin : inI (y.coef + z.coef) := by unfold inI; omega
    generalize z :: r = R at *
    refine sw_drawn (.cons 0 true (.cons 1 true (.cons 2 true (.cons 3 true (.cons 4 true (.cons 5 true (.cons 6 true (.cons 7 true (.cons 8 true (.cons 9 true (.cons 10 true (.cons 11 true (.nil))))))))))))) (by kernel_rfl) fQ_panic (by kernel_rfl) (sw_run 200 _ _ _ ?_)
    refine byP (fc hpos (fc hR0 hzn)) ?_
    refine sw_drawn (.cons 0 true (.cons 1 true (.cons 2 true (.cons 3 true (.cons 4 true (.cons 5 true (.cons 6 true (.cons 7 false (.cons 8 true (.cons 9 false (.nil))))))))))) (by kernel_rfl) fQ_panic (by kernel_rfl) (sw_run 200 _ _ _ ?_)
    refine byP (fc hpos (fc hR0 hin)) ?_
    refine sw_callD (con_ReduceS (y.coef + z.coef)) rfl (aAs_ok ?_) ?_ (sw_run 200 _ _ _ ?_)
    · exact byQ True.intro
    · simp only [okR]
    have hred : red (y.coef + z.coef) = (y.coef + z.coef) % 10007 := rfl
    rw [hred] at hput
    refine byP (fc hle1 hcut) ?_
    by_cases hc : (y.coef + z.coef) % 10007 = 0
    · rw [if_pos hc, List.append_nil] at hput
      simp only [push_cast, ↓reduceIte, hc, hput, imsD, flC_app, List.length_append, Tryz.results103]
      exact ⟨fun _ => prim_ims r, by simp, by unfold maxLen; omega, by omega⟩
    · rw [if_neg hc] at hput
      simp only [push_cast, ↓reduceIte, hc, hput, imsD, flC_app, flC_one, List.length_append, imC, Tryz.results103]
      exact ⟨⟨fun h => h.elim, fun o ho => by omega, by unfold maxLen; omega, by omega⟩, fun _ => prim_ims r, by simp, by unfold maxLen; omega, by omega⟩
  · refine sw_drawnK ⟨65, [(43, .b false), (7, .br (.rows 2 R.length (flC imC R))), (6, .sl 2), (3, .bx 0 0)], [(0, [.s y.name, .i y.coef])], [(2, some ⟨.rows 2 H.length (flC imC H), some 149, true⟩)], 3, []⟩ (.cons 0 true (.cons 1 true (.cons 2 true (.cons 3 true (.cons 4 true (.cons 5 true (.cons 6 true (.cons 7 true (.cons 8 true (.cons 9 true (.cons 10 true (.cons 11 true (.nil))))))))))))) (by kernel_rfl) (by kernel_rfl) ?_ ?_
    · refine sw_run 200 _ _ _ ?_
      cases R with
      | nil =>
        have hpos : ¬ (0 : Int) < (([] : List Im).length : Int) := by simp
        refine byQ ?_
        refine ⟨rfl, id, ?_⟩
        exact byQ True.intro
      | cons z r =>
        have hR0 : rowAt 2 (flC imC (z :: r)) 0 = [.str z.name, .int z.coef] := flC_row imC_len (z :: r) 0 (by simp)
        have hpos : (0 : Int) < ((z :: r).length : Int) := by simp only [List.length_cons]; omega
        have hzn := hne z r rfl
        generalize z :: r = R at *
        refine byP (fc hpos (fc hR0 hzn)) ?_
        refine ⟨rfl, id, ?_⟩
        exact byQ True.intro
    refine sw_run 200 _ _ _ ?_
    by_cases hc : y.coef = 0
    · rw [if_pos hc, List.append_nil] at hput
      simp only [push_cast, ↓reduceIte, Nat.reduceLT, Nat.reduceAdd, Nat.reduceEqDiff, reduceCtorEq, hc, hput, imsD, flC_app, List.length_append, Tryz.results103]
      exact ⟨fun _ => prim_ims R, by simp, by unfold maxLen; omega, by omega⟩
    · rw [if_neg hc] at hput
      simp only [push_cast, ↓reduceIte, Nat.reduceLT, Nat.reduceAdd, Nat.reduceLeDiff, Nat.reduceEqDiff, reduceCtorEq, hc, hput, imsD, flC_app, flC_one, List.length_append, List.length_cons, imC, Tryz.results103]
      exact ⟨⟨fun h => h.elim, fun o ho => by omega, by unfold maxLen; omega, by omega⟩, fun _ => prim_ims R, by simp, by unfold maxLen; omega, by omega⟩
theorem put_sm (l:List Im) (y:Im) (h:∀ x ∈ l,smI x) (hy:smI y):∀ x ∈ putL l y,smI x:=by
 intro x hx
 rcases put_cases l y with ⟨z,r,e,_,_,hput⟩ | ⟨_,hput⟩ <;> rw [hput] at hx <;> rcases List.mem_append.1 hx with hx | hx
 ·rcases List.mem_append.1 hx with hx | hx
  ·exact h x (List.mem_of_mem_take hx)
  ·split at hx
   ·cases hx
   ·rw [List.mem_singleton.1 hx];unfold smI red;simp only;omega
 ·exact h x (List.mem_of_mem_drop (e ▸ List.mem_cons_of_mem _ hx))
 ·rcases List.mem_append.1 hx with hx | hx
  ·exact h x (List.mem_of_mem_take hx)
  ·split at hx
   ·cases hx
   ·rw [List.mem_singleton.1 hx];exact hy
 ·exact h x (List.mem_of_mem_drop hx)
theorem put_len (l:List Im) (y:Im):(putL l y).length≤l.length+1:=by
 have e:(l.take (tw l y)).length+(l.drop (tw l y)).length=l.length:=by rw [← List.length_append,List.take_append_drop]
 rcases put_cases l y with ⟨z,r,e2,_,_,hput⟩ | ⟨_,hput⟩ <;> rw [hput,List.length_append,List.length_append]
 ·rw [e2,List.length_cons] at e
  split <;> simp only [List.length_nil,List.length_cons] <;> omega
 ·split <;> simp only [List.length_nil,List.length_cons] <;> omega
def fdI (a b:List Im) (k:Nat):List Im:=(b.take k).foldl putL a
theorem fd_step (a b:List Im) (k:Nat) (h:k<b.length):fdI a b (k+1)=putL (fdI a b k) b[k]! := by
 rw [fdI,take_snoc b k h,List.foldl_append];rfl
theorem fd_ok (a b : List Im) (ha : ∀ x ∈ a, smI x) (hb : ∀ x ∈ b, smI x) : ∀ k, k ≤ b.length → (∀ x ∈ fdI a b k, smI x) ∧ (fdI a b k).length ≤ a.length + k
  | 0, _ => ⟨ha, Nat.le_refl _⟩
  | k + 1, hk => by
    obtain ⟨h1, h2⟩ := fd_ok a b ha hb k (by omega)
    have := put_len (fdI a b k) b[k]!
    rw [fd_step a b k hk]
    exact ⟨put_sm _ _ h1 (hb _ (mem_bang hk)), by omega⟩
theorem con_AddS (a b:Sm) (hza:szL (sumC a)≤1000000000) (hzb:szL (sumC b)≤1000000000):Con Tryz.prog 34 [.ag (sumC a),.ag (sumC b)] [.ag (sumC (adR a b)),.one (.bool (adB a b))]:=by
 have ha:=con_IsSumS a hza
 have hb:=con_IsSumS b hzb
 by_cases hoa:sumOk a=true
 case neg =>
  have hoa:sumOk a=false:=by simpa using hoa
  have hR:adR a b=zeroS:=by rw [adR,hoa];rfl
  have hB:adB a b=false:=by rw [adB,hoa];rfl
  rw [hoa] at ha
  rw [hR,hB]
  refine con_run Tryz.func34 rfl rfl (by simp [Tryz.ntmps34]) ?_
  refine byP (fc sumC.eq_1 (fc imsD.eq_1 Tryz.ntmps34)) ?_
  refine sw_call (ha) rfl (aAs_ok ?_) ?_ (sw_run 200 _ _ _ ?_)
  ·exact byP (fc sumC.eq_1 imsD.eq_1) True.intro
  ·simp only [okR]
  simp only [push_cast,↓reduceIte,Nat.reduceLT,Nat.reduceAdd,Nat.reduceEqDiff,reduceCtorEq,zeroS,flC,Tryz.results34]
 rw [hoa] at ha
 by_cases hob:sumOk b=true
 case neg =>
  have hob:sumOk b=false:=by simpa using hob
  have hR:adR a b=zeroS:=by rw [adR,hoa,hob];rfl
  have hB:adB a b=false:=by rw [adB,hoa,hob];rfl
  rw [hob] at hb
  rw [hR,hB]
  refine con_run Tryz.func34 rfl rfl (by simp [Tryz.ntmps34]) ?_
  refine byP (fc sumC.eq_1 (fc imsD.eq_1 Tryz.ntmps34)) ?_
  refine sw_call (ha) rfl (aAs_ok ?_) ?_ (sw_run 200 _ _ _ ?_)
  ·exact byP (fc sumC.eq_1 imsD.eq_1) True.intro
  ·simp only [okR]
  refine byQ ?_
  refine sw_call (hb) rfl (aAs_ok ?_) ?_ (sw_run 200 _ _ _ ?_)
  ·exact byP (fc sumC.eq_1 imsD.eq_1) True.intro
  ·simp only [okR]
  simp only [push_cast,↓reduceIte,Nat.reduceLT,Nat.reduceAdd,Nat.reduceEqDiff,reduceCtorEq,zeroS,flC,Tryz.results34]
 rw [hob] at hb
 have hR:adR a b=chkS (adS a b):=by rw [adR,hoa,hob];rfl
 have hB:adB a b=sumOk (adS a b):=by rw [adB,hoa,hob];rfl
 rw [hR,hB]
 obtain ⟨haA,hac,hal⟩:=sumOk_t hoa
 obtain ⟨hbA,hbc,hbl⟩:=sumOk_t hob
 have hfp:=fold_put b.items a.items (ascL_of _ haA) (ascL_of _ hbA) (fun x hx h=>by have:=okC_of _ hbA x hx;omega)
 have hsa:∀ x ∈ a.items,smI x:=fun x hx=>by have:=okC_of _ haA x hx;unfold smI;omega
 have hsb:∀ x ∈ b.items,smI x:=fun x hx=>by have:=okC_of _ hbA x hx;unfold smI;omega
 have hfd:=fd_ok a.items b.items hsa hsb
 have hcin:inI (a.const+b.const):=by unfold inI;omega
 refine con_run Tryz.func34 rfl rfl (by simp [Tryz.ntmps34]) ?_
 refine byP (fc sumC.eq_1 (fc imsD.eq_1 Tryz.ntmps34)) ?_
 refine sw_call (ha) rfl (aAs_ok ?_) ?_ (sw_run 200 _ _ _ ?_)
 ·exact byP (fc sumC.eq_1 imsD.eq_1) True.intro
 ·simp only [okR]
 refine byQ ?_
 refine sw_call (hb) rfl (aAs_ok ?_) ?_ (sw_run 200 _ _ _ ?_)
 ·exact byP (fc sumC.eq_1 imsD.eq_1) True.intro
 ·simp only [okR]
 refine byQ ?_
 refine sw_drawnK ⟨53,[(6,.bx 5 0),(3,.bx 1 0),(4,.bx 2 0)],[(1,[.i b.const,.br (.rows 2 b.items.length (flC imC b.items))]),(2,[.i 0,.nl 2]),(5,[.i ((a.const+b.const) % 10007),.sl 4])],[(4,some ⟨.rows 2 a.items.length (flC imC a.items),some 149,true⟩)],6,[]⟩ (.cons 0 true (.cons 1 true (.cons 2 true (.cons 3 true (.cons 4 true (.cons 7 true (.cons 8 true (.fork (.alt 5 (.fork (.alt 6 (.fork (.alt 9 (.cons 10 true (.cons 11 false (.cons 12 false (.nil)))) (.alt 11 (.cons 9 false (.cons 10 true (.cons 12 false (.nil)))) (.last)))) (.alt 11 (.cons 6 false (.cons 9 false (.cons 10 true (.cons 12 false (.nil))))) (.last)))) (.alt 6 (.fork (.alt 5 (.fork (.alt 9 (.cons 10 true (.cons 11 false (.cons 12 false (.nil)))) (.alt 11 (.cons 9 false (.cons 10 true (.cons 12 false (.nil)))) (.last)))) (.alt 11 (.cons 5 false (.cons 9 false (.cons 10 true (.cons 12 false (.nil))))) (.last)))) (.alt 11 (.fork (.alt 5 (.cons 6 false (.cons 9 false (.cons 10 true (.cons 12 false (.nil))))) (.alt 6 (.cons 5 false (.cons 9 false (.cons 10 true (.cons 12 false (.nil))))) (.last)))) (.last)))))))))))) (by kernel_rfl) (by kernel_rfl) (sw_run 200 _ _ _ ?_) (sw_run 200 _ _ _ ?_)
 ·refine byP hcin ?_
  (try repeat' (with_reducible apply And.intro))
  all_goals (refine sw_callD (con_ReduceS (a.const+b.const)) rfl (aAs_ok (by simp only [push_cast,aAs,aA,aD,↓reduceIte,Nat.reduceEqDiff])) (by simp only [push_cast,okR]) (sw_run 200 _ _ _ ?_))
  all_goals simp only [push_cast,↓reduceIte,Nat.reduceLT,Nat.reduceAdd,Nat.reduceLeDiff,Nat.reduceEqDiff]
  (try repeat' (with_reducible apply And.intro))
  all_goals first
   | rfl
   | exact fun _=>prim_ims a.items
   | (intro o ho;trivial)
   | omega
   | (unfold maxLen;omega)
   | (refine ⟨rfl,id, ?_⟩;simp only [push_cast,Sub,subT,subB,subO,subP,inj,AV.ren,AV.rens,AV.lt,AV.lts,↓reduceIte,Nat.reduceLT,Nat.reduceEqDiff,reduceCtorEq];done)
   | (refine ⟨rfl,rnL [(4,5),(5,4)], ?_⟩;simp only [push_cast,Sub,subT,subB,subO,subP,inj,AV.ren,AV.rens,AV.lt,AV.lts,↓reduceIte,Nat.reduceLT,Nat.reduceEqDiff,reduceCtorEq,rnL];done)
   | (refine ⟨rfl,rnL [(4,5),(5,3)], ?_⟩;simp only [push_cast,Sub,subT,subB,subO,subP,inj,AV.ren,AV.rens,AV.lt,AV.lts,↓reduceIte,Nat.reduceLT,Nat.reduceEqDiff,rnL];done)
   | (refine ⟨rfl,rnL [(4,6),(5,3)], ?_⟩;simp only [push_cast,Sub,subT,subB,subO,subP,inj,AV.ren,AV.rens,AV.lt,AV.lts,↓reduceIte,Nat.reduceLT,Nat.reduceAdd,Nat.reduceMul,Nat.reduceLeDiff,Nat.reduceEqDiff,reduceCtorEq,Int.reduceLT,Int.reduceLE,Int.reduceEq,Int.reduceNe,Int.reduceAdd,Int.reduceSub,Int.reduceMul,Int.reduceNeg,Int.reduceToNat,Nat.reduceSub,rnL];done)
   | (refine ⟨rfl,rnL [(4,5),(5,6)], ?_⟩;simp only [push_cast,Sub,subT,subB,subO,subP,inj,AV.ren,AV.rens,AV.lt,AV.lts,↓reduceIte,Nat.reduceLT,Nat.reduceAdd,Nat.reduceMul,Nat.reduceLeDiff,Nat.reduceEqDiff,reduceCtorEq,Int.reduceLT,Int.reduceLE,Int.reduceEq,Int.reduceNe,Int.reduceAdd,Int.reduceSub,Int.reduceMul,Int.reduceNeg,Int.reduceToNat,Nat.reduceSub,rnL];done)
   | (refine ⟨rfl,rnL [(4,6),(5,5)], ?_⟩;simp only [push_cast,Sub,subT,subB,subO,subP,inj,AV.ren,AV.rens,AV.lt,AV.lts,↓reduceIte,Nat.reduceLT,Nat.reduceAdd,Nat.reduceMul,Nat.reduceLeDiff,Nat.reduceEqDiff,reduceCtorEq,Int.reduceLT,Int.reduceLE,Int.reduceEq,Int.reduceNe,Int.reduceAdd,Int.reduceSub,Int.reduceMul,Int.reduceNeg,Int.reduceToNat,Nat.reduceSub,rnL];done)
   | (refine ⟨rfl,rnL [(4,6),(5,4)], ?_⟩;simp only [push_cast,Sub,subT,subB,subO,subP,inj,AV.ren,AV.rens,AV.lt,AV.lts,↓reduceIte,Nat.reduceLT,Nat.reduceAdd,Nat.reduceMul,Nat.reduceLeDiff,Nat.reduceEqDiff,reduceCtorEq,Int.reduceLT,Int.reduceLE,Int.reduceEq,Int.reduceNe,Int.reduceAdd,Int.reduceSub,Int.reduceMul,Int.reduceNeg,Int.reduceToNat,Nat.reduceSub,rnL];done)
 refine byQ ?_
 refine sw_loop (fun k:Nat=>k≤b.items.length) (fun k=>⟨53,[(7,.i k),(6,.bx 5 0),(3,.bx 1 0),(4,.bx 2 0)],[(1,[.i b.const,.br (.rows 2 b.items.length (flC imC b.items))]),(2,[.i 0,.nl 2]),(5,[.i ((a.const+b.const) % 10007),.sl 4])],[(4,some ⟨.rows 2 (fdI a.items b.items k).length (flC imC (fdI a.items b.items k)),if k=0 then some 149 else none,true⟩)],6,[]⟩) (fun k=>b.items.length-k) 0 id (Nat.zero_le _) ?_ ?_
 ·simp only [push_cast,Sub,subT,subB,subO,subP,inj,AV.ren,AV.rens,AV.lt,AV.lts,↓reduceIte,Nat.reduceLT,Nat.reduceEqDiff,fdI,List.foldl_nil]
 rintro k hk
 obtain ⟨hf1,hf2⟩:=hfd k hk
 generalize hap:(if k=0 then some 149 else none)=ap
 refine sw_run 200 _ _ _ ?_
 by_cases hlt:k<b.items.length
 ·have hi:(k:Int)<(b.items.length:Int):=by omega
  have hR:=flC_row imC_len b.items k hlt
  have hst:=fd_step a.items b.items k hlt
  have hP:=con_Put (fdI a.items b.items k) b.items[k]! (by omega) hf1 (hsb _ (mem_bang hlt))
  rw [← hst] at hP
  simp only [imC,imsD] at hR hP
  have hk1:¬ (k+1=0):=by omega
  refine byP hi ?_
  refine sw_drawn (.cons 0 true (.cons 1 true (.cons 2 true (.cons 3 true (.cons 4 true (.cons 5 true (.cons 6 true (.cons 7 false (.cons 8 true (.cons 9 false (.nil))))))))))) (by kernel_rfl) qLp_panic (by kernel_rfl) (sw_run 200 _ _ _ ?_)
  refine byP (fc hi hR) ?_
  refine sw_callD hP rfl (aAs_ok ?_) ?_ (sw_run 200 _ _ _ ?_)
  ·exact byQ True.intro
  ·simp only [okR]
  refine byQ ?_
  refine ⟨by unfold inI;omega,k+1,rn1 4 6,by omega,by omega, ?_⟩
  exact byP (fc rn1.eq_1 hk1) True.intro
 ·have hi:¬ (k:Int)<(b.items.length:Int):=by omega
  obtain rfl:k=b.items.length:=by omega
  have hfd2:fdI a.items b.items b.items.length=mgI a.items b.items:=by rw [fdI,List.take_length,hfp]
  rw [hfd2]
  have hck:=con_l19Done (adS a b) (by have:=sz_adS hoa hob;omega)
  simp only [sumC,imsD,adS] at hck
  refine byP hi ?_
  refine sw_run 200 _ _ _ ?_
  refine byQ ?_
  refine sw_callM hck rfl ?_ ?_ ?_ (sw_run 200 _ _ _ ?_)
  ·simp only [push_cast,mAs,mA,↓reduceIte]
  ·exact byQ True.intro
  ·exact byQ True.intro
  exact byP (fc adS.eq_1 Tryz.results34) True.intro
end Go.Proofs.YtaidalilfmjfgaaGreat
