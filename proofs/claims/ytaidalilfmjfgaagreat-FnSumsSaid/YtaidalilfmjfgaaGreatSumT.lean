import Derived.Test.YtaidalilfmjfgaaGreatMk
import Derived.Test.YtaidalilfmjfgaaGreatLp
import Derived.Laws.Rows
import Derived.RangeFuncRecord
import Derived.Test.YtaidalilfmjfgaaGreatSumB
import Derived.Test.YtaidalilfmjfgaaGreatTake
import Derived.Test.YtaidalilfmjfgaaGreatPtr
import Derived.Test.YtaidalilfmjfgaaGreatBy
namespace Go.Proofs.YtaidalilfmjfgaaGreat
open Go.RowKit
set_option linter.unusedVariables false
set_option linter.unusedSimpArgs false
def ConMB (P:Program) (f:FuncId) (args:List MA) (rs:List PD):Prop :=
 (∃ fn, P.funcs[f]? = some fn ∧ fn.body.isNone = false ∧ (fn.name == "runtime.NumGoroutine") = false) ∧
 ∀ w us fp S,GI w→(∀ k ∈ GBl,S k)→(∀ k,S k→k<w.heap.size∧k ∉ fp)→RepMAs w S args us fp→fp.Nodup→Calls P f us.toArray w fun e w'=>Below w.heap.size w w'∧Bel (· ∈ fp) w w'∧∃ vs fp',e = .returned (retV (packV rs vs))∧OwnVs w' (flatD rs) vs fp'∧fp'.Nodup∧∀ k ∈ fp',k ∈ fp∨w.heap.size≤k
theorem callMB_ok {P:Program} {w0:World0} {G:Gh} {s:AS} {a:Act} {w:World} (h:Rel w0 G s a w) {F:FuncId} {cap:List AV} {args:Array Operand} {tys:Array TypeId} {f:Operand} {dst:Option Tmp} {ty:TypeId} {pos:String} {af:Array Edge} {gd:Option (Nat × Bool)} {ps:List MA} {rs:List PD}
  (hc:ConMB P F ps rs) (hf:s.ev f = .fn F cap) (ha:mAs (s.kl (eatM (args.toList.map s.ev++cap) ps)) s (args.toList.map s.ev++cap) ps) (hnd:(eatM (args.toList.map s.ev++cap) ps).Nodup) (ho:okR rs) {Q:Exit→Act→World→Prop} {K:Act→World→Prop}
  (hK:∀ a' w',(Below w.heap.size w w'∧∃ G',Rel w0 G' ((mkR (s.kl (eatM (args.toList.map s.ev++cap) ps)) (flatD rs)).2.pt dst (retA (packA rs (mkR (s.kl (eatM (args.toList.map s.ev++cap) ps)) (flatD rs)).1))) a' w')→K a' w') :
  (Oper.mk dst (.call ⟨.value f,args,tys⟩) ty pos af gd).wp P a w K Q:=by
 have hfv:=h.ev f
 rw [hf] at hfv
 unfold RV at hfv
 obtain ⟨us,hu,hr⟩:=hfv
 have hargs:RVs G w s.owf s.nx (args.toList.map s.ev++cap) (args.toList.map a.eval++us):=(h.evs args.toList).append _ _ _ _ hr
 obtain ⟨hrep,hlive⟩:=mAs_own h (h.kl _) rfl (fun o I ho=>(kl_owf ho).1) _ _ _ hargs ha
 obtain ⟨⟨fn,hfn,hbody,hname⟩,hcon⟩:=hc
 have hcall:=hcon w _ _ _ (w0.gi w h.bel.size h.bel.block) (fun k hk => .inl (h.zz.1 k (w0.gz k hk))) (reach_kl h hlive) hrep (flat_nodup h _ hnd hlive)
 unfold Oper.wp
 have hrun:(execOp a.eval ⟨dst,.call { callee:=.value f,args:=args,argTypes:=tys },ty,pos,af,gd⟩).run P w = .ok (.enter F (args.toList.map a.eval++us).toArray) w:=by
  have e1:((#[]:Array Value)++args.map a.eval)++us.toArray=(args.toList.map a.eval++us).toArray:=by
   apply Array.ext'; simp
  simp only [execOp,resolve,Deferred.ofValue,hu,pure_bind,invoke,e1,callFunc,Sem.run_bind,program,Sem.run,Result.andThen_ok,hfn,hname,hbody,Bool.false_eq_true,if_false,Sem.run_pure]
 rw [hrun]
 refine hcall.mono fun e w' ⟨hbl,hb,vs,fp',he,hown,hn',hsub⟩ => ?_
 subst he
 have hfrm:∀ k ∈ (eatM (args.toList.map s.ev++cap) ps).flatMap G.B,Fr G s (eatM (args.toList.map s.ev++cap) ps) [] k:=fun k hk=>by
  obtain ⟨o,ho,hko⟩:=List.mem_flatMap.1 hk
  obtain ⟨I,hI,_⟩:=hlive o ho
  exact .inl ⟨o,ho,I,hI,hko⟩
 have h':Rel w0 G (s.kl (eatM (args.toList.map s.ev++cap) ps)) a w' :=
  h.aft (b:=[]) hb hfrm (fun k hk=>⟨hk,(Fr.lt h (hfrm k hk)).1.2.imp id (w0.mw k)⟩) (fun _ h=>h) (fun _ h => .inl h) (fun k hk=>Nat.lt_of_lt_of_le (h.zl k hk) hb.size)
 have hbs:=h.bel.size
 have hbsz:=hb.size
 obtain ⟨G',h5,h6,_⟩:=mkR_ok (flatD rs) vs fp' G _ h' hown hn' (fun k hk=>by
  rcases hsub k hk with h1 | h1
  ·obtain ⟨o,ho,hko⟩:=List.mem_flatMap.1 h1
   obtain ⟨I,hI,_⟩:=hlive o ho
   exact ((h.own o I hI).2.1.1 k hko).1
  ·exact ⟨fun hz=>absurd (h.zl _ hz) (Nat.not_lt.2 h1),.inl (Nat.le_trans hbs h1)⟩) (fun k hk=>⟨fun b cs hl e=>by
   rcases hsub k hk with h1 | h1
   ·obtain ⟨o,ho,hko⟩:=List.mem_flatMap.1 h1
    obtain ⟨I,hI,_⟩:=hlive o ho
    exact (h.own o I hI).2.2 b cs hl (e ▸ hko)
   ·obtain ⟨_,_,_,_,h7,_⟩:=h.bx b cs hl
    have:=h7.lt
    omega,fun o I hI hk'=>by
   obtain ⟨hI,hno⟩:=kl_owf hI
   rcases hsub k hk with h1 | h1
   ·obtain ⟨o',ho',hko⟩:=List.mem_flatMap.1 h1
    obtain ⟨I',hI',_⟩:=hlive o' ho'
    exact h.dis o o' I I' hI hI' (fun e=>hno (e ▸ ho')) k hk' hko
   ·have:=((h.own o I hI).2.1.1 k hk').2
    omega⟩)
 exact hK _ w' ⟨hbl,G',h5.pt dst (ret_ok (pack_ok rs _ _ h6 (mkR_len _ _) (okR_ok ho)))⟩
theorem sw_callDMB {P:Program} {all:List Oper} {r:OrdT} {st:List It} {dst:Option Tmp} {f:Operand} {args:Array Operand} {tys:Array TypeId} {ty:TypeId} {pos:String} {af:Array Edge} {gd:Option (Nat × Bool)} {s:AS} {Q:QE} {F:FuncId} {cap:List AV} {ps:List MA} {rs:List PD}
  (hc:ConMB P F ps rs) (hf:s.ev f = .fn F cap) (ha:mAs (s.kl (eatM (args.toList.map s.ev++cap) ps)) s (args.toList.map s.ev++cap) ps) (hnd:(eatM (args.toList.map s.ev++cap) ps).Nodup) (ho:okR rs)
  (h:SW P (.dr all r :: st) ((mkR (s.kl (eatM (args.toList.map s.ev++cap) ps)) (flatD rs)).2.pt dst (retA (packA rs (mkR (s.kl (eatM (args.toList.map s.ev++cap) ps)) (flatD rs)).1))) Q) :
  SW P (.dg all ⟨dst,.call ⟨.value f,args,tys⟩,ty,pos,af,gd⟩ false r :: st) s Q:=fun w0 G a w hr =>
 callMB_ok hr hc hf ha hnd ho fun a' w' ⟨hb,G',hr'⟩=>⟨⟨fun _=>hb,hr'.bel⟩,h w0 G' a' w' hr'⟩
theorem own_maker {w:World} {d:D} {v:Value} {f:List Nat} (h:OwnV w d v f) (k n:Int) (s:ByteArray):OwnVs w [.int k,.str s,.str e0,.int n,.int 0,.rows 2 0 [],.int 0,.rows 2 0 [],d] [.int .i64 k,.string s,.string e0,.int .i64 n,.int .i64 0,.slice none 0 0,.int .i64 0,.slice none 0 0,v] f:=by
 have hn:∀ sz,OwnV w (.rows sz 0 []) (.slice none 0 0) []:=fun sz=>by unfold OwnV;exact ⟨none,0,rfl,Nat.le_refl _,Nat.zero_le _,by simp,.inl ⟨rfl,rfl⟩⟩
 unfold OwnVs OwnVs OwnVs OwnVs OwnVs OwnVs OwnVs OwnVs OwnVs OwnVs
 exact ⟨_,_,[],f,rfl,rfl,by unfold OwnV;exact ⟨rfl,rfl⟩,_,_,[],f,rfl,rfl,by unfold OwnV;exact ⟨rfl,rfl⟩,_,_,[],f,rfl,rfl,by unfold OwnV;exact ⟨rfl,rfl⟩,_,_,[],f,rfl,rfl,by unfold OwnV;exact ⟨rfl,rfl⟩,_,_,[],f,rfl,rfl,by unfold OwnV;exact ⟨rfl,rfl⟩,
  _,_,[],f,rfl,rfl,hn 2,_,_,[],f,rfl,rfl,by unfold OwnV;exact ⟨rfl,rfl⟩,_,_,[],f,rfl,rfl,hn 2,_,_,f,[],rfl,by simp,h,rfl,rfl⟩
set_option maxRecDepth 100000 in
theorem conB_tmOp (s:ByteArray) (n:Nat) (cs:List D):ConMB Tryz.prog 111 [.b (.one (.str s)),.m (.rows 9 n cs)] [.ag [.int 4,.str s,.str e0,.int 0,.int 0,.rows 2 0 [],.int 0,.rows 2 0 [],.rows 9 n cs]]:=by
 refine ⟨⟨_,rfl,by kernel_rfl,by kernel_rfl⟩,fun w us fp S hg hgs hS hu hn => ?_⟩
 unfold RepMAs RepMAs RepMAs at hu
 obtain ⟨v,r,f,g,rfl,rfl,h1,v2,r2,f2,g2,rfl,rfl,h2,rfl,rfl⟩:=hu
 unfold RepMA RepX RepP at h1
 obtain ⟨rfl,rfl⟩:=h1
 unfold RepMA at h2
 have h2':=h2
 unfold OwnV at h2'
 obtain ⟨a,cap,rfl,_⟩:=h2'
 have H2:=Lib.hid h2
 clear h2
 go_enter Tryz.func111,Tryz.ntmps111
 go_wp2
 refine bodyPost_ret (results_cell_row (p:=4) (ty:=29) rfl _ _ w.heap.size 29 _ (0,0) _ rfl (World.alloc_heap_new w _) Tryz.underlying29 rfl (by kernel_rfl)) rfl ?_
 have hb:∀ o,Below w.heap.size w (w.alloc o):=fun o=>(Below.refl _ w).alloc (Nat.le_refl _) _
 refine ⟨hb _,belB (hb _),[.int .i64 4,.string s,.string e0,.int .i64 0,.int .i64 0,.slice none 0 0,.int .i64 0,.slice none 0 0,.slice a n cap],rfl,f2,own_maker (H2.out.keep (hb _).size _ _ _ fun j hj=>(hb _).block j (OwnV.lt _ _ _ H2.out j hj)) 4 0 s,by simpa using hn,fun j hj => .inl (by simpa using hj)⟩
set_option maxRecDepth 20000
def sPlus:ByteArray:=⟨#[43]⟩
def sStar:ByteArray:=⟨#[42]⟩
def itT (x:Im):Tm:=if x.coef=1 then tVar x.name else tOp sStar [tInt x.coef,tVar x.name]
def preT (s:Sm):List Tm:=if s.const≠0∨s.items=[] then [tInt s.const] else []
def parL (s:Sm):List Tm:=preT s++s.items.map itT
def foT (ps:List Tm):Nat→Tm
 | 0=>ps[0]!
 | k+1=>tOp sPlus [foT ps k,ps[k+1]!]
def sumT (s:Sm):Tm:=if sumOk s=true then foT (parL s) ((parL s).length-1) else t0
def dC (e:Tm):List D:=(tmC e).map dead
def flD (xs:List Tm) (j:Nat):List D:=flC dC (xs.take j)++tmsC (xs.drop j)
theorem dC_len (e:Tm):(dC e).length=9:=by unfold dC;rw [List.length_map,tmC_len]
theorem flD_zero (xs:List Tm):flD xs 0=tmsC xs:=by unfold flD;simp [flC]
theorem flD_row (xs:List Tm) (j:Nat) (h:j<xs.length):rowAt 9 (flD xs j) j=tmC xs[j]! := by
 unfold flD rowAt
 have hl:(flC dC (xs.take j)).length=j * 9:=by rw [flC_len dC_len,List.length_take];congr 1;omega
 rw [List.drop_append,hl,Nat.sub_self,List.drop_zero,List.drop_of_length_le (by omega),List.nil_append,List.drop_eq_getElem_cons h,tmsC,List.take_append_of_le_length (by rw [tmC_len];exact Nat.le_refl _),List.take_of_length_le (by rw [tmC_len];exact Nat.le_refl _),getElem!_pos xs j h]
theorem flD_take (xs:List Tm) (j:Nat) (h:j<xs.length):takeC 9 j (flD xs j)=flD xs (j+1):=by
 unfold takeC
 rw [flD_row xs j h]
 have hl:(flC dC (xs.take j)).length=j * 9:=by rw [flC_len dC_len,List.length_take];congr 1;omega
 have e:flD xs j=flC dC (xs.take j)++(tmC xs[j]! ++ tmsC (xs.drop (j+1))):=by
  unfold flD
  rw [List.drop_eq_getElem_cons h,tmsC,getElem!_pos xs j h]
 rw [e,← hl,setRowG_mid _ (tmC xs[j]!) _ _ (by rw [List.length_map])]
 unfold flD
 rw [flC_snoc dC xs j h,List.append_assoc]
 rfl
theorem flD_cut (ps:List Tm) (h:1≤ps.length):cutD (.rows 9 ps.length (flD ps 1)) 1 ps.length = .rows 9 (ps.drop 1).length (flD (ps.drop 1) 0):=by
 obtain ⟨p,r,rfl⟩:∃ p r,ps=p :: r:=by cases ps with | nil=>simp at h | cons p r=>exact ⟨p,r,rfl⟩
 rw [flD_zero]
 unfold cutD flD
 simp only [List.length_cons,Nat.add_sub_cancel,List.drop_one,List.tail_cons,List.take_succ_cons,List.take_zero,flC,List.append_nil,Nat.one_mul]
 rw [List.drop_append,dC_len,Nat.sub_self,List.drop_zero,List.drop_of_length_le (by rw [dC_len];exact Nat.le_refl _),List.nil_append,List.take_of_length_le (by rw [tmsC_len];exact Nat.le_refl _)]
theorem itT_sz (x:Im):szL (tmC (itT x))≤x.name.size+3:=by
 unfold itT
 split
 ·rw [sz_tVar];omega
 ·rw [sz_tOp,sz_ms2,sz_tInt,sz_tVar]
  have:sStar.size=1:=rfl
  simp only [List.length_cons,List.length_nil];omega
theorem flD_row2 (xs:List Tm) (j i:Nat) (h:i<xs.length) (hj:j≤i):rowAt 9 (flD xs j) i=tmC xs[i]! := by
 have hl:(flC dC (xs.take j)).length=j * 9:=by rw [flC_len dC_len,List.length_take];congr 1;omega
 unfold flD rowAt
 rw [List.drop_append,hl,List.drop_of_length_le (by omega),List.nil_append]
 have e:i * 9-j * 9=(i-j) * 9:=by omega
 have hl2:i-j<(xs.drop j).length:=by rw [List.length_drop];omega
 have:=tmsC_row' (xs.drop j) (i-j) hl2
 unfold rowAt at this
 rw [e,this]
 rw [getElem!_pos (xs.drop j) (i-j) hl2,getElem!_pos xs i h,List.getElem_drop]
 congr 2;omega
theorem szL_tms_take (xs:List Tm):∀ k,szL (tmsC (xs.take k))≤szL (tmsC xs):=fun k=>by
 conv=>rhs;rw [← List.take_append_drop k xs,tmsC_append,szL_append]
 omega
theorem foT_sz (ps : List Tm) : ∀ k, k < ps.length → szL (tmC (foT ps k)) ≤ 3 * k + szL (tmsC (ps.take (k + 1)))
  | 0, h => by
    rw [tmsC_snoc' ps 0 h, szL_append]
    unfold foT; omega
  | k + 1, h => by
    have ih := foT_sz ps k (by omega)
    rw [tmsC_snoc' ps (k + 1) h, szL_append]
    have h1 : sPlus.size = 1 := rfl
    unfold foT
    rw [sz_tOp, sz_ms2, h1]
    simp only [List.length_cons, List.length_nil]
    omega
theorem items_sz : ∀ xs : List Im, szL (tmsC (xs.map itT)) ≤ szL (flC imC xs) + 3 * xs.length
  | [] => by simp [tmsC, flC, szL]
  | x :: xs => by
    have h1 := items_sz xs
    have h2 := itT_sz x
    rw [List.map_cons, tmsC, szL_append, flC, szL_append]
    have h3 : szL (imC x) = x.name.size := by simp [imC, szL, szD]
    simp only [List.length_cons]; omega
theorem parL_sz (s:Sm):szL (tmsC (parL s))≤szL (sumC s)+3 * s.items.length:=by
 have h:=items_sz s.items
 have h2:szL (sumC s)=s.items.length+szL (flC imC s.items):=by simp [sumC,imsD,szL,szD]
 unfold parL
 rw [tmsC_append,szL_append]
 have h3:szL (tmsC (preT s))=0:=by
  unfold preT
  split
  ·rw [sz_ms1,sz_tInt]
  ·rfl
 omega
theorem parL_len (s:Sm) (h:s.items.length≤8):1≤(parL s).length∧(parL s).length≤10:=by
 unfold parL
 rw [List.length_append,List.length_map]
 unfold preT
 split
 ·simp;omega
 ·rename_i hn
  have:s.items≠[]:=fun e=>hn (.inr e)
  have:=List.length_pos_iff.2 this
  simp;omega
def zTm:List AV:=[.i 0,.s ⟨#[]⟩,.s ⟨#[]⟩,.i 0,.i 0,.nl 2,.i 0,.nl 2,.nl 9]
def stI (c:Int) (xs:List Im) (L:List Tm) (k:Nat):AS:=⟨70,[(33,.i k),(32,.i xs.length),(31,.br (.rows 2 xs.length (flC imC xs))),(3,.sl 2),(2,.bx 1 0),(1,.bx 0 0)],[(0,[.i c,.br (.rows 2 xs.length (flC imC xs))]),(1,zTm)],[(2,some ⟨.rows 9 L.length (tmsC L),some 29,true⟩)],3,[]⟩
def stJ (ps rs:List Tm) (k:Nat):AS:=⟨70,[(60,.i k),(59,.i rs.length),(58,.sl 3),(7,.bx 2 0),(2,.bx 1 0)],[(1,zTm),(2,[.i (foT ps k).kind,.s (foT ps k).name,.s (foT ps k).other,.i (foT ps k).n,.i (foT ps k).ty.kind,.sl 4,.i (foT ps k).res.kind,.sl 5,.sl 6])],
 [(3,some ⟨.rows 9 rs.length (flD rs k),some 29,true⟩),(4,some ⟨.rows 2 (foT ps k).ty.args.length (tysC (foT ps k).ty.args),none,true⟩),(5,some ⟨.rows 2 (foT ps k).res.args.length (tysC (foT ps k).res.args),none,true⟩),(6,some ⟨.rows 9 (foT ps k).args.length (tmsC (foT ps k).args),none,true⟩)],7,[]⟩
theorem con_SumTermI (s:Sm) (hz:szL (sumC s)≤1000000000):Con Tryz.prog 42 [.ag (sumC s)] [.ag (tmC (sumT s))]:=by
 have hI:=con_IsSumI s hz
 by_cases hok:sumOk s=true
 case neg =>
  have hok:sumOk s=false:=by simpa using hok
  have hT:sumT s=t0:=by rw [sumT,hok];rfl
  rw [hok] at hI
  rw [hT]
  refine con_run Tryz.func42 rfl rfl (by simp [Tryz.ntmps42]) ?_
  refine byP (fc sumC.eq_1 (fc imsD.eq_1 (fc t0.eq_1 (fc ty0.eq_1 (fc e0.eq_1 (fc mk_kind (fc mk_name (fc mk_other (fc mk_n (fc mk_ty (fc mk_res (fc mk_args (fc tyk (fc tya (fc tysC.eq_1 (fc tmsC.eq_1 Tryz.ntmps42)))))))))))))))) ?_
  refine sw_call (hI) rfl (aAs_ok ?_) ?_ (sw_run 200 _ _ _ ?_)
  ·exact byP (fc sumC.eq_1 imsD.eq_1) True.intro
  ·simp only [okR]
  exact byP Tryz.results42 True.intro
 rw [hok] at hI
 have hT:sumT s=foT (parL s) ((parL s).length-1):=by rw [sumT,if_pos hok]
 rw [hT]
 have hn8:s.items.length≤8:=by
  unfold sumOk at hok
  simp only [Bool.and_eq_true,decide_eq_true_eq] at hok
  omega
 obtain ⟨c,xs⟩:=s
 simp only at hn8
 refine con_run Tryz.func42 rfl rfl (by simp [Tryz.ntmps42]) ?_
 refine byP (fc sumC.eq_1 (fc imsD.eq_1 Tryz.ntmps42)) ?_
 refine sw_call (hI) rfl (aAs_ok ?_) ?_ (sw_run 200 _ _ _ ?_)
 ·exact byP (fc sumC.eq_1 imsD.eq_1) True.intro
 ·simp only [okR]
 refine byQ ?_
 rcases (show ¬ c=0∨(c=0∧(xs.length:Int)=0)∨(c=0∧¬ (xs.length:Int)=0) by omega) with hc | ⟨hc,hx⟩ | ⟨hc,hx⟩
 case' inl =>
  have hp:preT ⟨c,xs⟩=[tInt c]:=by unfold preT;rw [if_pos (.inl hc)]
  refine byP hc ?_
  refine sw_call (con_tmInt c) rfl (aAs_ok ?_) ?_ (sw_run 200 _ _ _ ?_)
  ·exact byQ True.intro
  ·simp only [okR]
  refine byP (fc tInt.eq_1 (fc ty0.eq_1 (fc e0.eq_1 (fc mk_kind (fc mk_name (fc mk_other (fc mk_n (fc mk_ty (fc mk_res (fc mk_args (fc tyk (fc tya (fc tysC.eq_1 tmsC.eq_1))))))))))))) ?_
  refine ⟨⟨fun o e1 e2=>by omega,by unfold maxLen;omega⟩, ?_⟩
  refine sw_cut (stI c xs [tInt c] 0) (rn1 2 7) ?_ ?_
  ·simp only [push_cast,Sub,subT,subB,subO,subP,inj,AV.ren,AV.rens,AV.lt,AV.lts,↓reduceIte,Nat.reduceLT,Nat.reduceEqDiff,reduceCtorEq,stI,rn1,zTm,tInt,ty0,e0,tmC_eq,mk_kind,mk_name,mk_other,mk_n,mk_ty,mk_res,mk_args,tyk,tya,tysC,List.length_nil,tmsC]
  rw [← hp]
 case' inr.inl =>
  have hp:preT ⟨c,xs⟩=[tInt c]:=by unfold preT;rw [if_pos (.inr (show xs=[] from List.eq_nil_of_length_eq_zero (by omega)))]
  refine byP (fc (eq_true hc) (eq_true hx)) ?_
  refine sw_call (con_tmInt c) rfl (aAs_ok ?_) ?_ (sw_run 200 _ _ _ ?_)
  ·exact byQ True.intro
  ·simp only [okR]
  refine byP (fc tInt.eq_1 (fc ty0.eq_1 (fc e0.eq_1 (fc mk_kind (fc mk_name (fc mk_other (fc mk_n (fc mk_ty (fc mk_res (fc mk_args (fc tyk (fc tya (fc tysC.eq_1 tmsC.eq_1))))))))))))) ?_
  refine ⟨⟨fun o e1 e2=>by omega,by unfold maxLen;omega⟩, ?_⟩
  refine sw_cut (stI c xs [tInt c] 0) (rn1 2 7) ?_ ?_
  ·simp only [push_cast,Sub,subT,subB,subO,subP,inj,AV.ren,AV.rens,AV.lt,AV.lts,↓reduceIte,Nat.reduceLT,Nat.reduceEqDiff,reduceCtorEq,stI,rn1,zTm,tInt,ty0,e0,tmC_eq,mk_kind,mk_name,mk_other,mk_n,mk_ty,mk_res,mk_args,tyk,tya,tysC,List.length_nil,tmsC]
  rw [← hp]
 case' inr.inr =>
  have hp:preT ⟨c,xs⟩=[]:=by unfold preT;rw [if_neg (by intro h;rcases h with h | h;exact h hc;exact hx (by simp only at h;rw [h];rfl))]
  refine byP (fc (eq_true hc) hx) ?_
  refine sw_cut (stI c xs [] 0) id ?_ ?_
  ·exact byP (fc stI.eq_1 (fc zTm.eq_1 tmsC.eq_1)) True.intro
  rw [← hp]
 all_goals
  clear hp hc hI hT
  refine sw_loop (fun k:Nat=>k≤xs.length) (fun k=>stI c xs (preT ⟨c,xs⟩++(xs.take k).map itT) k) (fun k=>xs.length-k) 0 id (Nat.zero_le _) ?_ ?_
  ·exact byP (fc stI.eq_1 zTm.eq_1) True.intro
  rintro k hk
  refine sw_run 200 _ _ _ ?_
  by_cases hlt:k<xs.length
  case pos =>
   have hi:(k:Int)<(xs.length:Int):=by omega
   have hR:=flC_row imC_len xs k hlt
   have hne:preT ⟨c,xs⟩++(xs.take (k+1)).map itT=preT ⟨c,xs⟩++(xs.take k).map itT++[itT xs[k]!]:=by rw [take_snoc xs k hlt,List.map_append,List.map_singleton,List.append_assoc]
   have hln:(preT ⟨c,xs⟩++(xs.take k).map itT).length≤10:=by
    rw [List.length_append,List.length_map,List.length_take]
    unfold preT
    split <;> simp <;> omega
   generalize preT ⟨c,xs⟩++(xs.take k).map itT=L at *
   generalize hxk:xs[k]! = x at *
   obtain ⟨nm,cf⟩:=x
   simp only [imC] at hR
   refine byP (fc stI.eq_1 (fc zTm.eq_1 (fc hi hR))) ?_
   refine sw_call (con_tmVar nm) rfl (aAs_ok ?_) ?_ (sw_run 200 _ _ _ ?_)
   ·exact byQ True.intro
   ·simp only [okR]
   refine byP (fc tVar.eq_1 (fc ty0.eq_1 (fc e0.eq_1 (fc mk_kind (fc mk_name (fc mk_other (fc mk_n (fc mk_ty (fc mk_res (fc mk_args (fc tyk (fc tya (fc tysC.eq_1 tmsC.eq_1))))))))))))) ?_
   by_cases hcf:cf=1
   ·have hit:itT ⟨nm,cf⟩=tVar nm:=by unfold itT;rw [if_pos hcf]
    refine byP (eq_true hcf) ?_
    refine ⟨⟨fun o e1 e2=>by omega,by unfold maxLen;omega,by omega⟩,by unfold inI;omega,k+1,rn1 2 9,by omega,by omega, ?_⟩
    rw [hne,hit]
    simp only [push_cast,Sub,subT,subB,subO,subP,inj,AV.ren,AV.rens,AV.lt,AV.lts,↓reduceIte,Nat.reduceLT,Nat.reduceEqDiff,reduceCtorEq,rn1,cast1,tmsC_append,List.length_append,tVar,ty0,e0,tmC_eq,mk_kind,mk_name,mk_other,mk_n,mk_ty,mk_res,mk_args,tyk,tya,tysC,List.length_nil,tmsC]
   ·have hit:itT ⟨nm,cf⟩=tOp sStar [tInt cf,tVar nm]:=by unfold itT;rw [if_neg hcf]
    refine byP hcf ?_
    refine sw_drawn (.cons 0 true (.cons 1 true (.cons 3 true (.cons 2 false (.cons 4 false (.cons 5 false (.cons 6 false (.nil)))))))) (by kernel_rfl) qLp_panic (by kernel_rfl) (sw_run 200 _ _ _ ?_)
    refine byQ ?_
    refine sw_callD (con_tmInt cf) rfl (aAs_ok ?_) ?_ (sw_run 200 _ _ _ ?_)
    ·exact byQ True.intro
    ·simp only [okR]
    refine byP (fc tInt.eq_1 (fc ty0.eq_1 (fc e0.eq_1 (fc mk_kind (fc mk_name (fc mk_other (fc mk_n (fc mk_ty (fc mk_res (fc mk_args (fc tyk (fc tya (fc tysC.eq_1 tmsC.eq_1))))))))))))) ?_
    refine sw_callDMB (conB_tmOp sStar 2 (tmC (tInt cf)++tmC (tVar nm))) rfl ?_ ?_ ?_ (sw_run 200 _ _ _ ?_)
    ·simp only [push_cast,aA,aD,mAs,mA,↓reduceIte,tInt,tVar,ty0,e0,tmC_eq,mk_kind,mk_name,mk_other,mk_n,mk_ty,mk_res,mk_args,tyk,tya,tysC,List.length_nil,tmsC,sStar]
    ·simp only [push_cast,↓reduceIte,tInt,tVar,ty0,e0,tmC_eq,mk_kind,mk_name,mk_other,mk_n,mk_ty,mk_res,mk_args,tyk,tya,tysC,List.length_nil,tmsC,sStar]
    ·simp only [okR]
    refine byP (fc tInt.eq_1 (fc tVar.eq_1 (fc ty0.eq_1 (fc e0.eq_1 (fc mk_kind (fc mk_name (fc mk_other (fc mk_n (fc mk_ty (fc mk_res (fc mk_args (fc tyk (fc tya (fc tysC.eq_1 tmsC.eq_1)))))))))))))) ?_
    refine ⟨⟨fun o e1 e2=>by omega,by unfold maxLen;omega,by omega⟩,by unfold inI;omega,k+1,rn1 2 16,by omega,by omega, ?_⟩
    rw [hne,hit]
    simp only [push_cast,Sub,subT,subB,subO,subP,inj,AV.ren,AV.rens,AV.lt,AV.lts,↓reduceIte,Nat.reduceLT,Nat.reduceAdd,Nat.reduceEqDiff,reduceCtorEq,rn1,cast1,tmsC_append,List.length_append,sStar,tInt,tVar,tOp,ty0,e0,tmC_eq,mk_kind,mk_name,mk_other,mk_n,mk_ty,mk_res,mk_args,tyk,tya,tysC,List.length_cons,List.length_nil,tmsC]
  case neg =>
   have hi:¬ (k:Int)<(xs.length:Int):=by omega
   obtain rfl:k=xs.length:=by omega
   simp only [push_cast,↓reduceIte,Nat.reduceLT,Nat.reduceEqDiff,stI,zTm,hi,List.take_length]
   have hP:parL ⟨c,xs⟩=preT ⟨c,xs⟩++xs.map itT:=rfl
   rw [← hP]
   have hl1:1≤(parL ⟨c,xs⟩).length:=by
    rw [hP,List.length_append,List.length_map]
    unfold preT
    split
    ·simp
    ·rename_i h
     have:xs≠[]:=fun e=>h (.inr e)
     have:=List.length_pos_iff.2 this
     omega
   have hl2:(parL ⟨c,xs⟩).length≤10:=by
    rw [hP,List.length_append,List.length_map]
    unfold preT
    split <;> simp <;> omega
   clear hP
   generalize parL ⟨c,xs⟩=ps at *
   have h0:(0:Int)<(ps.length:Int):=by omega
   have hr0:=flD_row ps 0 (by omega)
   have ht0:=flD_take ps 0 (by omega)
   rw [flD_zero] at hr0 ht0
   refine sw_head 20 _ _ _ ?_
   simp only [xHead,true_and]
   refine sw_step 2 _ _ _ _ _ ?_
   simp only [push_cast,↓reduceIte,Nat.reduceLT,Nat.reduceEqDiff,xStep,h0]
   refine sw_ex rfl ?_
   refine sw_take 2 0 rfl rfl (by kernel_rfl) (by omega) (sw_run 200 _ _ _ ?_)
   refine byP (fc takeP.eq_1 (fc hr0 ht0)) ?_
   have hct:=flD_cut ps hl1
   have h1i:(1:Int)≤(ps.length:Int):=by omega
   refine sw_cutR 2 rfl rfl (by kernel_rfl) ?_ (sw_run 200 _ _ _ ?_)
   ·exact byP h1i True.intro
   refine byP hct ?_
   have hdr:∀ j,j<(ps.drop 1).length→(ps.drop 1)[j]! = ps[j+1]! := fun j hj=>by
    rw [List.length_drop] at hj
    rw [getElem!_pos (ps.drop 1) j (by rw [List.length_drop];exact hj),getElem!_pos ps (j+1) (by omega),List.getElem_drop];congr 1;omega
   have hfin:foT ps (ps.length-1)=foT ps (ps.drop 1).length:=by rw [List.length_drop]
   rw [hfin]
   generalize hrs:ps.drop 1=rs at *
   have hrl:rs.length≤10:=by rw [← hrs,List.length_drop];omega
   refine sw_loop (fun k:Nat=>k≤rs.length) (fun k=>stJ ps rs k) (fun k=>rs.length-k) 0 (rnL [(1,1),(2,6),(3,7),(4,3),(5,4),(6,5)]) (Nat.zero_le _) ?_ ?_
   ·exact byP (fc stJ.eq_1 (fc zTm.eq_1 foT.eq_1)) True.intro
   rintro k hk
   refine sw_stop (sw_run 200 _ _ _ ?_)
   by_cases hlt2:k<rs.length
   case pos =>
    have hi2:(k:Int)<(rs.length:Int):=by omega
    refine byP (fc stJ.eq_1 (fc zTm.eq_1 hi2)) ?_
    refine sw_uncut (sw_head 20 _ _ _ ?_)
    simp only [xHead,true_and]
    refine sw_step 1 _ _ _ _ _ ?_
    simp only [push_cast,↓reduceIte,Nat.reduceLT,Nat.reduceEqDiff,xStep,hi2]
    refine sw_ex rfl ?_
    have hr2:=flD_row rs k hlt2
    have ht2:=flD_take rs k hlt2
    rw [hdr k hlt2] at hr2
    have hst:foT ps (k+1)=tOp sPlus [foT ps k,ps[k+1]!]:=rfl
    refine sw_take 3 k rfl rfl (by kernel_rfl) hlt2 (sw_run 200 _ _ _ ?_)
    refine byP (fc takeP.eq_1 (fc hr2 ht2)) ?_
    refine sw_callM (con_tmOp sPlus 2 (tmC (foT ps k)++tmC ps[k+1]!)) rfl ?_ ?_ ?_ (sw_run 200 _ _ _ ?_)
    ·simp only [push_cast,aA,aD,mAs,mA,↓reduceIte,tmC_eq,sPlus]
    ·exact byP sPlus.eq_1 True.intro
    ·simp only [okR]
    refine byP e0.eq_1 ?_
    refine ⟨by unfold inI;omega,k+1,rnL [(1,1),(2,2),(3,3),(4,12),(5,13),(6,14)],by omega,by omega, ?_⟩
    rw [hst]
    simp only [push_cast,Sub,subT,subB,subO,subP,inj,AV.ren,AV.rens,AV.lt,AV.lts,↓reduceIte,Nat.reduceLT,Nat.reduceAdd,Nat.reduceEqDiff,rnL,cast1,sPlus,tOp,ty0,e0,tmC_eq,mk_kind,mk_name,mk_other,mk_n,mk_ty,mk_res,mk_args,tyk,tya,tysC,List.length_cons,List.length_nil,tmsC]
   case neg =>
    have hi2:¬ (k:Int)<(rs.length:Int):=by omega
    obtain rfl:k=rs.length:=by omega
    refine byP (fc stJ.eq_1 (fc zTm.eq_1 hi2)) ?_
    refine sw_run 200 _ _ _ ?_
    exact byP Tryz.results42 True.intro
def stIs (c:Int) (xs:List Im) (L:List Tm) (k:Nat):AS:=⟨80,[(4,.i k),(3,.sl 2),(2,.bx 1 0),(1,.bx 0 0)],[(0,[.i c,.br (.rows 2 xs.length (flC imC xs))]),(1,zTm)],[(2,some ⟨.rows 9 L.length (tmsC L),some 29,true⟩)],3,[]⟩
def stJs (ps:List Tm) (k:Nat):AS:=⟨80,[(7,.i (k+1)),(3,.br (.rows 9 ps.length (flD ps 1))),(6,.bx 2 0),(2,.bx 1 0)],[(1,zTm),(2,[.i (foT ps k).kind,.s (foT ps k).name,.s (foT ps k).other,.i (foT ps k).n,.i (foT ps k).ty.kind,.sl 4,.i (foT ps k).res.kind,.sl 5,.sl 6])],
 [(4,some ⟨.rows 2 (foT ps k).ty.args.length (tysC (foT ps k).ty.args),none,true⟩),(5,some ⟨.rows 2 (foT ps k).res.args.length (tysC (foT ps k).res.args),none,true⟩),(6,some ⟨.rows 9 (foT ps k).args.length (tmsC (foT ps k).args),none,true⟩)],7,[]⟩
theorem con_SumTermS (s:Sm) (hz:szL (sumC s)≤400000000):Con Tryz.prog 45 [.ag (sumC s)] [.ag (tmC (sumT s))]:=by
 have hI:=con_IsSumS s (by omega)
 by_cases hok:sumOk s=true
 case neg =>
  have hok:sumOk s=false:=by simpa using hok
  have hT:sumT s=t0:=by rw [sumT,hok];rfl
  rw [hok] at hI
  rw [hT]
  refine con_run Tryz.func45 rfl rfl (by simp [Tryz.ntmps45]) ?_
  refine byP (fc sumC.eq_1 (fc imsD.eq_1 (fc t0.eq_1 (fc ty0.eq_1 (fc e0.eq_1 (fc mk_kind (fc mk_name (fc mk_other (fc mk_n (fc mk_ty (fc mk_res (fc mk_args (fc tyk (fc tya (fc tysC.eq_1 (fc tmsC.eq_1 Tryz.ntmps45)))))))))))))))) ?_
  refine sw_call (hI) rfl (aAs_ok ?_) ?_ (sw_run 200 _ _ _ ?_)
  ·exact byP (fc sumC.eq_1 imsD.eq_1) True.intro
  ·simp only [okR]
  exact byP Tryz.results45 True.intro
 rw [hok] at hI
 have hT:sumT s=foT (parL s) ((parL s).length-1):=by rw [sumT,if_pos hok]
 rw [hT]
 have hn8:s.items.length≤8:=by
  unfold sumOk at hok
  simp only [Bool.and_eq_true,decide_eq_true_eq] at hok
  omega
 have hps:=parL_sz s
 obtain ⟨hl1,hl2⟩:=parL_len s hn8
 obtain ⟨c,xs⟩:=s
 simp only at hn8 hps
 have hP:parL ⟨c,xs⟩=preT ⟨c,xs⟩++xs.map itT:=rfl
 refine con_run Tryz.func45 rfl rfl (by simp [Tryz.ntmps45]) ?_
 refine byP (fc sumC.eq_1 (fc imsD.eq_1 Tryz.ntmps45)) ?_
 refine sw_call (hI) rfl (aAs_ok ?_) ?_ (sw_run 200 _ _ _ ?_)
 ·exact byP (fc sumC.eq_1 imsD.eq_1) True.intro
 ·simp only [okR]
 refine byQ ?_
 rcases (show ¬ c=0∨(c=0∧(xs.length:Int)=0)∨(c=0∧¬ (xs.length:Int)=0) by omega) with hc | ⟨hc,hx⟩ | ⟨hc,hx⟩
 case' inl =>
  have hp:preT ⟨c,xs⟩=[tInt c]:=by unfold preT;rw [if_pos (.inl hc)]
  refine byP hc ?_
  refine sw_call (con_l5Int c) rfl (aAs_ok ?_) ?_ (sw_run 200 _ _ _ ?_)
  ·exact byQ True.intro
  ·simp only [okR]
  refine byP (fc tInt.eq_1 (fc ty0.eq_1 (fc e0.eq_1 (fc mk_kind (fc mk_name (fc mk_other (fc mk_n (fc mk_ty (fc mk_res (fc mk_args (fc tyk (fc tya (fc tysC.eq_1 tmsC.eq_1))))))))))))) ?_
  refine ⟨⟨fun o e1 e2=>by omega,by unfold maxLen;omega⟩, ?_⟩
  refine sw_cut (stIs c xs [tInt c] 0) (rn1 2 7) ?_ ?_
  ·simp only [push_cast,Sub,subT,subB,subO,subP,inj,AV.ren,AV.rens,AV.lt,AV.lts,↓reduceIte,Nat.reduceLT,Nat.reduceEqDiff,reduceCtorEq,stIs,rn1,zTm,tInt,ty0,e0,tmC_eq,mk_kind,mk_name,mk_other,mk_n,mk_ty,mk_res,mk_args,tyk,tya,tysC,List.length_nil,tmsC]
  rw [← hp]
 case' inr.inl =>
  have hp:preT ⟨c,xs⟩=[tInt c]:=by unfold preT;rw [if_pos (.inr (show xs=[] from List.eq_nil_of_length_eq_zero (by omega)))]
  refine byP (fc (eq_true hc) (eq_true hx)) ?_
  refine sw_call (con_l5Int c) rfl (aAs_ok ?_) ?_ (sw_run 200 _ _ _ ?_)
  ·exact byQ True.intro
  ·simp only [okR]
  refine byP (fc tInt.eq_1 (fc ty0.eq_1 (fc e0.eq_1 (fc mk_kind (fc mk_name (fc mk_other (fc mk_n (fc mk_ty (fc mk_res (fc mk_args (fc tyk (fc tya (fc tysC.eq_1 tmsC.eq_1))))))))))))) ?_
  refine ⟨⟨fun o e1 e2=>by omega,by unfold maxLen;omega⟩, ?_⟩
  refine sw_cut (stIs c xs [tInt c] 0) (rn1 2 7) ?_ ?_
  ·simp only [push_cast,Sub,subT,subB,subO,subP,inj,AV.ren,AV.rens,AV.lt,AV.lts,↓reduceIte,Nat.reduceLT,Nat.reduceEqDiff,reduceCtorEq,stIs,rn1,zTm,tInt,ty0,e0,tmC_eq,mk_kind,mk_name,mk_other,mk_n,mk_ty,mk_res,mk_args,tyk,tya,tysC,List.length_nil,tmsC]
  rw [← hp]
 case' inr.inr =>
  have hp:preT ⟨c,xs⟩=[]:=by unfold preT;rw [if_neg (by intro h;rcases h with h | h;exact h hc;exact hx (by simp only at h;rw [h];rfl))]
  refine byP (fc (eq_true hc) hx) ?_
  refine sw_cut (stIs c xs [] 0) id ?_ ?_
  ·exact byP (fc stIs.eq_1 (fc zTm.eq_1 tmsC.eq_1)) True.intro
  rw [← hp]
 all_goals
  clear hp hc hI hT
  refine sw_loop (fun k:Nat=>k≤xs.length) (fun k=>stIs c xs (preT ⟨c,xs⟩++(xs.take k).map itT) k) (fun k=>xs.length-k) 0 id (Nat.zero_le _) ?_ ?_
  ·exact byP (fc stIs.eq_1 zTm.eq_1) True.intro
  rintro k hk
  refine sw_run 200 _ _ _ ?_
  by_cases hlt:k<xs.length
  case pos =>
   have hi:(k:Int)<(xs.length:Int):=by omega
   have hR:=flC_row imC_len xs k hlt
   have hne:preT ⟨c,xs⟩++(xs.take (k+1)).map itT=preT ⟨c,xs⟩++(xs.take k).map itT++[itT xs[k]!]:=by rw [take_snoc xs k hlt,List.map_append,List.map_singleton,List.append_assoc]
   have hln:(preT ⟨c,xs⟩++(xs.take k).map itT).length≤10:=by
    rw [List.length_append,List.length_map,List.length_take]
    unfold preT
    split <;> simp <;> omega
   have hnz:xs[k]!.name.size≤szL (sumC ⟨c,xs⟩):=(sz_im ⟨c,xs⟩ k hlt).1
   generalize preT ⟨c,xs⟩++(xs.take k).map itT=L at *
   generalize hxk:xs[k]! = x at *
   obtain ⟨nm,cf⟩:=x
   simp only [imC] at hR
   simp only at hnz
   refine byP (fc stIs.eq_1 (fc zTm.eq_1 (fc hi hR))) ?_
   refine sw_call (con_l5Var nm) rfl (aAs_ok ?_) ?_ (sw_run 200 _ _ _ ?_)
   ·exact byQ True.intro
   ·simp only [okR]
   refine byP (fc hi (fc hR (fc tVar.eq_1 (fc ty0.eq_1 (fc e0.eq_1 (fc mk_kind (fc mk_name (fc mk_other (fc mk_n (fc mk_ty (fc mk_res (fc mk_args (fc tyk (fc tya (fc tysC.eq_1 tmsC.eq_1))))))))))))))) ?_
   by_cases hcf:cf=1
   ·have hit:itT ⟨nm,cf⟩=tVar nm:=by unfold itT;rw [if_pos hcf]
    refine byP (eq_true hcf) ?_
    refine ⟨⟨fun o e1 e2=>by omega,by unfold maxLen;omega,by omega⟩,by unfold inI;omega,k+1,rn1 2 8,by omega,by omega, ?_⟩
    rw [hne,hit]
    simp only [push_cast,Sub,subT,subB,subO,subP,inj,AV.ren,AV.rens,AV.lt,AV.lts,↓reduceIte,Nat.reduceLT,Nat.reduceEqDiff,reduceCtorEq,rn1,cast1,tmsC_append,List.length_append,tVar,ty0,e0,tmC_eq,mk_kind,mk_name,mk_other,mk_n,mk_ty,mk_res,mk_args,tyk,tya,tysC,List.length_nil,tmsC]
   ·have hit:itT ⟨nm,cf⟩=tOp sStar [tInt cf,tVar nm]:=by unfold itT;rw [if_neg hcf]
    refine byP hcf ?_
    refine sw_drawn (.cons 0 true (.cons 1 true (.cons 2 true (.cons 3 true (.cons 4 true (.cons 5 true (.cons 7 true (.cons 6 false (.cons 8 false (.cons 9 false (.cons 10 false (.nil)))))))))))) (by kernel_rfl) qLp_panic (by kernel_rfl) (sw_run 200 _ _ _ ?_)
    refine byP (fc hi hR) ?_
    refine sw_callD (con_l5Int cf) rfl (aAs_ok ?_) ?_ (sw_run 200 _ _ _ ?_)
    ·exact byQ True.intro
    ·simp only [okR]
    refine byP (fc tInt.eq_1 (fc ty0.eq_1 (fc e0.eq_1 (fc mk_kind (fc mk_name (fc mk_other (fc mk_n (fc mk_ty (fc mk_res (fc mk_args (fc tyk (fc tya (fc tysC.eq_1 tmsC.eq_1))))))))))))) ?_
    refine sw_callD (con_l5Op sStar [tInt cf,tVar nm] (by rw [sz_ms2,sz_tInt,sz_tVar];simp only [List.length_cons,List.length_nil];omega)) rfl (aAs_ok ?_) ?_ (sw_run 200 _ _ _ ?_)
    ·simp only [push_cast,aAs,aA,aD,↓reduceIte,Nat.reduceAdd,tInt,tVar,ty0,e0,tmC_eq,mk_kind,mk_name,mk_other,mk_n,mk_ty,mk_res,mk_args,tyk,tya,tysC,List.length_nil,tmsC,sStar]
    ·simp only [okR]
    refine byP (fc tInt.eq_1 (fc tVar.eq_1 (fc tOp.eq_1 (fc ty0.eq_1 (fc e0.eq_1 (fc mk_kind (fc mk_name (fc mk_other (fc mk_n (fc mk_ty (fc mk_res (fc mk_args (fc tyk (fc tya (fc tysC.eq_1 tmsC.eq_1))))))))))))))) ?_
    refine ⟨⟨fun o e1 e2=>by omega,by unfold maxLen;omega,by omega⟩,by unfold inI;omega,k+1,rn1 2 15,by omega,by omega, ?_⟩
    rw [hne,hit]
    simp only [push_cast,Sub,subT,subB,subO,subP,inj,AV.ren,AV.rens,AV.lt,AV.lts,↓reduceIte,Nat.reduceLT,Nat.reduceAdd,Nat.reduceEqDiff,reduceCtorEq,rn1,cast1,tmsC_append,List.length_append,sStar,tInt,tVar,tOp,ty0,e0,tmC_eq,mk_kind,mk_name,mk_other,mk_n,mk_ty,mk_res,mk_args,tyk,tya,tysC,List.length_cons,List.length_nil,tmsC]
  case neg =>
   have hi:¬ (k:Int)<(xs.length:Int):=by omega
   obtain rfl:k=xs.length:=by omega
   simp only [push_cast,↓reduceIte,Nat.reduceLT,Nat.reduceEqDiff,stIs,zTm,hi,List.take_length]
   rw [← hP]
   clear hP
   generalize parL ⟨c,xs⟩=ps at *
   have h0:(0:Int)<(ps.length:Int):=by omega
   have hr0:=flD_row ps 0 (by omega)
   have ht0:=flD_take ps 0 (by omega)
   rw [flD_zero] at hr0 ht0
   refine sw_head 20 _ _ _ ?_
   simp only [xHead,true_and]
   refine sw_step 2 _ _ _ _ _ ?_
   simp only [push_cast,↓reduceIte,Nat.reduceLT,Nat.reduceEqDiff,xStep,h0]
   refine sw_ex rfl ?_
   refine sw_take 2 0 rfl rfl (by kernel_rfl) (by omega) (sw_run 200 _ _ _ ?_)
   refine byP (fc takeP.eq_1 (fc hr0 ht0)) ?_
   refine sw_fz 2 rfl ?_
   refine sw_loop (fun k:Nat=>k+1≤ps.length) (fun k=>stJs ps k) (fun k=>ps.length-k) 0 (rnL [(1,1),(2,6),(4,3),(5,4),(6,5)]) (by omega) ?_ ?_
   ·exact byP (fc stJs.eq_1 (fc zTm.eq_1 foT.eq_1)) True.intro
   rintro k hk
   refine sw_run 200 _ _ _ ?_
   have hfs:=foT_sz ps k (by omega)
   have hft:=szL_tms_take ps (k+1)
   by_cases hlt2:k+1<ps.length
   case pos =>
    have hi2:(k:Int)+1<(ps.length:Int):=by omega
    have hi3:(0:Int)≤(k:Int)+1:=by omega
    have htn:((k:Int)+1).toNat=k+1:=by omega
    have hr2:=flD_row2 ps 1 (k+1) hlt2 (by omega)
    have hpz:=szL_tms' ps (k+1) hlt2
    have hst:foT ps (k+1)=tOp sPlus [foT ps k,ps[k+1]!]:=rfl
    refine byP (fc stJs.eq_1 (fc zTm.eq_1 hi2)) ?_
    refine sw_drawn (.cons 0 true (.cons 1 true (.cons 2 true (.cons 3 true (.cons 4 true (.cons 5 false (.cons 6 false (.cons 7 false (.nil))))))))) (by kernel_rfl) qLp_panic (by kernel_rfl) (sw_run 200 _ _ _ ?_)
    refine byP (fc hi2 (fc hi3 (fc htn hr2))) ?_
    refine sw_callD (con_l5Op sPlus [foT ps k,ps[k+1]!] (by rw [sz_ms2];simp only [List.length_cons,List.length_nil];omega)) rfl (aAs_ok ?_) ?_ (sw_run 200 _ _ _ ?_)
    ·simp only [push_cast,aAs,aA,aD,↓reduceIte,Nat.reduceAdd,tmC_eq,tmsC,sPlus]
    ·simp only [okR]
    refine byP (fc tOp.eq_1 (fc ty0.eq_1 (fc e0.eq_1 (fc mk_kind (fc mk_name (fc mk_other (fc mk_n (fc mk_ty (fc mk_res (fc mk_args (fc tyk (fc tya (fc tysC.eq_1 tmsC.eq_1))))))))))))) ?_
    refine ⟨by unfold inI;omega,k+1,rnL [(1,1),(2,2),(4,8),(5,9),(6,10)],by omega,by omega, ?_⟩
    rw [hst]
    exact byP (fc sPlus.eq_1 (fc tOp.eq_1 (fc ty0.eq_1 (fc e0.eq_1 (fc mk_kind (fc mk_name (fc mk_other (fc mk_n (fc mk_ty (fc mk_res (fc mk_args (fc tyk (fc tya (fc tysC.eq_1 tmsC.eq_1)))))))))))))) True.intro
   case neg =>
    have hi2:¬ (k:Int)+1<(ps.length:Int):=by omega
    obtain rfl:k=ps.length-1:=by omega
    refine byP (fc stJs.eq_1 (fc zTm.eq_1 hi2)) ?_
    refine sw_run 200 _ _ _ ?_
    exact byP Tryz.results45 True.intro
end Go.Proofs.YtaidalilfmjfgaaGreat
