import Derived.Test.YtaidalilfmjfgaaGreatAI17
import Derived.Lib.AppendZeros
import Derived.Test.YtaidalilfmjfgaaGreatNm
import Derived.Test.YtaidalilfmjfgaaGreatTmC
import Derived.Test.YtaidalilfmjfgaaGreatLp
namespace Go.Proofs.YtaidalilfmjfgaaGreat
open Go.RowKit
set_option linter.unusedVariables false
set_option linter.unusedSimpArgs false
set_option maxRecDepth 20000
def GrowC (P:Program) (F:FuncId) (T:TypeId) (sz:Nat):Prop :=
 (∃ fn, P.funcs[F]? = some fn ∧ fn.body.isNone = false ∧ (fn.name == "runtime.NumGoroutine") = false) ∧
 ∀ (n:Nat) (w:World),n≤1000000000→Calls P F #[.slice none 0 0,.int .i64 n] w fun e w'=>∃ v,e = .returned v∧w'.ownsRow w.heap.size T sz v 0 []∧Below w.heap.size w w'
theorem sw_callG {P:Program} {all rest:List Oper} {st:List It} {dst:Option Tmp} {f:Operand} {args:Array Operand} {tys:Array TypeId} {ty:TypeId} {pos:String} {af:Array Edge} {gd:Option (Nat × Bool)} {s:AS} {Q:QE} {F:FuncId} {T:TypeId} {sz n:Nat}
  {y:Operand} (hc:GrowC P F T sz) (hf:s.ev f = .fn F []) (ha:args.toList=[.const (.slice none 0 0),y]) (hy:s.ev y = .i n) (hn:n≤1000000000)
  (h:SW P (.ops all rest :: st) ((s.mk' [] ⟨.rows sz 0 [],some T,true⟩).pt dst (.sl s.nx)) Q) :
  SW P (.ex all ⟨dst,.call ⟨.value f,args,tys⟩,ty,pos,af,gd⟩ rest :: st) s Q:=fun w0 G a w hr=>by
 have hfv:=hr.ev f
 rw [hf] at hfv
 unfold RV at hfv
 obtain ⟨us,hu,hrs⟩:=hfv
 unfold RVs at hrs
 subst hrs
 have hv2:=hr.ev y
 rw [hy] at hv2
 unfold RV at hv2
 have e1:args.toList.map a.eval=[.slice none 0 0,.int .i64 n]:=by rw [ha];simp only [List.map_cons,List.map_nil,hv2];rfl
 obtain ⟨⟨fn,hfn,hbody,hname⟩,hcon⟩:=hc
 have hcall:=hcon n w hn
 show (Oper.mk dst (.call ⟨.value f,args,tys⟩) ty pos af gd).wp P a w _ _
 unfold Oper.wp
 have hrun:(execOp a.eval ⟨dst,.call { callee:=.value f,args:=args,argTypes:=tys },ty,pos,af,gd⟩).run P w = .ok (.enter F #[.slice none 0 0,.int .i64 n]) w:=by
  have e4:((#[]:Array Value)++args.map a.eval)++([]:List Value).toArray = #[.slice none 0 0,.int .i64 n]:=by
   apply Array.ext'; simp [e1]
  simp only [execOp,resolve,Deferred.ofValue,hu,pure_bind,invoke,e4,callFunc,Sem.run_bind,program,Sem.run,Result.andThen_ok,hfn,hname,hbody,Bool.false_eq_true,if_false,Sem.run_pure]
 rw [hrun]
 refine hcall.mono fun e w' ⟨v,he,hown,hb⟩ => ?_
 subst he
 have hbs:=hr.bel.size
 have h':=hr.later hb
 have hown':=ownsRow_r hown
 have hge:∀ k ∈ rowR v,w.heap.size≤k:=fun k hk=>by
  rcases hown.2 with ⟨rfl,_⟩ | ⟨g,cap,cur,rfl,hg,_⟩
  ·simp [rowR] at hk
  ·cases cap with
   | zero=>simp [rowR] at hk
   | succ c=>simp [rowR] at hk;omega
 obtain ⟨a2,cap2,ev,q1,q2,hlt,_⟩:=row_shape hown'
 have hrow:∀ k ∈ rowR v,k<w'.heap.size∧w.heap.size≤k:=fun k hk=>⟨(hlt k hk).1,hge k hk⟩
 have hrn:(rowR v).Nodup:=by
  subst ev
  cases a2 <;> cases cap2 <;> simp [rowR]
 have hO:OwnVs w' [] [] []:=by unfold OwnVs;exact ⟨rfl,rfl⟩
 have hP:∀ S:Nat→Prop,RepPs w' S [] []:=fun S=>by unfold RepPs;rfl
 have hR:Res w0 G.Z w' (rowR v) v ⟨.rows sz 0 [],some T,true⟩:=by
  refine ⟨fun k hk=>⟨⟨fun hz=>absurd (hr.zl _ hz) (Nat.not_lt.2 (hrow k hk).2),.inl (Nat.le_trans hbs (hrow k hk).2)⟩,(hrow k hk).1⟩,row_rep hown' (hP _) (fun k hk => .inr hk),fun _=>⟨by have:=row_own hown' hO;simpa using this,hrn⟩,fun T' hT => ?_⟩
  injection hT with hT
  subst hT
  exact ⟨sz,0,[],[],rfl,hown',hP _,fun k hk=>⟨hk,.inl (Nat.le_trans hbs (hrow k hk).2)⟩,by simp,fun _=>⟨[],hO,by simp,by simp⟩⟩
 obtain ⟨h3,h4⟩:=h'.own' (w':=w') (eats:=[]) h'.bel (Nat.le_refl _) (fun _ _ _=>rfl) hR (by rw [ev];rfl) (fun b cs hl hk=>by
  obtain ⟨_,_,_,_,h7,_⟩:=hr.bx b cs hl
  have:=h7.lt
  have:=(hrow _ hk).2
  omega) (fun o I ho _ k hk hk'=>by
  have:=((hr.own o I ho).2.1.1 k hk).2
  have:=(hrow k hk').2
  omega)
 exact h w0 _ _ w' (h3.pt dst h4)
theorem str_info:(Tryz.prog.info? 9).map (fun i=>(i.zero,i.size,i.bytes))=some (some (.string ⟨#[]⟩),1,16):=by kernel_rfl
set_option maxRecDepth 100000 in
set_option maxHeartbeats 800000 in
theorem grow_str:GrowC Tryz.prog 277 9 1:=by
 refine ⟨⟨_,Tryz.func277,rfl,rfl⟩,fun n w hn => ?_⟩
 by_cases h0:n=0
 ·subst h0
  go_enter Tryz.func277,Tryz.ntmps277
  go_wp2
  go_ret
  exact ⟨_,rfl,World.ownsRow_nil _ _ _ _,Below.refl _ _⟩
 ·obtain ⟨i,hi,hzz⟩:∃ i,Tryz.prog.info? 9=some i∧(i.zero,i.size,i.bytes)=(some (.string ⟨#[]⟩),1,16):=by
   have:=str_info
   cases hx:Tryz.prog.info? 9 with
   | none=>rw [hx] at this;cases this
   | some i=>rw [hx] at this;exact ⟨i,rfl,by simpa using this⟩
  simp only [Prod.mk.injEq] at hzz
  obtain ⟨hz,hs,hby⟩:=hzz
  have hrun:=fun ty=>Lib.run_append_nil_zeros (P:=Tryz.prog) w 76 3 ty 9 i (.string ⟨#[]⟩) .i64 .i64 Tryz.underlying76 Tryz.underlying3 hi hz n (by omega) (by omega) (by omega) (by rw [hby];omega)
  have hpos:¬ (n:Int)<0:=by omega
  have hpos2:(0:Int)<(n:Int):=by omega
  go_enter Tryz.func277,Tryz.ntmps277
  go_wp2_with (at_builtin;refine Lib.wpList_append_run _ rfl _ _ _ _ rfl _ _ rfl rfl _ _ (hrun _) ?_)
  go_ret
  have hge:=grownCap_ge w n 0 9
  have hle:=grownCap_le_maxLen w n 0 9 (by unfold maxLen;omega)
  have hb0:Below w.heap.size w (w.alloc (.cells (Builtin.zeroCells #[Value.string ⟨#[]⟩] n++Builtin.zeroCells #[Value.string ⟨#[]⟩] (grownCap w n 0 9-n)) 9)):=(Below.refl _ _).alloc (Nat.le_refl _) _
  have hblk:=Blk.new w 9 (Builtin.zeroCells #[Value.string ⟨#[]⟩] n++Builtin.zeroCells #[Value.string ⟨#[]⟩] (grownCap w n 0 9-n))
  refine ⟨_,rfl,⟨rfl,.inr ⟨w.heap.size,grownCap w n 0 9,_,rfl,Nat.le_refl _,hblk,Nat.zero_le _,hle, ?_, ?_⟩⟩,hb0.drew⟩
  ·simp [Builtin.zeroCells]
   omega
  ·simp
theorem map_row {α:Type} [Inhabited α] (f:α→D) (xs:List α) (k:Nat) (h:k<xs.length):rowAt 1 (xs.map f) k=[f xs[k]!]:=by
 have h2:k<(xs.map f).length:=by simpa using h
 rw [rowAt,Nat.mul_one,List.drop_eq_getElem_cons h2]
 simp [getElem!_pos xs k h]
def flK (L:List (List ByteArray)) (k:Nat):List ByteArray:=(L.take k).flatten
theorem flK_snoc (L:List (List ByteArray)) (k:Nat) (h:k<L.length):flK L (k+1)=flK L k++L[k]! := by
 rw [flK,take_snoc L k h,List.flatten_append];simp [flK]
theorem flK_le (L:List (List ByteArray)) (k:Nat):(flK L k).length≤L.flatten.length:=by
 have e:L.flatten=(L.take k).flatten++(L.drop k).flatten:=by rw [← List.flatten_append,List.take_append_drop]
 rw [e,List.length_append,flK];omega
theorem prim_strs (xs:List ByteArray):∀ d,d ∈ xs.map D.str→d.prim=true:=fun d h=>by
 obtain ⟨x,_,rfl⟩:=List.mem_map.mp h
 rfl
theorem con_Concat (L:List (List ByteArray)) (hl:L.flatten.length≤1000000000) (hm:L.length≤1000000):Con Tryz.prog 265 [.one (.rows 1 L.length (L.map strsD))] [.one (strsD L.flatten)]:=by
 refine con_run Tryz.func265 rfl rfl (by simp [Tryz.ntmps265]) ?_
 simp only [push_cast,↓reduceIte,Nat.reduceLT,reduceCtorEq,Tryz.ntmps265]
 refine sw_loop (fun k:Nat=>k≤L.length) (fun k=>⟨36,[(11,.i k),(10,.i L.length),(9,.br (.rows 1 L.length (L.map strsD))),(3,.i (flK L k).length),(0,.br (.rows 1 L.length (L.map strsD)))],[],[],0,[]⟩) (fun k=>L.length-k) 0 id (Nat.zero_le _) ?_ ?_
 ·simp only [push_cast,Sub,subT,subB,subO,subP,inj,AV.ren,AV.lt,↓reduceIte,Nat.reduceEqDiff,reduceCtorEq,flK,List.flatten_nil,List.length_nil]
 ·rintro k hk
  refine sw_run 200 _ _ _ ?_
  by_cases hlt:k<L.length
  ·have hi:(k:Int)<(L.length:Int):=by omega
   have hR:=map_row strsD L k hlt
   have hs:=flK_snoc L k hlt
   have hle:=flK_le L (k+1)
   have hlen:(flK L (k+1)).length=(flK L k).length+L[k]!.length:=by rw [hs,List.length_append]
   have hn:¬ (((flK L k).length:Int)+(L[k]!.length:Int)<0):=by omega
   simp only [push_cast,↓reduceIte,Nat.reduceLT,Nat.reduceEqDiff,hi,hR,hn]
   refine ⟨by unfold inI;omega,by unfold inI;omega,k+1,id,by omega,by omega, ?_⟩
   simp only [push_cast,Sub,subT,subB,subO,subP,inj,AV.ren,AV.lt,↓reduceIte,Nat.reduceEqDiff,reduceCtorEq,cast1,hlen,Int.natCast_add]
  ·have hi:¬ (k:Int)<(L.length:Int):=by omega
   obtain rfl:k=L.length:=by omega
   have hall:flK L L.length=L.flatten:=by rw [flK,List.take_length]
   simp only [push_cast,↓reduceIte,Nat.reduceLT,Nat.reduceEqDiff,hi]
   refine sw_run 200 _ _ _ ?_
   simp only [push_cast,↓reduceIte,Nat.reduceLT,Nat.reduceEqDiff,hall]
   refine sw_callG grow_str rfl rfl rfl hl (sw_run 200 _ _ _ ?_)
   simp only [push_cast,↓reduceIte,Nat.reduceLT,reduceCtorEq]
   refine sw_loop (fun k:Nat=>k≤L.length) (fun k=>⟨36,[(27,.i k),(26,.i L.length),(25,.br (.rows 1 L.length (L.map strsD))),(6,.sl 0)],[],[(0,some ⟨.rows 1 (flK L k).length ((flK L k).map D.str),some 9,true⟩)],1,[]⟩) (fun k=>L.length-k) 0 id (Nat.zero_le _) ?_ ?_
   ·simp only [push_cast,Sub,subT,subB,subO,subP,inj,AV.ren,AV.lt,↓reduceIte,Nat.reduceLT,Nat.reduceEqDiff,flK,List.flatten_nil,List.length_nil,List.map_nil]
   ·rintro k hk
    refine sw_run 200 _ _ _ ?_
    by_cases hlt:k<L.length
    ·have hi:(k:Int)<(L.length:Int):=by omega
     have hR:=map_row strsD L k hlt
     have hs:=flK_snoc L k hlt
     have hle:=flK_le L (k+1)
     have hlen:(flK L (k+1)).length=(flK L k).length+L[k]!.length:=by rw [hs,List.length_append]
     simp only [push_cast,↓reduceIte,Nat.reduceLT,Nat.reduceAdd,Nat.reduceEqDiff,hi,hR]
     refine ⟨⟨fun _=>prim_strs _,by simp,by unfold maxLen;omega,by omega⟩,by unfold inI;omega,k+1,rn1 0 1,by omega,by omega, ?_⟩
     simp only [push_cast,Sub,subT,subB,subO,subP,inj,AV.ren,AV.lt,↓reduceIte,Nat.reduceLT,Nat.reduceEqDiff,rn1,cast1,hs,List.length_append,List.map_append]
    ·have hi:¬ (k:Int)<(L.length:Int):=by omega
     obtain rfl:k=L.length:=by omega
     simp only [push_cast,↓reduceIte,Nat.reduceLT,Nat.reduceEqDiff,hi]
     refine sw_run 200 _ _ _ ?_
     simp only [push_cast,↓reduceIte,Nat.reduceLT,Nat.reduceEqDiff,reduceCtorEq,hall,Tryz.results265]
def add1 (out:List ByteArray) (x:ByteArray):List ByteArray:=if 0≤fi x out 0 then out else out++[x]
def uni (acc cs:List ByteArray):Nat→List ByteArray
 | 0=>acc
 | k+1=>add1 (uni acc cs k) cs[k]!
def uniR (a b:List ByteArray):List ByteArray:=uni [] (a++b) (a++b).length
theorem bang_appL {α:Type} [Inhabited α] (l r:List α) (i:Nat) (h:i<l.length):(l++r)[i]! = l[i]! := by
 rw [getElem!_pos (l++r) i (by simp;omega),getElem!_pos l i h,List.getElem_append_left]
theorem bang_appR {α:Type} [Inhabited α] (l r:List α) (i:Nat) (h:i<r.length):(l++r)[l.length+i]! = r[i]! := by
 rw [getElem!_pos (l++r) (l.length+i) (by simp;omega),getElem!_pos r i h,List.getElem_append_right (by omega)];congr 1;omega
theorem uni_left (acc a b:List ByteArray):∀ k,k≤a.length→uni acc (a++b) k=uni acc a k
 | 0,_=>rfl
 | k+1,h=>by rw [uni,uni,uni_left acc a b k (by omega),bang_appL a b k (by omega)]
theorem uni_right (a b:List ByteArray):∀ k,k≤b.length→uni [] (a++b) (a.length+k)=uni (uni [] a a.length) b k
 | 0,_=>by rw [Nat.add_zero,uni_left [] a b _ (Nat.le_refl _)];rfl
 | k+1,h=>by rw [← Nat.add_assoc,uni,uni,uni_right a b k (by omega),bang_appR a b k (by omega)]
theorem uniR_two (a b:List ByteArray):uniR a b=uni (uni [] a a.length) b b.length:=by
 rw [uniR,List.length_append,uni_right a b _ (Nat.le_refl _)]
def sL (xs:List ByteArray):Nat:=xs.length+szL (xs.map D.str)
theorem sL_app (a b:List ByteArray):sL (a++b)=sL a+sL b:=by rw [sL,sL,sL,List.length_append,List.map_append,szL_append];omega
theorem sL_one (x:ByteArray):sL [x]=1+x.size:=rfl
theorem uni_sL (acc cs : List ByteArray) : ∀ k, k ≤ cs.length → sL (uni acc cs k) ≤ sL acc + sL (cs.take k)
  | 0, _ => by rw [uni]; omega
  | k + 1, h => by
    have ih := uni_sL acc cs k (by omega)
    rw [take_snoc cs k (by omega), sL_app, sL_one, uni, add1]
    split
    · omega
    · rw [sL_app, sL_one]; omega
theorem uni_sz (acc cs:List ByteArray) (k:Nat) (h:k≤cs.length):sL (uni acc cs k)≤sL acc+sL cs:=by
 have h1:=uni_sL acc cs k h
 have e:sL cs=sL (cs.take k)+sL (cs.drop k):=by rw [← sL_app,List.take_append_drop]
 omega
theorem uniR_sz (a b:List ByteArray):sL (uniR a b)≤sL a+sL b:=by
 have h:=uni_sz [] (a++b) _ (Nat.le_refl _)
 rw [sL_app] at h
 rw [uniR]
 have:sL []=0:=rfl
 omega
theorem con_UniteS (a b:List ByteArray) (ha:sL a≤100000000) (hb:sL b≤100000000):Con Tryz.prog 219 [.one (strsD a),.one (strsD b)] [.one (strsD (uniR a b))]:=by
 have hla:a.length≤sL a:=by rw [sL];omega
 have hlb:b.length≤sL b:=by rw [sL];omega
 have h0:sL []=0:=rfl
 have hsa:=uni_sz [] a a.length (Nat.le_refl _)
 rw [uniR_two]
 refine con_run Tryz.func219 rfl rfl (by simp [Tryz.ntmps219]) ?_
 simp only [push_cast,↓reduceIte,Nat.reduceLT,Tryz.ntmps219]
 refine sw_loop (fun k:Nat=>k≤(a).length) (fun k=>⟨50,[(6,.i k),(0,.br (.rows 1 a.length (a.map D.str))),(1,.br (.rows 1 b.length (b.map D.str))),(5,.sl 0)],[],[(0,some ⟨.rows 1 (uni [] a k).length ((uni [] a k).map D.str),some 9,true⟩)],1,[]⟩) (fun k=>(a).length-k) 0 id (Nat.zero_le _) ?_ ?_
 ·simp only [push_cast,Sub,subT,subB,subO,subP,inj,AV.ren,AV.lt,↓reduceIte,Nat.reduceLT,Nat.reduceEqDiff,reduceCtorEq,uni,List.length_nil,List.map_nil]
 ·rintro k hk
  refine sw_run 200 _ _ _ ?_
  by_cases hlt:k<(a).length
  ·have hi:(k:Int)<((a).length:Int):=by omega
   have hR:=strs_row a k hlt
   have hsz:=uni_sz [] a k hk
   have hlu:(uni [] a k).length≤sL (uni [] a k):=by rw [sL];omega
   have hct:=con_IndexOfS (uni [] a k) (a)[k]! (by omega)
   have hst:uni [] a (k+1)=if 0≤fi (a)[k]! (uni [] a k) 0 then uni [] a k else uni [] a k++[(a)[k]!]:=rfl
   simp only [push_cast,↓reduceIte,Nat.reduceLT,Nat.reduceEqDiff,reduceCtorEq,hi,hR]
   refine sw_call (hct) rfl (aAs_ok ?_) ?_ (sw_run 200 _ _ _ ?_)
   ·simp only [push_cast,aAs,aA,aD,↓reduceIte,Nat.reduceEqDiff]
   ·simp only [okR]
   by_cases hc:0≤fi (a)[k]! (uni [] a k) 0
   ·have hc2:¬ fi (a)[k]! (uni [] a k) 0<0:=by omega
    rw [if_pos hc] at hst
    simp only [push_cast,↓reduceIte,Nat.reduceLT,Nat.reduceEqDiff,hc2]
    refine ⟨by unfold inI;omega,k+1,id,by omega,by omega, ?_⟩
    simp only [push_cast,Sub,subT,subB,subO,subP,inj,AV.ren,AV.lt,↓reduceIte,Nat.reduceLT,Nat.reduceEqDiff,reduceCtorEq,cast1,hst]
   ·have hc2:fi (a)[k]! (uni [] a k) 0<0:=by omega
    rw [if_neg hc] at hst
    simp only [push_cast,↓reduceIte,Nat.reduceLT,Nat.reduceAdd,Nat.reduceLeDiff,Nat.reduceEqDiff,reduceCtorEq,hi,hR,hc2]
    refine ⟨⟨fun _ d hd=>by rw [hd];rfl,fun o ho=>by omega,by unfold maxLen;omega,by omega⟩,by unfold inI;omega,k+1,rnL [(0,2)],by omega,by omega, ?_⟩
    simp only [push_cast,Sub,subT,subB,subO,subP,inj,AV.ren,AV.lt,↓reduceIte,Nat.reduceLT,Nat.reduceEqDiff,reduceCtorEq,rnL,cast1,hst,List.length_append,List.map_append,List.map_cons,List.map_nil]
  ·have hi:¬ (k:Int)<((a).length:Int):=by omega
   obtain rfl:k=(a).length:=by omega
   simp only [push_cast,↓reduceIte,Nat.reduceLT,Nat.reduceEqDiff,reduceCtorEq,hi]
   refine sw_run 200 _ _ _ ?_
   simp only [push_cast,↓reduceIte,Nat.reduceLT]
   refine sw_loop (fun k:Nat=>k≤(b).length) (fun k=>⟨50,[(7,.i k),(0,.br (.rows 1 a.length (a.map D.str))),(1,.br (.rows 1 b.length (b.map D.str))),(5,.sl 0)],[],[(0,some ⟨.rows 1 (uni (uni [] a a.length) b k).length ((uni (uni [] a a.length) b k).map D.str),some 9,true⟩)],1,[]⟩) (fun k=>(b).length-k) 0 id (Nat.zero_le _) ?_ ?_
   ·simp only [push_cast,Sub,subT,subB,subO,subP,inj,AV.ren,AV.lt,↓reduceIte,Nat.reduceLT,Nat.reduceEqDiff,reduceCtorEq,uni,List.map_nil]
   ·rintro k hk
    refine sw_run 200 _ _ _ ?_
    by_cases hlt:k<(b).length
    ·have hi:(k:Int)<((b).length:Int):=by omega
     have hR:=strs_row b k hlt
     have hsz:=uni_sz (uni [] a a.length) b k hk
     have hlu:(uni (uni [] a a.length) b k).length≤sL (uni (uni [] a a.length) b k):=by rw [sL];omega
     have hct:=con_IndexOfS (uni (uni [] a a.length) b k) (b)[k]! (by omega)
     have hst:uni (uni [] a a.length) b (k+1)=if 0≤fi (b)[k]! (uni (uni [] a a.length) b k) 0 then uni (uni [] a a.length) b k else uni (uni [] a a.length) b k++[(b)[k]!]:=rfl
     simp only [push_cast,↓reduceIte,Nat.reduceLT,Nat.reduceEqDiff,hi,hR]
     refine sw_call (hct) rfl (aAs_ok ?_) ?_ (sw_run 200 _ _ _ ?_)
     ·simp only [push_cast,aAs,aA,aD,↓reduceIte,Nat.reduceEqDiff]
     ·simp only [okR]
     by_cases hc:0≤fi (b)[k]! (uni (uni [] a a.length) b k) 0
     ·have hc2:¬ fi (b)[k]! (uni (uni [] a a.length) b k) 0<0:=by omega
      rw [if_pos hc] at hst
      simp only [push_cast,↓reduceIte,Nat.reduceLT,Nat.reduceEqDiff,hc2]
      refine ⟨by unfold inI;omega,k+1,id,by omega,by omega, ?_⟩
      simp only [push_cast,Sub,subT,subB,subO,subP,inj,AV.ren,AV.lt,↓reduceIte,Nat.reduceLT,Nat.reduceEqDiff,reduceCtorEq,cast1,hst]
     ·have hc2:fi (b)[k]! (uni (uni [] a a.length) b k) 0<0:=by omega
      rw [if_neg hc] at hst
      simp only [push_cast,↓reduceIte,Nat.reduceLT,Nat.reduceAdd,Nat.reduceLeDiff,Nat.reduceEqDiff,reduceCtorEq,hi,hR,hc2]
      refine ⟨⟨fun _ d hd=>by rw [hd];rfl,fun o ho=>by omega,by unfold maxLen;omega,by omega⟩,by unfold inI;omega,k+1,rnL [(0,2)],by omega,by omega, ?_⟩
      simp only [push_cast,Sub,subT,subB,subO,subP,inj,AV.ren,AV.lt,↓reduceIte,Nat.reduceLT,Nat.reduceEqDiff,reduceCtorEq,rnL,cast1,hst,List.length_append,List.map_append,List.map_cons,List.map_nil]
    ·have hi:¬ (k:Int)<((b).length:Int):=by omega
     obtain rfl:k=(b).length:=by omega
     simp only [push_cast,↓reduceIte,Nat.reduceLT,Nat.reduceEqDiff,hi]
     refine sw_run 200 _ _ _ ?_
     simp only [push_cast,↓reduceIte,Nat.reduceLT,Nat.reduceEqDiff,reduceCtorEq,Tryz.results219]
def plainZ (u:Value):Prop:=(∃ b,u = .string b)∨u = .int .i64 0
theorem own_plain : ∀ us : List Value, (∀ u ∈ us, plainZ u) → ∃ Z : List D, Z.length = us.length ∧ ∀ w, OwnVs w Z us []
  | [], _ => ⟨[], rfl, fun w => by unfold OwnVs; exact ⟨rfl, rfl⟩⟩
  | u :: us, h => by
    obtain ⟨Z, h1, h2⟩ := own_plain us fun u hu => h u (by simp [hu])
    rcases h u (by simp) with ⟨b, rfl⟩ | rfl
    · exact ⟨.str b :: Z, by simp [h1], fun w => by unfold OwnVs; exact ⟨_, us, [], [], rfl, rfl, by unfold OwnV; exact ⟨rfl, rfl⟩, h2 w⟩⟩
    · exact ⟨.int 0 :: Z, by simp [h1], fun w => by unfold OwnVs; exact ⟨_, us, [], [], rfl, rfl, by unfold OwnV; exact ⟨rfl, rfl⟩, h2 w⟩⟩
theorem zc_mem {z:Array Value} {n:Nat} (hz:∀ u ∈ z,plainZ u) (h0:0<z.size):∀ u ∈ (Builtin.zeroCells z n).toList,plainZ u:=by
 intro u hu
 simp only [Builtin.zeroCells,Array.toList_map,List.mem_map] at hu
 obtain ⟨i,_,rfl⟩:=hu
 have hi:i % z.size<z.size:=Nat.mod_lt _ h0
 rw [getElem!_pos z _ hi]
 exact hz _ (Array.getElem_mem hi)
theorem zc_len (z:Array Value) (n:Nat):(Builtin.zeroCells z n).toList.length=n * z.size:=by simp [Builtin.zeroCells]
theorem plain_one {u:Value} (h:plainZ u):u.oneCell'=true:=by
 rcases h with ⟨b,rfl⟩ | rfl <;> rfl
theorem sw_clear2 {P : Program} {all rest : List Oper} {st : List It} {d1 : Tmp} {t e : TypeId} {x lo : Operand} {ty ty2 : TypeId} {pos pos2 : String} {af af2 : Array Edge} {s : AS} {Q : QE} (o k : Nat) {sz n : Nat} {cs : List D} {T : TypeId} {z : Value}
    (hx : s.ev x = .sl o) (hI : s.owf o = some ⟨.rows sz n cs, some T, true⟩) (hT : tElem P t = some (e, sz)) (hlo : s.ev lo = .i k) (hk : k < n) (hd : d1 < s.nt)
    (hz : ∀ w, (zeroValue e).run P w = .ok z w) (hzs : z.cells.size = sz) (hz0 : 0 < sz) (hzp : ∀ u ∈ z.cells, plainZ u)
    (h : ∀ Z : List D, Z.length = (n - k) * sz → SW P (.ops all rest :: st) ((s.setO o ⟨.rows sz n (setRowG cs (k * sz) Z), some T, true⟩).pt (some d1) .un) Q) :
    SW P (.ex all ⟨some d1, .slice t x (some lo) none none, ty, pos, af, none⟩ (⟨none, .call ⟨.builtin .clear, #[.tmp d1], #[t]⟩, ty2, pos2, af2, none⟩ :: rest) :: st) s Q := fun w0 G a w hr => by
  obtain ⟨Z, hZl, hZo⟩ := own_plain (Builtin.zeroCells z.cells (n - k)).toList (zc_mem hzp (by omega))
  rw [zc_len, hzs] at hZl
  have hund : P.underlying t = some (.slice e) := by
    unfold tElem at hT
    split at hT
    · rename_i e' hu
      cases hi' : P.info? e' with
      | none => rw [hi'] at hT; cases hT
      | some i =>
        rw [hi'] at hT
        simp only [Option.map_some, Option.some.injEq, Prod.mk.injEq] at hT
        rw [hu, hT.1]
    · cases hT
  obtain ⟨h01, ⟨hB, hrep, hdeep, hap⟩, hbx⟩ := hr.own o _ hI
  obtain ⟨sz2, n2, cs2, vs, e1, hrow, h3, h4, h5, h6⟩ := hap T rfl
  simp only [D.rows.injEq] at e1
  obtain ⟨rfl, rfl, rfl⟩ := e1
  have hu : a.eval x = G.root o := by
    have := hr.ev x
    rw [hx] at this
    unfold RV at this
    exact this.2.2 _ hI
  obtain ⟨hvl, hrr⟩ := hrow
  rcases hrr with ⟨_, e4, e5⟩ | ⟨a', o0, cap2, cur, e4, hh, hnc, hcm, hcs, htk⟩
  · omega
  have hvr : rowR (G.root o) = [a'] := by rw [e4]; rfl
  have hlen : o0 + k * sz + (n - k) * sz ≤ cur.toList.length := by
    have h1 : k * sz + (n - k) * sz = n * sz := by rw [← Nat.add_mul]; congr 1; omega
    have h2 : n * sz ≤ (cap2 + 1) * sz := Nat.mul_le_mul_right _ hnc
    simp only [Array.length_toList]
    omega
  have hone : ∀ v ∈ (Builtin.zeroCells z.cells (n - k)).toList, v.oneCell' = true := fun v hv => plain_one (zc_mem hzp (by omega) v hv)
  obtain ⟨w', hw1, hw2, hw3⟩ := storeCells_run (P := P) (T := T) (g := a') (off := o0 + k * sz) (Builtin.zeroCells z.cells (n - k)).toList 0 cur.toList w (by unfold Blk; simpa using hh) (by rw [zc_len, hzs]; omega) hone
  rw [Nat.add_zero] at hw2
  have hwkeep : ∀ k, k < w.heap.size → k ≠ a' → w'.heap[k]? = w.heap[k]? := fun k hk hne => hw3.block k hk (by simpa using hne)
  have htk' : List.take (n * sz) ((setRowG cur.toList (o0 + k * sz) (Builtin.zeroCells z.cells (n - k)).toList).drop o0) = setRowG vs (k * sz) (Builtin.zeroCells z.cells (n - k)).toList := by rw [setRowG_drop, setRowG_take, htk]
  have hrow' : ownR w' T sz (G.root o) n (setRowG vs (k * sz) (Builtin.zeroCells z.cells (n - k)).toList) := by
    refine ⟨by rw [setRowG_len, hvl], .inr ⟨a', o0, cap2, _, e4, hw2, hnc, hcm, ?_, by simpa using htk'⟩⟩
    simp only [List.size_toArray, setRowG_len, Array.length_toList]; exact hcs
  have hones : ∀ u ∈ setRowG vs (k * sz) (Builtin.zeroCells z.cells (n - k)).toList, u.oneCell' = true := by
    have key : ∀ (us l : List Value) (i : Nat), (∀ u ∈ us, u.oneCell' = true) → (∀ u ∈ l, u.oneCell' = true) → ∀ u ∈ setRowG l i us, u.oneCell' = true := by
      intro us
      induction us with
      | nil => intro l i _ hl u hu; exact hl u hu
      | cons c us ih =>
        intro l i hc hl u hu
        refine ih (l.set i c) (i + 1) (fun u hu => hc u (by simp [hu])) (fun u hu => ?_) u hu
        rcases List.mem_or_eq_of_mem_set hu with hu | rfl
        · exact hl u hu
        · exact hc _ (by simp)
    exact key _ _ _ hone h5
  obtain ⟨fp, q1, q2, q3⟩ := h6 rfl
  obtain ⟨fp', q4, q5⟩ := OwnVs.setRow Z (Builtin.zeroCells z.cells (n - k)).toList cs vs fp (k * sz) (hZo w) q1
  have hfpB : ∀ k ∈ fp', k ∈ G.B o ∧ k ∉ rowR (G.root o) := fun k hk => q3 k (q5.subset hk)
  have q6 : OwnVs w' (setRowG cs (k * sz) Z) (setRowG vs (k * sz) (Builtin.zeroCells z.cells (n - k)).toList) fp' := OwnVs.keep hw3.size _ _ _ (fun k hk => hwkeep k (hB k (hfpB k hk).1).2 fun e => (hfpB k hk).2 (by rw [hvr, e]; simp)) q4
  have hmem : ∀ k ∈ rowR (G.root o) ++ fp', k ∈ G.B o := fun k hk => by
    rcases List.mem_append.1 hk with hk | hk
    · exact (h4 k hk).1
    · exact (hfpB k hk).1
  have hr2 : Rel w0 _ (s.setO o ⟨.rows sz n (setRowG cs (k * sz) Z), some T, true⟩) a w' := hr.setO (B' := rowR (G.root o) ++ fp') hI (by
    refine ⟨fun k hk => ⟨(hB k (hmem k hk)).1, Nat.lt_of_lt_of_le (hB k (hmem k hk)).2 hw3.size⟩, row_rep hrow' (OwnVs.p _ _ _ q6 (fun k hk => .inr (List.mem_append.2 (.inr hk)))) (fun k hk => .inr (List.mem_append.2 (.inl hk))), fun _ => ⟨row_own hrow' q6, ?_⟩, fun T' hT => ?_⟩
    · exact List.nodup_append.2 ⟨by rw [hvr]; simp, q5.nodup q2, fun k hk k' hk' e => (hfpB k' hk').2 (e ▸ hk)⟩
    · simp only [Option.some.injEq] at hT
      subst hT
      exact ⟨sz, n, _, _, rfl, hrow', OwnVs.p _ _ _ q6 (fun k hk => .inr ⟨List.mem_append.2 (.inr hk), (hfpB k hk).2⟩), fun k hk => ⟨List.mem_append.2 (.inl hk), (h4 k hk).2⟩, hones, fun _ => ⟨fp', q6, q5.nodup q2, fun k hk => ⟨List.mem_append.2 (.inr hk), (hfpB k hk).2⟩⟩⟩) hmem ⟨sz, n, cs, _, rfl, rfl⟩ (by rw [hvr]; exact hw3) h4
  have hrun := slice_run (P := P) (G := G) (W := w) (owf := s.owf) (nx := s.nx) (a' := some ⟨a', o0, none⟩) (lo := some (.i k)) (hi := none) (vl := some (a.eval lo)) (vh := none) (l := (k : Int)) (h' := (n : Int)) hnc hT
    (fun z hz => by injection hz with hz; subst hz; exact ⟨_, rfl, by have := hr.ev lo; rwa [hlo] at this⟩)
    (fun hz => by cases hz) (fun z hz => by cases hz) (fun _ => rfl) rfl rfl (by omega) w
  have hck : ¬ (cap2 + 1 = k) := by omega
  have e6 : (execOp a.eval ⟨some d1, .slice t x (some lo) none none, ty, pos, af, none⟩).run P w = .ok (.value (.slice (some ⟨a', o0 + k * sz, none⟩) (n - k) (cap2 + 1 - k))) w := by
    show ((do pure (.value (← Instr.sliceAt t (a.eval x) (some (a.eval lo)) none none)) : Sem Next)).run P w = _
    rw [hu, e4]
    simp only [Sem.run_bind, hrun, Result.andThen_ok, Sem.run_pure]
    simp [hck, add_addr]
  show Oper.wp P _ a w _ _
  unfold Oper.wp
  rw [e6]
  show wpList P all.toArray _ (_ :: rest) (a.put (some d1) _) w
  unfold wpList
  rw [if_pos (wanted_none rfl _)]
  refine .inl ?_
  unfold Oper.wp
  have hev : (a.put (some d1) (.slice (some ⟨a', o0 + k * sz, none⟩) (n - k) (cap2 + 1 - k))).eval (.tmp d1) = .slice (some ⟨a', o0 + k * sz, none⟩) (n - k) (cap2 + 1 - k) := by
    simp [Act.put, Act.eval, hr.nt, hd]
  have e7 : (execOp (a.put (some d1) (.slice (some ⟨a', o0 + k * sz, none⟩) (n - k) (cap2 + 1 - k))).eval ⟨none, .call ⟨.builtin .clear, #[.tmp d1], #[t]⟩, ty2, pos2, af2, none⟩).run P w = .ok (.value (.tuple #[])) w' := by
    obtain ⟨m, hm⟩ : ∃ m, n - k = m + 1 := ⟨n - k - 1, by omega⟩
    rw [hm] at hev hw1 ⊢
    simp only [execOp, resolve, Deferred.ofValue, invoke, List.map_toArray, List.map_cons, List.map_nil, hev, Sem.run_bind, Sem.run_pure, Result.andThen_ok, pure_bind, builtin]
    simp [Builtin.clear_, und_run hund, hz, hw1, Sem.run_bind, Sem.run_pure, Result.andThen_ok]
  rw [e7]
  exact h Z hZl w0 _ _ w' (hr2.pt (some d1) (by unfold RV; trivial))
theorem fi_mem (s : ByteArray) : ∀ (xs : List ByteArray) (i : Int), 0 ≤ i → (0 ≤ fi s xs i ↔ s ∈ xs)
  | [], i, h => by rw [fi]; simp
  | x :: l, i, h => by
    rw [fi]
    split
    · next e => simp [e, h]
    · next e => rw [fi_mem s l (i + 1) (by omega)]; simp [e]
theorem fi_out {s:ByteArray} {xs:List ByteArray}:fi s xs 0<0 ↔ s ∉ xs:=by
 rw [← fi_mem s xs 0 (Int.le_refl _)];omega
def woL (ns xs:List ByteArray):List ByteArray:=xs.filter (fun y=>decide (fi y ns 0<0))
theorem sL_nil:sL []=0:=rfl
theorem sL_cons (x:ByteArray) (l:List ByteArray):sL (x :: l)=1+x.size+sL l:=by
 rw [show x :: l=[x]++l from rfl,sL_app,sL_one]
theorem woL_sz (ns : List ByteArray) : ∀ xs, sL (woL ns xs) ≤ sL xs
  | [] => by rw [woL, List.filter_nil]; exact Nat.le_refl _
  | x :: l => by
    have ih := woL_sz ns l
    rw [woL] at ih ⊢
    rw [List.filter_cons, sL_cons]
    split
    · rw [sL_cons]; omega
    · omega
theorem woL_len (ns xs:List ByteArray):(woL ns xs).length≤xs.length:=List.length_filter_le ..
theorem woL_nil (xs:List ByteArray):woL [] xs=xs:=by
 rw [woL,List.filter_eq_self];intro a _;rfl
theorem woL_out {ns:List ByteArray} {x:ByteArray} (h:fi x ns 0<0) (xs:List ByteArray):woL ns (xs++[x])=woL ns xs++[x]:=by
 rw [woL,List.filter_append,woL,List.filter_cons,decide_eq_true h,List.filter_nil];rfl
theorem woL_in {ns:List ByteArray} {x:ByteArray} (h:¬ fi x ns 0<0) (xs:List ByteArray):woL ns (xs++[x])=woL ns xs:=by
 rw [woL,List.filter_append,woL,List.filter_cons,decide_eq_false h,List.filter_nil];exact List.append_nil _
theorem mem_woL {ns xs:List ByteArray} {y:ByteArray}:y ∈ woL ns xs ↔ y ∈ xs∧y ∉ ns:=by
 rw [woL,List.mem_filter,decide_eq_true_iff,fi_out]
def bdN (k:Int) (nm ot:ByteArray) (c:Nat):List ByteArray:=if k=6∧c=1 then [nm] else if k=8∧c=2 then [nm] else if k=9∧c=1 then [nm,ot] else []
def bdP (k:Int) (c:Nat):Int:=if k=6∧c=1 then 0 else if k=8∧c=2 then 1 else if k=9∧c=1 then 0 else -1
def frU (ns:List ByteArray) (p:Int) (L:List (List ByteArray)):Nat→List ByteArray
 | 0=>[]
 | k+1=>uniR (frU ns p L k) (if (k:Int)=p then woL ns L[k]! else L[k]!)
def frF (k:Int) (nm ot:ByteArray) (L:List (List ByteArray)):List ByteArray :=
 if k=1 then [nm] else frU (bdN k nm ot L.length) (bdP k L.length) L L.length
mutual
def freeT:Tm→List ByteArray
 | .mk k nm ot _ _ _ args=>frF k nm ot (freeTs args)
def freeTs:List Tm→List (List ByteArray)
 | []=>[]
 | a :: l=>freeT a :: freeTs l
end
theorem freeTs_map:∀ l,freeTs l=l.map freeT
 | []=>rfl
 | a :: l=>by rw [freeTs,freeTs_map l];rfl
theorem freeT_eq (t:Tm):freeT t=frF t.kind t.name t.other (t.args.map freeT):=by
 obtain ⟨k,nm,ot,n,ty,rs,args⟩:=t
 rw [freeT,freeTs_map];rfl
theorem frU_sz (ns : List ByteArray) (p : Int) (L : List (List ByteArray)) : ∀ k, k ≤ L.length → sL (frU ns p L k) ≤ ((L.take k).map sL).sum
  | 0, _ => by rw [frU, sL_nil]; omega
  | k + 1, h => by
    have ih := frU_sz ns p L k (by omega)
    have h2 := uniR_sz (frU ns p L k) (if (k : Int) = p then woL ns L[k]! else L[k]!)
    have h3 : sL (if (k : Int) = p then woL ns L[k]! else L[k]!) ≤ sL L[k]! := by
      split
      · exact woL_sz ..
      · exact Nat.le_refl _
    rw [frU, take_snoc L k (by omega), List.map_append, List.sum_append]
    simp only [List.map_cons, List.map_nil, List.sum_cons, List.sum_nil]
    omega
theorem sum_take (L:List (List ByteArray)) (k:Nat):((L.take k).map sL).sum≤(L.map sL).sum:=by
 have e:(L.map sL).sum=((L.take k).map sL).sum+((L.drop k).map sL).sum:=by rw [← List.sum_append,← List.map_append,List.take_append_drop]
 omega
mutual
theorem free_sz : ∀ t : Tm, sL (freeT t) ≤ szL (tmC t) + 1
  | .mk k nm ot n ty rs xs => by
    have h := free_szs xs
    have h2 := frU_sz (bdN k nm ot (freeTs xs).length) (bdP k (freeTs xs).length) (freeTs xs) _ (Nat.le_refl _)
    rw [List.take_length] at h2
    rw [freeT, szL_tm, frF]
    simp only [mk_name, mk_other, mk_ty, mk_res, mk_args]
    split
    · rw [sL_one]; omega
    · omega
theorem free_szs : ∀ xs : List Tm, ((freeTs xs).map sL).sum ≤ xs.length + szL (tmsC xs)
  | [] => by rw [freeTs]; simp
  | x :: xs => by
    have h1 := free_szs xs
    have h3 := free_sz x
    rw [freeTs, tmsC, szL_append, List.length_cons, List.map_cons, List.sum_cons]
    omega
end
def fN (ns:List ByteArray):List ByteArray→Int→Int
 | [],_ => -1
 | x :: xs,i=>if 0≤fi x ns 0 then i else fN ns xs (i+1)
theorem fN_step (ns xs:List ByteArray) (k:Nat) (h:k<xs.length):fN ns (xs.drop k) k=if 0≤fi xs[k]! ns 0 then (k:Int) else fN ns (xs.drop (k+1)) ((k+1:Nat):Int):=by
 rw [List.drop_eq_getElem_cons h,getElem!_pos xs k h];rfl
theorem fN_end (ns xs:List ByteArray) (k:Nat) (h:xs.length≤k) (i:Int):fN ns (xs.drop k) i = -1:=by rw [List.drop_of_length_le h];rfl
theorem woL_cons_in {ns:List ByteArray} {x:ByteArray} (h:0≤fi x ns 0) (xs:List ByteArray):woL ns (x :: xs)=woL ns xs:=by
 rw [woL,List.filter_cons,decide_eq_false (by omega)];rfl
theorem woL_cons_out {ns:List ByteArray} {x:ByteArray} (h:¬ 0≤fi x ns 0) (xs:List ByteArray):woL ns (x :: xs)=x :: woL ns xs:=by
 rw [woL,List.filter_cons,decide_eq_true (by omega)];rfl
theorem fN_cases (ns : List ByteArray) : ∀ (xs : List ByteArray) (i : Nat), (fN ns xs i = -1 ∧ woL ns xs = xs) ∨ ∃ k, k < xs.length ∧ fN ns xs i = ((i + k : Nat) : Int) ∧ woL ns (xs.take (k + 1)) = xs.take k
  | [], i => .inl ⟨rfl, rfl⟩
  | x :: xs, i => by
    rw [fN]
    by_cases h : 0 ≤ fi x ns 0
    · rw [if_pos h]
      exact .inr ⟨0, by simp, by simp, by rw [List.take_succ_cons, woL_cons_in h]; rfl⟩
    · rw [if_neg h]
      have e : (i : Int) + 1 = ((i + 1 : Nat) : Int) := by omega
      rw [e]
      rcases fN_cases ns xs (i + 1) with ⟨h1, h2⟩ | ⟨k, h1, h2, h3⟩
      · exact .inl ⟨h1, by rw [woL_cons_out h, h2]⟩
      · exact .inr ⟨k + 1, by simpa using h1, by rw [h2]; congr 1; omega, by rw [List.take_succ_cons, woL_cons_out h, h3]; rfl⟩
def thinN (ns xs ys:List ByteArray) (j:Nat):Prop:=ys.length=xs.length∧ys.take (woL ns (xs.take j)).length=woL ns (xs.take j)∧ys.drop j=xs.drop j∧(woL ns (xs.take j)).length<j
theorem drop_atN {xs ys:List ByteArray} {j:Nat} (h1:ys.length=xs.length) (h:ys.drop j=xs.drop j) (hj:j<xs.length):ys[j]! = xs[j]! ∧ ys.drop (j+1)=xs.drop (j+1):=by
 rw [List.drop_eq_getElem_cons hj,List.drop_eq_getElem_cons (by omega)] at h
 injection h with h1 h2
 exact ⟨by rw [getElem!_pos ys j (by omega),getElem!_pos xs j hj];exact h1,h2⟩
theorem thinN_skip {ns xs ys:List ByteArray} {j:Nat} (h:thinN ns xs ys j) (hj:j<xs.length) (hc:0≤fi xs[j]! ns 0):woL ns (xs.take (j+1))=woL ns (xs.take j)∧thinN ns xs ys (j+1):=by
 obtain ⟨h1,h2,h3,h4⟩:=h
 have e:woL ns (xs.take (j+1))=woL ns (xs.take j):=by rw [take_snoc xs j hj];exact woL_in (by omega) _
 refine ⟨e,h1,by rw [e];exact h2,(drop_atN h1 h3 hj).2,by rw [e];omega⟩
theorem thinN_keep {ns xs ys:List ByteArray} {j:Nat} (h:thinN ns xs ys j) (hj:j<xs.length) (hc:¬ 0≤fi xs[j]! ns 0):(woL ns (xs.take (j+1))).length=(woL ns (xs.take j)).length+1∧thinN ns xs (ys.set (woL ns (xs.take j)).length xs[j]!) (j+1):=by
 obtain ⟨h1,h2,h3,h4⟩:=h
 have e:woL ns (xs.take (j+1))=woL ns (xs.take j)++[xs[j]!]:=by rw [take_snoc xs j hj];exact woL_out (by omega) _
 have e2:(woL ns (xs.take (j+1))).length=(woL ns (xs.take j)).length+1:=by rw [e,List.length_append];rfl
 refine ⟨e2,by rw [List.length_set,h1], ?_, ?_,by rw [e2];omega⟩
 ·rw [e2,e,List.take_set,List.take_add_one,h2,List.getElem?_eq_getElem (show _<ys.length by omega),Option.toList]
  rw [List.set_append_right _ _ (by omega)]
  simp
 ·rw [List.drop_set,if_pos (by omega)]
  exact (drop_atN h1 h3 hj).2
theorem thinN_end {ns xs ys : List ByteArray} {Z : List D} (h : thinN ns xs ys xs.length) : (setRowG (ys.map D.str) (woL ns xs).length Z).take (woL ns xs).length = (woL ns xs).map D.str := by
  obtain ⟨h1, h2, h3, h4⟩ := h
  rw [List.take_length] at h2 h4
  have hp : ∀ (us l : List D) (i : Nat), (setRowG l i us).take i = l.take i := by
    intro us
    induction us with
    | nil => intro l i; rfl
    | cons u us ih =>
      intro l i
      have e : ∀ l' : List D, l'.take i = (l'.take (i + 1)).take i := fun l' => by rw [List.take_take, Nat.min_eq_left (by omega)]
      rw [setRowG, e (setRowG _ _ _), ih (l.set i u) (i + 1), ← e, List.take_set, List.set_eq_of_length_le (by rw [List.length_take]; omega)]
  rw [hp, ← List.map_take, h2]
theorem thinN_start {ns xs:List ByteArray} {k:Nat} (h:k<xs.length) (he:woL ns (xs.take (k+1))=xs.take k):thinN ns xs xs (k+1)∧(woL ns (xs.take (k+1))).length=k:=by
 have e:(woL ns (xs.take (k+1))).length=k:=by rw [he,List.length_take];omega
 exact ⟨⟨rfl,by rw [e,he],rfl,by omega⟩,e⟩
theorem mem_add1 {out : List ByteArray} {x y : ByteArray} : y ∈ add1 out x ↔ y ∈ out ∨ y = x := by
  rw [add1]
  split
  · next h => rw [fi_mem x out 0 (Int.le_refl _)] at h; constructor
              · exact .inl
              · rintro (h2 | rfl)
                · exact h2
                · exact h
  · simp
theorem mem_uni {acc cs : List ByteArray} {y : ByteArray} : ∀ k, k ≤ cs.length → (y ∈ uni acc cs k ↔ y ∈ acc ∨ y ∈ cs.take k)
  | 0, _ => by rw [uni]; simp
  | k + 1, h => by
    rw [uni, mem_add1, mem_uni k (by omega), take_snoc cs k (by omega), List.mem_append, List.mem_singleton, or_assoc]
theorem mem_uniR {a b:List ByteArray} {y:ByteArray}:y ∈ uniR a b ↔ y ∈ a∨y ∈ b:=by
 rw [uniR,mem_uni _ (Nat.le_refl _),List.take_length];simp
theorem mem_frU {ns : List ByteArray} {p : Int} {L : List (List ByteArray)} {y : ByteArray} {i : Nat} : ∀ k, i < k → y ∈ (if (i : Int) = p then woL ns L[i]! else L[i]!) → y ∈ frU ns p L k
  | 0, h, _ => by omega
  | k + 1, h, hy => by
    rw [frU, mem_uniR]
    by_cases e : i = k
    · subst e; exact .inr hy
    · exact .inl (mem_frU k (by omega) hy)
theorem free_part {t:Tm} (hk:t.kind≠1) {i:Nat} (hi:i<t.args.length) {y:ByteArray} (hy:y ∈ freeT t.args[i]!):y ∈ freeT t∨((i:Int)=bdP t.kind t.args.length∧y ∈ bdN t.kind t.name t.other t.args.length):=by
 by_cases h:(i:Int)=bdP t.kind t.args.length∧y ∈ bdN t.kind t.name t.other t.args.length
 ·exact .inr h
 ·left
  rw [freeT_eq,frF,if_neg hk]
  refine mem_frU (i:=i) _ (by rw [List.length_map];exact hi) ?_
  rw [List.length_map,map_bang freeT hi]
  split
  ·next e=>exact mem_woL.mpr ⟨hy,fun hn=>h ⟨e,hn⟩⟩
  ·exact hy
def Cov (nms:List ByteArray) (e:Tm):Prop:=∀ y ∈ freeT e,y ∈ nms
theorem Cov.part {nms:List ByteArray} {e:Tm} (h:Cov nms e) (hk:e.kind≠1) {i:Nat} (hi:i<e.args.length) (hp:(i:Int)≠bdP e.kind e.args.length):Cov nms e.args[i]! := fun y hy=>by
 rcases free_part hk hi hy with h1 | h1
 ·exact h y h1
 ·exact absurd h1.1 hp
theorem Cov.bind {nms:List ByteArray} {e:Tm} (h:Cov nms e) (hk:e.kind≠1) {i:Nat} (hi:i<e.args.length):Cov (nms++bdN e.kind e.name e.other e.args.length) e.args[i]! := fun y hy=>by
 rcases free_part hk hi hy with h1 | h1
 ·exact List.mem_append_left _ (h y h1)
 ·exact List.mem_append_right _ h1.2
theorem Cov.var {nms:List ByteArray} {e:Tm} (h:Cov nms e) (hk:e.kind=1):e.name ∈ nms:=by
 refine h _ ?_
 rw [freeT_eq,frF,if_pos hk];exact List.mem_singleton.mpr rfl
theorem Cov.nil {e:Tm} (h:freeT e=[]):Cov [] e:=fun y hy=>by rw [h] at hy;exact hy
theorem con_fvP (ns:List ByteArray) (s:ByteArray) (hl:ns.length≤1000000000):Con Tryz.prog 213 [.one (.str s),.rf [.one (strsD ns)]] [.one (.bool (decide (0≤fi s ns 0)))]:=by
 have hc:=con_Contains ns s hl
 simp only [strsD] at hc ⊢
 refine con_run Tryz.func213 rfl rfl (by simp [Tryz.ntmps213]) ?_
 simp only [push_cast,↓reduceIte,Nat.reduceLT,Nat.reduceEqDiff,reduceCtorEq,Tryz.ntmps213]
 refine sw_call hc rfl (aAs_ok ?_) ?_ (sw_run 200 _ _ _ ?_)
 ·simp only [push_cast,aAs,aA,aD,↓reduceIte,Nat.reduceEqDiff]
 ·simp only [okR]
 simp only [push_cast,↓reduceIte,Nat.reduceLT,reduceCtorEq,Tryz.results213]
theorem con_WithoutS (xs:List ByteArray) (s:ByteArray) (hl:xs.length≤100000000):Con Tryz.prog 218 [.one (strsD xs),.one (.str s)] [.one (strsD (woL [s] xs))]:=by
 refine con_run Tryz.func218 rfl rfl (by simp [Tryz.ntmps218]) ?_
 simp only [push_cast,↓reduceIte,Nat.reduceLT,Tryz.ntmps218]
 refine sw_loop (fun k:Nat=>k≤xs.length) (fun k=>⟨28,[(6,.i k),(0,.br (.rows 1 xs.length (xs.map D.str))),(1,.s s),(5,.sl 0)],[],[(0,some ⟨.rows 1 (woL [s] (xs.take k)).length ((woL [s] (xs.take k)).map D.str),some 9,true⟩)],1,[]⟩) (fun k=>xs.length-k) 0 id (Nat.zero_le _) ?_ ?_
 ·simp only [push_cast,Sub,subT,subB,subO,subP,inj,AV.ren,AV.lt,↓reduceIte,Nat.reduceLT,Nat.reduceEqDiff,reduceCtorEq,show woL [s] []=[] from rfl,List.length_nil,List.map_nil]
 ·rintro k hk
  refine sw_run 200 _ _ _ ?_
  by_cases hlt:k<xs.length
  ·have hi:(k:Int)<(xs.length:Int):=by omega
   have hR:=strs_row xs k hlt
   have hln:=woL_len [s] (xs.take k)
   rw [List.length_take] at hln
   have hst:=take_snoc xs k hlt
   by_cases he:xs[k]! = s
   ·have hw:woL [s] (xs.take (k+1))=woL [s] (xs.take k):=by
     rw [hst];exact woL_in (by rw [fi_out,List.mem_singleton];exact fun h=>h he) _
    simp only [push_cast,↓reduceIte,Nat.reduceLT,Nat.reduceEqDiff,reduceCtorEq,hi,hR,he]
    refine ⟨by unfold inI;omega,k+1,id,by omega,by omega, ?_⟩
    simp only [push_cast,Sub,subT,subB,subO,subP,inj,AV.ren,AV.lt,↓reduceIte,Nat.reduceLT,Nat.reduceEqDiff,reduceCtorEq,cast1,hw]
   ·have hw:woL [s] (xs.take (k+1))=woL [s] (xs.take k)++[xs[k]!]:=by
     rw [hst];exact woL_out (by rw [fi_out,List.mem_singleton];exact he) _
    simp only [push_cast,↓reduceIte,Nat.reduceLT,Nat.reduceAdd,Nat.reduceLeDiff,Nat.reduceEqDiff,reduceCtorEq,hi,hR,he]
    refine ⟨⟨fun _ d hd=>by rw [hd];rfl,fun o ho=>by omega,by unfold maxLen;omega,by omega⟩,by unfold inI;omega,k+1,rnL [(0,2)],by omega,by omega, ?_⟩
    simp only [push_cast,Sub,subT,subB,subO,subP,inj,AV.ren,AV.lt,↓reduceIte,Nat.reduceLT,Nat.reduceEqDiff,reduceCtorEq,rnL,cast1,hw,List.length_append,List.map_append,List.map_cons,List.map_nil]
  ·have hi:¬ (k:Int)<(xs.length:Int):=by omega
   obtain rfl:k=xs.length:=by omega
   simp only [push_cast,↓reduceIte,Nat.reduceLT,Nat.reduceEqDiff,reduceCtorEq,hi]
   refine sw_run 200 _ _ _ ?_
   simp only [push_cast,↓reduceIte,Nat.reduceLT,Nat.reduceEqDiff,reduceCtorEq,List.take_length,Tryz.results218]
theorem con_bdI (t:Tm) (hz:szL (tmC t)≤1000000000):Con Tryz.prog 211 [.ag (tmC t)] [.one (strsD (bdN t.kind t.name t.other t.args.length)),.one (.int (bdP t.kind t.args.length))]:=by
 obtain ⟨k,hk⟩:∃ k,k=t.kind:=⟨_,rfl⟩
 have c1:((1:Nat):Int)=1:=rfl
 have c2:((2:Nat):Int)=2:=rfl
 refine con_run Tryz.func211 rfl rfl (by simp [Tryz.ntmps211]) ?_
 simp only [push_cast,↓reduceIte,Nat.reduceLT,Nat.reduceAdd,Nat.reduceLeDiff,Nat.reduceEqDiff,reduceCtorEq,Int.reduceNeg,tmC_eq,bdN,bdP,← hk,Tryz.ntmps211,Tryz.results211]
 by_cases h6:k=6
 ·by_cases hl:t.args.length=1
  ·simp only [push_cast,↓reduceIte,h6,hl,c1]
  ·have hl':¬ (t.args.length:Int)=1:=by omega
   simp only [push_cast,↓reduceIte,Int.reduceEq,Int.reduceNeg,h6,hl,hl']
 by_cases h8:k=8
 ·by_cases hl:t.args.length=2
  ·simp only [push_cast,↓reduceIte,Nat.reduceEqDiff,Int.reduceEq,h8,hl,c2]
  ·have hl':¬ (t.args.length:Int)=2:=by omega
   simp only [push_cast,↓reduceIte,Int.reduceEq,Int.reduceNeg,h8,hl,hl']
 by_cases h9:k=9
 ·by_cases hl:t.args.length=1
  ·simp only [push_cast,↓reduceIte,Nat.reduceAdd,Nat.reduceEqDiff,Int.reduceEq,h9,hl,c1]
  ·have hl':¬ (t.args.length:Int)=1:=by omega
   simp only [push_cast,↓reduceIte,Int.reduceEq,Int.reduceNeg,h9,hl,hl']
 simp only [push_cast,↓reduceIte,Int.reduceNeg,h6,h8,h9]
theorem con_bdS (t:Tm) (hz:szL (tmC t)≤1000000000):Con Tryz.prog 217 [.ag (tmC t)] [.one (strsD (bdN t.kind t.name t.other t.args.length)),.one (.int (bdP t.kind t.args.length))]:=by
 obtain ⟨k,hk⟩:∃ k,k=t.kind:=⟨_,rfl⟩
 have c1:((1:Nat):Int)=1:=rfl
 have c2:((2:Nat):Int)=2:=rfl
 refine con_run Tryz.func217 rfl rfl (by simp [Tryz.ntmps217]) ?_
 simp only [push_cast,↓reduceIte,Nat.reduceLT,Nat.reduceAdd,Nat.reduceLeDiff,Nat.reduceEqDiff,reduceCtorEq,Int.reduceNeg,tmC_eq,bdN,bdP,← hk,Tryz.ntmps217,Tryz.results217]
 by_cases h6:k=6
 ·by_cases hl:t.args.length=1
  ·simp only [push_cast,↓reduceIte,h6,hl,c1]
  ·have hl':¬ (t.args.length:Int)=1:=by omega
   simp only [push_cast,↓reduceIte,Int.reduceEq,Int.reduceNeg,h6,hl,hl']
 by_cases h8:k=8
 ·by_cases hl:t.args.length=2
  ·simp only [push_cast,↓reduceIte,Nat.reduceEqDiff,Int.reduceEq,h8,hl,c2]
  ·have hl':¬ (t.args.length:Int)=2:=by omega
   simp only [push_cast,↓reduceIte,Int.reduceEq,Int.reduceNeg,h8,hl,hl']
 by_cases h9:k=9
 ·by_cases hl:t.args.length=1
  ·simp only [push_cast,↓reduceIte,Nat.reduceAdd,Nat.reduceEqDiff,Int.reduceEq,h9,hl,c1]
  ·have hl':¬ (t.args.length:Int)=1:=by omega
   simp only [push_cast,↓reduceIte,Int.reduceEq,Int.reduceNeg,h9,hl,hl']
 simp only [push_cast,↓reduceIte,Int.reduceNeg,h6,h8,h9]
theorem con_IdxNm (ns xs:List ByteArray) (hl:xs.length≤1000000000) (hn:ns.length≤1000000000):Con Tryz.prog 264 [.one (strsD xs),.fn 213 [.rf [.one (strsD ns)]]] [.one (.int (fN ns xs 0))]:=by
 refine con_run Tryz.func264 rfl rfl (by simp [Tryz.ntmps264]) ?_
 simp only [push_cast,↓reduceIte,Nat.reduceLT,reduceCtorEq,Int.reduceNeg,Tryz.ntmps264]
 refine sw_loop (fun k:Nat=>k≤xs.length∧fN ns (xs.drop k) k=fN ns xs 0) (fun k=>⟨19,[(8,.i k),(7,.i xs.length),(0,.br (.rows 1 xs.length (xs.map D.str))),(1,.fn 213 [.rp [.br (.rows 1 ns.length (ns.map D.str))]])],[],[],0,[]⟩) (fun k=>xs.length-k) 0 id ⟨Nat.zero_le _,rfl⟩ ?_ ?_
 ·simp only [push_cast,Sub,subT,subB,subO,subP,inj,AV.ren,AV.rens,AV.lt,AV.lts,↓reduceIte,Nat.reduceEqDiff,reduceCtorEq]
 ·rintro k ⟨hk,hf⟩
  refine sw_run 200 _ _ _ ?_
  by_cases hlt:k<xs.length
  ·have hi:(k:Int)<(xs.length:Int):=by omega
   have hR:=strs_row xs k hlt
   have hpc:=con_fvP ns xs[k]! hn
   rw [fN_step ns xs k hlt] at hf
   simp only [push_cast,↓reduceIte,Nat.reduceLT,Nat.reduceEqDiff,reduceCtorEq,Int.reduceNeg,hi,hR]
   refine sw_call (hpc) rfl (aAs_ok ?_) ?_ (sw_run 200 _ _ _ ?_)
   ·simp only [push_cast,aAs,aA,aD,↓reduceIte]
   ·simp only [okR]
   by_cases hc:0≤fi xs[k]! ns 0
   ·rw [if_pos hc] at hf
    simp only [push_cast,↓reduceIte,Nat.reduceLT,Nat.reduceEqDiff,reduceCtorEq,hc,Tryz.results264]
    exact hf
   ·rw [if_neg hc] at hf
    simp only [push_cast,↓reduceIte,Nat.reduceLT,Nat.reduceEqDiff,hc]
    refine ⟨by unfold inI;omega,k+1,id,⟨by omega,hf⟩,by omega, ?_⟩
    simp only [push_cast,Sub,subT,subB,subO,subP,inj,AV.ren,AV.rens,AV.lt,AV.lts,↓reduceIte,Nat.reduceEqDiff,reduceCtorEq,cast1]
  ·have hi:¬ (k:Int)<(xs.length:Int):=by omega
   rw [fN_end ns xs k (by omega)] at hf
   simp only [push_cast,↓reduceIte,Nat.reduceLT,Nat.reduceEqDiff,Int.reduceNeg,hi]
   refine sw_run 200 _ _ _ ?_
   simp only [push_cast,↓reduceIte,Nat.reduceLT,reduceCtorEq,Int.reduceNeg,← hf,Tryz.results264]
theorem str_zero (w:World):(zeroValue 9).run Tryz.prog w = .ok (.string ⟨#[]⟩) w:=by
 obtain ⟨i,hi,hz⟩:∃ i,Tryz.prog.info? 9=some i∧i.zero=some (.string ⟨#[]⟩):=by
  have:=str_info
  cases hx:Tryz.prog.info? 9 with
  | none=>rw [hx] at this;cases this
  | some i=>rw [hx] at this;simp only [Option.map_some,Option.some.injEq,Prod.mk.injEq] at this;exact ⟨i,rfl,this.1⟩
 simp [zeroValue,typeInfo,program,Sem.run_bind,Sem.run,hi,hz,Sem.run_pure,Result.andThen_ok]
theorem con_DelNm (ns xs:List ByteArray) (hl:xs.length≤100000000) (hn:ns.length≤100000000):ConP Tryz.prog 212 [.m (.a 9 (strsD xs)),.b (.fn 213 [.rf [.one (strsD ns)]])] [] [.one (.a 9 (strsD (woL ns xs)))]:=by
 have hI:=con_IdxNm ns xs (by omega) (by omega)
 have hdl:=woL_len ns xs
 refine con_runP Tryz.func212 rfl rfl (by simp [Tryz.ntmps212]) rfl ?_
 simp only [push_cast,s0P,mkPs,mkPA,mkC,↓reduceIte,Nat.reduceLT,Nat.reduceEqDiff,reduceCtorEq,Int.reduceNeg,Tryz.ntmps212]
 simp only [strsD] at hI
 refine sw_call (hI) rfl (aAs_ok ?_) ?_ (sw_run 200 _ _ _ ?_)
 ·simp only [push_cast,aAs,aA,aD,↓reduceIte,Nat.reduceEqDiff]
 ·simp only [okR]
 rcases fN_cases ns xs 0 with ⟨h1,h2⟩ | ⟨k0,h1,h2,h3⟩
 ·rw [Int.natCast_zero] at h1
  have hm:((-1:Int) = -1):=rfl
  simp only [push_cast,fQP,xRetP,rRs,rOs,rC,eRs,eOs,eC,↓reduceIte,Nat.reduceLT,reduceCtorEq,Int.reduceNeg,h1,h2,Tryz.results212]
 rw [Int.natCast_zero,Nat.zero_add] at h2
 obtain ⟨hth,hk0⟩:=thinN_start h1 h3
 have hne:¬ ((k0:Int) = -1):=by omega
 have hin0:inI ((k0:Int)+1):=by unfold inI;omega
 simp only [push_cast,↓reduceIte,Nat.reduceLT,Nat.reduceEqDiff,Int.reduceNeg,h2,hne,hin0]
 refine sw_loop (fun p:Nat × List ByteArray=>p.1≤xs.length∧thinN ns xs p.2 p.1) (fun p=>⟨42,[(6,.i p.1),(5,.i (woL ns (xs.take p.1)).length),(0,.sl 0),(1,.fn 213 [.rp [.br (.rows 1 ns.length (ns.map D.str))]])],[],[(0,some ⟨.rows 1 xs.length (p.2.map D.str),some 9,true⟩)],1,[]⟩) (fun p=>xs.length-p.1) (k0+1,xs) id ⟨by simp only;omega,hth⟩ ?_ ?_
 ·simp only [push_cast,Sub,subT,subB,subO,subP,inj,AV.ren,AV.rens,AV.lt,AV.lts,↓reduceIte,Nat.reduceLT,Nat.reduceEqDiff,reduceCtorEq,hk0,cast1]
 ·rintro ⟨j,ys⟩ ⟨hj,ht⟩
  simp only at hj ht
  refine sw_run 200 _ _ _ ?_
  have hyl:=ht.1
  have hkj:=ht.2.2.2
  by_cases hlt:j<xs.length
  ·have hi:(j:Int)<(xs.length:Int):=by omega
   have hR:=strs_row ys j (by omega)
   rw [(drop_atN ht.1 ht.2.2.1 hlt).1] at hR
   have hpc:=con_fvP ns xs[j]! (by omega)
   simp only [strsD] at hpc
   simp only [push_cast,↓reduceIte,Nat.reduceLT,Nat.reduceEqDiff,reduceCtorEq,hi,hR]
   refine sw_call (hpc) rfl (aAs_ok ?_) ?_ (sw_run 200 _ _ _ ?_)
   ·simp only [push_cast,aAs,aA,aD,↓reduceIte]
   ·simp only [okR]
   by_cases hc:0≤fi xs[j]! ns 0
   ·obtain ⟨e1,e2⟩:=thinN_skip ht hlt hc
    simp only [push_cast,↓reduceIte,Nat.reduceLT,Nat.reduceEqDiff,hc]
    refine ⟨by unfold inI;omega,(j+1,ys),id,⟨by simp only;omega,e2⟩,by simp only;omega, ?_⟩
    simp only [push_cast,Sub,subT,subB,subO,subP,inj,AV.ren,AV.rens,AV.lt,AV.lts,↓reduceIte,Nat.reduceLT,Nat.reduceEqDiff,reduceCtorEq,cast1,e1]
   ·obtain ⟨e1,e2⟩:=thinN_keep ht hlt hc
    have hs:(ys.map D.str).set (woL ns (xs.take j)).length (.str xs[j]!)=(ys.set (woL ns (xs.take j)).length xs[j]!).map D.str:=by rw [List.map_set]
    have hb:(((woL ns (xs.take j)).length:Nat):Int)<(xs.length:Int):=by omega
    have hin:inI ((((woL ns (xs.take j)).length:Nat):Int)+1):=by unfold inI;omega
    simp only [push_cast,↓reduceIte,Nat.reduceLT,Nat.reduceEqDiff,reduceCtorEq,hc,hb,hin]
    refine ⟨by unfold inI;omega,(j+1,ys.set (woL ns (xs.take j)).length xs[j]!),id,⟨by simp only;omega,e2⟩,by simp only;omega, ?_⟩
    simp only [push_cast,Sub,subT,subB,subO,subP,inj,AV.ren,AV.rens,AV.lt,AV.lts,↓reduceIte,Nat.reduceLT,Nat.reduceEqDiff,reduceCtorEq,cast1,e1,hs]
  ·have hi:¬ (j:Int)<(xs.length:Int):=by omega
   obtain rfl:j=xs.length:=by omega
   have hfull:xs.take xs.length=xs:=List.take_length
   rw [hfull] at hkj
   have hmx:(((woL ns xs).length:Nat):Int)≤(xs.length:Int):=by omega
   simp only [push_cast,↓reduceIte,Nat.reduceLT,Nat.reduceEqDiff,reduceCtorEq,hi,hfull]
   refine sw_run 200 _ _ _ ?_
   simp only [push_cast,↓reduceIte,Nat.reduceLT,Nat.reduceEqDiff,reduceCtorEq]
   refine sw_clear2 0 (woL ns xs).length rfl rfl (by kernel_rfl) rfl hkj (by show (38:Nat)<42;decide) str_zero rfl (by decide) (by
    intro u hu
    simp only [Value.cells,List.mem_toArray,List.mem_cons,List.not_mem_nil,or_false] at hu
    exact .inl ⟨_,hu⟩) (fun Z hZ=>sw_run 200 _ _ _ ?_)
   have hE:=thinN_end (Z:=Z) ht
   simp only [push_cast,↓reduceIte,Nat.reduceLT,Nat.reduceEqDiff,reduceCtorEq]
   refine sw_cutR 0 rfl rfl (by kernel_rfl) ?_ (sw_run 200 _ _ _ ?_)
   ·simp only [push_cast,↓reduceIte,hmx]
   simp only [push_cast,fQP,xRetP,rRs,rOs,rC,eRs,eOs,eC,↓reduceIte,Nat.reduceLT,Nat.reduceAdd,reduceCtorEq,cutD,Nat.sub_zero,hE,Tryz.results212]
end Go.Proofs.YtaidalilfmjfgaaGreat
