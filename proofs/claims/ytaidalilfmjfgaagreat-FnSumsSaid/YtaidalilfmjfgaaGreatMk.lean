import Derived.Test.YtaidalilfmjfgaaGreatTmC
import Derived.Test.YtaidalilfmjfgaaGreatBy
namespace Go.Proofs.YtaidalilfmjfgaaGreat
open Go.RowKit
set_option linter.unusedVariables false
set_option linter.unusedSimpArgs false
set_option maxRecDepth 20000
theorem tyk (k:Int) (xs:List Ty):(Ty.mk k xs).kind=k:=rfl
theorem tya (k:Int) (xs:List Ty):(Ty.mk k xs).args=xs:=rfl
def e0:ByteArray:=⟨#[]⟩
def ty0:Ty:=.mk 0 []
def tInt (n:Int):Tm:=.mk 2 e0 e0 n ty0 ty0 []
def tVar (s:ByteArray):Tm:=.mk 1 s e0 0 ty0 ty0 []
def tNode (k:Int) (xs:List Tm):Tm:=.mk k e0 e0 0 ty0 ty0 xs
def tOp (s:ByteArray) (xs:List Tm):Tm:=.mk 4 s e0 0 ty0 ty0 xs
def tLam (s:ByteArray) (t:Ty) (e:Tm):Tm:=.mk 6 s e0 0 t ty0 [e]
def t0:Tm:=.mk 0 e0 e0 0 ty0 ty0 []
theorem sz_tInt (n:Int):szL (tmC (tInt n))=0:=rfl
theorem sz_ty0:szL (tyC ty0)=0:=rfl
theorem sz_tVar (s:ByteArray):szL (tmC (tVar s))=s.size:=by rw [szL_tm];simp only [tVar,mk_name,mk_other,mk_ty,mk_res,mk_args,sz_ty0,show e0.size=0 from rfl,tmsC,szL,List.length_nil];omega
theorem sz_e0:e0.size=0:=rfl
theorem sz_tOp (s:ByteArray) (xs:List Tm):szL (tmC (tOp s xs))=s.size+(xs.length+szL (tmsC xs)):=by
 rw [szL_tm];simp only [tOp,mk_name,mk_other,mk_ty,mk_res,mk_args,sz_ty0,sz_e0];omega
theorem sz_ms1 (a:Tm):szL (tmsC [a])=szL (tmC a):=by rw [tmsC,tmsC,List.append_nil]
theorem sz_ms2 (a b:Tm):szL (tmsC [a,b])=szL (tmC a)+szL (tmC b):=by rw [tmsC,szL_append,sz_ms1]
theorem con_tmInt (n:Int):Con Tryz.prog 109 [.one (.int n)] [.ag (tmC (tInt n))]:=by
 refine con_run Tryz.func109 rfl rfl (by simp [Tryz.ntmps109]) ?_
 exact byP (fc tInt.eq_1 (fc ty0.eq_1 (fc e0.eq_1 (fc mk_kind (fc mk_name (fc mk_other (fc mk_n (fc mk_ty (fc mk_res (fc mk_args (fc tyk (fc tya (fc tysC.eq_1 (fc tmsC.eq_1 (fc Tryz.ntmps109 Tryz.results109))))))))))))))) True.intro
theorem con_l5Int (n:Int):Con Tryz.prog 115 [.one (.int n)] [.ag (tmC (tInt n))]:=by
 refine con_run Tryz.func115 rfl rfl (by simp [Tryz.ntmps115]) ?_
 exact byP (fc tInt.eq_1 (fc ty0.eq_1 (fc e0.eq_1 (fc mk_kind (fc mk_name (fc mk_other (fc mk_n (fc mk_ty (fc mk_res (fc mk_args (fc tyk (fc tya (fc tysC.eq_1 (fc tmsC.eq_1 (fc Tryz.ntmps115 Tryz.results115))))))))))))))) True.intro
theorem con_tmVar (s:ByteArray):Con Tryz.prog 110 [.one (.str s)] [.ag (tmC (tVar s))]:=by
 refine con_run Tryz.func110 rfl rfl (by simp [Tryz.ntmps110]) ?_
 exact byP (fc tVar.eq_1 (fc ty0.eq_1 (fc e0.eq_1 (fc mk_kind (fc mk_name (fc mk_other (fc mk_n (fc mk_ty (fc mk_res (fc mk_args (fc tyk (fc tya (fc tysC.eq_1 (fc tmsC.eq_1 (fc Tryz.ntmps110 Tryz.results110))))))))))))))) True.intro
theorem con_l5Var (s:ByteArray):Con Tryz.prog 116 [.one (.str s)] [.ag (tmC (tVar s))]:=by
 refine con_run Tryz.func116 rfl rfl (by simp [Tryz.ntmps116]) ?_
 exact byP (fc tVar.eq_1 (fc ty0.eq_1 (fc e0.eq_1 (fc mk_kind (fc mk_name (fc mk_other (fc mk_n (fc mk_ty (fc mk_res (fc mk_args (fc tyk (fc tya (fc tysC.eq_1 (fc tmsC.eq_1 (fc Tryz.ntmps116 Tryz.results116))))))))))))))) True.intro
theorem con_l3Int:Con Tryz.prog 201 [] [.ag (tyC (.mk 1 []))]:=by
 refine con_run Tryz.func201 rfl rfl (by simp [Tryz.ntmps201]) ?_
 exact byP (fc tyk (fc tya (fc tysC.eq_1 (fc Tryz.ntmps201 Tryz.results201)))) True.intro
theorem con_tmOp (s:ByteArray) (n:Nat) (cs:List D):ConM Tryz.prog 111 [.b (.one (.str s)),.m (.rows 9 n cs)] [.ag [.int 4,.str s,.str e0,.int 0,.int 0,.rows 2 0 [],.int 0,.rows 2 0 [],.rows 9 n cs]]:=by
 refine con_runM Tryz.func111 rfl rfl (by simp [Tryz.ntmps111]) ?_
 exact byP (fc e0.eq_1 (fc Tryz.ntmps111 Tryz.results111)) True.intro
theorem con_l5Node (kd:Int) (xs:List Tm) (hz:xs.length+szL (tmsC xs)≤1000000000):Con Tryz.prog 188 [.one (.int kd),.one (.rows 9 xs.length (tmsC xs))] [.ag (tmC (tNode kd xs))]:=by
 refine con_run Tryz.func188 rfl rfl (by simp [Tryz.ntmps188]) ?_
 refine byP Tryz.ntmps188 ?_
 refine sw_ownB 1 8 29 rfl rfl ?_
 refine sw_loop (fun k:Nat=>k≤xs.length) (fun k=>⟨26,[(6,.i k),(1,.br (.rows 9 xs.length (tmsC xs))),(4,.bx 0 0),(5,.bx 1 0)],[(0,[.i 0,.s ⟨#[]⟩,.s ⟨#[]⟩,.i 0,.i 0,.nl 2,.i 0,.nl 2,.nl 9]),(1,[.i kd,.s ⟨#[]⟩,.s ⟨#[]⟩,.i 0,.i 0,.nl 2,.i 0,.nl 2,.sl 2])],[(2,some ⟨.rows 9 k (tmsC (xs.take k)),some 29,true⟩)],3,[]⟩) (fun k=>xs.length-k) 0 id (Nat.zero_le _) ?_ ?_
 ·exact byP tmsC.eq_1 True.intro
 ·rintro k hk
  refine sw_run 200 _ _ _ ?_
  by_cases hlt:k<xs.length
  ·have hi:(k:Int)<(xs.length:Int):=by omega
   have hR:=tmsC_row' xs k hlt
   have hs:=szL_tms' xs k hlt
   refine byP hi ?_
   refine sw_drawn (.cons 0 true (.cons 1 true (.cons 2 true (.cons 3 true (.cons 4 true (.cons 5 true (.cons 6 false (.cons 7 false (.cons 8 false (.cons 9 true (.cons 10 false (.nil)))))))))))) (by kernel_rfl) qLp_panic (by kernel_rfl) (sw_run 200 _ _ _ ?_)
   refine byP (fc hi hR) ?_
   refine sw_callD (con_l5Copy xs[k]! (by omega)) rfl (aAs_ok ?_) ?_ (sw_run 200 _ _ _ ?_)
   ·exact byQ True.intro
   ·simp only [okR]
   refine byQ ?_
   refine ⟨⟨fun o ho=>by omega,by unfold maxLen;omega,by omega⟩,by unfold inI;omega,k+1,rn1 2 7,by omega,by omega, ?_⟩
   exact byP (fc rn1.eq_1 (tmsC_snoc' xs k hlt)) True.intro
  ·have hi:¬ (k:Int)<(xs.length:Int):=by omega
   obtain rfl:k=xs.length:=by omega
   refine byP hi ?_
   refine sw_run 200 _ _ _ ?_
   simp only [push_cast,↓reduceIte,Nat.reduceLT,Nat.reduceAdd,Nat.reduceEqDiff,reduceCtorEq,List.take_length,tNode,ty0,e0,tmC_eq,mk_kind,mk_name,mk_other,mk_n,mk_ty,mk_res,mk_args,tyk,tya,tysC,List.length_nil,Tryz.results188]
theorem con_l5Op (s:ByteArray) (xs:List Tm) (hz:xs.length+szL (tmsC xs)≤1000000000):Con Tryz.prog 117 [.one (.str s),.one (.rows 9 xs.length (tmsC xs))] [.ag (tmC (tOp s xs))]:=by
 refine con_run Tryz.func117 rfl rfl (by simp [Tryz.ntmps117]) ?_
 refine byP Tryz.ntmps117 ?_
 refine sw_call (con_l5Node 4 xs hz) rfl (aAs_ok ?_) ?_ (sw_run 200 _ _ _ ?_)
 ·exact byQ True.intro
 ·simp only [okR]
 exact byP (fc tOp.eq_1 (fc tNode.eq_1 (fc ty0.eq_1 (fc e0.eq_1 (fc mk_kind (fc mk_name (fc mk_other (fc mk_n (fc mk_ty (fc mk_res (fc mk_args (fc tyk (fc tya (fc tysC.eq_1 Tryz.results117)))))))))))))) True.intro
end Go.Proofs.YtaidalilfmjfgaaGreat
