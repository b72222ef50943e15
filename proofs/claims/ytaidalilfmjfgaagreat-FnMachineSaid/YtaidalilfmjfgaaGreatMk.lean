import Derived.Test.YtaidalilfmjfgaaGreatBy
namespace Go.Proofs.YtaidalilfmjfgaaGreat
open Go.Proofs.Tryz
open Go.RowKit
set_option linter.unusedVariables false
set_option linter.unusedSimpArgs false
set_option maxRecDepth 20000
theorem tyk (k:Int) (xs:List Ty):(Ty.mk k xs).kind=k:=rfl
theorem tya (k:Int) (xs:List Ty):(Ty.mk k xs).args=xs:=rfl
def e0:ByteArray:=⟨#[]⟩
def ty0:Ty:=.mk 0 []
def aIL (n:Int):Tm:=.mk 2 e0 e0 n ty0 ty0 []
def aBg (s:ByteArray):Tm:=.mk 1 s e0 0 ty0 ty0 []
def CZ (k:Int) (xs:List Tm):Tm:=.mk k e0 e0 0 ty0 ty0 xs
def tOp (s:ByteArray) (xs:List Tm):Tm:=.mk 4 s e0 0 ty0 ty0 xs
def Um (s:ByteArray) (t:Ty) (e:Tm):Tm:=.mk 6 s e0 0 t ty0 [e]
def t0:Tm:=.mk 0 e0 e0 0 ty0 ty0 []
theorem aCq (a:Tm):szL (Av [a])=szL (tmC a):=by rw [Av,Av,List.append_nil]
theorem Tv (n:Int):Con prog 115 [.one (.int n)] [.ag (tmC (aIL n))]:=by
 refine Af func115 rfl rfl (by simp [ntmps115]) ?_
 exact byP (fc aIL.eq_1 (fc ty0.eq_1 (fc e0.eq_1 (fc Bf (fc Bd (fc AP (fc Gj (fc CP (fc BQ (fc AJ (fc tyk (fc tya (fc Ai.eq_1 (fc Av.eq_1 (fc ntmps115 results115))))))))))))))) tI
theorem LB (s:ByteArray):Con prog 116 [.one (.str s)] [.ag (tmC (aBg s))]:=by
 refine Af func116 rfl rfl (by simp [ntmps116]) ?_
 exact byP (fc aBg.eq_1 (fc ty0.eq_1 (fc e0.eq_1 (fc Bf (fc Bd (fc AP (fc Gj (fc CP (fc BQ (fc AJ (fc tyk (fc tya (fc Ai.eq_1 (fc Av.eq_1 (fc ntmps116 results116))))))))))))))) tI
theorem SP:Con prog 201 [] [.ag (tyC (.mk 1 []))]:=by
 refine Af func201 rfl rfl (by simp [ntmps201]) ?_
 exact byP (fc tyk (fc tya (fc Ai.eq_1 (fc ntmps201 results201)))) tI
theorem DF (kd:Int) (xs:List Tm) (hz:xs.length+szL (Av xs)≤1000000000):Con prog 188 [.one (.int kd),.one (.rows 9 xs.length (Av xs))] [.ag (tmC (CZ kd xs))]:=by
 refine Af func188 rfl rfl (by simp [ntmps188]) ?_
 refine byP ntmps188 ?_
 refine FA 1 8 29 rfl rfl ?_
 refine Al (fun k:Nat=>k≤xs.length) (fun k=>⟨26,[(6,.i k),(1,.br (.rows 9 xs.length (Av xs))),(4,.bx 0 0),(5,.bx 1 0)],[(0,[.i 0,.s ⟨#[]⟩,.s ⟨#[]⟩,.i 0,.i 0,.nl 2,.i 0,.nl 2,.nl 9]),(1,[.i kd,.s ⟨#[]⟩,.s ⟨#[]⟩,.i 0,.i 0,.nl 2,.i 0,.nl 2,.sl 2])],[(2,some ⟨.rows 9 k (Av (xs.take k)),some 29,true⟩)],3,[]⟩) (fun k=>xs.length-k) 0 id (Nat.zero_le _) ?_ ?_
 ·exact byP Av.eq_1 tI
 ·rintro k hk
  refine Aa 200 _ _ _ ?_
  by_cases hlt:k<xs.length
  ·have hi:(k:Int)<(xs.length:Int):=by omega
   have hR:=Aj xs k hlt
   have hs:=Bv xs k hlt
   refine byP hi ?_
   refine Ac (oT [0,1,2,3,4,5] (oF [6,7,8] (.cons 9 true (.cons 10 false .nil)))) (by kernel_rfl) AD (by kernel_rfl) (Aa 200 _ _ _ ?_)
   refine byP (fc hi hR) ?_
   refine KD (Dh xs[k]! (by omega)) ?_
   refine rQ ?_
   refine ⟨⟨fun o ho=>by omega,by unfold maxLen;omega,by omega⟩,by unfold inI;omega,k+1,rn1 2 7,by omega,by omega, ?_⟩
   exact byP (fc rn1.eq_1 (GS xs k hlt)) tI
  ·have hi:¬ (k:Int)<(xs.length:Int):=by omega
   obtain rfl:k=xs.length:=by omega
   refine byP hi ?_
   refine Aa 200 _ _ _ ?_
   simp only [push_cast,↓reduceIte,Nat.reduceLT,Nat.reduceAdd,Nat.reduceEqDiff,reduceCtorEq,List.take_length,CZ,ty0,e0,Ak,Bf,Bd,AP,Gj,CP,BQ,AJ,tyk,tya,Ai,List.length_nil,results188]
theorem NF (s:ByteArray) (xs:List Tm) (hz:xs.length+szL (Av xs)≤1000000000):Con prog 117 [.one (.str s),.one (.rows 9 xs.length (Av xs))] [.ag (tmC (tOp s xs))]:=by
 refine Af func117 rfl rfl (by simp [ntmps117]) ?_
 refine byP ntmps117 ?_
 refine Kc (DF 4 xs hz) ?_
 exact rG (fc tOp.eq_1 (fc CZ.eq_1 (fc ty0.eq_1 (fc e0.eq_1 (fc Bf (fc Bd (fc AP (fc Gj (fc CP (fc BQ (fc AJ (fc tyk (fc tya (fc Ai.eq_1 results117)))))))))))))) tI
theorem Tj (s:ByteArray) (t:Ty) (e:Tm) (hz:szL (tmC e)≤100000000) (ht:szL (tyC t)≤1000000000):Con prog 256 [.one (.str s),.ag (tyC t),.ag (tmC e)] [.ag (tmC (Um s t e))]:=by
 have hz1:=aCq e
 have hc:=DF 6 [e] (by rw [hz1];simp;omega)
 simp only [List.length_cons,List.length_nil,Nat.zero_add] at hc
 refine Af func256 rfl rfl (by simp [ntmps256]) ?_
 refine byP (fc (Ak e) (fc (Au t) ntmps256)) ?_
 refine As (hc) rfl (Am ?_) ?_ (Aa 200 _ _ _ ?_)
 ·simp only [push_cast,aAs,aA,aD,↓reduceIte,Ak,Av]
 ·simp only [okR]
 refine byP (fc CZ.eq_1 (fc Um.eq_1 (fc ty0.eq_1 (fc e0.eq_1 (fc Bf (fc Bd (fc AP (fc Gj (fc CP (fc BQ (fc AJ (fc tyk (fc tya (fc Ai.eq_1 Av.eq_1)))))))))))))) ?_
 refine Kc (Ba t ht) ?_
 exact rG results256 tI
end Go.Proofs.YtaidalilfmjfgaaGreat
