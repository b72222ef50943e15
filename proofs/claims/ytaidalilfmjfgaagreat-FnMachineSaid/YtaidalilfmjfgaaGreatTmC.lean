import Derived.Test.YtaidalilfmjfgaaGreatLst
import Derived.Test.YtaidalilfmjfgaaGreatTyC
namespace Go.Proofs.YtaidalilfmjfgaaGreat
open Go.Proofs.Tryz
open Go.RowKit
set_option linter.unusedVariables false
def inB (x lo hi:Int):Bool:=decide (lo≤x∧x≤hi)
theorem aAz (x lo hi:Int):(decide (lo≤x) && decide (x≤hi))=inB x lo hi:=by rw [inB];by_cases h1:lo≤x <;> by_cases h2:x≤hi <;> simp [h1,h2]
mutual
def AC:Ty→Ty
 | .mk k xs=>match decide (k=4),DB xs with
  | true,[y]=>y
  | _,ys => .mk k ys
def DB:List Ty→List Ty
 | []=>[]
 | x :: xs=>AC x :: DB xs
end
theorem Fa:∀ xs,DB xs=xs.map AC
 | []=>rfl
 | x :: xs=>by rw [DB,Fa xs];rfl
theorem LF (t:Ty) (h:t.kind=4) (hl:t.args.length=1):AC t=AC (t.args[0]'(by omega)):=by
 obtain ⟨k,xs⟩:=t
 simp only [Ty.kind,Ty.args] at *
 match xs,hl with
 | [x],_ =>
  rw [AC,DB,DB]
  simp [h]
theorem Qn (t:Ty) (h:¬ (t.kind=4∧t.args.length=1)):AC t = .mk t.kind (t.args.map AC):=by
 obtain ⟨k,xs⟩:=t
 simp only [Ty.kind,Ty.args] at *
 rw [AC,Fa]
 split
 ·rename_i y h1 h2
  exfalso
  refine h ⟨by simpa using h1, ?_⟩
  have:=congrArg List.length h2
  simpa using this
 ·rfl
mutual
def Cn:Tm→Tm
 | .mk k s o n t r xs=>match inB k 10 13,Es xs with
  | true,[y]=>y
  | _,ys => .mk k s o n (AC t) (AC r) ys
def Es:List Tm→List Tm
 | []=>[]
 | x :: xs=>Cn x :: Es xs
end
theorem Fx:∀ xs,Es xs=xs.map Cn
 | []=>rfl
 | x :: xs=>by rw [Es,Fx xs];rfl
theorem Qo (t:Tm) (h:inB t.kind 10 13=true) (hl:t.args.length=1):Cn t=Cn (t.args[0]'(by omega)):=by
 obtain ⟨k,s,o,n,ty,r,xs⟩:=t
 simp only [Tm.kind,Tm.args] at *
 match xs,hl with
 | [x],_ =>
  rw [Cn,Es,Es,h]
  simp
theorem Ug (t:Tm) (h:¬ (inB t.kind 10 13=true∧t.args.length=1)):Cn t = .mk t.kind t.name t.other t.n (AC t.ty) (AC t.res) (t.args.map Cn):=by
 obtain ⟨k,s,o,n,ty,r,xs⟩:=t
 simp only [Tm.kind,Tm.args,Tm.name,Tm.other,Tm.n,Tm.ty,Tm.res] at *
 rw [Cn,Fx]
 split
 ·rename_i y h1 h2
  exfalso
  refine h ⟨h1, ?_⟩
  have:=congrArg List.length h2
  simpa using this
 ·rfl
theorem Bf (k:Int) (s o:ByteArray) (n:Int) (t r:Ty) (xs:List Tm):(Tm.mk k s o n t r xs).kind=k:=rfl
theorem Bd (k:Int) (s o:ByteArray) (n:Int) (t r:Ty) (xs:List Tm):(Tm.mk k s o n t r xs).name=s:=rfl
theorem AP (k:Int) (s o:ByteArray) (n:Int) (t r:Ty) (xs:List Tm):(Tm.mk k s o n t r xs).other=o:=rfl
theorem Gj (k:Int) (s o:ByteArray) (n:Int) (t r:Ty) (xs:List Tm):(Tm.mk k s o n t r xs).n=n:=rfl
theorem CP (k:Int) (s o:ByteArray) (n:Int) (t r:Ty) (xs:List Tm):(Tm.mk k s o n t r xs).ty=t:=rfl
theorem BQ (k:Int) (s o:ByteArray) (n:Int) (t r:Ty) (xs:List Tm):(Tm.mk k s o n t r xs).res=r:=rfl
theorem AJ (k:Int) (s o:ByteArray) (n:Int) (t r:Ty) (xs:List Tm):(Tm.mk k s o n t r xs).args=xs:=rfl
theorem BM (t:Tm):szL (tmC t)=t.name.size+t.other.size+szL (tyC t.ty)+szL (tyC t.res)+(t.args.length+szL (Av t.args)):=by
 obtain ⟨k,s,o,n,ty,r,xs⟩:=t
 simp only [tmC,szL,szD,Ah,Tm.name,Tm.other,Tm.ty,Tm.res,Tm.args]
 omega
theorem AU {α β:Type} [Inhabited α] [Inhabited β] (f:α→β) {xs:List α} {k:Nat} (h:k<xs.length):(xs.map f)[k]! = f xs[k]! := by
 rw [getElem!_pos xs k h,getElem!_pos (xs.map f) k (by simpa using h),List.getElem_map]
theorem Jn (f:Ty→Ty) (xs:List Ty) (k:Nat) (h:k<xs.length):Ai ((xs.take (k+1)).map f)=Ai ((xs.take k).map f)++tyC (f xs[k]!):=by
 rw [Dp,Dp,AH xs k h,List.map_append,AM,List.map_cons,List.map_nil,AA]
theorem JA (f:Tm→Tm) (xs:List Tm) (k:Nat) (h:k<xs.length):Av ((xs.take (k+1)).map f)=Av ((xs.take k).map f)++tmC (f xs[k]!):=by
 rw [At,At,AH xs k h,List.map_append,AM,List.map_cons,List.map_nil,AA]
mutual
theorem GN:∀ t:Ty,szL (tyC (AC t))≤szL (tyC t)
 | .mk k xs=>by
  have h:=HY xs
  simp only [tyC,szL,szD]
  rw [AC]
  split
  ·rename_i y h1 h2
   rw [h2] at h
   simp only [Ai,List.append_nil] at h
   omega
  ·rename_i ys _
   have:=congrArg List.length (Fa xs)
   simp only [tyC,szL,szD,List.length_map] at this ⊢
   omega
theorem HY:∀ xs:List Ty,szL (Ai (DB xs))≤szL (Ai xs)
 | []=>by rw [DB];exact Nat.le_refl _
 | a :: xs=>by
  have h1:=GN a
  have h2:=HY xs
  rw [DB,Ai,Ai,Ah,Ah];omega
end
mutual
theorem GE:∀ t:Tm,szL (tmC (Cn t))≤szL (tmC t)
 | .mk k s o n t r xs=>by
  have h:=HX xs
  have h1:=GN t
  have h2:=GN r
  have e:∀ t r xs,tmC (.mk k s o n t r xs)=[.int k,.str s,.str o,.int n]++(tyC t++(tyC r++[.rows 9 xs.length (Av xs)])):=fun _ _ _=>rfl
  rw [e,Ah,Ah,Ah]
  simp only [szL,szD]
  rw [Cn]
  split
  ·rename_i y h3 h4
   rw [h4] at h
   simp only [Av,List.append_nil] at h
   omega
  ·have:=congrArg List.length (Fx xs)
   rw [e,Ah,Ah,Ah]
   simp only [szL,szD,List.length_map] at this ⊢
   omega
theorem HX:∀ xs:List Tm,szL (Av (Es xs))≤szL (Av xs)
 | []=>by rw [Es];exact Nat.le_refl _
 | a :: xs=>by
  have h1:=GE a
  have h2:=HX xs
  rw [Es,Av,Av,Ah,Ah];omega
end
set_option linter.unusedSimpArgs false
set_option maxRecDepth 20000
theorem CJ {t:Tm} {B:Nat} (h:szL (tmC t)≤B):szL (tyC t.ty)≤B∧szL (tyC t.res)≤B∧t.args.length+szL (Av t.args)≤B:=by
 rw [BM] at h;omega
theorem Dh:∀ t:Tm,szL (tmC t)≤1000000000→Con prog 88 [.ag (tmC t)] [.ag (tmC t)]:=by
 refine Tm.ind fun t ih hz => ?_
 obtain ⟨h5,h7,h8⟩:=CJ hz
 refine Af func88 rfl rfl (by simp [ntmps88]) ?_
 simp only [push_cast,↓reduceIte,Nat.reduceLT,Nat.reduceAdd,Nat.reduceMul,Nat.reduceLeDiff,Nat.reduceEqDiff,reduceCtorEq,Int.reduceLT,Int.reduceLE,Int.reduceEq,Int.reduceNe,Int.reduceAdd,Int.reduceSub,Int.reduceMul,Int.reduceNeg,Int.reduceToNat,Nat.reduceSub,ntmps88,results88,Ak]
 refine Cs ⟨39,[(3,.bx 4 0),(1,.bx 0 0),(2,.bx 1 0)],[(0,[.i t.kind,.s t.name,.s t.other,.i t.n,.i t.ty.kind,.br (.rows 2 t.ty.args.length (Ai t.ty.args)),.i t.res.kind,.br (.rows 2 t.res.args.length (Ai t.res.args)),.br (.rows 9 t.args.length (Av t.args))]),(1,[.i 0,.s ⟨#[]⟩,.s ⟨#[]⟩,.i 0,.i 0,.nl 2,.i 0,.nl 2,.nl 9]),
   (4,[.i t.kind,.s t.name,.s t.other,.i t.n,.i t.ty.kind,.sl 2,.i t.res.kind,.sl 3,.nl 9])],[(2,some ⟨.rows 2 t.ty.args.length (Ai t.ty.args),none,true⟩),(3,some ⟨.rows 2 t.res.args.length (Ai t.res.args),none,true⟩)],5,[]⟩ (.cons 0 true (.cons 1 true (.cons 2 true (.cons 3 true (.cons 4 true (.cons 5 true (.cons 6 true (.cons 7 true (.cons 8 true (.cons 9 true (.cons 11 true (.cons 12 true (.fork (.alt 10 (.fork (.alt 13 (.cons 14 true (.cons 15 false (.cons 16 false (.nil)))) (.alt 15 (.cons 13 false (.cons 14 true (.cons 16 false (.nil)))) (.last)))) (.alt 15 (.cons 10 false (.cons 13 false (.cons 14 true (.cons 16 false (.nil))))) (.last)))))))))))))))) (by kernel_rfl) (by kernel_rfl) (Aa 200 _ _ _ ?_) (Aa 200 _ _ _ ?_)
 ·simp only [push_cast,↓reduceIte,Nat.reduceLT,Nat.reduceAdd,Nat.reduceMul,Nat.reduceLeDiff,Nat.reduceEqDiff,reduceCtorEq,Int.reduceLT,Int.reduceLE,Int.reduceEq,Int.reduceNe,Int.reduceAdd,Int.reduceSub,Int.reduceMul,Int.reduceNeg,Int.reduceToNat,Nat.reduceSub,Au]
  refine ⟨?_, ?_⟩
  ·refine AR (Ba t.ty h5) rfl (Am ?_) ?_ (Aa 200 _ _ _ ?_)
   ·simp only [push_cast,aAs,aA,aDs,aD,↓reduceIte,Nat.reduceEqDiff,Nat.reduceLT,Nat.reduceAdd,reduceCtorEq,Au]
   ·simp only [okR]
   simp only [push_cast,↓reduceIte,Nat.reduceLT,Nat.reduceAdd,Nat.reduceMul,Nat.reduceLeDiff,Nat.reduceEqDiff,reduceCtorEq,Int.reduceLT,Int.reduceLE,Int.reduceEq,Int.reduceNe,Int.reduceAdd,Int.reduceSub,Int.reduceMul,Int.reduceNeg,Int.reduceToNat,Nat.reduceSub,Au]
   refine ⟨?_, ?_⟩
   ·refine AR (Ba t.res h7) rfl (Am ?_) ?_ (Aa 200 _ _ _ ?_)
    ·simp only [push_cast,aAs,aA,aDs,aD,↓reduceIte,Nat.reduceEqDiff,Nat.reduceLT,Nat.reduceAdd,reduceCtorEq,Au]
    ·simp only [okR]
    simp only [push_cast,↓reduceIte,Nat.reduceLT,Nat.reduceAdd,Nat.reduceMul,Nat.reduceLeDiff,Nat.reduceEqDiff,reduceCtorEq,Int.reduceLT,Int.reduceLE,Int.reduceEq,Int.reduceNe,Int.reduceAdd,Int.reduceSub,Int.reduceMul,Int.reduceNeg,Int.reduceToNat,Nat.reduceSub,Au,qK]
    refine ⟨id, ?_⟩
    simp only [push_cast,Sub,EG,EL,ED,EH,inj,AV.ren,AV.rens,AV.lt,AV.lts,↓reduceIte,Nat.reduceLT,Nat.reduceAdd,Nat.reduceMul,Nat.reduceLeDiff,Nat.reduceEqDiff,reduceCtorEq,Int.reduceLT,Int.reduceLE,Int.reduceEq,Int.reduceNe,Int.reduceAdd,Int.reduceSub,Int.reduceMul,Int.reduceNeg,Int.reduceToNat,Nat.reduceSub]
   ·refine AR (Ba t.res h7) rfl (Am ?_) ?_ (Aa 200 _ _ _ ?_)
    ·simp only [push_cast,aAs,aA,aDs,aD,↓reduceIte,Nat.reduceEqDiff,Nat.reduceLT,Nat.reduceAdd,reduceCtorEq,Au]
    ·simp only [okR]
    simp only [push_cast,↓reduceIte,Nat.reduceLT,Nat.reduceAdd,Nat.reduceMul,Nat.reduceLeDiff,Nat.reduceEqDiff,reduceCtorEq,Int.reduceLT,Int.reduceLE,Int.reduceEq,Int.reduceNe,Int.reduceAdd,Int.reduceSub,Int.reduceMul,Int.reduceNeg,Int.reduceToNat,Nat.reduceSub,Au,qK]
    refine ⟨rn2 3 4 4 3, ?_⟩
    simp only [push_cast,Sub,EG,EL,ED,EH,inj,AV.ren,AV.rens,AV.lt,AV.lts,↓reduceIte,Nat.reduceLT,Nat.reduceAdd,Nat.reduceMul,Nat.reduceLeDiff,Nat.reduceEqDiff,reduceCtorEq,Int.reduceLT,Int.reduceLE,Int.reduceEq,Int.reduceNe,Int.reduceAdd,Int.reduceSub,Int.reduceMul,Int.reduceNeg,Int.reduceToNat,Nat.reduceSub,rn2]
  ·refine AR (Ba t.ty h5) rfl (Am ?_) ?_ (Aa 200 _ _ _ ?_)
   ·simp only [push_cast,aAs,aA,aDs,aD,↓reduceIte,Nat.reduceEqDiff,Nat.reduceLT,Nat.reduceAdd,reduceCtorEq,Au]
   ·simp only [okR]
   simp only [push_cast,↓reduceIte,Nat.reduceLT,Nat.reduceAdd,Nat.reduceMul,Nat.reduceLeDiff,Nat.reduceEqDiff,reduceCtorEq,Int.reduceLT,Int.reduceLE,Int.reduceEq,Int.reduceNe,Int.reduceAdd,Int.reduceSub,Int.reduceMul,Int.reduceNeg,Int.reduceToNat,Nat.reduceSub,Au]
   refine AR (Ba t.res h7) rfl (Am ?_) ?_ (Aa 200 _ _ _ ?_)
   ·simp only [push_cast,aAs,aA,aDs,aD,↓reduceIte,Nat.reduceEqDiff,Nat.reduceLT,Nat.reduceAdd,reduceCtorEq,Au]
   ·simp only [okR]
   simp only [push_cast,↓reduceIte,Nat.reduceLT,Nat.reduceAdd,Nat.reduceMul,Nat.reduceLeDiff,Nat.reduceEqDiff,reduceCtorEq,Int.reduceLT,Int.reduceLE,Int.reduceEq,Int.reduceNe,Int.reduceAdd,Int.reduceSub,Int.reduceMul,Int.reduceNeg,Int.reduceToNat,Nat.reduceSub,Au,qK]
   refine ⟨rn3 2 3 3 4 4 2, ?_⟩
   simp only [push_cast,Sub,EG,EL,ED,EH,inj,AV.ren,AV.rens,AV.lt,AV.lts,↓reduceIte,Nat.reduceLT,Nat.reduceAdd,Nat.reduceMul,Nat.reduceLeDiff,Nat.reduceEqDiff,reduceCtorEq,Int.reduceLT,Int.reduceLE,Int.reduceEq,Int.reduceNe,Int.reduceAdd,Int.reduceSub,Int.reduceMul,Int.reduceNeg,Int.reduceToNat,Nat.reduceSub,rn3]
 simp only [push_cast,↓reduceIte,Nat.reduceLT,Nat.reduceAdd,Nat.reduceMul,Nat.reduceLeDiff,Nat.reduceEqDiff,reduceCtorEq,Int.reduceLT,Int.reduceLE,Int.reduceEq,Int.reduceNe,Int.reduceAdd,Int.reduceSub,Int.reduceMul,Int.reduceNeg,Int.reduceToNat,Nat.reduceSub]
 refine FA 4 8 29 rfl rfl ?_
 refine Al (fun k:Nat=>k≤t.args.length) (fun k=>⟨39,[(4,.i k),(1,.bx 0 0),(2,.bx 1 0),(3,.bx 4 0)],[(0,[.i t.kind,.s t.name,.s t.other,.i t.n,.i t.ty.kind,.br (.rows 2 t.ty.args.length (Ai t.ty.args)),.i t.res.kind,.br (.rows 2 t.res.args.length (Ai t.res.args)),.br (.rows 9 t.args.length (Av t.args))]),(1,[.i 0,.s ⟨#[]⟩,.s ⟨#[]⟩,.i 0,.i 0,.nl 2,.i 0,.nl 2,.nl 9]),
   (4,[.i t.kind,.s t.name,.s t.other,.i t.n,.i t.ty.kind,.sl 2,.i t.res.kind,.sl 3,.sl 5])],[(2,some ⟨.rows 2 t.ty.args.length (Ai t.ty.args),none,true⟩),(3,some ⟨.rows 2 t.res.args.length (Ai t.res.args),none,true⟩),(5,some ⟨.rows 9 k (Av (t.args.take k)),some 29,true⟩)],6,[]⟩) (fun k=>t.args.length-k) 0 id (Nat.zero_le _) ?_ ?_
 ·simp only [push_cast,Sub,EG,EL,ED,EH,inj,AV.ren,AV.rens,AV.lt,AV.lts,↓reduceIte,Nat.reduceLT,Nat.reduceAdd,Nat.reduceMul,Nat.reduceLeDiff,Nat.reduceEqDiff,reduceCtorEq,Int.reduceLT,Int.reduceLE,Int.reduceEq,Int.reduceNe,Int.reduceAdd,Int.reduceSub,Int.reduceMul,Int.reduceNeg,Int.reduceToNat,Nat.reduceSub,List.take_zero,Av]
 ·rintro k hk
  refine Aa 200 _ _ _ ?_
  by_cases hlt:k<t.args.length
  ·have hi:(k:Int)<(t.args.length:Int):=by omega
   have hR:=Aj t.args k hlt
   have hm:=Ab hlt
   have hs:=Bv t.args k hlt
   simp only [push_cast,↓reduceIte,Nat.reduceLT,Nat.reduceAdd,Nat.reduceMul,Nat.reduceLeDiff,Nat.reduceEqDiff,reduceCtorEq,Int.reduceLT,Int.reduceLE,Int.reduceEq,Int.reduceNe,Int.reduceAdd,Int.reduceSub,Int.reduceMul,Int.reduceNeg,Int.reduceToNat,Nat.reduceSub,hi,hR,Ak]
   refine Ac (.cons 0 true (.cons 1 true (.cons 2 true (.cons 3 true (.cons 4 true (.cons 5 true (.cons 6 true (.cons 7 false (.cons 8 false (.cons 9 false (.cons 10 true (.cons 11 false (.nil))))))))))))) (by kernel_rfl) AD (by kernel_rfl) (Aa 200 _ _ _ ?_)
   simp only [push_cast,↓reduceIte,Nat.reduceLT,Nat.reduceAdd,Nat.reduceMul,Nat.reduceLeDiff,Nat.reduceEqDiff,reduceCtorEq,Int.reduceLT,Int.reduceLE,Int.reduceEq,Int.reduceNe,Int.reduceAdd,Int.reduceSub,Int.reduceMul,Int.reduceNeg,Int.reduceToNat,Nat.reduceSub,hi,hR,Ak]
   refine AR (ih _ hm (by omega)) rfl (Am ?_) ?_ (Aa 200 _ _ _ ?_)
   ·simp only [push_cast,aAs,aA,aDs,aD,↓reduceIte,Nat.reduceEqDiff,Nat.reduceLT,Nat.reduceAdd,reduceCtorEq,Ak]
   ·simp only [okR]
   simp only [push_cast,↓reduceIte,Nat.reduceLT,Nat.reduceAdd,Nat.reduceMul,Nat.reduceLeDiff,Nat.reduceEqDiff,reduceCtorEq,Int.reduceLT,Int.reduceLE,Int.reduceEq,Int.reduceNe,Int.reduceAdd,Int.reduceSub,Int.reduceMul,Int.reduceNeg,Int.reduceToNat,Nat.reduceSub,Ak]
   refine ⟨⟨fun o ho=>by omega,by unfold maxLen;omega,by omega⟩,by unfold inI;omega,k+1,rn1 5 10,by omega,by omega, ?_⟩
   simp only [push_cast,Sub,EG,EL,ED,EH,inj,AV.ren,AV.rens,AV.lt,AV.lts,↓reduceIte,Nat.reduceLT,Nat.reduceAdd,Nat.reduceMul,Nat.reduceLeDiff,Nat.reduceEqDiff,reduceCtorEq,Int.reduceLT,Int.reduceLE,Int.reduceEq,Int.reduceNe,Int.reduceAdd,Int.reduceSub,Int.reduceMul,Int.reduceNeg,Int.reduceToNat,Nat.reduceSub,rn1,Bx,GS t.args k hlt,Ak]
  ·have hi:¬ (k:Int)<(t.args.length:Int):=by omega
   obtain rfl:k=t.args.length:=by omega
   simp only [push_cast,↓reduceIte,Nat.reduceLT,Nat.reduceAdd,Nat.reduceMul,Nat.reduceLeDiff,Nat.reduceEqDiff,reduceCtorEq,Int.reduceLT,Int.reduceLE,Int.reduceEq,Int.reduceNe,Int.reduceAdd,Int.reduceSub,Int.reduceMul,Int.reduceNeg,Int.reduceToNat,Nat.reduceSub,hi]
   refine Aa 200 _ _ _ ?_
   simp only [push_cast,↓reduceIte,Nat.reduceLT,Nat.reduceAdd,Nat.reduceMul,Nat.reduceLeDiff,Nat.reduceEqDiff,reduceCtorEq,Int.reduceLT,Int.reduceLE,Int.reduceEq,Int.reduceNe,Int.reduceAdd,Int.reduceSub,Int.reduceMul,Int.reduceNeg,Int.reduceToNat,Nat.reduceSub,List.take_length,ntmps88,results88]
end Go.Proofs.YtaidalilfmjfgaaGreat
