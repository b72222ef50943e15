import Derived.Test.YtaidalilfmjfgaaGreatLst
import Derived.Test.YtaidalilfmjfgaaGreatTyC
namespace Go.Proofs.YtaidalilfmjfgaaGreat
open Go.RowKit
set_option linter.unusedVariables false
def inB (x lo hi:Int):Bool:=decide (lo≤x∧x≤hi)
theorem inB_and (x lo hi:Int):(decide (lo≤x) && decide (x≤hi))=inB x lo hi:=by rw [inB];by_cases h1:lo≤x <;> by_cases h2:x≤hi <;> simp [h1,h2]
mutual
def eraseTy : Ty → Ty
  | .mk k xs => match decide (k = 4), eraseTys xs with
    | true, [y] => y
    | _, ys => .mk k ys
def eraseTys:List Ty→List Ty
 | []=>[]
 | x :: xs=>eraseTy x :: eraseTys xs
end
theorem eraseTys_map:∀ xs,eraseTys xs=xs.map eraseTy
 | []=>rfl
 | x :: xs=>by rw [eraseTys,eraseTys_map xs];rfl
theorem eraseTy_code (t : Ty) (h : t.kind = 4) (hl : t.args.length = 1) : eraseTy t = eraseTy (t.args[0]'(by omega)) := by
  obtain ⟨k, xs⟩ := t
  simp only [Ty.kind, Ty.args] at *
  match xs, hl with
  | [x], _ =>
    rw [eraseTy, eraseTys, eraseTys]
    simp [h]
theorem eraseTy_mk (t:Ty) (h:¬ (t.kind=4∧t.args.length=1)):eraseTy t = .mk t.kind (t.args.map eraseTy):=by
 obtain ⟨k,xs⟩:=t
 simp only [Ty.kind,Ty.args] at *
 rw [eraseTy,eraseTys_map]
 split
 ·rename_i y h1 h2
  exfalso
  refine h ⟨by simpa using h1, ?_⟩
  have:=congrArg List.length h2
  simpa using this
 ·rfl
mutual
def eraseT : Tm → Tm
  | .mk k s o n t r xs => match inB k 10 13, eraseTs xs with
    | true, [y] => y
    | _, ys => .mk k s o n (eraseTy t) (eraseTy r) ys
def eraseTs:List Tm→List Tm
 | []=>[]
 | x :: xs=>eraseT x :: eraseTs xs
end
theorem eraseTs_map:∀ xs,eraseTs xs=xs.map eraseT
 | []=>rfl
 | x :: xs=>by rw [eraseTs,eraseTs_map xs];rfl
theorem eraseT_one (t : Tm) (h : inB t.kind 10 13 = true) (hl : t.args.length = 1) : eraseT t = eraseT (t.args[0]'(by omega)) := by
  obtain ⟨k, s, o, n, ty, r, xs⟩ := t
  simp only [Tm.kind, Tm.args] at *
  match xs, hl with
  | [x], _ =>
    rw [eraseT, eraseTs, eraseTs, h]
    simp
theorem eraseT_mk (t:Tm) (h:¬ (inB t.kind 10 13=true∧t.args.length=1)):eraseT t = .mk t.kind t.name t.other t.n (eraseTy t.ty) (eraseTy t.res) (t.args.map eraseT):=by
 obtain ⟨k,s,o,n,ty,r,xs⟩:=t
 simp only [Tm.kind,Tm.args,Tm.name,Tm.other,Tm.n,Tm.ty,Tm.res] at *
 rw [eraseT,eraseTs_map]
 split
 ·rename_i y h1 h2
  exfalso
  refine h ⟨h1, ?_⟩
  have:=congrArg List.length h2
  simpa using this
 ·rfl
theorem mk_kind (k:Int) (s o:ByteArray) (n:Int) (t r:Ty) (xs:List Tm):(Tm.mk k s o n t r xs).kind=k:=rfl
theorem mk_name (k:Int) (s o:ByteArray) (n:Int) (t r:Ty) (xs:List Tm):(Tm.mk k s o n t r xs).name=s:=rfl
theorem mk_other (k:Int) (s o:ByteArray) (n:Int) (t r:Ty) (xs:List Tm):(Tm.mk k s o n t r xs).other=o:=rfl
theorem mk_n (k:Int) (s o:ByteArray) (n:Int) (t r:Ty) (xs:List Tm):(Tm.mk k s o n t r xs).n=n:=rfl
theorem mk_ty (k:Int) (s o:ByteArray) (n:Int) (t r:Ty) (xs:List Tm):(Tm.mk k s o n t r xs).ty=t:=rfl
theorem mk_res (k:Int) (s o:ByteArray) (n:Int) (t r:Ty) (xs:List Tm):(Tm.mk k s o n t r xs).res=r:=rfl
theorem mk_args (k:Int) (s o:ByteArray) (n:Int) (t r:Ty) (xs:List Tm):(Tm.mk k s o n t r xs).args=xs:=rfl
theorem szL_tm (t:Tm):szL (tmC t)=t.name.size+t.other.size+szL (tyC t.ty)+szL (tyC t.res)+(t.args.length+szL (tmsC t.args)):=by
 obtain ⟨k,s,o,n,ty,r,xs⟩:=t
 simp only [tmC,szL,szD,szL_append,Tm.name,Tm.other,Tm.ty,Tm.res,Tm.args]
 omega
theorem map_bang {α β:Type} [Inhabited α] [Inhabited β] (f:α→β) {xs:List α} {k:Nat} (h:k<xs.length):(xs.map f)[k]! = f xs[k]! := by
 rw [getElem!_pos xs k h,getElem!_pos (xs.map f) k (by simpa using h),List.getElem_map]
theorem tysC_snocF (f:Ty→Ty) (xs:List Ty) (k:Nat) (h:k<xs.length):tysC ((xs.take (k+1)).map f)=tysC ((xs.take k).map f)++tyC (f xs[k]!):=by
 rw [tysC_flat,tysC_flat,take_snoc xs k h,List.map_append,flC_app,List.map_cons,List.map_nil,flC_one]
theorem tmsC_snocF (f:Tm→Tm) (xs:List Tm) (k:Nat) (h:k<xs.length):tmsC ((xs.take (k+1)).map f)=tmsC ((xs.take k).map f)++tmC (f xs[k]!):=by
 rw [tmsC_flat,tmsC_flat,take_snoc xs k h,List.map_append,flC_app,List.map_cons,List.map_nil,flC_one]
mutual
theorem erase_szTy : ∀ t : Ty, szL (tyC (eraseTy t)) ≤ szL (tyC t)
  | .mk k xs => by
    have h := erase_szTys xs
    simp only [tyC, szL, szD]
    rw [eraseTy]
    split
    · rename_i y h1 h2
      rw [h2] at h
      simp only [tysC, List.append_nil] at h
      omega
    · rename_i ys _
      have := congrArg List.length (eraseTys_map xs)
      simp only [tyC, szL, szD, List.length_map] at this ⊢
      omega
theorem erase_szTys : ∀ xs : List Ty, szL (tysC (eraseTys xs)) ≤ szL (tysC xs)
  | [] => by rw [eraseTys]; exact Nat.le_refl _
  | a :: xs => by
    have h1 := erase_szTy a
    have h2 := erase_szTys xs
    rw [eraseTys, tysC, tysC, szL_append, szL_append]; omega
end
mutual
theorem erase_szTm : ∀ t : Tm, szL (tmC (eraseT t)) ≤ szL (tmC t)
  | .mk k s o n t r xs => by
    have h := erase_szTms xs
    have h1 := erase_szTy t
    have h2 := erase_szTy r
    have e : ∀ t r xs, tmC (.mk k s o n t r xs) = [.int k, .str s, .str o, .int n] ++ (tyC t ++ (tyC r ++ [.rows 9 xs.length (tmsC xs)])) := fun _ _ _ => rfl
    rw [e, szL_append, szL_append, szL_append]
    simp only [szL, szD]
    rw [eraseT]
    split
    · rename_i y h3 h4
      rw [h4] at h
      simp only [tmsC, List.append_nil] at h
      omega
    · have := congrArg List.length (eraseTs_map xs)
      rw [e, szL_append, szL_append, szL_append]
      simp only [szL, szD, List.length_map] at this ⊢
      omega
theorem erase_szTms : ∀ xs : List Tm, szL (tmsC (eraseTs xs)) ≤ szL (tmsC xs)
  | [] => by rw [eraseTs]; exact Nat.le_refl _
  | a :: xs => by
    have h1 := erase_szTm a
    have h2 := erase_szTms xs
    rw [eraseTs, tmsC, tmsC, szL_append, szL_append]; omega
end
set_option linter.unusedSimpArgs false
set_option maxRecDepth 20000
theorem sz_parts {t:Tm} {B:Nat} (h:szL (tmC t)≤B):szL (tyC t.ty)≤B∧szL (tyC t.res)≤B∧t.args.length+szL (tmsC t.args)≤B:=by
 rw [szL_tm] at h;omega
theorem con_l5Copy:∀ t:Tm,szL (tmC t)≤1000000000→Con Tryz.prog 88 [.ag (tmC t)] [.ag (tmC t)]:=by
 refine Tm.ind fun t ih hz => ?_
 obtain ⟨h5,h7,h8⟩:=sz_parts hz
 refine con_run Tryz.func88 rfl rfl (by simp [Tryz.ntmps88]) ?_
 simp only [push_cast,↓reduceIte,Nat.reduceLT,Nat.reduceAdd,Nat.reduceMul,Nat.reduceLeDiff,Nat.reduceEqDiff,reduceCtorEq,Int.reduceLT,Int.reduceLE,Int.reduceEq,Int.reduceNe,Int.reduceAdd,Int.reduceSub,Int.reduceMul,Int.reduceNeg,Int.reduceToNat,Nat.reduceSub,Tryz.ntmps88,Tryz.results88,tmC_eq]
 refine sw_drawnK ⟨39,[(3,.bx 4 0),(1,.bx 0 0),(2,.bx 1 0)],[(0,[.i t.kind,.s t.name,.s t.other,.i t.n,.i t.ty.kind,.br (.rows 2 t.ty.args.length (tysC t.ty.args)),.i t.res.kind,.br (.rows 2 t.res.args.length (tysC t.res.args)),.br (.rows 9 t.args.length (tmsC t.args))]),(1,[.i 0,.s ⟨#[]⟩,.s ⟨#[]⟩,.i 0,.i 0,.nl 2,.i 0,.nl 2,.nl 9]),
   (4,[.i t.kind,.s t.name,.s t.other,.i t.n,.i t.ty.kind,.sl 2,.i t.res.kind,.sl 3,.nl 9])],[(2,some ⟨.rows 2 t.ty.args.length (tysC t.ty.args),none,true⟩),(3,some ⟨.rows 2 t.res.args.length (tysC t.res.args),none,true⟩)],5,[]⟩ (.cons 0 true (.cons 1 true (.cons 2 true (.cons 3 true (.cons 4 true (.cons 5 true (.cons 6 true (.cons 7 true (.cons 8 true (.cons 9 true (.cons 11 true (.cons 12 true (.fork (.alt 10 (.fork (.alt 13 (.cons 14 true (.cons 15 false (.cons 16 false (.nil)))) (.alt 15 (.cons 13 false (.cons 14 true (.cons 16 false (.nil)))) (.last)))) (.alt 15 (.cons 10 false (.cons 13 false (.cons 14 true (.cons 16 false (.nil))))) (.last)))))))))))))))) (by kernel_rfl) (by kernel_rfl) (sw_run 200 _ _ _ ?_) (sw_run 200 _ _ _ ?_)
 ·simp only [push_cast,↓reduceIte,Nat.reduceLT,Nat.reduceAdd,Nat.reduceMul,Nat.reduceLeDiff,Nat.reduceEqDiff,reduceCtorEq,Int.reduceLT,Int.reduceLE,Int.reduceEq,Int.reduceNe,Int.reduceAdd,Int.reduceSub,Int.reduceMul,Int.reduceNeg,Int.reduceToNat,Nat.reduceSub,tyC_eq]
  refine ⟨?_, ?_⟩
  ·refine sw_callD (con_l3Copy t.ty h5) rfl (aAs_ok ?_) ?_ (sw_run 200 _ _ _ ?_)
   ·simp only [push_cast,aAs,aA,aDs,aD,↓reduceIte,Nat.reduceEqDiff,Nat.reduceLT,Nat.reduceAdd,reduceCtorEq,tyC_eq]
   ·simp only [okR]
   simp only [push_cast,↓reduceIte,Nat.reduceLT,Nat.reduceAdd,Nat.reduceMul,Nat.reduceLeDiff,Nat.reduceEqDiff,reduceCtorEq,Int.reduceLT,Int.reduceLE,Int.reduceEq,Int.reduceNe,Int.reduceAdd,Int.reduceSub,Int.reduceMul,Int.reduceNeg,Int.reduceToNat,Nat.reduceSub,tyC_eq]
   refine ⟨?_, ?_⟩
   ·refine sw_callD (con_l3Copy t.res h7) rfl (aAs_ok ?_) ?_ (sw_run 200 _ _ _ ?_)
    ·simp only [push_cast,aAs,aA,aDs,aD,↓reduceIte,Nat.reduceEqDiff,Nat.reduceLT,Nat.reduceAdd,reduceCtorEq,tyC_eq]
    ·simp only [okR]
    simp only [push_cast,↓reduceIte,Nat.reduceLT,Nat.reduceAdd,Nat.reduceMul,Nat.reduceLeDiff,Nat.reduceEqDiff,reduceCtorEq,Int.reduceLT,Int.reduceLE,Int.reduceEq,Int.reduceNe,Int.reduceAdd,Int.reduceSub,Int.reduceMul,Int.reduceNeg,Int.reduceToNat,Nat.reduceSub,tyC_eq,qK]
    refine ⟨id, ?_⟩
    simp only [push_cast,Sub,subT,subB,subO,subP,inj,AV.ren,AV.rens,AV.lt,AV.lts,↓reduceIte,Nat.reduceLT,Nat.reduceAdd,Nat.reduceMul,Nat.reduceLeDiff,Nat.reduceEqDiff,reduceCtorEq,Int.reduceLT,Int.reduceLE,Int.reduceEq,Int.reduceNe,Int.reduceAdd,Int.reduceSub,Int.reduceMul,Int.reduceNeg,Int.reduceToNat,Nat.reduceSub]
   ·refine sw_callD (con_l3Copy t.res h7) rfl (aAs_ok ?_) ?_ (sw_run 200 _ _ _ ?_)
    ·simp only [push_cast,aAs,aA,aDs,aD,↓reduceIte,Nat.reduceEqDiff,Nat.reduceLT,Nat.reduceAdd,reduceCtorEq,tyC_eq]
    ·simp only [okR]
    simp only [push_cast,↓reduceIte,Nat.reduceLT,Nat.reduceAdd,Nat.reduceMul,Nat.reduceLeDiff,Nat.reduceEqDiff,reduceCtorEq,Int.reduceLT,Int.reduceLE,Int.reduceEq,Int.reduceNe,Int.reduceAdd,Int.reduceSub,Int.reduceMul,Int.reduceNeg,Int.reduceToNat,Nat.reduceSub,tyC_eq,qK]
    refine ⟨rn2 3 4 4 3, ?_⟩
    simp only [push_cast,Sub,subT,subB,subO,subP,inj,AV.ren,AV.rens,AV.lt,AV.lts,↓reduceIte,Nat.reduceLT,Nat.reduceAdd,Nat.reduceMul,Nat.reduceLeDiff,Nat.reduceEqDiff,reduceCtorEq,Int.reduceLT,Int.reduceLE,Int.reduceEq,Int.reduceNe,Int.reduceAdd,Int.reduceSub,Int.reduceMul,Int.reduceNeg,Int.reduceToNat,Nat.reduceSub,rn2]
  ·refine sw_callD (con_l3Copy t.ty h5) rfl (aAs_ok ?_) ?_ (sw_run 200 _ _ _ ?_)
   ·simp only [push_cast,aAs,aA,aDs,aD,↓reduceIte,Nat.reduceEqDiff,Nat.reduceLT,Nat.reduceAdd,reduceCtorEq,tyC_eq]
   ·simp only [okR]
   simp only [push_cast,↓reduceIte,Nat.reduceLT,Nat.reduceAdd,Nat.reduceMul,Nat.reduceLeDiff,Nat.reduceEqDiff,reduceCtorEq,Int.reduceLT,Int.reduceLE,Int.reduceEq,Int.reduceNe,Int.reduceAdd,Int.reduceSub,Int.reduceMul,Int.reduceNeg,Int.reduceToNat,Nat.reduceSub,tyC_eq]
   refine sw_callD (con_l3Copy t.res h7) rfl (aAs_ok ?_) ?_ (sw_run 200 _ _ _ ?_)
   ·simp only [push_cast,aAs,aA,aDs,aD,↓reduceIte,Nat.reduceEqDiff,Nat.reduceLT,Nat.reduceAdd,reduceCtorEq,tyC_eq]
   ·simp only [okR]
   simp only [push_cast,↓reduceIte,Nat.reduceLT,Nat.reduceAdd,Nat.reduceMul,Nat.reduceLeDiff,Nat.reduceEqDiff,reduceCtorEq,Int.reduceLT,Int.reduceLE,Int.reduceEq,Int.reduceNe,Int.reduceAdd,Int.reduceSub,Int.reduceMul,Int.reduceNeg,Int.reduceToNat,Nat.reduceSub,tyC_eq,qK]
   refine ⟨rn3 2 3 3 4 4 2, ?_⟩
   simp only [push_cast,Sub,subT,subB,subO,subP,inj,AV.ren,AV.rens,AV.lt,AV.lts,↓reduceIte,Nat.reduceLT,Nat.reduceAdd,Nat.reduceMul,Nat.reduceLeDiff,Nat.reduceEqDiff,reduceCtorEq,Int.reduceLT,Int.reduceLE,Int.reduceEq,Int.reduceNe,Int.reduceAdd,Int.reduceSub,Int.reduceMul,Int.reduceNeg,Int.reduceToNat,Nat.reduceSub,rn3]
 simp only [push_cast,↓reduceIte,Nat.reduceLT,Nat.reduceAdd,Nat.reduceMul,Nat.reduceLeDiff,Nat.reduceEqDiff,reduceCtorEq,Int.reduceLT,Int.reduceLE,Int.reduceEq,Int.reduceNe,Int.reduceAdd,Int.reduceSub,Int.reduceMul,Int.reduceNeg,Int.reduceToNat,Nat.reduceSub]
 refine sw_ownB 4 8 29 rfl rfl ?_
 refine sw_loop (fun k:Nat=>k≤t.args.length) (fun k=>⟨39,[(4,.i k),(1,.bx 0 0),(2,.bx 1 0),(3,.bx 4 0)],[(0,[.i t.kind,.s t.name,.s t.other,.i t.n,.i t.ty.kind,.br (.rows 2 t.ty.args.length (tysC t.ty.args)),.i t.res.kind,.br (.rows 2 t.res.args.length (tysC t.res.args)),.br (.rows 9 t.args.length (tmsC t.args))]),(1,[.i 0,.s ⟨#[]⟩,.s ⟨#[]⟩,.i 0,.i 0,.nl 2,.i 0,.nl 2,.nl 9]),
   (4,[.i t.kind,.s t.name,.s t.other,.i t.n,.i t.ty.kind,.sl 2,.i t.res.kind,.sl 3,.sl 5])],[(2,some ⟨.rows 2 t.ty.args.length (tysC t.ty.args),none,true⟩),(3,some ⟨.rows 2 t.res.args.length (tysC t.res.args),none,true⟩),(5,some ⟨.rows 9 k (tmsC (t.args.take k)),some 29,true⟩)],6,[]⟩) (fun k=>t.args.length-k) 0 id (Nat.zero_le _) ?_ ?_
 ·simp only [push_cast,Sub,subT,subB,subO,subP,inj,AV.ren,AV.rens,AV.lt,AV.lts,↓reduceIte,Nat.reduceLT,Nat.reduceAdd,Nat.reduceMul,Nat.reduceLeDiff,Nat.reduceEqDiff,reduceCtorEq,Int.reduceLT,Int.reduceLE,Int.reduceEq,Int.reduceNe,Int.reduceAdd,Int.reduceSub,Int.reduceMul,Int.reduceNeg,Int.reduceToNat,Nat.reduceSub,List.take_zero,tmsC]
 ·rintro k hk
  refine sw_run 200 _ _ _ ?_
  by_cases hlt:k<t.args.length
  ·have hi:(k:Int)<(t.args.length:Int):=by omega
   have hR:=tmsC_row' t.args k hlt
   have hm:=mem_bang hlt
   have hs:=szL_tms' t.args k hlt
   simp only [push_cast,↓reduceIte,Nat.reduceLT,Nat.reduceAdd,Nat.reduceMul,Nat.reduceLeDiff,Nat.reduceEqDiff,reduceCtorEq,Int.reduceLT,Int.reduceLE,Int.reduceEq,Int.reduceNe,Int.reduceAdd,Int.reduceSub,Int.reduceMul,Int.reduceNeg,Int.reduceToNat,Nat.reduceSub,hi,hR,tmC_eq]
   refine sw_drawn (.cons 0 true (.cons 1 true (.cons 2 true (.cons 3 true (.cons 4 true (.cons 5 true (.cons 6 true (.cons 7 false (.cons 8 false (.cons 9 false (.cons 10 true (.cons 11 false (.nil))))))))))))) (by kernel_rfl) qLp_panic (by kernel_rfl) (sw_run 200 _ _ _ ?_)
   simp only [push_cast,↓reduceIte,Nat.reduceLT,Nat.reduceAdd,Nat.reduceMul,Nat.reduceLeDiff,Nat.reduceEqDiff,reduceCtorEq,Int.reduceLT,Int.reduceLE,Int.reduceEq,Int.reduceNe,Int.reduceAdd,Int.reduceSub,Int.reduceMul,Int.reduceNeg,Int.reduceToNat,Nat.reduceSub,hi,hR,tmC_eq]
   refine sw_callD (ih _ hm (by omega)) rfl (aAs_ok ?_) ?_ (sw_run 200 _ _ _ ?_)
   ·simp only [push_cast,aAs,aA,aDs,aD,↓reduceIte,Nat.reduceEqDiff,Nat.reduceLT,Nat.reduceAdd,reduceCtorEq,tmC_eq]
   ·simp only [okR]
   simp only [push_cast,↓reduceIte,Nat.reduceLT,Nat.reduceAdd,Nat.reduceMul,Nat.reduceLeDiff,Nat.reduceEqDiff,reduceCtorEq,Int.reduceLT,Int.reduceLE,Int.reduceEq,Int.reduceNe,Int.reduceAdd,Int.reduceSub,Int.reduceMul,Int.reduceNeg,Int.reduceToNat,Nat.reduceSub,tmC_eq]
   refine ⟨⟨fun o ho=>by omega,by unfold maxLen;omega,by omega⟩,by unfold inI;omega,k+1,rn1 5 10,by omega,by omega, ?_⟩
   simp only [push_cast,Sub,subT,subB,subO,subP,inj,AV.ren,AV.rens,AV.lt,AV.lts,↓reduceIte,Nat.reduceLT,Nat.reduceAdd,Nat.reduceMul,Nat.reduceLeDiff,Nat.reduceEqDiff,reduceCtorEq,Int.reduceLT,Int.reduceLE,Int.reduceEq,Int.reduceNe,Int.reduceAdd,Int.reduceSub,Int.reduceMul,Int.reduceNeg,Int.reduceToNat,Nat.reduceSub,rn1,cast1,tmsC_snoc' t.args k hlt,tmC_eq]
  ·have hi:¬ (k:Int)<(t.args.length:Int):=by omega
   obtain rfl:k=t.args.length:=by omega
   simp only [push_cast,↓reduceIte,Nat.reduceLT,Nat.reduceAdd,Nat.reduceMul,Nat.reduceLeDiff,Nat.reduceEqDiff,reduceCtorEq,Int.reduceLT,Int.reduceLE,Int.reduceEq,Int.reduceNe,Int.reduceAdd,Int.reduceSub,Int.reduceMul,Int.reduceNeg,Int.reduceToNat,Nat.reduceSub,hi]
   refine sw_run 200 _ _ _ ?_
   simp only [push_cast,↓reduceIte,Nat.reduceLT,Nat.reduceAdd,Nat.reduceMul,Nat.reduceLeDiff,Nat.reduceEqDiff,reduceCtorEq,Int.reduceLT,Int.reduceLE,Int.reduceEq,Int.reduceNe,Int.reduceAdd,Int.reduceSub,Int.reduceMul,Int.reduceNeg,Int.reduceToNat,Nat.reduceSub,List.take_length,Tryz.ntmps88,Tryz.results88]
end Go.Proofs.YtaidalilfmjfgaaGreat
