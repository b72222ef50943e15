import Derived.Test.YtaidalilfmjfgaaGreatTmW
import Derived.Test.YtaidalilfmjfgaaGreatLp
import Derived.Test.YtaidalilfmjfgaaGreatBy
namespace Go.Proofs.YtaidalilfmjfgaaGreat
open Go.RowKit
set_option linter.unusedVariables false
set_option linter.unusedSimpArgs false
set_option maxRecDepth 20000
def wN (t:Tm):ByteArray:=if t.kind=1 then t.name else if t.kind=8 then t.name else if t.kind=4 then t.name else if t.kind=6 then t.name else if t.kind=9 then t.name else ⟨#[]⟩
def wO (t:Tm):ByteArray:=if t.kind=9 then t.other else ⟨#[]⟩
def wI (t:Tm):Int:=if t.kind=2 then t.n else if t.kind=3 then t.n else 0
def wT (t:Tm):Ty:=if t.kind=6 then t.ty else if t.kind=9 then t.ty else .mk 0 []
def wR (t:Tm):Ty:=if t.kind=9 then t.res else .mk 0 []
def isFm (t:Tm):Bool:=decide ((t.args.length:Int)=arF 0 t.kind t.name) && (isNm t && (decide (t.name=wN t) && (decide (t.other=wO t) && (decide (t.n=wI t) && (eqTy t.ty (wT t) && eqTy t.res (wR t))))))
theorem isFm_eq (t:Tm):isFm t=(decide ((t.args.length:Int)=arF 0 t.kind t.name) && (isNm t && (decide (t.name=wN t) && (decide (t.other=wO t) && (decide (t.n=wI t) && (eqTy t.ty (wT t) && eqTy t.res (wR t))))))):=rfl
set_option maxHeartbeats 8000000 in
theorem con_isFormA (t:Tm) (hz:szL (tmC t)≤1000000000) (hk:t.kind=1∨t.kind=8∨t.kind=4):Con Tryz.prog 187 [.ag (tmC t)] [.one (.bool (isFm t))]:=by
 have hA:=con_arityI t
 have hN:=con_isNamed t hz
 have hT:=con_EqTyI t.ty (wT t) (sz_partsE hz).1
 have hR:=con_EqTyI t.res (wR t) (sz_partsE hz).2.1
 rw [isFm_eq]
 generalize isNm t=a at *
 generalize arF 0 t.kind t.name=ar at *
 generalize eqTy t.ty (wT t)=cT at *
 generalize eqTy t.res (wR t)=cR at *
 obtain ⟨k,s,o,n,⟨tk,ta⟩,⟨rk,ra⟩,xs⟩:=t
 simp only [Tm.kind,Tm.name,Tm.other,Tm.n,Tm.ty,Tm.res,Tm.args,wN,wO,wI,wT,wR] at hA hN hT hR hk ⊢
 clear hz
 rcases hk with rfl | rfl | rfl
 all_goals
  simp only [if_true,if_false,Int.reduceEq,decide_true,Bool.true_and] at hT hR ⊢
  simp only [tyC,tysC,List.length_nil,tmC] at hA hN hT hR
  refine con_run Tryz.func187 rfl rfl (by simp [Tryz.ntmps187]) ?_
  refine byP (fc tmC.eq_1 (fc tyC.eq_1 Tryz.ntmps187)) ?_
  refine sw_drawn (.cons 0 true (.cons 1 true (.cons 2 true (.cons 3 true (.cons 4 false (.cons 5 true (.nil))))))) (by kernel_rfl) fQ_panic (by kernel_rfl) (sw_run 200 _ _ _ ?_)
  refine byQ ?_
  refine sw_callD hA rfl (aAs_ok ?_) ?_ (sw_run 200 _ _ _ ?_)
  ·exact byQ True.intro
  ·simp only [okR]
  rcases pc ((xs.length:Int)=ar) with hl | hl
  case inr=>simp only [push_cast,↓reduceIte,Nat.reduceLT,Nat.reduceEqDiff,reduceCtorEq,hl,Tryz.results187]
  refine byP hl ?_
  refine sw_call hN rfl (aAs_ok ?_) ?_ (sw_run 200 _ _ _ ?_)
  ·exact byQ True.intro
  ·simp only [okR]
  cases a
  case false=>simp only [push_cast,↓reduceIte,Nat.reduceLT,Nat.reduceEqDiff,reduceCtorEq,Tryz.results187]
  rcases pc (o=⟨#[]⟩) with h0 | h0
  case inr=>simp only [push_cast,↓reduceIte,Nat.reduceLT,Nat.reduceEqDiff,reduceCtorEq,h0,Tryz.results187]
  rcases pc (n=0) with h1 | h1
  case inr=>simp only [push_cast,↓reduceIte,Nat.reduceLT,Nat.reduceEqDiff,reduceCtorEq,h0,h1,Tryz.results187]
  refine byP (fc h0 h1) ?_
  refine sw_call hT rfl (aAs_ok ?_) ?_ (sw_run 200 _ _ _ ?_)
  ·exact byQ True.intro
  ·simp only [okR]
  cases cT
  case false=>simp only [push_cast,↓reduceIte,Nat.reduceLT,Nat.reduceEqDiff,reduceCtorEq,Tryz.results187]
  refine byQ ?_
  refine sw_call hR rfl (aAs_ok ?_) ?_ (sw_run 200 _ _ _ ?_)
  ·exact byQ True.intro
  ·simp only [okR]
  exact byP Tryz.results187 True.intro
set_option maxHeartbeats 8000000 in
theorem con_isFormB (t:Tm) (hz:szL (tmC t)≤1000000000) (hk:t.kind=2∨t.kind=3):Con Tryz.prog 187 [.ag (tmC t)] [.one (.bool (isFm t))]:=by
 have hA:=con_arityI t
 have hN:=con_isNamed t hz
 have hT:=con_EqTyI t.ty (wT t) (sz_partsE hz).1
 have hR:=con_EqTyI t.res (wR t) (sz_partsE hz).2.1
 rw [isFm_eq]
 generalize isNm t=a at *
 generalize arF 0 t.kind t.name=ar at *
 generalize eqTy t.ty (wT t)=cT at *
 generalize eqTy t.res (wR t)=cR at *
 obtain ⟨k,s,o,n,⟨tk,ta⟩,⟨rk,ra⟩,xs⟩:=t
 simp only [Tm.kind,Tm.name,Tm.other,Tm.n,Tm.ty,Tm.res,Tm.args,wN,wO,wI,wT,wR] at hA hN hT hR hk ⊢
 clear hz
 rcases hk with rfl | rfl
 all_goals
  simp only [if_true,if_false,Int.reduceEq,decide_true,Bool.true_and] at hT hR ⊢
  simp only [tyC,tysC,List.length_nil,tmC] at hA hN hT hR
  refine con_run Tryz.func187 rfl rfl (by simp [Tryz.ntmps187]) ?_
  refine byP (fc tmC.eq_1 (fc tyC.eq_1 Tryz.ntmps187)) ?_
  refine sw_drawn (.cons 0 true (.cons 1 true (.cons 2 true (.cons 3 true (.cons 4 false (.cons 5 true (.nil))))))) (by kernel_rfl) fQ_panic (by kernel_rfl) (sw_run 200 _ _ _ ?_)
  refine byQ ?_
  refine sw_callD hA rfl (aAs_ok ?_) ?_ (sw_run 200 _ _ _ ?_)
  ·exact byQ True.intro
  ·simp only [okR]
  rcases pc ((xs.length:Int)=ar) with hl | hl
  case inr=>simp only [push_cast,↓reduceIte,Nat.reduceLT,Nat.reduceEqDiff,reduceCtorEq,hl,Tryz.results187]
  refine byP hl ?_
  refine sw_call hN rfl (aAs_ok ?_) ?_ (sw_run 200 _ _ _ ?_)
  ·exact byQ True.intro
  ·simp only [okR]
  cases a
  case false=>simp only [push_cast,↓reduceIte,Nat.reduceLT,Nat.reduceEqDiff,reduceCtorEq,Tryz.results187]
  rcases pc (s=⟨#[]⟩) with h0 | h0
  case inr=>simp only [push_cast,↓reduceIte,Nat.reduceLT,Nat.reduceEqDiff,reduceCtorEq,h0,Tryz.results187]
  rcases pc (o=⟨#[]⟩) with h1 | h1
  case inr=>simp only [push_cast,↓reduceIte,Nat.reduceLT,Nat.reduceEqDiff,reduceCtorEq,h0,h1,Tryz.results187]
  refine byP (fc h0 h1) ?_
  refine sw_call hT rfl (aAs_ok ?_) ?_ (sw_run 200 _ _ _ ?_)
  ·exact byQ True.intro
  ·simp only [okR]
  cases cT
  case false=>simp only [push_cast,↓reduceIte,Nat.reduceLT,Nat.reduceEqDiff,reduceCtorEq,Tryz.results187]
  refine byQ ?_
  refine sw_call hR rfl (aAs_ok ?_) ?_ (sw_run 200 _ _ _ ?_)
  ·exact byQ True.intro
  ·simp only [okR]
  exact byP Tryz.results187 True.intro
set_option maxHeartbeats 8000000 in
theorem con_isFormC (t:Tm) (hz:szL (tmC t)≤1000000000) (hk:t.kind=6):Con Tryz.prog 187 [.ag (tmC t)] [.one (.bool (isFm t))]:=by
 have hA:=con_arityI t
 have hN:=con_isNamed t hz
 have hT:=con_EqTyI t.ty (wT t) (sz_partsE hz).1
 have hR:=con_EqTyI t.res (wR t) (sz_partsE hz).2.1
 rw [isFm_eq]
 generalize isNm t=a at *
 generalize arF 0 t.kind t.name=ar at *
 generalize eqTy t.ty (wT t)=cT at *
 generalize eqTy t.res (wR t)=cR at *
 obtain ⟨k,s,o,n,⟨tk,ta⟩,⟨rk,ra⟩,xs⟩:=t
 simp only [Tm.kind,Tm.name,Tm.other,Tm.n,Tm.ty,Tm.res,Tm.args,wN,wO,wI,wT,wR] at hA hN hT hR hk ⊢
 clear hz
 subst hk
 all_goals
  simp only [if_true,if_false,Int.reduceEq,decide_true,Bool.true_and] at hT hR ⊢
  simp only [tyC,tysC,List.length_nil,tmC] at hA hN hT hR
  refine con_run Tryz.func187 rfl rfl (by simp [Tryz.ntmps187]) ?_
  refine byP (fc tmC.eq_1 (fc tyC.eq_1 Tryz.ntmps187)) ?_
  refine sw_drawn (.cons 0 true (.cons 1 true (.cons 2 true (.cons 3 true (.cons 4 false (.cons 5 true (.nil))))))) (by kernel_rfl) fQ_panic (by kernel_rfl) (sw_run 200 _ _ _ ?_)
  refine byQ ?_
  refine sw_callD hA rfl (aAs_ok ?_) ?_ (sw_run 200 _ _ _ ?_)
  ·exact byQ True.intro
  ·simp only [okR]
  rcases pc ((xs.length:Int)=ar) with hl | hl
  case inr=>simp only [push_cast,↓reduceIte,Nat.reduceLT,Nat.reduceEqDiff,reduceCtorEq,hl,Tryz.results187]
  refine byP hl ?_
  refine sw_drawnKr id ⟨91,[(1,.bx 0 0),(2,.b false),(3,.bx 1 0)],[(0,[.i 6,.s s,.s o,.i n,.i tk,.br (.rows 2 ta.length (tysC ta)),.i rk,.br (.rows 2 ra.length (tysC ra)),.br (.rows 9 xs.length (tmsC xs))]),(1,[.i 6,.s s,.s ⟨#[]⟩,.i 0,.i tk,.br (.rows 2 ta.length (tysC ta)),.i 0,.nl 2,.nl 9])],[],2,[]⟩ (.cons 0 true (.cons 1 true (.cons 4 true (.fork (.alt 2 (.fork (.alt 3 (.cons 5 false (.cons 6 true (.cons 7 false (.nil)))) (.alt 5 (.cons 3 true (.cons 6 true (.cons 7 false (.nil)))) (.last)))) (.alt 5 (.cons 2 true (.cons 3 true (.cons 6 true (.cons 7 false (.nil))))) (.last))))))) (by kernel_rfl) (by kernel_rfl) (sw_run 200 _ _ _ ?_) (sw_run 200 _ _ _ ?_)
  ·exact byP qKr.eq_1 True.intro
  refine byQ ?_
  refine sw_call hN rfl (aAs_ok ?_) ?_ (sw_run 200 _ _ _ ?_)
  ·exact byQ True.intro
  ·simp only [okR]
  cases a
  case false=>simp only [push_cast,↓reduceIte,Nat.reduceLT,Nat.reduceEqDiff,reduceCtorEq,Tryz.results187]
  rcases pc (o=⟨#[]⟩) with h0 | h0
  case inr=>simp only [push_cast,↓reduceIte,Nat.reduceLT,Nat.reduceEqDiff,reduceCtorEq,h0,Tryz.results187]
  rcases pc (n=0) with h1 | h1
  case inr=>simp only [push_cast,↓reduceIte,Nat.reduceLT,Nat.reduceEqDiff,reduceCtorEq,h0,h1,Tryz.results187]
  refine byP (fc h0 h1) ?_
  refine sw_call hT rfl (aAs_ok ?_) ?_ (sw_run 200 _ _ _ ?_)
  ·exact byQ True.intro
  ·simp only [okR]
  cases cT
  case false=>simp only [push_cast,↓reduceIte,Nat.reduceLT,Nat.reduceEqDiff,reduceCtorEq,Tryz.results187]
  refine byQ ?_
  refine sw_call hR rfl (aAs_ok ?_) ?_ (sw_run 200 _ _ _ ?_)
  ·exact byQ True.intro
  ·simp only [okR]
  exact byP Tryz.results187 True.intro
set_option maxHeartbeats 8000000 in
theorem con_isFormE (t:Tm) (hz:szL (tmC t)≤1000000000) (hk:(t.kind=5∨t.kind=7∨t.kind=10∨t.kind=11∨t.kind=12∨t.kind=13)):Con Tryz.prog 187 [.ag (tmC t)] [.one (.bool (isFm t))]:=by
 have hA:=con_arityI t
 have hN:=con_isNamed t hz
 have hT:=con_EqTyI t.ty (wT t) (sz_partsE hz).1
 have hR:=con_EqTyI t.res (wR t) (sz_partsE hz).2.1
 rw [isFm_eq]
 generalize isNm t=a at *
 generalize arF 0 t.kind t.name=ar at *
 generalize eqTy t.ty (wT t)=cT at *
 generalize eqTy t.res (wR t)=cR at *
 obtain ⟨k,s,o,n,⟨tk,ta⟩,⟨rk,ra⟩,xs⟩:=t
 simp only [Tm.kind,Tm.name,Tm.other,Tm.n,Tm.ty,Tm.res,Tm.args,wN,wO,wI,wT,wR] at hA hN hT hR hk ⊢
 clear hz
 rcases hk with rfl | rfl | rfl | rfl | rfl | rfl
 all_goals
  simp only [if_false,Int.reduceEq] at hT hR ⊢
  simp only [tyC,tysC,List.length_nil,tmC] at hA hN hT hR
  refine con_run Tryz.func187 rfl rfl (by simp [Tryz.ntmps187]) ?_
  refine byP (fc tmC.eq_1 (fc tyC.eq_1 Tryz.ntmps187)) ?_
  refine sw_drawn (.cons 0 true (.cons 1 true (.cons 2 true (.cons 3 true (.cons 4 false (.cons 5 true (.nil))))))) (by kernel_rfl) fQ_panic (by kernel_rfl) (sw_run 200 _ _ _ ?_)
  refine byQ ?_
  refine sw_callD hA rfl (aAs_ok ?_) ?_ (sw_run 200 _ _ _ ?_)
  ·exact byQ True.intro
  ·simp only [okR]
  rcases pc ((xs.length:Int)=ar) with hl | hl
  case inr=>simp only [push_cast,↓reduceIte,Nat.reduceLT,Nat.reduceEqDiff,reduceCtorEq,hl,Tryz.results187]
  refine byP hl ?_
  refine sw_call hN rfl (aAs_ok ?_) ?_ (sw_run 200 _ _ _ ?_)
  ·exact byQ True.intro
  ·simp only [okR]
  cases a
  case false=>simp only [push_cast,↓reduceIte,Nat.reduceLT,Nat.reduceEqDiff,reduceCtorEq,Tryz.results187]
  rcases pc (s=⟨#[]⟩) with h0 | h0
  case inr=>simp only [push_cast,↓reduceIte,Nat.reduceLT,Nat.reduceEqDiff,reduceCtorEq,h0,Tryz.results187]
  rcases pc (o=⟨#[]⟩) with h1 | h1
  case inr=>simp only [push_cast,↓reduceIte,Nat.reduceLT,Nat.reduceEqDiff,reduceCtorEq,h0,h1,Tryz.results187]
  rcases pc (n=0) with h2 | h2
  case inr=>simp only [push_cast,↓reduceIte,Nat.reduceLT,Nat.reduceEqDiff,reduceCtorEq,h0,h1,h2,Tryz.results187]
  refine byP (fc h0 (fc h1 h2)) ?_
  refine sw_call hT rfl (aAs_ok ?_) ?_ (sw_run 200 _ _ _ ?_)
  ·exact byQ True.intro
  ·simp only [okR]
  cases cT
  case false=>simp only [push_cast,↓reduceIte,Nat.reduceLT,Nat.reduceEqDiff,reduceCtorEq,Tryz.results187]
  refine byQ ?_
  refine sw_call hR rfl (aAs_ok ?_) ?_ (sw_run 200 _ _ _ ?_)
  ·exact byQ True.intro
  ·simp only [okR]
  exact byP Tryz.results187 True.intro
set_option maxHeartbeats 8000000 in
theorem con_isFormG (t:Tm) (hz:szL (tmC t)≤1000000000) (hk:(t.kind=1)=False∧(t.kind=2)=False∧(t.kind=3)=False∧(t.kind=4)=False∧(t.kind=5)=False∧(t.kind=6)=False∧(t.kind=7)=False∧(t.kind=8)=False∧(t.kind=9)=False∧(t.kind=10)=False∧(t.kind=11)=False∧(t.kind=12)=False∧(t.kind=13)=False):Con Tryz.prog 187 [.ag (tmC t)] [.one (.bool (isFm t))]:=by
 have hA:=con_arityI t
 have hN:=con_isNamed t hz
 have hT:=con_EqTyI t.ty (wT t) (sz_partsE hz).1
 have hR:=con_EqTyI t.res (wR t) (sz_partsE hz).2.1
 rw [isFm_eq]
 generalize isNm t=a at *
 generalize arF 0 t.kind t.name=ar at *
 generalize eqTy t.ty (wT t)=cT at *
 generalize eqTy t.res (wR t)=cR at *
 obtain ⟨k,s,o,n,⟨tk,ta⟩,⟨rk,ra⟩,xs⟩:=t
 simp only [Tm.kind,Tm.name,Tm.other,Tm.n,Tm.ty,Tm.res,Tm.args,wN,wO,wI,wT,wR] at hA hN hT hR hk ⊢
 clear hz
 obtain ⟨g1,g2,g3,g4,g5,g6,g7,g8,g9,g10,g11,g12,g13⟩:=hk
 all_goals
  simp only [if_false, *] at hT hR ⊢
  simp only [tyC,tysC,List.length_nil,tmC] at hA hN hT hR
  refine con_run Tryz.func187 rfl rfl (by simp [Tryz.ntmps187]) ?_
  refine byP (fc tmC.eq_1 (fc tyC.eq_1 Tryz.ntmps187)) ?_
  refine sw_drawn (.cons 0 true (.cons 1 true (.cons 2 true (.cons 3 true (.cons 4 false (.cons 5 true (.nil))))))) (by kernel_rfl) fQ_panic (by kernel_rfl) (sw_run 200 _ _ _ ?_)
  refine byQ ?_
  refine sw_callD hA rfl (aAs_ok ?_) ?_ (sw_run 200 _ _ _ ?_)
  ·exact byQ True.intro
  ·simp only [okR]
  rcases pc ((xs.length:Int)=ar) with hl | hl
  case inr=>simp only [push_cast,↓reduceIte,Nat.reduceLT,Nat.reduceEqDiff,reduceCtorEq,hl,Tryz.results187]
  simp only [push_cast,↓reduceIte,Nat.reduceLT,Nat.reduceAdd,Nat.reduceLeDiff,Nat.reduceEqDiff,reduceCtorEq, *]
  refine sw_call hN rfl (aAs_ok ?_) ?_ (sw_run 200 _ _ _ ?_)
  ·exact byQ True.intro
  ·simp only [okR]
  cases a
  case false=>simp only [push_cast,↓reduceIte,Nat.reduceLT,Nat.reduceEqDiff,reduceCtorEq,Tryz.results187]
  rcases pc (s=⟨#[]⟩) with h0 | h0
  case inr=>simp only [push_cast,↓reduceIte,Nat.reduceLT,Nat.reduceEqDiff,reduceCtorEq,h0,Tryz.results187]
  rcases pc (o=⟨#[]⟩) with h1 | h1
  case inr=>simp only [push_cast,↓reduceIte,Nat.reduceLT,Nat.reduceEqDiff,reduceCtorEq,h0,h1,Tryz.results187]
  rcases pc (n=0) with h2 | h2
  case inr=>simp only [push_cast,↓reduceIte,Nat.reduceLT,Nat.reduceEqDiff,reduceCtorEq,h0,h1,h2,Tryz.results187]
  refine byP (fc h0 (fc h1 h2)) ?_
  refine sw_call hT rfl (aAs_ok ?_) ?_ (sw_run 200 _ _ _ ?_)
  ·exact byQ True.intro
  ·simp only [okR]
  cases cT
  case false=>simp only [push_cast,↓reduceIte,Nat.reduceLT,Nat.reduceEqDiff,reduceCtorEq,Tryz.results187]
  refine byQ ?_
  refine sw_call hR rfl (aAs_ok ?_) ?_ (sw_run 200 _ _ _ ?_)
  ·exact byQ True.intro
  ·simp only [okR]
  exact byP Tryz.results187 True.intro
end Go.Proofs.YtaidalilfmjfgaaGreat
