import Derived.Test.YtaidalilfmjfgaaGreatTmV
import Derived.Test.YtaidalilfmjfgaaGreatBy
namespace Go.Proofs.YtaidalilfmjfgaaGreat
open Go.RowKit
set_option linter.unusedVariables false
set_option linter.unusedSimpArgs false
set_option maxRecDepth 20000
def rgB (lo hi n:Int):Bool:=decide (lo≤n) && decide (n≤hi)
def isNm (t:Tm):Bool:=if t.kind=1 then nmB t.name else if t.kind=2 then rgB 0 10006 t.n else if t.kind=3 then rgB 0 1 t.n else if t.kind=4 then decide (0<opAr t.name) else if t.kind=6 then nmB t.name && vTy t.ty else if t.kind=8 then nmB t.name else if t.kind=9 then nmB t.name && (nmB t.other && (!decide (t.name=t.other) && (vTy t.ty && vTy t.res))) else rgB 1 13 t.kind
theorem con_isNumR (n:Int):Con Tryz.prog 106 [.one (.int n)] [.one (.bool (rgB 0 10006 n))]:=by
 have h:=con_within n 0 10006
 refine con_run Tryz.func106 rfl rfl (by simp [Tryz.ntmps106]) ?_
 refine byP Tryz.ntmps106 ?_
 refine sw_call h rfl (aAs_ok ?_) ?_ (sw_run 200 _ _ _ ?_)
 ·exact byQ True.intro
 ·simp only [okR]
 exact byP (fc rgB.eq_1 Tryz.results106) True.intro
theorem con_isNamed (t:Tm) (hz:szL (tmC t)≤1000000000):Con Tryz.prog 244 [.ag (tmC t)] [.one (.bool (isNm t))]:=by
 have hO:=con_OpArI t.name
 have hN:=con_IsNameI t.name (sz_so hz).1
 have hM:=con_IsNameI t.other (sz_so hz).2
 have hV:=con_ValidTyI t.ty (sz_partsE hz).1
 have hW:=con_ValidTyI t.res (sz_partsE hz).2.1
 have hI:=con_isNumR t.n
 have hJ:Con Tryz.prog 82 [.one (.int t.n),.one (.int 0),.one (.int 1)] [.one (.bool (rgB 0 1 t.n))]:=con_within t.n 0 1
 have hK:Con Tryz.prog 82 [.one (.int t.kind),.one (.int 1),.one (.int 13)] [.one (.bool (rgB 1 13 t.kind))]:=con_within t.kind 1 13
 unfold isNm
 generalize vTy t.ty=v at *
 generalize vTy t.res=v2 at *
 generalize nmB t.name=a at *
 generalize nmB t.other=b at *
 generalize rgB 0 10006 t.n=c at *
 generalize rgB 0 1 t.n=c2 at *
 generalize rgB 1 13 t.kind=c3 at *
 generalize opAr t.name=e at *
 obtain ⟨k,s,o,n,⟨tk,ta⟩,⟨rk,ra⟩,xs⟩:=t
 simp only [Tm.kind,Tm.name,Tm.other,Tm.n,Tm.ty,Tm.res,tyC] at hO hN hM hV hW hI hJ hK ⊢
 clear hz
 rcases k_cases k with rfl | rfl | rfl | rfl | rfl | rfl | rfl | rfl | rfl | rfl | rfl | rfl | rfl | ⟨g1,g2,g3,g4,g5,g6,g7,g8,g9,g10,g11,g12,g13⟩
 case inl | inr.inr.inr.inr.inr.inr.inr.inl =>
  simp only [if_true,if_false,Int.reduceEq]
  refine con_run Tryz.func244 rfl rfl (by simp [Tryz.ntmps244]) ?_
  refine byP (fc tmC.eq_1 (fc tyC.eq_1 Tryz.ntmps244)) ?_
  refine sw_call hN rfl (aAs_ok ?_) ?_ (sw_run 200 _ _ _ ?_)
  ·exact byQ True.intro
  ·simp only [okR]
  exact byP Tryz.results244 True.intro
 case inr.inl =>
  simp only [if_true,if_false,Int.reduceEq]
  refine con_run Tryz.func244 rfl rfl (by simp [Tryz.ntmps244]) ?_
  refine byP (fc tmC.eq_1 (fc tyC.eq_1 Tryz.ntmps244)) ?_
  refine sw_call hI rfl (aAs_ok ?_) ?_ (sw_run 200 _ _ _ ?_)
  ·exact byQ True.intro
  ·simp only [okR]
  exact byP Tryz.results244 True.intro
 case inr.inr.inl =>
  simp only [if_true,if_false,Int.reduceEq]
  refine con_run Tryz.func244 rfl rfl (by simp [Tryz.ntmps244]) ?_
  refine byP (fc tmC.eq_1 (fc tyC.eq_1 Tryz.ntmps244)) ?_
  refine sw_call hJ rfl (aAs_ok ?_) ?_ (sw_run 200 _ _ _ ?_)
  ·exact byQ True.intro
  ·simp only [okR]
  exact byP Tryz.results244 True.intro
 case inr.inr.inr.inl =>
  simp only [if_true,if_false,Int.reduceEq]
  refine con_run Tryz.func244 rfl rfl (by simp [Tryz.ntmps244]) ?_
  refine byP (fc tmC.eq_1 (fc tyC.eq_1 Tryz.ntmps244)) ?_
  refine sw_call hO rfl (aAs_ok ?_) ?_ (sw_run 200 _ _ _ ?_)
  ·exact byQ True.intro
  ·simp only [okR]
  rcases pc ((0:Int)<e) with h | h
  all_goals simp only [push_cast,↓reduceIte,Nat.reduceLT,reduceCtorEq, *,Tryz.results244]
 case inr.inr.inr.inr.inr.inl =>
  simp only [if_true,if_false,Int.reduceEq]
  refine con_run Tryz.func244 rfl rfl (by simp [Tryz.ntmps244]) ?_
  refine byP (fc tmC.eq_1 (fc tyC.eq_1 Tryz.ntmps244)) ?_
  refine sw_call hN rfl (aAs_ok ?_) ?_ (sw_run 200 _ _ _ ?_)
  ·exact byQ True.intro
  ·simp only [okR]
  cases a
  ·exact byP Tryz.results244 True.intro
  refine byQ ?_
  refine sw_call hV rfl (aAs_ok ?_) ?_ (sw_run 200 _ _ _ ?_)
  ·exact byQ True.intro
  ·simp only [okR]
  exact byP Tryz.results244 True.intro
 case inr.inr.inr.inr.inr.inr.inr.inr.inl =>
  simp only [if_true,if_false,Int.reduceEq]
  refine con_run Tryz.func244 rfl rfl (by simp [Tryz.ntmps244]) ?_
  refine byP (fc tmC.eq_1 (fc tyC.eq_1 Tryz.ntmps244)) ?_
  refine sw_call hN rfl (aAs_ok ?_) ?_ (sw_run 200 _ _ _ ?_)
  ·exact byQ True.intro
  ·simp only [okR]
  cases a
  ·exact byP Tryz.results244 True.intro
  refine byQ ?_
  refine sw_call hM rfl (aAs_ok ?_) ?_ (sw_run 200 _ _ _ ?_)
  ·exact byQ True.intro
  ·simp only [okR]
  cases b
  ·exact byP Tryz.results244 True.intro
  rcases pc (s=o) with h | h
  ·exact byP (fc h Tryz.results244) True.intro
  refine byP h ?_
  refine sw_call hV rfl (aAs_ok ?_) ?_ (sw_run 200 _ _ _ ?_)
  ·exact byQ True.intro
  ·simp only [okR]
  cases v
  ·exact byP Tryz.results244 True.intro
  refine byQ ?_
  refine sw_call hW rfl (aAs_ok ?_) ?_ (sw_run 200 _ _ _ ?_)
  ·exact byQ True.intro
  ·simp only [okR]
  exact byP Tryz.results244 True.intro
 all_goals
  simp only [*,if_false,Int.reduceEq]
  refine con_run Tryz.func244 rfl rfl (by simp [Tryz.ntmps244]) ?_
  simp only [push_cast,↓reduceIte,Nat.reduceLT,Nat.reduceEqDiff,Int.reduceEq,tmC,tyC, *,Tryz.ntmps244]
  refine sw_call hK rfl (aAs_ok ?_) ?_ (sw_run 200 _ _ _ ?_)
  ·exact byQ True.intro
  ·simp only [okR]
  exact byP Tryz.results244 True.intro
end Go.Proofs.YtaidalilfmjfgaaGreat
