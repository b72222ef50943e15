import Derived.Test.YtaidalilfmjfgaaGreatAll
import Derived.Test.YtaidalilfmjfgaaGreatNm
import Derived.Test.YtaidalilfmjfgaaGreatEqT
namespace Go.Proofs.YtaidalilfmjfgaaGreat
open Go.Proofs.Tryz
open Go.RowKit
set_option linter.unusedVariables false
set_option linter.unusedSimpArgs false
set_option maxRecDepth 20000
theorem pc (p:Prop):(p=True)∨(p=False):=by
 by_cases h:p
 ·exact .inl (eq_true h)
 ·exact .inr (eq_false h)
def CQ (s:ByteArray):Int:=if s=⟨#[43]⟩ then 2 else if s=⟨#[45]⟩ then 2 else if s=⟨#[42]⟩ then 2 else if s=⟨#[61]⟩ then 2 else if s=⟨#[60]⟩ then 2 else if s=⟨#[38]⟩ then 2 else if s=⟨#[124]⟩ then 2 else if s=⟨#[33]⟩ then 1 else 0
theorem Ge (s:ByteArray):((s=⟨#[43]⟩)=True∨((s=⟨#[43]⟩)=False∧((s=⟨#[45]⟩)=True∨((s=⟨#[45]⟩)=False∧((s=⟨#[42]⟩)=True∨((s=⟨#[42]⟩)=False∧((s=⟨#[61]⟩)=True∨((s=⟨#[61]⟩)=False∧((s=⟨#[60]⟩)=True∨((s=⟨#[60]⟩)=False∧((s=⟨#[38]⟩)=True∨((s=⟨#[38]⟩)=False∧((s=⟨#[124]⟩)=True∨((s=⟨#[124]⟩)=False∧((s=⟨#[33]⟩)=True∨(s=⟨#[33]⟩)=False))))))))))))))):=by
 refine (pc _).imp id fun h0=>⟨h0, ?_⟩
 refine (pc _).imp id fun h1=>⟨h1, ?_⟩
 refine (pc _).imp id fun h2=>⟨h2, ?_⟩
 refine (pc _).imp id fun h3=>⟨h3, ?_⟩
 refine (pc _).imp id fun h4=>⟨h4, ?_⟩
 refine (pc _).imp id fun h5=>⟨h5, ?_⟩
 refine (pc _).imp id fun h6=>⟨h6, ?_⟩
 exact pc _
theorem SE (s:ByteArray):Con prog 224 [.one (.str s)] [.one (.int (CQ s))]:=by
 unfold CQ
 rcases Ge s with h0 | ⟨h0,h1 | ⟨h1,h2 | ⟨h2,h3 | ⟨h3,h4 | ⟨h4,h5 | ⟨h5,h6 | ⟨h6,h7 | h7⟩⟩⟩⟩⟩⟩⟩
 all_goals
  refine Af func224 rfl rfl (by simp [ntmps224]) ?_
  simp only [push_cast,↓reduceIte,Nat.reduceLT,Nat.reduceEqDiff,reduceCtorEq, *,ntmps224,results224]
theorem FR (s:ByteArray):Con prog 225 [.one (.str s)] [.one (.int (CQ s))]:=by
 unfold CQ
 rcases Ge s with h0 | ⟨h0,h1 | ⟨h1,h2 | ⟨h2,h3 | ⟨h3,h4 | ⟨h4,h5 | ⟨h5,h6 | ⟨h6,h7 | h7⟩⟩⟩⟩⟩⟩⟩
 all_goals
  refine Af func225 rfl rfl (by simp [ntmps225]) ?_
  simp only [push_cast,↓reduceIte,Nat.reduceLT,Nat.reduceEqDiff,reduceCtorEq, *,ntmps225,results225]
theorem Pi (s:ByteArray):0≤CQ s∧CQ s≤2:=by
 unfold CQ
 rcases Ge s with h0 | ⟨h0,h1 | ⟨h1,h2 | ⟨h2,h3 | ⟨h3,h4 | ⟨h4,h5 | ⟨h5,h6 | ⟨h6,h7 | h7⟩⟩⟩⟩⟩⟩⟩
 all_goals
  simp only [*,if_true,if_false]
  omega
def ks (k:Int):Prop:=k≠1∧k≠2∧k≠3∧k≠4∧k≠5∧k≠6∧k≠7∧k≠8∧k≠9∧k≠10∧k≠11∧k≠12∧k≠13
theorem GX (k:Int):k=1∨k=2∨k=3∨k=4∨k=5∨k=6∨k=7∨k=8∨k=9∨k=10∨k=11∨k=12∨k=13∨((k=1)=False∧(k=2)=False∧(k=3)=False∧(k=4)=False∧(k=5)=False∧(k=6)=False∧(k=7)=False∧(k=8)=False∧(k=9)=False∧(k=10)=False∧(k=11)=False∧(k=12)=False∧(k=13)=False):=by
 by_cases h:1≤k∧k≤13
 ·have:k=1∨k=2∨k=3∨k=4∨k=5∨k=6∨k=7∨k=8∨k=9∨k=10∨k=11∨k=12∨k=13:=by omega
  rcases this with h | h | h | h | h | h | h | h | h | h | h | h | h
  all_goals simp only [h,true_or,or_true]
 ·refine .inr (.inr (.inr (.inr (.inr (.inr (.inr (.inr (.inr (.inr (.inr (.inr (.inr ?_))))))))))))
  refine ⟨?_, ?_, ?_, ?_, ?_, ?_, ?_, ?_, ?_, ?_, ?_, ?_, ?_⟩ <;> exact eq_false (by omega)
def arF (d k:Int) (s:ByteArray):Int:=if k=1 then 0 else if k=2 then 0 else if k=3 then 0 else if k=4 then CQ s else if k=5 then 3 else if k=6 then 1 else if k=7 then 2 else if k=8 then 2 else if k=9 then 1 else if k=10 then 1 else if k=11 then 1 else if k=12 then 1 else if k=13 then 1 else d
theorem DD (t:Tm):Con prog 190 [.ag (tmC t)] [.one (.int (arF (-1) t.kind t.name))]:=by
 have hO:=FR t.name
 obtain ⟨k,s,o,n,⟨tk,ta⟩,⟨rk,ra⟩,xs⟩:=t
 simp only [Tm.kind,Tm.name] at hO ⊢
 rcases GX k with rfl | rfl | rfl | rfl | rfl | rfl | rfl | rfl | rfl | rfl | rfl | rfl | rfl | ⟨g1,g2,g3,g4,g5,g6,g7,g8,g9,g10,g11,g12,g13⟩
 case inr.inr.inr.inl =>
  simp only [arF,if_true,if_false,Int.reduceEq]
  refine Af func190 rfl rfl (by simp [ntmps190]) ?_
  refine byP (fc tmC.eq_1 (fc tyC.eq_1 ntmps190)) ?_
  refine Kc hO ?_
  exact rG results190 tI
 all_goals
  simp only [arF, *,if_true,if_false,Int.reduceEq]
  refine Af func190 rfl rfl (by simp [ntmps190]) ?_
  simp only [push_cast,↓reduceIte,Nat.reduceLT,Nat.reduceEqDiff,reduceCtorEq,Int.reduceEq,Int.reduceNeg,tmC,tyC, *,ntmps190,results190]
def zB (t:Ty):Bool:=decide (t.kind=0) && decide ((t.args.length:Int)=0)
theorem JF (t:Ty):Con prog 246 [.ag (tyC t)] [.one (.bool (zB t))]:=by
 unfold zB
 obtain ⟨k,xs⟩:=t
 simp only [Ty.kind,Ty.args]
 rcases pc (k=0) with h | h
 all_goals rcases pc ((xs.length:Int)=0) with h2 | h2
 all_goals
  refine Af func246 rfl rfl (by simp [ntmps246]) ?_
  simp only [push_cast,↓reduceIte,Nat.reduceLT,Nat.reduceEqDiff,reduceCtorEq,tyC, *,ntmps246,results246]
def nmF (k:Int) (s o:ByteArray):Bool:=if k=4 then decide (0<CQ s) && decide (o=⟨#[]⟩) else if k=1 then nmB s && decide (o=⟨#[]⟩) else if k=6 then nmB s && decide (o=⟨#[]⟩) else if k=8 then nmB s && decide (o=⟨#[]⟩) else if k=9 then nmB s && (nmB o && !decide (s=o)) else decide (s=⟨#[]⟩) && decide (o=⟨#[]⟩)
theorem aCk {t:Tm} {B:Nat} (h:szL (tmC t)≤B):t.name.size≤B∧t.other.size≤B:=by
 rw [Ak] at h;simp only [szL,szD] at h;omega
theorem MG (t:Tm) (hz:szL (tmC t)≤1000000000):Con prog 247 [.ag (tmC t)] [.one (.bool (nmF t.kind t.name t.other))]:=by
 have hO:=FR t.name
 have hN:=Ii t.name (aCk hz).1
 have hM:=Ii t.other (aCk hz).2
 obtain ⟨k,s,o,n,⟨tk,ta⟩,⟨rk,ra⟩,xs⟩:=t
 simp only [Tm.kind,Tm.name,Tm.other] at hO hN hM ⊢
 clear hz
 rcases GX k with rfl | rfl | rfl | rfl | rfl | rfl | rfl | rfl | rfl | rfl | rfl | rfl | rfl | ⟨g1,g2,g3,g4,g5,g6,g7,g8,g9,g10,g11,g12,g13⟩
 case inr.inr.inr.inl =>
  simp only [nmF,if_true,if_false,Int.reduceEq]
  generalize CQ s=a at *
  refine Af func247 rfl rfl (by simp [ntmps247]) ?_
  refine byP (fc tmC.eq_1 (fc tyC.eq_1 ntmps247)) ?_
  refine As hO rfl (Am ?_) ?_ (Aa 200 _ _ _ ?_)
  ·exact byQ tI
  ·simp only [okR]
  rcases pc ((0:Int)<a) with h | h
  all_goals rcases pc (o=⟨#[]⟩) with h2 | h2
  all_goals simp only [push_cast,↓reduceIte,Nat.reduceLT,Nat.reduceEqDiff,reduceCtorEq, *,results247]
 case inl | inr.inr.inr.inr.inr.inl | inr.inr.inr.inr.inr.inr.inr.inl =>
  simp only [nmF,if_true,if_false,Int.reduceEq]
  generalize nmB s=a at *
  refine Af func247 rfl rfl (by simp [ntmps247]) ?_
  refine byP (fc tmC.eq_1 (fc tyC.eq_1 ntmps247)) ?_
  refine As hN rfl (Am ?_) ?_ (Aa 200 _ _ _ ?_)
  ·exact byQ tI
  ·simp only [okR]
  cases a
  all_goals rcases pc (o=⟨#[]⟩) with h2 | h2
  all_goals simp only [push_cast,↓reduceIte,Nat.reduceLT,Nat.reduceEqDiff,reduceCtorEq, *,results247]
 case inr.inr.inr.inr.inr.inr.inr.inr.inl =>
  simp only [nmF,if_true,if_false,Int.reduceEq]
  generalize nmB s=a at *
  generalize nmB o=b at *
  refine Af func247 rfl rfl (by simp [ntmps247]) ?_
  refine byP (fc tmC.eq_1 (fc tyC.eq_1 ntmps247)) ?_
  refine As hN rfl (Am ?_) ?_ (Aa 200 _ _ _ ?_)
  ·exact byQ tI
  ·simp only [okR]
  cases a
  ·exact byP results247 tI
  refine byQ ?_
  refine As hM rfl (Am ?_) ?_ (Aa 200 _ _ _ ?_)
  ·exact byQ tI
  ·simp only [okR]
  rcases pc (s=o) with h | h
  all_goals cases b
  all_goals simp only [push_cast,↓reduceIte,Nat.reduceLT,Nat.reduceEqDiff,reduceCtorEq, *,results247]
 all_goals
  simp only [nmF, *,if_false,Int.reduceEq]
  rcases pc (s=⟨#[]⟩) with h | h
 all_goals rcases pc (o=⟨#[]⟩) with h2 | h2
 all_goals
  simp only [h,h2,decide_true,decide_false,Bool.and_true,Bool.and_false]
  refine Af func247 rfl rfl (by simp [ntmps247]) ?_
  simp only [push_cast,↓reduceIte,Nat.reduceLT,Nat.reduceEqDiff,reduceCtorEq,Int.reduceEq,tmC,tyC, *,ntmps247,results247]
end Go.Proofs.YtaidalilfmjfgaaGreat
