import Derived.Test.YtaidalilfmjfgaaGreatTyC
import Derived.Test.YtaidalilfmjfgaaGreatDat
import Derived.Test.YtaidalilfmjfgaaGreatTmV
namespace Go.Proofs.YtaidalilfmjfgaaGreat
open Go.RowKit
set_option linter.unusedVariables false
set_option linter.unusedSimpArgs false
set_option maxRecDepth 20000
def numB (n:Int):Bool:=decide (0≤n) && decide (n≤10006)
structure Shp where
 known:Bool
 h:Int
 d:Int
 b:Int
 deriving Inhabited,DecidableEq
structure Der where
 p:Int
 s:Shp
 deriving Inhabited
def s0:Shp:=⟨true,0,0,0⟩
structure Srch where
 sh:List Shp
 todo:List Int
 bad:Bool
def give (n:Nat) (st:Srch) (y:Der):Srch :=
 if (n:Int)≤y.p then { st with bad:=true }
 else if st.sh[y.p.toNat]!.known=false then ⟨st.sh.set y.p.toNat y.s,st.todo++[y.p],st.bad⟩
 else if st.sh[y.p.toNat]! = y.s then st else { st with bad:=true }
def insB (x:Ins):Bool :=
 if x.op=1 then numB x.a else if x.op=2 then decide (0≤x.a) && decide (x.a≤1) else if x.op=4 then decide (1≤x.a) && decide (x.a≤8)
 else if x.op=3∨x.op=5∨x.op=6∨x.op=7∨x.op=8 then decide (0≤x.a) && decide (x.a≤299) else (decide (9≤x.op) && decide (x.op≤12)) && decide (x.a=0)
def opsL:List ByteArray:=[⟨#[43]⟩,⟨#[45]⟩,⟨#[42]⟩,⟨#[61]⟩,⟨#[60]⟩,⟨#[38]⟩,⟨#[124]⟩,⟨#[33]⟩]
theorem con_opsI:Con Tryz.prog 215 [] [.one (strsD opsL)]:=by
 refine con_run Tryz.func215 rfl rfl (by simp [Tryz.ntmps215]) ?_
 simp only [push_cast,↓reduceIte,Nat.reduceLT,Nat.reduceAdd,Nat.reduceLeDiff,reduceCtorEq,opsL,Tryz.ntmps215,Tryz.results215]
theorem con_opsS:Con Tryz.prog 220 [] [.one (strsD opsL)]:=by
 refine con_run Tryz.func220 rfl rfl (by simp [Tryz.ntmps220]) ?_
 simp only [push_cast,↓reduceIte,Nat.reduceLT,Nat.reduceAdd,Nat.reduceLeDiff,reduceCtorEq,opsL,Tryz.ntmps220,Tryz.results220]
theorem con_IsInstrS (x:Ins):Con Tryz.prog 15 [.ag (insC x)] [.one (.bool (insB x))]:=by
 obtain ⟨op,a⟩:=x
 by_cases hop:1≤op∧op≤8
 ·rcases (show op=1∨op=2∨op=3∨op=4∨op=5∨op=6∨op=7∨op=8 by omega) with rfl | rfl | rfl | rfl | rfl | rfl | rfl | rfl
  ·refine con_run Tryz.func15 rfl rfl (by simp [Tryz.ntmps15]) ?_
   simp only [push_cast,↓reduceIte,Nat.reduceLT,Nat.reduceEqDiff,insC,Tryz.ntmps15]
   refine sw_call (con_l1In a 0 10006) rfl (aAs_ok ?_) ?_ (sw_run 200 _ _ _ ?_)
   ·simp only [push_cast,aAs,aA,aD,↓reduceIte]
   ·simp only [okR]
   simp only [push_cast,↓reduceIte,Nat.reduceLT,reduceCtorEq,insB,numB,Tryz.results15]
  ·refine con_run Tryz.func15 rfl rfl (by simp [Tryz.ntmps15]) ?_
   simp only [push_cast,↓reduceIte,Nat.reduceLT,Nat.reduceEqDiff,Int.reduceEq,insC,Tryz.ntmps15]
   refine sw_call (con_l1In a 0 1) rfl (aAs_ok ?_) ?_ (sw_run 200 _ _ _ ?_)
   ·simp only [push_cast,aAs,aA,aD,↓reduceIte]
   ·simp only [okR]
   simp only [push_cast,↓reduceIte,Nat.reduceLT,reduceCtorEq,Int.reduceEq,insB,Tryz.results15]
  ·refine con_run Tryz.func15 rfl rfl (by simp [Tryz.ntmps15]) ?_
   simp only [push_cast,↓reduceIte,Nat.reduceLT,Nat.reduceEqDiff,Int.reduceEq,insC,Tryz.ntmps15]
   refine sw_call (con_l1In a 0 299) rfl (aAs_ok ?_) ?_ (sw_run 200 _ _ _ ?_)
   ·simp only [push_cast,aAs,aA,aD,↓reduceIte]
   ·simp only [okR]
   simp only [push_cast,↓reduceIte,Nat.reduceLT,reduceCtorEq,Int.reduceEq,insB,Tryz.results15]
  ·refine con_run Tryz.func15 rfl rfl (by simp [Tryz.ntmps15]) ?_
   simp only [push_cast,↓reduceIte,Nat.reduceLT,Nat.reduceEqDiff,Int.reduceEq,insC,Tryz.ntmps15]
   refine sw_call (con_l1In a 1 8) rfl (aAs_ok ?_) ?_ (sw_run 200 _ _ _ ?_)
   ·simp only [push_cast,aAs,aA,aD,↓reduceIte]
   ·simp only [okR]
   simp only [push_cast,↓reduceIte,Nat.reduceLT,reduceCtorEq,Int.reduceEq,insB,Tryz.results15]
  ·refine con_run Tryz.func15 rfl rfl (by simp [Tryz.ntmps15]) ?_
   simp only [push_cast,↓reduceIte,Nat.reduceLT,Nat.reduceEqDiff,Int.reduceEq,insC,Tryz.ntmps15]
   refine sw_call (con_l1In a 0 299) rfl (aAs_ok ?_) ?_ (sw_run 200 _ _ _ ?_)
   ·simp only [push_cast,aAs,aA,aD,↓reduceIte]
   ·simp only [okR]
   simp only [push_cast,↓reduceIte,Nat.reduceLT,reduceCtorEq,Int.reduceEq,insB,Tryz.results15]
  ·refine con_run Tryz.func15 rfl rfl (by simp [Tryz.ntmps15]) ?_
   simp only [push_cast,↓reduceIte,Nat.reduceLT,Nat.reduceEqDiff,Int.reduceEq,insC,Tryz.ntmps15]
   refine sw_call (con_l1In a 0 299) rfl (aAs_ok ?_) ?_ (sw_run 200 _ _ _ ?_)
   ·simp only [push_cast,aAs,aA,aD,↓reduceIte]
   ·simp only [okR]
   simp only [push_cast,↓reduceIte,Nat.reduceLT,reduceCtorEq,Int.reduceEq,insB,Tryz.results15]
  ·refine con_run Tryz.func15 rfl rfl (by simp [Tryz.ntmps15]) ?_
   simp only [push_cast,↓reduceIte,Nat.reduceLT,Nat.reduceEqDiff,Int.reduceEq,insC,Tryz.ntmps15]
   refine sw_call (con_l1In a 0 299) rfl (aAs_ok ?_) ?_ (sw_run 200 _ _ _ ?_)
   ·simp only [push_cast,aAs,aA,aD,↓reduceIte]
   ·simp only [okR]
   simp only [push_cast,↓reduceIte,Nat.reduceLT,reduceCtorEq,Int.reduceEq,insB,Tryz.results15]
  ·refine con_run Tryz.func15 rfl rfl (by simp [Tryz.ntmps15]) ?_
   simp only [push_cast,↓reduceIte,Nat.reduceLT,Nat.reduceEqDiff,Int.reduceEq,insC,Tryz.ntmps15]
   refine sw_call (con_l1In a 0 299) rfl (aAs_ok ?_) ?_ (sw_run 200 _ _ _ ?_)
   ·simp only [push_cast,aAs,aA,aD,↓reduceIte]
   ·simp only [okR]
   simp only [push_cast,↓reduceIte,Nat.reduceLT,reduceCtorEq,Int.reduceEq,insB,Tryz.results15]
 ·have h1:(op=1)=False:=eq_false (by omega)
  have h2:(op=2)=False:=eq_false (by omega)
  have h3:(op=3)=False:=eq_false (by omega)
  have h4:(op=4)=False:=eq_false (by omega)
  have h5:(op=5)=False:=eq_false (by omega)
  have h6:(op=6)=False:=eq_false (by omega)
  have h7:(op=7)=False:=eq_false (by omega)
  have h8:(op=8)=False:=eq_false (by omega)
  rcases pc (a=0) with ha | ha
  all_goals
   rcases pc (9≤op) with h9 | h9
  all_goals
   rcases pc (op≤12) with h12 | h12
  all_goals
   refine con_run Tryz.func15 rfl rfl (by simp [Tryz.ntmps15]) ?_
   simp only [push_cast,↓reduceIte,Nat.reduceLT,Nat.reduceEqDiff,h1,h2,h3,h4,h5,h6,h7,h8,insC,Tryz.ntmps15]
   refine sw_call (con_l1In op 9 12) rfl (aAs_ok ?_) ?_ (sw_run 200 _ _ _ ?_)
   ·simp only [push_cast,aAs,aA,aD,↓reduceIte]
   ·simp only [okR]
   simp only [push_cast,↓reduceIte,Nat.reduceLT,Nat.reduceEqDiff,reduceCtorEq,h1,h2,h3,h4,h5,h6,h7,h8,h9,h12,ha,insB,Tryz.results15]
end Go.Proofs.YtaidalilfmjfgaaGreat
