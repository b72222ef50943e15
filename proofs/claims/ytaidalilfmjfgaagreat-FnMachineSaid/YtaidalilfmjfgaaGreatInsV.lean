import Derived.Test.YtaidalilfmjfgaaGreatNum
import Derived.Test.YtaidalilfmjfgaaGreatTmV
namespace Go.Proofs.YtaidalilfmjfgaaGreat
open Go.Proofs.Tryz
open Go.RowKit
set_option linter.unusedVariables false
set_option linter.unusedSimpArgs false
structure Shp where
 known:Bool
 h:Int
 d:Int
 b:Int
 deriving Inhabited,DecidableEq
structure Der where
 p:Int
 s:Shp
 deriving Inhabited
def s0:Shp:=⟨true,0,0,0⟩
structure aIZ where
 sh:List Shp
 todo:List Int
 bad:Bool
def aJG (n:Nat) (st:aIZ) (y:Der):aIZ :=
 if (n:Int)≤y.p then { st with bad:=true }
 else if st.sh[y.p.toNat]!.known=false then ⟨st.sh.set y.p.toNat y.s,st.todo++[y.p],st.bad⟩
 else if st.sh[y.p.toNat]! = y.s then st else { st with bad:=true }
set_option maxRecDepth 20000
def Ec (x:Ins):Bool :=
 if x.op=1 then Jp x.a else if x.op=2 then decide (0≤x.a) && decide (x.a≤1) else if x.op=4 then decide (1≤x.a) && decide (x.a≤8)
 else if x.op=3∨x.op=5∨x.op=6∨x.op=7∨x.op=8 then decide (0≤x.a) && decide (x.a≤299) else (decide (9≤x.op) && decide (x.op≤12)) && decide (x.a=0)
theorem Ia {x:Ins} (h:Ec x=true):(x.op=1∨x.op=2∨x.op=3∨x.op=4∨x.op=5∨x.op=6∨x.op=7∨x.op=8∨x.op=9∨x.op=10∨x.op=11∨x.op=12)∧(0≤x.a∧x.a≤10006)∧(x.op=4→1≤x.a∧x.a≤8)∧(3≤x.op∧x.op≤8→x.a≤299):=by
 unfold Ec at h
 repeat' split at h
 ·have:=aBh h;omega
 all_goals (simp only [Bool.and_eq_true,decide_eq_true_eq] at h;omega)
def opB (n:Int):ByteArray:=if n=1 then ⟨#[43]⟩ else if n=2 then ⟨#[45]⟩ else if n=3 then ⟨#[42]⟩ else if n=4 then ⟨#[61]⟩ else if n=5 then ⟨#[60]⟩ else if n=6 then ⟨#[38]⟩ else if n=7 then ⟨#[124]⟩ else ⟨#[33]⟩
def Kp:List ByteArray:=[⟨#[43]⟩,⟨#[45]⟩,⟨#[42]⟩,⟨#[61]⟩,⟨#[60]⟩,⟨#[38]⟩,⟨#[124]⟩,⟨#[33]⟩]
theorem Xi {a:Int} (h:1≤a∧a≤8):CQ (opB a)=if a=8 then 1 else 2:=by
 rcases (show a=1∨a=2∨a=3∨a=4∨a=5∨a=6∨a=7∨a=8 by omega) with rfl | rfl | rfl | rfl | rfl | rfl | rfl | rfl <;> decide
theorem Uv:Con prog 215 [] [.one (Bl Kp)]:=by
 refine Af func215 rfl rfl (by simp [ntmps215]) ?_
 exact byP (fc Kp.eq_1 (fc ntmps215 results215)) tI
theorem Nt (n:Int) (h:1≤n∧n≤8):Con prog 165 [.one (.int n)] [.one (.str (opB n))]:=by
 have hO:=Uv
 have hW:=BR n 1 8
 rcases (show n=1∨n=2∨n=3∨n=4∨n=5∨n=6∨n=7∨n=8 by omega) with rfl | rfl | rfl | rfl | rfl | rfl | rfl | rfl
 all_goals
  refine Af func165 rfl rfl (by simp [ntmps165]) ?_
  refine byP ntmps165 ?_
  refine Kc hW ?_
  refine rQ ?_
  refine As (hO) rfl (Am ?_) ?_ (Aa 200 _ _ _ ?_)
  ·simp only [aAs,List.map,List.append_nil]
  ·simp only [okR]
  simp only [push_cast,↓reduceIte,Nat.reduceLT,Nat.reduceAdd,Nat.reduceEqDiff,reduceCtorEq,Int.reduceLE,Int.reduceEq,Int.reduceSub,Int.reduceToNat,Kp,rowAt,opB,results165]
  exact ⟨by unfold inI;omega,by omega⟩
theorem Ol:Con prog 220 [] [.one (Bl Kp)]:=by
 refine Af func220 rfl rfl (by simp [ntmps220]) ?_
 exact byP (fc Kp.eq_1 (fc ntmps220 results220)) tI
theorem Nc (n:Int) (h:1≤n∧n≤8):Con prog 226 [.one (.int n)] [.one (.str (opB n))]:=by
 have hO:=Ol
 have hW:=BD n 1 8
 rcases (show n=1∨n=2∨n=3∨n=4∨n=5∨n=6∨n=7∨n=8 by omega) with rfl | rfl | rfl | rfl | rfl | rfl | rfl | rfl
 all_goals
  refine Af func226 rfl rfl (by simp [ntmps226]) ?_
  refine byP ntmps226 ?_
  refine Kc hW ?_
  refine rQ ?_
  refine As (hO) rfl (Am ?_) ?_ (Aa 200 _ _ _ ?_)
  ·simp only [aAs,List.map,List.append_nil]
  ·simp only [okR]
  simp only [push_cast,↓reduceIte,Nat.reduceLT,Nat.reduceAdd,Nat.reduceEqDiff,reduceCtorEq,Int.reduceLE,Int.reduceEq,Int.reduceSub,Int.reduceToNat,Kp,rowAt,opB,results226]
  exact ⟨by unfold inI;omega,by omega⟩
theorem LV (x:Ins):Con prog 150 [.ag (Bk x)] [.one (.bool (Ec x))]:=by
 obtain ⟨op,a⟩:=x
 by_cases hop:1≤op∧op≤8
 ·rcases (show op=1∨op=2∨op=3∨op=4∨op=5∨op=6∨op=7∨op=8 by omega) with rfl | rfl | rfl | rfl | rfl | rfl | rfl | rfl
  ·refine Af func150 rfl rfl (by simp [ntmps150]) ?_
   refine byP (fc Bk.eq_1 ntmps150) ?_
   refine Kc (EZ a) ?_
   exact rG (fc Ec.eq_1 (fc Jp.eq_1 results150)) tI
  ·refine Af func150 rfl rfl (by simp [ntmps150]) ?_
   refine byP (fc Bk.eq_1 ntmps150) ?_
   refine Kc (BR a 0 1) ?_
   exact rG (fc Ec.eq_1 results150) tI
  ·refine Af func150 rfl rfl (by simp [ntmps150]) ?_
   refine byP (fc Bk.eq_1 ntmps150) ?_
   refine Kc (BR a 0 299) ?_
   exact rG (fc Ec.eq_1 results150) tI
  ·refine Af func150 rfl rfl (by simp [ntmps150]) ?_
   refine byP (fc Bk.eq_1 ntmps150) ?_
   refine Kc (BR a 1 8) ?_
   exact rG (fc Ec.eq_1 results150) tI
  ·refine Af func150 rfl rfl (by simp [ntmps150]) ?_
   refine byP (fc Bk.eq_1 ntmps150) ?_
   refine Kc (BR a 0 299) ?_
   exact rG (fc Ec.eq_1 results150) tI
  ·refine Af func150 rfl rfl (by simp [ntmps150]) ?_
   refine byP (fc Bk.eq_1 ntmps150) ?_
   refine Kc (BR a 0 299) ?_
   exact rG (fc Ec.eq_1 results150) tI
  ·refine Af func150 rfl rfl (by simp [ntmps150]) ?_
   refine byP (fc Bk.eq_1 ntmps150) ?_
   refine Kc (BR a 0 299) ?_
   exact rG (fc Ec.eq_1 results150) tI
  ·refine Af func150 rfl rfl (by simp [ntmps150]) ?_
   refine byP (fc Bk.eq_1 ntmps150) ?_
   refine Kc (BR a 0 299) ?_
   exact rG (fc Ec.eq_1 results150) tI
 ·have h1:(op=1)=False:=eq_false (by omega)
  have h2:(op=2)=False:=eq_false (by omega)
  have h3:(op=3)=False:=eq_false (by omega)
  have h4:(op=4)=False:=eq_false (by omega)
  have h5:(op=5)=False:=eq_false (by omega)
  have h6:(op=6)=False:=eq_false (by omega)
  have h7:(op=7)=False:=eq_false (by omega)
  have h8:(op=8)=False:=eq_false (by omega)
  rcases pc (a=0) with ha | ha
  all_goals
   rcases pc (9≤op) with h9 | h9
  all_goals
   rcases pc (op≤12) with h12 | h12
  all_goals
   refine Af func150 rfl rfl (by simp [ntmps150]) ?_
   refine byP (fc h1 (fc h2 (fc h3 (fc h4 (fc h5 (fc h6 (fc h7 (fc h8 (fc Bk.eq_1 ntmps150))))))))) ?_
   refine Kc (BR op 9 12) ?_
   exact rG (fc h1 (fc h2 (fc h3 (fc h4 (fc h5 (fc h6 (fc h7 (fc h8 (fc h9 (fc h12 (fc ha (fc Ec.eq_1 results150)))))))))))) tI
theorem Lv (x:Ins):Con prog 15 [.ag (Bk x)] [.one (.bool (Ec x))]:=by
 obtain ⟨op,a⟩:=x
 by_cases hop:1≤op∧op≤8
 ·rcases (show op=1∨op=2∨op=3∨op=4∨op=5∨op=6∨op=7∨op=8 by omega) with rfl | rfl | rfl | rfl | rfl | rfl | rfl | rfl
  ·refine Af func15 rfl rfl (by simp [ntmps15]) ?_
   refine byP (fc Bk.eq_1 ntmps15) ?_
   refine Kc (BD a 0 10006) ?_
   exact rG (fc Ec.eq_1 (fc Jp.eq_1 results15)) tI
  ·refine Af func15 rfl rfl (by simp [ntmps15]) ?_
   refine byP (fc Bk.eq_1 ntmps15) ?_
   refine Kc (BD a 0 1) ?_
   exact rG (fc Ec.eq_1 results15) tI
  ·refine Af func15 rfl rfl (by simp [ntmps15]) ?_
   refine byP (fc Bk.eq_1 ntmps15) ?_
   refine Kc (BD a 0 299) ?_
   exact rG (fc Ec.eq_1 results15) tI
  ·refine Af func15 rfl rfl (by simp [ntmps15]) ?_
   refine byP (fc Bk.eq_1 ntmps15) ?_
   refine Kc (BD a 1 8) ?_
   exact rG (fc Ec.eq_1 results15) tI
  ·refine Af func15 rfl rfl (by simp [ntmps15]) ?_
   refine byP (fc Bk.eq_1 ntmps15) ?_
   refine Kc (BD a 0 299) ?_
   exact rG (fc Ec.eq_1 results15) tI
  ·refine Af func15 rfl rfl (by simp [ntmps15]) ?_
   refine byP (fc Bk.eq_1 ntmps15) ?_
   refine Kc (BD a 0 299) ?_
   exact rG (fc Ec.eq_1 results15) tI
  ·refine Af func15 rfl rfl (by simp [ntmps15]) ?_
   refine byP (fc Bk.eq_1 ntmps15) ?_
   refine Kc (BD a 0 299) ?_
   exact rG (fc Ec.eq_1 results15) tI
  ·refine Af func15 rfl rfl (by simp [ntmps15]) ?_
   refine byP (fc Bk.eq_1 ntmps15) ?_
   refine Kc (BD a 0 299) ?_
   exact rG (fc Ec.eq_1 results15) tI
 ·have h1:(op=1)=False:=eq_false (by omega)
  have h2:(op=2)=False:=eq_false (by omega)
  have h3:(op=3)=False:=eq_false (by omega)
  have h4:(op=4)=False:=eq_false (by omega)
  have h5:(op=5)=False:=eq_false (by omega)
  have h6:(op=6)=False:=eq_false (by omega)
  have h7:(op=7)=False:=eq_false (by omega)
  have h8:(op=8)=False:=eq_false (by omega)
  rcases pc (a=0) with ha | ha
  all_goals
   rcases pc (9≤op) with h9 | h9
  all_goals
   rcases pc (op≤12) with h12 | h12
  all_goals
   refine Af func15 rfl rfl (by simp [ntmps15]) ?_
   refine byP (fc h1 (fc h2 (fc h3 (fc h4 (fc h5 (fc h6 (fc h7 (fc h8 (fc Bk.eq_1 ntmps15))))))))) ?_
   refine Kc (BD op 9 12) ?_
   exact rG (fc h1 (fc h2 (fc h3 (fc h4 (fc h5 (fc h6 (fc h7 (fc h8 (fc h9 (fc h12 (fc ha (fc Ec.eq_1 results15)))))))))))) tI
end Go.Proofs.YtaidalilfmjfgaaGreat
