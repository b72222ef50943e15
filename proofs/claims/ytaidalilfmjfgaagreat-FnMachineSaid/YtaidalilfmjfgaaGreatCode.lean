import Derived.Test.YtaidalilfmjfgaaGreatTmB
import Derived.Test.YtaidalilfmjfgaaGreatMk
namespace Go.Proofs.YtaidalilfmjfgaaGreat
open Go.Proofs.Tryz
open Go.RowKit
set_option linter.unusedVariables false
set_option linter.unusedSimpArgs false
set_option maxRecDepth 20000
def plF (k n:Int):Int:=if k=10 then n+1 else if k=11 then n-1 else n
theorem Mx (k n:Int):n-1≤plF k n∧plF k n≤n+1:=by unfold plF;split <;> (try split) <;> omega
mutual
def Jx (p:Tm→Int→Bool):Tm→Int→Bool
 | .mk k s o n t r xs,m=>p (.mk k s o n t r xs) m && EI p xs (plF k m)
def EI (p:Tm→Int→Bool):List Tm→Int→Bool
 | [],_=>true
 | x :: xs,m=>Jx p x m && EI p xs m
end
theorem Mw (p:Tm→Int→Bool) (t:Tm) (m:Int):Jx p t m=(p t m && EI p t.args (plF t.kind m)):=by obtain ⟨k,s,o,n,ty,r,xs⟩:=t;rw [Jx];rfl
theorem GZ (p:Tm→Int→Bool) (xs:List Tm) (m:Int) (k:Nat) (h:k<xs.length):EI p (xs.drop k) m=(Jx p xs[k]! m && EI p (xs.drop (k+1)) m):=by
 rw [List.drop_eq_getElem_cons h,EI,getElem!_pos xs k h]
def okB (t:Tm) (m:Int):Bool:=decide (0≤m) && decide (m≤2)
def Qe (t:Tm) (m:Int):Bool := !(decide (t.kind=11) && decide (m=1))
def rgL (t:Tm) (m:Int):Prop := -(2000000000-(szL (tmC t):Int))≤m∧m≤2000000000-(szL (tmC t):Int)
theorem Fz (t:Tm) (m:Int) (h : -3000000000≤m∧m≤3000000000):Con prog 232 [.ag (tmC t),.one (.int m)] [.one (.int (plF t.kind m))]:=by
 have i1:inI (m+1):=by unfold inI;omega
 have i2:inI (m-1):=by unfold inI;omega
 unfold plF
 rcases pc (t.kind=10) with h1 | h1
 all_goals rcases pc (t.kind=11) with h2 | h2
 all_goals
  simp only [h1,h2,if_true,if_false]
  refine Af func232 rfl rfl (by simp [ntmps232]) ?_
  exact byP (fc h1 (fc h2 (fc i1 (fc i2 (fc ntmps232 results232))))) tI
theorem OL:∀ t:Tm,szL (tmC t)≤1000000000→∀ m,rgL t m→Con prog 173 [.ag (tmC t),.one (.int m)] [.one (.bool (Jx okB t m))]:=by
 refine Tm.ind fun t ih hz m hm => ?_
 obtain ⟨m1,m2⟩:=hm
 have hL:=Fz t m (by omega)
 have hpr:=Mx t.kind m
 have hz8:=(Cq hz).2.2
 have hz9:=(Cq (t:=t) (Nat.le_refl _)).2.2
 have hA:=BD m 0 2
 rw [Mw]
 have hac:okB t m=(decide (0≤m) && decide (m≤2)):=rfl
 rw [← hac] at hA
 generalize okB t m=c at *
 generalize plF t.kind m=q at *
 cases c
 case false =>
  rw [Bool.false_and]
  refine Af func173 rfl rfl (by simp [ntmps173]) ?_
  refine byP (fc ntmps173 results173) ?_
  refine Kc hA ?_
  exact rG (fc ntmps173 results173) tI
 rw [Bool.true_and]
 refine Af func173 rfl rfl (by simp [ntmps173]) ?_
 refine byP (fc ntmps173 results173) ?_
 refine Kc hA ?_
 refine rG (fc ntmps173 results173) ?_
 refine Al (fun k:Nat=>k≤t.args.length∧EI okB (t.args.drop k) q=EI okB t.args q) (fun k=>⟨26,[(5,.i k),(1,.i m),(2,.bx 0 0)],[(0,[.i t.kind,.s t.name,.s t.other,.i t.n,.i t.ty.kind,.br (.rows 2 t.ty.args.length (Ai t.ty.args)),.i t.res.kind,.br (.rows 2 t.res.args.length (Ai t.res.args)),.br (.rows 9 t.args.length (Av t.args))])],[],1,[]⟩) (fun k=>t.args.length-k) 0 id ⟨Nat.zero_le _,rfl⟩ ?_ ?_
 ·exact byQ tI
 ·rintro k ⟨hk,hf⟩
  refine Aa 200 _ _ _ ?_
  by_cases hlt:k<t.args.length
  ·have hi:(k:Int)<(t.args.length:Int):=by omega
   have hR:=Aj t.args k hlt
   have hmm:=Ab hlt
   have hs:=Bv t.args k hlt
   have hrec:=ih _ hmm (by omega) q ⟨by omega,by omega⟩
   rw [GZ okB t.args q k hlt] at hf
   obtain ⟨b,hb⟩:∃ b,b=Jx okB t.args[k]! q:=⟨_,rfl⟩
   rw [← hb] at hrec hf
   refine byP (fc hi hR) ?_
   refine Ac (oT [0,1,2,3,4,5,6] (oF [7,8] (.cons 9 true .nil))) (by kernel_rfl) AD (by kernel_rfl) (Aa 200 _ _ _ ?_)
   refine byP (fc hi hR) ?_
   refine KD hL ?_
   refine rQ ?_
   refine AR (hrec) rfl (Am ?_) ?_ (Aa 200 _ _ _ ?_)
   ·exact byQ tI
   ·simp only [okR]
   cases b
   ·rw [Bool.false_and] at hf
    simp only [push_cast,↓reduceIte,Nat.reduceLT,Nat.reduceAdd,Nat.reduceMul,Nat.reduceLeDiff,Nat.reduceEqDiff,reduceCtorEq,Int.reduceLT,Int.reduceLE,Int.reduceEq,Int.reduceNe,Int.reduceAdd,Int.reduceSub,Int.reduceMul,Int.reduceNeg,Int.reduceToNat,Nat.reduceSub,← hf,ntmps173,results173]
   ·refine byQ ?_
    refine ⟨by unfold inI;omega,k+1,id,⟨by omega,by simpa using hf⟩,by omega, ?_⟩
    exact byQ tI
  ·have hi:¬ (k:Int)<(t.args.length:Int):=by omega
   rw [List.drop_of_length_le (by omega),EI] at hf
   rw [← hf]
   refine byP hi ?_
   exact rG (fc ntmps173 results173) tI
theorem Qm:∀ t:Tm,szL (tmC t)≤1000000000→∀ m,rgL t m→Con prog 176 [.ag (tmC t),.one (.int m)] [.one (.bool (Jx Qe t m))]:=by
 refine Tm.ind fun t ih hz m hm => ?_
 obtain ⟨m1,m2⟩:=hm
 have hL:=Fz t m (by omega)
 have hpr:=Mx t.kind m
 have hz8:=(Cq hz).2.2
 have hz9:=(Cq (t:=t) (Nat.le_refl _)).2.2
 rw [Mw]
 have hac:Qe t m = !(decide (t.kind=11) && decide (m=1)):=rfl
 generalize Qe t m=c at *
 generalize plF t.kind m=q at *
 rcases pc (t.kind=11) with h1 | h1
 case inl =>
  rcases pc (m=1) with h2 | h2
  case inl =>
   simp only [h1,h2,decide_true,Bool.and_true,Bool.not_true] at hac
   subst hac
   rw [Bool.false_and]
   refine Af func176 rfl rfl (by simp [ntmps176]) ?_
   exact byP (fc h1 (fc h2 (fc ntmps176 results176))) tI
  simp only [h1,h2,decide_true,decide_false,Bool.and_false,Bool.not_false] at hac
  subst hac
  rw [Bool.true_and]
  refine Af func176 rfl rfl (by simp [ntmps176]) ?_
  refine byP (fc h1 (fc h2 (fc ntmps176 results176))) ?_
  refine Al (fun k:Nat=>k≤t.args.length∧EI Qe (t.args.drop k) q=EI Qe t.args q) (fun k=>⟨30,[(5,.i k),(1,.i m),(2,.bx 0 0)],[(0,[.i t.kind,.s t.name,.s t.other,.i t.n,.i t.ty.kind,.br (.rows 2 t.ty.args.length (Ai t.ty.args)),.i t.res.kind,.br (.rows 2 t.res.args.length (Ai t.res.args)),.br (.rows 9 t.args.length (Av t.args))])],[],1,[]⟩) (fun k=>t.args.length-k) 0 id ⟨Nat.zero_le _,rfl⟩ ?_ ?_
  ·exact byQ tI
  ·rintro k ⟨hk,hf⟩
   refine Aa 200 _ _ _ ?_
   by_cases hlt:k<t.args.length
   ·have hi:(k:Int)<(t.args.length:Int):=by omega
    have hR:=Aj t.args k hlt
    have hmm:=Ab hlt
    have hs:=Bv t.args k hlt
    have hrec:=ih _ hmm (by omega) q ⟨by omega,by omega⟩
    rw [GZ Qe t.args q k hlt] at hf
    obtain ⟨b,hb⟩:∃ b,b=Jx Qe t.args[k]! q:=⟨_,rfl⟩
    rw [← hb] at hrec hf
    refine byP (fc hi hR) ?_
    refine Ac (oT [0,1,2,3,4,5,6] (oF [7,8] (.cons 9 true .nil))) (by kernel_rfl) AD (by kernel_rfl) (Aa 200 _ _ _ ?_)
    refine byP (fc hi hR) ?_
    refine KD hL ?_
    refine rQ ?_
    refine AR (hrec) rfl (Am ?_) ?_ (Aa 200 _ _ _ ?_)
    ·exact byQ tI
    ·simp only [okR]
    cases b
    ·rw [Bool.false_and] at hf
     simp only [push_cast,↓reduceIte,Nat.reduceLT,Nat.reduceAdd,Nat.reduceMul,Nat.reduceLeDiff,Nat.reduceEqDiff,reduceCtorEq,Int.reduceLT,Int.reduceLE,Int.reduceEq,Int.reduceNe,Int.reduceAdd,Int.reduceSub,Int.reduceMul,Int.reduceNeg,Int.reduceToNat,Nat.reduceSub,← hf,ntmps176,results176]
    ·refine byQ ?_
     refine ⟨by unfold inI;omega,k+1,id,⟨by omega,by simpa using hf⟩,by omega, ?_⟩
     exact byQ tI
   ·have hi:¬ (k:Int)<(t.args.length:Int):=by omega
    rw [List.drop_of_length_le (by omega),EI] at hf
    rw [← hf]
    refine byP hi ?_
    exact rG (fc ntmps176 results176) tI
 simp only [h1,decide_false,Bool.false_and,Bool.not_false] at hac
 subst hac
 rw [Bool.true_and]
 refine Af func176 rfl rfl (by simp [ntmps176]) ?_
 refine byP (fc h1 (fc ntmps176 results176)) ?_
 refine Al (fun k:Nat=>k≤t.args.length∧EI Qe (t.args.drop k) q=EI Qe t.args q) (fun k=>⟨30,[(5,.i k),(1,.i m),(2,.bx 0 0)],[(0,[.i t.kind,.s t.name,.s t.other,.i t.n,.i t.ty.kind,.br (.rows 2 t.ty.args.length (Ai t.ty.args)),.i t.res.kind,.br (.rows 2 t.res.args.length (Ai t.res.args)),.br (.rows 9 t.args.length (Av t.args))])],[],1,[]⟩) (fun k=>t.args.length-k) 0 id ⟨Nat.zero_le _,rfl⟩ ?_ ?_
 ·exact byQ tI
 ·rintro k ⟨hk,hf⟩
  refine Aa 200 _ _ _ ?_
  by_cases hlt:k<t.args.length
  ·have hi:(k:Int)<(t.args.length:Int):=by omega
   have hR:=Aj t.args k hlt
   have hmm:=Ab hlt
   have hs:=Bv t.args k hlt
   have hrec:=ih _ hmm (by omega) q ⟨by omega,by omega⟩
   rw [GZ Qe t.args q k hlt] at hf
   obtain ⟨b,hb⟩:∃ b,b=Jx Qe t.args[k]! q:=⟨_,rfl⟩
   rw [← hb] at hrec hf
   refine byP (fc hi hR) ?_
   refine Ac (oT [0,1,2,3,4,5,6] (oF [7,8] (.cons 9 true .nil))) (by kernel_rfl) AD (by kernel_rfl) (Aa 200 _ _ _ ?_)
   refine byP (fc hi hR) ?_
   refine KD hL ?_
   refine rQ ?_
   refine AR (hrec) rfl (Am ?_) ?_ (Aa 200 _ _ _ ?_)
   ·exact byQ tI
   ·simp only [okR]
   cases b
   ·rw [Bool.false_and] at hf
    simp only [push_cast,↓reduceIte,Nat.reduceLT,Nat.reduceAdd,Nat.reduceMul,Nat.reduceLeDiff,Nat.reduceEqDiff,reduceCtorEq,Int.reduceLT,Int.reduceLE,Int.reduceEq,Int.reduceNe,Int.reduceAdd,Int.reduceSub,Int.reduceMul,Int.reduceNeg,Int.reduceToNat,Nat.reduceSub,← hf,ntmps176,results176]
   ·refine byQ ?_
    refine ⟨by unfold inI;omega,k+1,id,⟨by omega,by simpa using hf⟩,by omega, ?_⟩
    exact byQ tI
  ·have hi:¬ (k:Int)<(t.args.length:Int):=by omega
   rw [List.drop_of_length_le (by omega),EI] at hf
   rw [← hf]
   refine byP hi ?_
   exact rG (fc ntmps176 results176) tI
def kdR (k:Int):Bool:=decide (k=2) || decide (k=3) || decide (k=6) || decide (k=9)
theorem XB {t:Tm} (h:szL (tmC t)≤1000000000) (m:Int) (hm : -10≤m∧m≤10):rgL t m:=⟨by omega,by omega⟩
theorem VU (k:Int):k=2∨k=3∨k=6∨k=9∨k=10∨((k=2)=False∧(k=3)=False∧(k=6)=False∧(k=9)=False∧(k=10)=False):=by
 by_cases h:k=2∨k=3∨k=6∨k=9∨k=10
 ·rcases h with h | h | h | h | h <;> simp [h]
 ·simp only [not_or] at h
  exact .inr (.inr (.inr (.inr (.inr ⟨eq_false h.1,eq_false h.2.1,eq_false h.2.2.1,eq_false h.2.2.2.1,eq_false h.2.2.2.2⟩))))
end Go.Proofs.YtaidalilfmjfgaaGreat
