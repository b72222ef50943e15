import Derived.Sort.Walk0
import Derived.Test.YtaidalilfmjfgaaGreatCdB
namespace Go.Proofs.YtaidalilfmjfgaaGreat
open Go.Proofs.Tryz
open Go.RowKit
set_option linter.unusedVariables false
set_option linter.unusedSimpArgs false
set_option maxRecDepth 20000
def asc (a b:ByteArray):Bool:=Op.bytesLess a.toList b.toList
theorem Zy (n:Int):n.tmod 10007=if 0≤n then n % 10007 else -((-n) % 10007):=by
 split
 ·rename_i h;exact Int.tmod_eq_emod_of_nonneg h
 ·rename_i h
  have:n.tmod 10007 = -((-n).tmod 10007):=by rw [Int.neg_tmod];omega
  rw [this,Int.tmod_eq_emod_of_nonneg (by omega)]
theorem Nr (n:Int):Con prog 98 [.one (.int n)] [.one (.int (n % 10007))]:=by
 have h:=Zy n
 have hb : -10006≤n.tmod 10007∧n.tmod 10007≤10006:=by rw [h];split <;> omega
 have h2:(n.tmod 10007+10007).tmod 10007=n % 10007:=by rw [Zy,h];split <;> split <;> omega
 refine Af func98 rfl rfl (by simp [ntmps98]) ?_
 refine byP (fc h2 (fc ntmps98 results98)) ?_
 unfold inI;omega
theorem Nb (n:Int):Con prog 102 [.one (.int n)] [.one (.int (n % 10007))]:=by
 have h:=Zy n
 have hb : -10006≤n.tmod 10007∧n.tmod 10007≤10006:=by rw [h];split <;> omega
 refine Af func102 rfl rfl (by simp [ntmps102]) ?_
 by_cases hn:n.tmod 10007<0
 ·have h2:n.tmod 10007+10007=n % 10007:=by rw [h] at hn ⊢; split at hn <;> split <;> omega
  refine byP (fc hn (fc h2 (fc ntmps102 results102))) ?_
  unfold inI;omega
 ·have h2:n.tmod 10007=n % 10007:=by rw [h] at hn ⊢; split at hn <;> split <;> omega
  rw [h2] at hn
  exact byP (fc h2 (fc hn (fc ntmps102 results102))) tI
def bI (b:Bool):Int:=if b=true then 1 else 0
def apW (s:ByteArray) (a b:Int):Int:=if s=⟨#[43]⟩ then (a+b) % 10007 else if s=⟨#[45]⟩ then (a-b) % 10007 else if s=⟨#[42]⟩ then (a * b) % 10007 else if s=⟨#[61]⟩ then bI (decide (a=b)) else if s=⟨#[60]⟩ then bI (decide (a<b)) else if s=⟨#[38]⟩ then bI (decide (a=1) && decide (b=1)) else if s=⟨#[124]⟩ then bI (decide (a=1) || decide (b=1)) else if s=⟨#[33]⟩ then bI (decide (a=0)) else 0
def apB (s:ByteArray):Bool:=if s=⟨#[43]⟩ then true else if s=⟨#[45]⟩ then true else if s=⟨#[42]⟩ then true else if s=⟨#[61]⟩ then true else if s=⟨#[60]⟩ then true else if s=⟨#[38]⟩ then true else if s=⟨#[124]⟩ then true else if s=⟨#[33]⟩ then true else false
def apV (s:ByteArray) (a b:Int):Int:=if (Jp a && Jp b)=true then apW s a b else 0
def apK (s:ByteArray) (a b:Int):Bool:=(Jp a && Jp b) && apB s
theorem KE {a:Int} (h:Jp a=true):0≤a∧a≤10006:=by
 unfold Jp at h
 simpa only [Bool.and_eq_true,decide_eq_true_eq] using h
theorem So {a b:Int} (ha:0≤a∧a≤10006) (hb:0≤b∧b≤10006):inI (a * b):=by
 have h1:0≤a * b:=Int.mul_nonneg ha.1 hb.1
 have h2:a * b≤10006 * 10006:=Int.mul_le_mul ha.2 hb.2 hb.1 (by omega)
 unfold inI;omega
set_option maxRecDepth 10000 in
theorem PH (s:ByteArray) (a b:Int):Con prog 228 [.one (.str s),.one (.int a),.one (.int b)] [.one (.int (apV s a b)),.one (.bool (apK s a b))]:=by
 have hA:=EZ a
 have hB:=EZ b
 unfold apV apK
 cases h1:Jp a with
 | false =>
  rw [h1] at hA
  refine Af func228 rfl rfl (by simp [ntmps228]) ?_
  refine byP ntmps228 ?_
  refine Kc hA ?_
  exact rG results228 tI
 | true =>
  rw [h1] at hA
  cases h2:Jp b with
  | false =>
   rw [h2] at hB
   refine Af func228 rfl rfl (by simp [ntmps228]) ?_
   refine byP ntmps228 ?_
   refine Kc hA ?_
   refine rQ ?_
   refine Kc hB ?_
   exact rG results228 tI
  | true =>
   rw [h2] at hB
   have ha:=KE h1
   have hb:=KE h2
   have i1:inI (a+b):=by unfold inI;omega
   have i2:inI (a-b):=by unfold inI;omega
   have i3:=So ha hb
   have hR:=Nr
   have hT:=WR
   unfold apW apB
   refine Af func228 rfl rfl (by simp [ntmps228]) ?_
   refine byP ntmps228 ?_
   refine Kc hA ?_
   refine rQ ?_
   refine As (hB) rfl (Am ?_) ?_ (Aa 200 _ _ _ ?_)
   ·exact byQ tI
   ·simp only [okR]
   rcases Ge s with h0 | ⟨h0,h1 | ⟨h1,h2 | ⟨h2,h3 | ⟨h3,h4 | ⟨h4,h5 | ⟨h5,h6 | ⟨h6,h7 | h7⟩⟩⟩⟩⟩⟩⟩
   ·refine byP (fc h0 i1) ?_
    refine Kc (hR (a+b)) ?_
    exact rG results228 tI
   ·refine byP (fc h0 (fc h1 i2)) ?_
    refine Kc (hR (a-b)) ?_
    exact rG results228 tI
   ·refine byP (fc h0 (fc h1 (fc h2 i3))) ?_
    refine Kc (hR (a * b)) ?_
    exact rG results228 tI
   ·refine byP (fc h0 (fc h1 (fc h2 h3))) ?_
    refine Kc (hT (decide (a=b))) ?_
    exact rG (fc bI.eq_1 results228) tI
   ·refine byP (fc h0 (fc h1 (fc h2 (fc h3 h4)))) ?_
    refine Kc (hT (decide (a<b))) ?_
    exact rG (fc bI.eq_1 results228) tI
   ·by_cases e:a=1
    ·refine byP (fc e (fc h0 (fc h1 (fc h2 (fc h3 (fc h4 h5)))))) ?_
     refine Kc (hT (decide (b=1))) ?_
     exact rG (fc bI.eq_1 results228) tI
    ·refine byP (fc e (fc h0 (fc h1 (fc h2 (fc h3 (fc h4 h5)))))) ?_
     refine Kc (hT false) ?_
     exact rG (fc bI.eq_1 results228) tI
   ·by_cases e:a=1
    ·refine byP (fc e (fc h0 (fc h1 (fc h2 (fc h3 (fc h4 (fc h5 h6))))))) ?_
     refine As (hT true) rfl (Am ?_) ?_ (Aa 200 _ _ _ ?_)
     ·exact byQ tI
     ·simp only [okR]
     simp only [push_cast,↓reduceIte,Nat.reduceLT,Nat.reduceEqDiff,reduceCtorEq,bI,Bool.true_or,results228]
    ·refine byP (fc e (fc h0 (fc h1 (fc h2 (fc h3 (fc h4 (fc h5 h6))))))) ?_
     refine As (hT (decide (b=1))) rfl (Am ?_) ?_ (Aa 200 _ _ _ ?_)
     ·exact byQ tI
     ·simp only [okR]
     simp only [push_cast,↓reduceIte,Nat.reduceLT,Nat.reduceEqDiff,reduceCtorEq,bI,Bool.false_or,results228]
   ·refine byP (fc h0 (fc h1 (fc h2 (fc h3 (fc h4 (fc h5 (fc h6 h7))))))) ?_
    refine Kc (hT (decide (a=0))) ?_
    exact rG (fc bI.eq_1 results228) tI
   ·exact byP (fc h0 (fc h1 (fc h2 (fc h3 (fc h4 (fc h5 (fc h6 (fc h7 results228)))))))) tI
set_option maxRecDepth 10000 in
theorem Jz (s:ByteArray) (a b:Int):Con prog 198 [.one (.str s),.one (.int a),.one (.int b)] [.one (.int (apV s a b)),.one (.bool (apK s a b))]:=by
 have hA:Con prog 68 [.one (.int a),.one (.int 0),.one (.int 10006)] [.one (.bool (Jp a))]:=BD a 0 10006
 have hB:Con prog 68 [.one (.int b),.one (.int 0),.one (.int 10006)] [.one (.bool (Jp b))]:=BD b 0 10006
 unfold apV apK
 cases h1:Jp a with
 | false =>
  rw [h1] at hA
  refine Af func198 rfl rfl (by simp [ntmps198]) ?_
  refine byP ntmps198 ?_
  refine Kc hA ?_
  exact rG results198 tI
 | true =>
  rw [h1] at hA
  cases h2:Jp b with
  | false =>
   rw [h2] at hB
   refine Af func198 rfl rfl (by simp [ntmps198]) ?_
   refine byP ntmps198 ?_
   refine Kc hA ?_
   refine rQ ?_
   refine Kc hB ?_
   exact rG results198 tI
  | true =>
   rw [h2] at hB
   have ha:=KE h1
   have hb:=KE h2
   have i1:inI (a+b):=by unfold inI;omega
   have i2:inI (a-b):=by unfold inI;omega
   have i3:=So ha hb
   have hR:=Nb
   have hT:=VE
   unfold apW apB
   refine Af func198 rfl rfl (by simp [ntmps198]) ?_
   refine byP ntmps198 ?_
   refine Kc hA ?_
   refine rQ ?_
   refine As (hB) rfl (Am ?_) ?_ (Aa 200 _ _ _ ?_)
   ·exact byQ tI
   ·simp only [okR]
   rcases Ge s with h0 | ⟨h0,h1 | ⟨h1,h2 | ⟨h2,h3 | ⟨h3,h4 | ⟨h4,h5 | ⟨h5,h6 | ⟨h6,h7 | h7⟩⟩⟩⟩⟩⟩⟩
   ·refine byP (fc h0 i1) ?_
    refine Kc (hR (a+b)) ?_
    exact rG results198 tI
   ·refine byP (fc h0 (fc h1 i2)) ?_
    refine Kc (hR (a-b)) ?_
    exact rG results198 tI
   ·refine byP (fc h0 (fc h1 (fc h2 i3))) ?_
    refine Kc (hR (a * b)) ?_
    exact rG results198 tI
   ·refine byP (fc h0 (fc h1 (fc h2 h3))) ?_
    refine Kc (hT (decide (a=b))) ?_
    exact rG (fc bI.eq_1 results198) tI
   ·refine byP (fc h0 (fc h1 (fc h2 (fc h3 h4)))) ?_
    refine Kc (hT (decide (a<b))) ?_
    exact rG (fc bI.eq_1 results198) tI
   ·by_cases e:a=1
    ·refine byP (fc e (fc h0 (fc h1 (fc h2 (fc h3 (fc h4 h5)))))) ?_
     refine Kc (hT (decide (b=1))) ?_
     exact rG (fc bI.eq_1 results198) tI
    ·refine byP (fc e (fc h0 (fc h1 (fc h2 (fc h3 (fc h4 h5)))))) ?_
     refine Kc (hT false) ?_
     exact rG (fc bI.eq_1 results198) tI
   ·by_cases e:a=1
    ·refine byP (fc e (fc h0 (fc h1 (fc h2 (fc h3 (fc h4 (fc h5 h6))))))) ?_
     refine As (hT true) rfl (Am ?_) ?_ (Aa 200 _ _ _ ?_)
     ·exact byQ tI
     ·simp only [okR]
     simp only [push_cast,↓reduceIte,Nat.reduceLT,Nat.reduceEqDiff,reduceCtorEq,bI,Bool.true_or,results198]
    ·refine byP (fc e (fc h0 (fc h1 (fc h2 (fc h3 (fc h4 (fc h5 h6))))))) ?_
     refine As (hT (decide (b=1))) rfl (Am ?_) ?_ (Aa 200 _ _ _ ?_)
     ·exact byQ tI
     ·simp only [okR]
     simp only [push_cast,↓reduceIte,Nat.reduceLT,Nat.reduceEqDiff,reduceCtorEq,bI,Bool.false_or,results198]
   ·refine byP (fc h0 (fc h1 (fc h2 (fc h3 (fc h4 (fc h5 (fc h6 h7))))))) ?_
    refine Kc (hT (decide (a=0))) ?_
    exact rG (fc bI.eq_1 results198) tI
   ·exact byP (fc h0 (fc h1 (fc h2 (fc h3 (fc h4 (fc h5 (fc h6 (fc h7 results198)))))))) tI
end Go.Proofs.YtaidalilfmjfgaaGreat
