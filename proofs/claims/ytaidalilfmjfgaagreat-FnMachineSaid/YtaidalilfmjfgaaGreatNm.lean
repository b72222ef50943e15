import Derived.Test.YtaidalilfmjfgaaGreatBy
namespace Go.Proofs.YtaidalilfmjfgaaGreat
open Go.Proofs.Tryz
open Go.RowKit
set_option linter.unusedVariables false
set_option linter.unusedSimpArgs false
set_option maxRecDepth 20000
def fi (s:ByteArray):List ByteArray→Int→Int
 | [],_ => -1
 | x :: xs,i=>if s=x then i else fi s xs (i+1)
theorem aAh (s:ByteArray) (xs:List ByteArray) (k:Nat) (h:k<xs.length):fi s (xs.drop k) k=if s=xs[k]! then (k:Int) else fi s (xs.drop (k+1)) ((k+1:Nat):Int):=by
 rw [List.drop_eq_getElem_cons h,getElem!_pos xs k h];rfl
theorem aBE (s:ByteArray) (xs:List ByteArray) (k:Nat) (h:xs.length≤k) (i:Int):fi s (xs.drop k) i = -1:=by rw [List.drop_of_length_le h];rfl
theorem OA (s:ByteArray):∀ (xs:List ByteArray) (i:Int),0≤i→(fi s xs i = -1∨(i≤fi s xs i∧fi s xs i<i+xs.length))
 | [],i,_ => .inl rfl
 | x :: xs,i,h=>by
  rw [fi,List.length_cons]
  split
  ·right;omega
  ·rcases OA s xs (i+1) (by omega) with h1 | h1
   ·exact .inl h1
   ·right;omega
theorem BU (xs:List ByteArray) (s:ByteArray) (hl:xs.length≤1000000000):Con prog 124 [.one (Bl xs),.one (.str s)] [.one (.int (fi s xs 0))]:=by
 refine Af func124 rfl rfl (by simp [ntmps124]) ?_
 refine byP ntmps124 ?_
 refine Al (fun k:Nat=>k≤xs.length∧fi s (xs.drop k) k=fi s xs 0) (fun k=>⟨19,[(5,.i k),(0,.br (.rows 1 xs.length (xs.map D.str))),(1,.s s)],[],[],0,[]⟩) (fun k=>xs.length-k) 0 id ⟨Nat.zero_le _,rfl⟩ ?_ ?_
 ·exact byQ tI
 ·rintro k ⟨hk,hf⟩
  refine Aa 200 _ _ _ ?_
  by_cases hlt:k<xs.length
  ·have hi:(k:Int)<(xs.length:Int):=by omega
   have hR:=Cc xs k hlt
   rw [aAh s xs k hlt] at hf
   by_cases he:xs[k]! = s
   ·rw [if_pos he.symm] at hf
    refine byP (fc hi (fc hR (fc (eq_true he) results124))) ?_
    exact hf
   ·rw [if_neg (fun e=>he e.symm)] at hf
    refine byP (fc hi (fc hR he)) ?_
    refine ⟨by unfold inI;omega,k+1,id,⟨by omega,hf⟩,by omega, ?_⟩
    exact byQ tI
  ·have hi:¬ (k:Int)<(xs.length:Int):=by omega
   rw [aBE s xs k (by omega)] at hf
   refine byP hi ?_
   refine Aa 200 _ _ _ ?_
   simp only [push_cast,↓reduceIte,Nat.reduceLT,reduceCtorEq,Int.reduceNeg,← hf,results124]
def Bb (s:ByteArray) (i:Nat):Int:=(((s.data.getD i 0).toNat:Nat):Int)
def aDd (s:ByteArray) (i:Nat):Bool:=(decide (97≤Bb s i) && decide (Bb s i≤122)) || (!decide (i=0) && (decide (48≤Bb s i) && decide (Bb s i≤57)))
def KL (s:ByteArray):Nat→Bool
 | 0=>true
 | k+1=>KL s k && aDd s k
theorem Pc (s : ByteArray) : ∀ n k, k ≤ n → KL s k = false → KL s n = false
  | 0, k, h, e => by obtain rfl : k = 0 := by omega
                     exact e
  | n + 1, k, h, e => by
    by_cases hk : k = n + 1
    · subst hk; exact e
    · rw [KL, Pc s n k (by omega) e]; rfl
def aED:ByteArray:=⟨#[105,102]⟩
def UR:ByteArray:=⟨#[108,101,116]⟩
def Pm:ByteArray:=⟨#[108,105,102,116]⟩
def UL:ByteArray:=⟨#[114,101,99]⟩
def Wv:ByteArray:=⟨#[114,117,110]⟩
def nmB (s:ByteArray):Bool:=KL s s.size && ((decide (1≤(s.size:Int)) && decide ((s.size:Int)≤4)) && !decide (0≤fi s [aED,UR,Pm,UL,Wv] 0))
theorem aH8 (s:ByteArray):decide (0≤fi s [aED,UR,Pm,UL,Wv] 0)=decide (s=⟨#[105,102]⟩∨s=⟨#[108,101,116]⟩∨s=⟨#[114,101,99]⟩∨s=⟨#[114,117,110]⟩∨s=⟨#[108,105,102,116]⟩):=by
 simp only [fi,aED,UR,Pm,UL,Wv]
 by_cases e1:s=⟨#[105,102]⟩
 ·simp only [eq_true e1,if_true,true_or,decide_true];rfl
 by_cases e2:s=⟨#[108,101,116]⟩
 ·simp only [eq_true e2,if_true,true_or,or_true,e1,if_false,decide_true];rfl
 by_cases e3:s=⟨#[108,105,102,116]⟩
 ·simp only [eq_true e3,if_true,or_true,e1,e2,if_false,decide_true];rfl
 by_cases e4:s=⟨#[114,101,99]⟩
 ·simp only [eq_true e4,if_true,true_or,or_true,e1,e2,e3,if_false,decide_true];rfl
 by_cases e5:s=⟨#[114,117,110]⟩
 ·simp only [eq_true e5,if_true,true_or,or_true,e1,e2,e3,e4,if_false,decide_true];rfl
 simp only [e1,e2,e3,e4,e5,if_false,or_self];rfl
theorem GY (c:Int):c<48∨(48≤c∧c≤57)∨(57<c∧c<97)∨(97≤c∧c≤122)∨122<c:=by omega
theorem Ii (s:ByteArray) (hz:s.size≤1000000000):Con prog 108 [.one (.str s)] [.one (.bool (nmB s))]:=by
 refine Af func108 rfl rfl (by simp [ntmps108]) ?_
 refine byP ntmps108 ?_
 refine Al (fun k:Nat=>k≤s.size∧KL s k=true) (fun k=>⟨62,[(3,.i k),(0,.s s)],[],[],0,[]⟩) (fun k=>s.size-k) 0 id ⟨Nat.zero_le _,rfl⟩ ?_ ?_
 ·exact byQ tI
 ·rintro k ⟨hk,hall⟩
  refine Aa 200 _ _ _ ?_
  by_cases hlt:k<s.size
  ·have hi:(k:Int)<(s.size:Int):=by omega
   have hB:((((s.data.getD k 0).toNat:Nat)):Int)=Bb s k:=rfl
   by_cases hch:aDd s k=true
   ·have hall':KL s (k+1)=true:=by rw [KL,hall,hch];rfl
    unfold aDd at hch
    rcases GY (Bb s k) with h | h | h | h | h
    ·exfalso;simp [show ¬ (97≤Bb s k) by omega,show ¬ (48≤Bb s k) by omega] at hch
    ·have h1:¬ (97≤Bb s k):=by omega
     have h2:¬ (Bb s k<48):=by omega
     have h3:¬ (57<Bb s k):=by omega
     have h0:¬ (k:Int)=0:=fun e=>by
      have:k=0:=by omega
      subst this
      simp [h1] at hch
     refine byP (fc hi (fc hB (fc h0 (fc h1 (fc h2 h3))))) ?_
     refine ⟨by unfold inI;omega,k+1,id,⟨by omega,hall'⟩,by omega, ?_⟩
     exact byQ tI
    ·exfalso;simp [show ¬ (97≤Bb s k) by omega,show ¬ (Bb s k≤57) by omega] at hch
    ·have h1:97≤Bb s k:=h.1
     have h2:Bb s k≤122:=h.2
     refine byP (fc hi (fc hB (fc h1 h2))) ?_
     refine ⟨by unfold inI;omega,k+1,id,⟨by omega,hall'⟩,by omega, ?_⟩
     exact byQ tI
    ·exfalso;simp [show ¬ (Bb s k≤122) by omega,show ¬ (Bb s k≤57) by omega] at hch
   ·have hf:aDd s k=false:=by simpa using hch
    have hnm:nmB s=false:=by rw [nmB,Pc s s.size (k+1) (by omega) (by rw [KL,hf,Bool.and_false])];rfl
    rw [hnm]
    unfold aDd at hf
    by_cases h00:(k:Int)=0
    ·have h0:=eq_true h00
     rcases GY (Bb s k) with h | h | h | h | h
     ·exact byP (fc hi (fc hB (fc h0 (fc (show ¬ (97≤Bb s k) by omega) results108)))) tI
     ·exact byP (fc hi (fc hB (fc h0 (fc (show ¬ (97≤Bb s k) by omega) results108)))) tI
     ·exact byP (fc hi (fc hB (fc h0 (fc (show ¬ (97≤Bb s k) by omega) results108)))) tI
     ·exfalso;simp [h.1,h.2] at hf
     ·exact byP (fc hi (fc hB (fc h0 (fc (show (97≤Bb s k) by omega) (fc (show ¬ (Bb s k≤122) by omega) results108))))) tI
    ·have h0:=h00
     have h0':k≠0:=fun e=>h0 (by omega)
     rcases GY (Bb s k) with h | h | h | h | h
     ·exact byP (fc hi (fc hB (fc h0 (fc (show ¬ (97≤Bb s k) by omega) (fc (show Bb s k<48 by omega) results108))))) tI
     ·exfalso;simp [h.1,h.2,h0'] at hf
     ·exact byP (fc hi (fc hB (fc h0 (fc (show ¬ (97≤Bb s k) by omega) (fc (show ¬ (Bb s k<48) by omega) (fc (show 57<Bb s k by omega) results108)))))) tI
     ·exfalso;simp [h.1,h.2] at hf
     ·exact byP (fc hi (fc hB (fc h0 (fc (show (97≤Bb s k) by omega) (fc (show ¬ (Bb s k≤122) by omega) (fc (show ¬ (Bb s k<48) by omega) (fc (show 57<Bb s k by omega) results108))))))) tI
  ·have hi:¬ (k:Int)<(s.size:Int):=by omega
   obtain rfl:k=s.size:=by omega
   have hw:=BD (s.size:Int) 1 4
   obtain ⟨b,hb⟩:∃ b,b=(decide (1≤(s.size:Int)) && decide ((s.size:Int)≤4)):=⟨_,rfl⟩
   have hnm:nmB s=(b && !decide (0≤fi s [aED,UR,Pm,UL,Wv] 0)):=by rw [nmB,hall,Bool.true_and,hb]
   rw [hnm]
   rw [← hb] at hw
   refine byP hi ?_
   refine rQ ?_
   refine As hw rfl (Am ?_) ?_ (Aa 200 _ _ _ ?_)
   ·exact byQ tI
   ·simp only [okR]
   cases b
   ·exact byP results108 tI
   ·rw [aH8]
    by_cases e1:s=⟨#[105,102]⟩
    ·exact byP (fc (eq_true e1) results108) tI
    by_cases e2:s=⟨#[108,101,116]⟩
    ·exact byP (fc e1 (fc (eq_true e2) results108)) tI
    by_cases e3:s=⟨#[114,101,99]⟩
    ·exact byP (fc e1 (fc e2 (fc (eq_true e3) results108))) tI
    by_cases e4:s=⟨#[114,117,110]⟩
    ·exact byP (fc e1 (fc e2 (fc e3 (fc (eq_true e4) results108)))) tI
    by_cases e5:s=⟨#[108,105,102,116]⟩
    ·exact byP (fc e1 (fc e2 (fc e3 (fc e4 (fc (eq_true e5) results108))))) tI
    exact byP (fc e1 (fc e2 (fc e3 (fc e4 (fc e5 results108))))) tI
end Go.Proofs.YtaidalilfmjfgaaGreat
