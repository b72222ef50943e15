import Derived.Test.YtaidalilfmjfgaaGreatTyC
import Derived.Test.YtaidalilfmjfgaaGreatLst
import Derived.Test.YtaidalilfmjfgaaGreatBy
namespace Go.Proofs.YtaidalilfmjfgaaGreat
open Go.RowKit
set_option linter.unusedVariables false
set_option linter.unusedSimpArgs false
set_option maxRecDepth 20000
def fi (s:ByteArray):List ByteArray→Int→Int
 | [],_ => -1
 | x :: xs,i=>if s=x then i else fi s xs (i+1)
theorem fi_step (s:ByteArray) (xs:List ByteArray) (k:Nat) (h:k<xs.length):fi s (xs.drop k) k=if s=xs[k]! then (k:Int) else fi s (xs.drop (k+1)) ((k+1:Nat):Int):=by
 rw [List.drop_eq_getElem_cons h,getElem!_pos xs k h];rfl
theorem fi_end (s:ByteArray) (xs:List ByteArray) (k:Nat) (h:xs.length≤k) (i:Int):fi s (xs.drop k) i = -1:=by rw [List.drop_of_length_le h];rfl
theorem con_Index (xs:List ByteArray) (s:ByteArray) (hl:xs.length≤1000000000):Con Tryz.prog 193 [.one (strsD xs),.one (.str s)] [.one (.int (fi s xs 0))]:=by
 refine con_run Tryz.func193 rfl rfl (by simp [Tryz.ntmps193]) ?_
 refine byP Tryz.ntmps193 ?_
 refine sw_loop (fun k:Nat=>k≤xs.length∧fi s (xs.drop k) k=fi s xs 0) (fun k=>⟨19,[(8,.i k),(7,.i xs.length),(0,.br (.rows 1 xs.length (xs.map D.str))),(1,.s s)],[],[],0,[]⟩) (fun k=>xs.length-k) 0 id ⟨Nat.zero_le _,rfl⟩ ?_ ?_
 ·exact byQ True.intro
 ·rintro k ⟨hk,hf⟩
  refine sw_run 200 _ _ _ ?_
  by_cases hlt:k<xs.length
  ·have hi:(k:Int)<(xs.length:Int):=by omega
   have hR:=strs_row xs k hlt
   rw [fi_step s xs k hlt] at hf
   by_cases he:s=xs[k]!
   ·rw [if_pos he] at hf
    refine byP (fc hi (fc hR (fc he Tryz.results193))) ?_
    rw [← he];exact hf
   ·rw [if_neg he] at hf
    refine byP (fc hi (fc hR he)) ?_
    refine ⟨by unfold inI;omega,k+1,id,⟨by omega,hf⟩,by omega, ?_⟩
    exact byQ True.intro
  ·have hi:¬ (k:Int)<(xs.length:Int):=by omega
   rw [fi_end s xs k (by omega)] at hf
   refine byP hi ?_
   refine sw_run 200 _ _ _ ?_
   simp only [push_cast,↓reduceIte,Nat.reduceLT,reduceCtorEq,Int.reduceNeg,← hf,Tryz.results193]
theorem con_Contains (xs:List ByteArray) (s:ByteArray) (hl:xs.length≤1000000000):Con Tryz.prog 186 [.one (strsD xs),.one (.str s)] [.one (.bool (decide (0≤fi s xs 0)))]:=by
 have hc:=con_Index xs s hl
 simp only [strsD] at hc ⊢
 refine con_run Tryz.func186 rfl rfl (by simp [Tryz.ntmps186]) ?_
 refine byP Tryz.ntmps186 ?_
 refine sw_call hc rfl (aAs_ok ?_) ?_ (sw_run 200 _ _ _ ?_)
 ·exact byQ True.intro
 ·simp only [okR]
 exact byP Tryz.results186 True.intro
theorem con_IndexOfS (xs:List ByteArray) (s:ByteArray) (hl:xs.length≤1000000000):Con Tryz.prog 124 [.one (strsD xs),.one (.str s)] [.one (.int (fi s xs 0))]:=by
 refine con_run Tryz.func124 rfl rfl (by simp [Tryz.ntmps124]) ?_
 refine byP Tryz.ntmps124 ?_
 refine sw_loop (fun k:Nat=>k≤xs.length∧fi s (xs.drop k) k=fi s xs 0) (fun k=>⟨19,[(5,.i k),(0,.br (.rows 1 xs.length (xs.map D.str))),(1,.s s)],[],[],0,[]⟩) (fun k=>xs.length-k) 0 id ⟨Nat.zero_le _,rfl⟩ ?_ ?_
 ·exact byQ True.intro
 ·rintro k ⟨hk,hf⟩
  refine sw_run 200 _ _ _ ?_
  by_cases hlt:k<xs.length
  ·have hi:(k:Int)<(xs.length:Int):=by omega
   have hR:=strs_row xs k hlt
   rw [fi_step s xs k hlt] at hf
   by_cases he:xs[k]! = s
   ·rw [if_pos he.symm] at hf
    refine byP (fc hi (fc hR (fc (eq_true he) Tryz.results124))) ?_
    exact hf
   ·rw [if_neg (fun e=>he e.symm)] at hf
    refine byP (fc hi (fc hR he)) ?_
    refine ⟨by unfold inI;omega,k+1,id,⟨by omega,hf⟩,by omega, ?_⟩
    exact byQ True.intro
  ·have hi:¬ (k:Int)<(xs.length:Int):=by omega
   rw [fi_end s xs k (by omega)] at hf
   refine byP hi ?_
   refine sw_run 200 _ _ _ ?_
   simp only [push_cast,↓reduceIte,Nat.reduceLT,reduceCtorEq,Int.reduceNeg,← hf,Tryz.results124]
def byteI (s:ByteArray) (i:Nat):Int:=(((s.data.getD i 0).toNat:Nat):Int)
def chOk (s:ByteArray) (i:Nat):Bool:=(decide (97≤byteI s i) && decide (byteI s i≤122)) || (!decide (i=0) && (decide (48≤byteI s i) && decide (byteI s i≤57)))
def chAll (s:ByteArray):Nat→Bool
 | 0=>true
 | k+1=>chAll s k && chOk s k
theorem chAll_le (s : ByteArray) : ∀ n k, k ≤ n → chAll s k = false → chAll s n = false
  | 0, k, h, e => by obtain rfl : k = 0 := by omega
                     exact e
  | n + 1, k, h, e => by
    by_cases hk : k = n + 1
    · subst hk; exact e
    · rw [chAll, chAll_le s n k (by omega) e]; rfl
def kwIf:ByteArray:=⟨#[105,102]⟩
def kwLet:ByteArray:=⟨#[108,101,116]⟩
def kwLift:ByteArray:=⟨#[108,105,102,116]⟩
def kwRec:ByteArray:=⟨#[114,101,99]⟩
def kwRun:ByteArray:=⟨#[114,117,110]⟩
def nmB (s:ByteArray):Bool:=chAll s s.size && ((decide (1≤(s.size:Int)) && decide ((s.size:Int)≤4)) && !decide (0≤fi s [kwIf,kwLet,kwLift,kwRec,kwRun] 0))
theorem fi_kw (s:ByteArray):decide (0≤fi s [kwIf,kwLet,kwLift,kwRec,kwRun] 0)=decide (s=⟨#[105,102]⟩∨s=⟨#[108,101,116]⟩∨s=⟨#[114,101,99]⟩∨s=⟨#[114,117,110]⟩∨s=⟨#[108,105,102,116]⟩):=by
 simp only [fi,kwIf,kwLet,kwLift,kwRec,kwRun]
 by_cases e1:s=⟨#[105,102]⟩
 ·simp only [eq_true e1,if_true,true_or,decide_true];rfl
 by_cases e2:s=⟨#[108,101,116]⟩
 ·simp only [eq_true e2,if_true,true_or,or_true,e1,if_false,decide_true];rfl
 by_cases e3:s=⟨#[108,105,102,116]⟩
 ·simp only [eq_true e3,if_true,or_true,e1,e2,if_false,decide_true];rfl
 by_cases e4:s=⟨#[114,101,99]⟩
 ·simp only [eq_true e4,if_true,true_or,or_true,e1,e2,e3,if_false,decide_true];rfl
 by_cases e5:s=⟨#[114,117,110]⟩
 ·simp only [eq_true e5,if_true,true_or,or_true,e1,e2,e3,e4,if_false,decide_true];rfl
 simp only [e1,e2,e3,e4,e5,if_false,or_self];rfl
theorem byte_cases (c:Int):c<48∨(48≤c∧c≤57)∨(57<c∧c<97)∨(97≤c∧c≤122)∨122<c:=by omega
theorem con_IsNameI (s:ByteArray) (hz:s.size≤1000000000):Con Tryz.prog 107 [.one (.str s)] [.one (.bool (nmB s))]:=by
 refine con_run Tryz.func107 rfl rfl (by simp [Tryz.ntmps107]) ?_
 refine byP Tryz.ntmps107 ?_
 refine sw_loop (fun k:Nat=>k≤s.size∧chAll s k=true) (fun k=>⟨48,[(7,.i k),(6,.i s.size),(0,.s s)],[],[],0,[]⟩) (fun k=>s.size-k) 0 id ⟨Nat.zero_le _,rfl⟩ ?_ ?_
 ·exact byQ True.intro
 ·rintro k ⟨hk,hall⟩
  refine sw_run 200 _ _ _ ?_
  by_cases hlt:k<s.size
  ·have hi:(k:Int)<(s.size:Int):=by omega
   have hB:((((s.data.getD k 0).toNat:Nat)):Int)=byteI s k:=rfl
   by_cases hch:chOk s k=true
   ·have hall':chAll s (k+1)=true:=by rw [chAll,hall,hch];rfl
    have fin:∀ (a b c d:Prop),True:=fun _ _ _ _=>trivial
    unfold chOk at hch
    rcases byte_cases (byteI s k) with h | h | h | h | h
    ·exfalso;simp [show ¬ (97≤byteI s k) by omega,show ¬ (48≤byteI s k) by omega] at hch
    ·have h1:¬ (97≤byteI s k):=by omega
     have h2:¬ (byteI s k<48):=by omega
     have h3:¬ (57<byteI s k):=by omega
     have h0:¬ (k:Int)=0:=fun e=>by
      have:k=0:=by omega
      subst this
      simp [h1] at hch
     refine byP (fc hi (fc hB (fc h0 (fc h1 (fc h2 h3))))) ?_
     refine ⟨by unfold inI;omega,k+1,id,⟨by omega,hall'⟩,by omega, ?_⟩
     exact byQ True.intro
    ·exfalso;simp [show ¬ (97≤byteI s k) by omega,show ¬ (byteI s k≤57) by omega] at hch
    ·have h1:97≤byteI s k:=h.1
     have h2:byteI s k≤122:=h.2
     refine byP (fc hi (fc hB (fc h1 h2))) ?_
     refine ⟨by unfold inI;omega,k+1,id,⟨by omega,hall'⟩,by omega, ?_⟩
     exact byQ True.intro
    ·exfalso;simp [show ¬ (byteI s k≤122) by omega,show ¬ (byteI s k≤57) by omega] at hch
   ·have hf:chOk s k=false:=by simpa using hch
    have hnm:nmB s=false:=by rw [nmB,chAll_le s s.size (k+1) (by omega) (by rw [chAll,hf,Bool.and_false])];rfl
    rw [hnm]
    unfold chOk at hf
    by_cases h00:(k:Int)=0
    ·have h0:=eq_true h00
     rcases byte_cases (byteI s k) with h | h | h | h | h
     ·exact byP (fc hi (fc hB (fc h0 (fc (show ¬ (97≤byteI s k) by omega) Tryz.results107)))) True.intro
     ·exact byP (fc hi (fc hB (fc h0 (fc (show ¬ (97≤byteI s k) by omega) Tryz.results107)))) True.intro
     ·exact byP (fc hi (fc hB (fc h0 (fc (show ¬ (97≤byteI s k) by omega) Tryz.results107)))) True.intro
     ·exfalso;simp [h.1,h.2] at hf
     ·exact byP (fc hi (fc hB (fc h0 (fc (show (97≤byteI s k) by omega) (fc (show ¬ (byteI s k≤122) by omega) Tryz.results107))))) True.intro
    ·have h0:=h00
     have h0':k≠0:=fun e=>h0 (by omega)
     rcases byte_cases (byteI s k) with h | h | h | h | h
     ·exact byP (fc hi (fc hB (fc h0 (fc (show ¬ (97≤byteI s k) by omega) (fc (show byteI s k<48 by omega) Tryz.results107))))) True.intro
     ·exfalso;simp [h.1,h.2,h0'] at hf
     ·exact byP (fc hi (fc hB (fc h0 (fc (show ¬ (97≤byteI s k) by omega) (fc (show ¬ (byteI s k<48) by omega) (fc (show 57<byteI s k by omega) Tryz.results107)))))) True.intro
     ·exfalso;simp [h.1,h.2] at hf
     ·exact byP (fc hi (fc hB (fc h0 (fc (show (97≤byteI s k) by omega) (fc (show ¬ (byteI s k≤122) by omega) (fc (show ¬ (byteI s k<48) by omega) (fc (show 57<byteI s k by omega) Tryz.results107))))))) True.intro
  ·have hi:¬ (k:Int)<(s.size:Int):=by omega
   obtain rfl:k=s.size:=by omega
   have hw:=con_within (s.size:Int) 1 4
   obtain ⟨b,hb⟩:∃ b,b=(decide (1≤(s.size:Int)) && decide ((s.size:Int)≤4)):=⟨_,rfl⟩
   have hnm:nmB s=(b && !decide (0≤fi s [kwIf,kwLet,kwLift,kwRec,kwRun] 0)):=by rw [nmB,hall,Bool.true_and,hb]
   rw [hnm]
   rw [← hb] at hw
   refine byP hi ?_
   refine sw_run 200 _ _ _ ?_
   refine byQ ?_
   refine sw_call hw rfl (aAs_ok ?_) ?_ (sw_run 200 _ _ _ ?_)
   ·exact byQ True.intro
   ·simp only [okR]
   cases b
   ·exact byP Tryz.results107 True.intro
   ·refine byQ ?_
    have hcc:=con_Contains [kwIf,kwLet,kwLift,kwRec,kwRun] s (by simp)
    refine sw_call hcc rfl (aAs_ok ?_) ?_ (sw_run 200 _ _ _ ?_)
    ·exact byP (fc kwIf.eq_1 (fc kwLet.eq_1 (fc kwLift.eq_1 (fc kwRec.eq_1 kwRun.eq_1)))) True.intro
    ·simp only [okR]
    exact byP Tryz.results107 True.intro
theorem con_IsNameS (s:ByteArray) (hz:s.size≤1000000000):Con Tryz.prog 108 [.one (.str s)] [.one (.bool (nmB s))]:=by
 refine con_run Tryz.func108 rfl rfl (by simp [Tryz.ntmps108]) ?_
 refine byP Tryz.ntmps108 ?_
 refine sw_loop (fun k:Nat=>k≤s.size∧chAll s k=true) (fun k=>⟨62,[(3,.i k),(0,.s s)],[],[],0,[]⟩) (fun k=>s.size-k) 0 id ⟨Nat.zero_le _,rfl⟩ ?_ ?_
 ·exact byQ True.intro
 ·rintro k ⟨hk,hall⟩
  refine sw_run 200 _ _ _ ?_
  by_cases hlt:k<s.size
  ·have hi:(k:Int)<(s.size:Int):=by omega
   have hB:((((s.data.getD k 0).toNat:Nat)):Int)=byteI s k:=rfl
   by_cases hch:chOk s k=true
   ·have hall':chAll s (k+1)=true:=by rw [chAll,hall,hch];rfl
    unfold chOk at hch
    rcases byte_cases (byteI s k) with h | h | h | h | h
    ·exfalso;simp [show ¬ (97≤byteI s k) by omega,show ¬ (48≤byteI s k) by omega] at hch
    ·have h1:¬ (97≤byteI s k):=by omega
     have h2:¬ (byteI s k<48):=by omega
     have h3:¬ (57<byteI s k):=by omega
     have h0:¬ (k:Int)=0:=fun e=>by
      have:k=0:=by omega
      subst this
      simp [h1] at hch
     refine byP (fc hi (fc hB (fc h0 (fc h1 (fc h2 h3))))) ?_
     refine ⟨by unfold inI;omega,k+1,id,⟨by omega,hall'⟩,by omega, ?_⟩
     exact byQ True.intro
    ·exfalso;simp [show ¬ (97≤byteI s k) by omega,show ¬ (byteI s k≤57) by omega] at hch
    ·have h1:97≤byteI s k:=h.1
     have h2:byteI s k≤122:=h.2
     refine byP (fc hi (fc hB (fc h1 h2))) ?_
     refine ⟨by unfold inI;omega,k+1,id,⟨by omega,hall'⟩,by omega, ?_⟩
     exact byQ True.intro
    ·exfalso;simp [show ¬ (byteI s k≤122) by omega,show ¬ (byteI s k≤57) by omega] at hch
   ·have hf:chOk s k=false:=by simpa using hch
    have hnm:nmB s=false:=by rw [nmB,chAll_le s s.size (k+1) (by omega) (by rw [chAll,hf,Bool.and_false])];rfl
    rw [hnm]
    unfold chOk at hf
    by_cases h00:(k:Int)=0
    ·have h0:=eq_true h00
     rcases byte_cases (byteI s k) with h | h | h | h | h
     ·exact byP (fc hi (fc hB (fc h0 (fc (show ¬ (97≤byteI s k) by omega) Tryz.results108)))) True.intro
     ·exact byP (fc hi (fc hB (fc h0 (fc (show ¬ (97≤byteI s k) by omega) Tryz.results108)))) True.intro
     ·exact byP (fc hi (fc hB (fc h0 (fc (show ¬ (97≤byteI s k) by omega) Tryz.results108)))) True.intro
     ·exfalso;simp [h.1,h.2] at hf
     ·exact byP (fc hi (fc hB (fc h0 (fc (show (97≤byteI s k) by omega) (fc (show ¬ (byteI s k≤122) by omega) Tryz.results108))))) True.intro
    ·have h0:=h00
     have h0':k≠0:=fun e=>h0 (by omega)
     rcases byte_cases (byteI s k) with h | h | h | h | h
     ·exact byP (fc hi (fc hB (fc h0 (fc (show ¬ (97≤byteI s k) by omega) (fc (show byteI s k<48 by omega) Tryz.results108))))) True.intro
     ·exfalso;simp [h.1,h.2,h0'] at hf
     ·exact byP (fc hi (fc hB (fc h0 (fc (show ¬ (97≤byteI s k) by omega) (fc (show ¬ (byteI s k<48) by omega) (fc (show 57<byteI s k by omega) Tryz.results108)))))) True.intro
     ·exfalso;simp [h.1,h.2] at hf
     ·exact byP (fc hi (fc hB (fc h0 (fc (show (97≤byteI s k) by omega) (fc (show ¬ (byteI s k≤122) by omega) (fc (show ¬ (byteI s k<48) by omega) (fc (show 57<byteI s k by omega) Tryz.results108))))))) True.intro
  ·have hi:¬ (k:Int)<(s.size:Int):=by omega
   obtain rfl:k=s.size:=by omega
   have hw:=con_l1In (s.size:Int) 1 4
   obtain ⟨b,hb⟩:∃ b,b=(decide (1≤(s.size:Int)) && decide ((s.size:Int)≤4)):=⟨_,rfl⟩
   have hnm:nmB s=(b && !decide (0≤fi s [kwIf,kwLet,kwLift,kwRec,kwRun] 0)):=by rw [nmB,hall,Bool.true_and,hb]
   rw [hnm]
   rw [← hb] at hw
   refine byP hi ?_
   refine sw_run 200 _ _ _ ?_
   refine byQ ?_
   refine sw_call hw rfl (aAs_ok ?_) ?_ (sw_run 200 _ _ _ ?_)
   ·exact byQ True.intro
   ·simp only [okR]
   cases b
   ·exact byP Tryz.results108 True.intro
   ·rw [fi_kw]
    by_cases e1:s=⟨#[105,102]⟩
    ·exact byP (fc (eq_true e1) Tryz.results108) True.intro
    by_cases e2:s=⟨#[108,101,116]⟩
    ·exact byP (fc e1 (fc (eq_true e2) Tryz.results108)) True.intro
    by_cases e3:s=⟨#[114,101,99]⟩
    ·exact byP (fc e1 (fc e2 (fc (eq_true e3) Tryz.results108))) True.intro
    by_cases e4:s=⟨#[114,117,110]⟩
    ·exact byP (fc e1 (fc e2 (fc e3 (fc (eq_true e4) Tryz.results108)))) True.intro
    by_cases e5:s=⟨#[108,105,102,116]⟩
    ·exact byP (fc e1 (fc e2 (fc e3 (fc e4 (fc (eq_true e5) Tryz.results108))))) True.intro
    exact byP (fc e1 (fc e2 (fc e3 (fc e4 (fc e5 Tryz.results108))))) True.intro
end Go.Proofs.YtaidalilfmjfgaaGreat
