import Derived.Test.YtaidalilfmjfgaaGreatTyC
import Derived.Test.YtaidalilfmjfgaaGreatLst
namespace Go.Proofs.YtaidalilfmjfgaaGreat
open Go.RowKit
set_option linter.unusedVariables false
set_option linter.unusedSimpArgs false
set_option maxRecDepth 20000
def fi (s:ByteArray):List ByteArray→Int→Int
 | [],_ => -1
 | x :: xs,i=>if s=x then i else fi s xs (i+1)
theorem fi_step (s:ByteArray) (xs:List ByteArray) (k:Nat) (h:k<xs.length):fi s (xs.drop k) k=if s=xs[k]! then (k:Int) else fi s (xs.drop (k+1)) ((k+1:Nat):Int):=by
 rw [List.drop_eq_getElem_cons h,getElem!_pos xs k h];rfl
theorem fi_end (s:ByteArray) (xs:List ByteArray) (k:Nat) (h:xs.length≤k) (i:Int):fi s (xs.drop k) i = -1:=by rw [List.drop_of_length_le h];rfl
theorem fi_range (s : ByteArray) : ∀ (xs : List ByteArray) (i : Int), 0 ≤ i → (fi s xs i = -1 ∨ (i ≤ fi s xs i ∧ fi s xs i < i + xs.length))
  | [], i, _ => .inl rfl
  | x :: xs, i, h => by
    rw [fi, List.length_cons]
    split
    · right; omega
    · rcases fi_range s xs (i + 1) (by omega) with h1 | h1
      · exact .inl h1
      · right; omega
theorem con_Index (xs:List ByteArray) (s:ByteArray) (hl:xs.length≤1000000000):Con Tryz.prog 193 [.one (strsD xs),.one (.str s)] [.one (.int (fi s xs 0))]:=by
 refine con_run Tryz.func193 rfl rfl (by simp [Tryz.ntmps193]) ?_
 simp only [push_cast,↓reduceIte,Nat.reduceLT,reduceCtorEq,Int.reduceNeg,Tryz.ntmps193]
 refine sw_loop (fun k:Nat=>k≤xs.length∧fi s (xs.drop k) k=fi s xs 0) (fun k=>⟨19,[(8,.i k),(7,.i xs.length),(0,.br (.rows 1 xs.length (xs.map D.str))),(1,.s s)],[],[],0,[]⟩) (fun k=>xs.length-k) 0 id ⟨Nat.zero_le _,rfl⟩ ?_ ?_
 ·simp only [push_cast,Sub,subT,subB,subO,subP,inj,AV.ren,AV.lt,↓reduceIte,Nat.reduceEqDiff,reduceCtorEq]
 ·rintro k ⟨hk,hf⟩
  refine sw_run 200 _ _ _ ?_
  by_cases hlt:k<xs.length
  ·have hi:(k:Int)<(xs.length:Int):=by omega
   have hR:=strs_row xs k hlt
   rw [fi_step s xs k hlt] at hf
   by_cases he:s=xs[k]!
   ·rw [if_pos he] at hf
    simp only [push_cast,↓reduceIte,Nat.reduceLT,Nat.reduceEqDiff,reduceCtorEq,hi,hR,he,Tryz.results193]
    rw [← he];exact hf
   ·rw [if_neg he] at hf
    simp only [push_cast,↓reduceIte,Nat.reduceLT,Nat.reduceEqDiff,reduceCtorEq,hi,hR,he]
    refine ⟨by unfold inI;omega,k+1,id,⟨by omega,hf⟩,by omega, ?_⟩
    simp only [push_cast,Sub,subT,subB,subO,subP,inj,AV.ren,AV.lt,↓reduceIte,Nat.reduceEqDiff,reduceCtorEq,cast1]
  ·have hi:¬ (k:Int)<(xs.length:Int):=by omega
   rw [fi_end s xs k (by omega)] at hf
   simp only [push_cast,↓reduceIte,Nat.reduceLT,Nat.reduceEqDiff,Int.reduceNeg,hi]
   refine sw_run 200 _ _ _ ?_
   simp only [push_cast,↓reduceIte,Nat.reduceLT,reduceCtorEq,Int.reduceNeg,← hf,Tryz.results193]
theorem con_Contains (xs:List ByteArray) (s:ByteArray) (hl:xs.length≤1000000000):Con Tryz.prog 186 [.one (strsD xs),.one (.str s)] [.one (.bool (decide (0≤fi s xs 0)))]:=by
 have hc:=con_Index xs s hl
 simp only [strsD] at hc ⊢
 refine con_run Tryz.func186 rfl rfl (by simp [Tryz.ntmps186]) ?_
 simp only [push_cast,↓reduceIte,Nat.reduceLT,Nat.reduceEqDiff,reduceCtorEq,Tryz.ntmps186]
 refine sw_call hc rfl (aAs_ok ?_) ?_ (sw_run 200 _ _ _ ?_)
 ·simp only [push_cast,aAs,aA,aD,↓reduceIte,Nat.reduceEqDiff]
 ·simp only [okR]
 simp only [push_cast,↓reduceIte,Nat.reduceLT,reduceCtorEq,Tryz.results186]
theorem con_IndexOfS (xs:List ByteArray) (s:ByteArray) (hl:xs.length≤1000000000):Con Tryz.prog 124 [.one (strsD xs),.one (.str s)] [.one (.int (fi s xs 0))]:=by
 refine con_run Tryz.func124 rfl rfl (by simp [Tryz.ntmps124]) ?_
 simp only [push_cast,↓reduceIte,Nat.reduceLT,Int.reduceNeg,Tryz.ntmps124]
 refine sw_loop (fun k:Nat=>k≤xs.length∧fi s (xs.drop k) k=fi s xs 0) (fun k=>⟨19,[(5,.i k),(0,.br (.rows 1 xs.length (xs.map D.str))),(1,.s s)],[],[],0,[]⟩) (fun k=>xs.length-k) 0 id ⟨Nat.zero_le _,rfl⟩ ?_ ?_
 ·simp only [push_cast,Sub,subT,subB,subO,subP,inj,AV.ren,AV.lt,↓reduceIte,Nat.reduceEqDiff,reduceCtorEq]
 ·rintro k ⟨hk,hf⟩
  refine sw_run 200 _ _ _ ?_
  by_cases hlt:k<xs.length
  ·have hi:(k:Int)<(xs.length:Int):=by omega
   have hR:=strs_row xs k hlt
   rw [fi_step s xs k hlt] at hf
   by_cases he:xs[k]! = s
   ·rw [if_pos he.symm] at hf
    simp only [push_cast,↓reduceIte,Nat.reduceLT,Nat.reduceEqDiff,reduceCtorEq,hi,hR,eq_true he,Tryz.results124]
    exact hf
   ·rw [if_neg (fun e=>he e.symm)] at hf
    simp only [push_cast,↓reduceIte,Nat.reduceLT,Nat.reduceEqDiff,reduceCtorEq,hi,hR,he]
    refine ⟨by unfold inI;omega,k+1,id,⟨by omega,hf⟩,by omega, ?_⟩
    simp only [push_cast,Sub,subT,subB,subO,subP,inj,AV.ren,AV.lt,↓reduceIte,Nat.reduceEqDiff,reduceCtorEq,cast1]
  ·have hi:¬ (k:Int)<(xs.length:Int):=by omega
   rw [fi_end s xs k (by omega)] at hf
   simp only [push_cast,↓reduceIte,Nat.reduceLT,Nat.reduceEqDiff,reduceCtorEq,Int.reduceNeg,hi]
   refine sw_run 200 _ _ _ ?_
   simp only [push_cast,↓reduceIte,Nat.reduceLT,reduceCtorEq,Int.reduceNeg,← hf,Tryz.results124]
def byteI (s:ByteArray) (i:Nat):Int:=(((s.data.getD i 0).toNat:Nat):Int)
def chOk (s:ByteArray) (i:Nat):Bool:=(decide (97≤byteI s i) && decide (byteI s i≤122)) || (!decide (i=0) && (decide (48≤byteI s i) && decide (byteI s i≤57)))
def chAll (s:ByteArray):Nat→Bool
 | 0=>true
 | k+1=>chAll s k && chOk s k
theorem chAll_le (s : ByteArray) : ∀ n k, k ≤ n → chAll s k = false → chAll s n = false
  | 0, k, h, e => by obtain rfl : k = 0 := by omega
                     exact e
  | n + 1, k, h, e => by
    by_cases hk : k = n + 1
    · subst hk; exact e
    · rw [chAll, chAll_le s n k (by omega) e]; rfl
def kwIf:ByteArray:=⟨#[105,102]⟩
def kwLet:ByteArray:=⟨#[108,101,116]⟩
def kwLift:ByteArray:=⟨#[108,105,102,116]⟩
def kwRec:ByteArray:=⟨#[114,101,99]⟩
def kwRun:ByteArray:=⟨#[114,117,110]⟩
def nmB (s:ByteArray):Bool:=chAll s s.size && ((decide (1≤(s.size:Int)) && decide ((s.size:Int)≤4)) && !decide (0≤fi s [kwIf,kwLet,kwLift,kwRec,kwRun] 0))
theorem fi_kw (s:ByteArray):decide (0≤fi s [kwIf,kwLet,kwLift,kwRec,kwRun] 0)=decide (s=⟨#[105,102]⟩∨s=⟨#[108,101,116]⟩∨s=⟨#[114,101,99]⟩∨s=⟨#[114,117,110]⟩∨s=⟨#[108,105,102,116]⟩):=by
 simp only [fi,kwIf,kwLet,kwLift,kwRec,kwRun]
 by_cases e1:s=⟨#[105,102]⟩
 ·simp only [eq_true e1,if_true,true_or,decide_true];rfl
 by_cases e2:s=⟨#[108,101,116]⟩
 ·simp only [eq_true e2,if_true,true_or,or_true,e1,if_false,decide_true];rfl
 by_cases e3:s=⟨#[108,105,102,116]⟩
 ·simp only [eq_true e3,if_true,or_true,e1,e2,if_false,decide_true];rfl
 by_cases e4:s=⟨#[114,101,99]⟩
 ·simp only [eq_true e4,if_true,true_or,or_true,e1,e2,e3,if_false,decide_true];rfl
 by_cases e5:s=⟨#[114,117,110]⟩
 ·simp only [eq_true e5,if_true,true_or,or_true,e1,e2,e3,e4,if_false,decide_true];rfl
 simp only [e1,e2,e3,e4,e5,if_false,or_self];rfl
theorem byte_cases (c:Int):c<48∨(48≤c∧c≤57)∨(57<c∧c<97)∨(97≤c∧c≤122)∨122<c:=by omega
theorem con_IsNameI (s:ByteArray) (hz:s.size≤1000000000):Con Tryz.prog 107 [.one (.str s)] [.one (.bool (nmB s))]:=by
 refine con_run Tryz.func107 rfl rfl (by simp [Tryz.ntmps107]) ?_
 simp only [push_cast,↓reduceIte,Nat.reduceLT,reduceCtorEq,Tryz.ntmps107]
 refine sw_loop (fun k:Nat=>k≤s.size∧chAll s k=true) (fun k=>⟨48,[(7,.i k),(6,.i s.size),(0,.s s)],[],[],0,[]⟩) (fun k=>s.size-k) 0 id ⟨Nat.zero_le _,rfl⟩ ?_ ?_
 ·simp only [push_cast,Sub,subT,subB,subO,subP,inj,AV.ren,AV.lt,↓reduceIte,Nat.reduceEqDiff,reduceCtorEq]
 ·rintro k ⟨hk,hall⟩
  refine sw_run 200 _ _ _ ?_
  by_cases hlt:k<s.size
  ·have hi:(k:Int)<(s.size:Int):=by omega
   have hB:((((s.data.getD k 0).toNat:Nat)):Int)=byteI s k:=rfl
   by_cases hch:chOk s k=true
   ·have hall':chAll s (k+1)=true:=by rw [chAll,hall,hch];rfl
    have fin:∀ (a b c d:Prop),True:=fun _ _ _ _=>trivial
    unfold chOk at hch
    rcases byte_cases (byteI s k) with h | h | h | h | h
    ·exfalso;simp [show ¬ (97≤byteI s k) by omega,show ¬ (48≤byteI s k) by omega] at hch
    ·have h1:¬ (97≤byteI s k):=by omega
     have h2:¬ (byteI s k<48):=by omega
     have h3:¬ (57<byteI s k):=by omega
     have h0:¬ (k:Int)=0:=fun e=>by
      have:k=0:=by omega
      subst this
      simp [h1] at hch
     simp only [push_cast,↓reduceIte,Nat.reduceLT,Nat.reduceEqDiff,reduceCtorEq,hi,hB,h0,h1,h2,h3]
     refine ⟨by unfold inI;omega,k+1,id,⟨by omega,hall'⟩,by omega, ?_⟩
     simp only [push_cast,Sub,subT,subB,subO,subP,inj,AV.ren,AV.lt,↓reduceIte,Nat.reduceEqDiff,reduceCtorEq,cast1]
    ·exfalso;simp [show ¬ (97≤byteI s k) by omega,show ¬ (byteI s k≤57) by omega] at hch
    ·have h1:97≤byteI s k:=h.1
     have h2:byteI s k≤122:=h.2
     simp only [push_cast,↓reduceIte,Nat.reduceLT,Nat.reduceEqDiff,reduceCtorEq,hi,hB,h1,h2]
     refine ⟨by unfold inI;omega,k+1,id,⟨by omega,hall'⟩,by omega, ?_⟩
     simp only [push_cast,Sub,subT,subB,subO,subP,inj,AV.ren,AV.lt,↓reduceIte,Nat.reduceEqDiff,reduceCtorEq,cast1]
    ·exfalso;simp [show ¬ (byteI s k≤122) by omega,show ¬ (byteI s k≤57) by omega] at hch
   ·have hf:chOk s k=false:=by simpa using hch
    have hnm:nmB s=false:=by rw [nmB,chAll_le s s.size (k+1) (by omega) (by rw [chAll,hf,Bool.and_false])];rfl
    rw [hnm]
    unfold chOk at hf
    by_cases h00:(k:Int)=0
    ·have h0:=eq_true h00
     rcases byte_cases (byteI s k) with h | h | h | h | h
     ·simp only [push_cast,↓reduceIte,Nat.reduceLT,Nat.reduceEqDiff,reduceCtorEq,hi,hB,h0,show ¬ (97≤byteI s k) by omega,Tryz.results107]
     ·simp only [push_cast,↓reduceIte,Nat.reduceLT,Nat.reduceEqDiff,reduceCtorEq,hi,hB,h0,show ¬ (97≤byteI s k) by omega,Tryz.results107]
     ·simp only [push_cast,↓reduceIte,Nat.reduceLT,Nat.reduceEqDiff,reduceCtorEq,hi,hB,h0,show ¬ (97≤byteI s k) by omega,Tryz.results107]
     ·exfalso;simp [h.1,h.2] at hf
     ·simp only [push_cast,↓reduceIte,Nat.reduceLT,Nat.reduceEqDiff,reduceCtorEq,hi,hB,h0,show (97≤byteI s k) by omega,show ¬ (byteI s k≤122) by omega,Tryz.results107]
    ·have h0:=h00
     have h0':k≠0:=fun e=>h0 (by omega)
     rcases byte_cases (byteI s k) with h | h | h | h | h
     ·simp only [push_cast,↓reduceIte,Nat.reduceLT,Nat.reduceEqDiff,reduceCtorEq,hi,hB,h0,show ¬ (97≤byteI s k) by omega,show byteI s k<48 by omega,Tryz.results107]
     ·exfalso;simp [h.1,h.2,h0'] at hf
     ·simp only [push_cast,↓reduceIte,Nat.reduceLT,Nat.reduceEqDiff,reduceCtorEq,hi,hB,h0,show ¬ (97≤byteI s k) by omega,show ¬ (byteI s k<48) by omega,show 57<byteI s k by omega,Tryz.results107]
     ·exfalso;simp [h.1,h.2] at hf
     ·simp only [push_cast,↓reduceIte,Nat.reduceLT,Nat.reduceEqDiff,reduceCtorEq,hi,hB,h0,show (97≤byteI s k) by omega,show ¬ (byteI s k≤122) by omega,show ¬ (byteI s k<48) by omega,show 57<byteI s k by omega,Tryz.results107]
  ·have hi:¬ (k:Int)<(s.size:Int):=by omega
   obtain rfl:k=s.size:=by omega
   have hw:=con_within (s.size:Int) 1 4
   obtain ⟨b,hb⟩:∃ b,b=(decide (1≤(s.size:Int)) && decide ((s.size:Int)≤4)):=⟨_,rfl⟩
   have hnm:nmB s=(b && !decide (0≤fi s [kwIf,kwLet,kwLift,kwRec,kwRun] 0)):=by rw [nmB,hall,Bool.true_and,hb]
   rw [hnm]
   rw [← hb] at hw
   simp only [push_cast,↓reduceIte,Nat.reduceLT,Nat.reduceEqDiff,hi]
   refine sw_run 200 _ _ _ ?_
   simp only [push_cast,↓reduceIte,Nat.reduceLT,reduceCtorEq]
   refine sw_call hw rfl (aAs_ok ?_) ?_ (sw_run 200 _ _ _ ?_)
   ·simp only [push_cast,aAs,aA,aD,↓reduceIte]
   ·simp only [okR]
   cases b
   ·simp only [push_cast,↓reduceIte,Nat.reduceLT,Nat.reduceEqDiff,reduceCtorEq,Tryz.results107]
   ·simp only [push_cast,↓reduceIte,Nat.reduceLT,Nat.reduceAdd,Nat.reduceLeDiff,Nat.reduceEqDiff,reduceCtorEq]
    have hcc:=con_Contains [kwIf,kwLet,kwLift,kwRec,kwRun] s (by simp)
    refine sw_call hcc rfl (aAs_ok ?_) ?_ (sw_run 200 _ _ _ ?_)
    ·simp only [push_cast,aAs,aA,aD,↓reduceIte,Nat.reduceEqDiff,Nat.reduceAdd,kwIf,kwLet,kwLift,kwRec,kwRun]
    ·simp only [okR]
    simp only [push_cast,↓reduceIte,Nat.reduceLT,Nat.reduceEqDiff,reduceCtorEq,Tryz.results107]
theorem con_IsNameS (s:ByteArray) (hz:s.size≤1000000000):Con Tryz.prog 108 [.one (.str s)] [.one (.bool (nmB s))]:=by
 refine con_run Tryz.func108 rfl rfl (by simp [Tryz.ntmps108]) ?_
 simp only [push_cast,↓reduceIte,Nat.reduceLT,Tryz.ntmps108]
 refine sw_loop (fun k:Nat=>k≤s.size∧chAll s k=true) (fun k=>⟨62,[(3,.i k),(0,.s s)],[],[],0,[]⟩) (fun k=>s.size-k) 0 id ⟨Nat.zero_le _,rfl⟩ ?_ ?_
 ·simp only [push_cast,Sub,subT,subB,subO,subP,inj,AV.ren,AV.lt,↓reduceIte,reduceCtorEq]
 ·rintro k ⟨hk,hall⟩
  refine sw_run 200 _ _ _ ?_
  by_cases hlt:k<s.size
  ·have hi:(k:Int)<(s.size:Int):=by omega
   have hB:((((s.data.getD k 0).toNat:Nat)):Int)=byteI s k:=rfl
   by_cases hch:chOk s k=true
   ·have hall':chAll s (k+1)=true:=by rw [chAll,hall,hch];rfl
    unfold chOk at hch
    rcases byte_cases (byteI s k) with h | h | h | h | h
    ·exfalso;simp [show ¬ (97≤byteI s k) by omega,show ¬ (48≤byteI s k) by omega] at hch
    ·have h1:¬ (97≤byteI s k):=by omega
     have h2:¬ (byteI s k<48):=by omega
     have h3:¬ (57<byteI s k):=by omega
     have h0:¬ (k:Int)=0:=fun e=>by
      have:k=0:=by omega
      subst this
      simp [h1] at hch
     simp only [push_cast,↓reduceIte,Nat.reduceLT,Nat.reduceEqDiff,reduceCtorEq,hi,hB,h0,h1,h2,h3]
     refine ⟨by unfold inI;omega,k+1,id,⟨by omega,hall'⟩,by omega, ?_⟩
     simp only [push_cast,Sub,subT,subB,subO,subP,inj,AV.ren,AV.lt,↓reduceIte,reduceCtorEq,cast1]
    ·exfalso;simp [show ¬ (97≤byteI s k) by omega,show ¬ (byteI s k≤57) by omega] at hch
    ·have h1:97≤byteI s k:=h.1
     have h2:byteI s k≤122:=h.2
     simp only [push_cast,↓reduceIte,Nat.reduceLT,Nat.reduceEqDiff,reduceCtorEq,hi,hB,h1,h2]
     refine ⟨by unfold inI;omega,k+1,id,⟨by omega,hall'⟩,by omega, ?_⟩
     simp only [push_cast,Sub,subT,subB,subO,subP,inj,AV.ren,AV.lt,↓reduceIte,reduceCtorEq,cast1]
    ·exfalso;simp [show ¬ (byteI s k≤122) by omega,show ¬ (byteI s k≤57) by omega] at hch
   ·have hf:chOk s k=false:=by simpa using hch
    have hnm:nmB s=false:=by rw [nmB,chAll_le s s.size (k+1) (by omega) (by rw [chAll,hf,Bool.and_false])];rfl
    rw [hnm]
    unfold chOk at hf
    by_cases h00:(k:Int)=0
    ·have h0:=eq_true h00
     rcases byte_cases (byteI s k) with h | h | h | h | h
     ·simp only [push_cast,↓reduceIte,Nat.reduceLT,Nat.reduceEqDiff,reduceCtorEq,hi,hB,h0,show ¬ (97≤byteI s k) by omega,Tryz.results108]
     ·simp only [push_cast,↓reduceIte,Nat.reduceLT,Nat.reduceEqDiff,reduceCtorEq,hi,hB,h0,show ¬ (97≤byteI s k) by omega,Tryz.results108]
     ·simp only [push_cast,↓reduceIte,Nat.reduceLT,Nat.reduceEqDiff,reduceCtorEq,hi,hB,h0,show ¬ (97≤byteI s k) by omega,Tryz.results108]
     ·exfalso;simp [h.1,h.2] at hf
     ·simp only [push_cast,↓reduceIte,Nat.reduceLT,Nat.reduceEqDiff,reduceCtorEq,hi,hB,h0,show (97≤byteI s k) by omega,show ¬ (byteI s k≤122) by omega,Tryz.results108]
    ·have h0:=h00
     have h0':k≠0:=fun e=>h0 (by omega)
     rcases byte_cases (byteI s k) with h | h | h | h | h
     ·simp only [push_cast,↓reduceIte,Nat.reduceLT,Nat.reduceEqDiff,reduceCtorEq,hi,hB,h0,show ¬ (97≤byteI s k) by omega,show byteI s k<48 by omega,Tryz.results108]
     ·exfalso;simp [h.1,h.2,h0'] at hf
     ·simp only [push_cast,↓reduceIte,Nat.reduceLT,Nat.reduceEqDiff,reduceCtorEq,hi,hB,h0,show ¬ (97≤byteI s k) by omega,show ¬ (byteI s k<48) by omega,show 57<byteI s k by omega,Tryz.results108]
     ·exfalso;simp [h.1,h.2] at hf
     ·simp only [push_cast,↓reduceIte,Nat.reduceLT,Nat.reduceEqDiff,reduceCtorEq,hi,hB,h0,show (97≤byteI s k) by omega,show ¬ (byteI s k≤122) by omega,show ¬ (byteI s k<48) by omega,show 57<byteI s k by omega,Tryz.results108]
  ·have hi:¬ (k:Int)<(s.size:Int):=by omega
   obtain rfl:k=s.size:=by omega
   have hw:=con_l1In (s.size:Int) 1 4
   obtain ⟨b,hb⟩:∃ b,b=(decide (1≤(s.size:Int)) && decide ((s.size:Int)≤4)):=⟨_,rfl⟩
   have hnm:nmB s=(b && !decide (0≤fi s [kwIf,kwLet,kwLift,kwRec,kwRun] 0)):=by rw [nmB,hall,Bool.true_and,hb]
   rw [hnm]
   rw [← hb] at hw
   simp only [push_cast,↓reduceIte,Nat.reduceLT,Nat.reduceEqDiff,reduceCtorEq,hi]
   refine sw_run 200 _ _ _ ?_
   simp only [push_cast,↓reduceIte,Nat.reduceLT,reduceCtorEq]
   refine sw_call hw rfl (aAs_ok ?_) ?_ (sw_run 200 _ _ _ ?_)
   ·simp only [push_cast,aAs,aA,aD,↓reduceIte]
   ·simp only [okR]
   cases b
   ·simp only [push_cast,↓reduceIte,Nat.reduceLT,Nat.reduceEqDiff,reduceCtorEq,Tryz.results108]
   ·rw [fi_kw]
    by_cases e1:s=⟨#[105,102]⟩
    ·simp only [push_cast,↓reduceIte,Nat.reduceLT,Nat.reduceEqDiff,reduceCtorEq,eq_true e1,Tryz.results108]
    by_cases e2:s=⟨#[108,101,116]⟩
    ·simp only [push_cast,↓reduceIte,Nat.reduceLT,Nat.reduceEqDiff,reduceCtorEq,e1,eq_true e2,Tryz.results108]
    by_cases e3:s=⟨#[114,101,99]⟩
    ·simp only [push_cast,↓reduceIte,Nat.reduceLT,Nat.reduceEqDiff,reduceCtorEq,e1,e2,eq_true e3,Tryz.results108]
    by_cases e4:s=⟨#[114,117,110]⟩
    ·simp only [push_cast,↓reduceIte,Nat.reduceLT,Nat.reduceEqDiff,reduceCtorEq,e1,e2,e3,eq_true e4,Tryz.results108]
    by_cases e5:s=⟨#[108,105,102,116]⟩
    ·simp only [push_cast,↓reduceIte,Nat.reduceLT,Nat.reduceEqDiff,reduceCtorEq,e1,e2,e3,e4,eq_true e5,Tryz.results108]
    simp only [push_cast,↓reduceIte,Nat.reduceLT,Nat.reduceEqDiff,reduceCtorEq,e1,e2,e3,e4,e5,Tryz.results108]
end Go.Proofs.YtaidalilfmjfgaaGreat
