import Derived.Test.YtaidalilfmjfgaaGreatAddS
import Derived.Test.YtaidalilfmjfgaaGreatTmB
import Derived.Test.YtaidalilfmjfgaaGreatBy
namespace Go.Proofs.YtaidalilfmjfgaaGreat
open Go.RowKit
set_option linter.unusedVariables false
set_option linter.unusedSimpArgs false
set_option maxRecDepth 20000
def lnI (s:ByteArray) (a b:Sm):Sm × Bool:=if s=⟨#[43]⟩ then (adR a b,adB a b) else if s=⟨#[45]⟩ then (if sumOk b=true then (adR a (scR b (-1)),adB a (scR b (-1))) else (zeroS,false)) else if s=⟨#[42]⟩ then (if a.items.length=0 then (scR b a.const,sumOk b) else if b.items.length=0 then (scR a b.const,sumOk a) else (zeroS,false)) else (zeroS,false)
def lnS (s:ByteArray) (a b:Sm):Sm × Bool:=if s=⟨#[43]⟩ then (adR a b,adB a b) else if s=⟨#[45]⟩ then (adR a (scR b (-1)),sumOk b && adB a (scR b (-1))) else if s=⟨#[42]⟩ then (if a.items.length=0 then (scR b a.const,sumOk b) else if b.items.length=0 then (scR a b.const,sumOk a) else (zeroS,false)) else (zeroS,false)
theorem adB_f {a b:Sm} (h:adB a b=false):adR a b=zeroS:=by
 rw [adB] at h
 rw [adR]
 cases h1:sumOk a
 ·rfl
 ·cases h2:sumOk b
  ·rfl
  ·rw [h1,h2,Bool.true_and,Bool.true_and] at h
   rw [Bool.true_and,if_pos rfl,chkS,h];rfl
theorem sc_f {a:Sm} {n:Int} (h:sumOk a=false):scR a n=zeroS:=by
 rw [scR,h];rfl
theorem lnI_f {s:ByteArray} {a b:Sm} (h:(lnI s a b).2=false):(lnI s a b).1=zeroS:=by
 unfold lnI at h ⊢
 by_cases h1:s=⟨#[43]⟩
 ·rw [if_pos h1] at h ⊢; exact adB_f h
 rw [if_neg h1] at h ⊢
 by_cases h2:s=⟨#[45]⟩
 ·rw [if_pos h2] at h ⊢
  by_cases hb:sumOk b=true
  ·rw [if_pos hb] at h ⊢; exact adB_f h
  ·rw [if_neg hb]
 rw [if_neg h2] at h ⊢
 by_cases h3:s=⟨#[42]⟩
 ·rw [if_pos h3] at h ⊢
  by_cases ha:a.items.length=0
  ·rw [if_pos ha] at h ⊢; exact sc_f h
  rw [if_neg ha] at h ⊢
  by_cases hb:b.items.length=0
  ·rw [if_pos hb] at h ⊢; exact sc_f h
  ·rw [if_neg hb]
 ·rw [if_neg h3]
theorem lnS_I (s:ByteArray) (a b:Sm):(lnS s a b).2=(lnI s a b).2∧((lnI s a b).2=true→(lnS s a b).1=(lnI s a b).1):=by
 unfold lnS lnI
 by_cases h1:s=⟨#[43]⟩
 ·rw [if_pos h1,if_pos h1];exact ⟨rfl,fun _=>rfl⟩
 rw [if_neg h1,if_neg h1]
 by_cases h2:s=⟨#[45]⟩
 ·rw [if_pos h2,if_pos h2]
  cases hb:sumOk b
  ·exact ⟨rfl,fun h=>by cases h⟩
  ·exact ⟨rfl,fun _=>rfl⟩
 rw [if_neg h2,if_neg h2]
 exact ⟨rfl,fun _=>rfl⟩
theorem sz_ad (a b:Sm):szL (sumC (adR a b))≤40:=by
 rw [adR]
 split
 ·rw [chkS]
  split
  ·rename_i h;exact sz_sumOk h
  ·rw [sz_zeroS];omega
 ·rw [sz_zeroS];omega
theorem sz_sc (a:Sm) (n:Int):szL (sumC (scR a n))≤40:=by
 rw [scR]
 split
 ·rename_i h;exact sz_sumOk (sc_ok _ h)
 ·rw [sz_zeroS];omega
theorem sz_opS (s:ByteArray) (a b:Sm):szL (sumC (lnS s a b).1)≤40:=by
 unfold lnS
 have h0:szL (sumC zeroS)≤40:=by rw [sz_zeroS];omega
 by_cases h1:s=⟨#[43]⟩
 ·rw [if_pos h1];exact sz_ad _ _
 rw [if_neg h1]
 by_cases h2:s=⟨#[45]⟩
 ·rw [if_pos h2]
  exact sz_ad _ _
 rw [if_neg h2]
 by_cases h3:s=⟨#[42]⟩
 ·rw [if_pos h3]
  by_cases ha:a.items.length=0
  ·rw [if_pos ha];exact sz_sc _ _
  rw [if_neg ha]
  by_cases hb:b.items.length=0
  ·rw [if_pos hb];exact sz_sc _ _
  ·rw [if_neg hb];exact h0
 ·rw [if_neg h3];exact h0
theorem sz_opI (s:ByteArray) (a b:Sm):szL (sumC (lnI s a b).1)≤40:=by
 unfold lnI
 have h0:szL (sumC zeroS)≤40:=by rw [sz_zeroS];omega
 by_cases h1:s=⟨#[43]⟩
 ·rw [if_pos h1];exact sz_ad _ _
 rw [if_neg h1]
 by_cases h2:s=⟨#[45]⟩
 ·rw [if_pos h2]
  by_cases hb:sumOk b=true
  ·rw [if_pos hb];exact sz_ad _ _
  ·rw [if_neg hb];exact h0
 rw [if_neg h2]
 by_cases h3:s=⟨#[42]⟩
 ·rw [if_pos h3]
  by_cases ha:a.items.length=0
  ·rw [if_pos ha];exact sz_sc _ _
  rw [if_neg ha]
  by_cases hb:b.items.length=0
  ·rw [if_pos hb];exact sz_sc _ _
  ·rw [if_neg hb];exact h0
 ·rw [if_neg h3];exact h0
def linL (f:ByteArray→Sm→Sm→Sm × Bool) (k:Int) (s:ByteArray) (n:Int) (l:Nat) (p q:Sm × Bool):Sm × Bool :=
 if k=2 then (⟨n,[]⟩,true) else if k=1 then (⟨0,[⟨s,1⟩]⟩,true) else if k=4 then (if (p.2 && q.2)=true then f s p.1 q.1 else (zeroS,false)) else (zeroS,false)
mutual
def linT (f:ByteArray→Sm→Sm→Sm × Bool):Tm→Sm × Bool
 | .mk k s _ n _ _ xs=>linL f k s n xs.length ((linTs f xs)[0]!) ((linTs f xs)[xs.length-1]!)
def linTs (f:ByteArray→Sm→Sm→Sm × Bool):List Tm→List (Sm × Bool)
 | []=>[]
 | x :: xs=>linT f x :: linTs f xs
end
theorem linTs_at (f : ByteArray → Sm → Sm → Sm × Bool) : ∀ (xs : List Tm) (k : Nat), k < xs.length → (linTs f xs)[k]! = linT f xs[k]!
  | x :: xs, 0, _ => by rw [linTs]; rfl
  | x :: xs, k + 1, h => by
    rw [linTs]
    have := linTs_at f xs k (by simpa using h)
    simpa using this
theorem linT_eq (f:ByteArray→Sm→Sm→Sm × Bool) (t:Tm) (h:0<t.args.length):linT f t=linL f t.kind t.name t.n t.args.length (linT f t.args[0]!) (linT f t.args[t.args.length-1]!):=by
 obtain ⟨k,s,o,n,ty,r,xs⟩:=t
 simp only [Tm.args] at h
 rw [linT,linTs_at f xs 0 h,linTs_at f xs (xs.length-1) (by omega)];rfl
theorem linT_leaf (f:ByteArray→Sm→Sm→Sm × Bool) (t:Tm) (h:¬ t.kind=4):linT f t=linL f t.kind t.name t.n t.args.length (zeroS,false) (zeroS,false):=by
 obtain ⟨k,s,o,n,ty,r,xs⟩:=t
 simp only [Tm.kind] at h
 simp only [linT,linL,Tm.kind,Tm.name,Tm.n,h,if_false]
theorem fm_op {t:Tm} (h:isFm t=true) (hk:t.kind=4):0<t.args.length∧(t.args.length=2∨lnI t.name=lnI ⟨#[]⟩∧lnS t.name=lnS ⟨#[]⟩):=by
 rw [isFm_eq,Bool.and_eq_true,Bool.and_eq_true] at h
 obtain ⟨h1,h2,_⟩:=h
 have h1:=of_decide_eq_true h1
 have e:arF 0 t.kind t.name=opAr t.name:=by rw [hk];rfl
 have h3:0<opAr t.name:=by
  unfold isNm at h2
  rw [hk] at h2
  exact of_decide_eq_true h2
 refine ⟨by omega, ?_⟩
 by_cases g1:t.name=⟨#[43]⟩
 ·have:opAr t.name=2:=by rw [g1];rfl
  exact .inl (by omega)
 by_cases g2:t.name=⟨#[45]⟩
 ·have:opAr t.name=2:=by rw [g2];rfl
  exact .inl (by omega)
 by_cases g3:t.name=⟨#[42]⟩
 ·have:opAr t.name=2:=by rw [g3];rfl
  exact .inl (by omega)
 refine .inr ⟨?_, ?_⟩
 ·funext a b
  have k1:¬ ((⟨#[]⟩:ByteArray)=⟨#[43]⟩):=by decide
  have k2:¬ ((⟨#[]⟩:ByteArray)=⟨#[45]⟩):=by decide
  have k3:¬ ((⟨#[]⟩:ByteArray)=⟨#[42]⟩):=by decide
  simp only [lnI,if_neg g1,if_neg g2,if_neg g3,if_neg k1,if_neg k2,if_neg k3]
 ·funext a b
  have k1:¬ ((⟨#[]⟩:ByteArray)=⟨#[43]⟩):=by decide
  have k2:¬ ((⟨#[]⟩:ByteArray)=⟨#[45]⟩):=by decide
  have k3:¬ ((⟨#[]⟩:ByteArray)=⟨#[42]⟩):=by decide
  simp only [lnS,if_neg g1,if_neg g2,if_neg g3,if_neg k1,if_neg k2,if_neg k3]
theorem opI_none (a b:Sm):lnI ⟨#[]⟩ a b=(zeroS,false):=by
 have k1:¬ ((⟨#[]⟩:ByteArray)=⟨#[43]⟩):=by decide
 have k2:¬ ((⟨#[]⟩:ByteArray)=⟨#[45]⟩):=by decide
 have k3:¬ ((⟨#[]⟩:ByteArray)=⟨#[42]⟩):=by decide
 simp only [lnI,if_neg k1,if_neg k2,if_neg k3]
theorem allTms_at {p : Tm → Bool} : ∀ {xs : List Tm}, allTms p xs = true → ∀ x ∈ xs, allTm p x = true
  | [], _, x, h => by cases h
  | y :: xs, h, x, hx => by
    rw [allTms, Bool.and_eq_true] at h
    rcases List.mem_cons.1 hx with rfl | hx
    · exact h.1
    · exact allTms_at h.2 x hx
theorem allTm_t {p:Tm→Bool} {t:Tm} (h:allTm p t=true):p t=true∧∀ x ∈ t.args,allTm p x=true:=by
 rw [allTm_eq,Bool.and_eq_true] at h
 exact ⟨h.1,allTms_at h.2⟩
theorem lin_both:∀ t:Tm,allTm isFm t=true→(linT lnS t).2=(linT lnI t).2∧((linT lnI t).2=true→(linT lnS t).1=(linT lnI t).1):=by
 refine Tm.ind fun t ih ht => ?_
 obtain ⟨hf,hargs⟩:=allTm_t ht
 by_cases hk:t.kind=4
 ·obtain ⟨h0,_⟩:=fm_op hf hk
  have m0:=mem_bang h0
  have m1:=mem_bang (show t.args.length-1<t.args.length by omega)
  obtain ⟨a1,a2⟩:=ih _ m0 (hargs _ m0)
  obtain ⟨b1,b2⟩:=ih _ m1 (hargs _ m1)
  rw [linT_eq lnS t h0,linT_eq lnI t h0]
  have k2:¬ (t.kind=2):=by omega
  have k1:¬ (t.kind=1):=by omega
  simp only [linL,if_neg k2,if_neg k1,if_pos hk]
  rw [a1,b1]
  by_cases hb:((linT lnI t.args[0]!).2 && (linT lnI t.args[t.args.length-1]!).2)=true
  ·have hb':=hb
   rw [Bool.and_eq_true] at hb'
   rw [if_pos hb,if_pos hb,a2 hb'.1,b2 hb'.2]
   exact lnS_I _ _ _
  ·rw [if_neg hb,if_neg hb];exact ⟨rfl,fun h=>rfl⟩
 ·rw [linT_leaf lnS t hk,linT_leaf lnI t hk]
  simp only [linL,if_neg hk]
  exact ⟨trivial,fun _=>trivial⟩
theorem lin_f (t:Tm) (h:(linT lnI t).2=false):(linT lnI t).1=zeroS:=by
 obtain ⟨k,s,o,n,ty,r,xs⟩:=t
 rw [linT,linL] at h ⊢
 (repeat' split at h) <;> first | (cases h;done) | skip
 ·rename_i h2 h1 h4 hb
  rw [if_neg h2,if_neg h1,if_pos h4,if_pos hb];exact lnI_f h
 ·rename_i h2 h1 h4 hb
  rw [if_neg h2,if_neg h1,if_pos h4,if_neg hb]
 ·rename_i h2 h1 h4
  rw [if_neg h2,if_neg h1,if_neg h4]
theorem sz_lin (f:ByteArray→Sm→Sm→Sm × Bool) (hf:∀ s a b,szL (sumC (f s a b).1)≤40) (t:Tm):szL (sumC (linT f t).1)≤szL (tmC t)+40:=by
 obtain ⟨k,s,o,n,ty,r,xs⟩:=t
 have h0:szL (sumC zeroS)≤40:=by rw [sz_zeroS];omega
 rw [linT,linL]
 split
 ·simp only [sumC,imsD,flC,szL,szD,List.length_nil];omega
 ·split
  ·simp only [tmC,sumC,imsD,flC,imC,szL,szD,List.length_nil,List.length_cons,List.append_nil];omega
  ·split
   ·split
    ·have:=hf s (linTs f xs)[0]!.1 (linTs f xs)[xs.length-1]!.1;omega
    ·have:=h0;simp only;omega
   ·have:=h0;simp only;omega
theorem con_OpS (s:ByteArray) (a b:Sm) (hza:szL (sumC a)≤1000000000) (hzb:szL (sumC b)≤1000000000):Con Tryz.prog 191 [.one (.str s),.ag (sumC a),.ag (sumC b)] [.ag (sumC (lnS s a b).1),.one (.bool (lnS s a b).2)]:=by
 have hA:=con_AddS a b hza hzb
 have hS:=con_ScaleS b (-1) hzb
 have hA2:=con_AddS a (scR b (-1)) hza (by have:=sz_sc b (-1);omega)
 have hB:=con_ScaleS b a.const hzb
 have hC:=con_ScaleS a b.const hza
 rcases pc (s=⟨#[43]⟩) with h1 | h1
 ·simp only [lnS,h1,if_true]
  refine con_run Tryz.func191 rfl rfl (by simp [Tryz.ntmps191]) ?_
  refine byP (fc h1 (fc sumC.eq_1 (fc imsD.eq_1 Tryz.ntmps191))) ?_
  refine sw_call (hA) rfl (aAs_ok ?_) ?_ (sw_run 200 _ _ _ ?_)
  ·exact byP (fc sumC.eq_1 imsD.eq_1) True.intro
  ·simp only [okR]
  exact byP (fc sumC.eq_1 (fc imsD.eq_1 Tryz.results191)) True.intro
 rcases pc (s=⟨#[45]⟩) with h2 | h2
 ·simp only [lnS,h1,h2,if_true,if_false]
  refine con_run Tryz.func191 rfl rfl (by simp [Tryz.ntmps191]) ?_
  refine byP (fc h1 (fc h2 (fc sumC.eq_1 (fc imsD.eq_1 Tryz.ntmps191)))) ?_
  refine sw_call (hS) rfl (aAs_ok ?_) ?_ (sw_run 200 _ _ _ ?_)
  ·exact byP (fc sumC.eq_1 imsD.eq_1) True.intro
  ·simp only [okR]
  refine byP (fc sumC.eq_1 imsD.eq_1) ?_
  refine sw_call (hA2) rfl (aAs_ok ?_) ?_ (sw_run 200 _ _ _ ?_)
  ·exact byP (fc sumC.eq_1 imsD.eq_1) True.intro
  ·simp only [okR]
  cases sumOk b
  ·exact byP (fc sumC.eq_1 (fc imsD.eq_1 Tryz.results191)) True.intro
  ·exact byP (fc sumC.eq_1 (fc imsD.eq_1 Tryz.results191)) True.intro
 rcases pc (s=⟨#[42]⟩) with h3 | h3
 ·by_cases ha:a.items.length=0
  ·have ha':(a.items.length:Int)=0:=by omega
   simp only [lnS,h1,h2,h3,if_true,if_false,ha]
   refine con_run Tryz.func191 rfl rfl (by simp [Tryz.ntmps191]) ?_
   refine byP (fc h1 (fc h2 (fc h3 (fc ha' (fc sumC.eq_1 (fc imsD.eq_1 Tryz.ntmps191)))))) ?_
   refine sw_call (hB) rfl (aAs_ok ?_) ?_ (sw_run 200 _ _ _ ?_)
   ·exact byP (fc sumC.eq_1 (fc imsD.eq_1 ha)) True.intro
   ·simp only [okR]
   exact byP (fc sumC.eq_1 (fc imsD.eq_1 Tryz.results191)) True.intro
  have ha':¬ (a.items.length:Int)=0:=by omega
  by_cases hb:b.items.length=0
  ·have hb':(b.items.length:Int)=0:=by omega
   simp only [lnS,h1,h2,h3,if_true,if_false,ha,hb]
   refine con_run Tryz.func191 rfl rfl (by simp [Tryz.ntmps191]) ?_
   refine byP (fc h1 (fc h2 (fc h3 (fc ha' (fc hb' (fc sumC.eq_1 (fc imsD.eq_1 Tryz.ntmps191))))))) ?_
   refine sw_call (hC) rfl (aAs_ok ?_) ?_ (sw_run 200 _ _ _ ?_)
   ·exact byP (fc sumC.eq_1 (fc imsD.eq_1 hb)) True.intro
   ·simp only [okR]
   exact byP (fc sumC.eq_1 (fc imsD.eq_1 Tryz.results191)) True.intro
  have hb':¬ (b.items.length:Int)=0:=by omega
  simp only [lnS,h1,h2,h3,if_true,if_false,ha,hb]
  refine con_run Tryz.func191 rfl rfl (by simp [Tryz.ntmps191]) ?_
  simp only [push_cast,↓reduceIte,Nat.reduceLT,Nat.reduceAdd,Nat.reduceEqDiff,reduceCtorEq,h1,h2,h3,ha',hb',sumC,imsD,zeroS,flC,Tryz.ntmps191,Tryz.results191]
 simp only [lnS,h1,h2,h3,if_false]
 refine con_run Tryz.func191 rfl rfl (by simp [Tryz.ntmps191]) ?_
 simp only [push_cast,↓reduceIte,Nat.reduceLT,Nat.reduceAdd,Nat.reduceEqDiff,reduceCtorEq,h1,h2,h3,sumC,imsD,zeroS,flC,Tryz.ntmps191,Tryz.results191]
theorem con_linS:∀ t:Tm,szL (tmC t)≤100000000→allTm isFm t=true→Con Tryz.prog 120 [.ag (tmC t)] [.ag (sumC (linT lnS t).1),.one (.bool (linT lnS t).2)]:=by
 refine Tm.ind fun t ih hz ht => ?_
 obtain ⟨hf,hargs⟩:=allTm_t ht
 have hz8:=(sz_partsE hz).2.2
 by_cases h2:t.kind=2
 ·have e:linT lnS t=(⟨t.n,[]⟩,true):=by rw [linT_leaf lnS t (by omega),linL,if_pos h2]
  rw [e]
  refine con_run Tryz.func120 rfl rfl (by simp [Tryz.ntmps120]) ?_
  simp only [push_cast,↓reduceIte,Nat.reduceLT,Nat.reduceAdd,Nat.reduceLeDiff,Nat.reduceEqDiff,reduceCtorEq,tmC_eq,h2,sumC,imsD,flC,Tryz.ntmps120,Tryz.results120]
 by_cases h1:t.kind=1
 ·have e:linT lnS t=(⟨0,[⟨t.name,1⟩]⟩,true):=by rw [linT_leaf lnS t (by omega),linL,if_neg h2,if_pos h1]
  rw [e]
  refine con_run Tryz.func120 rfl rfl (by simp [Tryz.ntmps120]) ?_
  simp only [push_cast,↓reduceIte,Nat.reduceLT,Nat.reduceAdd,Nat.reduceLeDiff,Nat.reduceEqDiff,reduceCtorEq,Int.reduceEq,tmC_eq,h1,sumC,imsD,flC,imC,List.length_cons,Tryz.ntmps120,Tryz.results120]
 by_cases h4:t.kind=4
 case neg =>
  have e:linT lnS t=(zeroS,false):=by rw [linT_leaf lnS t h4,linL,if_neg h2,if_neg h1,if_neg h4]
  rw [e]
  refine con_run Tryz.func120 rfl rfl (by simp [Tryz.ntmps120]) ?_
  simp only [push_cast,↓reduceIte,Nat.reduceLT,Nat.reduceAdd,Nat.reduceEqDiff,reduceCtorEq,tmC_eq,h1,h2,h4,sumC,imsD,zeroS,flC,Tryz.ntmps120,Tryz.results120]
 obtain ⟨h0,_⟩:=fm_op hf h4
 have hl1:t.args.length-1<t.args.length:=by omega
 have m0:=mem_bang h0
 have m1:=mem_bang hl1
 have s0:=szL_tms' t.args 0 h0
 have s1:=szL_tms' t.args (t.args.length-1) hl1
 have r0:=ih _ m0 (by omega) (hargs _ m0)
 have r1:=ih _ m1 (by omega) (hargs _ m1)
 have z0:=sz_lin lnS sz_opS t.args[0]!
 have z1:=sz_lin lnS sz_opS t.args[t.args.length-1]!
 have hR0:=tmsC_row' t.args 0 h0
 have hR1:=tmsC_row' t.args (t.args.length-1) hl1
 have e:linT lnS t=if ((linT lnS t.args[0]!).2 && (linT lnS t.args[t.args.length-1]!).2)=true then lnS t.name (linT lnS t.args[0]!).1 (linT lnS t.args[t.args.length-1]!).1 else (zeroS,false):=by rw [linT_eq lnS t h0,linL,if_neg h2,if_neg h1,if_pos h4]
 have hO:=con_OpS t.name (linT lnS t.args[0]!).1 (linT lnS t.args[t.args.length-1]!).1 (by omega) (by omega)
 rw [e]
 have hc:(t.args.length:Int)-1=((t.args.length-1:Nat):Int):=by omega
 have hin:inI (((t.args.length-1:Nat):Int)):=by unfold inI;omega
 have hi0:(0:Int)<(t.args.length:Int):=by omega
 have hi1:(((t.args.length-1:Nat):Int))<(t.args.length:Int):=by omega
 generalize linT lnS t.args[0]! = p at *
 generalize linT lnS t.args[t.args.length-1]! = q at *
 obtain ⟨p1,p2⟩:=p
 obtain ⟨q1,q2⟩:=q
 simp only at r0 r1 hO e z0 z1 ⊢
 refine con_run Tryz.func120 rfl rfl (by simp [Tryz.ntmps120]) ?_
 refine byP (fc h4 (fc hi0 (fc hR0 Tryz.ntmps120))) ?_
 refine sw_call (r0) rfl (aAs_ok ?_) ?_ (sw_run 200 _ _ _ ?_)
 ·exact byQ True.intro
 ·simp only [okR]
 refine byP (fc hc (fc hin (fc hi1 (fc hR1 (fc sumC.eq_1 imsD.eq_1))))) ?_
 refine sw_call (r1) rfl (aAs_ok ?_) ?_ (sw_run 200 _ _ _ ?_)
 ·exact byQ True.intro
 ·simp only [okR]
 cases p2
 ·simp only [push_cast,↓reduceIte,Nat.reduceLT,Nat.reduceAdd,Nat.reduceEqDiff,reduceCtorEq,sumC,imsD,zeroS,flC,Tryz.results120]
 cases q2
 ·simp only [push_cast,↓reduceIte,Nat.reduceLT,Nat.reduceAdd,Nat.reduceEqDiff,reduceCtorEq,sumC,imsD,zeroS,flC,Tryz.results120]
 refine byP (fc sumC.eq_1 imsD.eq_1) ?_
 refine sw_call (hO) rfl (aAs_ok ?_) ?_ (sw_run 200 _ _ _ ?_)
 ·exact byP (fc sumC.eq_1 imsD.eq_1) True.intro
 ·simp only [okR]
 exact byP (fc sumC.eq_1 (fc imsD.eq_1 Tryz.results120)) True.intro
def linR (t:Tm):Sm × Bool:=if allTm isFm t=true then linT lnI t else (zeroS,false)
theorem con_LinS (t:Tm) (hz:szL (tmC t)≤100000000):Con Tryz.prog 47 [.ag (tmC t)] [.ag (sumC (linR t).1),.one (.bool (linR t).2)]:=by
 have hT:=con_IsTermS t (by omega)
 by_cases ht:allTm isFm t=true
 case neg =>
  have ht:allTm isFm t=false:=by simpa using ht
  have e:linR t=(zeroS,false):=by rw [linR,ht];rfl
  rw [ht] at hT
  rw [e]
  refine con_run Tryz.func47 rfl rfl (by simp [Tryz.ntmps47]) ?_
  refine byP Tryz.ntmps47 ?_
  refine sw_call (hT) rfl (aAs_ok ?_) ?_ (sw_run 200 _ _ _ ?_)
  ·exact byQ True.intro
  ·simp only [okR]
  simp only [push_cast,↓reduceIte,Nat.reduceLT,Nat.reduceAdd,Nat.reduceEqDiff,reduceCtorEq,sumC,imsD,zeroS,flC,Tryz.results47]
 have e:linR t=linT lnI t:=by rw [linR,if_pos ht]
 have hL:=con_linS t hz ht
 obtain ⟨b1,b2⟩:=lin_both t ht
 have b3:=lin_f t
 rw [ht] at hT
 rw [e]
 rw [b1] at hL
 generalize linT lnI t=p at *
 generalize linT lnS t=q at *
 obtain ⟨p1,p2⟩:=p
 obtain ⟨q1,q2⟩:=q
 simp only at b1 b2 b3 hL ⊢
 refine con_run Tryz.func47 rfl rfl (by simp [Tryz.ntmps47]) ?_
 refine byP Tryz.ntmps47 ?_
 refine sw_call (hT) rfl (aAs_ok ?_) ?_ (sw_run 200 _ _ _ ?_)
 ·exact byQ True.intro
 ·simp only [okR]
 refine byQ ?_
 refine sw_call (hL) rfl (aAs_ok ?_) ?_ (sw_run 200 _ _ _ ?_)
 ·exact byQ True.intro
 ·simp only [okR]
 cases p2
 ·rw [b3 rfl]
  simp only [push_cast,↓reduceIte,Nat.reduceLT,Nat.reduceAdd,Nat.reduceEqDiff,reduceCtorEq,sumC,imsD,zeroS,flC,Tryz.results47]
 ·rw [← b2 rfl]
  exact byP (fc sumC.eq_1 (fc imsD.eq_1 Tryz.results47)) True.intro
theorem con_linI:∀ t:Tm,szL (tmC t)≤100000000→allTm isFm t=true→Con Tryz.prog 113 [.ag (tmC t)] [.ag (sumC (linT lnI t).1),.one (.bool (linT lnI t).2)]:=by
 refine Tm.ind fun t ih hz ht => ?_
 obtain ⟨hf,hargs⟩:=allTm_t ht
 have hz8:=(sz_partsE hz).2.2
 by_cases h2:t.kind=2
 ·have e:linT lnI t=(⟨t.n,[]⟩,true):=by rw [linT_leaf lnI t (by omega),linL,if_pos h2]
  rw [e]
  refine con_run Tryz.func113 rfl rfl (by simp [Tryz.ntmps113]) ?_
  simp only [push_cast,↓reduceIte,Nat.reduceLT,Nat.reduceAdd,Nat.reduceLeDiff,Nat.reduceEqDiff,reduceCtorEq,tmC_eq,h2,sumC,imsD,flC,Tryz.ntmps113,Tryz.results113]
 by_cases h1:t.kind=1
 ·have e:linT lnI t=(⟨0,[⟨t.name,1⟩]⟩,true):=by rw [linT_leaf lnI t (by omega),linL,if_neg h2,if_pos h1]
  rw [e]
  refine con_run Tryz.func113 rfl rfl (by simp [Tryz.ntmps113]) ?_
  simp only [push_cast,↓reduceIte,Nat.reduceLT,Nat.reduceAdd,Nat.reduceLeDiff,Nat.reduceEqDiff,reduceCtorEq,Int.reduceEq,tmC_eq,h1,sumC,imsD,flC,imC,List.length_cons,Tryz.ntmps113,Tryz.results113]
 by_cases h4:t.kind=4
 case neg =>
  have e:linT lnI t=(zeroS,false):=by rw [linT_leaf lnI t h4,linL,if_neg h2,if_neg h1,if_neg h4]
  rw [e]
  refine con_run Tryz.func113 rfl rfl (by simp [Tryz.ntmps113]) ?_
  simp only [push_cast,↓reduceIte,Nat.reduceLT,Nat.reduceAdd,Nat.reduceEqDiff,reduceCtorEq,tmC_eq,h1,h2,h4,sumC,imsD,zeroS,flC,Tryz.ntmps113,Tryz.results113]
 obtain ⟨h0,hop⟩:=fm_op hf h4
 have e:linT lnI t=if ((linT lnI t.args[0]!).2 && (linT lnI t.args[t.args.length-1]!).2)=true then lnI t.name (linT lnI t.args[0]!).1 (linT lnI t.args[t.args.length-1]!).1 else (zeroS,false):=by rw [linT_eq lnI t h0,linL,if_neg h2,if_neg h1,if_pos h4]
 by_cases hl:t.args.length=2
 case neg =>
  have hl':¬ (t.args.length:Int)=2:=by omega
  have e2:linT lnI t=(zeroS,false):=by
   rcases hop with hop | ⟨hop,_⟩
   ·exact absurd hop hl
   ·rw [e,hop,opI_none];split <;> rfl
  rw [e2]
  refine con_run Tryz.func113 rfl rfl (by simp [Tryz.ntmps113]) ?_
  simp only [push_cast,↓reduceIte,Nat.reduceLT,Nat.reduceAdd,Nat.reduceEqDiff,reduceCtorEq,Int.reduceEq,tmC_eq,h4,hl',sumC,imsD,zeroS,flC,Tryz.ntmps113,Tryz.results113]
 have hl1:(1:Nat)<t.args.length:=by omega
 rw [hl] at e
 simp only [Nat.reduceSub] at e
 have m0:=mem_bang h0
 have m1:=mem_bang hl1
 have s0:=szL_tms' t.args 0 h0
 have s1:=szL_tms' t.args 1 hl1
 have r0:=ih _ m0 (by omega) (hargs _ m0)
 have r1:=ih _ m1 (by omega) (hargs _ m1)
 have z0:=sz_lin lnI sz_opI t.args[0]!
 have z1:=sz_lin lnI sz_opI t.args[1]!
 have hR0:=tmsC_row' t.args 0 h0
 have hR1:=tmsC_row' t.args 1 hl1
 rw [e]
 have hl':(t.args.length:Int)=2:=by omega
 generalize linT lnI t.args[0]! = p at *
 generalize linT lnI t.args[1]! = q at *
 obtain ⟨p1,p2⟩:=p
 obtain ⟨q1,q2⟩:=q
 simp only at r0 r1 e z0 z1 ⊢
 have hA:=con_AddI p1 q1 (by omega) (by omega)
 have hS:=con_ScaleI q1 (-1) (by omega)
 have hA2:=con_AddI p1 (scR q1 (-1)) (by omega) (by have:=sz_sc q1 (-1);omega)
 have hB:=con_ScaleI q1 p1.const (by omega)
 have hC:=con_ScaleI p1 q1.const (by omega)
 refine con_run Tryz.func113 rfl rfl (by simp [Tryz.ntmps113]) ?_
 refine byP (fc h4 (fc hl' (fc hR0 Tryz.ntmps113))) ?_
 refine sw_call (r0) rfl (aAs_ok ?_) ?_ (sw_run 200 _ _ _ ?_)
 ·exact byQ True.intro
 ·simp only [okR]
 refine byP (fc hl' (fc hR1 (fc sumC.eq_1 imsD.eq_1))) ?_
 refine sw_call (r1) rfl (aAs_ok ?_) ?_ (sw_run 200 _ _ _ ?_)
 ·exact byQ True.intro
 ·simp only [okR]
 cases p2
 ·simp only [push_cast,↓reduceIte,Nat.reduceLT,Nat.reduceAdd,Nat.reduceEqDiff,reduceCtorEq,sumC,imsD,zeroS,flC,Tryz.results113]
 cases q2
 ·simp only [push_cast,↓reduceIte,Nat.reduceLT,Nat.reduceAdd,Nat.reduceEqDiff,reduceCtorEq,sumC,imsD,zeroS,flC,Tryz.results113]
 rcases pc (t.name=⟨#[43]⟩) with g1 | g1
 ·refine byP (fc sumC.eq_1 (fc imsD.eq_1 (fc g1 lnI.eq_1))) ?_
  refine sw_call (hA) rfl (aAs_ok ?_) ?_ (sw_run 200 _ _ _ ?_)
  ·exact byP (fc sumC.eq_1 imsD.eq_1) True.intro
  ·simp only [okR]
  exact byP (fc sumC.eq_1 (fc imsD.eq_1 Tryz.results113)) True.intro
 rcases pc (t.name=⟨#[45]⟩) with g2 | g2
 ·refine byP (fc sumC.eq_1 (fc imsD.eq_1 (fc g1 (fc g2 lnI.eq_1)))) ?_
  refine sw_call (hS) rfl (aAs_ok ?_) ?_ (sw_run 200 _ _ _ ?_)
  ·exact byP (fc sumC.eq_1 imsD.eq_1) True.intro
  ·simp only [okR]
  cases hb:sumOk q1
  ·simp only [push_cast,↓reduceIte,Nat.reduceLT,Nat.reduceAdd,Nat.reduceEqDiff,reduceCtorEq,Int.reduceNeg,sumC,imsD,zeroS,flC,Tryz.results113]
  refine byP (fc sumC.eq_1 imsD.eq_1) ?_
  refine sw_call (hA2) rfl (aAs_ok ?_) ?_ (sw_run 200 _ _ _ ?_)
  ·exact byP (fc sumC.eq_1 imsD.eq_1) True.intro
  ·simp only [okR]
  exact byP (fc sumC.eq_1 (fc imsD.eq_1 Tryz.results113)) True.intro
 rcases pc (t.name=⟨#[42]⟩) with g3 | g3
 ·by_cases ha:p1.items.length=0
  ·have ha':(p1.items.length:Int)=0:=by omega
   refine byP (fc sumC.eq_1 (fc imsD.eq_1 (fc g1 (fc g2 (fc g3 (fc lnI.eq_1 ha)))))) ?_
   refine sw_call (hB) rfl (aAs_ok ?_) ?_ (sw_run 200 _ _ _ ?_)
   ·exact byP (fc sumC.eq_1 imsD.eq_1) True.intro
   ·simp only [okR]
   exact byP (fc sumC.eq_1 (fc imsD.eq_1 Tryz.results113)) True.intro
  have ha':¬ (p1.items.length:Int)=0:=by omega
  by_cases hb:q1.items.length=0
  ·have hb':(q1.items.length:Int)=0:=by omega
   refine byP (fc sumC.eq_1 (fc imsD.eq_1 (fc g1 (fc g2 (fc g3 (fc lnI.eq_1 (fc ha (fc ha' hb)))))))) ?_
   refine sw_call (hC) rfl (aAs_ok ?_) ?_ (sw_run 200 _ _ _ ?_)
   ·exact byP (fc sumC.eq_1 imsD.eq_1) True.intro
   ·simp only [okR]
   exact byP (fc sumC.eq_1 (fc imsD.eq_1 Tryz.results113)) True.intro
  have hb':¬ (q1.items.length:Int)=0:=by omega
  simp only [push_cast,↓reduceIte,Nat.reduceLT,Nat.reduceAdd,Nat.reduceEqDiff,reduceCtorEq,sumC,imsD,g1,g2,g3,lnI,ha,ha',hb,hb',zeroS,flC,Tryz.results113]
 simp only [push_cast,↓reduceIte,Nat.reduceLT,Nat.reduceAdd,Nat.reduceEqDiff,reduceCtorEq,sumC,imsD,g1,g2,g3,lnI,zeroS,flC,Tryz.results113]
theorem con_LinI (t:Tm) (hz:szL (tmC t)≤100000000):Con Tryz.prog 43 [.ag (tmC t)] [.ag (sumC (linR t).1),.one (.bool (linR t).2)]:=by
 have hT:=con_IsTermI t (by omega)
 by_cases ht:allTm isFm t=true
 case neg =>
  have ht:allTm isFm t=false:=by simpa using ht
  have e:linR t=(zeroS,false):=by rw [linR,ht];rfl
  rw [ht] at hT
  rw [e]
  refine con_run Tryz.func43 rfl rfl (by simp [Tryz.ntmps43]) ?_
  refine byP Tryz.ntmps43 ?_
  refine sw_call (hT) rfl (aAs_ok ?_) ?_ (sw_run 200 _ _ _ ?_)
  ·exact byQ True.intro
  ·simp only [okR]
  simp only [push_cast,↓reduceIte,Nat.reduceLT,Nat.reduceAdd,Nat.reduceEqDiff,reduceCtorEq,sumC,imsD,zeroS,flC,Tryz.results43]
 have e:linR t=linT lnI t:=by rw [linR,if_pos ht]
 have hL:=con_linI t hz ht
 rw [ht] at hT
 rw [e]
 refine con_run Tryz.func43 rfl rfl (by simp [Tryz.ntmps43]) ?_
 refine byP Tryz.ntmps43 ?_
 refine sw_call (hT) rfl (aAs_ok ?_) ?_ (sw_run 200 _ _ _ ?_)
 ·exact byQ True.intro
 ·simp only [okR]
 refine byQ ?_
 refine sw_call (hL) rfl (aAs_ok ?_) ?_ (sw_run 200 _ _ _ ?_)
 ·exact byQ True.intro
 ·simp only [okR]
 exact byP (fc sumC.eq_1 (fc imsD.eq_1 Tryz.results43)) True.intro
end Go.Proofs.YtaidalilfmjfgaaGreat
