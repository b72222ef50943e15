import Derived.Test.YtaidalilfmjfgaaGreatSumB
import Derived.Test.YtaidalilfmjfgaaGreatBy
import Derived.Test.YtaidalilfmjfgaaGreatDat
import Derived.Test.YtaidalilfmjfgaaGreatNum
import Derived.Test.YtaidalilfmjfgaaGreatTmV
import Derived.Test.YtaidalilfmjfgaaGreatPtr
import Derived.Test.YtaidalilfmjfgaaGreatTyC
import Derived.Test.YtaidalilfmjfgaaGreatLst
import Derived.Test.YtaidalilfmjfgaaGreatLin
import Derived.Test.YtaidalilfmjfgaaGreatSumT
namespace Go.Proofs.YtaidalilfmjfgaaGreat
open Go.RowKit
set_option linter.unusedVariables false
set_option linter.unusedSimpArgs false
set_option maxRecDepth 20000
def ff (p:Int→Bool):List Int→Int→Int
 | [],_ => -1
 | x :: xs,i=>if p x=true then i else ff p xs (i+1)
theorem ff_step (p:Int→Bool) (xs:List Int) (k:Nat) (h:k<xs.length):ff p (xs.drop k) k=if p xs[k]! = true then (k:Int) else ff p (xs.drop (k+1)) ((k+1:Nat):Int):=by
 rw [List.drop_eq_getElem_cons h,getElem!_pos xs k h];rfl
theorem ff_end (p:Int→Bool) (xs:List Int) (k:Nat) (h:xs.length≤k) (i:Int):ff p (xs.drop k) i = -1:=by rw [List.drop_of_length_le h];rfl
theorem ff_any (p : Int → Bool) : ∀ (xs : List Int) (i : Int), 0 ≤ i → decide (0 ≤ ff p xs i) = xs.any p
  | [], i, _ => rfl
  | x :: xs, i, h => by
    rw [ff, List.any_cons]
    cases e : p x
    · rw [if_neg (by simp), ff_any p xs (i + 1) (by omega)]; rfl
    · rw [if_pos rfl, decide_eq_true h]; rfl
theorem con_IndexFuncI (p:Int→Bool) (g:FuncId) (xs:List Int) (hl:xs.length≤1000000000) (hp:∀ x ∈ xs,Con Tryz.prog g [.one (.int x)] [.one (.bool (p x))]):Con Tryz.prog 192 [.one (intsD xs),.fn g []] [.one (.int (ff p xs 0))]:=by
 refine con_run Tryz.func192 rfl rfl (by simp [Tryz.ntmps192]) ?_
 refine byP Tryz.ntmps192 ?_
 refine sw_loop (fun k:Nat=>k≤xs.length∧ff p (xs.drop k) k=ff p xs 0) (fun k=>⟨19,[(8,.i k),(7,.i xs.length),(0,.br (.rows 1 xs.length (xs.map D.int))),(1,.fn g [])],[],[],0,[]⟩) (fun k=>xs.length-k) 0 id ⟨Nat.zero_le _,rfl⟩ ?_ ?_
 ·exact byQ True.intro
 ·rintro k ⟨hk,hf⟩
  refine sw_run 200 _ _ _ ?_
  by_cases hlt:k<xs.length
  ·have hi:(k:Int)<(xs.length:Int):=by omega
   have hR:=ints_row xs k hlt
   have hpc:=hp _ (mem_bang hlt)
   rw [ff_step p xs k hlt] at hf
   obtain ⟨b,hb⟩:∃ b,b=p xs[k]! := ⟨_,rfl⟩
   rw [← hb] at hf hpc
   refine byP (fc hi hR) ?_
   refine sw_call (hpc) rfl (aAs_ok ?_) ?_ (sw_run 200 _ _ _ ?_)
   ·exact byQ True.intro
   ·simp only [okR]
   cases b
   ·rw [if_neg (by simp)] at hf
    refine byQ ?_
    refine ⟨by unfold inI;omega,k+1,id,⟨by omega,hf⟩,by omega, ?_⟩
    exact byQ True.intro
   ·rw [if_pos rfl] at hf
    refine byP Tryz.results192 ?_
    exact hf
  ·have hi:¬ (k:Int)<(xs.length:Int):=by omega
   rw [ff_end p xs k (by omega)] at hf
   refine byP hi ?_
   refine sw_run 200 _ _ _ ?_
   simp only [push_cast,↓reduceIte,Nat.reduceLT,reduceCtorEq,Int.reduceNeg,← hf,Tryz.results192]
theorem con_ContainsFuncI (p:Int→Bool) (g:FuncId) (xs:List Int) (hl:xs.length≤1000000000) (hp:∀ x ∈ xs,Con Tryz.prog g [.one (.int x)] [.one (.bool (p x))]):Con Tryz.prog 121 [.one (intsD xs),.fn g []] [.one (.bool (xs.any p))]:=by
 have hc:=con_IndexFuncI p g xs hl hp
 rw [← ff_any p xs 0 (by omega)]
 simp only [intsD] at hc ⊢
 refine con_run Tryz.func121 rfl rfl (by simp [Tryz.ntmps121]) ?_
 refine byP Tryz.ntmps121 ?_
 refine sw_call (hc) rfl (aAs_ok ?_) ?_ (sw_run 200 _ _ _ ?_)
 ·exact byQ True.intro
 ·simp only [okR]
 exact byP Tryz.results121 True.intro
theorem con_EvalNot (n:Int):Con Tryz.prog 122 [.one (.int n)] [.one (.bool (!numB n))]:=by
 have hnb:=con_isNumber n
 refine con_run Tryz.func122 rfl rfl (by simp [Tryz.ntmps122]) ?_
 refine byP Tryz.ntmps122 ?_
 refine sw_call (hnb) rfl (aAs_ok ?_) ?_ (sw_run 200 _ _ _ ?_)
 ·exact byQ True.intro
 ·simp only [okR]
 exact byP Tryz.results122 True.intro
theorem con_IndexOfI (xs:List ByteArray) (s:ByteArray) (hl:xs.length≤1000000000):Con Tryz.prog 123 [.one (strsD xs),.one (.str s)] [.one (.int (fi s xs 0))]:=by
 have hc:=con_Index xs s hl
 simp only [strsD] at hc ⊢
 refine con_run Tryz.func123 rfl rfl (by simp [Tryz.ntmps123]) ?_
 refine byP Tryz.ntmps123 ?_
 refine sw_call (hc) rfl (aAs_ok ?_) ?_ (sw_run 200 _ _ _ ?_)
 ·exact byQ True.intro
 ·simp only [okR]
 exact byP Tryz.results123 True.intro
def evK (s : Sm) (ns : List ByteArray) (as1 : List Int) : Nat → Option Int
  | 0 => some s.const
  | k + 1 => match evK s ns as1 k with
    | none => none
    | some v => if 0 ≤ fi s.items[k]!.name ns 0 ∧ fi s.items[k]!.name ns 0 < as1.length then some ((v + s.items[k]!.coef * as1[(fi s.items[k]!.name ns 0).toNat]!) % 10007) else none
theorem evK_le (s : Sm) (ns : List ByteArray) (as1 : List Int) : ∀ n k, k ≤ n → evK s ns as1 k = none → evK s ns as1 n = none
  | 0, k, h, e => by obtain rfl : k = 0 := by omega
                     exact e
  | n + 1, k, h, e => by
    by_cases hk : k = n + 1
    · subst hk; exact e
    · rw [evK, evK_le s ns as1 n k (by omega) e]
def evOk (s:Sm) (ns:List ByteArray) (as1:List Int):Bool:=sumOk s && (!as1.any (fun n => !numB n) && (evK s ns as1 s.items.length).isSome)
def evV (s:Sm) (ns:List ByteArray) (as1:List Int):Int:=if evOk s ns as1=true then (evK s ns as1 s.items.length).getD 0 else 0
theorem any_num {as1:List Int} (h:as1.any (fun n => !numB n)=false) (j:Nat) (hj:j<as1.length):0≤as1[j]! ∧ as1[j]! ≤ 10006:=by
 rw [List.any_eq_false] at h
 have:=h _ (mem_bang hj)
 exact numB_t (by simpa using this)
theorem con_EvalI (s:Sm) (ns:List ByteArray) (as1:List Int) (hz:szL (sumC s)≤1000000000) (hns:ns.length≤1000000000) (has:as1.length≤1000000000):Con Tryz.prog 49 [.ag (sumC s),.one (strsD ns),.one (intsD as1)] [.one (.int (evV s ns as1)),.one (.bool (evOk s ns as1))]:=by
 have hi:=con_IsSumI s hz
 obtain ⟨b,hsm⟩:∃ b,sumOk s=b:=⟨_,rfl⟩
 rw [hsm] at hi
 simp only [sumC,imsD] at hi
 refine con_run Tryz.func49 rfl rfl (by simp [Tryz.ntmps49]) ?_
 refine byP (fc sumC.eq_1 (fc imsD.eq_1 Tryz.ntmps49)) ?_
 refine sw_call (hi) rfl (aAs_ok ?_) ?_ (sw_run 200 _ _ _ ?_)
 ·exact byQ True.intro
 ·simp only [okR]
 cases b
 ·have hok:evOk s ns as1=false:=by rw [evOk,hsm];rfl
  rw [evV,hok]
  exact byP Tryz.results49 True.intro
 obtain ⟨hall,hcn,hl8⟩:=sumOk_t hsm
 refine byQ ?_
 have hcf:=con_ContainsFuncI (fun n => !numB n) 122 as1 has (fun n _=>con_EvalNot n)
 obtain ⟨c,hany⟩:∃ c,as1.any (fun n => !numB n)=c:=⟨_,rfl⟩
 rw [hany] at hcf
 simp only [intsD] at hcf
 refine sw_call (hcf) rfl (aAs_ok ?_) ?_ (sw_run 200 _ _ _ ?_)
 ·exact byQ True.intro
 ·simp only [okR]
 cases c
 case true =>
  have hok:evOk s ns as1=false:=by rw [evOk,hany];simp
  rw [evV,hok]
  exact byP Tryz.results49 True.intro
 refine byQ ?_
 refine sw_loop (fun k:Nat=>k≤s.items.length∧∃ v,evK s ns as1 k=some v∧0≤v∧v≤10006) (fun k=>⟨52,[(24,.i k),(23,.i s.items.length),(22,.br (.rows 2 s.items.length (flC imC s.items))),(8,.i ((evK s ns as1 k).getD 0)),(3,.bx 0 0),(1,.br (.rows 1 ns.length (ns.map D.str))),(2,.br (.rows 1 as1.length (as1.map D.int)))],[(0,[.i s.const,.br (.rows 2 s.items.length (flC imC s.items))])],[],1,[]⟩) (fun k=>s.items.length-k) 0 id ⟨Nat.zero_le _,s.const,rfl,hcn⟩ ?_ ?_
 ·exact byP evK.eq_1 True.intro
 ·rintro k ⟨hk,v,hv,hv0,hv1⟩
  refine sw_run 200 _ _ _ ?_
  simp only [hv,Option.getD_some]
  by_cases hlt:k<s.items.length
  ·have hi:(k:Int)<(s.items.length:Int):=by omega
   have hR:=flC_row imC_len s.items k hlt
   have hco:=cfB_t (itOk_base s.items k (itAll_at s.items _ hall k hlt)).2
   have hidx:=con_IndexOfI ns s.items[k]!.name hns
   have hev:evK s ns as1 (k+1)=if 0≤fi s.items[k]!.name ns 0∧fi s.items[k]!.name ns 0<as1.length then some ((v+s.items[k]!.coef * as1[(fi s.items[k]!.name ns 0).toNat]!) % 10007) else none:=by rw [evK,hv]
   obtain ⟨i,hii⟩:∃ i,i=fi s.items[k]!.name ns 0:=⟨_,rfl⟩
   rw [← hii] at hidx hev
   simp only [strsD] at hidx
   refine byP (fc hi (fc hR imC.eq_1)) ?_
   refine sw_call (hidx) rfl (aAs_ok ?_) ?_ (sw_run 200 _ _ _ ?_)
   ·exact byQ True.intro
   ·simp only [okR]
   by_cases h0:i<0
   ·rw [if_neg (by omega)] at hev
    have hnone:=evK_le s ns as1 s.items.length (k+1) (by omega) hev
    have hok:evOk s ns as1=false:=by rw [evOk,hnone];simp
    rw [evV,hok]
    exact byP (fc h0 Tryz.results49) True.intro
   by_cases h1:(as1.length:Int)≤i
   ·rw [if_neg (by omega)] at hev
    have hnone:=evK_le s ns as1 s.items.length (k+1) (by omega) hev
    have hok:evOk s ns as1=false:=by rw [evOk,hnone];simp
    rw [evV,hok]
    exact byP (fc h0 (fc h1 Tryz.results49)) True.intro
   obtain ⟨j,rfl⟩:∃ j:Nat,i=(j:Int):=⟨i.toNat,by omega⟩
   have hj:j<as1.length:=by omega
   have hji:(j:Int)<(as1.length:Int):=by omega
   have hRa:=ints_row as1 j hj
   have han:=any_num hany j hj
   have hm:inI (s.items[k]!.coef * as1[j]!)∧inI (v+s.items[k]!.coef * as1[j]!)∧True:=by
    have h1:0≤s.items[k]!.coef * as1[j]! := Int.mul_nonneg (by omega) (by omega)
    have h2:s.items[k]!.coef * as1[j]! ≤ 10006 * 10006:=Int.mul_le_mul (by omega) (by omega) (by omega) (by omega)
    unfold inI
    refine ⟨by omega,by omega,trivial⟩
   rw [if_pos (show 0≤(j:Int)∧(j:Int)<(as1.length:Int) from ⟨by omega,hji⟩),Int.toNat_natCast] at hev
   refine byP (fc h0 h1) ?_
   refine sw_drawn (.cons 0 true (.cons 1 true (.cons 2 true (.cons 3 true (.cons 4 true (.cons 5 true (.cons 6 true (.cons 7 true (.cons 8 true (.cons 9 false (.cons 10 true (.nil)))))))))))) (by kernel_rfl) qLp_panic (by kernel_rfl) (sw_run 200 _ _ _ ?_)
   refine byP (fc hji hRa) ?_
   refine ⟨hm.1,hm.2.1, ?_⟩
   refine sw_callD (con_ReduceI (v+s.items[k]!.coef * as1[j]!)) rfl (aAs_ok ?_) ?_ (sw_run 200 _ _ _ ?_)
   ·exact byQ True.intro
   ·simp only [okR]
   refine byQ ?_
   refine ⟨by unfold inI;omega,k+1,id,⟨by omega,_,hev,by omega,by omega⟩,by omega, ?_⟩
   exact byP hev True.intro
  ·have hi:¬ (k:Int)<(s.items.length:Int):=by omega
   obtain rfl:k=s.items.length:=by omega
   have hok:evOk s ns as1=true:=by rw [evOk,hsm,hany,hv];rfl
   rw [evV,hok,hv]
   refine byP hi ?_
   refine sw_run 200 _ _ _ ?_
   exact byP Tryz.results49 True.intro
theorem any_drop (as1:List Int) (k:Nat) (h:k<as1.length):(as1.drop k).any (fun n => !numB n)=(!numB as1[k]! || (as1.drop (k+1)).any (fun n => !numB n)):=by
 rw [List.drop_eq_getElem_cons h,getElem!_pos as1 k h,List.any_cons]
theorem con_EvalS (s:Sm) (ns:List ByteArray) (as1:List Int) (hz:szL (sumC s)≤1000000000) (hns:ns.length≤1000000000) (has:as1.length≤1000000000):Con Tryz.prog 50 [.ag (sumC s),.one (strsD ns),.one (intsD as1)] [.one (.int (evV s ns as1)),.one (.bool (evOk s ns as1))]:=by
 have hi:=con_IsSumS s hz
 obtain ⟨b,hsm⟩:∃ b,sumOk s=b:=⟨_,rfl⟩
 rw [hsm] at hi
 simp only [sumC,imsD] at hi
 refine con_run Tryz.func50 rfl rfl (by simp [Tryz.ntmps50]) ?_
 refine byP (fc sumC.eq_1 (fc imsD.eq_1 Tryz.ntmps50)) ?_
 refine sw_call (hi) rfl (aAs_ok ?_) ?_ (sw_run 200 _ _ _ ?_)
 ·exact byQ True.intro
 ·simp only [okR]
 cases b
 ·have hok:evOk s ns as1=false:=by rw [evOk,hsm];rfl
  rw [evV,hok]
  exact byP Tryz.results50 True.intro
 obtain ⟨hall,hcn,hl8⟩:=sumOk_t hsm
 refine byQ ?_
 refine sw_loop (fun k:Nat=>k≤as1.length∧(as1.drop k).any (fun n => !numB n)=as1.any (fun n => !numB n)) (fun k=>⟨67,[(8,.i k),(3,.bx 0 0),(1,.br (.rows 1 ns.length (ns.map D.str))),(2,.br (.rows 1 as1.length (as1.map D.int)))],[(0,[.i s.const,.br (.rows 2 s.items.length (flC imC s.items))])],[],1,[]⟩) (fun k=>as1.length-k) 0 id ⟨Nat.zero_le _,rfl⟩ ?_ ?_
 ·exact byQ True.intro
 ·rintro k ⟨hk,ha⟩
  refine sw_run 200 _ _ _ ?_
  by_cases hlt:k<as1.length
  ·have hi:(k:Int)<(as1.length:Int):=by omega
   have hR:=ints_row as1 k hlt
   have hnb:=con_l1In as1[k]! 0 10006
   rw [← numB] at hnb
   rw [any_drop as1 k hlt] at ha
   obtain ⟨b,hb⟩:∃ b,b=numB as1[k]! := ⟨_,rfl⟩
   rw [← hb] at hnb ha
   refine byP (fc hi hR) ?_
   refine sw_call (hnb) rfl (aAs_ok ?_) ?_ (sw_run 200 _ _ _ ?_)
   ·exact byQ True.intro
   ·simp only [okR]
   cases b
   ·have hok:evOk s ns as1=false:=by rw [evOk,← ha];simp
    rw [evV,hok]
    exact byP Tryz.results50 True.intro
   ·refine byQ ?_
    refine ⟨by unfold inI;omega,k+1,id,⟨by omega,by simpa using ha⟩,by omega, ?_⟩
    exact byQ True.intro
  ·have hi:¬ (k:Int)<(as1.length:Int):=by omega
   have hany:as1.any (fun n => !numB n)=false:=by rw [← ha,List.drop_of_length_le (by omega)];rfl
   refine byP hi ?_
   refine sw_run 200 _ _ _ ?_
   refine byQ ?_
   refine sw_loop (fun k:Nat=>k≤s.items.length∧∃ v,evK s ns as1 k=some v∧0≤v∧v≤10006) (fun k=>⟨67,[(10,.i k),(9,.i ((evK s ns as1 k).getD 0)),(3,.bx 0 0),(1,.br (.rows 1 ns.length (ns.map D.str))),(2,.br (.rows 1 as1.length (as1.map D.int)))],[(0,[.i s.const,.br (.rows 2 s.items.length (flC imC s.items))])],[],1,[]⟩) (fun k=>s.items.length-k) 0 id ⟨Nat.zero_le _,s.const,rfl,hcn⟩ ?_ ?_
   ·exact byP evK.eq_1 True.intro
   ·rintro k ⟨hk,v,hv,hv0,hv1⟩
    refine sw_run 200 _ _ _ ?_
    simp only [hv,Option.getD_some]
    by_cases hlt:k<s.items.length
    ·have hi:(k:Int)<(s.items.length:Int):=by omega
     have hR:=flC_row imC_len s.items k hlt
     have hco:=cfB_t (itOk_base s.items k (itAll_at s.items _ hall k hlt)).2
     have hidx:=con_IndexOfS ns s.items[k]!.name hns
     have hev:evK s ns as1 (k+1)=if 0≤fi s.items[k]!.name ns 0∧fi s.items[k]!.name ns 0<as1.length then some ((v+s.items[k]!.coef * as1[(fi s.items[k]!.name ns 0).toNat]!) % 10007) else none:=by rw [evK,hv]
     obtain ⟨i,hii⟩:∃ i,i=fi s.items[k]!.name ns 0:=⟨_,rfl⟩
     rw [← hii] at hidx hev
     simp only [strsD] at hidx
     refine byP (fc hi (fc hR imC.eq_1)) ?_
     refine sw_call (hidx) rfl (aAs_ok ?_) ?_ (sw_run 200 _ _ _ ?_)
     ·exact byQ True.intro
     ·simp only [okR]
     by_cases h0:i<0
     ·rw [if_neg (by omega)] at hev
      have hnone:=evK_le s ns as1 s.items.length (k+1) (by omega) hev
      have hok:evOk s ns as1=false:=by rw [evOk,hnone];simp
      rw [evV,hok]
      exact byP (fc h0 Tryz.results50) True.intro
     by_cases h1:(as1.length:Int)≤i
     ·rw [if_neg (by omega)] at hev
      have hnone:=evK_le s ns as1 s.items.length (k+1) (by omega) hev
      have hok:evOk s ns as1=false:=by rw [evOk,hnone];simp
      rw [evV,hok]
      exact byP (fc h0 (fc h1 Tryz.results50)) True.intro
     obtain ⟨j,rfl⟩:∃ j:Nat,i=(j:Int):=⟨i.toNat,by omega⟩
     have hj:j<as1.length:=by omega
     have hji:(j:Int)<(as1.length:Int):=by omega
     have hRa:=ints_row as1 j hj
     have han:=any_num hany j hj
     have hm:inI (s.items[k]!.coef * as1[j]!)∧inI (v+s.items[k]!.coef * as1[j]!)∧True:=by
      have h1:0≤s.items[k]!.coef * as1[j]! := Int.mul_nonneg (by omega) (by omega)
      have h2:s.items[k]!.coef * as1[j]! ≤ 10006 * 10006:=Int.mul_le_mul (by omega) (by omega) (by omega) (by omega)
      unfold inI
      refine ⟨by omega,by omega,trivial⟩
     rw [if_pos (show 0≤(j:Int)∧(j:Int)<(as1.length:Int) from ⟨by omega,hji⟩),Int.toNat_natCast] at hev
     refine byP (fc h0 h1) ?_
     refine sw_drawn (.cons 0 true (.cons 1 true (.cons 2 true (.cons 3 true (.cons 4 true (.cons 5 true (.cons 6 true (.cons 7 true (.cons 8 true (.cons 9 true (.cons 10 true (.cons 11 true (.cons 12 true (.cons 13 false (.cons 14 true (.nil)))))))))))))))) (by kernel_rfl) qLp_panic (by kernel_rfl) (sw_run 200 _ _ _ ?_)
     refine byP (fc hi (fc hR (fc imC.eq_1 (fc hji hRa)))) ?_
     refine ⟨hm.1,hm.2.1, ?_⟩
     refine sw_callD (con_ReduceS (v+s.items[k]!.coef * as1[j]!)) rfl (aAs_ok ?_) ?_ (sw_run 200 _ _ _ ?_)
     ·exact byQ True.intro
     ·simp only [okR]
     refine byQ ?_
     refine ⟨by unfold inI;omega,k+1,id,⟨by omega,_,hev,by omega,by omega⟩,by omega, ?_⟩
     exact byP hev True.intro
    ·have hi:¬ (k:Int)<(s.items.length:Int):=by omega
     obtain rfl:k=s.items.length:=by omega
     have hok:evOk s ns as1=true:=by rw [evOk,hsm,hany,hv];rfl
     rw [evV,hok,hv]
     refine byP hi ?_
     refine sw_run 200 _ _ _ ?_
     exact byP Tryz.results50 True.intro
structure Shp where
 known:Bool
 h:Int
 d:Int
 b:Int
 deriving Inhabited,DecidableEq
def s0:Shp:=⟨true,0,0,0⟩
theorem con_bitS (b:Bool):Con Tryz.prog 67 [.one (.bool b)] [.one (.int (if b=true then 1 else 0))]:=by
 cases b
 all_goals
  refine con_run Tryz.func67 rfl rfl (by simp [Tryz.ntmps67]) ?_
  exact byP (fc Tryz.ntmps67 Tryz.results67) True.intro
def bI (b:Bool):Int:=if b=true then 1 else 0
def apW (s:ByteArray) (a b:Int):Int:=if s=⟨#[43]⟩ then (a+b) % 10007 else if s=⟨#[45]⟩ then (a-b) % 10007 else if s=⟨#[42]⟩ then (a * b) % 10007 else if s=⟨#[61]⟩ then bI (decide (a=b)) else if s=⟨#[60]⟩ then bI (decide (a<b)) else if s=⟨#[38]⟩ then bI (decide (a=1) && decide (b=1)) else if s=⟨#[124]⟩ then bI (decide (a=1) || decide (b=1)) else if s=⟨#[33]⟩ then bI (decide (a=0)) else 0
def apB (s:ByteArray):Bool:=if s=⟨#[43]⟩ then true else if s=⟨#[45]⟩ then true else if s=⟨#[42]⟩ then true else if s=⟨#[61]⟩ then true else if s=⟨#[60]⟩ then true else if s=⟨#[38]⟩ then true else if s=⟨#[124]⟩ then true else if s=⟨#[33]⟩ then true else false
def apV (s:ByteArray) (a b:Int):Int:=if (numB a && numB b)=true then apW s a b else 0
def apK (s:ByteArray) (a b:Int):Bool:=(numB a && numB b) && apB s
theorem num_rng {a:Int} (h:numB a=true):0≤a∧a≤10006:=by
 unfold numB at h
 simpa only [Bool.and_eq_true,decide_eq_true_eq] using h
theorem num_mul {a b:Int} (ha:0≤a∧a≤10006) (hb:0≤b∧b≤10006):inI (a * b):=by
 have h1:0≤a * b:=Int.mul_nonneg ha.1 hb.1
 have h2:a * b≤10006 * 10006:=Int.mul_le_mul ha.2 hb.2 hb.1 (by omega)
 unfold inI;omega
set_option maxRecDepth 10000 in
theorem con_ApplyS (s : ByteArray) (a b : Int) : Con Tryz.prog 198 [.one (.str s), .one (.int a), .one (.int b)] [.one (.int (apV s a b)), .one (.bool (apK s a b))] := by
  have hA : Con Tryz.prog 68 [.one (.int a), .one (.int 0), .one (.int 10006)] [.one (.bool (numB a))] := con_l1In a 0 10006
  have hB : Con Tryz.prog 68 [.one (.int b), .one (.int 0), .one (.int 10006)] [.one (.bool (numB b))] := con_l1In b 0 10006
  unfold apV apK
  cases h1 : numB a with
  | false =>
    rw [h1] at hA
    refine con_run Tryz.func198 rfl rfl (by simp [Tryz.ntmps198]) ?_
    refine byP Tryz.ntmps198 ?_
    refine sw_call (hA) rfl (aAs_ok ?_) ?_ (sw_run 200 _ _ _ ?_)
    · exact byQ True.intro
    · simp only [okR]
    exact byP Tryz.results198 True.intro
  | true =>
    rw [h1] at hA
    cases h2 : numB b with
    | false =>
      rw [h2] at hB
      refine con_run Tryz.func198 rfl rfl (by simp [Tryz.ntmps198]) ?_
      refine byP Tryz.ntmps198 ?_
      refine sw_call (hA) rfl (aAs_ok ?_) ?_ (sw_run 200 _ _ _ ?_)
      · exact byQ True.intro
      · simp only [okR]
      refine byQ ?_
      refine sw_call (hB) rfl (aAs_ok ?_) ?_ (sw_run 200 _ _ _ ?_)
      · exact byQ True.intro
      · simp only [okR]
      exact byP Tryz.results198 True.intro
    | true =>
      rw [h2] at hB
      have ha := num_rng h1
      have hb := num_rng h2
      have i1 : inI (a + b) := by unfold inI; omega
      have i2 : inI (a - b) := by unfold inI; omega
      have i3 := num_mul ha hb
      have hR := con_ReduceS
      have hT := con_bitS
      unfold apW apB
      refine con_run Tryz.func198 rfl rfl (by simp [Tryz.ntmps198]) ?_
      refine byP Tryz.ntmps198 ?_
      refine sw_call (hA) rfl (aAs_ok ?_) ?_ (sw_run 200 _ _ _ ?_)
      · exact byQ True.intro
      · simp only [okR]
      refine byQ ?_
      refine sw_call (hB) rfl (aAs_ok ?_) ?_ (sw_run 200 _ _ _ ?_)
      · exact byQ True.intro
      · simp only [okR]
      rcases op_cases s with h0 | ⟨h0, h1 | ⟨h1, h2 | ⟨h2, h3 | ⟨h3, h4 | ⟨h4, h5 | ⟨h5, h6 | ⟨h6, h7 | h7⟩⟩⟩⟩⟩⟩⟩
      · refine byP (fc h0 i1) ?_
        refine sw_call (hR (a + b)) rfl (aAs_ok ?_) ?_ (sw_run 200 _ _ _ ?_)
        · exact byQ True.intro
        · simp only [okR]
        exact byP Tryz.results198 True.intro
      · refine byP (fc h0 (fc h1 i2)) ?_
        refine sw_call (hR (a - b)) rfl (aAs_ok ?_) ?_ (sw_run 200 _ _ _ ?_)
        · exact byQ True.intro
        · simp only [okR]
        exact byP Tryz.results198 True.intro
      · refine byP (fc h0 (fc h1 (fc h2 i3))) ?_
        refine sw_call (hR (a * b)) rfl (aAs_ok ?_) ?_ (sw_run 200 _ _ _ ?_)
        · exact byQ True.intro
        · simp only [okR]
        exact byP Tryz.results198 True.intro
      · refine byP (fc h0 (fc h1 (fc h2 h3))) ?_
        refine sw_call (hT (decide (a = b))) rfl (aAs_ok ?_) ?_ (sw_run 200 _ _ _ ?_)
        · exact byQ True.intro
        · simp only [okR]
        exact byP (fc bI.eq_1 Tryz.results198) True.intro
      · refine byP (fc h0 (fc h1 (fc h2 (fc h3 h4)))) ?_
        refine sw_call (hT (decide (a < b))) rfl (aAs_ok ?_) ?_ (sw_run 200 _ _ _ ?_)
        · exact byQ True.intro
        · simp only [okR]
        exact byP (fc bI.eq_1 Tryz.results198) True.intro
      · by_cases e : a = 1
        · refine byP (fc e (fc h0 (fc h1 (fc h2 (fc h3 (fc h4 h5)))))) ?_
          refine sw_call (hT (decide (b = 1))) rfl (aAs_ok ?_) ?_ (sw_run 200 _ _ _ ?_)
          · exact byQ True.intro
          · simp only [okR]
          exact byP (fc bI.eq_1 Tryz.results198) True.intro
        · refine byP (fc e (fc h0 (fc h1 (fc h2 (fc h3 (fc h4 h5)))))) ?_
          refine sw_call (hT false) rfl (aAs_ok ?_) ?_ (sw_run 200 _ _ _ ?_)
          · exact byQ True.intro
          · simp only [okR]
          exact byP (fc bI.eq_1 Tryz.results198) True.intro
      · by_cases e : a = 1
        · refine byP (fc e (fc h0 (fc h1 (fc h2 (fc h3 (fc h4 (fc h5 h6))))))) ?_
          refine sw_call (hT true) rfl (aAs_ok ?_) ?_ (sw_run 200 _ _ _ ?_)
          · exact byQ True.intro
          · simp only [okR]
          simp only [push_cast, ↓reduceIte, Nat.reduceLT, Nat.reduceEqDiff, reduceCtorEq, bI, Bool.true_or, Tryz.results198]
        · refine byP (fc e (fc h0 (fc h1 (fc h2 (fc h3 (fc h4 (fc h5 h6))))))) ?_
          refine sw_call (hT (decide (b = 1))) rfl (aAs_ok ?_) ?_ (sw_run 200 _ _ _ ?_)
          · exact byQ True.intro
          · simp only [okR]
          simp only [push_cast, ↓reduceIte, Nat.reduceLT, Nat.reduceEqDiff, reduceCtorEq, bI, Bool.false_or, Tryz.results198]
      · refine byP (fc h0 (fc h1 (fc h2 (fc h3 (fc h4 (fc h5 (fc h6 h7))))))) ?_
        refine sw_call (hT (decide (a = 0))) rfl (aAs_ok ?_) ?_ (sw_run 200 _ _ _ ?_)
        · exact byQ True.intro
        · simp only [okR]
        exact byP (fc bI.eq_1 Tryz.results198) True.intro
      · exact byP (fc h0 (fc h1 (fc h2 (fc h3 (fc h4 (fc h5 (fc h6 (fc h7 Tryz.results198)))))))) True.intro
theorem tq_item:tEq Tryz.prog 149 [2,1]=true:=by kernel_rfl
def eqIt (x y:Im):Bool:=decide (x.name=y.name) && (decide (x.coef=y.coef) && true)
def eqItK (xs ys:List Im):Nat→Bool
 | 0=>true
 | k+1=>eqItK xs ys k && eqIt xs[k]! ys[k]!
theorem eqItK_le (xs ys : List Im) : ∀ n k, k ≤ n → eqItK xs ys k = false → eqItK xs ys n = false
  | 0, k, h, e => by obtain rfl : k = 0 := by omega
                     exact e
  | n + 1, k, h, e => by
    by_cases hk : k = n + 1
    · subst hk; exact e
    · rw [eqItK, eqItK_le xs ys n k (by omega) e]; rfl
def eqIts (xs ys:List Im):Bool:=decide ((xs.length:Int)=ys.length) && eqItK xs ys xs.length
def eqSm (a b:Sm):Bool:=decide (a.const=b.const) && eqIts a.items b.items
theorem con_EqItems (xs ys:List Im) (hl:xs.length≤1000000000):Con Tryz.prog 105 [.one (.rows 2 xs.length (flC imC xs)),.one (.rows 2 ys.length (flC imC ys))] [.one (.bool (eqIts xs ys))]:=by
 refine con_run Tryz.func105 rfl rfl (by simp [Tryz.ntmps105]) ?_
 by_cases hn:(xs.length:Int)=(ys.length:Int)
 case neg =>
  have hf:eqIts xs ys=false:=by rw [eqIts,decide_eq_false hn];rfl
  rw [hf]
  exact byP (fc hn (fc Tryz.ntmps105 Tryz.results105)) True.intro
 have hn2:xs.length=ys.length:=by omega
 refine byP (fc hn2 Tryz.ntmps105) ?_
 refine sw_loop (fun k:Nat=>k≤(xs).length∧eqItK (xs) (ys) k=true) (fun k=>⟨26,[(13,.i k),(12,.i ys.length),(0,.br (.rows 2 ys.length (flC imC xs))),(1,.br (.rows 2 ys.length (flC imC ys)))],[],[],0,[]⟩) (fun k=>(xs).length-k) 0 id ⟨Nat.zero_le _,rfl⟩ ?_ ?_
 ·exact byQ True.intro
 ·rintro k ⟨hk,hall⟩
  refine sw_run 200 _ _ _ ?_
  by_cases hlt:k<(xs).length
  ·have hi:(k:Int)<((xs).length:Int):=by omega
   have hi2:(k:Int)<((ys).length:Int):=by omega
   have hR:=flC_row imC_len (xs) k hlt
   have hR2:=flC_row imC_len (ys) k (by omega)
   obtain ⟨c,hb⟩:∃ c,c=eqIt (xs)[k]! (ys)[k]! := ⟨_,rfl⟩
   have hb2:=hb
   unfold eqIt at hb2
   refine byP hi2 ?_
   refine sw_drawn (.cons 0 true (.cons 1 true (.cons 2 true (.cons 3 true (.cons 4 true (.cons 5 true (.cons 6 true (.cons 7 true (.cons 8 true (.nil)))))))))) (by kernel_rfl) qLp_panic (by kernel_rfl) (sw_run 200 _ _ _ ?_)
   simp only [Bool.and_true] at hb2
   simp only [push_cast,↓reduceIte,Nat.reduceLT,Nat.reduceAdd,Nat.reduceEqDiff,reduceCtorEq,hi2,hR,hR2,imC,tq_item,bne,beq_self_eq_true,Nat.reduceBEq,← hb2]
   cases c
   ·have hf:eqIts xs ys=false:=by rw [eqIts,hn2,← hn2,eqItK_le _ _ _ (k+1) (by omega) (by rw [eqItK,hall,← hb];rfl)];simp
    rw [hf]
    exact byP Tryz.results105 True.intro
   ·refine byQ ?_
    refine ⟨by unfold inI;omega,k+1,id,⟨by omega,by rw [eqItK,hall,← hb];rfl⟩,by omega, ?_⟩
    exact byQ True.intro
  ·have hi:¬ (k:Int)<((xs).length:Int):=by omega
   obtain rfl:k=(xs).length:=by omega
   have hi2:¬ (((xs).length:Int)<((ys).length:Int)):=by omega
   have hf:eqIts xs ys=true:=by rw [eqIts,decide_eq_true hn,hall];rfl
   rw [hf]
   refine byP hi2 ?_
   refine sw_run 200 _ _ _ ?_
   exact byP Tryz.results105 True.intro
theorem con_EqSumI (a b:Sm) (hz:szL (sumC a)≤1000000000):Con Tryz.prog 38 [.ag (sumC a),.ag (sumC b)] [.one (.bool (eqSm a b))]:=by
 have hl:a.items.length≤1000000000:=by simp only [sumC,imsD,szL,szD] at hz;omega
 have hc:=con_EqItems a.items b.items hl
 refine con_run Tryz.func38 rfl rfl (by simp [Tryz.ntmps38]) ?_
 by_cases hn:a.const=b.const
 case neg =>
  have hf:eqSm a b=false:=by rw [eqSm,decide_eq_false hn];rfl
  rw [hf]
  exact byP (fc sumC.eq_1 (fc imsD.eq_1 (fc hn (fc Tryz.ntmps38 Tryz.results38)))) True.intro
 have hf:eqSm a b=eqIts a.items b.items:=by rw [eqSm,decide_eq_true hn];rfl
 rw [hf]
 refine byP (fc sumC.eq_1 (fc imsD.eq_1 (fc (eq_true hn) Tryz.ntmps38))) ?_
 refine sw_call (hc) rfl (aAs_ok ?_) ?_ (sw_run 200 _ _ _ ?_)
 ·exact byQ True.intro
 ·simp only [okR]
 exact byP Tryz.results38 True.intro
theorem con_EqSumS (a b:Sm) (hz:szL (sumC a)≤1000000000):Con Tryz.prog 52 [.ag (sumC a),.ag (sumC b)] [.one (.bool (eqSm a b))]:=by
 have hl:a.items.length≤1000000000:=by simp only [sumC,imsD,szL,szD] at hz;omega
 refine con_run Tryz.func52 rfl rfl (by simp [Tryz.ntmps52]) ?_
 by_cases hn:a.const=b.const
 case neg =>
  have hf:eqSm a b=false:=by rw [eqSm,decide_eq_false hn];rfl
  rw [hf]
  exact byP (fc sumC.eq_1 (fc imsD.eq_1 (fc hn (fc Tryz.ntmps52 Tryz.results52)))) True.intro
 by_cases hm:(a.items.length:Int)=(b.items.length:Int)
 case neg =>
  have hf:eqSm a b=false:=by rw [eqSm,eqIts,decide_eq_false hm,Bool.false_and,Bool.and_false]
  rw [hf]
  exact byP (fc sumC.eq_1 (fc imsD.eq_1 (fc (eq_true hn) (fc hm (fc Tryz.ntmps52 Tryz.results52))))) True.intro
 have hf0:eqSm a b=eqItK a.items b.items a.items.length:=by rw [eqSm,eqIts,decide_eq_true hn,decide_eq_true hm];rfl
 refine byP (fc sumC.eq_1 (fc imsD.eq_1 (fc (eq_true hn) (fc (eq_true hm) Tryz.ntmps52)))) ?_
 refine sw_loop (fun k:Nat=>k≤(a.items).length∧eqItK (a.items) (b.items) k=true) (fun k=>⟨38,[(5,.i k),(2,.bx 0 0),(3,.bx 1 0)],[(0,[.i a.const,.br (.rows 2 a.items.length (flC imC a.items))]),(1,[.i b.const,.br (.rows 2 b.items.length (flC imC b.items))])],[],2,[]⟩) (fun k=>(a.items).length-k) 0 id ⟨Nat.zero_le _,rfl⟩ ?_ ?_
 ·exact byQ True.intro
 ·rintro k ⟨hk,hall⟩
  refine sw_run 200 _ _ _ ?_
  by_cases hlt:k<(a.items).length
  ·have hi:(k:Int)<((a.items).length:Int):=by omega
   have hi2:(k:Int)<((b.items).length:Int):=by omega
   have hR:=flC_row imC_len (a.items) k hlt
   have hR2:=flC_row imC_len (b.items) k (by omega)
   obtain ⟨c,hb⟩:∃ c,c=eqIt (a.items)[k]! (b.items)[k]! := ⟨_,rfl⟩
   have hb2:=hb
   unfold eqIt at hb2
   refine byP hi ?_
   refine sw_drawn (.cons 0 true (.cons 1 true (.cons 2 true (.cons 3 true (.cons 4 true (.cons 5 true (.cons 6 true (.cons 7 true (.cons 8 true (.cons 9 true (.cons 10 true (.nil)))))))))))) (by kernel_rfl) qLp_panic (by kernel_rfl) (sw_run 200 _ _ _ ?_)
   simp only [Bool.and_true] at hb2
   simp only [push_cast,↓reduceIte,Nat.reduceLT,Nat.reduceAdd,Nat.reduceEqDiff,reduceCtorEq,hi,hi2,hR,hR2,imC,tq_item,bne,beq_self_eq_true,Nat.reduceBEq,← hb2]
   cases c
   ·have hf:eqSm a b=false:=by rw [hf0,eqItK_le _ _ _ (k+1) (by omega) (by rw [eqItK,hall,← hb];rfl)]
    rw [hf]
    exact byP Tryz.results52 True.intro
   ·refine byQ ?_
    refine ⟨by unfold inI;omega,k+1,id,⟨by omega,by rw [eqItK,hall,← hb];rfl⟩,by omega, ?_⟩
    exact byQ True.intro
  ·have hi:¬ (k:Int)<((a.items).length:Int):=by omega
   obtain rfl:k=(a.items).length:=by omega
   have hi2:¬ (((a.items).length:Int)<((b.items).length:Int)):=by omega
   have hf:eqSm a b=true:=by rw [hf0,hall]
   rw [hf]
   refine byP hi ?_
   refine sw_run 200 _ _ _ ?_
   exact byP Tryz.results52 True.intro
theorem mg_comm : ∀ a b : List Im, mgI a b = mgI b a
  | [], b => by rw [mg_nil]; simp [mgI]
  | x :: a, [] => by rw [mg_nil]; simp [mgI]
  | x :: a, y :: b => by
    have h1 := mg_comm a (y :: b)
    have h2 := mg_comm (x :: a) b
    have h3 := mg_comm a b
    rw [mg_cons, mg_cons]
    by_cases hx : nmL x < nmL y
    · have hy : ¬ nmL y < nmL x := fun h => lt_irr _ (lt_tr hx h)
      rw [if_pos hx, if_neg hy, if_pos hx, h1]
    · rw [if_neg hx]
      by_cases hy : nmL y < nmL x
      · rw [if_pos hy, if_pos hy, h2]
      · have e := nm_inj (lt_tot hx hy)
        rw [if_neg hy, if_neg hy, if_neg hx, Int.add_comm y.coef x.coef, h3, e]
termination_by a b=>a.length+b.length
theorem ad_comm (a b:Sm):adR a b=adR b a∧adB a b=adB b a:=by
 have h:adS a b=adS b a:=by rw [adS,adS,mg_comm,Int.add_comm]
 rw [adR,adR,adB,adB,h]
 cases sumOk a <;> cases sumOk b <;> exact ⟨rfl,rfl⟩
theorem eqIt_refl (x:Im):eqIt x x=true:=by unfold eqIt;simp
theorem eqItK_refl (xs:List Im):∀ k,eqItK xs xs k=true
 | 0=>rfl
 | k+1=>by rw [eqItK,eqItK_refl xs k,eqIt_refl];rfl
theorem eqSm_refl (s:Sm):eqSm s s=true:=by
 unfold eqSm eqIts
 rw [eqItK_refl];simp
def isum (g:ByteArray→Int):List Im→Int
 | []=>0
 | x :: l=>x.coef * g x.name+isum g l
def vlS (g:ByteArray→Int) (s:Sm):Int:=(s.const+isum g s.items) % 10007
theorem isum_app (g:ByteArray→Int):∀ a b,isum g (a++b)=isum g a+isum g b
 | [],b=>by rw [List.nil_append,isum];omega
 | x :: a,b=>by rw [List.cons_append,isum,isum,isum_app g a b];omega
theorem red_eq (n:Int):∃ k:Int,red n=n-10007 * k:=⟨n / 10007,by unfold red;omega⟩
theorem isum_mg (g : ByteArray → Int) : ∀ a b, ∃ k : Int, isum g (mgI a b) = isum g a + isum g b + 10007 * k
  | [], b => ⟨0, by rw [mgI, isum]; omega⟩
  | x :: a, [] => ⟨0, by rw [mg_nil, show isum g [] = 0 from rfl]; omega⟩
  | x :: a, y :: b => by
    obtain ⟨k1, h1⟩ := isum_mg g a (y :: b)
    obtain ⟨k2, h2⟩ := isum_mg g (x :: a) b
    obtain ⟨k3, h3⟩ := isum_mg g a b
    rw [mg_cons]
    by_cases hx : nmL x < nmL y
    · rw [if_pos hx, isum, h1, isum]
      exact ⟨k1, by rw [isum]; omega⟩
    · rw [if_neg hx]
      by_cases hy : nmL y < nmL x
      · rw [if_pos hy, isum, h2, isum]
        exact ⟨k2, by rw [isum]; omega⟩
      · have e := nm_inj (lt_tot hx hy)
        obtain ⟨k, hk⟩ := red_eq (x.coef + y.coef)
        rw [if_neg hy]
        by_cases h0 : red (x.coef + y.coef) = 0
        · rw [if_pos h0, h3, isum, isum, e]
          have : x.coef * g y.name + y.coef * g y.name = 10007 * (k * g y.name) := by
            rw [← Int.add_mul, show x.coef + y.coef = 10007 * k by omega, Int.mul_assoc]
          exact ⟨k3 - k * g y.name, by omega⟩
        · rw [if_neg h0, isum, isum, isum, h3, hk]
          have h5 : (x.coef + y.coef - 10007 * k) * g x.name = x.coef * g x.name + y.coef * g x.name - 10007 * (k * g x.name) := by
            rw [Int.sub_mul, Int.add_mul, Int.mul_assoc]
          simp only at h5 ⊢
          rw [h5, e]
          exact ⟨k3 - k * g y.name, by omega⟩
termination_by a b=>a.length+b.length
theorem isum_sc (g : ByteArray → Int) (xs : List Im) (m : Int) : ∀ k, k ≤ xs.length → ∃ j : Int, isum g (scItems xs m k) = m * isum g (xs.take k) + 10007 * j
  | 0, _ => ⟨0, by rw [scItems, List.take_zero, isum]; omega⟩
  | k + 1, h => by
    obtain ⟨j, hj⟩ := isum_sc g xs m k (by omega)
    have ht : isum g (xs.take (k + 1)) = isum g (xs.take k) + xs[k]!.coef * g xs[k]!.name := by
      rw [take_snoc xs k (by omega), isum_app, isum, isum]; omega
    obtain ⟨q, hq⟩ := red_eq (xs[k]!.coef * m)
    unfold red at hq
    have e1 : m * (isum g (xs.take k) + xs[k]!.coef * g xs[k]!.name) = m * isum g (xs.take k) + xs[k]!.coef * m * g xs[k]!.name := by
      rw [Int.mul_add, ← Int.mul_assoc m, Int.mul_comm m xs[k]!.coef]
    have e2 : (xs[k]!.coef * m % 10007) * g xs[k]!.name = xs[k]!.coef * m * g xs[k]!.name - 10007 * (q * g xs[k]!.name) := by
      rw [hq, Int.sub_mul, Int.mul_assoc 10007]
    rw [ht, e1, scItems]
    split
    · rename_i h0
      rw [h0, Int.zero_mul] at e2
      exact ⟨j - q * g xs[k]!.name, by omega⟩
    · rw [isum_app, isum, isum]
      simp only
      rw [e2]
      exact ⟨j - q * g xs[k]!.name, by omega⟩
theorem vl_rng (g:ByteArray→Int) (s:Sm):0≤vlS g s∧vlS g s≤10006:=by unfold vlS;omega
theorem vl_ad (g:ByteArray→Int) {a b:Sm} (h:adB a b=true):vlS g (adR a b)=(vlS g a+vlS g b) % 10007:=by
 rw [adB,Bool.and_eq_true,Bool.and_eq_true] at h
 rw [adR,h.1,h.2.1,Bool.and_self,if_pos rfl,chkS,if_pos h.2.2]
 obtain ⟨k,hk⟩:=isum_mg g a.items b.items
 unfold vlS adS
 simp only
 rw [hk]
 omega
theorem mul_emod7 (a b:Int):∃ k:Int,(a % 10007) * b=a * b+10007 * k:=⟨- (a / 10007 * b),by
 have h:a % 10007=a-10007 * (a / 10007):=by omega
 rw [h,Int.sub_mul,Int.mul_assoc];omega⟩
theorem vl_sc (g:ByteArray→Int) {a:Sm} {n:Int} (h:sumOk a=true):vlS g (scR a n)=(vlS g a * (n % 10007)) % 10007:=by
 rw [scR,if_pos h]
 generalize n % 10007=m
 obtain ⟨j,hj⟩:=isum_sc g a.items m a.items.length (Nat.le_refl _)
 rw [List.take_length] at hj
 unfold vlS scS
 simp only
 rw [hj]
 obtain ⟨k,hk⟩:=mul_emod7 (a.const+isum g a.items) m
 rw [hk,Int.add_mul,Int.mul_comm (isum g a.items) m]
 omega
def lkK (env:List Im) (s:ByteArray) (d:Int):Nat→Int
 | 0=>d
 | k+1=>if env[k]!.name=s then env[k]!.coef else lkK env s d k
def lkE (env:List Im) (s:ByteArray) (d:Int):Int:=lkK env s d env.length
abbrev EF:=List Im→Int
instance : Inhabited EF := ⟨fun _ => 0⟩
def evF (k:Int) (s:ByteArray) (n:Int) (fs:List EF):EF:=fun env =>
 if k=1 then lkE env s n
 else if k=4 then apV s ((fs[0]!) env) (if 1<fs.length then (fs[1]!) env else 0)
 else if k=5 then (fs[(2-(fs[0]!) env).toNat]!) env
 else if k=8 then (fs[1]!) (env++[⟨s,(fs[0]!) env⟩])
 else n
mutual
def evT:Tm→EF
 | .mk k s _ n _ _ xs=>evF k s n (evTs xs)
def evTs:List Tm→List EF
 | []=>[]
 | x :: xs=>evT x :: evTs xs
end
theorem evTs_map:∀ l,evTs l=l.map evT
 | []=>rfl
 | a :: l=>by rw [evTs,evTs_map l];rfl
theorem evT_eq (e:Tm):evT e=evF e.kind e.name e.n (e.args.map evT):=by
 obtain ⟨k,s,o,n,ty,rs,args⟩:=e
 rw [evT,evTs_map];rfl
theorem fm_n {e:Tm} (h:isFm e=true):rgB 0 (mostI e.kind) e.n=true∧(e.args.length:Int)=arF (-1) e.kind e.name:=by
 rw [fm_eq,Bool.and_eq_true] at h
 obtain ⟨h1,h2⟩:=h
 unfold fldB at h1
 simp only [Bool.and_eq_true] at h1
 exact ⟨h1.2.2.1,of_decide_eq_true h2⟩
theorem allTms_mem {p : Tm → Bool} : ∀ {xs : List Tm}, allTms p xs = true → ∀ x ∈ xs, allTm p x = true
  | [], _, x, h => by cases h
  | y :: ys, hp, x, h => by
    rw [allTms, Bool.and_eq_true] at hp
    rcases List.mem_cons.mp h with rfl | h
    · exact hp.1
    · exact allTms_mem hp.2 x h
theorem two_of {α:Type} {l:List α} (h:l.length=2):∃ a b,l=[a,b]:=by
 match l,h with
 | [a,b],_=>exact ⟨a,b,rfl⟩
theorem lin_val (g:ByteArray→Int) (hg:∀ s,0≤g s∧g s≤10006) (env:List Im) (hE:∀ s,lkE env s 0=g s):∀ e:Tm,allTm isFm e=true→(linT lnI e).2=true→evT e env=vlS g (linT lnI e).1:=by
 refine Tm.ind fun e ih h hl => ?_
 rw [allTm_eq,Bool.and_eq_true] at h
 obtain ⟨hn,ha⟩:=fm_n h.1
 have hp:=allTms_mem h.2
 unfold rgB at hn
 simp only [Bool.and_eq_true,decide_eq_true_eq] at hn
 by_cases h4:e.kind=4
 ·have hpos:=(fm_op h.1 h4).1
  rw [linT_eq lnI e hpos] at hl ⊢
  rw [evT_eq]
  unfold evF
  rw [linL,h4] at hl ⊢
  rw [h4] at ha
  simp only [Int.reduceEq,if_false,if_true] at hl ⊢
  by_cases hpq:((linT lnI e.args[0]!).2 && (linT lnI e.args[e.args.length-1]!).2)=true
  case neg=>rw [if_neg hpq] at hl;cases hl
  rw [if_pos hpq] at hl ⊢
  rw [Bool.and_eq_true] at hpq
  have hs:e.name=⟨#[43]⟩∨e.name=⟨#[45]⟩∨e.name=⟨#[42]⟩:=by
   by_cases h1:e.name=⟨#[43]⟩
   ·exact .inl h1
   by_cases h2:e.name=⟨#[45]⟩
   ·exact .inr (.inl h2)
   by_cases h3:e.name=⟨#[42]⟩
   ·exact .inr (.inr h3)
   exfalso
   unfold lnI at hl
   rw [if_neg h1,if_neg h2,if_neg h3] at hl;cases hl
  have hlen:e.args.length=2:=by
   have e1:arF (-1) 4 e.name=opAr e.name:=rfl
   rw [e1] at ha
   rcases hs with h1 | h1 | h1 <;> rw [h1] at ha <;> have:∀ x,(e.args.length:Int)=x→x=2→e.args.length=2:=(fun x h1 h2=>by omega)
   all_goals exact this _ ha (by decide)
  obtain ⟨x,y,hxy⟩:=two_of hlen
  rw [hxy] at hl hpq ih hp ⊢
  simp only [List.length_cons,List.length_nil,Nat.zero_add,Nat.reduceAdd,Nat.add_one_sub_one,List.map_cons,List.map_nil,List.getElem!_cons_zero,List.getElem!_cons_succ,Nat.reduceLT,if_true] at hl hpq ⊢
  have hx:=ih x (by simp) (hp x (by simp)) hpq.1
  have hy:=ih y (by simp) (hp y (by simp)) hpq.2
  rw [hx,hy]
  have rx:=vl_rng g (linT lnI x).1
  have ry:=vl_rng g (linT lnI y).1
  generalize (linT lnI x).1=a at *
  generalize (linT lnI y).1=b at *
  have hnb:(numB (vlS g a) && numB (vlS g b))=true:=by
   unfold numB
   simp only [Bool.and_eq_true,decide_eq_true_eq];exact ⟨rx,ry⟩
  unfold apV
  rw [if_pos hnb]
  unfold lnI at hl ⊢
  rcases hs with h1 | h1 | h1
  ·rw [h1] at hl ⊢
   simp only [if_true] at hl ⊢
   rw [vl_ad g hl]
   unfold apW
   rw [if_pos rfl]
  ·rw [h1] at hl ⊢
   rw [if_neg (by decide),if_pos rfl] at hl ⊢
   by_cases hb:sumOk b=true
   ·rw [if_pos hb] at hl ⊢
    simp only at hl ⊢
    rw [vl_ad g hl,vl_sc g hb]
    unfold apW
    rw [if_neg (by decide),if_pos rfl]
    have:(-1:Int) % 10007=10006:=by decide
    rw [this]
    omega
   ·rw [if_neg hb] at hl;cases hl
  ·rw [h1] at hl ⊢
   rw [if_neg (by decide),if_neg (by decide),if_pos rfl] at hl ⊢
   have hw:∀ a b,apW ⟨#[42]⟩ a b=(a * b) % 10007:=fun a b=>rfl
   rw [hw]
   by_cases h0:a.items.length=0
   ·rw [if_pos h0] at hl ⊢
    simp only at hl ⊢
    have e2:vlS g a=a.const % 10007:=by
     unfold vlS
     rw [List.eq_nil_of_length_eq_zero h0,isum,Int.add_zero]
    rw [vl_sc g hl,e2,Int.mul_comm]
   ·rw [if_neg h0] at hl ⊢
    by_cases h1:b.items.length=0
    ·rw [if_pos h1] at hl ⊢
     simp only at hl ⊢
     have e2:vlS g b=b.const % 10007:=by
      unfold vlS
      rw [List.eq_nil_of_length_eq_zero h1,isum,Int.add_zero]
     rw [vl_sc g hl,e2]
    ·rw [if_neg h1] at hl;cases hl
 ·rw [linT_leaf lnI e h4,linL] at hl ⊢
  rw [evT_eq]
  unfold evF
  by_cases h2:e.kind=2
  ·rw [if_pos h2,if_neg (by omega),if_neg h4,if_neg (by omega),if_neg (by omega)]
   rw [h2] at hn
   have:mostI 2=10006:=rfl
   rw [this] at hn
   unfold vlS
   simp only [isum]
   omega
  ·rw [if_neg h2] at hl ⊢
   by_cases h1:e.kind=1
   ·rw [if_pos h1,if_pos h1]
    rw [h1] at hn
    have:mostI 1=0:=rfl
    rw [this] at hn
    have e0:e.n=0:=by omega
    have:=hg e.name
    rw [e0,hE]
    unfold vlS
    simp only [isum]
    omega
   ·rw [if_neg h1,if_neg h4] at hl;cases hl
theorem ev_val (g : ByteArray → Int) (s : Sm) (ns : List ByteArray) (xs : List Int) (hg : ∀ t, 0 ≤ fi t ns 0 → fi t ns 0 < xs.length → xs[(fi t ns 0).toNat]! = g t) (hc : 0 ≤ s.const ∧ s.const ≤ 10006) : ∀ k, k ≤ s.items.length → ∀ v, evK s ns xs k = some v → v = (s.const + isum g (s.items.take k)) % 10007
  | 0, _, v, h => by
    rw [evK] at h
    injection h with h
    rw [List.take_zero, isum]; omega
  | k + 1, hk, v, h => by
    rw [evK] at h
    have ih := ev_val g s ns xs hg hc k (by omega)
    have ht : isum g (s.items.take (k + 1)) = isum g (s.items.take k) + s.items[k]!.coef * g s.items[k]!.name := by
      rw [take_snoc s.items k (by omega), isum_app, isum, isum]; omega
    cases he : evK s ns xs k with
    | none => rw [he] at h; cases h
    | some u =>
      rw [he] at h
      have hu := ih u he
      simp only at h
      split at h
      · rename_i hf
        injection h with h
        rw [hg _ hf.1 hf.2] at h
        rw [ht, ← h, hu]
        omega
      · cases h
theorem ev_vl (g:ByteArray→Int) (s:Sm) (ns:List ByteArray) (xs:List Int) (hg:∀ t,0≤fi t ns 0→fi t ns 0<xs.length→xs[(fi t ns 0).toNat]! = g t) (h:evOk s ns xs=true):evV s ns xs=vlS g s:=by
 have h0:=h
 unfold evOk at h
 rw [Bool.and_eq_true,Bool.and_eq_true] at h
 obtain ⟨h1,_,h3⟩:=h
 obtain ⟨v,hv⟩:=Option.isSome_iff_exists.1 h3
 have:=ev_val g s ns xs hg (sumOk_t h1).2.1 _ (Nat.le_refl _) v hv
 rw [List.take_length] at this
 unfold evV vlS
 rw [if_pos h0,hv,← this];rfl
theorem itOk_take (xs:List Im) (j:Nat):∀ k,k<j→k<xs.length→itOk (xs.take j) k=itOk xs k:=fun k hk hl=>by
 have h:∀ i,i≤k→(xs.take j)[i]! = xs[i]! := fun i hi=>by
  rw [getElem!_pos (xs.take j) i (by rw [List.length_take];omega),getElem!_pos xs i (by omega),List.getElem_take]
 cases k with
 | zero=>rw [itOk,itOk,h 0 (Nat.le_refl _)]
 | succ k=>rw [itOk,itOk,h (k+1) (Nat.le_refl _),h k (by omega)]
theorem itAll_take (xs : List Im) (j : Nat) (hj : j ≤ xs.length) (h : itAll xs xs.length = true) : itAll (xs.take j) (xs.take j).length = true := by
  have key : ∀ k, k ≤ j → itAll (xs.take j) k = true := by
    intro k
    induction k with
    | zero => intro _; rfl
    | succ k ih =>
      intro hk
      rw [itAll, ih (by omega), itOk_take xs j k (by omega) (by omega), itAll_at xs _ h k (by omega)]; rfl
  rw [List.length_take, Nat.min_eq_left hj]
  exact key j (Nat.le_refl _)
theorem ok_take {s:Sm} (h:sumOk s=true) (j:Nat) (hj:j≤s.items.length):sumOk ⟨s.const,s.items.take j⟩=true:=by
 obtain ⟨h1,h2,h3⟩:=sumOk_t h
 unfold sumOk numB
 simp only
 rw [itAll_take s.items j hj h1,decide_eq_true h2.1,decide_eq_true h2.2,decide_eq_true (by rw [List.length_take];omega)];rfl
theorem ok_one {s:Sm} (h:sumOk s=true) (j:Nat) (hj:j<s.items.length):sumOk ⟨0,[s.items[j]!]⟩=true:=by
 obtain ⟨h1,h2,h3⟩:=sumOk_t h
 have:=itOk_base s.items j (itAll_at s.items _ h1 j hj)
 unfold sumOk
 simp only [List.length_cons,List.length_nil,Nat.zero_add,itAll,itOk,List.getElem!_cons_zero,this.1,this.2]
 decide
theorem mg_snoc:∀ (xs:List Im) (y:Im),(∀ x ∈ xs,nmL x<nmL y)→mgI xs [y]=xs++[y]
 | [],y,_=>by rw [mgI];rfl
 | x :: xs,y,h=>by rw [mg_cons,if_pos (h x (by simp)),mg_snoc xs y fun z hz=>h z (by simp [hz])];rfl
theorem ad_one {s:Sm} (h:sumOk s=true) (j:Nat) (hj:j<s.items.length):lnI sPlus ⟨s.const,s.items.take j⟩ ⟨0,[s.items[j]!]⟩=(⟨s.const,s.items.take (j+1)⟩,true):=by
 obtain ⟨h1,h2,h3⟩:=sumOk_t h
 have hA:adS ⟨s.const,s.items.take j⟩ ⟨0,[s.items[j]!]⟩=⟨s.const,s.items.take (j+1)⟩:=by
  unfold adS
  simp only
  rw [mg_snoc _ _ fun x hx => ?_,← take_snoc s.items j hj,show (s.const+0) % 10007=s.const by omega]
  obtain ⟨i,hi,rfl⟩:=List.mem_iff_getElem.mp hx
  have hi2:i<j:=by rw [List.length_take] at hi;omega
  have:=asc_far s.items _ h1 j hj i hi2
  rw [asc_nm] at this
  rw [List.getElem_take]
  rw [getElem!_pos s.items i (by omega)] at this
  exact of_decide_eq_true this
 unfold lnI
 rw [if_pos (show sPlus=⟨#[43]⟩ from rfl),adR,adB,hA,ok_take h j (by omega),ok_one h j hj,Bool.and_self,if_pos rfl,chkS,if_pos (ok_take h (j+1) (by omega)),ok_take h (j+1) (by omega)];rfl
theorem lin_op (s:ByteArray) (x y:Tm):linT lnI (tOp s [x,y])=if ((linT lnI x).2 && (linT lnI y).2)=true then lnI s (linT lnI x).1 (linT lnI y).1 else (zeroS,false):=by
 rw [linT_eq lnI (tOp s [x,y]) (show (0:Nat)<2 by decide)];rfl
theorem lin_it {s:Sm} (h:sumOk s=true) (j:Nat) (hj:j<s.items.length):linT lnI (itT s.items[j]!)=(⟨0,[s.items[j]!]⟩,true):=by
 obtain ⟨h1,h2,h3⟩:=sumOk_t h
 obtain ⟨q1,q2⟩:=itOk_base s.items j (itAll_at s.items _ h1 j hj)
 have q2:=cfB_t q2
 generalize s.items[j]! = x at *
 obtain ⟨nm,c⟩:=x
 simp only at q1 q2
 have hv:linT lnI (tVar nm)=(⟨0,[⟨nm,1⟩]⟩,true):=by rw [linT_leaf lnI (tVar nm) (show ¬ (1:Int)=4 by decide)];rfl
 have hi:linT lnI (tInt c)=(⟨c,[]⟩,true):=by rw [linT_leaf lnI (tInt c) (show ¬ (2:Int)=4 by decide)];rfl
 unfold itT
 by_cases h1:c=1
 ·subst h1;exact hv
 ·rw [if_neg h1,lin_op,hv,hi]
  simp only [Bool.and_self,if_true]
  have hok:sumOk ⟨0,[⟨nm,1⟩]⟩=true:=by
   unfold sumOk
   simp only [List.length_cons,List.length_nil,Nat.zero_add,itAll,itOk,List.getElem!_cons_zero,q1]
   decide
  unfold lnI
  rw [if_neg (by decide),if_neg (by decide),if_pos (show sStar=⟨#[42]⟩ from rfl),if_pos (show (⟨c,[]⟩:Sm).items.length=0 from rfl),hok,scR,if_pos hok]
  unfold scS
  simp only [List.length_cons,List.length_nil,Nat.zero_add,scItems,List.getElem!_cons_zero,List.nil_append]
  have e1:(1 * (c % 10007)) % 10007=c:=by omega
  rw [e1,if_neg (by omega),Int.zero_mul];rfl
theorem lin_fo {s : Sm} (h : sumOk s = true) (p : Nat) (hp : p = (preT s).length) : ∀ k, k < (parL s).length → linT lnI (foT (parL s) k) = (⟨s.const, s.items.take (k + 1 - p)⟩, true)
  | 0, hk => by
    unfold foT parL
    by_cases hc : s.const ≠ 0 ∨ s.items = []
    · have hpre : preT s = [tInt s.const] := by unfold preT; rw [if_pos hc]
      rw [hpre] at hp ⊢
      simp only [List.length_cons, List.length_nil, Nat.zero_add] at hp
      subst hp
      have hi : linT lnI (tInt s.const) = (⟨s.const, []⟩, true) := by rw [linT_leaf lnI (tInt s.const) (show ¬ (2 : Int) = 4 by decide)]; rfl
      simp only [List.cons_append, List.nil_append, List.getElem!_cons_zero, Nat.sub_self, List.take_zero, hi]
    · have hpre : preT s = [] := by unfold preT; rw [if_neg hc]
      rw [hpre] at hp ⊢
      simp only [List.length_nil] at hp
      subst hp
      have h0 : s.const = 0 := by
        by_cases h0 : s.const = 0
        · exact h0
        · exact absurd (.inl h0) hc
      have hne : s.items ≠ [] := fun e => hc (.inr e)
      have hpos := List.length_pos_iff.2 hne
      have := lin_it h 0 hpos
      rw [List.nil_append, getElem!_pos (s.items.map itT) 0 (by rw [List.length_map]; exact hpos), List.getElem_map, ← getElem!_pos s.items 0 hpos, this, h0]
      simp only [Nat.zero_add, Nat.sub_zero, take_snoc s.items 0 hpos, List.take_zero, List.nil_append]
  | k + 1, hk => by
    have ih := lin_fo h p hp k (by omega)
    have hlen : (parL s).length = p + s.items.length := by unfold parL; rw [List.length_append, List.length_map, hp]
    have hple : p ≤ 1 := by rw [hp]; unfold preT; split <;> simp
    have e : (parL s)[k + 1]! = itT s.items[k + 1 - p]! := by
      unfold parL
      rw [getElem!_pos (preT s ++ s.items.map itT) (k + 1) (by rw [List.length_append, List.length_map]; omega), List.getElem_append_right (by omega), List.getElem_map, getElem!_pos s.items (k + 1 - p) (by omega)]
      simp only [← hp]
    have hi := lin_it h (k + 1 - p) (by omega)
    unfold foT
    rw [lin_op, ih, e, hi]
    simp only [Bool.and_self, if_true]
    rw [ad_one h (k + 1 - p) (by omega), show k + 1 + 1 - p = k + 1 - p + 1 by omega]
theorem lin_sum {s:Sm} (h:sumOk s=true):linT lnI (sumT s)=(s,true):=by
 unfold sumT
 rw [if_pos h]
 have hlen:(parL s).length=(preT s).length+s.items.length:=by unfold parL;rw [List.length_append,List.length_map]
 have h1:=parL_len s (sumOk_t h).2.2
 rw [lin_fo h _ rfl _ (by omega),show (parL s).length-1+1-(preT s).length=s.items.length by omega,List.take_length]
theorem fm_tInt {n:Int} (h:0≤n∧n≤10006):allTm isFm (tInt n)=true:=by
 rw [allTm_eq,fm_eq]
 have:rgB 0 (mostI 2) n=true:=by unfold rgB;rw [decide_eq_true h.1,decide_eq_true (show n≤mostI 2 from h.2)];rfl
 unfold fldB
 simp only [tInt,Tm.kind,Tm.n,Tm.ty,Tm.res,Tm.name,Tm.other,Tm.args,this]
 rfl
theorem fm_tVar {s:ByteArray} (h:nmB s=true):allTm isFm (tVar s)=true:=by
 rw [allTm_eq,fm_eq]
 have:nmF 1 s e0=true:=by unfold nmF;rw [if_neg (by decide),if_pos rfl,h];rfl
 unfold fldB
 simp only [tVar,Tm.kind,Tm.n,Tm.ty,Tm.res,Tm.name,Tm.other,Tm.args,this]
 rfl
theorem fm_tOp {s:ByteArray} {x y:Tm} (hs:opAr s=2) (hx:allTm isFm x=true) (hy:allTm isFm y=true):allTm isFm (tOp s [x,y])=true:=by
 have h1:isFm (tOp s [x,y])=true:=by
  rw [fm_eq]
  have:nmF 4 s e0=true:=by unfold nmF;rw [if_pos rfl,hs];rfl
  have h2:arF (-1) 4 s=2:=hs
  unfold fldB
  simp only [tOp,Tm.kind,Tm.n,Tm.ty,Tm.res,Tm.name,Tm.other,Tm.args,this,h2]
  rfl
 rw [allTm_eq,h1]
 show (true && allTms isFm [x,y])=true
 rw [allTms,allTms,allTms,hx,hy];rfl
theorem fm_it {s:Sm} (h:sumOk s=true) (j:Nat) (hj:j<s.items.length):allTm isFm (itT s.items[j]!)=true:=by
 obtain ⟨h1,h2,h3⟩:=sumOk_t h
 obtain ⟨q1,q2⟩:=itOk_base s.items j (itAll_at s.items _ h1 j hj)
 have q2:=cfB_t q2
 unfold itT
 split
 ·exact fm_tVar q1
 ·exact fm_tOp (by decide) (fm_tInt ⟨by omega,q2.2⟩) (fm_tVar q1)
theorem fm_par {s:Sm} (h:sumOk s=true):∀ x ∈ parL s,allTm isFm x=true:=by
 intro x hx
 unfold parL at hx
 rcases List.mem_append.1 hx with hx | hx
 ·unfold preT at hx
  split at hx
  ·rw [List.mem_singleton.1 hx];exact fm_tInt (sumOk_t h).2.1
  ·cases hx
 ·obtain ⟨y,hy,rfl⟩:=List.mem_map.1 hx
  obtain ⟨j,hj,rfl⟩:=List.mem_iff_getElem.mp hy
  have:=fm_it h j hj
  rwa [getElem!_pos s.items j hj] at this
theorem fm_fo {s : Sm} (h : sumOk s = true) : ∀ k, k < (parL s).length → allTm isFm (foT (parL s) k) = true
  | 0, hk => by unfold foT; exact fm_par h _ (mem_bang hk)
  | k + 1, hk => by
    unfold foT
    exact fm_tOp (by decide) (fm_fo h k (by omega)) (fm_par h _ (mem_bang hk))
theorem su_found (s : Sm) : (linR (sumT s)).2 = sumOk s ∧ (sumOk s = true → (linR (sumT s)).1 = s) := by
  cases h : sumOk s with
  | false =>
    refine ⟨?_, fun h => by cases h⟩
    unfold sumT linR
    rw [h]
    rw [if_neg (show ¬ (false = true) by decide), if_neg (show ¬ allTm isFm t0 = true by decide)]
  | true =>
    have h1 := parL_len s (sumOk_t h).2.2
    have hf : allTm isFm (sumT s) = true := by
      unfold sumT
      rw [if_pos h]
      exact fm_fo h _ (by omega)
    unfold linR
    rw [if_pos hf, lin_sum h]
    exact ⟨rfl, fun _ => rfl⟩
def env3:List Im:=[⟨⟨#[110]⟩,2⟩,⟨⟨#[120]⟩,3⟩,⟨⟨#[121]⟩,10006⟩]
theorem lk3 (s:ByteArray) (d:Int):lkE env3 s d=if (⟨#[121]⟩:ByteArray)=s then 10006 else if (⟨#[120]⟩:ByteArray)=s then 3 else if (⟨#[110]⟩:ByteArray)=s then 2 else d:=rfl
theorem su_value (f:Tm) (hl:(linR f).2=true) (h3:evOk (linR f).1 [⟨#[110]⟩,⟨#[120]⟩,⟨#[121]⟩] [2,3,10006]=true):evV (linR f).1 [⟨#[110]⟩,⟨#[120]⟩,⟨#[121]⟩] [2,3,10006]=evT f env3:=by
 unfold linR at hl h3 ⊢
 by_cases hf:allTm isFm f=true
 case neg=>rw [if_neg hf] at hl;cases hl
 rw [if_pos hf] at hl h3 ⊢
 have hg:∀ s,0≤lkE env3 s 0∧lkE env3 s 0≤10006:=fun s=>by
  rw [lk3]
  repeat' split
  all_goals omega
 rw [lin_val _ hg _ (fun _=>rfl) f hf hl,ev_vl (fun s=>lkE env3 s 0) _ _ _ (fun t h1 h2 => ?_) h3]
 simp only [fi,lk3] at h1 h2 ⊢
 by_cases a1:t=⟨#[110]⟩
 ·subst a1;decide
 by_cases a2:t=⟨#[120]⟩
 ·subst a2;decide
 by_cases a3:t=⟨#[121]⟩
 ·subst a3;decide
 ·rw [if_neg a1,if_neg a2,if_neg a3] at h1;omega
end Go.Proofs.YtaidalilfmjfgaaGreat
