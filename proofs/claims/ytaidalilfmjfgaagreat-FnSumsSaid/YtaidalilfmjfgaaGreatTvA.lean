import Derived.Test.YtaidalilfmjfgaaGreatBy
import Derived.Test.YtaidalilfmjfgaaGreatTmB
namespace Go.Proofs.YtaidalilfmjfgaaGreat
open Go.RowKit
set_option linter.unusedVariables false
set_option linter.unusedSimpArgs false
set_option maxRecDepth 20000
mutual
def nT:Tm→Nat
 | .mk _ _ _ _ _ _ xs=>1+nTs xs
def nTs:List Tm→Nat
 | []=>0
 | x :: xs=>nT x+nTs xs
end
mutual
def dT:Tm→Nat
 | .mk _ _ _ _ _ _ xs=>dTs xs+1
def dTs:List Tm→Nat
 | []=>0
 | x :: xs=>max (dT x) (dTs xs)
end
theorem dT_eq (t:Tm):dT t=dTs t.args+1:=by obtain ⟨k,s,o,n,ty,r,xs⟩:=t;rw [dT];rfl
theorem nTs_app:∀ (a b:List Tm),nTs (a++b)=nTs a+nTs b
 | [],b=>by rw [List.nil_append,nTs];omega
 | x :: a,b=>by rw [List.cons_append,nTs,nTs,nTs_app a b];omega
theorem dTs_app:∀ (a b:List Tm),dTs (a++b)=max (dTs a) (dTs b)
 | [],b=>by rw [List.nil_append,dTs];omega
 | x :: a,b=>by rw [List.cons_append,dTs,dTs,dTs_app a b];omega
theorem dTs_snoc (xs:List Tm) (k:Nat) (h:k<xs.length):dTs (xs.take (k+1))=max (dTs (xs.take k)) (dT xs[k]!):=by
 rw [take_snoc xs k h,dTs_app,dTs,dTs];omega
mutual
theorem nT_le : ∀ t : Tm, nT t ≤ szL (tmC t) + 1
  | .mk k s o n ty r xs => by
    have h := nTs_le xs
    rw [szL_tm, nT]
    show _ ≤ s.size + o.size + szL (tyC ty) + szL (tyC r) + (xs.length + szL (tmsC xs)) + 1
    omega
theorem nTs_le : ∀ xs : List Tm, nTs xs ≤ szL (tmsC xs) + xs.length
  | [] => by rw [nTs]; omega
  | x :: xs => by
    have h1 := nT_le x
    have h2 := nTs_le xs
    rw [nTs, tmsC, szL_append, List.length_cons]; omega
end
mutual
theorem dT_le:∀ t:Tm,dT t≤nT t
 | .mk k s o n ty r xs=>by have h:=dTs_le xs;rw [dT,nT];omega
theorem dTs_le : ∀ xs : List Tm, dTs xs ≤ nTs xs
  | [] => by rw [dTs]; omega
  | x :: xs => by
    have h1 := dT_le x
    have h2 := dTs_le xs
    rw [dTs, nTs]; omega
end
theorem nTs_take (xs:List Tm) (k:Nat):nTs (xs.take k)≤nTs xs:=by
 have e:nTs xs=nTs (xs.take k)+nTs (xs.drop k):=by rw [← nTs_app,List.take_append_drop]
 omega
theorem dTs_take (xs:List Tm) (k:Nat):dTs (xs.take k)≤dTs xs:=by
 have e:dTs xs=max (dTs (xs.take k)) (dTs (xs.drop k)):=by rw [← dTs_app,List.take_append_drop]
 omega
mutual
def lfM:Tm→Int→Int
 | .mk _ _ _ _ _ _ xs,l=>lfMs xs (l-1)
def lfMs:List Tm→Int→Int
 | [],l=>l
 | x :: xs,l=>if l<0 then l else lfMs xs (lfM x l)
end
theorem lfM_eq (t:Tm) (l:Int):lfM t l=lfMs t.args (l-1):=by obtain ⟨k,s,o,n,ty,r,xs⟩:=t;rw [lfM];rfl
mutual
theorem lfM_ok : ∀ (t : Tm) (l : Int), (l < nT t → lfM t l < 0) ∧ (nT t ≤ l → lfM t l = l - nT t)
  | .mk k s o n ty r xs, l => by
    have h := lfMs_ok xs (l - 1)
    rw [lfM, nT]
    refine ⟨fun h1 => h.1 (by omega), fun h1 => ?_⟩
    rw [h.2 (by omega) (by omega)]; omega
theorem lfMs_ok : ∀ (xs : List Tm) (l : Int), (l < nTs xs → lfMs xs l < 0) ∧ (0 ≤ l → nTs xs ≤ l → lfMs xs l = l - nTs xs)
  | [], l => by rw [lfMs, nTs]; exact ⟨fun h => by omega, fun _ _ => by omega⟩
  | x :: xs, l => by
    have h1 := lfM_ok x l
    have h2 := lfMs_ok xs (lfM x l)
    rw [lfMs, nTs]
    by_cases h0 : l < 0
    · rw [if_pos h0]; exact ⟨fun _ => h0, fun h _ => by omega⟩
    · rw [if_neg h0]
      by_cases h3 : (nT x : Int) ≤ l
      · have h4 := h1.2 h3
        exact ⟨fun h => h2.1 (by omega), fun _ h => by rw [h2.2 (by omega) (by omega)]; omega⟩
      · have h4 := h1.1 (by omega)
        have h5 : lfMs xs (lfM x l) < 0 := by
          cases xs with
          | nil => rw [lfMs]; exact h4
          | cons y ys => rw [lfMs, if_pos h4]; exact h4
        exact ⟨fun _ => h5, fun _ h => by omega⟩
end
mutual
theorem lfM_rng : ∀ (t : Tm) (l : Int), 0 ≤ l → -1 ≤ lfM t l ∧ lfM t l ≤ l
  | .mk k s o n ty r xs, l, h => by
    have h1 := lfMs_rng xs (l - 1) (by omega)
    rw [lfM]; omega
theorem lfMs_rng : ∀ (xs : List Tm) (l : Int), -1 ≤ l → -1 ≤ lfMs xs l ∧ lfMs xs l ≤ l
  | [], l, h => by rw [lfMs]; omega
  | x :: xs, l, h => by
    rw [lfMs]
    split
    · omega
    · have h1 := lfM_rng x l (by omega)
      have h2 := lfMs_rng xs (lfM x l) (by omega)
      omega
end
theorem lfMs_neg (xs:List Tm) (l:Int) (h:l<0):lfMs xs l=l:=by
 cases xs with
 | nil=>rw [lfMs]
 | cons x xs=>rw [lfMs,if_pos h]
theorem lfMs_step (xs:List Tm) (k:Nat) (l:Int) (h:k<xs.length) (h0:0≤l):lfMs (xs.drop k) l=lfMs (xs.drop (k+1)) (lfM xs[k]! l):=by
 rw [List.drop_eq_getElem_cons h,lfMs,if_neg (by omega),getElem!_pos xs k h]
def vTm (e:Tm):Bool:=allTm isFm e && (decide ((nT e:Int)≤80) && decide ((dT e:Int)≤20))
theorem con_DepthS:∀ t:Tm,szL (tmC t)≤1000000000→Con Tryz.prog 250 [.ag (tmC t)] [.one (.int (dT t))]:=by
 refine Tm.ind fun t ih hz => ?_
 have hze:=szL_tm t
 have hs0:=nTs_le t.args
 have hd:=dTs_le t.args
 rw [dT_eq]
 refine con_run Tryz.func250 rfl rfl (by simp [Tryz.ntmps250]) ?_
 refine byP (fc Tryz.ntmps250 Tryz.results250) ?_
 refine sw_loop (fun k:Nat=>k≤t.args.length) (fun k=>⟨22,[(4,.i k),(3,.i (dTs (t.args.take k))),(1,.bx 0 0)],[(0,[.i t.kind,.s t.name,.s t.other,.i t.n,.i t.ty.kind,.br (.rows 2 t.ty.args.length (tysC t.ty.args)),.i t.res.kind,.br (.rows 2 t.res.args.length (tysC t.res.args)),.br (.rows 9 t.args.length (tmsC t.args))])],[],1,[]⟩) (fun k=>t.args.length-k) 0 id (Nat.zero_le _) ?_ ?_
 ·exact byP (fc Int.natCast_zero (show dTs []=0 from by rw [dTs])) True.intro
 ·rintro k hk
  by_cases hlt:k<t.args.length
  ·have hi:(k:Int)<(t.args.length:Int):=by omega
   have hR:=tmsC_row' t.args k hlt
   have hs:=szL_tms' t.args k hlt
   have hrec:=ih _ (mem_bang hlt) (by omega)
   have hst:=dTs_snoc t.args k hlt
   have hle:=nTs_take t.args (k+1)
   have hl1:=nTs_take t.args k
   have hle2:=dTs_take t.args (k+1)
   rw [tmC_eq] at hrec
   have hM:=con_l1Max (dTs (t.args.take k)) (dT t.args[k]!)
   refine sw_run 200 _ _ _ (byP (fc hi hR) ?_)
   refine sw_call (hrec) rfl (aAs_ok (byQ True.intro)) (byQ True.intro) ?_
   refine sw_run 200 _ _ _ (byQ ?_)
   refine sw_call (hM) rfl (aAs_ok (byQ True.intro)) (byQ True.intro) ?_
   refine sw_run 200 _ _ _ (byP hst.symm ?_)
   exact ⟨by unfold inI;omega,k+1,id,by omega,by omega,byQ True.intro⟩
  ·have hi:¬ (k:Int)<(t.args.length:Int):=by omega
   obtain rfl:k=t.args.length:=by omega
   rw [List.take_length]
   refine sw_run 200 _ _ _ (byP hi ?_)
   refine sw_run 200 _ _ _ ?_
   refine byP (fc Tryz.ntmps250 Tryz.results250) ?_
   unfold inI;omega
theorem con_l5Left:∀ t:Tm,szL (tmC t)≤1000000000→∀ l:Int,0≤l→l≤1000000→Con Tryz.prog 249 [.ag (tmC t),.one (.int l)] [.one (.int (lfM t l))]:=by
 refine Tm.ind fun t ih hz l h0 h1 => ?_
 have hze:=szL_tm t
 rw [lfM_eq]
 have hj:inI (l-1):=by unfold inI;omega
 refine con_run Tryz.func249 rfl rfl (by simp [Tryz.ntmps249]) ?_
 refine byP (fc hj (fc Tryz.ntmps249 Tryz.results249)) ?_
 refine sw_loop (fun i:Nat × Int=>i.1≤t.args.length∧lfMs (t.args.drop i.1) i.2=lfMs t.args (l-1) ∧ -1≤i.2∧i.2≤1000000) (fun i=>⟨27,[(5,.i i.1),(1,.i i.2),(2,.bx 0 0)],[(0,[.i t.kind,.s t.name,.s t.other,.i t.n,.i t.ty.kind,.br (.rows 2 t.ty.args.length (tysC t.ty.args)),.i t.res.kind,.br (.rows 2 t.res.args.length (tysC t.res.args)),.br (.rows 9 t.args.length (tmsC t.args))])],[],1,[]⟩) (fun i=>t.args.length-i.1) (0,l-1) id ⟨Nat.zero_le _,rfl,by omega,by omega⟩ ?_ ?_
 ·exact byP Int.natCast_zero True.intro
 ·rintro ⟨k,c⟩ ⟨hk,hc,hc0,hc1⟩
  simp only at hk hc hc0 hc1 ⊢
  by_cases hlt:k<t.args.length
  ·have hi:(k:Int)<(t.args.length:Int):=by omega
   by_cases hn:0≤c
   ·have hR:=tmsC_row' t.args k hlt
    have hs:=szL_tms' t.args k hlt
    have hrec:=ih _ (mem_bang hlt) (by omega) c hn hc1
    have hst:=lfMs_step t.args k c hlt hn
    have hrg:=lfM_rng t.args[k]! c hn
    rw [hst] at hc
    rw [tmC_eq] at hrec
    refine sw_run 200 _ _ _ (byP (fc hi (fc hn hR)) ?_)
    refine sw_call (hrec) rfl (aAs_ok (byQ True.intro)) (byQ True.intro) ?_
    refine sw_run 200 _ _ _ (byQ ?_)
    exact ⟨by unfold inI;omega,(k+1,lfM t.args[k]! c),id,⟨hlt,hc,hrg.1,by simp only;omega⟩,by simp only;omega,byQ True.intro⟩
   ·rw [lfMs_neg _ c (by omega)] at hc
    rw [← hc]
    refine sw_run 200 _ _ _ (byP (fc hi hn) ?_)
    refine sw_run 200 _ _ _ ?_
    exact byP (fc Tryz.ntmps249 Tryz.results249) True.intro
  ·have hi:¬ (k:Int)<(t.args.length:Int):=by omega
   rw [List.drop_of_length_le (by omega),lfMs] at hc
   rw [← hc]
   refine sw_run 200 _ _ _ (byP hi ?_)
   refine sw_run 200 _ _ _ ?_
   exact byP (fc Tryz.ntmps249 Tryz.results249) True.intro
theorem con_ValidS (t:Tm) (hz:szL (tmC t)≤1000000000):Con Tryz.prog 195 [.ag (tmC t)] [.one (.bool (vTm t))]:=by
 have h1:=con_IsTermS t hz
 have h2:=con_l5Left t hz 80 (by omega) (by omega)
 have h3:=con_DepthS t hz
 have hlf:=lfM_ok t 80
 have hV:vTm t=(decide (0≤lfM t 80) && (decide ((dT t:Int)≤20) && allTm isFm t)):=by
  have e:decide ((nT t:Int)≤80)=decide (0≤lfM t 80):=by
   by_cases h:(nT t:Int)≤80
   ·rw [decide_eq_true h,decide_eq_true (by have:=hlf.2 h;omega)]
   ·rw [decide_eq_false h,decide_eq_false (by have:=hlf.1 (by omega);omega)]
  unfold vTm
  rw [e]
  cases decide (0≤lfM t 80) <;> cases decide ((dT t:Int)≤20) <;> cases allTm isFm t <;> rfl
 rw [hV]
 rw [tmC_eq] at h1 h2 h3
 generalize allTm isFm t=c at *
 generalize lfM t 80=l at *
 by_cases h4:0≤l
 case neg =>
  rw [decide_eq_false h4]
  refine con_run Tryz.func195 rfl rfl (by simp [Tryz.ntmps195]) ?_
  refine byP (fc Tryz.ntmps195 Tryz.results195) ?_
  refine sw_call (h2) rfl (aAs_ok (byQ True.intro)) (byQ True.intro) ?_
  refine sw_run 200 _ _ _ (byP (fc h4 (fc Tryz.ntmps195 Tryz.results195)) ?_)
  exact True.intro
 rw [decide_eq_true h4,Bool.true_and]
 by_cases h5:(dT t:Int)≤20
 case neg =>
  rw [decide_eq_false h5]
  refine con_run Tryz.func195 rfl rfl (by simp [Tryz.ntmps195]) ?_
  refine byP (fc Tryz.ntmps195 Tryz.results195) ?_
  refine sw_call (h2) rfl (aAs_ok (byQ True.intro)) (byQ True.intro) ?_
  refine sw_run 200 _ _ _ (byP h4 ?_)
  refine sw_call (h3) rfl (aAs_ok (byQ True.intro)) (byQ True.intro) ?_
  refine sw_run 200 _ _ _ (byP (fc h5 (fc Tryz.ntmps195 Tryz.results195)) ?_)
  exact True.intro
 rw [decide_eq_true h5,Bool.true_and]
 refine con_run Tryz.func195 rfl rfl (by simp [Tryz.ntmps195]) ?_
 refine byP (fc Tryz.ntmps195 Tryz.results195) ?_
 refine sw_call (h2) rfl (aAs_ok (byQ True.intro)) (byQ True.intro) ?_
 refine sw_run 200 _ _ _ (byP h4 ?_)
 refine sw_call (h3) rfl (aAs_ok (byQ True.intro)) (byQ True.intro) ?_
 refine sw_run 200 _ _ _ (byP h5 ?_)
 refine sw_call (h1) rfl (aAs_ok (byQ True.intro)) (byQ True.intro) ?_
 refine sw_run 200 _ _ _ (byP (fc Tryz.ntmps195 Tryz.results195) ?_)
 exact True.intro
end Go.Proofs.YtaidalilfmjfgaaGreat
