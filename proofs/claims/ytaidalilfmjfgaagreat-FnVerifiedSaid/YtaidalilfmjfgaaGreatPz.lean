import Derived.Test.YtaidalilfmjfgaaGreatBy
import Derived.Test.YtaidalilfmjfgaaGreatTmB
import Derived.Test.YtaidalilfmjfgaaGreatPv
namespace Go.Proofs.YtaidalilfmjfgaaGreat
open Go.RowKit
set_option linter.unusedVariables false
set_option linter.unusedSimpArgs false
set_option maxRecDepth 20000
mutual
def nT:Tm→Nat
 | .mk _ _ _ _ _ _ xs=>1+nTs xs
def nTs:List Tm→Nat
 | []=>0
 | x :: xs=>nT x+nTs xs
end
mutual
def dT:Tm→Nat
 | .mk _ _ _ _ _ _ xs=>dTs xs+1
def dTs:List Tm→Nat
 | []=>0
 | x :: xs=>max (dT x) (dTs xs)
end
theorem dT_eq (t:Tm):dT t=dTs t.args+1:=by obtain ⟨k,s,o,n,ty,r,xs⟩:=t;rw [dT];rfl
theorem nTs_app:∀ (a b:List Tm),nTs (a++b)=nTs a+nTs b
 | [],b=>by rw [List.nil_append,nTs];omega
 | x :: a,b=>by rw [List.cons_append,nTs,nTs,nTs_app a b];omega
theorem dTs_app:∀ (a b:List Tm),dTs (a++b)=max (dTs a) (dTs b)
 | [],b=>by rw [List.nil_append,dTs];omega
 | x :: a,b=>by rw [List.cons_append,dTs,dTs,dTs_app a b];omega
theorem dTs_snoc (xs:List Tm) (k:Nat) (h:k<xs.length):dTs (xs.take (k+1))=max (dTs (xs.take k)) (dT xs[k]!):=by
 rw [take_snoc xs k h,dTs_app,dTs,dTs];omega
mutual
theorem nT_le : ∀ t : Tm, nT t ≤ szL (tmC t) + 1
  | .mk k s o n ty r xs => by
    have h := nTs_le xs
    rw [szL_tm, nT]
    show _ ≤ s.size + o.size + szL (tyC ty) + szL (tyC r) + (xs.length + szL (tmsC xs)) + 1
    omega
theorem nTs_le : ∀ xs : List Tm, nTs xs ≤ szL (tmsC xs) + xs.length
  | [] => by rw [nTs]; omega
  | x :: xs => by
    have h1 := nT_le x
    have h2 := nTs_le xs
    rw [nTs, tmsC, szL_append, List.length_cons]; omega
end
mutual
theorem dT_le:∀ t:Tm,dT t≤nT t
 | .mk k s o n ty r xs=>by have h:=dTs_le xs;rw [dT,nT];omega
theorem dTs_le : ∀ xs : List Tm, dTs xs ≤ nTs xs
  | [] => by rw [dTs]; omega
  | x :: xs => by
    have h1 := dT_le x
    have h2 := dTs_le xs
    rw [dTs, nTs]; omega
end
theorem nTs_take (xs:List Tm) (k:Nat):nTs (xs.take k)≤nTs xs:=by
 have e:nTs xs=nTs (xs.take k)+nTs (xs.drop k):=by rw [← nTs_app,List.take_append_drop]
 omega
theorem dTs_take (xs:List Tm) (k:Nat):dTs (xs.take k)≤dTs xs:=by
 have e:dTs xs=max (dTs (xs.take k)) (dTs (xs.drop k)):=by rw [← dTs_app,List.take_append_drop]
 omega
mutual
def lfM:Tm→Int→Int
 | .mk _ _ _ _ _ _ xs,l=>lfMs xs (l-1)
def lfMs:List Tm→Int→Int
 | [],l=>l
 | x :: xs,l=>if l<0 then l else lfMs xs (lfM x l)
end
theorem lfM_eq (t:Tm) (l:Int):lfM t l=lfMs t.args (l-1):=by obtain ⟨k,s,o,n,ty,r,xs⟩:=t;rw [lfM];rfl
mutual
theorem lfM_ok : ∀ (t : Tm) (l : Int), (l < nT t → lfM t l < 0) ∧ (nT t ≤ l → lfM t l = l - nT t)
  | .mk k s o n ty r xs, l => by
    have h := lfMs_ok xs (l - 1)
    rw [lfM, nT]
    refine ⟨fun h1 => h.1 (by omega), fun h1 => ?_⟩
    rw [h.2 (by omega) (by omega)]; omega
theorem lfMs_ok : ∀ (xs : List Tm) (l : Int), (l < nTs xs → lfMs xs l < 0) ∧ (0 ≤ l → nTs xs ≤ l → lfMs xs l = l - nTs xs)
  | [], l => by rw [lfMs, nTs]; exact ⟨fun h => by omega, fun _ _ => by omega⟩
  | x :: xs, l => by
    have h1 := lfM_ok x l
    have h2 := lfMs_ok xs (lfM x l)
    rw [lfMs, nTs]
    by_cases h0 : l < 0
    · rw [if_pos h0]; exact ⟨fun _ => h0, fun h _ => by omega⟩
    · rw [if_neg h0]
      by_cases h3 : (nT x : Int) ≤ l
      · have h4 := h1.2 h3
        exact ⟨fun h => h2.1 (by omega), fun _ h => by rw [h2.2 (by omega) (by omega)]; omega⟩
      · have h4 := h1.1 (by omega)
        have h5 : lfMs xs (lfM x l) < 0 := by
          cases xs with
          | nil => rw [lfMs]; exact h4
          | cons y ys => rw [lfMs, if_pos h4]; exact h4
        exact ⟨fun _ => h5, fun _ h => by omega⟩
end
mutual
theorem lfM_rng : ∀ (t : Tm) (l : Int), 0 ≤ l → -1 ≤ lfM t l ∧ lfM t l ≤ l
  | .mk k s o n ty r xs, l, h => by
    have h1 := lfMs_rng xs (l - 1) (by omega)
    rw [lfM]; omega
theorem lfMs_rng : ∀ (xs : List Tm) (l : Int), -1 ≤ l → -1 ≤ lfMs xs l ∧ lfMs xs l ≤ l
  | [], l, h => by rw [lfMs]; omega
  | x :: xs, l, h => by
    rw [lfMs]
    split
    · omega
    · have h1 := lfM_rng x l (by omega)
      have h2 := lfMs_rng xs (lfM x l) (by omega)
      omega
end
theorem lfMs_neg (xs:List Tm) (l:Int) (h:l<0):lfMs xs l=l:=by
 cases xs with
 | nil=>rw [lfMs]
 | cons x xs=>rw [lfMs,if_pos h]
theorem lfMs_step (xs:List Tm) (k:Nat) (l:Int) (h:k<xs.length) (h0:0≤l):lfMs (xs.drop k) l=lfMs (xs.drop (k+1)) (lfM xs[k]! l):=by
 rw [List.drop_eq_getElem_cons h,lfMs,if_neg (by omega),getElem!_pos xs k h]
def vTm (e:Tm):Bool:=allTm isFm e && (decide ((nT e:Int)≤80) && decide ((dT e:Int)≤20))
theorem con_DepthS:∀ t:Tm,szL (tmC t)≤1000000000→Con Tryz.prog 250 [.ag (tmC t)] [.one (.int (dT t))]:=by
 refine Tm.ind fun t ih hz => ?_
 have hze:=szL_tm t
 have hs0:=nTs_le t.args
 have hd:=dTs_le t.args
 rw [dT_eq]
 refine con_run Tryz.func250 rfl rfl (by simp [Tryz.ntmps250]) ?_
 refine byP (fc Tryz.ntmps250 Tryz.results250) ?_
 refine sw_loop (fun k:Nat=>k≤t.args.length) (fun k=>⟨22,[(4,.i k),(3,.i (dTs (t.args.take k))),(1,.bx 0 0)],[(0,[.i t.kind,.s t.name,.s t.other,.i t.n,.i t.ty.kind,.br (.rows 2 t.ty.args.length (tysC t.ty.args)),.i t.res.kind,.br (.rows 2 t.res.args.length (tysC t.res.args)),.br (.rows 9 t.args.length (tmsC t.args))])],[],1,[]⟩) (fun k=>t.args.length-k) 0 id (Nat.zero_le _) ?_ ?_
 ·exact byP (fc Int.natCast_zero (show dTs []=0 from by rw [dTs])) True.intro
 ·rintro k hk
  by_cases hlt:k<t.args.length
  ·have hi:(k:Int)<(t.args.length:Int):=by omega
   have hR:=tmsC_row' t.args k hlt
   have hs:=szL_tms' t.args k hlt
   have hrec:=ih _ (mem_bang hlt) (by omega)
   have hst:=dTs_snoc t.args k hlt
   have hle:=nTs_take t.args (k+1)
   have hl1:=nTs_take t.args k
   have hle2:=dTs_take t.args (k+1)
   rw [tmC_eq] at hrec
   have hM:=con_l1Max (dTs (t.args.take k)) (dT t.args[k]!)
   refine sw_run 200 _ _ _ (byP (fc hi hR) ?_)
   refine sw_call (hrec) rfl (aAs_ok (byQ True.intro)) (byQ True.intro) ?_
   refine sw_run 200 _ _ _ (byQ ?_)
   refine sw_call (hM) rfl (aAs_ok (byQ True.intro)) (byQ True.intro) ?_
   refine sw_run 200 _ _ _ (byP hst.symm ?_)
   exact ⟨by unfold inI;omega,k+1,id,by omega,by omega,byQ True.intro⟩
  ·have hi:¬ (k:Int)<(t.args.length:Int):=by omega
   obtain rfl:k=t.args.length:=by omega
   rw [List.take_length]
   refine sw_run 200 _ _ _ (byP hi ?_)
   refine sw_run 200 _ _ _ ?_
   refine byP (fc Tryz.ntmps250 Tryz.results250) ?_
   unfold inI;omega
theorem con_l5Left:∀ t:Tm,szL (tmC t)≤1000000000→∀ l:Int,0≤l→l≤1000000→Con Tryz.prog 249 [.ag (tmC t),.one (.int l)] [.one (.int (lfM t l))]:=by
 refine Tm.ind fun t ih hz l h0 h1 => ?_
 have hze:=szL_tm t
 rw [lfM_eq]
 have hj:inI (l-1):=by unfold inI;omega
 refine con_run Tryz.func249 rfl rfl (by simp [Tryz.ntmps249]) ?_
 refine byP (fc hj (fc Tryz.ntmps249 Tryz.results249)) ?_
 refine sw_loop (fun i:Nat × Int=>i.1≤t.args.length∧lfMs (t.args.drop i.1) i.2=lfMs t.args (l-1) ∧ -1≤i.2∧i.2≤1000000) (fun i=>⟨27,[(5,.i i.1),(1,.i i.2),(2,.bx 0 0)],[(0,[.i t.kind,.s t.name,.s t.other,.i t.n,.i t.ty.kind,.br (.rows 2 t.ty.args.length (tysC t.ty.args)),.i t.res.kind,.br (.rows 2 t.res.args.length (tysC t.res.args)),.br (.rows 9 t.args.length (tmsC t.args))])],[],1,[]⟩) (fun i=>t.args.length-i.1) (0,l-1) id ⟨Nat.zero_le _,rfl,by omega,by omega⟩ ?_ ?_
 ·exact byP Int.natCast_zero True.intro
 ·rintro ⟨k,c⟩ ⟨hk,hc,hc0,hc1⟩
  simp only at hk hc hc0 hc1 ⊢
  by_cases hlt:k<t.args.length
  ·have hi:(k:Int)<(t.args.length:Int):=by omega
   by_cases hn:0≤c
   ·have hR:=tmsC_row' t.args k hlt
    have hs:=szL_tms' t.args k hlt
    have hrec:=ih _ (mem_bang hlt) (by omega) c hn hc1
    have hst:=lfMs_step t.args k c hlt hn
    have hrg:=lfM_rng t.args[k]! c hn
    rw [hst] at hc
    rw [tmC_eq] at hrec
    refine sw_run 200 _ _ _ (byP (fc hi (fc hn hR)) ?_)
    refine sw_call (hrec) rfl (aAs_ok (byQ True.intro)) (byQ True.intro) ?_
    refine sw_run 200 _ _ _ (byQ ?_)
    exact ⟨by unfold inI;omega,(k+1,lfM t.args[k]! c),id,⟨hlt,hc,hrg.1,by simp only;omega⟩,by simp only;omega,byQ True.intro⟩
   ·rw [lfMs_neg _ c (by omega)] at hc
    rw [← hc]
    refine sw_run 200 _ _ _ (byP (fc hi hn) ?_)
    refine sw_run 200 _ _ _ ?_
    exact byP (fc Tryz.ntmps249 Tryz.results249) True.intro
  ·have hi:¬ (k:Int)<(t.args.length:Int):=by omega
   rw [List.drop_of_length_le (by omega),lfMs] at hc
   rw [← hc]
   refine sw_run 200 _ _ _ (byP hi ?_)
   refine sw_run 200 _ _ _ ?_
   exact byP (fc Tryz.ntmps249 Tryz.results249) True.intro
theorem con_ValidS (t:Tm) (hz:szL (tmC t)≤1000000000):Con Tryz.prog 195 [.ag (tmC t)] [.one (.bool (vTm t))]:=by
 have h1:=con_IsTermS t hz
 have h2:=con_l5Left t hz 80 (by omega) (by omega)
 have h3:=con_DepthS t hz
 have hlf:=lfM_ok t 80
 have hV:vTm t=(decide (0≤lfM t 80) && (decide ((dT t:Int)≤20) && allTm isFm t)):=by
  have e:decide ((nT t:Int)≤80)=decide (0≤lfM t 80):=by
   by_cases h:(nT t:Int)≤80
   ·rw [decide_eq_true h,decide_eq_true (by have:=hlf.2 h;omega)]
   ·rw [decide_eq_false h,decide_eq_false (by have:=hlf.1 (by omega);omega)]
  unfold vTm
  rw [e]
  cases decide (0≤lfM t 80) <;> cases decide ((dT t:Int)≤20) <;> cases allTm isFm t <;> rfl
 rw [hV]
 rw [tmC_eq] at h1 h2 h3
 generalize allTm isFm t=c at *
 generalize lfM t 80=l at *
 by_cases h4:0≤l
 case neg =>
  rw [decide_eq_false h4]
  refine con_run Tryz.func195 rfl rfl (by simp [Tryz.ntmps195]) ?_
  refine byP (fc Tryz.ntmps195 Tryz.results195) ?_
  refine sw_call (h2) rfl (aAs_ok (byQ True.intro)) (byQ True.intro) ?_
  refine sw_run 200 _ _ _ (byP (fc h4 (fc Tryz.ntmps195 Tryz.results195)) ?_)
  exact True.intro
 rw [decide_eq_true h4,Bool.true_and]
 by_cases h5:(dT t:Int)≤20
 case neg =>
  rw [decide_eq_false h5]
  refine con_run Tryz.func195 rfl rfl (by simp [Tryz.ntmps195]) ?_
  refine byP (fc Tryz.ntmps195 Tryz.results195) ?_
  refine sw_call (h2) rfl (aAs_ok (byQ True.intro)) (byQ True.intro) ?_
  refine sw_run 200 _ _ _ (byP h4 ?_)
  refine sw_call (h3) rfl (aAs_ok (byQ True.intro)) (byQ True.intro) ?_
  refine sw_run 200 _ _ _ (byP (fc h5 (fc Tryz.ntmps195 Tryz.results195)) ?_)
  exact True.intro
 rw [decide_eq_true h5,Bool.true_and]
 refine con_run Tryz.func195 rfl rfl (by simp [Tryz.ntmps195]) ?_
 refine byP (fc Tryz.ntmps195 Tryz.results195) ?_
 refine sw_call (h2) rfl (aAs_ok (byQ True.intro)) (byQ True.intro) ?_
 refine sw_run 200 _ _ _ (byP h4 ?_)
 refine sw_call (h3) rfl (aAs_ok (byQ True.intro)) (byQ True.intro) ?_
 refine sw_run 200 _ _ _ (byP h5 ?_)
 refine sw_call (h1) rfl (aAs_ok (byQ True.intro)) (byQ True.intro) ?_
 refine sw_run 200 _ _ _ (byP (fc Tryz.ntmps195 Tryz.results195) ?_)
 exact True.intro
def bsum:List ByteArray→Nat
 | []=>0
 | x :: l=>x.size+bsum l
theorem bsum_app:∀ (a b:List ByteArray),bsum (a++b)=bsum a+bsum b
 | [],b=>by rw [List.nil_append,bsum,Nat.zero_add]
 | x :: a,b=>by rw [List.cons_append,bsum,bsum,bsum_app a b];omega
theorem bsum_one (x:ByteArray):bsum [x]=x.size:=by rw [bsum,bsum];rfl
theorem bsum_get:∀ (l:List ByteArray) (k:Nat),k<l.length→(l[k]!).size≤bsum l
 | [],k,h=>by simp at h
 | x :: l,0,h=>by rw [bsum];simp
 | x :: l,k+1,h=>by rw [bsum];have:=bsum_get l k (by simpa using h);simp only [List.getElem!_cons_succ];omega
theorem bsum_take (l:List ByteArray) (k:Nat):bsum (l.take k)≤bsum l:=by
 have:=bsum_app (l.take k) (l.drop k)
 rw [List.take_append_drop] at this
 omega
theorem jn_sum (xs : List ByteArray) (sep : ByteArray) : ∀ k, k ≤ xs.length → (jn xs sep k).length ≤ bsum (xs.take k) + k * sep.size
  | 0, _ => Nat.zero_le _
  | k + 1, h => by
    have ht : bsum (xs.take (k + 1)) = bsum (xs.take k) + (xs[k]!).size := by rw [take_snoc xs k h, bsum_app, bsum_one]
    rw [jn, Nat.succ_mul, ht]
    have hz : ∀ b : ByteArray, b.data.toList.length = b.size := fun b => Array.length_toList
    split
    · rename_i h0; subst h0; rw [hz]; omega
    · have := jn_sum xs sep k (by omega)
      simp only [List.length_append, hz]; omega
theorem joinB_sz (xs:List ByteArray) (sep:ByteArray):(joinB xs sep).size≤bsum xs+xs.length * sep.size:=by
 have h:=jn_sum xs sep xs.length (Nat.le_refl _)
 rw [List.take_length] at h
 exact h
mutual
theorem szT_tsz : ∀ t : Ty, szT t = 1 + szL (tyC t)
  | .mk k xs => by
    rw [szT, szTs_tsz xs]
    simp [tyC, szL, szD]
theorem szTs_tsz : ∀ xs : List Ty, szTs xs = xs.length + szL (tysC xs)
  | [] => rfl
  | x :: xs => by
    rw [szTs, szT_tsz x, szTs_tsz xs, tysC, szL_append, List.length_cons]
    omega
end
def txB (t:Ty):ByteArray:=bs (txT t)
theorem txB_sz (t:Ty):(txB t).size≤3+3 * tsz t:=by
 unfold txB
 rw [bs_size]
 have h:=txT_len t
 rw [szT_tsz] at h
 unfold tsz
 omega
theorem tsum_step (l:List Tm) (k:Nat) (h:k<l.length):szL (tmsC (l.take (k+1)))=szL (tmsC (l.take k))+msz l[k]! := by
 rw [take_snoc l k h,tmsC_append,szL_append,tmL1];rfl
theorem v_form' {t:Ty} (h:vTy t=true):formT t=true:=by
 unfold vTy at h;simp only [Bool.and_eq_true] at h;exact h.2.2
theorem fm_cases {t:Tm} (h:isFm t=true):t.kind=1∨(t.kind=2∧0≤t.n∧t.n≤10006)∨(t.kind=3∧0≤t.n∧t.n≤1)∨(t.kind=4∧(t.args.length=1∨t.args.length=2))∨(t.kind=5∧t.args.length=3)∨(t.kind=6∧t.args.length=1∧vTy t.ty=true)∨(t.kind=7∧t.args.length=2)∨(t.kind=8∧t.args.length=2)∨(t.kind=9∧t.args.length=1∧vTy t.ty=true∧vTy t.res=true)∨(t.kind=10∧t.args.length=1)∨(t.kind=11∧t.args.length=1)∨(t.kind=12∧t.args.length=1)∨(t.kind=13∧t.args.length=1):=by
 rw [fm_eq] at h
 simp only [Bool.and_eq_true,decide_eq_true_eq] at h
 obtain ⟨hf,hl⟩:=h
 unfold fldB at hf
 simp only [Bool.and_eq_true] at hf
 obtain ⟨h1,h2,h3,h4⟩:=hf
 unfold rgB at h3
 simp only [Bool.and_eq_true,decide_eq_true_eq] at h3
 by_cases k1:t.kind=1
 ·exact .inl k1
 by_cases k2:t.kind=2
 ·rw [k2] at h3;exact .inr (.inl ⟨k2,h3⟩)
 by_cases k3:t.kind=3
 ·rw [k3] at h3;exact .inr (.inr (.inl ⟨k3,h3⟩))
 by_cases k4:t.kind=4
 ·refine .inr (.inr (.inr (.inl ⟨k4, ?_⟩)))
  rw [k4] at hl h4
  have hn:0<opAr t.name:=by
   unfold nmF at h4
   simp only [if_true,Bool.and_eq_true,decide_eq_true_eq] at h4
   exact h4.1
  have hr:=opAr_rng t.name
  have:arF (-1) 4 t.name=opAr t.name:=rfl
  omega
 by_cases k5:t.kind=5
 ·rw [k5] at hl;exact .inr (.inr (.inr (.inr (.inl ⟨k5,by have:arF (-1) 5 t.name=3:=rfl;omega⟩))))
 by_cases k6:t.kind=6
 ·rw [if_pos k6] at h1
  rw [k6] at hl;exact .inr (.inr (.inr (.inr (.inr (.inl ⟨k6,by have:arF (-1) 6 t.name=1:=rfl;omega,h1⟩)))))
 by_cases k7:t.kind=7
 ·rw [k7] at hl;exact .inr (.inr (.inr (.inr (.inr (.inr (.inl ⟨k7,by have:arF (-1) 7 t.name=2:=rfl;omega⟩))))))
 by_cases k8:t.kind=8
 ·rw [k8] at hl;exact .inr (.inr (.inr (.inr (.inr (.inr (.inr (.inl ⟨k8,by have:arF (-1) 8 t.name=2:=rfl;omega⟩)))))))
 by_cases k9:t.kind=9
 ·rw [if_neg k6,if_pos k9] at h1
  rw [if_pos k9] at h2
  rw [k9] at hl;exact .inr (.inr (.inr (.inr (.inr (.inr (.inr (.inr (.inl ⟨k9,by have:arF (-1) 9 t.name=1:=rfl;omega,h1,h2⟩))))))))
 by_cases k10:t.kind=10
 ·rw [k10] at hl;exact .inr (.inr (.inr (.inr (.inr (.inr (.inr (.inr (.inr (.inl ⟨k10,by have:arF (-1) 10 t.name=1:=rfl;omega⟩)))))))))
 by_cases k11:t.kind=11
 ·rw [k11] at hl;exact .inr (.inr (.inr (.inr (.inr (.inr (.inr (.inr (.inr (.inr (.inl ⟨k11,by have:arF (-1) 11 t.name=1:=rfl;omega⟩))))))))))
 by_cases k12:t.kind=12
 ·rw [k12] at hl;exact .inr (.inr (.inr (.inr (.inr (.inr (.inr (.inr (.inr (.inr (.inr (.inl ⟨k12,by have:arF (-1) 12 t.name=1:=rfl;omega⟩)))))))))))
 by_cases k13:t.kind=13
 ·rw [k13] at hl;exact .inr (.inr (.inr (.inr (.inr (.inr (.inr (.inr (.inr (.inr (.inr (.inr ⟨k13,by have:arF (-1) 13 t.name=1:=rfl;omega⟩)))))))))))
 ·exfalso
  unfold arF at hl
  rw [if_neg k1,if_neg k2,if_neg k3,if_neg k4,if_neg k5,if_neg k6,if_neg k7,if_neg k8,if_neg k9,if_neg k10,if_neg k11,if_neg k12,if_neg k13] at hl
  omega
def xtI (m:Nat) (x:ByteArray):Prop:=x.size≤m
def xtO (x:ByteArray):List (List CD):=[]
def xtR (x:ByteArray):List RD:=[.one (.o (.str x))]
theorem xtF:(∀ x,xtO x=[])∧(∀ x,xtR x=[.one (.o (.str x))]):=⟨fun _=>rfl,fun _=>rfl⟩
theorem szS:(⟨#[]⟩:ByteArray).size=0∧(⟨#[40]⟩:ByteArray).size=1∧(⟨#[41]⟩:ByteArray).size=1∧(⟨#[32]⟩:ByteArray).size=1∧(⟨#[58]⟩:ByteArray).size=1∧(⟨#[46]⟩:ByteArray).size=1∧(⟨#[61]⟩:ByteArray).size=1∧(⟨#[62]⟩:ByteArray).size=1∧(⟨#[60]⟩:ByteArray).size=1∧(⟨#[126]⟩:ByteArray).size=1∧(⟨#[35]⟩:ByteArray).size=1∧(⟨#[40,33]⟩:ByteArray).size=2∧(⟨#[40,92]⟩:ByteArray).size=2∧(⟨#[40,105,102,32]⟩:ByteArray).size=4∧(⟨#[40,108,101,116,32]⟩:ByteArray).size=5∧(⟨#[40,114,101,99,32]⟩:ByteArray).size=5∧(⟨#[40,114,117,110,32]⟩:ByteArray).size=5∧(⟨#[40,108,105,102,116,32]⟩:ByteArray).size=6:=by decide
def hdz (e:Tm):Nat:=e.name.size+e.other.size+3 * tsz e.ty+3 * tsz e.res
set_option maxHeartbeats 8000000 in
theorem con_longX (e : Tm) (L : List ByteArray) (m : Nat) (hL : bsum L ≤ m) (hm : m ≤ 400000000) (he : msz e ≤ 10000000) (h0 : 0 < L.length) (hl3 : L.length ≤ 3) (hty : e.kind = 6 ∨ e.kind = 9 → formT e.ty = true) (htr : e.kind = 9 → formT e.res = true) : ConX Tryz.prog 292 [.b (.ag (tmC e)), .b (.one (.rows 1 L.length (L.map D.str)))] (xtI (m + 20 + hdz e)) xtO xtR := by
  have hez2 : hdz e = e.name.size + e.other.size + 3 * tsz e.ty + 3 * tsz e.res := rfl
  have hez := msz_eq e
  have hJ : Con Tryz.prog 294 [.one (.rows 1 L.length (L.map D.str)), .one (.str ⟨#[32]⟩)] [.one (.str (joinB L ⟨#[32]⟩))] := con_JoinS L ⟨#[32]⟩ (by omega) fun k hk => by
    have h1 := jn_sum L ⟨#[32]⟩ k hk
    have h2 := bsum_take L k
    rw [show (⟨#[32]⟩ : ByteArray).size = 1 from rfl] at h1
    omega
  have hj := joinB_sz L ⟨#[32]⟩
  rw [show (⟨#[32]⟩ : ByteArray).size = 1 from rfl] at hj
  generalize joinB L ⟨#[32]⟩ = J at *
  have a0 : (0 : Int) < (L.length : Int) := by omega
  have q0 := bsum_get L 0 (by omega)
  have s0 := strs_row L 0 (by omega)
  have s0' : rowAt 1 (L.map D.str) 0 = [.str L[0]!] := s0
  by_cases k5 : e.kind = 5
  · refine con_runX Tryz.func292 rfl rfl (by simp [Tryz.ntmps292]) (fun _ _ => rfl) ?_
    refine byP (fc k5 (fc Tryz.ntmps292 Tryz.results292)) ?_
    refine sw_call (hJ) rfl (aAs_ok (byQ True.intro)) (byQ True.intro) ?_
    refine sw_run 200 _ _ _ (byP (fc Tryz.ntmps292 Tryz.results292) ?_)
    repeat' (with_reducible apply And.intro)
    all_goals first
      | (simp only [ByteArray.size_append, szS]; unfold maxLen; omega)
      | omega
      | (refine ⟨.inl rfl, ⟨#[40, 105, 102, 32]⟩ ++ J ++ ⟨#[41]⟩, ?_, ?_⟩
         · show ByteArray.size _ ≤ _
           simp only [ByteArray.size_append, szS]; omega
         · exact byP (fc xtF (fc Tryz.ntmps292 Tryz.results292)) True.intro
         done)
  by_cases k6 : e.kind = 6
  · have hT : Con Tryz.prog 295 [.ag (tyC e.ty)] [.one (.str (txB e.ty))] := con_textS e.ty (hty (.inl k6)) (by show tsz e.ty ≤ _; omega)
    have ht := txB_sz e.ty
    rw [tyC_eq] at hT
    generalize txB e.ty = T at *
    refine con_runX Tryz.func292 rfl rfl (by simp [Tryz.ntmps292]) (fun _ _ => rfl) ?_
    refine byP (fc k6 (fc Tryz.ntmps292 Tryz.results292)) ?_
    refine sw_drawn (.cons 0 true (.cons 1 true (.cons 2 true (.cons 3 true (.cons 4 true (.cons 5 true (.cons 9 true (.cons 10 true (.cons 11 true (.cons 6 false (.cons 7 true (.cons 8 true (.cons 12 true (.cons 13 true (.cons 14 true (.nil)))))))))))))))) (by kernel_rfl) fQX_panic (by kernel_rfl) ?_
    refine sw_run 200 _ _ _ (byP (fc a0 s0') ?_)
    repeat' (with_reducible apply And.intro)
    all_goals first | (simp only [ByteArray.size_append, szS]; unfold maxLen; omega) | skip
    all_goals
      refine sw_callD (hT) rfl (aAs_ok (byQ True.intro)) (byQ True.intro) ?_
      refine sw_run 200 _ _ _ (byP (fc a0 (fc s0' (fc Tryz.ntmps292 Tryz.results292))) ?_)
      repeat' (with_reducible apply And.intro)
      all_goals first
        | (simp only [ByteArray.size_append, szS]; unfold maxLen; omega)
        | omega
        | (refine ⟨.inl rfl, ⟨#[40, 92]⟩ ++ e.name ++ ⟨#[58]⟩ ++ T ++ ⟨#[46]⟩ ++ L[0]! ++ ⟨#[41]⟩, ?_, ?_⟩
           · show ByteArray.size _ ≤ _
             simp only [ByteArray.size_append, szS]; omega
           · exact byP (fc xtF (fc Tryz.ntmps292 Tryz.results292)) True.intro
           done)
  by_cases k7 : e.kind = 7
  · refine con_runX Tryz.func292 rfl rfl (by simp [Tryz.ntmps292]) (fun _ _ => rfl) ?_
    refine byP (fc k7 (fc Tryz.ntmps292 Tryz.results292)) ?_
    refine sw_call (hJ) rfl (aAs_ok (byQ True.intro)) (byQ True.intro) ?_
    refine sw_run 200 _ _ _ (byP (fc Tryz.ntmps292 Tryz.results292) ?_)
    repeat' (with_reducible apply And.intro)
    all_goals first
      | (simp only [ByteArray.size_append, szS]; unfold maxLen; omega)
      | omega
      | (refine ⟨.inl rfl, ⟨#[40]⟩ ++ J ++ ⟨#[41]⟩, ?_, ?_⟩
         · show ByteArray.size _ ≤ _
           simp only [ByteArray.size_append, szS]; omega
         · exact byP (fc xtF (fc Tryz.ntmps292 Tryz.results292)) True.intro
         done)
  by_cases k8 : e.kind = 8
  · refine con_runX Tryz.func292 rfl rfl (by simp [Tryz.ntmps292]) (fun _ _ => rfl) ?_
    refine byP (fc k8 (fc Tryz.ntmps292 Tryz.results292)) ?_
    refine sw_drawn (.cons 0 true (.cons 1 true (.cons 2 true (.cons 3 true (.cons 4 true (.cons 5 false (.cons 6 true (.cons 7 true (.cons 8 true (.nil)))))))))) (by kernel_rfl) fQX_panic (by kernel_rfl) ?_
    refine sw_run 200 _ _ _ (byQ ?_)
    repeat' (with_reducible apply And.intro)
    all_goals first | (simp only [ByteArray.size_append, szS]; unfold maxLen; omega) | skip
    all_goals
      refine sw_callD (hJ) rfl (aAs_ok (byQ True.intro)) (byQ True.intro) ?_
      refine sw_run 200 _ _ _ (byP (fc Tryz.ntmps292 Tryz.results292) ?_)
      repeat' (with_reducible apply And.intro)
      all_goals first
        | (simp only [ByteArray.size_append, szS]; unfold maxLen; omega)
        | omega
        | (refine ⟨.inl rfl, ⟨#[40, 108, 101, 116, 32]⟩ ++ e.name ++ ⟨#[61]⟩ ++ J ++ ⟨#[41]⟩, ?_, ?_⟩
           · show ByteArray.size _ ≤ _
             simp only [ByteArray.size_append, szS]; omega
           · exact byP (fc xtF (fc Tryz.ntmps292 Tryz.results292)) True.intro
           done)
  by_cases k9 : e.kind = 9
  · have hT : Con Tryz.prog 295 [.ag (tyC e.ty)] [.one (.str (txB e.ty))] := con_textS e.ty (hty (.inr k9)) (by show tsz e.ty ≤ _; omega)
    have ht := txB_sz e.ty
    have hR : Con Tryz.prog 295 [.ag (tyC e.res)] [.one (.str (txB e.res))] := con_textS e.res (htr k9) (by show tsz e.res ≤ _; omega)
    have hr := txB_sz e.res
    rw [tyC_eq] at hT hR
    generalize txB e.ty = T at *
    generalize txB e.res = R at *
    refine con_runX Tryz.func292 rfl rfl (by simp [Tryz.ntmps292]) (fun _ _ => rfl) ?_
    refine byP (fc k9 (fc Tryz.ntmps292 Tryz.results292)) ?_
    refine sw_drawn (.cons 0 true (.cons 1 true (.cons 2 true (.cons 3 true (.cons 4 true (.cons 5 true (.cons 6 true (.cons 7 true (.cons 8 true (.cons 9 true (.cons 13 true (.cons 14 true (.cons 18 true (.cons 19 true (.cons 20 true (.cons 10 false (.cons 11 true (.cons 12 true (.cons 15 false (.cons 16 true (.cons 17 true (.cons 21 true (.cons 22 true (.cons 23 true (.nil))))))))))))))))))))))))) (by kernel_rfl) fQX_panic (by kernel_rfl) ?_
    refine sw_run 200 _ _ _ (byP (fc a0 s0') ?_)
    repeat' (with_reducible apply And.intro)
    all_goals first | (simp only [ByteArray.size_append, szS]; unfold maxLen; omega) | skip
    all_goals
      refine sw_callD (hT) rfl (aAs_ok (byQ True.intro)) (byQ True.intro) ?_
      refine sw_run 200 _ _ _ (byP (fc a0 (fc s0' (fc Tryz.ntmps292 Tryz.results292))) ?_)
    repeat' (with_reducible apply And.intro)
    all_goals first | (simp only [ByteArray.size_append, szS]; unfold maxLen; omega) | skip
    all_goals
      refine sw_callD (hR) rfl (aAs_ok (byQ True.intro)) (byQ True.intro) ?_
      refine sw_run 200 _ _ _ (byP (fc a0 (fc s0' (fc Tryz.ntmps292 Tryz.results292))) ?_)
      repeat' (with_reducible apply And.intro)
      all_goals first
        | (simp only [ByteArray.size_append, szS]; unfold maxLen; omega)
        | omega
        | (refine ⟨.inl rfl, ⟨#[40, 114, 101, 99, 32]⟩ ++ e.name ++ ⟨#[32]⟩ ++ e.other ++ ⟨#[58]⟩ ++ T ++ ⟨#[62]⟩ ++ R ++ ⟨#[46]⟩ ++ L[0]! ++ ⟨#[41]⟩, ?_, ?_⟩
           · show ByteArray.size _ ≤ _
             simp only [ByteArray.size_append, szS]; omega
           · exact byP (fc xtF (fc Tryz.ntmps292 Tryz.results292)) True.intro
           done)
  by_cases k12 : e.kind = 12
  · refine con_runX Tryz.func292 rfl rfl (by simp [Tryz.ntmps292]) (fun _ _ => rfl) ?_
    refine byP (fc k12 (fc a0 (fc s0' (fc Tryz.ntmps292 Tryz.results292)))) ?_
    repeat' (with_reducible apply And.intro)
    all_goals first
      | (simp only [ByteArray.size_append, szS]; unfold maxLen; omega)
      | omega
      | (refine ⟨.inl rfl, ⟨#[40, 114, 117, 110, 32]⟩ ++ L[0]! ++ ⟨#[41]⟩, ?_, ?_⟩
         · show ByteArray.size _ ≤ _
           simp only [ByteArray.size_append, szS]; omega
         · exact byP (fc xtF (fc Tryz.ntmps292 Tryz.results292)) True.intro
         done)
  · refine con_runX Tryz.func292 rfl rfl (by simp [Tryz.ntmps292]) (fun _ _ => rfl) ?_
    refine byP (fc k5 (fc k6 (fc k7 (fc k8 (fc k9 (fc k12 (fc a0 (fc s0' (fc Tryz.ntmps292 Tryz.results292))))))))) ?_
    repeat' (with_reducible apply And.intro)
    all_goals first
      | (simp only [ByteArray.size_append, szS]; unfold maxLen; omega)
      | omega
      | (refine ⟨.inl rfl, ⟨#[40, 108, 105, 102, 116, 32]⟩ ++ L[0]! ++ ⟨#[41]⟩, ?_, ?_⟩
         · show ByteArray.size _ ≤ _
           simp only [ByteArray.size_append, szS]; omega
         · exact byP (fc xtF (fc Tryz.ntmps292 Tryz.results292)) True.intro
         done)
end Go.Proofs.YtaidalilfmjfgaaGreat
