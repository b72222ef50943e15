import Derived.Lib.AppendZeros
import Derived.Test.YtaidalilfmjfgaaGreatNm
import Derived.Test.YtaidalilfmjfgaaGreatLp
namespace Go.Proofs.YtaidalilfmjfgaaGreat
open Go.Proofs.Tryz
open Go.RowKit
set_option linter.unusedVariables false
set_option linter.unusedSimpArgs false
set_option maxRecDepth 20000
theorem LU (xs:List ByteArray):∀ d,d ∈ xs.map D.str→d.prim=true:=fun d h=>by
 obtain ⟨x,_,rfl⟩:=List.mem_map.mp h
 rfl
def aCC (out:List ByteArray) (x:ByteArray):List ByteArray:=if 0≤fi x out 0 then out else out++[x]
def uni (acc cs:List ByteArray):Nat→List ByteArray
 | 0=>acc
 | k+1=>aCC (uni acc cs k) cs[k]!
def Ml (a b:List ByteArray):List ByteArray:=uni [] (a++b) (a++b).length
theorem QW {α:Type} [Inhabited α] (l r:List α) (i:Nat) (h:i<l.length):(l++r)[i]! = l[i]! := by
 rw [getElem!_pos (l++r) i (by simp;omega),getElem!_pos l i h,List.getElem_append_left]
theorem Rm {α:Type} [Inhabited α] (l r:List α) (i:Nat) (h:i<r.length):(l++r)[l.length+i]! = r[i]! := by
 rw [getElem!_pos (l++r) (l.length+i) (by simp;omega),getElem!_pos r i h,List.getElem_append_right (by omega)];congr 1;omega
theorem NI (acc a b:List ByteArray):∀ k,k≤a.length→uni acc (a++b) k=uni acc a k
 | 0,_=>rfl
 | k+1,h=>by rw [uni,uni,NI acc a b k (by omega),QW a b k (by omega)]
theorem Mi (a b:List ByteArray):∀ k,k≤b.length→uni [] (a++b) (a.length+k)=uni (uni [] a a.length) b k
 | 0,_=>by rw [Nat.add_zero,NI [] a b _ (Nat.le_refl _)];rfl
 | k+1,h=>by rw [← Nat.add_assoc,uni,uni,Mi a b k (by omega),Rm a b k (by omega)]
theorem Pk (a b:List ByteArray):Ml a b=uni (uni [] a a.length) b b.length:=by
 rw [Ml,List.length_append,Mi a b _ (Nat.le_refl _)]
def sL (xs:List ByteArray):Nat:=xs.length+szL (xs.map D.str)
theorem LC (a b:List ByteArray):sL (a++b)=sL a+sL b:=by rw [sL,sL,sL,List.length_append,List.map_append,Ah];omega
theorem OU (x:ByteArray):sL [x]=1+x.size:=rfl
theorem XS (acc cs:List ByteArray):∀ k,k≤cs.length→sL (uni acc cs k)≤sL acc+sL (cs.take k)
 | 0,_=>by rw [uni];omega
 | k+1,h=>by
  have ih:=XS acc cs k (by omega)
  rw [AH cs k (by omega),LC,OU,uni,aCC]
  split
  ·omega
  ·rw [LC,OU];omega
theorem Iw (acc cs:List ByteArray) (k:Nat) (h:k≤cs.length):sL (uni acc cs k)≤sL acc+sL cs:=by
 have h1:=XS acc cs k h
 have e:sL cs=sL (cs.take k)+sL (cs.drop k):=by rw [← LC,List.take_append_drop]
 omega
theorem RB (a b:List ByteArray):sL (Ml a b)≤sL a+sL b:=by
 have h:=Iw [] (a++b) _ (Nat.le_refl _)
 rw [LC] at h
 rw [Ml]
 have:sL []=0:=rfl
 omega
theorem GC (a b:List ByteArray) (ha:sL a≤100000000) (hb:sL b≤100000000):Con prog 219 [.one (Bl a),.one (Bl b)] [.one (Bl (Ml a b))]:=by
 have hla:a.length≤sL a:=by rw [sL];omega
 have hlb:b.length≤sL b:=by rw [sL];omega
 have h0:sL []=0:=rfl
 have hsa:=Iw [] a a.length (Nat.le_refl _)
 rw [Pk]
 refine Af func219 rfl rfl (by simp [ntmps219]) ?_
 refine byP ntmps219 ?_
 refine Al (fun k:Nat=>k≤(a).length) (fun k=>⟨50,[(6,.i k),(0,.br (.rows 1 a.length (a.map D.str))),(1,.br (.rows 1 b.length (b.map D.str))),(5,.sl 0)],[],[(0,some ⟨.rows 1 (uni [] a k).length ((uni [] a k).map D.str),some 9,true⟩)],1,[]⟩) (fun k=>(a).length-k) 0 id (Nat.zero_le _) ?_ ?_
 ·exact byP uni.eq_1 tI
 ·rintro k hk
  refine Aa 200 _ _ _ ?_
  by_cases hlt:k<(a).length
  ·have hi:(k:Int)<((a).length:Int):=by omega
   have hR:=Cc a k hlt
   have hsz:=Iw [] a k hk
   have hlu:(uni [] a k).length≤sL (uni [] a k):=by rw [sL];omega
   have hct:=BU (uni [] a k) (a)[k]! (by omega)
   have hst:uni [] a (k+1)=if 0≤fi (a)[k]! (uni [] a k) 0 then uni [] a k else uni [] a k++[(a)[k]!]:=rfl
   refine byP (fc hi hR) ?_
   refine As (hct) rfl (Am ?_) ?_ (Aa 200 _ _ _ ?_)
   ·exact byQ tI
   ·simp only [okR]
   by_cases hc:0≤fi (a)[k]! (uni [] a k) 0
   ·have hc2:¬ fi (a)[k]! (uni [] a k) 0<0:=by omega
    rw [if_pos hc] at hst
    refine byP hc2 ?_
    refine ⟨by unfold inI;omega,k+1,id,by omega,by omega, ?_⟩
    exact byP hst tI
   ·have hc2:fi (a)[k]! (uni [] a k) 0<0:=by omega
    rw [if_neg hc] at hst
    refine byP (fc hi (fc hR hc2)) ?_
    refine ⟨⟨fun _ d hd=>by rw [hd];rfl,fun o ho=>by omega,by unfold maxLen;omega,by omega⟩,by unfold inI;omega,k+1,rnL [(0,2)],by omega,by omega, ?_⟩
    simp only [push_cast,Sub,EG,EL,ED,EH,inj,AV.ren,AV.lt,↓reduceIte,Nat.reduceLT,Nat.reduceEqDiff,reduceCtorEq,rnL,Bx,hst,List.length_append,List.map_append,List.map_cons,List.map_nil]
  ·have hi:¬ (k:Int)<((a).length:Int):=by omega
   obtain rfl:k=(a).length:=by omega
   refine byP hi ?_
   refine rQ ?_
   refine Al (fun k:Nat=>k≤(b).length) (fun k=>⟨50,[(7,.i k),(0,.br (.rows 1 a.length (a.map D.str))),(1,.br (.rows 1 b.length (b.map D.str))),(5,.sl 0)],[],[(0,some ⟨.rows 1 (uni (uni [] a a.length) b k).length ((uni (uni [] a a.length) b k).map D.str),some 9,true⟩)],1,[]⟩) (fun k=>(b).length-k) 0 id (Nat.zero_le _) ?_ ?_
   ·exact byP uni.eq_1 tI
   ·rintro k hk
    refine Aa 200 _ _ _ ?_
    by_cases hlt:k<(b).length
    ·have hi:(k:Int)<((b).length:Int):=by omega
     have hR:=Cc b k hlt
     have hsz:=Iw (uni [] a a.length) b k hk
     have hlu:(uni (uni [] a a.length) b k).length≤sL (uni (uni [] a a.length) b k):=by rw [sL];omega
     have hct:=BU (uni (uni [] a a.length) b k) (b)[k]! (by omega)
     have hst:uni (uni [] a a.length) b (k+1)=if 0≤fi (b)[k]! (uni (uni [] a a.length) b k) 0 then uni (uni [] a a.length) b k else uni (uni [] a a.length) b k++[(b)[k]!]:=rfl
     refine byP (fc hi hR) ?_
     refine As (hct) rfl (Am ?_) ?_ (Aa 200 _ _ _ ?_)
     ·exact byQ tI
     ·simp only [okR]
     by_cases hc:0≤fi (b)[k]! (uni (uni [] a a.length) b k) 0
     ·have hc2:¬ fi (b)[k]! (uni (uni [] a a.length) b k) 0<0:=by omega
      rw [if_pos hc] at hst
      refine byP hc2 ?_
      refine ⟨by unfold inI;omega,k+1,id,by omega,by omega, ?_⟩
      exact byP hst tI
     ·have hc2:fi (b)[k]! (uni (uni [] a a.length) b k) 0<0:=by omega
      rw [if_neg hc] at hst
      refine byP (fc hi (fc hR hc2)) ?_
      refine ⟨⟨fun _ d hd=>by rw [hd];rfl,fun o ho=>by omega,by unfold maxLen;omega,by omega⟩,by unfold inI;omega,k+1,rnL [(0,2)],by omega,by omega, ?_⟩
      simp only [push_cast,Sub,EG,EL,ED,EH,inj,AV.ren,AV.lt,↓reduceIte,Nat.reduceLT,Nat.reduceEqDiff,reduceCtorEq,rnL,Bx,hst,List.length_append,List.map_append,List.map_cons,List.map_nil]
    ·have hi:¬ (k:Int)<((b).length:Int):=by omega
     obtain rfl:k=(b).length:=by omega
     refine byP hi ?_
     exact rG results219 tI
theorem Lt (s:ByteArray):∀ (xs:List ByteArray) (i:Int),0≤i→(0≤fi s xs i ↔ s ∈ xs)
 | [],i,h=>by rw [fi];simp
 | x :: l,i,h=>by
  rw [fi]
  split
  ·next e=>simp [e,h]
  ·next e=>rw [Lt s l (i+1) (by omega)];simp [e]
theorem Jo {s:ByteArray} {xs:List ByteArray}:fi s xs 0<0 ↔ s ∉ xs:=by
 rw [← Lt s xs 0 (Int.le_refl _)];omega
def woL (ns xs:List ByteArray):List ByteArray:=xs.filter (fun y=>decide (fi y ns 0<0))
theorem aBX:sL []=0:=rfl
theorem QO (x:ByteArray) (l:List ByteArray):sL (x :: l)=1+x.size+sL l:=by
 rw [show x :: l=[x]++l from rfl,LC,OU]
theorem Tq (ns:List ByteArray):∀ xs,sL (woL ns xs)≤sL xs
 | []=>by rw [woL,List.filter_nil];exact Nat.le_refl _
 | x :: l=>by
  have ih:=Tq ns l
  rw [woL] at ih ⊢
  rw [List.filter_cons,QO]
  split
  ·rw [QO];omega
  ·omega
theorem Zi (ns xs:List ByteArray):(woL ns xs).length≤xs.length:=List.length_filter_le ..
theorem aAD (xs:List ByteArray):woL [] xs=xs:=by
 rw [woL,List.filter_eq_self];intro a _;rfl
theorem ZN {ns:List ByteArray} {x:ByteArray} (h:fi x ns 0<0) (xs:List ByteArray):woL ns (xs++[x])=woL ns xs++[x]:=by
 rw [woL,List.filter_append,woL,List.filter_cons,decide_eq_true h,List.filter_nil];rfl
theorem aDK {ns:List ByteArray} {x:ByteArray} (h:¬ fi x ns 0<0) (xs:List ByteArray):woL ns (xs++[x])=woL ns xs:=by
 rw [woL,List.filter_append,woL,List.filter_cons,decide_eq_false h,List.filter_nil];exact List.append_nil _
theorem RM {ns xs:List ByteArray} {y:ByteArray}:y ∈ woL ns xs ↔ y ∈ xs∧y ∉ ns:=by
 rw [woL,List.mem_filter,decide_eq_true_iff,Jo]
def bdN (k:Int) (nm ot:ByteArray) (c:Nat):List ByteArray:=if k=6∧c=1 then [nm] else if k=8∧c=2 then [nm] else if k=9∧c=1 then [nm,ot] else []
def bdP (k:Int) (c:Nat):Int:=if k=6∧c=1 then 0 else if k=8∧c=2 then 1 else if k=9∧c=1 then 0 else -1
def frU (ns:List ByteArray) (p:Int) (L:List (List ByteArray)):Nat→List ByteArray
 | 0=>[]
 | k+1=>Ml (frU ns p L k) (if (k:Int)=p then woL ns L[k]! else L[k]!)
def frF (k:Int) (nm ot:ByteArray) (L:List (List ByteArray)):List ByteArray :=
 if k=1 then [nm] else frU (bdN k nm ot L.length) (bdP k L.length) L L.length
mutual
def AE:Tm→List ByteArray
 | .mk k nm ot _ _ _ args=>frF k nm ot (Ft args)
def Ft:List Tm→List (List ByteArray)
 | []=>[]
 | a :: l=>AE a :: Ft l
end
theorem GP:∀ l,Ft l=l.map AE
 | []=>rfl
 | a :: l=>by rw [Ft,GP l];rfl
theorem CW (t:Tm):AE t=frF t.kind t.name t.other (t.args.map AE):=by
 obtain ⟨k,nm,ot,n,ty,rs,args⟩:=t
 rw [AE,GP];rfl
theorem Tz (ns:List ByteArray) (p:Int) (L:List (List ByteArray)):∀ k,k≤L.length→sL (frU ns p L k)≤((L.take k).map sL).sum
 | 0,_=>by rw [frU,aBX];omega
 | k+1,h=>by
  have ih:=Tz ns p L k (by omega)
  have h2:=RB (frU ns p L k) (if (k:Int)=p then woL ns L[k]! else L[k]!)
  have h3:sL (if (k:Int)=p then woL ns L[k]! else L[k]!)≤sL L[k]! := by
   split
   ·exact Tq ..
   ·exact Nat.le_refl _
  rw [frU,AH L k (by omega),List.map_append,List.sum_append]
  simp only [List.map_cons,List.map_nil,List.sum_cons,List.sum_nil]
  omega
theorem Wz (L:List (List ByteArray)) (k:Nat):((L.take k).map sL).sum≤(L.map sL).sum:=by
 have e:(L.map sL).sum=((L.take k).map sL).sum+((L.drop k).map sL).sum:=by rw [← List.sum_append,← List.map_append,List.take_append_drop]
 omega
mutual
theorem Ka:∀ t:Tm,sL (AE t)≤szL (tmC t)+1
 | .mk k nm ot n ty rs xs=>by
  have h:=JG xs
  have h2:=Tz (bdN k nm ot (Ft xs).length) (bdP k (Ft xs).length) (Ft xs) _ (Nat.le_refl _)
  rw [List.take_length] at h2
  rw [AE,BM,frF]
  simp only [Bd,AP,CP,BQ,AJ]
  split
  ·rw [OU];omega
  ·omega
theorem JG:∀ xs:List Tm,((Ft xs).map sL).sum≤xs.length+szL (Av xs)
 | []=>by rw [Ft];simp
 | x :: xs=>by
  have h1:=JG xs
  have h3:=Ka x
  rw [Ft,Av,Ah,List.length_cons,List.map_cons,List.sum_cons]
  omega
end
theorem Vv {out : List ByteArray} {x y : ByteArray} : y ∈ aCC out x ↔ y ∈ out ∨ y = x := by
  rw [aCC]
  split
  · next h => rw [Lt x out 0 (Int.le_refl _)] at h; constructor
              · exact .inl
              · rintro (h2 | rfl)
                · exact h2
                · exact h
  · simp
theorem Su {acc cs:List ByteArray} {y:ByteArray}:∀ k,k≤cs.length→(y ∈ uni acc cs k ↔ y ∈ acc∨y ∈ cs.take k)
 | 0,_=>by rw [uni];simp
 | k+1,h=>by
  rw [uni,Vv,Su k (by omega),AH cs k (by omega),List.mem_append,List.mem_singleton,or_assoc]
theorem Oh {a b:List ByteArray} {y:ByteArray}:y ∈ Ml a b ↔ y ∈ a∨y ∈ b:=by
 rw [Ml,Su _ (Nat.le_refl _),List.take_length];simp
theorem TD {ns:List ByteArray} {p:Int} {L:List (List ByteArray)} {y:ByteArray} {i:Nat}:∀ k,i<k→y ∈ (if (i:Int)=p then woL ns L[i]! else L[i]!)→y ∈ frU ns p L k
 | 0,h,_=>by omega
 | k+1,h,hy=>by
  rw [frU,Oh]
  by_cases e:i=k
  ·subst e;exact .inr hy
  ·exact .inl (TD k (by omega) hy)
theorem Ef {t:Tm} (hk:t.kind≠1) {i:Nat} (hi:i<t.args.length) {y:ByteArray} (hy:y ∈ AE t.args[i]!):y ∈ AE t∨((i:Int)=bdP t.kind t.args.length∧y ∈ bdN t.kind t.name t.other t.args.length):=by
 by_cases h:(i:Int)=bdP t.kind t.args.length∧y ∈ bdN t.kind t.name t.other t.args.length
 ·exact .inr h
 ·left
  rw [CW,frF,if_neg hk]
  refine TD (i:=i) _ (by rw [List.length_map];exact hi) ?_
  rw [List.length_map,AU AE hi]
  split
  ·next e=>exact RM.mpr ⟨hy,fun hn=>h ⟨e,hn⟩⟩
  ·exact hy
def Cov (nms:List ByteArray) (e:Tm):Prop:=∀ y ∈ AE e,y ∈ nms
theorem Cov.part {nms:List ByteArray} {e:Tm} (h:Cov nms e) (hk:e.kind≠1) {i:Nat} (hi:i<e.args.length) (hp:(i:Int)≠bdP e.kind e.args.length):Cov nms e.args[i]! := fun y hy=>by
 rcases Ef hk hi hy with h1 | h1
 ·exact h y h1
 ·exact absurd h1.1 hp
theorem Cov.bind {nms:List ByteArray} {e:Tm} (h:Cov nms e) (hk:e.kind≠1) {i:Nat} (hi:i<e.args.length):Cov (nms++bdN e.kind e.name e.other e.args.length) e.args[i]! := fun y hy=>by
 rcases Ef hk hi hy with h1 | h1
 ·exact List.mem_append_left _ (h y h1)
 ·exact List.mem_append_right _ h1.2
theorem Cov.var {nms:List ByteArray} {e:Tm} (h:Cov nms e) (hk:e.kind=1):e.name ∈ nms:=by
 refine h _ ?_
 rw [CW,frF,if_pos hk];exact List.mem_singleton.mpr rfl
theorem Cov.nil {e:Tm} (h:AE e=[]):Cov [] e:=fun y hy=>by rw [h] at hy;exact hy
theorem Lr (xs:List ByteArray) (s:ByteArray) (hl:xs.length≤100000000):Con prog 218 [.one (Bl xs),.one (.str s)] [.one (Bl (woL [s] xs))]:=by
 refine Af func218 rfl rfl (by simp [ntmps218]) ?_
 refine byP ntmps218 ?_
 refine Al (fun k:Nat=>k≤xs.length) (fun k=>⟨28,[(6,.i k),(0,.br (.rows 1 xs.length (xs.map D.str))),(1,.s s),(5,.sl 0)],[],[(0,some ⟨.rows 1 (woL [s] (xs.take k)).length ((woL [s] (xs.take k)).map D.str),some 9,true⟩)],1,[]⟩) (fun k=>xs.length-k) 0 id (Nat.zero_le _) ?_ ?_
 ·exact byP (show woL [s] []=[] from rfl) tI
 ·rintro k hk
  refine Aa 200 _ _ _ ?_
  by_cases hlt:k<xs.length
  ·have hi:(k:Int)<(xs.length:Int):=by omega
   have hR:=Cc xs k hlt
   have hln:=Zi [s] (xs.take k)
   rw [List.length_take] at hln
   have hst:=AH xs k hlt
   by_cases he:xs[k]! = s
   ·have hw:woL [s] (xs.take (k+1))=woL [s] (xs.take k):=by
     rw [hst];exact aDK (by rw [Jo,List.mem_singleton];exact fun h=>h he) _
    refine byP (fc hi (fc hR he)) ?_
    refine ⟨by unfold inI;omega,k+1,id,by omega,by omega, ?_⟩
    exact byP hw tI
   ·have hw:woL [s] (xs.take (k+1))=woL [s] (xs.take k)++[xs[k]!]:=by
     rw [hst];exact ZN (by rw [Jo,List.mem_singleton];exact he) _
    refine byP (fc hi (fc hR he)) ?_
    refine ⟨⟨fun _ d hd=>by rw [hd];rfl,fun o ho=>by omega,by unfold maxLen;omega,by omega⟩,by unfold inI;omega,k+1,rnL [(0,2)],by omega,by omega, ?_⟩
    simp only [push_cast,Sub,EG,EL,ED,EH,inj,AV.ren,AV.lt,↓reduceIte,Nat.reduceLT,Nat.reduceEqDiff,reduceCtorEq,rnL,Bx,hw,List.length_append,List.map_append,List.map_cons,List.map_nil]
  ·have hi:¬ (k:Int)<(xs.length:Int):=by omega
   obtain rfl:k=xs.length:=by omega
   refine byP hi ?_
   refine Aa 200 _ _ _ ?_
   simp only [push_cast,↓reduceIte,Nat.reduceLT,Nat.reduceEqDiff,reduceCtorEq,List.take_length,results218]
theorem JX (t:Tm) (hz:szL (tmC t)≤1000000000):Con prog 217 [.ag (tmC t)] [.one (Bl (bdN t.kind t.name t.other t.args.length)),.one (.int (bdP t.kind t.args.length))]:=by
 obtain ⟨k,hk⟩:∃ k,k=t.kind:=⟨_,rfl⟩
 have c1:((1:Nat):Int)=1:=rfl
 have c2:((2:Nat):Int)=2:=rfl
 refine Af func217 rfl rfl (by simp [ntmps217]) ?_
 simp only [push_cast,↓reduceIte,Nat.reduceLT,Nat.reduceAdd,Nat.reduceLeDiff,Nat.reduceEqDiff,reduceCtorEq,Int.reduceNeg,Ak,bdN,bdP,← hk,ntmps217,results217]
 by_cases h6:k=6
 ·by_cases hl:t.args.length=1
  ·exact byP (fc h6 (fc hl c1)) tI
  ·have hl':¬ (t.args.length:Int)=1:=by omega
   exact byP (fc h6 (fc hl hl')) tI
 by_cases h8:k=8
 ·by_cases hl:t.args.length=2
  ·exact byP (fc h8 (fc hl c2)) tI
  ·have hl':¬ (t.args.length:Int)=2:=by omega
   exact byP (fc h8 (fc hl hl')) tI
 by_cases h9:k=9
 ·by_cases hl:t.args.length=1
  ·exact byP (fc h9 (fc hl c1)) tI
  ·have hl':¬ (t.args.length:Int)=1:=by omega
   exact byP (fc h9 (fc hl hl')) tI
 exact byP (fc h6 (fc h8 h9)) tI
end Go.Proofs.YtaidalilfmjfgaaGreat
