import Derived.Test.YtaidalilfmjfgaaGreatTyC
import Derived.Test.YtaidalilfmjfgaaGreatLst
import Derived.Test.YtaidalilfmjfgaaGreatTmC
import Derived.Test.YtaidalilfmjfgaaGreatBy
namespace Go.Proofs.YtaidalilfmjfgaaGreat
open Go.RowKit
set_option linter.unusedVariables false
set_option linter.unusedSimpArgs false
set_option maxRecDepth 20000
mutual
def szT:Ty→Nat
 | .mk _ xs=>1+szTs xs
def szTs:List Ty→Nat
 | []=>0
 | x :: xs=>szT x+szTs xs
end
mutual
def depT:Ty→Nat
 | .mk _ xs=>depTs xs+1
def depTs:List Ty→Nat
 | []=>0
 | x :: xs=>max (depT x) (depTs xs)
end
theorem szTs_app:∀ (a b:List Ty),szTs (a++b)=szTs a+szTs b
 | [],b=>by rw [List.nil_append,szTs];omega
 | x :: a,b=>by rw [List.cons_append,szTs,szTs,szTs_app a b];omega
theorem depTs_app:∀ (a b:List Ty),depTs (a++b)=max (depTs a) (depTs b)
 | [],b=>by rw [List.nil_append,depTs];omega
 | x :: a,b=>by rw [List.cons_append,depTs,depTs,depTs_app a b];omega
theorem szTs_snoc (xs:List Ty) (k:Nat) (h:k<xs.length):szTs (xs.take (k+1))=szTs (xs.take k)+szT xs[k]! := by
 rw [take_snoc xs k h,szTs_app,szTs,szTs];omega
theorem depTs_snoc (xs:List Ty) (k:Nat) (h:k<xs.length):depTs (xs.take (k+1))=max (depTs (xs.take k)) (depT xs[k]!):=by
 rw [take_snoc xs k h,depTs_app,depTs,depTs];omega
mutual
theorem szT_le : ∀ t : Ty, szT t ≤ szL (tyC t) + 1
  | .mk k xs => by
    have h := szTs_le xs
    simp only [tyC, szL, szD]
    rw [szT]; omega
theorem szTs_le : ∀ xs : List Ty, szTs xs ≤ szL (tysC xs) + xs.length
  | [] => by rw [szTs]; omega
  | x :: xs => by
    have h1 := szT_le x
    have h2 := szTs_le xs
    rw [szTs, tysC, szL_append, List.length_cons]; omega
end
mutual
theorem depT_le:∀ t:Ty,depT t≤szT t
 | .mk k xs=>by have h:=depTs_le xs;rw [depT,szT];omega
theorem depTs_le : ∀ xs : List Ty, depTs xs ≤ szTs xs
  | [] => by rw [depTs]; omega
  | x :: xs => by
    have h1 := depT_le x
    have h2 := depTs_le xs
    rw [depTs, szTs]; omega
end
theorem szTs_take (xs:List Ty) (k:Nat):szTs (xs.take k)≤szTs xs:=by
 have e:szTs xs=szTs (xs.take k)+szTs (xs.drop k):=by rw [← szTs_app,List.take_append_drop]
 omega
theorem con_l1Max (a b:Nat):Con Tryz.prog 76 [.one (.int a),.one (.int b)] [.one (.int ((max a b:Nat):Int))]:=by
 refine con_run Tryz.func76 rfl rfl (by simp [Tryz.ntmps76]) ?_
 by_cases h:(b:Int)<(a:Int)
 ·have e:max a b=a:=by omega
  rw [e]
  exact byP (fc h (fc Tryz.ntmps76 Tryz.results76)) True.intro
 ·have e:max a b=b:=by omega
  rw [e]
  exact byP (fc h (fc Tryz.ntmps76 Tryz.results76)) True.intro
theorem con_DepthTyS:∀ t:Ty,szL (tyC t)≤1000000000→Con Tryz.prog 230 [.ag (tyC t)] [.one (.int (depT t))]:=by
 refine Ty.ind fun kd xs ih hz => ?_
 have hz':xs.length+szL (tysC xs)≤1000000000:=by simpa [tyC,szL,szD] using hz
 have hd:=depTs_le xs
 have hs0:=szTs_le xs
 refine con_run Tryz.func230 rfl rfl (by simp [Tryz.ntmps230]) ?_
 refine byP (fc Tryz.ntmps230 tyC.eq_1) ?_
 refine sw_loop (fun k:Nat=>k≤xs.length) (fun k=>⟨22,[(4,.i k),(3,.i (depTs (xs.take k))),(1,.bx 0 0)],[(0,[.i kd,.br (.rows 2 xs.length (tysC xs))])],[],1,[]⟩) (fun k=>xs.length-k) 0 id (Nat.zero_le _) ?_ ?_
 ·exact byP depTs.eq_1 True.intro
 ·rintro k hk
  refine sw_run 200 _ _ _ ?_
  by_cases hlt:k<xs.length
  ·have hi:(k:Int)<(xs.length:Int):=by omega
   have hR:=tysC_row' xs k hlt
   have hm:=mem_bang hlt
   have hs:=szL_tys' xs k hlt
   have hst:=depTs_snoc xs k hlt
   have hrec:=ih _ hm (by omega)
   refine byP (fc hi hR) ?_
   refine sw_call hrec rfl (aAs_ok ?_) ?_ (sw_run 200 _ _ _ ?_)
   ·exact byQ True.intro
   ·simp only [okR]
   refine byQ ?_
   refine sw_call (con_l1Max (depTs (xs.take k)) (depT xs[k]!)) rfl (aAs_ok ?_) ?_ (sw_run 200 _ _ _ ?_)
   ·exact byQ True.intro
   ·simp only [okR]
   refine byQ ?_
   refine ⟨by unfold inI;omega,k+1,id,by omega,by omega, ?_⟩
   exact byP hst True.intro
  ·have hi:¬ (k:Int)<(xs.length:Int):=by omega
   obtain rfl:k=xs.length:=by omega
   have hT:((depT (.mk kd xs):Nat):Int)=(depTs xs:Int)+1:=by rw [depT];rfl
   rw [hT]
   refine byP hi ?_
   refine sw_run 200 _ _ _ ?_
   simp only [push_cast,↓reduceIte,Nat.reduceLT,Nat.reduceEqDiff,reduceCtorEq,List.take_length,Tryz.results230]
   unfold inI;omega
theorem con_DepthTyI:∀ t:Ty,szL (tyC t)≤1000000000→Con Tryz.prog 260 [.ag (tyC t)] [.one (.int (depT t))]:=by
 refine Ty.ind fun kd xs ih hz => ?_
 have hz':xs.length+szL (tysC xs)≤1000000000:=by simpa [tyC,szL,szD] using hz
 have hd:=depTs_le xs
 have hs0:=szTs_le xs
 refine con_run Tryz.func260 rfl rfl (by simp [Tryz.ntmps260]) ?_
 refine byP (fc Tryz.ntmps260 tyC.eq_1) ?_
 refine sw_loop (fun k:Nat=>k≤xs.length) (fun k=>⟨20,[(9,.i k),(8,.i xs.length),(7,.br (.rows 2 xs.length (tysC xs))),(3,.i (depTs (xs.take k)))],[],[],0,[]⟩) (fun k=>xs.length-k) 0 id (Nat.zero_le _) ?_ ?_
 ·exact byP depTs.eq_1 True.intro
 ·rintro k hk
  refine sw_run 200 _ _ _ ?_
  by_cases hlt:k<xs.length
  ·have hi:(k:Int)<(xs.length:Int):=by omega
   have hR:=tysC_row' xs k hlt
   have hm:=mem_bang hlt
   have hs:=szL_tys' xs k hlt
   have hst:=depTs_snoc xs k hlt
   have hrec:=ih _ hm (by omega)
   have hmx:(if (depTs (xs.take k):Int)<(depT xs[k]! : Int) then (depT xs[k]! : Int) else (depTs (xs.take k):Int))=((depTs (xs.take (k+1)):Nat):Int):=by rw [hst];split <;> omega
   refine byP (fc hi hR) ?_
   refine sw_call hrec rfl (aAs_ok ?_) ?_ (sw_run 200 _ _ _ ?_)
   ·exact byQ True.intro
   ·simp only [okR]
   refine byP hmx ?_
   refine ⟨by unfold inI;omega,k+1,id,by omega,by omega, ?_⟩
   exact byQ True.intro
  ·have hi:¬ (k:Int)<(xs.length:Int):=by omega
   obtain rfl:k=xs.length:=by omega
   have hT:((depT (.mk kd xs):Nat):Int)=(depTs xs:Int)+1:=by rw [depT];rfl
   rw [hT]
   refine byP hi ?_
   refine sw_run 200 _ _ _ ?_
   simp only [push_cast,↓reduceIte,Nat.reduceLT,Nat.reduceEqDiff,reduceCtorEq,List.take_length,Tryz.results260]
   unfold inI;omega
theorem con_SizeTyI:∀ t:Ty,szL (tyC t)≤1000000000→Con Tryz.prog 259 [.ag (tyC t)] [.one (.int (szT t))]:=by
 refine Ty.ind fun kd xs ih hz => ?_
 have hz':xs.length+szL (tysC xs)≤1000000000:=by simpa [tyC,szL,szD] using hz
 have hs0:=szTs_le xs
 refine con_run Tryz.func259 rfl rfl (by simp [Tryz.ntmps259]) ?_
 refine byP (fc Tryz.ntmps259 tyC.eq_1) ?_
 refine sw_loop (fun k:Nat=>k≤xs.length) (fun k=>⟨19,[(9,.i k),(8,.i xs.length),(7,.br (.rows 2 xs.length (tysC xs))),(3,.i (1+(szTs (xs.take k):Int)))],[],[],0,[]⟩) (fun k=>xs.length-k) 0 id (Nat.zero_le _) ?_ ?_
 ·exact byP szTs.eq_1 True.intro
 ·rintro k hk
  refine sw_run 200 _ _ _ ?_
  by_cases hlt:k<xs.length
  ·have hi:(k:Int)<(xs.length:Int):=by omega
   have hR:=tysC_row' xs k hlt
   have hm:=mem_bang hlt
   have hs:=szL_tys' xs k hlt
   have hst:=szTs_snoc xs k hlt
   have hle:=szTs_take xs (k+1)
   have hrec:=ih _ hm (by omega)
   refine byP (fc hi hR) ?_
   refine sw_call hrec rfl (aAs_ok ?_) ?_ (sw_run 200 _ _ _ ?_)
   ·exact byQ True.intro
   ·simp only [okR]
   refine byQ ?_
   refine ⟨by unfold inI;omega,by unfold inI;omega,k+1,id,by omega,by omega, ?_⟩
   simp only [push_cast,Sub,subT,subB,subO,subP,inj,AV.ren,AV.lt,↓reduceIte,Nat.reduceEqDiff,cast1,hst,Int.natCast_add,Int.add_assoc]
  ·have hi:¬ (k:Int)<(xs.length:Int):=by omega
   obtain rfl:k=xs.length:=by omega
   have hT:((szT (.mk kd xs):Nat):Int)=1+(szTs xs:Int):=by rw [szT];omega
   rw [hT]
   refine byP hi ?_
   refine sw_run 200 _ _ _ ?_
   simp only [push_cast,↓reduceIte,Nat.reduceLT,Nat.reduceEqDiff,reduceCtorEq,List.take_length,Tryz.results259]
mutual
def lfT:Ty→Int→Int
 | .mk _ xs,l=>lfTs xs (l-1)
def lfTs:List Ty→Int→Int
 | [],l=>l
 | x :: xs,l=>if l<0 then l else lfTs xs (lfT x l)
end
mutual
theorem lfT_ok : ∀ (t : Ty) (l : Int), (l < szT t → lfT t l < 0) ∧ (szT t ≤ l → lfT t l = l - szT t)
  | .mk k xs, l => by
    have h := lfTs_ok xs (l - 1)
    rw [lfT, szT]
    refine ⟨fun h1 => h.1 (by omega), fun h1 => ?_⟩
    rw [h.2 (by omega) (by omega)]; omega
theorem lfTs_ok : ∀ (xs : List Ty) (l : Int), (l < szTs xs → lfTs xs l < 0) ∧ (0 ≤ l → szTs xs ≤ l → lfTs xs l = l - szTs xs)
  | [], l => by rw [lfTs, szTs]; exact ⟨fun h => by omega, fun _ _ => by omega⟩
  | x :: xs, l => by
    have h1 := lfT_ok x l
    have h2 := lfTs_ok xs (lfT x l)
    rw [lfTs, szTs]
    by_cases h0 : l < 0
    · rw [if_pos h0]; exact ⟨fun _ => h0, fun h _ => by omega⟩
    · rw [if_neg h0]
      by_cases h3 : (szT x : Int) ≤ l
      · have h4 := h1.2 h3
        exact ⟨fun h => h2.1 (by omega), fun _ h => by rw [h2.2 (by omega) (by omega)]; omega⟩
      · have h4 := h1.1 (by omega)
        have h5 : lfTs xs (lfT x l) < 0 := by
          cases xs with
          | nil => rw [lfTs]; exact h4
          | cons y ys => rw [lfTs, if_pos h4]; exact h4
        exact ⟨fun _ => h5, fun _ h => by omega⟩
end
mutual
theorem lfT_rng : ∀ (t : Ty) (l : Int), 0 ≤ l → -1 ≤ lfT t l ∧ lfT t l ≤ l
  | .mk k xs, l, h => by
    have h1 := lfTs_rng xs (l - 1) (by omega)
    rw [lfT]; omega
theorem lfTs_rng : ∀ (xs : List Ty) (l : Int), -1 ≤ l → -1 ≤ lfTs xs l ∧ lfTs xs l ≤ l
  | [], l, h => by rw [lfTs]; omega
  | x :: xs, l, h => by
    rw [lfTs]
    split
    · omega
    · have h1 := lfT_rng x l (by omega)
      have h2 := lfTs_rng xs (lfT x l) (by omega)
      omega
end
theorem lfTs_neg (xs:List Ty) (l:Int) (h:l<0):lfTs xs l=l:=by
 cases xs with
 | nil=>rw [lfTs]
 | cons x xs=>rw [lfTs,if_pos h]
theorem lfTs_step (xs:List Ty) (k:Nat) (l:Int) (h:k<xs.length) (h0:0≤l):lfTs (xs.drop k) l=lfTs (xs.drop (k+1)) (lfT xs[k]! l):=by
 rw [List.drop_eq_getElem_cons h,lfTs,if_neg (by omega),getElem!_pos xs k h]
theorem con_l3Left:∀ t:Ty,szL (tyC t)≤1000000000→∀ l:Int,0≤l→l≤1000000→Con Tryz.prog 229 [.ag (tyC t),.one (.int l)] [.one (.int (lfT t l))]:=by
 refine Ty.ind fun kd xs ih hz l h0 h1 => ?_
 have hz':xs.length+szL (tysC xs)≤1000000000:=by simpa [tyC,szL,szD] using hz
 have hT:lfT (.mk kd xs) l=lfTs xs (l-1):=by rw [lfT]
 rw [hT]
 refine con_run Tryz.func229 rfl rfl (by simp [Tryz.ntmps229]) ?_
 refine byP (fc Tryz.ntmps229 tyC.eq_1) ?_
 refine ⟨by unfold inI;omega, ?_⟩
 refine sw_loop (fun i:Nat × Int=>i.1≤xs.length∧lfTs (xs.drop i.1) i.2=lfTs xs (l-1) ∧ -1≤i.2∧i.2≤1000000) (fun i=>⟨27,[(5,.i i.1),(1,.i i.2),(2,.bx 0 0)],[(0,[.i kd,.br (.rows 2 xs.length (tysC xs))])],[],1,[]⟩) (fun i=>xs.length-i.1) (0,l-1) id ⟨Nat.zero_le _,rfl,by omega,by omega⟩ ?_ ?_
 ·exact byQ True.intro
 ·rintro ⟨k,c⟩ ⟨hk,hc,hc0,hc1⟩
  simp only at hk hc hc0 hc1 ⊢
  refine sw_run 200 _ _ _ ?_
  by_cases hlt:k<xs.length
  ·have hi:(k:Int)<(xs.length:Int):=by omega
   by_cases hn:0≤c
   ·have hR:=tysC_row' xs k hlt
    have hm:=mem_bang hlt
    have hs:=szL_tys' xs k hlt
    have hrec:=ih _ hm (by omega) c hn hc1
    have hst:=lfTs_step xs k c hlt hn
    have hrg:=lfT_rng xs[k]! c hn
    rw [hst] at hc
    refine byP (fc hi (fc hn hR)) ?_
    refine sw_call hrec rfl (aAs_ok ?_) ?_ (sw_run 200 _ _ _ ?_)
    ·exact byQ True.intro
    ·simp only [okR]
    refine byQ ?_
    refine ⟨by unfold inI;omega,(k+1,lfT xs[k]! c),id,⟨hlt,hc,hrg.1,by omega⟩,by simp only;omega, ?_⟩
    exact byQ True.intro
   ·rw [lfTs_neg _ c (by omega)] at hc
    refine byP (fc hi hn) ?_
    refine sw_run 200 _ _ _ ?_
    simp only [push_cast,↓reduceIte,Nat.reduceLT,Nat.reduceEqDiff,reduceCtorEq,← hc,Tryz.results229]
  ·have hi:¬ (k:Int)<(xs.length:Int):=by omega
   rw [List.drop_of_length_le (by omega),lfTs] at hc
   refine byP hi ?_
   refine sw_run 200 _ _ _ ?_
   simp only [push_cast,↓reduceIte,Nat.reduceLT,Nat.reduceEqDiff,reduceCtorEq,← hc,Tryz.results229]
def shB (k:Int) (n:Nat):Bool:=if k=1∨k=2 then decide ((n:Int)=0) else if k=3 then decide ((n:Int)=2) else if k=4 then decide ((n:Int)=1) else false
mutual
def formT:Ty→Bool
 | .mk k xs=>formTs xs && shB k xs.length
def formTs:List Ty→Bool
 | []=>true
 | x :: xs=>formT x && formTs xs
end
theorem formTs_drop (xs:List Ty) (k:Nat) (h:k<xs.length):formTs (xs.drop k)=(formT xs[k]! && formTs (xs.drop (k+1))):=by
 rw [List.drop_eq_getElem_cons h,formTs,getElem!_pos xs k h]
theorem con_l3Form:∀ t:Ty,szL (tyC t)≤1000000000→Con Tryz.prog 231 [.ag (tyC t)] [.one (.bool (formT t))]:=by
 refine Ty.ind fun kd xs ih hz => ?_
 have hz':xs.length+szL (tysC xs)≤1000000000:=by simpa [tyC,szL,szD] using hz
 have hT:formT (.mk kd xs)=(formTs xs && shB kd xs.length):=by rw [formT]
 rw [hT]
 refine con_run Tryz.func231 rfl rfl (by simp [Tryz.ntmps231]) ?_
 refine byP (fc Tryz.ntmps231 tyC.eq_1) ?_
 refine sw_loop (fun k:Nat=>k≤xs.length∧formTs (xs.drop k)=formTs xs) (fun k=>⟨39,[(3,.i k),(1,.bx 0 0)],[(0,[.i kd,.br (.rows 2 xs.length (tysC xs))])],[],1,[]⟩) (fun k=>xs.length-k) 0 id ⟨Nat.zero_le _,rfl⟩ ?_ ?_
 ·exact byQ True.intro
 ·rintro k ⟨hk,hf⟩
  refine sw_run 200 _ _ _ ?_
  by_cases hlt:k<xs.length
  ·have hi:(k:Int)<(xs.length:Int):=by omega
   have hR:=tysC_row' xs k hlt
   have hm:=mem_bang hlt
   have hs:=szL_tys' xs k hlt
   have hrec:=ih _ hm (by omega)
   rw [formTs_drop xs k hlt] at hf
   obtain ⟨b,hb⟩:∃ b,b=formT xs[k]! := ⟨_,rfl⟩
   rw [← hb] at hrec hf
   refine byP (fc hi hR) ?_
   refine sw_call hrec rfl (aAs_ok ?_) ?_ (sw_run 200 _ _ _ ?_)
   ·exact byQ True.intro
   ·simp only [okR]
   cases b
   ·rw [Bool.false_and] at hf
    simp only [push_cast,↓reduceIte,Nat.reduceLT,reduceCtorEq,← hf,Tryz.results231]
   ·refine byQ ?_
    refine ⟨by unfold inI;omega,k+1,id,⟨by omega,by simpa using hf⟩,by omega, ?_⟩
    exact byQ True.intro
  ·have hi:¬ (k:Int)<(xs.length:Int):=by omega
   rw [List.drop_of_length_le (by omega),formTs] at hf
   rw [← hf,Bool.true_and,shB]
   refine byP hi ?_
   refine sw_run 200 _ _ _ ?_
   by_cases e1:kd=1
   ·exact byP (fc (eq_true e1) Tryz.results231) True.intro
   by_cases e2:kd=2
   ·exact byP (fc e1 (fc (eq_true e2) Tryz.results231)) True.intro
   by_cases e3:kd=3
   ·exact byP (fc e1 (fc e2 (fc (eq_true e3) Tryz.results231))) True.intro
   by_cases e4:kd=4
   ·exact byP (fc e1 (fc e2 (fc e3 (fc (eq_true e4) Tryz.results231)))) True.intro
   exact byP (fc e1 (fc e2 (fc e3 (fc e4 Tryz.results231)))) True.intro
def vTy (t:Ty):Bool:=decide ((szT t:Int)≤30) && (decide ((depT t:Int)≤8) && formT t)
theorem con_ValidTyS (t:Ty) (hz:szL (tyC t)≤1000000000):Con Tryz.prog 172 [.ag (tyC t)] [.one (.bool (vTy t))]:=by
 have hl:=con_l3Left t hz 30 (by omega) (by omega)
 have hlo:=lfT_ok t 30
 have hd:=con_DepthTyS t hz
 have hf:=con_l3Form t hz
 refine con_run Tryz.func172 rfl rfl (by simp [Tryz.ntmps172]) ?_
 refine byP Tryz.ntmps172 ?_
 refine sw_call hl rfl (aAs_ok ?_) ?_ (sw_run 200 _ _ _ ?_)
 ·exact byQ True.intro
 ·simp only [okR]
 by_cases h1:(szT t:Int)≤30
 case neg =>
  have hneg:¬ 0≤lfT t 30:=by have:=hlo.1 (by omega);omega
  have hv:vTy t=false:=by rw [vTy,decide_eq_false h1];rfl
  rw [hv]
  exact byP (fc hneg Tryz.results172) True.intro
 have hpos:0≤lfT t 30:=by rw [hlo.2 (by omega)];omega
 refine byP hpos ?_
 refine sw_call hd rfl (aAs_ok ?_) ?_ (sw_run 200 _ _ _ ?_)
 ·exact byQ True.intro
 ·simp only [okR]
 by_cases h2:(depT t:Int)≤8
 case neg =>
  have hv:vTy t=false:=by rw [vTy,decide_eq_false h2,Bool.false_and,Bool.and_false]
  rw [hv]
  exact byP (fc h2 Tryz.results172) True.intro
 have hv:vTy t=formT t:=by rw [vTy,decide_eq_true h1,decide_eq_true h2];rfl
 rw [hv]
 refine byP h2 ?_
 refine sw_call hf rfl (aAs_ok ?_) ?_ (sw_run 200 _ _ _ ?_)
 ·exact byQ True.intro
 ·simp only [okR]
 exact byP Tryz.results172 True.intro
def fg {α:Type} (p:α→Bool):List α→Int→Int
 | [],_ => -1
 | x :: xs,i=>if p x=true then i else fg p xs (i+1)
theorem fg_step {α:Type} [Inhabited α] (p:α→Bool) (xs:List α) (k:Nat) (h:k<xs.length):fg p (xs.drop k) k=if p xs[k]! = true then (k:Int) else fg p (xs.drop (k+1)) ((k+1:Nat):Int):=by
 rw [List.drop_eq_getElem_cons h,getElem!_pos xs k h];rfl
theorem fg_end {α:Type} (p:α→Bool) (xs:List α) (k:Nat) (h:xs.length≤k) (i:Int):fg p (xs.drop k) i = -1:=by rw [List.drop_of_length_le h];rfl
theorem fg_any {α : Type} (p : α → Bool) : ∀ (xs : List α) (i : Int), 0 ≤ i → decide (0 ≤ fg p xs i) = xs.any p
  | [], i, _ => rfl
  | x :: xs, i, h => by
    rw [fg, List.any_cons]
    cases e : p x
    · rw [if_neg (by simp), fg_any p xs (i + 1) (by omega)]; rfl
    · rw [if_pos rfl, decide_eq_true h]; rfl
theorem con_IdxTy (q:Ty→Bool) (g h:FuncId) (xs:List Ty) (hl:xs.length≤1000000000) (hp:∀ x ∈ xs,Con Tryz.prog g [.ag (tyC x),.rf [.fn h []]] [.one (.bool (q x))]):Con Tryz.prog 276 [.one (.rows 2 xs.length (tysC xs)),.fn g [.rf [.fn h []]]] [.one (.int (fg q xs 0))]:=by
 refine con_run Tryz.func276 rfl rfl (by simp [Tryz.ntmps276]) ?_
 refine byP Tryz.ntmps276 ?_
 refine sw_loop (fun k:Nat=>k≤xs.length∧fg q (xs.drop k) k=fg q xs 0) (fun k=>⟨19,[(8,.i k),(7,.i xs.length),(0,.br (.rows 2 xs.length (tysC xs))),(1,.fn g [.rp [.fn h []]])],[],[],0,[]⟩) (fun k=>xs.length-k) 0 id ⟨Nat.zero_le _,rfl⟩ ?_ ?_
 ·exact byQ True.intro
 ·rintro k ⟨hk,hf⟩
  refine sw_run 200 _ _ _ ?_
  by_cases hlt:k<xs.length
  ·have hi:(k:Int)<(xs.length:Int):=by omega
   have hR:=tysC_row' xs k hlt
   have hpc:=hp _ (mem_bang hlt)
   rw [fg_step q xs k hlt] at hf
   obtain ⟨b,hb⟩:∃ b,b=q xs[k]! := ⟨_,rfl⟩
   rw [← hb] at hf hpc
   refine byP (fc hi hR) ?_
   refine sw_call (hpc) rfl (aAs_ok ?_) ?_ (sw_run 200 _ _ _ ?_)
   ·exact byQ True.intro
   ·simp only [okR]
   cases b
   ·rw [if_neg (by simp)] at hf
    refine byQ ?_
    refine ⟨by unfold inI;omega,k+1,id,⟨by omega,hf⟩,by omega, ?_⟩
    exact byQ True.intro
   ·rw [if_pos rfl] at hf
    refine byP Tryz.results276 ?_
    exact hf
  ·have hi:¬ (k:Int)<(xs.length:Int):=by omega
   rw [fg_end q xs k (by omega)] at hf
   refine byP hi ?_
   refine sw_run 200 _ _ _ ?_
   simp only [push_cast,↓reduceIte,Nat.reduceLT,reduceCtorEq,Int.reduceNeg,← hf,Tryz.results276]
theorem con_ContTy (q:Ty→Bool) (g h:FuncId) (xs:List Ty) (hl:xs.length≤1000000000) (hp:∀ x ∈ xs,Con Tryz.prog g [.ag (tyC x),.rf [.fn h []]] [.one (.bool (q x))]):Con Tryz.prog 262 [.one (.rows 2 xs.length (tysC xs)),.fn g [.rf [.fn h []]]] [.one (.bool (xs.any q))]:=by
 have hc:=con_IdxTy q g h xs hl hp
 rw [← fg_any q xs 0 (by omega)]
 refine con_run Tryz.func262 rfl rfl (by simp [Tryz.ntmps262]) ?_
 refine byP Tryz.ntmps262 ?_
 refine sw_call (hc) rfl (aAs_ok ?_) ?_ (sw_run 200 _ _ _ ?_)
 ·exact byQ True.intro
 ·simp only [okR]
 exact byP Tryz.results262 True.intro
theorem con_IdxTm (q:Tm→Bool) (g h:FuncId) (xs:List Tm) (hl:xs.length≤1000000000) (hp:∀ x ∈ xs,Con Tryz.prog g [.ag (tmC x),.rf [.fn h []]] [.one (.bool (q x))]):Con Tryz.prog 258 [.one (.rows 9 xs.length (tmsC xs)),.fn g [.rf [.fn h []]]] [.one (.int (fg q xs 0))]:=by
 refine con_run Tryz.func258 rfl rfl (by simp [Tryz.ntmps258]) ?_
 refine byP Tryz.ntmps258 ?_
 refine sw_loop (fun k:Nat=>k≤xs.length∧fg q (xs.drop k) k=fg q xs 0) (fun k=>⟨19,[(8,.i k),(7,.i xs.length),(0,.br (.rows 9 xs.length (tmsC xs))),(1,.fn g [.rp [.fn h []]])],[],[],0,[]⟩) (fun k=>xs.length-k) 0 id ⟨Nat.zero_le _,rfl⟩ ?_ ?_
 ·exact byQ True.intro
 ·rintro k ⟨hk,hf⟩
  refine sw_run 200 _ _ _ ?_
  by_cases hlt:k<xs.length
  ·have hi:(k:Int)<(xs.length:Int):=by omega
   have hR:=tmsC_row' xs k hlt
   have hpc:=hp _ (mem_bang hlt)
   rw [fg_step q xs k hlt] at hf
   obtain ⟨b,hb⟩:∃ b,b=q xs[k]! := ⟨_,rfl⟩
   rw [← hb] at hf hpc
   refine byP (fc hi hR) ?_
   refine sw_call (hpc) rfl (aAs_ok ?_) ?_ (sw_run 200 _ _ _ ?_)
   ·exact byQ True.intro
   ·simp only [okR]
   cases b
   ·rw [if_neg (by simp)] at hf
    refine byQ ?_
    refine ⟨by unfold inI;omega,k+1,id,⟨by omega,hf⟩,by omega, ?_⟩
    exact byQ True.intro
   ·rw [if_pos rfl] at hf
    refine byP Tryz.results258 ?_
    exact hf
  ·have hi:¬ (k:Int)<(xs.length:Int):=by omega
   rw [fg_end q xs k (by omega)] at hf
   refine byP hi ?_
   refine sw_run 200 _ _ _ ?_
   simp only [push_cast,↓reduceIte,Nat.reduceLT,reduceCtorEq,Int.reduceNeg,← hf,Tryz.results258]
theorem con_ContTm (q:Tm→Bool) (g h:FuncId) (xs:List Tm) (hl:xs.length≤1000000000) (hp:∀ x ∈ xs,Con Tryz.prog g [.ag (tmC x),.rf [.fn h []]] [.one (.bool (q x))]):Con Tryz.prog 206 [.one (.rows 9 xs.length (tmsC xs)),.fn g [.rf [.fn h []]]] [.one (.bool (xs.any q))]:=by
 have hc:=con_IdxTm q g h xs hl hp
 rw [← fg_any q xs 0 (by omega)]
 refine con_run Tryz.func206 rfl rfl (by simp [Tryz.ntmps206]) ?_
 refine byP Tryz.ntmps206 ?_
 refine sw_call (hc) rfl (aAs_ok ?_) ?_ (sw_run 200 _ _ _ ?_)
 ·exact byQ True.intro
 ·simp only [okR]
 exact byP Tryz.results206 True.intro
mutual
def allTy (p:Ty→Bool):Ty→Bool
 | .mk k xs=>p (.mk k xs) && allTys p xs
def allTys (p:Ty→Bool):List Ty→Bool
 | []=>true
 | x :: xs=>allTy p x && allTys p xs
end
theorem allTys_any (p:Ty→Bool):∀ xs:List Ty,allTys p xs = !xs.any fun x => !allTy p x
 | []=>rfl
 | x :: xs=>by rw [allTys,List.any_cons,allTys_any p xs];cases allTy p x <;> simp
mutual
def allTm (p:Tm→Bool):Tm→Bool
 | .mk k s o n t r xs=>p (.mk k s o n t r xs) && allTms p xs
def allTms (p:Tm→Bool):List Tm→Bool
 | []=>true
 | x :: xs=>allTm p x && allTms p xs
end
theorem allTms_any (p:Tm→Bool):∀ xs:List Tm,allTms p xs = !xs.any fun x => !allTm p x
 | []=>rfl
 | x :: xs=>by rw [allTms,List.any_cons,allTms_any p xs];cases allTm p x <;> simp
theorem allTm_eq (p:Tm→Bool) (t:Tm):allTm p t=(p t && allTms p t.args):=by obtain ⟨k,s,o,n,ty,r,xs⟩:=t;rw [allTm];rfl
theorem con_allTypes (p:Ty→Bool) (h:FuncId) (B:Nat) (hB:B≤1000000000) (hp:∀ t:Ty,szL (tyC t)≤B→Con Tryz.prog h [.ag (tyC t)] [.one (.bool (p t))]):∀ t:Ty,szL (tyC t)≤B→Con Tryz.prog 209 [.ag (tyC t),.fn h []] [.one (.bool (allTy p t))]:=by
 refine Ty.ind fun kd xs ih hz => ?_
 have hz':xs.length+szL (tysC xs)≤B:=by simpa [tyC,szL,szD] using hz
 have h0:=hp (.mk kd xs) hz
 have hin:∀ x ∈ xs,Con Tryz.prog 263 [.ag (tyC x),.rf [.fn h []]] [.one (.bool (!allTy p x))]:=fun x hx=>by
  have hr:=ih x hx (by
   have:=szL_mem tyC xs x hx
   rw [← tysC_flat] at this
   omega)
  obtain ⟨b,hb⟩:∃ b,b=allTy p x:=⟨_,rfl⟩
  rw [← hb] at hr ⊢
  refine con_run Tryz.func263 rfl rfl (by simp [Tryz.ntmps263]) ?_
  refine byP Tryz.ntmps263 ?_
  refine sw_call (hr) rfl (aAs_ok ?_) ?_ (sw_run 200 _ _ _ ?_)
  ·exact byQ True.intro
  ·simp only [okR]
  exact byP Tryz.results263 True.intro
 have hc:=con_ContTy (fun x => !allTy p x) 263 h xs (by omega) hin
 rw [allTy,allTys_any]
 obtain ⟨b,hb⟩:∃ b,b=p (.mk kd xs):=⟨_,rfl⟩
 obtain ⟨c,hcc⟩:∃ c,c=xs.any fun x => !allTy p x:=⟨_,rfl⟩
 rw [← hb] at h0 ⊢
 rw [← hcc] at hc ⊢
 refine con_run Tryz.func209 rfl rfl (by simp [Tryz.ntmps209]) ?_
 refine byP (fc tyC.eq_1 Tryz.ntmps209) ?_
 refine sw_call (h0) rfl (aAs_ok ?_) ?_ (sw_run 200 _ _ _ ?_)
 ·exact byP tyC.eq_1 True.intro
 ·simp only [okR]
 cases b
 ·exact byP Tryz.results209 True.intro
 refine byQ ?_
 refine sw_call (hc) rfl (aAs_ok ?_) ?_ (sw_run 200 _ _ _ ?_)
 ·exact byQ True.intro
 ·simp only [okR]
 exact byP Tryz.results209 True.intro
theorem con_allTerms (p:Tm→Bool) (h:FuncId) (B:Nat) (hB:B≤1000000000) (hp:∀ t:Tm,szL (tmC t)≤B→Con Tryz.prog h [.ag (tmC t)] [.one (.bool (p t))]):∀ t:Tm,szL (tmC t)≤B→Con Tryz.prog 131 [.ag (tmC t),.fn h []] [.one (.bool (allTm p t))]:=by
 refine Tm.ind fun t ih hz => ?_
 obtain ⟨h5,h7,h8⟩:=sz_parts hz
 have h0:=hp t hz
 have hin:∀ x ∈ t.args,Con Tryz.prog 207 [.ag (tmC x),.rf [.fn h []]] [.one (.bool (!allTm p x))]:=fun x hx=>by
  have hr:=ih x hx (by
   have:=szL_mem tmC t.args x hx
   rw [← tmsC_flat] at this
   omega)
  obtain ⟨b,hb⟩:∃ b,b=allTm p x:=⟨_,rfl⟩
  rw [← hb] at hr ⊢
  refine con_run Tryz.func207 rfl rfl (by simp [Tryz.ntmps207]) ?_
  refine byP Tryz.ntmps207 ?_
  refine sw_call (hr) rfl (aAs_ok ?_) ?_ (sw_run 200 _ _ _ ?_)
  ·exact byQ True.intro
  ·simp only [okR]
  exact byP Tryz.results207 True.intro
 have hc:=con_ContTm (fun x => !allTm p x) 207 h t.args (by omega) hin
 rw [allTm_eq,allTms_any]
 obtain ⟨b,hb⟩:∃ b,b=p t:=⟨_,rfl⟩
 obtain ⟨c,hcc⟩:∃ c,c=t.args.any fun x => !allTm p x:=⟨_,rfl⟩
 rw [← hb] at h0 ⊢
 rw [← hcc] at hc ⊢
 refine con_run Tryz.func131 rfl rfl (by simp [Tryz.ntmps131]) ?_
 refine byP Tryz.ntmps131 ?_
 refine sw_call (h0) rfl (aAs_ok ?_) ?_ (sw_run 200 _ _ _ ?_)
 ·exact byQ True.intro
 ·simp only [okR]
 cases b
 ·exact byP Tryz.results131 True.intro
 refine byQ ?_
 refine sw_call (hc) rfl (aAs_ok ?_) ?_ (sw_run 200 _ _ _ ?_)
 ·exact byQ True.intro
 ·simp only [okR]
 exact byP Tryz.results131 True.intro
def shTy (t:Ty):Bool:=shB t.kind t.args.length
mutual
theorem formT_all:∀ t:Ty,formT t=allTy shTy t
 | .mk k xs=>by rw [formT,allTy,formTs_all xs];show _=(shB k xs.length && _);rw [Bool.and_comm]
theorem formTs_all:∀ xs:List Ty,formTs xs=allTys shTy xs
 | []=>by rw [formTs,allTys]
 | x :: xs=>by rw [formTs,allTys,formT_all x,formTs_all xs]
end
theorem con_ValidNode (t:Ty) (hz:szL (tyC t)≤1000000000):Con Tryz.prog 261 [.ag (tyC t)] [.one (.bool (shTy t))]:=by
 have hw:=con_within t.kind 1 4
 obtain ⟨kd,xs⟩:=t
 simp only [shTy,Ty.kind,Ty.args] at hw ⊢
 by_cases hin:1≤kd∧kd≤4
 case neg =>
  replace hw:Con Tryz.prog 82 [.one (.int kd),.one (.int 1),.one (.int 4)] [.one (.bool false)]:=by
   have e1:(decide (1≤kd) && decide (kd≤4))=false:=by simpa using hin
   exact e1 ▸ hw
  have e2:shB kd xs.length=false:=by unfold shB;rw [if_neg (by omega),if_neg (by omega),if_neg (by omega)]
  rw [e2]
  refine con_run Tryz.func261 rfl rfl (by simp [Tryz.ntmps261]) ?_
  refine byP (fc tyC.eq_1 Tryz.ntmps261) ?_
  refine sw_drawn (.cons 0 true (.cons 1 true (.cons 2 false (.cons 3 true (.cons 4 true (.cons 5 true (.cons 6 true (.cons 8 true (.cons 9 true (.cons 10 true (.cons 7 false (.cons 11 true (.cons 12 true (.cons 13 true (.cons 14 true (.cons 15 true (.nil))))))))))))))))) (by kernel_rfl) fQ_panic (by kernel_rfl) (sw_run 200 _ _ _ ?_)
  refine byQ ?_
  refine sw_callD (hw) rfl (aAs_ok ?_) ?_ (sw_run 200 _ _ _ ?_)
  ·exact byQ True.intro
  ·simp only [okR]
  exact byP Tryz.results261 True.intro
 replace hw:Con Tryz.prog 82 [.one (.int kd),.one (.int 1),.one (.int 4)] [.one (.bool true)]:=by
  have e1:(decide (1≤kd) && decide (kd≤4))=true:=by simpa using hin
  exact e1 ▸ hw
 obtain ⟨h1,h2⟩:=hin
 rcases (by omega:kd=1∨kd=2∨kd=3∨kd=4) with rfl | rfl | rfl | rfl
 all_goals
  simp only [shB]
  refine con_run Tryz.func261 rfl rfl (by simp [Tryz.ntmps261]) ?_
  refine byP (fc tyC.eq_1 Tryz.ntmps261) ?_
  refine sw_drawn (.cons 0 true (.cons 1 true (.cons 2 false (.cons 3 true (.cons 4 true (.cons 5 true (.cons 6 true (.cons 8 true (.cons 9 true (.cons 10 true (.cons 7 false (.cons 11 true (.cons 12 true (.cons 13 true (.cons 14 true (.cons 15 true (.nil))))))))))))))))) (by kernel_rfl) fQ_panic (by kernel_rfl) (sw_run 200 _ _ _ ?_)
  refine byQ ?_
  refine sw_callD (hw) rfl (aAs_ok ?_) ?_ (sw_run 200 _ _ _ ?_)
  ·exact byQ True.intro
  ·simp only [okR]
  simp only [push_cast,↓reduceIte,Nat.reduceLT,Nat.reduceAdd,Nat.reduceLeDiff,Nat.reduceEqDiff,reduceCtorEq,Int.reduceLT,Int.reduceLE,Int.reduceSub,Int.reduceNeg,Int.reduceToNat,rowAt,inI,Int.reduceToNat,Tryz.results261]
  omega
theorem con_ValidTyI (t:Ty) (hz:szL (tyC t)≤1000000000):Con Tryz.prog 208 [.ag (tyC t)] [.one (.bool (vTy t))]:=by
 have h1:=con_SizeTyI t hz
 have h2:=con_DepthTyI t hz
 have h3:=con_allTypes shTy 261 1000000000 (Nat.le_refl _) (fun t h=>con_ValidNode t h) t hz
 unfold vTy
 rw [formT_all]
 obtain ⟨c,hc⟩:∃ c,c=allTy shTy t:=⟨_,rfl⟩
 rw [← hc] at h3 ⊢
 refine con_run Tryz.func208 rfl rfl (by simp [Tryz.ntmps208]) ?_
 refine byP Tryz.ntmps208 ?_
 refine sw_call (h1) rfl (aAs_ok ?_) ?_ (sw_run 200 _ _ _ ?_)
 ·exact byQ True.intro
 ·simp only [okR]
 by_cases e1:(szT t:Int)≤30
 case neg=>simp only [push_cast,↓reduceIte,Nat.reduceLT,Nat.reduceEqDiff,reduceCtorEq,e1,Tryz.results208]
 refine byP (eq_true e1) ?_
 refine sw_call (h2) rfl (aAs_ok ?_) ?_ (sw_run 200 _ _ _ ?_)
 ·exact byQ True.intro
 ·simp only [okR]
 by_cases e2:(depT t:Int)≤8
 case neg=>simp only [push_cast,↓reduceIte,Nat.reduceLT,Nat.reduceEqDiff,reduceCtorEq,e2,Tryz.results208]
 refine byP (eq_true e2) ?_
 refine sw_call (h3) rfl (aAs_ok ?_) ?_ (sw_run 200 _ _ _ ?_)
 ·exact byQ True.intro
 ·simp only [okR]
 exact byP Tryz.results208 True.intro
end Go.Proofs.YtaidalilfmjfgaaGreat
