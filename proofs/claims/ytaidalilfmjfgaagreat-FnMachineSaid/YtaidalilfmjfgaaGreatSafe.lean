import Derived.Test.YtaidalilfmjfgaaGreatBy
namespace Go.Proofs.YtaidalilfmjfgaaGreat
open Go.Proofs.Tryz
open Go.RowKit
set_option linter.unusedVariables false
set_option linter.unusedSimpArgs false
set_option maxRecDepth 20000
def Dg (t:Ty):Bool:=(decide (t.kind=1) || decide (t.kind=2)) && decide (t.args.length=0)
theorem Fe (t:Ty):Con prog 248 [.ag (tyC t)] [.one (.bool (Dg t))]:=by
 refine Af func248 rfl rfl (by simp [ntmps248]) ?_
 refine byP (fc ntmps248 results248) ?_
 unfold Dg
 split
 ·split
  ·simp [*]
  ·simp [*]
 ·simp_all
def BH (xs:List Tg) (s:ByteArray):Nat→Int
 | 0 => -1
 | k+1=>if xs[k]!.name=s then k else BH xs s k
theorem Kz (xs:List Tg) (s:ByteArray) (hl:xs.length≤1000000000):Con prog 233 [.one (Tb xs),.one (.str s)] [.one (.int (BH xs s xs.length))]:=by
 refine Af func233 rfl rfl (by simp [ntmps233]) ?_
 refine byP (fc ntmps233 Tb.eq_1) ?_
 refine ⟨by unfold inI;omega, ?_⟩
 refine Al (fun k:Nat=>k≤xs.length∧BH xs s k=BH xs s xs.length) (fun k=>⟨21,[(5,.i (k-1)),(0,.br (.rows 4 xs.length (flC tgC xs))),(1,.s s)],[],[],0,[]⟩) (fun k=>k) xs.length id ⟨Nat.le_refl _,rfl⟩ ?_ ?_
 ·exact byQ tI
 ·rintro k ⟨hk,hlast⟩
  refine Aa 200 _ _ _ ?_
  cases k with
  | zero =>
   have hc:(((0:Nat):Int)-1) = -1:=by omega
   have h0:¬ (0:Int) ≤ -1:=by omega
   refine byP h0 ?_
   refine Aa 200 _ _ _ ?_
   simp only [fQ,aB7,rPs,LO,Gm,rD,eq_self,Ct,vE,vP,Eg,gN,Cp,Dd,AS.pt,AS.ev,AO,cav,AB,td0,td1,td2,td3,td4,td5,td6,List.map,List.nodup_nil,↓reduceIte,Nat.reduceLT,or_false,Bool.false_eq_true,reduceCtorEq,Int.reduceNeg,and_self,results233,← hlast,BH]
  | succ k =>
   have hR:=CR Ky xs k (by omega)
   have hc:(((k+1:Nat):Int)-1)=k:=by omega
   have h0:(0:Int)≤(k:Int):=by omega
   have h1:(k:Int)<(xs.length:Int):=by omega
   simp only [fQ,qLp,GB,Hf,aB7,rPs,LO,Gm,rD,eq_self,Ct,vE,vP,JP,Fp,Mo,Mn,Qw,Gz,Om,OY,Eg,isB,bv,gN,Cp,Dd,AS.pt,AS.ev,AO,cav,avB,AB,td0,td1,td2,td3,td4,td5,td6,Option.getD,Option.isSome,List.map,List.getElem?_cons_zero,List.nodup_nil,↓reduceIte,Nat.reduceLT,Nat.reduceEqDiff,Nat.add_zero,ne_eq,not_false_eq_true,true_and,and_true,or_false,Bool.false_eq_true,reduceCtorEq,Int.toNat_natCast,decide_true,and_self,decide_eq_true_eq,Nat.succ_ne_zero,results233,hc,hR,tgC,h0,h1,qLp]
   split
   ·rename_i h;rw [← hlast,BH,if_pos h]
   ·rename_i h
    refine ⟨by unfold inI;omega,k,id,⟨by omega,by rw [← hlast,BH,if_neg h]⟩,by omega, ?_⟩
    simp only [Sub,EG,EL,ED,EH,inj,AV.ren,AV.lt,eq_self,AO,td0,td1,td2,td3,td4,td5,td6,List.map,List.nodup_nil,↓reduceIte,Nat.reduceEqDiff,reduceCtorEq,and_self,Nat.succ_ne_zero]
def QH (xs:List Tg) (n:Int) (k:Nat):Prop:=Dg xs[k]!.ty=true∧xs[k]!.level≤n∧BH xs xs[k]!.name xs.length=k
instance (xs : List Tg) (n : Int) (k : Nat) : Decidable (QH xs n k) := by unfold QH; infer_instance
def Bp (xs:List Tg) (n:Int):Nat→List Tg
 | 0=>[]
 | k+1=>if QH xs n k then Bp xs n k++[xs[k]!] else Bp xs n k
theorem GV (xs:List Tg) (n:Int):∀ k,(Bp xs n k).length≤k
 | 0=>Nat.le_refl _
 | k+1=>by have:=GV xs n k;rw [Bp];split <;> simp <;> omega
theorem Hk (xs:List Tg) (n:Int) (hz:szD (Tb xs)≤1000000000):Con prog 266 [.one (Tb xs),.one (.int n)] [.one (Tb (Bp xs n xs.length))]:=by
 have hz':xs.length+szL (flC tgC xs)≤1000000000:=by simpa [Tb,szD] using hz
 refine Af func266 rfl rfl (by simp [ntmps266]) ?_
 refine byP (fc ntmps266 Tb.eq_1) ?_
 refine Al (fun k:Nat=>k≤xs.length) (fun k=>⟨61,[(6,.i k),(5,.sl 0),(0,.br (.rows 4 xs.length (flC tgC xs))),(1,.i n)],[],[(0,some ⟨.rows 4 (Bp xs n k).length (flC tgC (Bp xs n k)),some 199,true⟩)],1,[]⟩) (fun k=>xs.length-k) 0 id (Nat.zero_le _) ?_ ?_
 ·simp only [Sub,EG,EL,ED,EH,inj,AV.ren,AV.lt,eq_self,AS.owf,AO,td0,td1,td2,td3,td4,td5,td6,Option.bind,List.map,List.length,List.not_mem_nil,List.nodup_cons,List.nodup_nil,↓reduceIte,Nat.reduceLT,Nat.reduceEqDiff,not_false_eq_true,id_eq,reduceCtorEq,Int.natCast_zero,and_self,Nat.succ_ne_zero,Bp,flC,Int.natCast_zero]
 ·rintro k hk
  refine Aa 200 _ _ _ ?_
  by_cases hlt:k<xs.length
  ·have hi:(k:Int)<(xs.length:Int):=by omega
   have hR:=CR Ky xs k hlt
   have hsr:=SM tgC xs k hlt
   obtain ⟨b1,hb1⟩:∃ b,b=Dg xs[k]!.ty:=⟨_,rfl⟩
   have hw:=Fe xs[k]!.ty
   rw [← hb1,Au] at hw
   have hla:=GV xs n k
   refine byP (fc hi (fc hR tgC.eq_1)) ?_
   refine As hw rfl (Am ?_) ?_ (Aa 200 _ _ _ ?_)
   ·exact byQ tI
   ·simp only [okR]
   have hno:¬ QH xs n k→Bp xs n (k+1)=Bp xs n k:=fun h=>by rw [Bp,if_neg h]
   cases b1
   ·have hse:=hno (fun h=>by rw [QH,← hb1] at h;cases h.1)
    refine byQ ?_
    refine ⟨by unfold inI;omega,k+1,id,by omega,by omega, ?_⟩
    exact byP hse tI
   ·by_cases hv:xs[k]!.level≤n
    ·refine byP (fc hi (fc hR (fc tgC.eq_1 hv))) ?_
     refine As (Kz xs xs[k]!.name (by omega)) rfl (Am ?_) ?_ (Aa 200 _ _ _ ?_)
     ·exact byP Tb.eq_1 tI
     ·simp only [okR]
     by_cases hl:BH xs xs[k]!.name xs.length=k
     ·have hse:Bp xs n (k+1)=Bp xs n k++[xs[k]!]:=by rw [Bp,if_pos ⟨hb1.symm,hv,hl⟩]
      refine byP hl ?_
      refine Ac (oT [0,1,2,3,4,5,6,7,8,9,10,12,13,14,15,16] (.cons 11 false (.cons 17 true (oF [18,19] (.cons 20 true .nil))))) (by kernel_rfl) AD (by kernel_rfl) (Aa 200 _ _ _ ?_)
      refine byP (fc hi (fc hR tgC.eq_1)) ?_
      have hs:szL (tyC xs[k]!.ty)≤1000000000:=by rw [Au];simp only [tgC,szL,szD] at hsr ⊢; omega
      refine KD (Ba _ hs) ?_
      refine rQ ?_
      refine ⟨⟨fun o ho=>by omega,by unfold maxLen;omega,by omega⟩,by unfold inI;omega,k+1,rn1 0 3,by omega,by omega, ?_⟩
      simp only [Sub,EG,EL,ED,EH,inj,AV.ren,AV.lt,GB,eq_self,AS.owf,AO,td0,td1,td2,td3,td4,td5,td6,Option.bind,List.map,List.length,List.not_mem_nil,List.nodup_cons,List.nodup_nil,↓reduceIte,Nat.reduceLT,Nat.reduceEqDiff,Nat.zero_add,not_false_eq_true,id_eq,reduceCtorEq,and_self,Nat.succ_ne_zero,rn1,Bx,hse,AM,AA,List.length_append,tgC,GB]
     ·have hse:=hno (fun h=>hl h.2.2)
      refine byP hl ?_
      refine ⟨by unfold inI;omega,k+1,id,by omega,by omega, ?_⟩
      exact byP hse tI
    ·have hse:=hno (fun h=>hv h.2.1)
     refine byP (fc hi (fc hR (fc tgC.eq_1 hv))) ?_
     refine ⟨by unfold inI;omega,k+1,id,by omega,by omega, ?_⟩
     exact byP hse tI
  ·have hi:¬ (k:Int)<(xs.length:Int):=by omega
   obtain rfl:k=xs.length:=by omega
   refine byP hi ?_
   exact rG results266 tI
end Go.Proofs.YtaidalilfmjfgaaGreat
