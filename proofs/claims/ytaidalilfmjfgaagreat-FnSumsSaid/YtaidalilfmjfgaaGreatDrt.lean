import Derived.Test.YtaidalilfmjfgaaGreatAll
import Derived.Test.YtaidalilfmjfgaaGreatMk
import Derived.Test.YtaidalilfmjfgaaGreatStaged
import Derived.Test.YtaidalilfmjfgaaGreatPtr
import Derived.Test.YtaidalilfmjfgaaGreatDrw
import Derived.Test.YtaidalilfmjfgaaGreatBy
namespace Go.Proofs.YtaidalilfmjfgaaGreat
open Go.RowKit
set_option linter.unusedVariables false
set_option linter.unusedSimpArgs false
set_option maxRecDepth 20000
def bs (l:List UInt8):ByteArray:=⟨l.toArray⟩
def tk (s:List UInt8) (c:UInt8) (at_:Nat):Bool:=decide (s[at_]? = some c)
def tyR (t:Ty):RD:=.ag [.o (.int t.kind),.o (.rows 2 t.args.length (tysC t.args))]
def tyI' (zs:List Int) (m:Nat) (x:Ty × Nat × Int):Prop:=szL (tyC x.1)≤m∧x.2.1≤zs.length
def tyO (zs:List Int) (x:Ty × Nat × Int):List (List CD):=[curA zs x.2.1 x.2.2]
def tyA (t:Ty):RD:=.ag [.o (.int t.kind),.a 26 (.rows 2 t.args.length (tysC t.args))]
def tyRs (x:Ty × Nat × Int):List RD:=[tyA x.1]
theorem con_l3FunA (a b:Ty) (ha:szL (tyC a)≤1000000000) (hb:szL (tyC b)≤1000000000):ConP Tryz.prog 204 [.b (.ag (tyC a)),.b (.ag (tyC b))] [] [tyA (.mk 3 [a,b])]:=by
 refine con_runP Tryz.func204 rfl rfl (by simp [Tryz.ntmps204]) rfl ?_
 refine byP Tryz.ntmps204 ?_
 refine sw_drawn (.cons 0 true (.cons 2 true (.cons 1 false (.cons 3 false (.cons 4 false (.cons 5 true (.cons 6 false (.nil)))))))) (by kernel_rfl) fQP_panic (by kernel_rfl) (sw_run 200 _ _ _ ?_)
 refine byQ ?_
 refine sw_callD (con_l3Copy a ha) rfl (aAs_ok ?_) ?_ (sw_run 200 _ _ _ ?_)
 ·exact byQ True.intro
 ·simp only [okR]
 refine byQ ?_
 refine sw_callD (con_l3Copy b hb) rfl (aAs_ok ?_) ?_ (sw_run 200 _ _ _ ?_)
 ·exact byQ True.intro
 ·simp only [okR]
 simp only [push_cast,fQP,xRetP,rRs,rOs,rC,rCs,eRs,eOs,eC,eCs,↓reduceIte,Nat.reduceLT,Nat.reduceAdd,Nat.reduceMul,Nat.reduceLeDiff,Nat.reduceEqDiff,reduceCtorEq,tyC_eq,tyA,Ty.kind,Ty.args,tysC,Tryz.results204]
theorem con_l3CodeA (a:Ty) (ha:szL (tyC a)≤1000000000):ConP Tryz.prog 203 [.b (.ag (tyC a))] [] [tyA (.mk 4 [a])]:=by
 refine con_runP Tryz.func203 rfl rfl (by simp [Tryz.ntmps203]) rfl ?_
 refine byP Tryz.ntmps203 ?_
 refine sw_call (con_l3Copy a ha) rfl (aAs_ok ?_) ?_ (sw_run 200 _ _ _ ?_)
 ·exact byQ True.intro
 ·simp only [okR]
 simp only [push_cast,fQP,xRetP,rRs,rOs,rC,rCs,eRs,eOs,eC,eCs,↓reduceIte,Nat.reduceLT,Nat.reduceAdd,Nat.reduceLeDiff,Nat.reduceEqDiff,reduceCtorEq,tyC_eq,tyA,Ty.kind,Ty.args,tysC,Tryz.results203]
theorem con_l3Draw (zs : List Int) (hz : BytOk zs) : ∀ (d : Nat), 1 ≤ d → d ≤ 10 → ∀ (i : Nat), i ≤ zs.length → ∀ (h : Int), ConX Tryz.prog 222 [.p (curA zs i h), .b (.one (.int d))] (tyI' zs (2 ^ d - 2)) (tyO zs) tyRs
  | 0, h1, _, _, _, _ => absurd h1 (by decide)
  | d + 1, _, hd, i, hi, h => by
    refine con_runX Tryz.func222 rfl rfl (by simp [Tryz.ntmps222]) (fun _ _ => rfl) ?_
    have hP := fun i hi h => con_PickInt zs hz [1, 1, 2] (by decide) (by decide) i hi h
    have hO := fun i hi h => con_Once zs hz 2 (by decide) (by decide) i hi h
    have hfin : ∀ (v : Int) (i' : Nat) (h' : Int), i' ≤ zs.length → tyI' zs (2 ^ (d + 1) - 2) (.mk v [], i', h') := fun v i' h' hi' => ⟨Nat.le_trans (show szL (tyC (.mk v [])) ≤ 0 from Nat.le_refl _) (Nat.zero_le _), hi'⟩
    by_cases hd1 : d = 0
    · subst hd1
      have hc : ((1 : Nat) : Int) < 2 := by decide
      refine byP (fc curA.eq_1 (fc bytD.eq_1 Tryz.ntmps222)) ?_
      refine sw_fzE 2 rfl ?_
      refine sw_callXR (hP i hi h) rfl rfl rfl ?_ ?_ ?_ ?_
      · exact byP (fc curA.eq_1 bytD.eq_1) True.intro
      · exact byP (fc curA.eq_1 bytD.eq_1) True.intro
      · exact byP (fc curA.eq_1 bytD.eq_1) True.intro
      rintro ⟨v, i', h'⟩ ⟨hv, hi'⟩
      simp only at hv hi'
      refine sw_run 200 _ _ _ ?_
      refine byP (fc curO.eq_1 (fc curA.eq_1 (fc curR.eq_1 bytD.eq_1))) ?_
      refine ⟨.inl rfl, (.mk v [], i', h'), hfin _ _ _ hi', ?_⟩
      exact byP (fc tyO.eq_1 (fc curA.eq_1 (fc tyRs.eq_1 (fc tyA.eq_1 (fc bytD.eq_1 (fc Ty.kind.eq_1 (fc Ty.args.eq_1 (fc tysC.eq_1 Tryz.results222)))))))) True.intro
    · have hc : ¬ (d : Int) + 1 < 2 := by omega
      have hs : (d : Int) + 1 - 1 = (d : Int) := by omega
      have hin : inI (d : Int) := by unfold inI; omega
      have ih := fun i hi h => con_l3Draw zs hz d (by omega) (by omega) i hi h
      have hp : 2 ≤ 2 ^ d := by
        obtain ⟨e, rfl⟩ : ∃ e, d = e + 1 := ⟨d - 1, by omega⟩
        rw [Nat.pow_succ]; have := Nat.one_le_two_pow (n := e); omega
      have hp2 : 2 ^ (d + 1) = 2 * 2 ^ d := by rw [Nat.pow_succ]; omega
      have hp3 : 2 ^ d ≤ 1024 := Nat.le_trans (Nat.pow_le_pow_right (by decide) (show d ≤ 10 by omega)) (by decide)
      refine byP (fc curA.eq_1 (fc bytD.eq_1 (fc hc Tryz.ntmps222))) ?_
      refine sw_callXR (hO i hi h) rfl rfl rfl ?_ ?_ ?_ ?_
      · exact byP (fc curA.eq_1 bytD.eq_1) True.intro
      · exact byP (fc curA.eq_1 bytD.eq_1) True.intro
      · exact byP (fc curA.eq_1 bytD.eq_1) True.intro
      rintro ⟨b1, i1, h1⟩ hi1
      have hi1' : i1 ≤ zs.length := hi1
      refine sw_run 200 _ _ _ ?_
      cases b1
      case true =>
        refine byP (fc bitO.eq_1 (fc curA.eq_1 (fc bitR.eq_1 bytD.eq_1))) ?_
        refine sw_fzE 2 rfl ?_
        refine sw_callXR (hP i1 hi1' h1) rfl rfl rfl ?_ ?_ ?_ ?_
        · exact byP (fc curA.eq_1 bytD.eq_1) True.intro
        · exact byP (fc curA.eq_1 bytD.eq_1) True.intro
        · exact byP (fc curA.eq_1 bytD.eq_1) True.intro
        rintro ⟨v, i', h'⟩ ⟨hv, hi'⟩
        simp only at hv hi'
        refine sw_run 200 _ _ _ ?_
        refine byP (fc curO.eq_1 (fc curA.eq_1 (fc curR.eq_1 bytD.eq_1))) ?_
        refine ⟨.inl rfl, (.mk v [], i', h'), hfin _ _ _ hi', ?_⟩
        exact byP (fc tyO.eq_1 (fc curA.eq_1 (fc tyRs.eq_1 (fc tyA.eq_1 (fc bytD.eq_1 (fc Ty.kind.eq_1 (fc Ty.args.eq_1 (fc tysC.eq_1 Tryz.results222)))))))) True.intro
      case false =>
        refine byP (fc bitO.eq_1 (fc curA.eq_1 (fc bitR.eq_1 bytD.eq_1))) ?_
        refine sw_callXR (hO i1 hi1' h1) rfl rfl rfl ?_ ?_ ?_ ?_
        · exact byP (fc curA.eq_1 bytD.eq_1) True.intro
        · exact byP (fc curA.eq_1 bytD.eq_1) True.intro
        · exact byP (fc curA.eq_1 bytD.eq_1) True.intro
        rintro ⟨b2, i2, h2⟩ hi2
        have hi2' : i2 ≤ zs.length := hi2
        refine sw_run 200 _ _ _ ?_
        cases b2
        case true =>
          refine byP (fc bitO.eq_1 (fc curA.eq_1 (fc bitR.eq_1 (fc bytD.eq_1 (fc hs hin))))) ?_
          refine sw_callXR (ih i2 hi2' h2) rfl rfl rfl ?_ ?_ ?_ ?_
          · exact byP (fc curA.eq_1 bytD.eq_1) True.intro
          · exact byP (fc curA.eq_1 bytD.eq_1) True.intro
          · exact byP (fc curA.eq_1 bytD.eq_1) True.intro
          rintro ⟨t, i3, h3⟩ ⟨ht, hi3⟩
          simp only at ht hi3
          refine sw_run 200 _ _ _ ?_
          refine byP (fc tyO.eq_1 (fc curA.eq_1 (fc tyRs.eq_1 (fc tyA.eq_1 bytD.eq_1)))) ?_
          refine sw_callP (con_l3CodeA t (by omega)) rfl rfl rfl rfl ?_ ?_ ?_ (sw_run 200 _ _ _ ?_)
          · exact byQ True.intro
          · exact byQ True.intro
          · exact byQ True.intro
          refine byP (fc tyA.eq_1 (fc Ty.kind.eq_1 Ty.args.eq_1)) ?_
          refine ⟨.inl rfl, (.mk 4 [t], i3, h3), ⟨by rw [sz_one]; omega, hi3⟩, ?_⟩
          exact byP (fc tyO.eq_1 (fc curA.eq_1 (fc tyRs.eq_1 (fc tyA.eq_1 (fc bytD.eq_1 (fc Ty.kind.eq_1 (fc Ty.args.eq_1 Tryz.results222))))))) True.intro
        case false =>
          refine byP (fc bitO.eq_1 (fc curA.eq_1 (fc bitR.eq_1 (fc bytD.eq_1 (fc hs hin))))) ?_
          refine sw_callXR (ih i2 hi2' h2) rfl rfl rfl ?_ ?_ ?_ ?_
          · exact byP (fc curA.eq_1 bytD.eq_1) True.intro
          · exact byP (fc curA.eq_1 bytD.eq_1) True.intro
          · exact byP (fc curA.eq_1 bytD.eq_1) True.intro
          rintro ⟨a, i3, h3⟩ ⟨ha, hi3⟩
          simp only at ha hi3
          refine sw_run 200 _ _ _ ?_
          refine byP (fc tyO.eq_1 (fc curA.eq_1 (fc tyRs.eq_1 (fc tyA.eq_1 bytD.eq_1)))) ?_
          refine sw_drawn (.cons 1 true (.cons 2 true (.cons 3 true (.fork (.alt 0 (.cons 4 false (.cons 5 false (.cons 6 false (.nil)))) (.alt 4 (.cons 0 true (.cons 5 false (.cons 6 false (.nil)))) (.last))))))) (by kernel_rfl) fQX_panic (by kernel_rfl) (sw_run 200 _ _ _ ?_)
          refine byP (fc hs hin) ?_
          (try repeat' (with_reducible apply And.intro))
          all_goals
            refine sw_callDXR (ih i3 hi3 h3) rfl rfl rfl ?_ ?_ ?_ rfl ?_
            · exact byP (fc curA.eq_1 bytD.eq_1) True.intro
            · exact byP (fc curA.eq_1 bytD.eq_1) True.intro
            · exact byP (fc curA.eq_1 bytD.eq_1) True.intro
            rintro ⟨b, i4, h4⟩ ⟨hb, hi4⟩
            simp only at hb hi4
            refine sw_run 200 _ _ _ ?_
            refine byP (fc tyO.eq_1 (fc curA.eq_1 (fc tyRs.eq_1 (fc tyA.eq_1 bytD.eq_1)))) ?_
            refine sw_callDXB (conX_P (con_l3FunA a b (by omega) (by omega))) rfl rfl rfl (fun _ _ => rfl) ?_ ?_
            · exact byQ True.intro
            rintro _ _
            refine sw_run 200 _ _ _ ?_
            refine byP (fc tyA.eq_1 (fc Ty.kind.eq_1 Ty.args.eq_1)) ?_
            refine ⟨.inl rfl, (.mk 3 [a, b], i4, h4), ⟨by rw [sz_two]; omega, hi4⟩, ?_⟩
            exact byP (fc tyO.eq_1 (fc curA.eq_1 (fc tyRs.eq_1 (fc tyA.eq_1 (fc bytD.eq_1 (fc Ty.kind.eq_1 (fc Ty.args.eq_1 Tryz.results222))))))) True.intro
def tyRo (x:Ty × Nat × Int):List RD:=[tyR x.1]
theorem con_l3Bent (zs:List Int) (hz:BytOk zs) (i:Nat) (hi:i≤zs.length) (h:Int):ConX Tryz.prog 146 [.p (curA zs i h)] (tyI' zs 200) (tyO zs) tyRo:=by
 refine con_runX Tryz.func146 rfl rfl (by simp [Tryz.ntmps146]) (fun _ _=>rfl) ?_
 have hB:=fun n hn hn2 i hi h=>con_Below zs hz n hn hn2 i hi h
 simp only [push_cast,s0P,mkPs,mkPA,mkC,↓reduceIte,Nat.reduceLT,Nat.reduceAdd,reduceCtorEq,curA,bytD,Tryz.ntmps146]
 have hD:ConX Tryz.prog 222 [.p (curA zs i h),.b (.one (.int 4))] (tyI' zs 14) (tyO zs) tyRs:=con_l3Draw zs hz 4 (by decide) (by decide) i hi h
 refine sw_callXR (hD) rfl rfl rfl ?_ ?_ ?_ ?_
 ·simp only [push_cast,rC,rCs,AS.em,mPs,mP,aA,aD,↓reduceIte,reduceCtorEq,curA,bytD]
 ·simp only [push_cast,eC,eCs,ePs,eP,↓reduceIte,reduceCtorEq,curA,bytD]
 ·simp only [push_cast,bPs,bP,↓reduceIte,curA,bytD]
 rintro ⟨t,i1,h1⟩ ⟨ht,hi1⟩
 simp only at ht hi1
 have ht':=ht
 refine sw_run 200 _ _ _ ?_
 simp only [push_cast,mkC,eC,eCs,aftS,aftV,AS.kb,rmBs,rmB,mkO,packRA,flatR,ePs,eP,bPs,bP,↓reduceIte,Nat.reduceLT,Nat.reduceAdd,Nat.reduceEqDiff,reduceCtorEq,tyO,curA,tyRs,tyA,bytD]
 refine sw_callXR (hB 10 (by decide) (by decide) i1 hi1 h1) rfl rfl rfl ?_ ?_ ?_ ?_
 ·simp only [push_cast,rC,rCs,AS.em,mPs,mP,aA,aD,↓reduceIte,reduceCtorEq,curA,bytD]
 ·simp only [push_cast,eC,eCs,ePs,eP,↓reduceIte,reduceCtorEq,curA,bytD]
 ·simp only [push_cast,bPs,bP,↓reduceIte,curA,bytD]
 rintro ⟨v,i2,h2⟩ ⟨hv,hi2⟩
 simp only at hv hi2
 refine sw_run 200 _ _ _ ?_
 by_cases v0:v=0
 ·simp only [push_cast,mkC,eC,eCs,aftS,aftV,AS.kb,rmBs,rmB,mkO,packRA,flatR,ePs,eP,bPs,bP,↓reduceIte,Nat.reduceLT,reduceCtorEq,curO,curA,curR,bytD,eq_true v0]
  refine sw_callXR (hB 6 (by decide) (by decide) i2 hi2 h2) rfl rfl rfl ?_ ?_ ?_ ?_
  ·simp only [push_cast,rC,rCs,AS.em,mPs,mP,aA,aD,↓reduceIte,curA,bytD]
  ·simp only [push_cast,eC,eCs,ePs,eP,↓reduceIte,curA,bytD]
  ·simp only [push_cast,bPs,bP,↓reduceIte,curA,bytD]
  rintro ⟨k,i3,h3⟩ ⟨hk,hi3⟩
  simp only at hk hi3
  refine sw_run 200 _ _ _ ?_
  simp only [push_cast,mkC,eC,eCs,aftS,aftV,AS.kb,rmBs,rmB,mkO,packRA,flatR,ePs,eP,bPs,bP,↓reduceIte,Nat.reduceLT,Nat.reduceAdd,Nat.reduceLeDiff,Nat.reduceEqDiff,curO,curA,curR,bytD]
  refine ⟨.inl rfl,(.mk k t.args,i3,h3),⟨?_,hi3⟩, ?_⟩
  ·obtain ⟨tk,ta⟩:=t
   exact Nat.le_trans ht' (by decide)
  ·simp only [push_cast,xRetP,rRs,rOs,rC,rCs,eRs,eOs,eC,eCs,aD,↓reduceIte,Nat.reduceAdd,Nat.reduceEqDiff,reduceCtorEq,tyO,curA,tyRo,tyR,bytD,tyk,tya,Tryz.results146]
 by_cases v1:v=1
 ·simp only [push_cast,mkC,eC,eCs,aftS,aftV,AS.kb,rmBs,rmB,mkO,packRA,flatR,ePs,eP,bPs,bP,↓reduceIte,Nat.reduceLT,Nat.reduceEqDiff,reduceCtorEq,curO,curA,curR,bytD,v0,eq_true v1]
  refine sw_drawn (.cons 0 true (.cons 1 true (.cons 2 false (.cons 3 false (.cons 4 false (.cons 5 true (.cons 6 false (.nil)))))))) (by kernel_rfl) fQX_panic (by kernel_rfl) (sw_run 200 _ _ _ ?_)
  simp only [push_cast,↓reduceIte,Nat.reduceLT,Nat.reduceEqDiff]
  refine sw_callD con_l3Int rfl (aAs_ok ?_) ?_ (sw_run 200 _ _ _ ?_)
  ·simp only [push_cast,aAs]
  ·simp only [okR]
  simp only [push_cast,↓reduceIte,Nat.reduceLT,Nat.reduceAdd,Nat.reduceLeDiff,Nat.reduceEqDiff,tyC_eq,tyk,tya,tysC,List.length_nil]
  have hlen:t.args.length≤14:=by
   obtain ⟨tk,ta⟩:=t
   simp only [tyC,szL,szD] at ht'
   show ta.length≤14
   omega
  have hone:tysC [Ty.mk 1 []]=[D.int 1,D.rows 2 0 []]:=rfl
  refine ⟨⟨fun o ho=>by omega,by unfold maxLen;omega,by omega⟩,.inl rfl,(.mk t.kind (t.args++[.mk 1 []]),i2,h2),⟨?_,hi2⟩, ?_⟩
  ·obtain ⟨tk,ta⟩:=t
   simp only [tyC,szL,szD] at ht'
   simp only [tyk,tya,tyC,tysC_append,hone,szL,szD,szL_append,List.length_append,List.length_cons,List.length_nil]
   omega
  ·simp only [push_cast,xRetP,rRs,rOs,rC,rCs,eRs,eOs,eC,eCs,aD,↓reduceIte,Nat.reduceAdd,Nat.reduceEqDiff,reduceCtorEq,tyO,curA,tyRo,tyR,bytD,tyk,tya,tysC_append,hone,List.length_append,Tryz.results146]
 by_cases v2:v=2
 ·simp only [push_cast,mkC,eC,eCs,aftS,aftV,AS.kb,rmBs,rmB,mkO,packRA,flatR,ePs,eP,bPs,bP,↓reduceIte,Nat.reduceLT,Nat.reduceEqDiff,reduceCtorEq,curO,curA,curR,bytD,v0,v1,eq_true v2]
  refine sw_callXR (hB 6 (by decide) (by decide) i2 hi2 h2) rfl rfl rfl ?_ ?_ ?_ ?_
  ·simp only [push_cast,rC,rCs,AS.em,mPs,mP,aA,aD,↓reduceIte,curA,bytD]
  ·simp only [push_cast,eC,eCs,ePs,eP,↓reduceIte,curA,bytD]
  ·simp only [push_cast,bPs,bP,↓reduceIte,curA,bytD]
  rintro ⟨n,i3,h3⟩ ⟨hn,hi3⟩
  simp only at hn hi3
  have hin:inI (1+n):=by unfold inI;omega
  refine sw_run 200 _ _ _ ?_
  simp only [push_cast,mkC,eC,eCs,aftS,aftV,AS.kb,rmBs,rmB,mkO,packRA,flatR,ePs,eP,bPs,bP,↓reduceIte,Nat.reduceLT,curO,curA,curR,bytD,hin]
  refine sw_loop (fun x:Ty × Nat=>szL (tyC x.1)≤14+x.2∧x.2≤6∧(x.2:Int)≤1+n) (fun x=>⟨46,[(5,.i x.2),(4,.i (1+n)),(3,.bx 3 0),(2,.bx 1 0),(0,.bx 0 0)],[(0,[.br (.rows 1 zs.length (zs.map D.byt)),.i i3,.i h3]),(1,[.i 0,.nl 2]),(3,[.i x.1.kind,.sl 2])],[(2,some ⟨.rows 2 x.1.args.length (tysC x.1.args),some 26,true⟩)],4,[0]⟩) (fun x=>7-x.2) (t,0) id ?_ ?_ ?_
  ·exact ⟨by simp only;omega,by simp only;omega,by simp only;omega⟩
  ·simp only [push_cast,Sub,subT,subB,subO,subP,inj,AV.ren,AV.rens,AV.lt,AV.lts,↓reduceIte,Nat.reduceLT,Nat.reduceEqDiff,reduceCtorEq]
  ·rintro ⟨u,k⟩ hI
   simp only at hI
   refine sw_run 200 _ _ _ ?_
   by_cases hlt:(k:Int)<1+n
   ·have hin2:inI ((k:Int)+1):=by unfold inI;omega
    simp only [push_cast,↓reduceIte,Nat.reduceLT,Nat.reduceAdd,Nat.reduceEqDiff,hlt]
    refine sw_callP (con_l3CodeA u (by omega)) rfl rfl rfl rfl ?_ ?_ ?_ (sw_run 200 _ _ _ ?_)
    ·simp only [push_cast,AS.kb,rmBs,mPs,mP,ePs,eP,bPs,bP,aA,aDs,aD,↓reduceIte,tyC_eq]
    ·simp only [push_cast,ePs,eP,↓reduceIte,tyC_eq]
    ·simp only [push_cast,bPs,bP,↓reduceIte,tyC_eq]
    simp only [push_cast,mkC,aftS,aftV,AS.kb,rmBs,mkO,packRA,flatR,ePs,eP,bPs,bP,↓reduceIte,Nat.reduceLT,Nat.reduceAdd,Nat.reduceEqDiff,tyA,tyk,tya,hin2]
    refine ⟨(.mk 4 [u],k+1),rnL [(0,0),(1,1),(2,4),(3,3)],⟨by rw [sz_one];omega,by simp only;omega,by simp only;omega⟩,by simp only;omega, ?_⟩
    simp only [push_cast,Sub,subT,subB,subO,subP,inj,AV.ren,AV.rens,AV.lt,AV.lts,↓reduceIte,Nat.reduceLT,Nat.reduceEqDiff,reduceCtorEq,rnL,cast1,tyk,tya]
   ·simp only [push_cast,↓reduceIte,Nat.reduceLT,Nat.reduceEqDiff,hlt]
    refine sw_run 200 _ _ _ ?_
    simp only [push_cast,↓reduceIte,Nat.reduceLT,Nat.reduceAdd,Nat.reduceEqDiff]
    refine ⟨.inl rfl,(u,i3,h3),⟨by simp only;omega,hi3⟩, ?_⟩
    simp only [push_cast,xRetP,rRs,rOs,rC,rCs,eRs,eOs,eC,eCs,aD,↓reduceIte,Nat.reduceAdd,Nat.reduceEqDiff,reduceCtorEq,tyO,curA,tyRo,tyR,bytD,Tryz.results146]
 by_cases v3:v=3
 ·simp only [push_cast,mkC,eC,eCs,aftS,aftV,AS.kb,rmBs,rmB,mkO,packRA,flatR,ePs,eP,bPs,bP,↓reduceIte,Nat.reduceLT,Nat.reduceEqDiff,reduceCtorEq,curO,curA,curR,bytD,v0,v1,v2,eq_true v3]
  refine sw_loop (fun x:Ty × Nat=>szL (tyC x.1)+2≤16 * 2 ^ x.2∧x.2≤3) (fun x=>⟨46,[(6,.i x.2),(3,.bx 3 0),(2,.bx 1 0),(0,.bx 0 0)],[(0,[.br (.rows 1 zs.length (zs.map D.byt)),.i i2,.i h2]),(1,[.i 0,.nl 2]),(3,[.i x.1.kind,.sl 2])],[(2,some ⟨.rows 2 x.1.args.length (tysC x.1.args),some 26,true⟩)],4,[0]⟩) (fun x=>4-x.2) (t,0) id ?_ ?_ ?_
  ·exact ⟨by simp only;omega,by simp only;omega⟩
  ·simp only [push_cast,Sub,subT,subB,subO,subP,inj,AV.ren,AV.rens,AV.lt,AV.lts,↓reduceIte,Nat.reduceLT,Nat.reduceEqDiff,reduceCtorEq]
  ·rintro ⟨u,k⟩ hI
   simp only at hI
   refine sw_run 200 _ _ _ ?_
   by_cases hlt:(k:Int)<3
   ·have hin2:inI ((k:Int)+1):=by unfold inI;omega
    have hp:2 ^ k≤8:=Nat.le_trans (Nat.pow_le_pow_right (by decide) (show k≤3 by omega)) (by decide)
    simp only [push_cast,↓reduceIte,Nat.reduceLT,Nat.reduceAdd,Nat.reduceEqDiff,hlt]
    refine sw_callP (con_l3FunA u u (by omega) (by omega)) rfl rfl rfl rfl ?_ ?_ ?_ (sw_run 200 _ _ _ ?_)
    ·simp only [push_cast,AS.kb,rmBs,mPs,mP,ePs,eP,bPs,bP,aA,aDs,aD,↓reduceIte,Nat.reduceEqDiff,tyC_eq]
    ·simp only [push_cast,ePs,eP,↓reduceIte,Nat.reduceEqDiff,tyC_eq]
    ·simp only [push_cast,bPs,bP,↓reduceIte,Nat.reduceEqDiff,tyC_eq]
    simp only [push_cast,mkC,aftS,aftV,AS.kb,rmBs,mkO,packRA,flatR,ePs,eP,bPs,bP,↓reduceIte,Nat.reduceLT,Nat.reduceAdd,Nat.reduceEqDiff,tyA,tyk,tya,hin2]
    refine ⟨(.mk 3 [u,u],k+1),rnL [(0,0),(1,1),(2,4),(3,3)],⟨by rw [sz_two,Nat.pow_succ];omega,by simp only;omega⟩,by simp only;omega, ?_⟩
    simp only [push_cast,Sub,subT,subB,subO,subP,inj,AV.ren,AV.rens,AV.lt,AV.lts,↓reduceIte,Nat.reduceLT,Nat.reduceAdd,Nat.reduceEqDiff,reduceCtorEq,rnL,cast1,tyk,tya]
   ·have hp:2 ^ k≤8:=Nat.le_trans (Nat.pow_le_pow_right (by decide) (show k≤3 by omega)) (by decide)
    simp only [push_cast,↓reduceIte,Nat.reduceLT,hlt]
    refine sw_run 200 _ _ _ ?_
    simp only [push_cast,↓reduceIte,Nat.reduceLT,Nat.reduceAdd,Nat.reduceEqDiff]
    refine ⟨.inl rfl,(u,i2,h2),⟨by simp only;omega,hi2⟩, ?_⟩
    simp only [push_cast,xRetP,rRs,rOs,rC,rCs,eRs,eOs,eC,eCs,aD,↓reduceIte,Nat.reduceAdd,Nat.reduceEqDiff,reduceCtorEq,tyO,curA,tyRo,tyR,bytD,Tryz.results146]
 ·simp only [push_cast,mkC,eC,eCs,aftS,aftV,AS.kb,rmBs,rmB,mkO,packRA,flatR,ePs,eP,bPs,bP,↓reduceIte,Nat.reduceLT,Nat.reduceAdd,Nat.reduceEqDiff,reduceCtorEq,curO,curA,curR,bytD,v0,v1,v2,v3]
  refine ⟨.inl rfl,(t,i2,h2),⟨Nat.le_trans ht' (by decide),hi2⟩, ?_⟩
  simp only [push_cast,xRetP,rRs,rOs,rC,rCs,eRs,eOs,eC,eCs,aD,↓reduceIte,Nat.reduceAdd,Nat.reduceEqDiff,reduceCtorEq,tyO,curA,tyRo,tyR,bytD,Tryz.results146]
end Go.Proofs.YtaidalilfmjfgaaGreat
