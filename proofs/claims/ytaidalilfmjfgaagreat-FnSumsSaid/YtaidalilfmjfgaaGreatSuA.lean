import Derived.Test.YtaidalilfmjfgaaGreatAddS
import Derived.Test.YtaidalilfmjfgaaGreatCox
import Derived.Test.YtaidalilfmjfgaaGreatBy
namespace Go.Proofs.YtaidalilfmjfgaaGreat
open Go.RowKit
set_option linter.unusedVariables false
set_option linter.unusedSimpArgs false
set_option maxRecDepth 20000
def smK (s:Sm):List CD:=[.o (.int s.const),.a 149 (.rows 2 s.items.length (flC imC s.items))]
theorem con_PutP (l : List Im) (y : Im) (hl : l.length ≤ 1000000) (hsl : ∀ x ∈ l, smI x) (hy : smI y) : ConP Tryz.prog 103 [.b (.one (.rows 2 l.length (flC imC l))), .b (.ag (imC y))] [] [.one (.a 149 (imsD (putL l y)))] := by
  have htl := tw_le y l
  refine con_runP Tryz.func103 rfl rfl (by simp [Tryz.ntmps103]) rfl ?_
  refine byP (fc imC.eq_1 Tryz.ntmps103) ?_
  refine sw_loop (fun k : Nat => k ≤ tw l y) (fun k => ⟨65, [(5, .i k), (3, .bx 0 0), (0, .br (.rows 2 l.length (flC imC l)))], [(0, [.s y.name, .i y.coef])], [], 1, []⟩) (fun k => tw l y - k) 0 id (Nat.zero_le _) ?_ ?_
  · exact byQ True.intro
  rintro k hk
  refine sw_run 200 _ _ _ ?_
  refine byQ ?_
  obtain ⟨bk, hbk⟩ : ∃ b, b = decide (k < tw l y) := ⟨_, rfl⟩
  refine sw_drawnK ⟨65, [(21, .b bk), (5, .i k), (3, .bx 0 0), (0, .br (.rows 2 l.length (flC imC l)))], [(0, [.s y.name, .i y.coef])], [], 1, []⟩ (.cons 0 true (.cons 1 true (.cons 2 true (.cons 3 true (.cons 4 true (.cons 5 true (.cons 6 true (.cons 7 true (.cons 8 true (.cons 9 true (.cons 10 true (.cons 11 true (.cons 12 true (.cons 13 true (.nil))))))))))))))) (by kernel_rfl) (by kernel_rfl) ?_ ?_
  · refine sw_run 200 _ _ _ ?_
    by_cases hlt : k < l.length
    · have hi : (k : Int) < (l.length : Int) := by omega
      have hR := flC_row imC_len l k hlt
      simp only [imC] at hR
      have hb : Op.bytesLess l[k]!.name.toList y.name.toList = bk := by
        rw [hbk, show Op.bytesLess l[k]!.name.toList y.name.toList = asc l[k]!.name y.name from rfl, asc_nm]
        by_cases h : k < tw l y
        · rw [decide_eq_true (tw_lt y l k h), decide_eq_true h]
        · obtain rfl : k = tw l y := by omega
          rw [decide_eq_false (tw_end y l hlt), decide_eq_false h]
      refine byP (fc hi (fc hR hb)) ?_
      refine ⟨rfl, id, ?_⟩
      exact byQ True.intro
    · have hi : ¬ (k : Int) < (l.length : Int) := by omega
      have hb : bk = false := by rw [hbk]; exact decide_eq_false (by omega)
      refine byP (fc hi hb) ?_
      refine ⟨rfl, id, ?_⟩
      exact byQ True.intro
  refine sw_run 200 _ _ _ ?_
  by_cases hk2 : k < tw l y
  · have hb : bk = true := by rw [hbk]; exact decide_eq_true hk2
    refine byP hb ?_
    refine ⟨by unfold inI; omega, k + 1, id, by omega, by omega, ?_⟩
    exact byQ True.intro
  have hb : bk = false := by rw [hbk]; exact decide_eq_false hk2
  obtain rfl : k = tw l y := by omega
  have hmx : ((tw l y : Nat) : Int) ≤ (l.length : Int) := by omega
  refine byP hb ?_
  refine sw_run 200 _ _ _ ?_
  have hcA := cut_pre l (tw l y) htl
  have hcB := cut_post l (tw l y) htl
  have hpc := put_cases l y
  have hHl : (l.take (tw l y)).length ≤ 1000000 := by rw [List.length_take]; omega
  have hRl : (l.drop (tw l y)).length ≤ 1000000 := by rw [List.length_drop]; omega
  refine byP (fc hmx (fc hcA hcB)) ?_
  generalize l.take (tw l y) = H at *
  generalize l.drop (tw l y) = R at *
  refine ⟨⟨fun _ => prim_ims H, by simp, by unfold maxLen; omega, by omega⟩, ?_⟩
  rcases hpc with ⟨z, r, rfl, hz, hzn, hput⟩ | ⟨hne, hput⟩
  · have hR0 : rowAt 2 (flC imC (z :: r)) 0 = [.str z.name, .int z.coef] := flC_row imC_len (z :: r) 0 (by simp)
    have hpos : (0 : Int) < ((z :: r).length : Int) := by simp only [List.length_cons]; omega
    have hle1 : (1 : Int) ≤ ((z :: r).length : Int) := by omega
    have hcut : cutD (.rows 2 (z :: r).length (flC imC (z :: r))) 1 (z :: r).length = .rows 2 r.length (flC imC r) := cut_post (z :: r) 1 (by simp)
    have hrl : r.length ≤ 1000000 := by simp only [List.length_cons] at hRl; omega
    have hzs := hsl z hz
    unfold smI at hzs hy
    have hin : inI (y.coef + z.coef) := by unfold inI; omega
    generalize z :: r = R at *
    refine sw_drawn (.cons 0 true (.cons 1 true (.cons 2 true (.cons 3 true (.cons 4 true (.cons 5 true (.cons 6 true (.cons 7 true (.cons 8 true (.cons 9 true (.cons 10 true (.cons 11 true (.nil))))))))))))) (by kernel_rfl) fQP_panic (by kernel_rfl) (sw_run 200 _ _ _ ?_)
    refine byP (fc hpos (fc hR0 hzn)) ?_
    refine sw_drawn (.cons 0 true (.cons 1 true (.cons 2 true (.cons 3 true (.cons 4 true (.cons 5 true (.cons 6 true (.cons 7 false (.cons 8 true (.cons 9 false (.nil))))))))))) (by kernel_rfl) fQP_panic (by kernel_rfl) (sw_run 200 _ _ _ ?_)
    refine byP (fc hpos (fc hR0 hin)) ?_
    refine sw_callD (con_ReduceS (y.coef + z.coef)) rfl (aAs_ok ?_) ?_ (sw_run 200 _ _ _ ?_)
    · exact byQ True.intro
    · simp only [okR]
    have hred : red (y.coef + z.coef) = (y.coef + z.coef) % 10007 := rfl
    rw [hred] at hput
    refine byP (fc hle1 hcut) ?_
    by_cases hc : (y.coef + z.coef) % 10007 = 0
    · rw [if_pos hc, List.append_nil] at hput
      simp only [push_cast, rRs, rC, eRs, eC, ↓reduceIte, hc, hput, imsD, flC_app, List.length_append, Tryz.results103]
      exact ⟨fun _ => prim_ims r, by simp, by unfold maxLen; omega, by omega⟩
    · rw [if_neg hc] at hput
      simp only [push_cast, rRs, rC, eRs, eC, ↓reduceIte, hc, hput, imsD, flC_app, flC_one, List.length_append, imC, Tryz.results103]
      exact ⟨⟨fun h => h.elim, fun o ho => by omega, by unfold maxLen; omega, by omega⟩, fun _ => prim_ims r, by simp, by unfold maxLen; omega, by omega⟩
  · refine sw_drawnK ⟨65, [(43, .b false), (7, .br (.rows 2 R.length (flC imC R))), (6, .sl 2), (3, .bx 0 0)], [(0, [.s y.name, .i y.coef])], [(2, some ⟨.rows 2 H.length (flC imC H), some 149, true⟩)], 3, []⟩ (.cons 0 true (.cons 1 true (.cons 2 true (.cons 3 true (.cons 4 true (.cons 5 true (.cons 6 true (.cons 7 true (.cons 8 true (.cons 9 true (.cons 10 true (.cons 11 true (.nil))))))))))))) (by kernel_rfl) (by kernel_rfl) ?_ ?_
    · refine sw_run 200 _ _ _ ?_
      cases R with
      | nil =>
        have hpos : ¬ (0 : Int) < (([] : List Im).length : Int) := by simp
        refine byQ ?_
        refine ⟨rfl, id, ?_⟩
        exact byQ True.intro
      | cons z r =>
        have hR0 : rowAt 2 (flC imC (z :: r)) 0 = [.str z.name, .int z.coef] := flC_row imC_len (z :: r) 0 (by simp)
        have hpos : (0 : Int) < ((z :: r).length : Int) := by simp only [List.length_cons]; omega
        have hzn := hne z r rfl
        generalize z :: r = R at *
        refine byP (fc hpos (fc hR0 hzn)) ?_
        refine ⟨rfl, id, ?_⟩
        exact byQ True.intro
    refine sw_run 200 _ _ _ ?_
    by_cases hc : y.coef = 0
    · rw [if_pos hc, List.append_nil] at hput
      simp only [push_cast, fQP, xRetP, rRs, rOs, rC, eRs, eOs, eC, ↓reduceIte, Nat.reduceLT, Nat.reduceAdd, Nat.reduceEqDiff, reduceCtorEq, hc, hput, imsD, flC_app, List.length_append, Tryz.results103]
      exact ⟨fun _ => prim_ims R, by simp, by unfold maxLen; omega, by omega⟩
    · rw [if_neg hc] at hput
      simp only [push_cast, fQP, xRetP, rRs, rOs, rC, eRs, eOs, eC, ↓reduceIte, Nat.reduceLT, Nat.reduceAdd, Nat.reduceLeDiff, Nat.reduceEqDiff, reduceCtorEq, hc, hput, imsD, flC_app, flC_one, List.length_append, List.length_cons, imC, Tryz.results103]
      exact ⟨⟨fun h => h.elim, fun o ho => by omega, by unfold maxLen; omega, by omega⟩, fun _ => prim_ims R, by simp, by unfold maxLen; omega, by omega⟩
theorem con_DoneP (s:Sm) (hz:szL (sumC s)≤1000000000):ConP Tryz.prog 104 [.g (smK s)] [] [.ag (smK (chkS s)),.one (.o (.bool (sumOk s)))]:=by
 have hi:=con_IsSumS s hz
 obtain ⟨b,hb⟩:∃ b,b=sumOk s:=⟨_,rfl⟩
 rw [chkS]
 rw [← hb] at hi ⊢
 simp only [sumC,imsD] at hi
 refine con_runP Tryz.func104 rfl rfl (by simp [Tryz.ntmps104]) rfl ?_
 refine byP (fc smK.eq_1 Tryz.ntmps104) ?_
 refine sw_call (hi) rfl (aAs_ok ?_) ?_ (sw_run 200 _ _ _ ?_)
 ·exact byQ True.intro
 ·simp only [okR]
 cases b
 ·simp only [push_cast,fQP,xRetP,rRs,rOs,rC,rCs,eRs,eOs,eC,eCs,↓reduceIte,Nat.reduceLT,Nat.reduceAdd,Nat.reduceEqDiff,reduceCtorEq,zeroS,flC,Tryz.results104]
 ·exact byP Tryz.results104 True.intro
theorem con_AddP (a b:Sm) (hza:szL (sumC a)≤1000000000) (hzb:szL (sumC b)≤1000000000):ConP Tryz.prog 34 [.b (.ag (sumC a)),.b (.ag (sumC b))] [] [.ag (smK (adR a b)),.one (.o (.bool (adB a b)))]:=by
 have ha:=con_IsSumS a hza
 have hb:=con_IsSumS b hzb
 by_cases hoa:sumOk a=true
 case neg =>
  have hoa:sumOk a=false:=by simpa using hoa
  have hR:adR a b=zeroS:=by rw [adR,hoa];rfl
  have hB:adB a b=false:=by rw [adB,hoa];rfl
  rw [hoa] at ha
  rw [hR,hB]
  refine con_runP Tryz.func34 rfl rfl (by simp [Tryz.ntmps34]) rfl ?_
  refine byP (fc smK.eq_1 (fc sumC.eq_1 (fc imsD.eq_1 Tryz.ntmps34))) ?_
  refine sw_call (ha) rfl (aAs_ok ?_) ?_ (sw_run 200 _ _ _ ?_)
  ·exact byP (fc sumC.eq_1 imsD.eq_1) True.intro
  ·simp only [okR]
  simp only [push_cast,fQP,xRetP,rRs,rOs,rC,rCs,eRs,eOs,eC,eCs,↓reduceIte,Nat.reduceLT,Nat.reduceAdd,Nat.reduceEqDiff,reduceCtorEq,zeroS,flC,Tryz.results34]
 rw [hoa] at ha
 by_cases hob:sumOk b=true
 case neg =>
  have hob:sumOk b=false:=by simpa using hob
  have hR:adR a b=zeroS:=by rw [adR,hoa,hob];rfl
  have hB:adB a b=false:=by rw [adB,hoa,hob];rfl
  rw [hob] at hb
  rw [hR,hB]
  refine con_runP Tryz.func34 rfl rfl (by simp [Tryz.ntmps34]) rfl ?_
  refine byP (fc smK.eq_1 (fc sumC.eq_1 (fc imsD.eq_1 Tryz.ntmps34))) ?_
  refine sw_call (ha) rfl (aAs_ok ?_) ?_ (sw_run 200 _ _ _ ?_)
  ·exact byP (fc sumC.eq_1 imsD.eq_1) True.intro
  ·simp only [okR]
  refine byQ ?_
  refine sw_call (hb) rfl (aAs_ok ?_) ?_ (sw_run 200 _ _ _ ?_)
  ·exact byP (fc sumC.eq_1 imsD.eq_1) True.intro
  ·simp only [okR]
  simp only [push_cast,fQP,xRetP,rRs,rOs,rC,rCs,eRs,eOs,eC,eCs,↓reduceIte,Nat.reduceLT,Nat.reduceAdd,Nat.reduceEqDiff,reduceCtorEq,zeroS,flC,Tryz.results34]
 rw [hob] at hb
 have hR:adR a b=chkS (adS a b):=by rw [adR,hoa,hob];rfl
 have hB:adB a b=sumOk (adS a b):=by rw [adB,hoa,hob];rfl
 rw [hR,hB]
 obtain ⟨haA,hac,hal⟩:=sumOk_t hoa
 obtain ⟨hbA,hbc,hbl⟩:=sumOk_t hob
 have hfp:=fold_put b.items a.items (ascL_of _ haA) (ascL_of _ hbA) (fun x hx h=>by have:=okC_of _ hbA x hx;omega)
 have hsa:∀ x ∈ a.items,smI x:=fun x hx=>by have:=okC_of _ haA x hx;unfold smI;omega
 have hsb:∀ x ∈ b.items,smI x:=fun x hx=>by have:=okC_of _ hbA x hx;unfold smI;omega
 have hfd:=fd_ok a.items b.items hsa hsb
 have hcin:inI (a.const+b.const):=by unfold inI;omega
 refine con_runP Tryz.func34 rfl rfl (by simp [Tryz.ntmps34]) rfl ?_
 refine byP (fc smK.eq_1 (fc sumC.eq_1 (fc imsD.eq_1 Tryz.ntmps34))) ?_
 refine sw_call (ha) rfl (aAs_ok ?_) ?_ (sw_run 200 _ _ _ ?_)
 ·exact byP (fc sumC.eq_1 imsD.eq_1) True.intro
 ·simp only [okR]
 refine byQ ?_
 refine sw_call (hb) rfl (aAs_ok ?_) ?_ (sw_run 200 _ _ _ ?_)
 ·exact byP (fc sumC.eq_1 imsD.eq_1) True.intro
 ·simp only [okR]
 refine byQ ?_
 refine sw_drawnK ⟨53,[(6,.bx 5 0),(3,.bx 1 0),(4,.bx 2 0)],[(1,[.i b.const,.br (.rows 2 b.items.length (flC imC b.items))]),(2,[.i 0,.nl 2]),(5,[.i ((a.const+b.const) % 10007),.sl 4])],[(4,some ⟨.rows 2 a.items.length (flC imC a.items),some 149,true⟩)],6,[]⟩ (.cons 0 true (.cons 1 true (.cons 2 true (.cons 3 true (.cons 4 true (.cons 7 true (.cons 8 true (.fork (.alt 5 (.fork (.alt 6 (.fork (.alt 9 (.cons 10 true (.cons 11 false (.cons 12 false (.nil)))) (.alt 11 (.cons 9 false (.cons 10 true (.cons 12 false (.nil)))) (.last)))) (.alt 11 (.cons 6 false (.cons 9 false (.cons 10 true (.cons 12 false (.nil))))) (.last)))) (.alt 6 (.fork (.alt 5 (.fork (.alt 9 (.cons 10 true (.cons 11 false (.cons 12 false (.nil)))) (.alt 11 (.cons 9 false (.cons 10 true (.cons 12 false (.nil)))) (.last)))) (.alt 11 (.cons 5 false (.cons 9 false (.cons 10 true (.cons 12 false (.nil))))) (.last)))) (.alt 11 (.fork (.alt 5 (.cons 6 false (.cons 9 false (.cons 10 true (.cons 12 false (.nil))))) (.alt 6 (.cons 5 false (.cons 9 false (.cons 10 true (.cons 12 false (.nil))))) (.last)))) (.last)))))))))))) (by kernel_rfl) (by kernel_rfl) (sw_run 200 _ _ _ ?_) (sw_run 200 _ _ _ ?_)
 ·refine byP hcin ?_
  (try repeat' (with_reducible apply And.intro))
  all_goals (refine sw_callD (con_ReduceS (a.const+b.const)) rfl (aAs_ok (by simp only [push_cast,aAs,aA,aD,↓reduceIte,Nat.reduceEqDiff])) (by simp only [push_cast,okR]) (sw_run 200 _ _ _ ?_))
  all_goals simp only [push_cast,↓reduceIte,Nat.reduceLT,Nat.reduceAdd,Nat.reduceLeDiff,Nat.reduceEqDiff]
  (try repeat' (with_reducible apply And.intro))
  all_goals first
   | rfl
   | exact fun _=>prim_ims a.items
   | (intro o ho;trivial)
   | omega
   | (unfold maxLen;omega)
   | (refine ⟨rfl,id, ?_⟩;simp only [push_cast,Sub,subT,subB,subO,subP,inj,AV.ren,AV.rens,AV.lt,AV.lts,↓reduceIte,Nat.reduceLT,Nat.reduceEqDiff,reduceCtorEq];done)
   | (refine ⟨rfl,rnL [(4,5),(5,4)], ?_⟩;simp only [push_cast,Sub,subT,subB,subO,subP,inj,AV.ren,AV.rens,AV.lt,AV.lts,↓reduceIte,Nat.reduceLT,Nat.reduceEqDiff,reduceCtorEq,rnL];done)
   | (refine ⟨rfl,rnL [(4,5),(5,3)], ?_⟩;simp only [push_cast,Sub,subT,subB,subO,subP,inj,AV.ren,AV.rens,AV.lt,AV.lts,↓reduceIte,Nat.reduceLT,Nat.reduceEqDiff,rnL];done)
   | (refine ⟨rfl,rnL [(4,6),(5,3)], ?_⟩;simp only [push_cast,Sub,subT,subB,subO,subP,inj,AV.ren,AV.rens,AV.lt,AV.lts,↓reduceIte,Nat.reduceLT,Nat.reduceAdd,Nat.reduceMul,Nat.reduceLeDiff,Nat.reduceEqDiff,reduceCtorEq,Int.reduceLT,Int.reduceLE,Int.reduceEq,Int.reduceNe,Int.reduceAdd,Int.reduceSub,Int.reduceMul,Int.reduceNeg,Int.reduceToNat,Nat.reduceSub,rnL];done)
   | (refine ⟨rfl,rnL [(4,5),(5,6)], ?_⟩;simp only [push_cast,Sub,subT,subB,subO,subP,inj,AV.ren,AV.rens,AV.lt,AV.lts,↓reduceIte,Nat.reduceLT,Nat.reduceAdd,Nat.reduceMul,Nat.reduceLeDiff,Nat.reduceEqDiff,reduceCtorEq,Int.reduceLT,Int.reduceLE,Int.reduceEq,Int.reduceNe,Int.reduceAdd,Int.reduceSub,Int.reduceMul,Int.reduceNeg,Int.reduceToNat,Nat.reduceSub,rnL];done)
   | (refine ⟨rfl,rnL [(4,6),(5,5)], ?_⟩;simp only [push_cast,Sub,subT,subB,subO,subP,inj,AV.ren,AV.rens,AV.lt,AV.lts,↓reduceIte,Nat.reduceLT,Nat.reduceAdd,Nat.reduceMul,Nat.reduceLeDiff,Nat.reduceEqDiff,reduceCtorEq,Int.reduceLT,Int.reduceLE,Int.reduceEq,Int.reduceNe,Int.reduceAdd,Int.reduceSub,Int.reduceMul,Int.reduceNeg,Int.reduceToNat,Nat.reduceSub,rnL];done)
   | (refine ⟨rfl,rnL [(4,6),(5,4)], ?_⟩;simp only [push_cast,Sub,subT,subB,subO,subP,inj,AV.ren,AV.rens,AV.lt,AV.lts,↓reduceIte,Nat.reduceLT,Nat.reduceAdd,Nat.reduceMul,Nat.reduceLeDiff,Nat.reduceEqDiff,reduceCtorEq,Int.reduceLT,Int.reduceLE,Int.reduceEq,Int.reduceNe,Int.reduceAdd,Int.reduceSub,Int.reduceMul,Int.reduceNeg,Int.reduceToNat,Nat.reduceSub,rnL];done)
 refine byQ ?_
 refine sw_loop (fun k:Nat=>k≤b.items.length) (fun k=>⟨53,[(7,.i k),(6,.bx 5 0),(3,.bx 1 0),(4,.bx 2 0)],[(1,[.i b.const,.br (.rows 2 b.items.length (flC imC b.items))]),(2,[.i 0,.nl 2]),(5,[.i ((a.const+b.const) % 10007),.sl 4])],[(4,some ⟨.rows 2 (fdI a.items b.items k).length (flC imC (fdI a.items b.items k)),some 149,true⟩)],6,[]⟩) (fun k=>b.items.length-k) 0 id (Nat.zero_le _) ?_ ?_
 ·simp only [push_cast,Sub,subT,subB,subO,subP,inj,AV.ren,AV.rens,AV.lt,AV.lts,↓reduceIte,Nat.reduceLT,Nat.reduceEqDiff,fdI,List.foldl_nil]
 rintro k hk
 obtain ⟨hf1,hf2⟩:=hfd k hk
 refine sw_run 200 _ _ _ ?_
 by_cases hlt:k<b.items.length
 ·have hi:(k:Int)<(b.items.length:Int):=by omega
  have hR:=flC_row imC_len b.items k hlt
  have hst:=fd_step a.items b.items k hlt
  have hP:=con_PutP (fdI a.items b.items k) b.items[k]! (by omega) hf1 (hsb _ (mem_bang hlt))
  rw [← hst] at hP
  simp only [imC,imsD] at hR hP
  have hk1:¬ (k+1=0):=by omega
  refine byP hi ?_
  refine sw_drawn (.cons 0 true (.cons 1 true (.cons 2 true (.cons 3 true (.cons 4 true (.cons 5 true (.cons 6 true (.cons 7 false (.cons 8 true (.cons 9 false (.nil))))))))))) (by kernel_rfl) qLp_panic (by kernel_rfl) (sw_run 200 _ _ _ ?_)
  refine byP (fc hi hR) ?_
  refine sw_callDXB (conX_P hP) rfl rfl rfl (fun _ _=>rfl) ?_ (fun _ _=>sw_run 200 _ _ _ ?_)
  ·exact byQ True.intro
  refine byQ ?_
  refine ⟨by unfold inI;omega,k+1,rn1 4 6,by omega,by omega, ?_⟩
  exact byP rn1.eq_1 True.intro
 ·have hi:¬ (k:Int)<(b.items.length:Int):=by omega
  obtain rfl:k=b.items.length:=by omega
  have hfd2:fdI a.items b.items b.items.length=mgI a.items b.items:=by rw [fdI,List.take_length,hfp]
  rw [hfd2]
  have hck:=con_DoneP (adS a b) (by have:=sz_adS hoa hob;omega)
  simp only [smK,adS] at hck
  refine byP hi ?_
  refine sw_run 200 _ _ _ ?_
  refine byQ ?_
  refine sw_callP hck rfl rfl rfl rfl ?_ ?_ ?_ (sw_run 200 _ _ _ ?_)
  ·exact byQ True.intro
  ·exact byQ True.intro
  ·exact byQ True.intro
  exact byP (fc adS.eq_1 Tryz.results34) True.intro
end Go.Proofs.YtaidalilfmjfgaaGreat
