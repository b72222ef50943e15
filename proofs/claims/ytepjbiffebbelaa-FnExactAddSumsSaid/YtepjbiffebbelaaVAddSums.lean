/-
  The walk of the law FnExactAddSums.
-/
import Derived.Test.YtepjbiffebbelaaLp
import Derived.Test.YtepjbiffebbelaaAddS
import Derived.Test.YtepjbiffebbelaaUSum
import Derived.Test.YtepjbiffebbelaaUMSum
import Derived.Test.YtepjbiffebbelaaCon2
namespace Go.Proofs.Ytepjbiffebbelaa
open Go.RowKit
set_option linter.unusedVariables false
set_option linter.unusedSimpArgs false
set_option maxRecDepth 20000
theorem con_FnExactAddSums (p0 : Sm) (p1 : Sm) (hi0 : In (sumC p0) [.int, .sl .item]) (hi1 : In (sumC p1) [.int, .sl .item]) : Con Try.prog 3 [.ag (sumC p0), .ag (sumC p1)] [.one (.bool true)] := by
  obtain ⟨z0, ez0⟩ : ∃ z, z = szL (sumC p0) := ⟨_, rfl⟩
  have hs0 := lp_sz (f := 8) (k := 1048576) ⟨_, Try.func8, rfl, rfl⟩ fun w v hr => U_szSum hi0.1 hi0.2 hr (by omega) (by omega)
  rw [← ez0] at hs0
  by_cases hft0 : (z0 : Int) ≤ 1048576
  case neg =>
    rw [szR_out _ _ (by omega)] at hs0
    refine con_run Try.func3 rfl rfl (by simp [Try.ntmps3]) ?_
    simp only [argT, argA, eq_self, xRun, vE, vP, vSub, vLoad, isCutO, gN, isPick, isCall, AS.pt, AS.ev, AS.box, look, cav, avB, AV.cells, AV.whole, AV.one, td0, td1, td2, td3, td4, td5, td6, Option.getD, List.map, List.take, List.drop, List.length, List.all, ↓reduceIte, Nat.reduceLT, Nat.reduceAdd, Nat.reduceEqDiff, Nat.zero_add, true_and, Bool.and_true, Bool.false_eq_true, reduceCtorEq, Nat.succ_ne_zero, Nat.le_refl, sumC, imsD, Try.ntmps3]
    refine sw_call hs0 rfl (aAs_ok ?_) ?_ (sw_run 200 _ _ _ ?_)
    · simp only [aAs, aA, aDs, aD, AS.ev, look, Option.getD, List.map, List.append_nil, ↓reduceIte, Nat.reduceEqDiff, eq_self, and_self, sumC, imsD]
    · simp only [okR]
    simp only [mkR, flatD, packA, retA, List.headD_cons, fQ, xRet, rPs, xRes, flatA, rD, eq_self, xRun, vE, vP, vBin, vBinT, isAg, isBo, isCutO, isB, bv, gN, isPick, isCall, AS.pt, AS.ev, look, cav, eatsOf, td0, td1, td2, td3, td4, td5, td6, Option.getD, List.map, List.nodup_nil, ↓reduceIte, Nat.reduceLT, or_false, Bool.false_eq_true, reduceCtorEq, Int.reduceLT, Int.reduceNeg, decide_true, and_self, Try.results3]
  rw [szR_in _ _ hft0] at hs0
  have hnn0 : ¬ (1048576 - (z0 : Int) < 0) := by omega
  have hz0 : szL (sumC p0) ≤ 1048576 := by omega
  obtain ⟨z1, ez1⟩ : ∃ z, z = szL (sumC p1) := ⟨_, rfl⟩
  have hs1 := lp_sz (f := 8) (k := 1048576 - (z0 : Int)) ⟨_, Try.func8, rfl, rfl⟩ fun w v hr => U_szSum hi1.1 hi1.2 hr (by omega) (by omega)
  rw [← ez1] at hs1
  by_cases hft1 : (z1 : Int) ≤ 1048576 - (z0 : Int)
  case neg =>
    rw [szR_out _ _ (by omega)] at hs1
    refine con_run Try.func3 rfl rfl (by simp [Try.ntmps3]) ?_
    simp only [argT, argA, eq_self, xRun, vE, vP, vSub, vLoad, isCutO, gN, isPick, isCall, AS.pt, AS.ev, AS.box, look, cav, avB, AV.cells, AV.whole, AV.one, td0, td1, td2, td3, td4, td5, td6, Option.getD, List.map, List.take, List.drop, List.length, List.all, ↓reduceIte, Nat.reduceLT, Nat.reduceAdd, Nat.reduceEqDiff, Nat.zero_add, true_and, Bool.and_true, Bool.false_eq_true, reduceCtorEq, Nat.succ_ne_zero, Nat.le_refl, sumC, imsD, Try.ntmps3]
    refine sw_call hs0 rfl (aAs_ok ?_) ?_ (sw_run 200 _ _ _ ?_)
    · simp only [aAs, aA, aDs, aD, AS.ev, look, Option.getD, List.map, List.append_nil, ↓reduceIte, Nat.reduceEqDiff, eq_self, and_self, sumC, imsD]
    · simp only [okR]
    simp only [mkR, flatD, packA, retA, List.headD_cons, eq_self, xRun, vE, vP, vSub, vLoad, vBin, vBinT, isAg, isBo, isCutO, isB, bv, gN, isPick, isCall, AS.pt, AS.ev, look, cav, td0, td1, td2, td3, td4, td5, td6, Option.getD, List.take, List.drop, List.length, ↓reduceIte, Nat.reduceLT, Nat.reduceAdd, Nat.reduceEqDiff, Nat.zero_add, true_and, Bool.false_eq_true, decide_false, Nat.le_refl, hnn0]
    refine sw_call hs1 rfl (aAs_ok ?_) ?_ (sw_run 200 _ _ _ ?_)
    · simp only [aAs, aA, aDs, aD, AS.ev, look, Option.getD, List.map, List.append_nil, ↓reduceIte, Nat.reduceEqDiff, eq_self, and_self, sumC, imsD]
    · simp only [okR]
    simp only [mkR, flatD, packA, retA, List.headD_cons, fQ, xRet, rPs, xRes, flatA, rD, eq_self, xRun, vE, vP, vBin, vBinT, isAg, isBo, isCutO, isB, bv, gN, isPick, isCall, AS.pt, AS.ev, look, cav, eatsOf, td0, td1, td2, td3, td4, td5, td6, Option.getD, List.map, List.nodup_nil, ↓reduceIte, Nat.reduceLT, or_false, Bool.false_eq_true, reduceCtorEq, Int.reduceLT, Int.reduceNeg, decide_true, and_self, Try.results3]
  rw [szR_in _ _ hft1] at hs1
  have hnn1 : ¬ (1048576 - (z0 : Int) - (z1 : Int) < 0) := by omega
  have hz1 : szL (sumC p1) ≤ 1048576 := by omega
  have ht0 := lp_to (ds := sumC p0) (f := 10) ⟨_, Try.func10, rfl, rfl⟩ fun w v hr => U_toSum ⟨hi0.1, hi0.2, hz0, hr⟩
  have hq0 := lp_eq (ds := sumC p0) (f := 12) ⟨_, Try.func12, rfl, rfl⟩ fun w v u hr hr' => U_eqsSum hi0.1 hr hr'
  have ht1 := lp_to (ds := sumC p1) (f := 10) ⟨_, Try.func10, rfl, rfl⟩ fun w v hr => U_toSum ⟨hi1.1, hi1.2, hz1, hr⟩
  have hq1 := lp_eq (ds := sumC p1) (f := 12) ⟨_, Try.func12, rfl, rfl⟩ fun w v u hr hr' => U_eqsSum hi1.1 hr hr'
  have hS := con_AddS p0 p1 (Nat.le_trans hz0 (by omega)) (Nat.le_trans hz1 (by omega))
  have hI := con_AddI p0 p1 (Nat.le_trans hz0 (by omega)) (Nat.le_trans hz1 (by omega))
  have hc := (adR_fit p0 p1).1
  have hn := (adR_fit p0 p1).2
  generalize adR p0 p1 = R0 at *
  have hqr0 := lp_eq (ds := sumC R0) (f := 12) ⟨_, Try.func12, rfl, rfl⟩ fun w v u hr hr' => U_eqsSum hc hr hr'
  generalize adB p0 p1 = R1 at *
  have hbx0 : cntS (sumC p0) ≤ 20971520 := by have := cntS_bd hi0.1; omega
  have hmx0 := lp_mark (ds := sumC p0) (k := 1) (f := 13) ⟨_, Try.func13, rfl, rfl⟩ fun w v fp ho hn => U_markSum hi0.1 ho hn (by omega) (by omega)
  obtain ⟨d1x0, emx0⟩ : ∃ d1x0, markS (sumC p0) (1) = [.int p0.const, .rows 2 p0.items.length d1x0] := by
    simp only [sumC]
    exact ⟨_, rfl⟩
  rw [emx0] at hmx0
  obtain ⟨nx0, enx0⟩ : ∃ n, n = cntS (sumC p0) := ⟨_, rfl⟩
  rw [← enx0] at hmx0 hbx0
  have hkx0 : ¬ (1 + (nx0 : Int) < 0) := by omega
  have hbx1 : cntS (sumC p1) ≤ 20971520 := by have := cntS_bd hi1.1; omega
  have hmx1 := lp_mark (ds := sumC p1) (k := 1 + (nx0 : Int)) (f := 13) ⟨_, Try.func13, rfl, rfl⟩ fun w v fp ho hn => U_markSum hi1.1 ho hn (by omega) (by omega)
  obtain ⟨d1x1, emx1⟩ : ∃ d1x1, markS (sumC p1) (1 + (nx0 : Int)) = [.int p1.const, .rows 2 p1.items.length d1x1] := by
    simp only [sumC]
    exact ⟨_, rfl⟩
  rw [emx1] at hmx1
  obtain ⟨nx1, enx1⟩ : ∃ n, n = cntS (sumC p1) := ⟨_, rfl⟩
  rw [← enx1] at hmx1 hbx1
  have hkx1 : ¬ (1 + (nx0 : Int) + (nx1 : Int) < 0) := by omega
  have hbg0 : cntS (sumC R0) ≤ 17592186044416 := hn
  have hmg0 := lp_mark (ds := sumC R0) (k := 1) (f := 13) ⟨_, Try.func13, rfl, rfl⟩ fun w v fp ho hn => U_markSum hc ho hn (by omega) (by omega)
  have hhg0 := lp_sz (ds := markS (sumC R0) (1)) (k := 1) (f := 14) ⟨_, Try.func14, rfl, rfl⟩ fun w v hr => U_heldSum hc hr (by omega) (by omega)
  obtain ⟨d1g0, emg0⟩ : ∃ d1g0, markS (sumC R0) (1) = [.int R0.const, .rows 2 R0.items.length d1g0] := by
    simp only [sumC]
    exact ⟨_, rfl⟩
  rw [emg0] at hmg0 hhg0
  obtain ⟨ng0, eng0⟩ : ∃ n, n = cntS (sumC R0) := ⟨_, rfl⟩
  rw [← eng0] at hmg0 hbg0 hhg0
  have hkg0 : ¬ (1 + (ng0 : Int) < 0) := by omega
  refine con_run Try.func3 rfl rfl (by simp [Try.ntmps3]) ?_
  simp only [argT, argA, eq_self, xRun, vE, vP, vSub, vLoad, isCutO, gN, isPick, isCall, AS.pt, AS.ev, AS.box, look, cav, avB, AV.cells, AV.whole, AV.one, td0, td1, td2, td3, td4, td5, td6, Option.getD, List.map, List.take, List.drop, List.length, List.all, ↓reduceIte, Nat.reduceLT, Nat.reduceAdd, Nat.reduceEqDiff, Nat.zero_add, true_and, Bool.and_true, Bool.false_eq_true, reduceCtorEq, Nat.succ_ne_zero, Nat.le_refl, sumC, imsD, Try.ntmps3]
  refine sw_call hs0 rfl (aAs_ok ?_) ?_ (sw_run 200 _ _ _ ?_)
  · simp only [aAs, aA, aDs, aD, AS.ev, look, Option.getD, List.map, List.append_nil, ↓reduceIte, Nat.reduceEqDiff, eq_self, and_self, sumC, imsD]
  · simp only [okR]
  simp only [mkR, flatD, packA, retA, List.headD_cons, eq_self, xRun, vE, vP, vSub, vLoad, vBin, vBinT, isAg, isBo, isCutO, isB, bv, gN, isPick, isCall, AS.pt, AS.ev, look, cav, td0, td1, td2, td3, td4, td5, td6, Option.getD, List.take, List.drop, List.length, ↓reduceIte, Nat.reduceLT, Nat.reduceAdd, Nat.reduceEqDiff, Nat.zero_add, true_and, Bool.false_eq_true, decide_false, Nat.le_refl, hnn0]
  refine sw_call hs1 rfl (aAs_ok ?_) ?_ (sw_run 200 _ _ _ ?_)
  · simp only [aAs, aA, aDs, aD, AS.ev, look, Option.getD, List.map, List.append_nil, ↓reduceIte, Nat.reduceEqDiff, eq_self, and_self, sumC, imsD]
  · simp only [okR]
  simp only [mkR, flatD, packA, retA, List.headD_cons, eq_self, xRun, vE, vP, vBin, vBinT, isAg, isBo, isCutO, isB, bv, gN, isPick, isCall, AS.pt, AS.ev, look, cav, td0, td1, td2, td3, td4, td5, td6, Option.getD, ↓reduceIte, Nat.reduceLT, true_and, Bool.false_eq_true, decide_false, hnn1]
  refine sw_drawnK ?sx1 (.cons 0 true (.cons 2 true (.fork (.alt 1 (.fork (.alt 3 (.fork (.alt 4 (.cons 5 true (.cons 6 true (.fork (.alt 7 (.cons 8 false (.cons 9 false (.cons 10 true (.nil)))) (.alt 8 (.fork (.alt 7 (.cons 9 false (.cons 10 true (.nil))) (.alt 9 (.cons 7 true (.cons 10 true (.nil))) (.last)))) (.last)))))) (.alt 8 (.cons 4 false (.cons 5 true (.cons 6 true (.fork (.alt 7 (.cons 9 false (.cons 10 true (.nil))) (.alt 9 (.cons 7 true (.cons 10 true (.nil))) (.last))))))) (.last)))) (.alt 8 (.cons 3 false (.cons 4 false (.cons 5 true (.cons 6 true (.fork (.alt 7 (.cons 9 false (.cons 10 true (.nil))) (.alt 9 (.cons 7 true (.cons 10 true (.nil))) (.last)))))))) (.last)))) (.alt 8 (.cons 1 false (.cons 3 false (.cons 4 false (.cons 5 true (.cons 6 true (.fork (.alt 7 (.cons 9 false (.cons 10 true (.nil))) (.alt 9 (.cons 7 true (.cons 10 true (.nil))) (.last))))))))) (.last)))))) (by kernel_rfl) (by kernel_rfl) (sw_run 200 _ _ _ ?ha1) (sw_run 200 _ _ _ ?hb1)
  case ha1 =>
    simp only [eq_self, xRun, vE, vP, vSub, vLoad, gN, isPick, isCall, AS.pt, AS.ev, AS.box, look, td0, td1, td2, td3, td4, td5, td6, Option.getD, Option.isSome, List.take, List.drop, List.length, List.getElem?_cons_zero, List.getElem?_cons_succ, ↓reduceIte, Nat.reduceLT, Nat.reduceAdd, Nat.reduceEqDiff, Nat.zero_add, true_and, and_true, Bool.false_eq_true, reduceCtorEq, Nat.le_refl]
    refine ⟨?_, ?_⟩
    · refine sw_callD ht0 rfl (aAs_ok ?_) ?_ (sw_run 200 _ _ _ ?_)
      · simp only [aAs, aA, aDs, aD, AS.ev, look, Option.getD, List.map, List.append_nil, ↓reduceIte, Nat.reduceEqDiff, eq_self, and_self, sumC, imsD]
      · simp only [okR]
      simp only [mkR, flatD, packA, retA, eq_self, xRun, vE, gN, isPick, isCall, AS.pt, AS.box, AS.mk', kill, td0, td1, td2, td3, td4, td5, td6, Option.getD, Option.isSome, List.take, List.length, List.getElem?_cons_zero, List.getElem?_cons_succ, List.foldr, List.append_nil, ↓reduceIte, Nat.reduceLT, Nat.reduceAdd, Nat.zero_add, true_and, and_true, Bool.false_eq_true, sumC, imsD]
      refine ⟨?_, ?_⟩
      · refine sw_callD ht1 rfl (aAs_ok ?_) ?_ (sw_run 200 _ _ _ ?_)
        · simp only [aAs, aA, aDs, aD, AS.ev, look, Option.getD, List.map, List.append_nil, ↓reduceIte, Nat.reduceEqDiff, eq_self, and_self, sumC, imsD]
        · simp only [okR]
        simp only [mkR, flatD, packA, retA, eq_self, xRun, vE, gN, isPick, isCall, AS.pt, AS.box, AS.mk', kill, td0, td1, td2, td3, td4, td5, td6, Option.getD, Option.isSome, List.take, List.length, List.getElem?_cons_zero, List.getElem?_cons_succ, List.foldr, List.append_nil, ↓reduceIte, Nat.reduceLT, Nat.reduceAdd, Nat.zero_add, true_and, and_true, Bool.false_eq_true, sumC, imsD]
        refine ⟨?_, ?_⟩
        · refine sw_callD hS rfl (aAs_ok ?_) ?_ (sw_run 200 _ _ _ ?_)
          · simp only [aAs, aA, aDs, aD, AS.ev, AS.owf, look, Option.bind, Option.getD, id_eq, List.map, List.append_nil, ↓reduceIte, Nat.reduceEqDiff, eq_self, and_self, sumC, imsD]
          · simp only [okR]
          simp only [mkR, flatD, packA, retA, List.headD_cons, eq_self, xRun, vE, vP, vExt, vStore, gN, isPick, isCall, AS.pt, AS.ev, AS.box, AS.setb, AS.mk', kill, look, setRowG, AV.cells, AV.whole, AV.one, td0, td1, td2, td3, td4, td5, td6, Option.getD, Option.isSome, List.take, List.drop, List.length, List.getElem?_cons_zero, List.getElem?_cons_succ, List.set, List.foldr, List.all, List.nil_append, List.cons_append, ↓reduceIte, Nat.reduceLT, Nat.reduceAdd, Nat.reduceEqDiff, Nat.zero_add, true_and, and_true, Bool.and_true, Bool.false_eq_true, and_self, Nat.le_refl, sumC, imsD, qK]
          refine ⟨?_, ?_⟩
          · refine qk_here [2, 3, 4, 6, 7] ?he ?_
            case he => simp only [kpT, ddB, hasN, look, ↓reduceIte, Nat.reduceEqDiff, reduceCtorEq]; exact rfl
            simp only [Sub, subT, subB, subO, subP, inj, AV.ren, AV.rens, AV.lt, AV.lts, eq_self, AS.owf, look, td0, td1, td2, td3, td4, td5, td6, Option.bind, List.map, List.mem_cons, List.not_mem_nil, List.nodup_cons, List.nodup_nil, ↓reduceIte, Nat.reduceLT, Nat.reduceEqDiff, not_false_eq_true, or_false, id_eq, reduceCtorEq, and_self, Nat.succ_ne_zero]
          · refine ⟨id, ?_⟩
            simp only [Sub, subT, subB, subO, subP, inj, AV.ren, AV.rens, AV.lt, AV.lts, eq_self, AS.owf, look, td0, td1, td2, td3, td4, td5, td6, Option.bind, List.map, List.mem_cons, List.not_mem_nil, List.nodup_cons, List.nodup_nil, ↓reduceIte, Nat.reduceLT, Nat.reduceEqDiff, not_false_eq_true, or_false, id_eq, reduceCtorEq, and_self, Nat.succ_ne_zero]
        · refine sw_callD hS rfl (aAs_ok ?_) ?_ (sw_run 200 _ _ _ ?_)
          · simp only [aAs, aA, aDs, aD, AS.ev, AS.owf, look, Option.bind, Option.getD, id_eq, List.map, List.append_nil, ↓reduceIte, Nat.reduceEqDiff, eq_self, and_self, sumC, imsD]
          · simp only [okR]
          simp only [mkR, flatD, packA, retA, List.headD_cons, eq_self, xRun, vE, vP, vExt, vStore, gN, isPick, isCall, AS.pt, AS.ev, AS.setb, AS.mk', kill, look, setRowG, AV.cells, AV.whole, AV.one, td0, td1, td2, td3, td4, td5, td6, Option.getD, Option.isSome, List.take, List.drop, List.length, List.getElem?_cons_zero, List.getElem?_cons_succ, List.set, List.foldr, List.all, List.nil_append, List.cons_append, ↓reduceIte, Nat.reduceLT, Nat.reduceAdd, Nat.reduceEqDiff, Nat.zero_add, true_and, and_true, Bool.and_true, Bool.false_eq_true, and_self, Nat.le_refl, sumC, imsD, qK]
          refine ⟨rnL [(4, 5), (5, 4)], ?_⟩
          simp only [Sub, subT, subB, subO, subP, inj, AV.ren, AV.rens, AV.lt, AV.lts, eq_self, AS.owf, look, td0, td1, td2, td3, td4, td5, td6, Option.bind, Option.getD, List.map, List.mem_cons, List.not_mem_nil, List.nodup_cons, List.nodup_nil, ↓reduceIte, Nat.reduceLT, Nat.reduceEqDiff, not_false_eq_true, or_false, id_eq, reduceCtorEq, and_self, Nat.succ_ne_zero, rnL]
      · refine sw_callD ht1 rfl (aAs_ok ?_) ?_ (sw_run 200 _ _ _ ?_)
        · simp only [aAs, aA, aDs, aD, AS.ev, look, Option.getD, List.map, List.append_nil, ↓reduceIte, Nat.reduceEqDiff, eq_self, and_self, sumC, imsD]
        · simp only [okR]
        simp only [mkR, flatD, packA, retA, eq_self, xRun, gN, isCall, AS.pt, AS.mk', kill, td0, td1, td2, td3, td4, td5, td6, Option.getD, Option.isSome, List.take, List.length, List.getElem?_cons_zero, List.getElem?_cons_succ, List.foldr, List.append_nil, ↓reduceIte, Nat.reduceLT, Nat.reduceAdd, Nat.zero_add, true_and, sumC, imsD]
        refine sw_callD hS rfl (aAs_ok ?_) ?_ (sw_run 200 _ _ _ ?_)
        · simp only [aAs, aA, aDs, aD, AS.ev, AS.owf, look, Option.bind, Option.getD, id_eq, List.map, List.append_nil, ↓reduceIte, Nat.reduceEqDiff, eq_self, and_self, sumC, imsD]
        · simp only [okR]
        simp only [mkR, flatD, packA, retA, List.headD_cons, eq_self, xRun, vE, vP, vExt, vStore, gN, isPick, isCall, AS.pt, AS.ev, AS.setb, AS.mk', kill, look, setRowG, AV.cells, AV.whole, AV.one, td0, td1, td2, td3, td4, td5, td6, Option.getD, Option.isSome, List.take, List.drop, List.length, List.getElem?_cons_zero, List.getElem?_cons_succ, List.set, List.foldr, List.all, List.nil_append, List.cons_append, ↓reduceIte, Nat.reduceLT, Nat.reduceAdd, Nat.reduceEqDiff, Nat.zero_add, true_and, and_true, Bool.and_true, Bool.false_eq_true, and_self, Nat.le_refl, sumC, imsD, qK]
        refine ⟨rnL [(3, 4), (4, 5), (5, 3)], ?_⟩
        simp only [Sub, subT, subB, subO, subP, inj, AV.ren, AV.rens, AV.lt, AV.lts, eq_self, AS.owf, look, td0, td1, td2, td3, td4, td5, td6, Option.bind, Option.getD, List.map, List.mem_cons, List.not_mem_nil, List.nodup_cons, List.nodup_nil, ↓reduceIte, Nat.reduceLT, Nat.reduceEqDiff, not_false_eq_true, or_false, id_eq, reduceCtorEq, and_self, Nat.succ_ne_zero, rnL]
    · refine sw_callD ht0 rfl (aAs_ok ?_) ?_ (sw_run 200 _ _ _ ?_)
      · simp only [aAs, aA, aDs, aD, AS.ev, look, Option.getD, List.map, List.append_nil, ↓reduceIte, Nat.reduceEqDiff, eq_self, and_self, sumC, imsD]
      · simp only [okR]
      simp only [mkR, flatD, packA, retA, eq_self, xRun, gN, isCall, AS.pt, AS.mk', kill, td0, td1, td2, td3, td4, td5, td6, Option.getD, Option.isSome, List.take, List.length, List.getElem?_cons_zero, List.getElem?_cons_succ, List.foldr, List.append_nil, ↓reduceIte, Nat.reduceLT, Nat.reduceAdd, Nat.zero_add, true_and, sumC, imsD]
      refine sw_callD ht1 rfl (aAs_ok ?_) ?_ (sw_run 200 _ _ _ ?_)
      · simp only [aAs, aA, aDs, aD, AS.ev, look, Option.getD, List.map, List.append_nil, ↓reduceIte, Nat.reduceEqDiff, eq_self, and_self, sumC, imsD]
      · simp only [okR]
      simp only [mkR, flatD, packA, retA, eq_self, xRun, gN, isCall, AS.pt, AS.mk', kill, td0, td1, td2, td3, td4, td5, td6, Option.getD, Option.isSome, List.take, List.length, List.getElem?_cons_zero, List.getElem?_cons_succ, List.foldr, List.append_nil, ↓reduceIte, Nat.reduceLT, Nat.reduceAdd, Nat.zero_add, true_and, sumC, imsD]
      refine sw_callD hS rfl (aAs_ok ?_) ?_ (sw_run 200 _ _ _ ?_)
      · simp only [aAs, aA, aDs, aD, AS.ev, AS.owf, look, Option.bind, Option.getD, id_eq, List.map, List.append_nil, ↓reduceIte, Nat.reduceEqDiff, eq_self, and_self, sumC, imsD]
      · simp only [okR]
      simp only [mkR, flatD, packA, retA, List.headD_cons, eq_self, xRun, vE, vP, vExt, vStore, gN, isPick, isCall, AS.pt, AS.ev, AS.setb, AS.mk', kill, look, setRowG, AV.cells, AV.whole, AV.one, td0, td1, td2, td3, td4, td5, td6, Option.getD, Option.isSome, List.take, List.drop, List.length, List.getElem?_cons_zero, List.getElem?_cons_succ, List.set, List.foldr, List.all, List.nil_append, List.cons_append, ↓reduceIte, Nat.reduceLT, Nat.reduceAdd, Nat.reduceEqDiff, Nat.zero_add, true_and, and_true, Bool.and_true, Bool.false_eq_true, and_self, Nat.le_refl, sumC, imsD, qK]
      refine ⟨rnL [(2, 3), (3, 4), (4, 5), (5, 2)], ?_⟩
      simp only [Sub, subT, subB, subO, subP, inj, AV.ren, AV.rens, AV.lt, AV.lts, eq_self, AS.owf, look, td0, td1, td2, td3, td4, td5, td6, Option.bind, Option.getD, List.map, List.mem_cons, List.not_mem_nil, List.nodup_cons, List.nodup_nil, ↓reduceIte, Nat.reduceLT, Nat.reduceEqDiff, not_false_eq_true, or_false, id_eq, reduceCtorEq, and_self, Nat.succ_ne_zero, rnL]
  simp only [eq_self, xRun, vE, vP, vSub, vLoad, isCutO, gN, isPick, isCall, AS.pt, AS.ev, look, td0, td1, td2, td3, td4, td5, td6, Option.getD, List.take, List.drop, List.length, ↓reduceIte, Nat.reduceLT, Nat.reduceAdd, Nat.zero_add, true_and, Bool.false_eq_true, reduceCtorEq, Nat.le_refl]
  refine sw_call ht0 rfl (aAs_ok ?_) ?_ (sw_run 200 _ _ _ ?_)
  · simp only [aAs, aA, aDs, aD, AS.ev, look, Option.getD, List.map, List.append_nil, ↓reduceIte, eq_self, and_self, sumC, imsD]
  · simp only [okR]
  simp only [mkR, flatD, packA, retA, eq_self, xRun, vE, vP, vSub, vLoad, vStore, isCutO, gN, isPick, isCall, AS.pt, AS.ev, AS.box, AS.setb, AS.mk', kill, look, setRowG, AV.cells, AV.whole, AV.one, td0, td1, td2, td3, td4, td5, td6, Option.getD, Option.isSome, List.take, List.drop, List.length, List.set, List.foldr, List.all, List.append_nil, ↓reduceIte, Nat.reduceLT, Nat.reduceAdd, Nat.reduceEqDiff, Nat.zero_add, true_and, Bool.and_true, Bool.false_eq_true, and_self, Nat.le_refl, sumC, imsD]
  refine sw_call ht1 rfl (aAs_ok ?_) ?_ (sw_run 200 _ _ _ ?_)
  · simp only [aAs, aA, aDs, aD, AS.ev, look, Option.getD, List.map, List.append_nil, ↓reduceIte, eq_self, and_self, sumC, imsD]
  · simp only [okR]
  simp only [mkR, flatD, packA, retA, eq_self, xRun, vE, vP, vSub, vLoad, vStore, isCutO, gN, isPick, isCall, AS.pt, AS.ev, AS.box, AS.setb, AS.mk', kill, look, setRowG, AV.cells, AV.whole, AV.one, td0, td1, td2, td3, td4, td5, td6, Option.getD, Option.isSome, List.take, List.drop, List.length, List.set, List.foldr, List.all, List.append_nil, ↓reduceIte, Nat.reduceLT, Nat.reduceAdd, Nat.reduceEqDiff, Nat.zero_add, true_and, Bool.and_true, Bool.false_eq_true, and_self, Nat.le_refl, sumC, imsD]
  refine sw_call hI rfl (aAs_ok ?_) ?_ (sw_run 200 _ _ _ ?_)
  · simp only [aAs, aA, aDs, aD, AS.ev, AS.owf, look, Option.bind, Option.getD, id_eq, List.map, List.append_nil, ↓reduceIte, Nat.reduceEqDiff, eq_self, and_self, sumC, imsD]
  · simp only [okR]
  simp only [mkR, flatD, packA, retA, List.headD_cons, eq_self, xRun, vE, vP, vSub, vLoad, vExt, vStore, isCutO, gN, isPick, isCall, AS.pt, AS.ev, AS.box, AS.setb, AS.mk', kill, look, setRowG, AV.cells, AV.whole, AV.one, td0, td1, td2, td3, td4, td5, td6, Option.getD, Option.isSome, List.take, List.drop, List.length, List.getElem?_cons_zero, List.getElem?_cons_succ, List.set, List.foldr, List.all, List.nil_append, List.cons_append, ↓reduceIte, Nat.reduceLT, Nat.reduceAdd, Nat.reduceEqDiff, Nat.zero_add, true_and, Bool.and_true, Bool.false_eq_true, and_self, Nat.le_refl, sumC, imsD]
  refine sw_call hqr0 rfl (aAs_ok ?_) ?_ (sw_run 200 _ _ _ ?_)
  · simp only [aAs, aA, aDs, aD, AS.ev, AS.owf, look, Option.bind, Option.getD, id_eq, List.map, List.append_nil, ↓reduceIte, Nat.reduceEqDiff, eq_self, and_self, sumC, imsD]
  · simp only [okR]
  simp only [mkR, flatD, packA, retA, List.headD_cons, eq_self, xRun, vE, vP, vBinT, isAg, isBo, bvA, vEqB, vNot, isCutO, isB, bv, gT, gW, gN, gV, isU, isPick, pkC, pkB, isCall, AS.pt, AS.kn, AS.ev, look, td0, td1, td2, td3, td4, td5, td6, Option.bind, Option.getD, Option.isSome, List.getElem?_cons_zero, List.getElem?_cons_succ, ↓reduceIte, Nat.reduceLT, Nat.reduceEqDiff, ne_eq, not_true_eq_false, true_and, Bool.not_true, Bool.false_eq_true, decide_false, and_self]
  refine sw_drawn (.cons 0 true (.cons 1 true (.cons 2 false (.cons 3 false (.cons 4 true (.nil)))))) (by kernel_rfl) fQ_panic (by kernel_rfl) (sw_run 200 _ _ _ ?_)
  simp only [eq_self, xRun, vP, vSub, vLoad, gN, isPick, isCall, AS.pt, AS.ev, look, td0, td1, td2, td3, td4, td5, td6, Option.getD, Option.isSome, List.take, List.drop, List.length, List.getElem?_cons_zero, List.getElem?_cons_succ, ↓reduceIte, Nat.reduceLT, Nat.reduceAdd, Nat.reduceEqDiff, Nat.zero_add, true_and, Bool.false_eq_true, reduceCtorEq, Nat.le_refl]
  refine sw_callD ht0 rfl (aAs_ok ?_) ?_ (sw_run 200 _ _ _ ?_)
  · simp only [aAs, aA, aDs, aD, AS.ev, look, Option.getD, List.map, List.append_nil, ↓reduceIte, eq_self, and_self, sumC, imsD]
  · simp only [okR]
  simp only [mkR, flatD, packA, retA, eq_self, xRun, gN, isCall, AS.pt, AS.mk', kill, td0, td1, td2, td3, td4, td5, td6, Option.getD, Option.isSome, List.take, List.length, List.getElem?_cons_zero, List.getElem?_cons_succ, List.foldr, List.append_nil, ↓reduceIte, Nat.reduceLT, Nat.reduceAdd, Nat.zero_add, true_and, sumC, imsD]
  refine sw_callD hq0 rfl (aAs_ok ?_) ?_ (sw_run 200 _ _ _ ?_)
  · simp only [aAs, aA, aDs, aD, AS.ev, AS.owf, look, Option.bind, Option.getD, id_eq, List.map, List.append_nil, ↓reduceIte, Nat.reduceEqDiff, eq_self, and_self, sumC, imsD]
  · simp only [okR]
  simp only [mkR, flatD, packA, retA, List.headD_cons, eq_self, xRun, vP, vNot, isB, bv, gN, isPick, AS.pt, AS.ev, look, td0, td1, td2, td3, td4, td5, td6, Option.getD, Option.isSome, List.getElem?_cons_zero, List.getElem?_cons_succ, ↓reduceIte, Nat.reduceLT, true_and, Bool.not_true, Bool.false_eq_true]
  refine sw_drawn (.cons 0 true (.cons 1 true (.cons 2 false (.cons 3 false (.cons 4 true (.nil)))))) (by kernel_rfl) fQ_panic (by kernel_rfl) (sw_run 200 _ _ _ ?_)
  simp only [eq_self, xRun, vP, vSub, vLoad, gN, isPick, isCall, AS.pt, AS.ev, look, td0, td1, td2, td3, td4, td5, td6, Option.getD, Option.isSome, List.take, List.drop, List.length, List.getElem?_cons_zero, List.getElem?_cons_succ, ↓reduceIte, Nat.reduceLT, Nat.reduceAdd, Nat.reduceEqDiff, Nat.zero_add, true_and, Bool.false_eq_true, Nat.le_refl]
  refine sw_callD ht1 rfl (aAs_ok ?_) ?_ (sw_run 200 _ _ _ ?_)
  · simp only [aAs, aA, aDs, aD, AS.ev, look, Option.getD, List.map, List.append_nil, ↓reduceIte, eq_self, and_self, sumC, imsD]
  · simp only [okR]
  simp only [mkR, flatD, packA, retA, eq_self, xRun, gN, isCall, AS.pt, AS.mk', kill, td0, td1, td2, td3, td4, td5, td6, Option.getD, Option.isSome, List.take, List.length, List.getElem?_cons_zero, List.getElem?_cons_succ, List.foldr, List.append_nil, ↓reduceIte, Nat.reduceLT, Nat.reduceAdd, Nat.zero_add, true_and, sumC, imsD]
  refine sw_callD hq1 rfl (aAs_ok ?_) ?_ (sw_run 200 _ _ _ ?_)
  · simp only [aAs, aA, aDs, aD, AS.ev, AS.owf, look, Option.bind, Option.getD, id_eq, List.map, List.append_nil, ↓reduceIte, Nat.reduceEqDiff, eq_self, and_self, sumC, imsD]
  · simp only [okR]
  simp only [mkR, flatD, packA, retA, List.headD_cons, eq_self, xRun, vE, vP, vSub, vLoad, vNot, isCutO, isB, bv, gN, isPick, isCall, AS.pt, AS.ev, look, cav, td0, td1, td2, td3, td4, td5, td6, Option.getD, Option.isSome, List.take, List.drop, List.length, List.getElem?_cons_zero, List.getElem?_cons_succ, ↓reduceIte, Nat.reduceLT, Nat.reduceAdd, Nat.reduceEqDiff, Nat.zero_add, true_and, Bool.not_true, Bool.false_eq_true, Nat.le_refl]
  refine sw_callL hmx0 rfl rfl rfl (.inr ?_) ?_ ?_ ?_ (sw_run 200 _ _ _ ?_)
  · simp only [eq_self, AS.ev, look, td0, td1, td2, td3, td4, td5, td6, Option.getD, ↓reduceIte, Nat.reduceEqDiff, isAgV]
  · simp only [rD, rDs, eq_self, AS.ev, AS.owf, look, td0, td1, td2, td3, td4, td5, td6, Option.bind, Option.getD, ↓reduceIte, Nat.reduceEqDiff, Bool.false_eq_true, id_eq, and_self, lendOf, rDs, rD, sumC, imsD]
  · simp only [eq_self, AS.ev, look, td0, td1, td2, td3, td4, td5, td6, Option.getD, ↓reduceIte, Nat.reduceEqDiff, Bool.false_eq_true, and_self, lendOf, lendOk, shp2, sumC, imsD]
  · simp only [eq_self, AS.ev, look, eatsOf, td0, td1, td2, td3, td4, td5, td6, Option.getD, List.not_mem_nil, List.nodup_cons, List.nodup_nil, ↓reduceIte, Nat.reduceEqDiff, not_false_eq_true, Bool.false_eq_true, and_self, lendOf, eatsOf]
  simp only [eq_self, xRun, vE, vP, vSub, vLoad, isCutO, gN, isPick, isCall, AS.pt, AS.ev, look, td0, td1, td2, td3, td4, td5, td6, Option.getD, List.take, List.drop, List.length, ↓reduceIte, Nat.reduceLT, Nat.reduceAdd, Nat.reduceEqDiff, Nat.zero_add, true_and, Bool.false_eq_true, Nat.le_refl, AS.lend, lendOf, lendL, lendO, unspLT, unspLB, AV.unspL, AV.unspLs]
  refine sw_callL hmx1 rfl rfl rfl (.inr ?_) ?_ ?_ ?_ (sw_run 200 _ _ _ ?_)
  · simp only [eq_self, AS.ev, look, td0, td1, td2, td3, td4, td5, td6, Option.getD, ↓reduceIte, Nat.reduceEqDiff, isAgV]
  · simp only [rD, rDs, eq_self, AS.ev, AS.owf, look, td0, td1, td2, td3, td4, td5, td6, Option.bind, Option.getD, ↓reduceIte, Nat.reduceEqDiff, Bool.false_eq_true, id_eq, and_self, lendOf, rDs, rD, sumC, imsD]
  · simp only [eq_self, AS.ev, look, td0, td1, td2, td3, td4, td5, td6, Option.getD, ↓reduceIte, Nat.reduceEqDiff, Bool.false_eq_true, and_self, lendOf, lendOk, shp2, sumC, imsD]
  · simp only [eq_self, AS.ev, look, eatsOf, td0, td1, td2, td3, td4, td5, td6, Option.getD, List.not_mem_nil, List.nodup_cons, List.nodup_nil, ↓reduceIte, Nat.reduceEqDiff, not_false_eq_true, Bool.false_eq_true, and_self, lendOf, eatsOf]
  simp only [eq_self, xRun, vE, vP, vSub, vLoad, vBin, vBinT, isAg, isBo, isCutO, isB, bv, gT, gW, gN, gV, isU, isPick, isCall, AS.pt, AS.kn, AS.ev, look, cav, td0, td1, td2, td3, td4, td5, td6, Option.bind, Option.getD, Option.isSome, List.take, List.drop, List.length, List.getElem?_cons_zero, List.getElem?_cons_succ, ↓reduceIte, Nat.reduceLT, Nat.reduceAdd, Nat.reduceEqDiff, Nat.zero_add, true_and, Bool.false_eq_true, decide_false, and_self, Nat.le_refl, hkx1, AS.lend, lendOf, lendL, lendO, unspLT, unspLB, AV.unspL, AV.unspLs]
  refine sw_call hqr0 rfl (aAs_ok ?_) ?_ (sw_run 200 _ _ _ ?_)
  · simp only [aAs, aA, aDs, aD, AS.ev, AS.owf, look, Option.bind, Option.getD, id_eq, List.map, List.append_nil, ↓reduceIte, Nat.reduceEqDiff, eq_self, and_self, sumC, imsD]
  · simp only [okR]
  simp only [mkR, flatD, packA, retA, List.headD_cons, eq_self, xRun, vE, vP, vSub, vLoad, vBinT, isAg, isBo, bvA, vEqB, vNot, isCutO, isB, bv, gT, gW, gN, gV, isU, isPick, pkC, pkB, isCall, AS.pt, AS.kn, AS.ev, look, cav, td0, td1, td2, td3, td4, td5, td6, Option.bind, Option.getD, Option.isSome, List.take, List.drop, List.length, List.getElem?_cons_zero, List.getElem?_cons_succ, ↓reduceIte, Nat.reduceLT, Nat.reduceAdd, Nat.reduceEqDiff, Nat.zero_add, ne_eq, not_true_eq_false, true_and, Bool.not_true, Bool.false_eq_true, decide_false, and_self, Nat.le_refl]
  refine sw_callL hmg0 rfl rfl rfl (.inr ?_) ?_ ?_ ?_ (sw_run 200 _ _ _ ?_)
  · simp only [eq_self, AS.ev, look, td0, td1, td2, td3, td4, td5, td6, Option.getD, ↓reduceIte, Nat.reduceEqDiff, isAgV]
  · simp only [rD, rDs, eq_self, AS.ev, AS.owf, look, td0, td1, td2, td3, td4, td5, td6, Option.bind, Option.getD, ↓reduceIte, Nat.reduceEqDiff, Bool.false_eq_true, id_eq, and_self, lendOf, rDs, rD, sumC, imsD]
  · simp only [eq_self, AS.ev, look, td0, td1, td2, td3, td4, td5, td6, Option.getD, ↓reduceIte, Nat.reduceEqDiff, Bool.false_eq_true, and_self, lendOf, lendOk, shp2, sumC, imsD]
  · simp only [eq_self, AS.ev, look, eatsOf, td0, td1, td2, td3, td4, td5, td6, Option.getD, List.not_mem_nil, List.nodup_cons, List.nodup_nil, ↓reduceIte, Nat.reduceEqDiff, not_false_eq_true, Bool.false_eq_true, and_self, lendOf, eatsOf]
  simp only [eq_self, xRun, vE, vP, vSub, vLoad, isCutO, gN, isPick, isCall, AS.pt, AS.ev, look, cav, td0, td1, td2, td3, td4, td5, td6, Option.getD, List.take, List.drop, List.length, ↓reduceIte, Nat.reduceLT, Nat.reduceAdd, Nat.reduceEqDiff, Nat.zero_add, true_and, Bool.false_eq_true, Nat.le_refl, AS.lend, lendOf, lendL, lendO, unspLT, unspLB, AV.unspL, AV.unspLs]
  refine sw_call hhg0 rfl (aAs_ok ?_) ?_ (sw_run 200 _ _ _ ?_)
  · simp only [aAs, aA, aDs, aD, AS.ev, AS.owf, look, Option.bind, Option.getD, id_eq, List.map, List.append_nil, ↓reduceIte, Nat.reduceEqDiff, eq_self, and_self]
  · simp only [okR]
  simp only [mkR, flatD, packA, retA, List.headD_cons, eq_self, xRun, vE, vP, vBin, vBinT, isAg, isBo, isCutO, isB, bv, gN, isPick, isCall, AS.pt, AS.ev, look, cav, td0, td1, td2, td3, td4, td5, td6, Option.getD, ↓reduceIte, Nat.reduceLT, Nat.reduceEqDiff, ne_eq, not_true_eq_false, true_and, Bool.false_eq_true, decide_false, hkg0]
  refine sw_drawnK ?sx2 (.cons 0 true (.cons 2 true (.fork (.alt 1 (.fork (.alt 3 (.fork (.alt 4 (.cons 5 true (.cons 6 true (.fork (.alt 7 (.cons 8 false (.cons 9 false (.cons 10 true (.nil)))) (.alt 8 (.fork (.alt 7 (.cons 9 false (.cons 10 true (.nil))) (.alt 9 (.cons 7 true (.cons 10 true (.nil))) (.last)))) (.last)))))) (.alt 8 (.cons 4 false (.cons 5 true (.cons 6 true (.fork (.alt 7 (.cons 9 false (.cons 10 true (.nil))) (.alt 9 (.cons 7 true (.cons 10 true (.nil))) (.last))))))) (.last)))) (.alt 8 (.cons 3 false (.cons 4 false (.cons 5 true (.cons 6 true (.fork (.alt 7 (.cons 9 false (.cons 10 true (.nil))) (.alt 9 (.cons 7 true (.cons 10 true (.nil))) (.last)))))))) (.last)))) (.alt 8 (.cons 1 false (.cons 3 false (.cons 4 false (.cons 5 true (.cons 6 true (.fork (.alt 7 (.cons 9 false (.cons 10 true (.nil))) (.alt 9 (.cons 7 true (.cons 10 true (.nil))) (.last))))))))) (.last)))))) (by kernel_rfl) (by kernel_rfl) (sw_run 200 _ _ _ ?ha2) (sw_run 200 _ _ _ ?hb2)
  case ha2 =>
    simp only [eq_self, xRun, vE, vP, vSub, vLoad, gN, isPick, isCall, AS.pt, AS.ev, AS.box, look, td0, td1, td2, td3, td4, td5, td6, Option.getD, Option.isSome, List.take, List.drop, List.length, List.getElem?_cons_zero, List.getElem?_cons_succ, ↓reduceIte, Nat.reduceLT, Nat.reduceAdd, Nat.reduceEqDiff, Nat.zero_add, true_and, and_true, Bool.false_eq_true, reduceCtorEq, Nat.le_refl]
    refine ⟨?_, ?_⟩
    · refine sw_callD ht0 rfl (aAs_ok ?_) ?_ (sw_run 200 _ _ _ ?_)
      · simp only [aAs, aA, aDs, aD, AS.ev, look, Option.getD, List.map, List.append_nil, ↓reduceIte, Nat.reduceEqDiff, eq_self, and_self, sumC, imsD]
      · simp only [okR]
      simp only [mkR, flatD, packA, retA, eq_self, xRun, vE, gN, isPick, isCall, AS.pt, AS.box, AS.mk', kill, td0, td1, td2, td3, td4, td5, td6, Option.getD, Option.isSome, List.take, List.length, List.getElem?_cons_zero, List.getElem?_cons_succ, List.foldr, List.append_nil, ↓reduceIte, Nat.reduceLT, Nat.reduceAdd, Nat.zero_add, true_and, and_true, Bool.false_eq_true, sumC, imsD]
      refine ⟨?_, ?_⟩
      · refine sw_callD ht1 rfl (aAs_ok ?_) ?_ (sw_run 200 _ _ _ ?_)
        · simp only [aAs, aA, aDs, aD, AS.ev, look, Option.getD, List.map, List.append_nil, ↓reduceIte, Nat.reduceEqDiff, eq_self, and_self, sumC, imsD]
        · simp only [okR]
        simp only [mkR, flatD, packA, retA, eq_self, xRun, vE, gN, isPick, isCall, AS.pt, AS.box, AS.mk', kill, td0, td1, td2, td3, td4, td5, td6, Option.getD, Option.isSome, List.take, List.length, List.getElem?_cons_zero, List.getElem?_cons_succ, List.foldr, List.append_nil, ↓reduceIte, Nat.reduceLT, Nat.reduceAdd, Nat.zero_add, true_and, and_true, Bool.false_eq_true, sumC, imsD]
        refine ⟨?_, ?_⟩
        · refine sw_callD hI rfl (aAs_ok ?_) ?_ (sw_run 200 _ _ _ ?_)
          · simp only [aAs, aA, aDs, aD, AS.ev, AS.owf, look, Option.bind, Option.getD, id_eq, List.map, List.append_nil, ↓reduceIte, Nat.reduceEqDiff, eq_self, and_self, sumC, imsD]
          · simp only [okR]
          simp only [mkR, flatD, packA, retA, List.headD_cons, eq_self, xRun, vE, vP, vExt, vStore, gN, isPick, isCall, AS.pt, AS.ev, AS.box, AS.setb, AS.mk', kill, look, setRowG, AV.cells, AV.whole, AV.one, td0, td1, td2, td3, td4, td5, td6, Option.getD, Option.isSome, List.take, List.drop, List.length, List.getElem?_cons_zero, List.getElem?_cons_succ, List.set, List.foldr, List.all, List.nil_append, List.cons_append, ↓reduceIte, Nat.reduceLT, Nat.reduceAdd, Nat.reduceEqDiff, Nat.zero_add, true_and, and_true, Bool.and_true, Bool.false_eq_true, and_self, Nat.le_refl, sumC, imsD, qK]
          refine ⟨?_, ?_⟩
          · refine qk_here [4, 6, 7, 10, 13, 14, 15, 16] ?he ?_
            case he => simp only [kpT, ddB, hasN, look, ↓reduceIte, Nat.reduceEqDiff, reduceCtorEq]; exact rfl
            simp only [Sub, subT, subB, subO, subP, inj, AV.ren, AV.rens, AV.lt, AV.lts, eq_self, AS.owf, look, td0, td1, td2, td3, td4, td5, td6, Option.bind, List.map, List.mem_cons, List.not_mem_nil, List.nodup_cons, List.nodup_nil, ↓reduceIte, Nat.reduceLT, Nat.reduceEqDiff, not_false_eq_true, or_false, id_eq, reduceCtorEq, and_self, Nat.succ_ne_zero]
          · refine ⟨id, ?_⟩
            simp only [Sub, subT, subB, subO, subP, inj, AV.ren, AV.rens, AV.lt, AV.lts, eq_self, AS.owf, look, td0, td1, td2, td3, td4, td5, td6, Option.bind, List.map, List.mem_cons, List.not_mem_nil, List.nodup_cons, List.nodup_nil, ↓reduceIte, Nat.reduceLT, Nat.reduceEqDiff, not_false_eq_true, or_false, id_eq, reduceCtorEq, and_self, Nat.succ_ne_zero]
        · refine sw_callD hI rfl (aAs_ok ?_) ?_ (sw_run 200 _ _ _ ?_)
          · simp only [aAs, aA, aDs, aD, AS.ev, AS.owf, look, Option.bind, Option.getD, id_eq, List.map, List.append_nil, ↓reduceIte, Nat.reduceEqDiff, eq_self, and_self, sumC, imsD]
          · simp only [okR]
          simp only [mkR, flatD, packA, retA, List.headD_cons, eq_self, xRun, vE, vP, vExt, vStore, gN, isPick, isCall, AS.pt, AS.ev, AS.setb, AS.mk', kill, look, setRowG, AV.cells, AV.whole, AV.one, td0, td1, td2, td3, td4, td5, td6, Option.getD, Option.isSome, List.take, List.drop, List.length, List.getElem?_cons_zero, List.getElem?_cons_succ, List.set, List.foldr, List.all, List.nil_append, List.cons_append, ↓reduceIte, Nat.reduceLT, Nat.reduceAdd, Nat.reduceEqDiff, Nat.zero_add, true_and, and_true, Bool.and_true, Bool.false_eq_true, and_self, Nat.le_refl, sumC, imsD, qK]
          refine ⟨rnL [(16, 17), (17, 16)], ?_⟩
          simp only [Sub, subT, subB, subO, subP, inj, AV.ren, AV.rens, AV.lt, AV.lts, eq_self, AS.owf, look, td0, td1, td2, td3, td4, td5, td6, Option.bind, Option.getD, List.map, List.mem_cons, List.not_mem_nil, List.nodup_cons, List.nodup_nil, ↓reduceIte, Nat.reduceLT, Nat.reduceEqDiff, not_false_eq_true, or_false, id_eq, reduceCtorEq, and_self, Nat.succ_ne_zero, rnL]
      · refine sw_callD ht1 rfl (aAs_ok ?_) ?_ (sw_run 200 _ _ _ ?_)
        · simp only [aAs, aA, aDs, aD, AS.ev, look, Option.getD, List.map, List.append_nil, ↓reduceIte, Nat.reduceEqDiff, eq_self, and_self, sumC, imsD]
        · simp only [okR]
        simp only [mkR, flatD, packA, retA, eq_self, xRun, gN, isCall, AS.pt, AS.mk', kill, td0, td1, td2, td3, td4, td5, td6, Option.getD, Option.isSome, List.take, List.length, List.getElem?_cons_zero, List.getElem?_cons_succ, List.foldr, List.append_nil, ↓reduceIte, Nat.reduceLT, Nat.reduceAdd, Nat.zero_add, true_and, sumC, imsD]
        refine sw_callD hI rfl (aAs_ok ?_) ?_ (sw_run 200 _ _ _ ?_)
        · simp only [aAs, aA, aDs, aD, AS.ev, AS.owf, look, Option.bind, Option.getD, id_eq, List.map, List.append_nil, ↓reduceIte, Nat.reduceEqDiff, eq_self, and_self, sumC, imsD]
        · simp only [okR]
        simp only [mkR, flatD, packA, retA, List.headD_cons, eq_self, xRun, vE, vP, vExt, vStore, gN, isPick, isCall, AS.pt, AS.ev, AS.setb, AS.mk', kill, look, setRowG, AV.cells, AV.whole, AV.one, td0, td1, td2, td3, td4, td5, td6, Option.getD, Option.isSome, List.take, List.drop, List.length, List.getElem?_cons_zero, List.getElem?_cons_succ, List.set, List.foldr, List.all, List.nil_append, List.cons_append, ↓reduceIte, Nat.reduceLT, Nat.reduceAdd, Nat.reduceEqDiff, Nat.zero_add, true_and, and_true, Bool.and_true, Bool.false_eq_true, and_self, Nat.le_refl, sumC, imsD, qK]
        refine ⟨rnL [(15, 16), (16, 17), (17, 15)], ?_⟩
        simp only [Sub, subT, subB, subO, subP, inj, AV.ren, AV.rens, AV.lt, AV.lts, eq_self, AS.owf, look, td0, td1, td2, td3, td4, td5, td6, Option.bind, Option.getD, List.map, List.mem_cons, List.not_mem_nil, List.nodup_cons, List.nodup_nil, ↓reduceIte, Nat.reduceLT, Nat.reduceEqDiff, not_false_eq_true, or_false, id_eq, reduceCtorEq, and_self, Nat.succ_ne_zero, rnL]
    · refine sw_callD ht0 rfl (aAs_ok ?_) ?_ (sw_run 200 _ _ _ ?_)
      · simp only [aAs, aA, aDs, aD, AS.ev, look, Option.getD, List.map, List.append_nil, ↓reduceIte, Nat.reduceEqDiff, eq_self, and_self, sumC, imsD]
      · simp only [okR]
      simp only [mkR, flatD, packA, retA, eq_self, xRun, gN, isCall, AS.pt, AS.mk', kill, td0, td1, td2, td3, td4, td5, td6, Option.getD, Option.isSome, List.take, List.length, List.getElem?_cons_zero, List.getElem?_cons_succ, List.foldr, List.append_nil, ↓reduceIte, Nat.reduceLT, Nat.reduceAdd, Nat.zero_add, true_and, sumC, imsD]
      refine sw_callD ht1 rfl (aAs_ok ?_) ?_ (sw_run 200 _ _ _ ?_)
      · simp only [aAs, aA, aDs, aD, AS.ev, look, Option.getD, List.map, List.append_nil, ↓reduceIte, Nat.reduceEqDiff, eq_self, and_self, sumC, imsD]
      · simp only [okR]
      simp only [mkR, flatD, packA, retA, eq_self, xRun, gN, isCall, AS.pt, AS.mk', kill, td0, td1, td2, td3, td4, td5, td6, Option.getD, Option.isSome, List.take, List.length, List.getElem?_cons_zero, List.getElem?_cons_succ, List.foldr, List.append_nil, ↓reduceIte, Nat.reduceLT, Nat.reduceAdd, Nat.zero_add, true_and, sumC, imsD]
      refine sw_callD hI rfl (aAs_ok ?_) ?_ (sw_run 200 _ _ _ ?_)
      · simp only [aAs, aA, aDs, aD, AS.ev, AS.owf, look, Option.bind, Option.getD, id_eq, List.map, List.append_nil, ↓reduceIte, Nat.reduceEqDiff, eq_self, and_self, sumC, imsD]
      · simp only [okR]
      simp only [mkR, flatD, packA, retA, List.headD_cons, eq_self, xRun, vE, vP, vExt, vStore, gN, isPick, isCall, AS.pt, AS.ev, AS.setb, AS.mk', kill, look, setRowG, AV.cells, AV.whole, AV.one, td0, td1, td2, td3, td4, td5, td6, Option.getD, Option.isSome, List.take, List.drop, List.length, List.getElem?_cons_zero, List.getElem?_cons_succ, List.set, List.foldr, List.all, List.nil_append, List.cons_append, ↓reduceIte, Nat.reduceLT, Nat.reduceAdd, Nat.reduceEqDiff, Nat.zero_add, true_and, and_true, Bool.and_true, Bool.false_eq_true, and_self, Nat.le_refl, sumC, imsD, qK]
      refine ⟨rnL [(14, 15), (15, 16), (16, 17), (17, 14)], ?_⟩
      simp only [Sub, subT, subB, subO, subP, inj, AV.ren, AV.rens, AV.lt, AV.lts, eq_self, AS.owf, look, td0, td1, td2, td3, td4, td5, td6, Option.bind, Option.getD, List.map, List.mem_cons, List.not_mem_nil, List.nodup_cons, List.nodup_nil, ↓reduceIte, Nat.reduceLT, Nat.reduceEqDiff, not_false_eq_true, or_false, id_eq, reduceCtorEq, and_self, Nat.succ_ne_zero, rnL]
  simp only [eq_self, xRun, vE, vP, vSub, vLoad, isCutO, gN, isPick, isCall, AS.pt, AS.ev, look, td0, td1, td2, td3, td4, td5, td6, Option.getD, List.take, List.drop, List.length, ↓reduceIte, Nat.reduceLT, Nat.reduceAdd, Nat.reduceEqDiff, Nat.zero_add, true_and, Bool.false_eq_true, Nat.le_refl]
  refine sw_call hqr0 rfl (aAs_ok ?_) ?_ (sw_run 200 _ _ _ ?_)
  · simp only [aAs, aA, aDs, aD, AS.ev, AS.owf, look, Option.bind, Option.getD, id_eq, List.map, List.append_nil, ↓reduceIte, Nat.reduceEqDiff, eq_self, and_self, sumC, imsD]
  · simp only [okR]
  simp only [mkR, flatD, packA, retA, List.headD_cons, eq_self, xRun, vE, vP, vSub, vLoad, vBinT, isAg, isBo, bvA, vEqB, vNot, isCutO, isB, bv, gT, gW, gN, gV, isU, isPick, pkC, pkB, isCall, AS.pt, AS.kn, AS.ev, look, cav, td0, td1, td2, td3, td4, td5, td6, Option.bind, Option.getD, Option.isSome, List.take, List.drop, List.length, List.getElem?_cons_zero, List.getElem?_cons_succ, ↓reduceIte, Nat.reduceLT, Nat.reduceAdd, Nat.reduceEqDiff, Nat.zero_add, ne_eq, not_true_eq_false, true_and, Bool.not_true, Bool.false_eq_true, decide_false, and_self, Nat.le_refl]
  refine sw_call hhg0 rfl (aAs_ok ?_) ?_ (sw_run 200 _ _ _ ?_)
  · simp only [aAs, aA, aDs, aD, AS.ev, AS.owf, look, Option.bind, Option.getD, id_eq, List.map, List.append_nil, ↓reduceIte, Nat.reduceEqDiff, eq_self, and_self]
  · simp only [okR]
  simp only [mkR, flatD, packA, retA, List.headD_cons, fQ, xRet, rPs, xRes, flatA, rD, eq_self, xRun, vE, vP, vBin, vBinT, isAg, isBo, isCutO, isB, bv, gN, isPick, isCall, AS.pt, AS.ev, look, cav, eatsOf, td0, td1, td2, td3, td4, td5, td6, Option.getD, List.map, List.nodup_nil, ↓reduceIte, Nat.reduceLT, Nat.reduceEqDiff, ne_eq, not_true_eq_false, or_false, Bool.false_eq_true, reduceCtorEq, decide_false, and_self, hkg0, Try.results3]
theorem top_FnExactAddSums (w : World) (cs0 : Array Value) (h0 : ArgS w [.int, .sl .item] cs0) (cs1 : Array Value) (h1 : ArgS w [.int, .sl .item] cs1) : Calls Try.prog 3 #[.agg cs0, .agg cs1] w fun e w' => e = .returned (.bool true) ∧ Below w.heap.size w w' := by
  obtain ⟨ds0, hc0, hr0, hs0⟩ := h0
  obtain ⟨p0, rfl⟩ := sum_of hc0
  obtain ⟨vs0, rfl⟩ : ∃ vs : List Value, cs0 = vs.toArray := ⟨cs0.toList, by simp⟩
  replace hr0 : RepVs w w.heap.size (sumC p0) vs0 := hr0
  obtain ⟨ds1, hc1, hr1, hs1⟩ := h1
  obtain ⟨p1, rfl⟩ := sum_of hc1
  obtain ⟨vs1, rfl⟩ : ∃ vs : List Value, cs1 = vs.toArray := ⟨cs1.toList, by simp⟩
  replace hr1 : RepVs w w.heap.size (sumC p1) vs1 := hr1
  exact lp_top (con_FnExactAddSums p0 p1 ⟨hc0, hs0⟩ ⟨hc1, hs1⟩) (rpd_cons (rpd_ag hr0) (rpd_cons (rpd_ag hr1) (rpd_nil _)))
end Go.Proofs.Ytepjbiffebbelaa
