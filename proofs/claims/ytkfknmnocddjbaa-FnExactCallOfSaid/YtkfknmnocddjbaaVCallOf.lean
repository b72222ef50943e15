/-
  The walk of the law FnExactCallOf.
-/
import Derived.Test.YtkfknmnocddjbaaLp
import Derived.Test.YtkfknmnocddjbaaCall
import Derived.Test.YtkfknmnocddjbaaUTerm
import Derived.Test.YtkfknmnocddjbaaUMTerm
import Derived.Test.YtkfknmnocddjbaaUSL
import Derived.Test.YtkfknmnocddjbaaUSLM
import Derived.Test.YtkfknmnocddjbaaUSS
import Derived.Test.YtkfknmnocddjbaaCon2
namespace Go.Proofs.Ytkfknmnocddjbaa
open Go.RowKit
set_option linter.unusedVariables false
set_option linter.unusedSimpArgs false
set_option maxRecDepth 20000
theorem con_FnExactCallOf (p0 : List Pm) (p1 : Tm) (p2 : List Int) (hi0 : Inn (pmsD p0) .param) (hi1 : In (tmC p1) K.tm.fields) (hi2 : Inn (intsD p2) .ints) : Con Try.prog 4 [.one (pmsD p0), .ag (tmC p1), .one (intsD p2)] [.one (.bool true)] := by
  by_cases hln2 : (1048576 : Int) < (p2.length : Int)
  case pos =>
    refine con_run Try.func4 rfl rfl (by simp [Try.ntmps4]) ?_
    simp only [argT, argA, fQ, tysD, tmsD, intsD, xRet, rPs, xRes, flatA, rD, eq_self, xRun, vE, vP, vBin, vBinT, isAg, isBo, vLen, isCutO, isB, bv, gN, isPick, isCall, AS.pt, AS.ev, AS.box, AS.rd, look, cav, avB, AV.cells, AV.whole, AV.one, eatsOf, td0, td1, td2, td3, td4, td5, td6, Option.getD, List.map, List.all, List.nodup_nil, ↓reduceIte, Nat.reduceLT, Nat.reduceAdd, Nat.reduceEqDiff, Nat.zero_add, or_false, Bool.and_true, Bool.false_eq_true, reduceCtorEq, decide_true, and_self, Nat.succ_ne_zero, pmsD, tmC_eq, tysD, tmsD, intsD, hln2, Try.ntmps4, Try.results4]
  have hz2 : p2.length ≤ 1048576 := by omega
  obtain ⟨z0, ez0⟩ : ∃ z, z = szD (pmsD p0) := ⟨_, rfl⟩
  have hs0 := lp_sz1 (f := 10) (k := 1048576) ⟨_, Try.func10, rfl, rfl⟩ fun w v hr => U_szParamS hi0.1 hi0.2 hr (by omega) (by omega)
  rw [← ez0] at hs0
  by_cases hft0 : (z0 : Int) ≤ 1048576
  case neg =>
    rw [szR_out _ _ (by omega)] at hs0
    refine con_run Try.func4 rfl rfl (by simp [Try.ntmps4]) ?_
    simp only [argT, argA, tysD, tmsD, intsD, eq_self, xRun, vE, vP, vBin, vBinT, isAg, isBo, vLen, isCutO, isB, bv, gN, isPick, isCall, AS.pt, AS.ev, AS.box, AS.rd, look, cav, avB, AV.cells, AV.whole, AV.one, td0, td1, td2, td3, td4, td5, td6, Option.getD, List.map, List.all, ↓reduceIte, Nat.reduceLT, Nat.reduceAdd, Nat.reduceEqDiff, Nat.zero_add, true_and, Bool.and_true, Bool.false_eq_true, reduceCtorEq, decide_false, Nat.succ_ne_zero, pmsD, tmC_eq, tysD, tmsD, intsD, hln2, Try.ntmps4]
    refine sw_call hs0 rfl (aAs_ok ?_) ?_ (sw_run 200 _ _ _ ?_)
    · simp only [aAs, aA, aD, AS.ev, look, Option.getD, List.map, List.append_nil, ↓reduceIte, Nat.reduceEqDiff, eq_self, and_self, pmsD]
    · simp only [okR]
    simp only [mkR, flatD, packA, retA, List.headD_cons, fQ, xRet, rPs, xRes, flatA, rD, eq_self, xRun, vE, vP, vBin, vBinT, isAg, isBo, isCutO, isB, bv, gN, isPick, isCall, AS.pt, AS.ev, look, cav, eatsOf, td0, td1, td2, td3, td4, td5, td6, Option.getD, List.map, List.nodup_nil, ↓reduceIte, Nat.reduceLT, or_false, Bool.false_eq_true, reduceCtorEq, Int.reduceLT, Int.reduceNeg, decide_true, and_self, Try.results4]
  rw [szR_in _ _ hft0] at hs0
  have hnn0 : ¬ (1048576 - (z0 : Int) < 0) := by omega
  have hz0 : szD (pmsD p0) ≤ 1048576 := by omega
  obtain ⟨z1, ez1⟩ : ∃ z, z = szL (tmC p1) := ⟨_, rfl⟩
  have hs1 := lp_sz (f := 11) (k := 1048576 - (z0 : Int)) ⟨_, Try.func11, rfl, rfl⟩ fun w v hr => U_szTerm hi1.1 hi1.2 hr (by omega) (by omega)
  rw [← ez1] at hs1
  by_cases hft1 : (z1 : Int) ≤ 1048576 - (z0 : Int)
  case neg =>
    rw [szR_out _ _ (by omega)] at hs1
    refine con_run Try.func4 rfl rfl (by simp [Try.ntmps4]) ?_
    simp only [argT, argA, tysD, tmsD, intsD, eq_self, xRun, vE, vP, vBin, vBinT, isAg, isBo, vLen, isCutO, isB, bv, gN, isPick, isCall, AS.pt, AS.ev, AS.box, AS.rd, look, cav, avB, AV.cells, AV.whole, AV.one, td0, td1, td2, td3, td4, td5, td6, Option.getD, List.map, List.all, ↓reduceIte, Nat.reduceLT, Nat.reduceAdd, Nat.reduceEqDiff, Nat.zero_add, true_and, Bool.and_true, Bool.false_eq_true, reduceCtorEq, decide_false, Nat.succ_ne_zero, pmsD, tmC_eq, tysD, tmsD, intsD, hln2, Try.ntmps4]
    refine sw_call hs0 rfl (aAs_ok ?_) ?_ (sw_run 200 _ _ _ ?_)
    · simp only [aAs, aA, aD, AS.ev, look, Option.getD, List.map, List.append_nil, ↓reduceIte, Nat.reduceEqDiff, eq_self, and_self, pmsD]
    · simp only [okR]
    simp only [mkR, flatD, packA, retA, List.headD_cons, eq_self, xRun, vE, vP, vSub, vLoad, vBin, vBinT, isAg, isBo, isCutO, isB, bv, gN, isPick, isCall, AS.pt, AS.ev, look, cav, td0, td1, td2, td3, td4, td5, td6, Option.getD, List.take, List.drop, List.length, ↓reduceIte, Nat.reduceLT, Nat.reduceAdd, Nat.reduceEqDiff, Nat.zero_add, true_and, Bool.false_eq_true, decide_false, Nat.le_refl, hnn0]
    refine sw_call hs1 rfl (aAs_ok ?_) ?_ (sw_run 200 _ _ _ ?_)
    · simp only [aAs, aA, aDs, aD, tysD, tmsD, AS.ev, look, Option.getD, List.map, List.append_nil, ↓reduceIte, Nat.reduceEqDiff, eq_self, and_self, tmC_eq, tysD, tmsD]
    · simp only [okR]
    simp only [mkR, flatD, packA, retA, List.headD_cons, fQ, xRet, rPs, xRes, flatA, rD, eq_self, xRun, vE, vP, vBin, vBinT, isAg, isBo, isCutO, isB, bv, gN, isPick, isCall, AS.pt, AS.ev, look, cav, eatsOf, td0, td1, td2, td3, td4, td5, td6, Option.getD, List.map, List.nodup_nil, ↓reduceIte, Nat.reduceLT, or_false, Bool.false_eq_true, reduceCtorEq, Int.reduceLT, Int.reduceNeg, decide_true, and_self, Try.results4]
  rw [szR_in _ _ hft1] at hs1
  have hnn1 : ¬ (1048576 - (z0 : Int) - (z1 : Int) < 0) := by omega
  have hz1 : szL (tmC p1) ≤ 1048576 := by omega
  have ht0 := lp_to1 (d := pmsD p0) (f := 13) ⟨_, Try.func13, rfl, rfl⟩ fun w v hr => U_toParamS ⟨hi0.1, hi0.2, hz0, hr⟩
  have hq0 := lp_eq1 (d := pmsD p0) (f := 17) ⟨_, Try.func17, rfl, rfl⟩ fun w v u hr hr' => U_eqsParamS hi0.1 hr hr'
  have ht1 := lp_to (ds := tmC p1) (f := 14) ⟨_, Try.func14, rfl, rfl⟩ fun w v hr => U_toTerm ⟨hi1.1, hi1.2, hz1, hr⟩
  have hq1 := lp_eq (ds := tmC p1) (f := 16) ⟨_, Try.func16, rfl, rfl⟩ fun w v u hr hr' => U_eqsTerm hi1.1 hr hr'
  have ht2 := lp_to1 (d := intsD p2) (f := 22) ⟨_, Try.func22, rfl, rfl⟩ fun w v hr => U_toIntS ⟨hi2.1, hi2.2, (by rw [szD_intsEq]; omega), hr⟩
  have hq2 := lp_eq1 (d := intsD p2) (f := 24) ⟨_, Try.func24, rfl, rfl⟩ fun w v u hr hr' => U_eqsIntS hi2.1 hr hr'
  have hS := con_CallS p0 p1 p2 (Nat.le_trans hz0 (by omega)) (Nat.le_trans hz1 (by omega))
  have hI := con_CallI p0 p1 p2 (Nat.le_trans hz0 (by omega)) (Nat.le_trans hz1 (by omega))
  have hc := (caT_fit (as1 := p2) (Nat.le_trans hz0 (by omega)) (Nat.le_trans hz1 (by omega))).1
  have hn := (caT_fit (as1 := p2) (Nat.le_trans hz0 (by omega)) (Nat.le_trans hz1 (by omega))).2
  generalize caT p0 p1 p2 = R0 at *
  have hqr0 := lp_eq (ds := tmC R0) (f := 16) ⟨_, Try.func16, rfl, rfl⟩ fun w v u hr hr' => U_eqsTerm hc hr hr'
  have hbx0 : cntD (pmsD p0) ≤ 20971520 := by have := cntD_bd hi0.1; omega
  have hmx0 := lp_mark1 (d := pmsD p0) (k := 1) (f := 18) ⟨_, Try.func18, rfl, rfl⟩ fun w v fp ho hn => markParamS_all _ hi0.1 v fp w (1) ho hn (by omega) (by omega)
  obtain ⟨d1x0, emx0⟩ : ∃ d, markD (pmsD p0) (1) = .rows 4 p0.length d := ⟨_, rfl⟩
  rw [emx0] at hmx0
  obtain ⟨nx0, enx0⟩ : ∃ n, n = cntD (pmsD p0) := ⟨_, rfl⟩
  rw [← enx0] at hmx0 hbx0
  have hkx0 : ¬ (1 + (nx0 : Int) < 0) := by omega
  have hbx1 : cntS (tmC p1) ≤ 20971520 := by have := cntS_bd hi1.1; omega
  have hmx1 := lp_mark (ds := tmC p1) (k := 1 + (nx0 : Int)) (f := 19) ⟨_, Try.func19, rfl, rfl⟩ fun w v fp ho hn => U_markTerm hi1.1 ho hn (by omega) (by omega)
  obtain ⟨d5x1, d7x1, d8x1, emx1⟩ : ∃ d5x1 d7x1 d8x1, markS (tmC p1) (1 + (nx0 : Int)) = [.int p1.kind, .str p1.name, .str p1.other, .int p1.n, .int p1.ty.kind, .rows 2 p1.ty.args.length d5x1, .int p1.res.kind, .rows 2 p1.res.args.length d7x1, .rows 9 p1.args.length d8x1] := by
    simp only [tmC_eq]
    exact ⟨_, _, _, rfl⟩
  rw [emx1] at hmx1
  obtain ⟨nx1, enx1⟩ : ∃ n, n = cntS (tmC p1) := ⟨_, rfl⟩
  rw [← enx1] at hmx1 hbx1
  have hkx1 : ¬ (1 + (nx0 : Int) + (nx1 : Int) < 0) := by omega
  have hbx2 : cntD (intsD p2) ≤ 20971520 := by have := cntD_bd hi2.1; rw [szD_intsEq] at this; omega
  have hmx2 := lp_mark1 (d := intsD p2) (k := 1 + (nx0 : Int) + (nx1 : Int)) (f := 25) ⟨_, Try.func25, rfl, rfl⟩ fun w v fp ho hn => markintS_all _ hi2.1 v fp w (1 + (nx0 : Int) + (nx1 : Int)) ho hn (by omega) (by omega)
  obtain ⟨d1x2, emx2⟩ : ∃ d, markD (intsD p2) (1 + (nx0 : Int) + (nx1 : Int)) = .rows 1 p2.length d := ⟨_, rfl⟩
  rw [emx2] at hmx2
  obtain ⟨nx2, enx2⟩ : ∃ n, n = cntD (intsD p2) := ⟨_, rfl⟩
  rw [← enx2] at hmx2 hbx2
  have hkx2 : ¬ (1 + (nx0 : Int) + (nx1 : Int) + (nx2 : Int) < 0) := by omega
  have hbg0 : cntS (tmC R0) ≤ 17592186044416 := hn
  have hmg0 := lp_mark (ds := tmC R0) (k := 1) (f := 19) ⟨_, Try.func19, rfl, rfl⟩ fun w v fp ho hn => U_markTerm hc ho hn (by omega) (by omega)
  have hhg0 := lp_sz (ds := markS (tmC R0) (1)) (k := 1) (f := 20) ⟨_, Try.func20, rfl, rfl⟩ fun w v hr => U_heldTerm hc hr (by omega) (by omega)
  obtain ⟨d5g0, d7g0, d8g0, emg0⟩ : ∃ d5g0 d7g0 d8g0, markS (tmC R0) (1) = [.int R0.kind, .str R0.name, .str R0.other, .int R0.n, .int R0.ty.kind, .rows 2 R0.ty.args.length d5g0, .int R0.res.kind, .rows 2 R0.res.args.length d7g0, .rows 9 R0.args.length d8g0] := by
    simp only [tmC_eq]
    exact ⟨_, _, _, rfl⟩
  rw [emg0] at hmg0 hhg0
  obtain ⟨ng0, eng0⟩ : ∃ n, n = cntS (tmC R0) := ⟨_, rfl⟩
  rw [← eng0] at hmg0 hbg0 hhg0
  have hkg0 : ¬ (1 + (ng0 : Int) < 0) := by omega
  refine con_run Try.func4 rfl rfl (by simp [Try.ntmps4]) ?_
  simp only [argT, argA, tysD, tmsD, intsD, eq_self, xRun, vE, vP, vBin, vBinT, isAg, isBo, vLen, isCutO, isB, bv, gN, isPick, isCall, AS.pt, AS.ev, AS.box, AS.rd, look, cav, avB, AV.cells, AV.whole, AV.one, td0, td1, td2, td3, td4, td5, td6, Option.getD, List.map, List.all, ↓reduceIte, Nat.reduceLT, Nat.reduceAdd, Nat.reduceEqDiff, Nat.zero_add, true_and, Bool.and_true, Bool.false_eq_true, reduceCtorEq, decide_false, Nat.succ_ne_zero, pmsD, tmC_eq, tysD, tmsD, intsD, hln2, Try.ntmps4]
  refine sw_call hs0 rfl (aAs_ok ?_) ?_ (sw_run 200 _ _ _ ?_)
  · simp only [aAs, aA, aD, AS.ev, look, Option.getD, List.map, List.append_nil, ↓reduceIte, Nat.reduceEqDiff, eq_self, and_self, pmsD]
  · simp only [okR]
  simp only [mkR, flatD, packA, retA, List.headD_cons, eq_self, xRun, vE, vP, vSub, vLoad, vBin, vBinT, isAg, isBo, isCutO, isB, bv, gN, isPick, isCall, AS.pt, AS.ev, look, cav, td0, td1, td2, td3, td4, td5, td6, Option.getD, List.take, List.drop, List.length, ↓reduceIte, Nat.reduceLT, Nat.reduceAdd, Nat.reduceEqDiff, Nat.zero_add, true_and, Bool.false_eq_true, decide_false, Nat.le_refl, hnn0]
  refine sw_call hs1 rfl (aAs_ok ?_) ?_ (sw_run 200 _ _ _ ?_)
  · simp only [aAs, aA, aDs, aD, tysD, tmsD, AS.ev, look, Option.getD, List.map, List.append_nil, ↓reduceIte, Nat.reduceEqDiff, eq_self, and_self, tmC_eq, tysD, tmsD]
  · simp only [okR]
  simp only [mkR, flatD, packA, retA, List.headD_cons, eq_self, xRun, vE, vP, vBin, vBinT, isAg, isBo, isCutO, isB, bv, gN, isPick, isCall, AS.pt, AS.ev, look, cav, td0, td1, td2, td3, td4, td5, td6, Option.getD, ↓reduceIte, Nat.reduceLT, true_and, Bool.false_eq_true, decide_false, hnn1]
  refine sw_drawnK ?sx1 (.cons 0 true (.cons 2 true (.cons 4 true (.fork (.alt 1 (.fork (.alt 3 (.fork (.alt 5 (.fork (.alt 6 (.cons 7 false (.cons 8 false (.nil))) (.alt 7 (.cons 6 false (.cons 8 false (.nil))) (.last)))) (.alt 7 (.cons 5 false (.cons 6 false (.cons 8 false (.nil)))) (.last)))) (.alt 7 (.cons 3 false (.cons 5 false (.cons 6 false (.cons 8 false (.nil))))) (.last)))) (.alt 7 (.cons 1 false (.cons 3 false (.cons 5 false (.cons 6 false (.cons 8 false (.nil)))))) (.last))))))) (by kernel_rfl) (by kernel_rfl) (sw_run 200 _ _ _ ?ha1) (sw_run 200 _ _ _ ?hb1)
  case ha1 =>
    simp only [eq_self, xRun, vE, vP, vSub, vLoad, gN, isPick, isCall, AS.pt, AS.ev, AS.box, look, td0, td1, td2, td3, td4, td5, td6, Option.getD, Option.isSome, List.take, List.drop, List.length, List.getElem?_cons_zero, List.getElem?_cons_succ, ↓reduceIte, Nat.reduceLT, Nat.reduceAdd, Nat.reduceEqDiff, Nat.zero_add, true_and, and_true, Bool.false_eq_true, reduceCtorEq, Nat.succ_ne_zero, Nat.le_refl]
    refine ⟨?_, ?_⟩
    · refine sw_callD ht0 rfl (aAs_ok ?_) ?_ (sw_run 200 _ _ _ ?_)
      · simp only [aAs, aA, aD, AS.ev, look, Option.getD, List.map, List.append_nil, ↓reduceIte, Nat.reduceEqDiff, eq_self, and_self, pmsD]
      · simp only [okR]
      simp only [mkR, flatD, packA, retA, List.headD_cons, eq_self, xRun, vE, gN, isPick, isCall, AS.pt, AS.box, AS.mk', kill, td0, td1, td2, td3, td4, td5, td6, Option.getD, Option.isSome, List.getElem?_cons_zero, List.getElem?_cons_succ, List.foldr, ↓reduceIte, Nat.reduceLT, Nat.reduceAdd, true_and, and_true, Bool.false_eq_true, pmsD]
      refine ⟨?_, ?_⟩
      · refine sw_callD ht1 rfl (aAs_ok ?_) ?_ (sw_run 200 _ _ _ ?_)
        · simp only [aAs, aA, aDs, aD, tysD, tmsD, AS.ev, look, Option.getD, List.map, List.append_nil, ↓reduceIte, Nat.reduceEqDiff, eq_self, and_self, tmC_eq, tysD, tmsD]
        · simp only [okR]
        simp only [mkR, flatD, packA, retA, tysD, tmsD, eq_self, xRun, vE, gN, isPick, isCall, AS.pt, AS.box, AS.mk', kill, td0, td1, td2, td3, td4, td5, td6, Option.getD, Option.isSome, List.take, List.length, List.getElem?_cons_zero, List.getElem?_cons_succ, List.foldr, List.append_nil, ↓reduceIte, Nat.reduceLT, Nat.reduceAdd, Nat.zero_add, true_and, and_true, Bool.false_eq_true, tmC_eq, tysD, tmsD]
        refine ⟨?_, ?_⟩
        · refine sw_callD ht2 rfl (aAs_ok ?_) ?_ (sw_run 200 _ _ _ ?_)
          · simp only [aAs, aA, aD, intsD, AS.ev, look, Option.getD, List.map, List.append_nil, ↓reduceIte, Nat.reduceEqDiff, eq_self, and_self, intsD]
          · simp only [okR]
          simp only [mkR, flatD, packA, retA, List.headD_cons, intsD, eq_self, xRun, vE, gN, isPick, isCall, AS.pt, AS.box, AS.mk', kill, td0, td1, td2, td3, td4, td5, td6, Option.getD, Option.isSome, List.getElem?_cons_zero, List.getElem?_cons_succ, List.foldr, ↓reduceIte, Nat.reduceLT, Nat.reduceAdd, true_and, and_true, Bool.false_eq_true, intsD]
          refine ⟨?_, ?_⟩
          · refine sw_callD hS rfl (aAs_ok ?_) ?_ (sw_run 200 _ _ _ ?_)
            · simp only [aAs, aA, aDs, aD, tysD, tmsD, AS.ev, AS.owf, look, Option.bind, Option.getD, id_eq, List.map, List.append_nil, ↓reduceIte, Nat.reduceEqDiff, eq_self, and_self, pmsD, tmC_eq, tysD, tmsD]
            · simp only [okR]
            simp only [mkR, flatD, packA, retA, tysD, tmsD, eq_self, xRun, vE, vStore, gN, isPick, isCall, AS.pt, AS.ev, AS.box, AS.setb, AS.mk', kill, look, setRowG, AV.cells, AV.whole, AV.one, td0, td1, td2, td3, td4, td5, td6, Option.getD, Option.isSome, List.take, List.length, List.getElem?_cons_zero, List.getElem?_cons_succ, List.set, List.foldr, List.all, List.append_nil, ↓reduceIte, Nat.reduceLT, Nat.reduceAdd, Nat.reduceEqDiff, Nat.zero_add, true_and, Bool.and_true, Bool.false_eq_true, and_self, Nat.le_refl, tmC_eq, tysD, tmsD, qK]
            refine qk_here [0, 2, 4, 6, 8] ?he ?_
            case he => simp only [kpT, ddB, hasN, look, ↓reduceIte, Nat.reduceEqDiff, reduceCtorEq]; exact rfl
            simp only [Sub, subT, subB, subO, subP, inj, AV.ren, AV.rens, AV.lt, AV.lts, eq_self, AS.owf, look, td0, td1, td2, td3, td4, td5, td6, Option.bind, List.map, List.mem_cons, List.not_mem_nil, List.nodup_cons, List.nodup_nil, ↓reduceIte, Nat.reduceLT, Nat.reduceEqDiff, not_false_eq_true, or_false, id_eq, reduceCtorEq, and_self, Nat.succ_ne_zero]
          · refine sw_callD hS rfl (aAs_ok ?_) ?_ (sw_run 200 _ _ _ ?_)
            · simp only [aAs, aA, aDs, aD, tysD, tmsD, AS.ev, AS.owf, look, Option.bind, Option.getD, id_eq, List.map, List.append_nil, ↓reduceIte, Nat.reduceEqDiff, eq_self, and_self, pmsD, tmC_eq, tysD, tmsD]
            · simp only [okR]
            simp only [mkR, flatD, packA, retA, tysD, tmsD, eq_self, xRun, vE, vStore, gN, isPick, isCall, AS.pt, AS.ev, AS.setb, AS.mk', kill, look, setRowG, AV.cells, AV.whole, AV.one, td0, td1, td2, td3, td4, td5, td6, Option.getD, Option.isSome, List.take, List.length, List.getElem?_cons_zero, List.getElem?_cons_succ, List.set, List.foldr, List.all, List.append_nil, ↓reduceIte, Nat.reduceLT, Nat.reduceAdd, Nat.reduceEqDiff, Nat.zero_add, true_and, Bool.and_true, Bool.false_eq_true, and_self, Nat.le_refl, tmC_eq, tysD, tmsD, qK]
            refine ⟨rnL [(6, 7), (7, 8), (8, 9), (9, 6)], ?_⟩
            simp only [Sub, subT, subB, subO, subP, inj, AV.ren, AV.rens, AV.lt, AV.lts, eq_self, AS.owf, look, td0, td1, td2, td3, td4, td5, td6, Option.bind, Option.getD, List.map, List.mem_cons, List.not_mem_nil, List.nodup_cons, List.nodup_nil, ↓reduceIte, Nat.reduceLT, Nat.reduceEqDiff, not_false_eq_true, or_false, id_eq, reduceCtorEq, and_self, Nat.succ_ne_zero, rnL]
        · refine sw_callD ht2 rfl (aAs_ok ?_) ?_ (sw_run 200 _ _ _ ?_)
          · simp only [aAs, aA, aD, intsD, AS.ev, look, Option.getD, List.map, List.append_nil, ↓reduceIte, Nat.reduceEqDiff, eq_self, and_self, intsD]
          · simp only [okR]
          simp only [mkR, flatD, packA, retA, List.headD_cons, intsD, eq_self, xRun, gN, isCall, AS.pt, AS.mk', kill, td0, td1, td2, td3, td4, td5, td6, Option.getD, Option.isSome, List.getElem?_cons_zero, List.getElem?_cons_succ, List.foldr, ↓reduceIte, Nat.reduceLT, Nat.reduceAdd, true_and, intsD]
          refine sw_callD hS rfl (aAs_ok ?_) ?_ (sw_run 200 _ _ _ ?_)
          · simp only [aAs, aA, aDs, aD, tysD, tmsD, AS.ev, AS.owf, look, Option.bind, Option.getD, id_eq, List.map, List.append_nil, ↓reduceIte, Nat.reduceEqDiff, eq_self, and_self, pmsD, tmC_eq, tysD, tmsD]
          · simp only [okR]
          simp only [mkR, flatD, packA, retA, tysD, tmsD, eq_self, xRun, vE, vStore, gN, isPick, isCall, AS.pt, AS.ev, AS.setb, AS.mk', kill, look, setRowG, AV.cells, AV.whole, AV.one, td0, td1, td2, td3, td4, td5, td6, Option.getD, Option.isSome, List.take, List.length, List.getElem?_cons_zero, List.getElem?_cons_succ, List.set, List.foldr, List.all, List.append_nil, ↓reduceIte, Nat.reduceLT, Nat.reduceAdd, Nat.reduceEqDiff, Nat.zero_add, true_and, Bool.and_true, Bool.false_eq_true, and_self, Nat.le_refl, tmC_eq, tysD, tmsD, qK]
          refine ⟨rnL [(5, 6), (6, 7), (7, 8), (8, 9), (9, 5)], ?_⟩
          simp only [Sub, subT, subB, subO, subP, inj, AV.ren, AV.rens, AV.lt, AV.lts, eq_self, AS.owf, look, td0, td1, td2, td3, td4, td5, td6, Option.bind, Option.getD, List.map, List.mem_cons, List.not_mem_nil, List.nodup_cons, List.nodup_nil, ↓reduceIte, Nat.reduceLT, Nat.reduceEqDiff, not_false_eq_true, or_false, id_eq, reduceCtorEq, and_self, Nat.succ_ne_zero, rnL]
      · refine sw_callD ht1 rfl (aAs_ok ?_) ?_ (sw_run 200 _ _ _ ?_)
        · simp only [aAs, aA, aDs, aD, tysD, tmsD, AS.ev, look, Option.getD, List.map, List.append_nil, ↓reduceIte, Nat.reduceEqDiff, eq_self, and_self, tmC_eq, tysD, tmsD]
        · simp only [okR]
        simp only [mkR, flatD, packA, retA, tysD, tmsD, eq_self, xRun, gN, isCall, AS.pt, AS.mk', kill, td0, td1, td2, td3, td4, td5, td6, Option.getD, Option.isSome, List.take, List.length, List.getElem?_cons_zero, List.getElem?_cons_succ, List.foldr, List.append_nil, ↓reduceIte, Nat.reduceLT, Nat.reduceAdd, Nat.zero_add, true_and, tmC_eq, tysD, tmsD]
        refine sw_callD ht2 rfl (aAs_ok ?_) ?_ (sw_run 200 _ _ _ ?_)
        · simp only [aAs, aA, aD, intsD, AS.ev, look, Option.getD, List.map, List.append_nil, ↓reduceIte, Nat.reduceEqDiff, eq_self, and_self, intsD]
        · simp only [okR]
        simp only [mkR, flatD, packA, retA, List.headD_cons, intsD, eq_self, xRun, gN, isCall, AS.pt, AS.mk', kill, td0, td1, td2, td3, td4, td5, td6, Option.getD, Option.isSome, List.getElem?_cons_zero, List.getElem?_cons_succ, List.foldr, ↓reduceIte, Nat.reduceLT, Nat.reduceAdd, true_and, intsD]
        refine sw_callD hS rfl (aAs_ok ?_) ?_ (sw_run 200 _ _ _ ?_)
        · simp only [aAs, aA, aDs, aD, tysD, tmsD, AS.ev, AS.owf, look, Option.bind, Option.getD, id_eq, List.map, List.append_nil, ↓reduceIte, Nat.reduceEqDiff, eq_self, and_self, pmsD, tmC_eq, tysD, tmsD]
        · simp only [okR]
        simp only [mkR, flatD, packA, retA, tysD, tmsD, eq_self, xRun, vE, vStore, gN, isPick, isCall, AS.pt, AS.ev, AS.setb, AS.mk', kill, look, setRowG, AV.cells, AV.whole, AV.one, td0, td1, td2, td3, td4, td5, td6, Option.getD, Option.isSome, List.take, List.length, List.getElem?_cons_zero, List.getElem?_cons_succ, List.set, List.foldr, List.all, List.append_nil, ↓reduceIte, Nat.reduceLT, Nat.reduceAdd, Nat.reduceEqDiff, Nat.zero_add, true_and, Bool.and_true, Bool.false_eq_true, and_self, Nat.le_refl, tmC_eq, tysD, tmsD, qK]
        refine ⟨rnL [(2, 3), (3, 4), (4, 5), (5, 6), (6, 7), (7, 8), (8, 9), (9, 2)], ?_⟩
        simp only [Sub, subT, subB, subO, subP, inj, AV.ren, AV.rens, AV.lt, AV.lts, eq_self, AS.owf, look, td0, td1, td2, td3, td4, td5, td6, Option.bind, Option.getD, List.map, List.mem_cons, List.not_mem_nil, List.nodup_cons, List.nodup_nil, ↓reduceIte, Nat.reduceLT, Nat.reduceEqDiff, not_false_eq_true, or_false, id_eq, reduceCtorEq, and_self, Nat.succ_ne_zero, rnL]
    · refine sw_callD ht0 rfl (aAs_ok ?_) ?_ (sw_run 200 _ _ _ ?_)
      · simp only [aAs, aA, aD, AS.ev, look, Option.getD, List.map, List.append_nil, ↓reduceIte, Nat.reduceEqDiff, eq_self, and_self, pmsD]
      · simp only [okR]
      simp only [mkR, flatD, packA, retA, List.headD_cons, eq_self, xRun, gN, isCall, AS.pt, AS.mk', kill, td0, td1, td2, td3, td4, td5, td6, Option.getD, Option.isSome, List.getElem?_cons_zero, List.getElem?_cons_succ, List.foldr, ↓reduceIte, Nat.reduceLT, Nat.reduceAdd, true_and, pmsD]
      refine sw_callD ht1 rfl (aAs_ok ?_) ?_ (sw_run 200 _ _ _ ?_)
      · simp only [aAs, aA, aDs, aD, tysD, tmsD, AS.ev, look, Option.getD, List.map, List.append_nil, ↓reduceIte, Nat.reduceEqDiff, eq_self, and_self, tmC_eq, tysD, tmsD]
      · simp only [okR]
      simp only [mkR, flatD, packA, retA, tysD, tmsD, eq_self, xRun, gN, isCall, AS.pt, AS.mk', kill, td0, td1, td2, td3, td4, td5, td6, Option.getD, Option.isSome, List.take, List.length, List.getElem?_cons_zero, List.getElem?_cons_succ, List.foldr, List.append_nil, ↓reduceIte, Nat.reduceLT, Nat.reduceAdd, Nat.zero_add, true_and, tmC_eq, tysD, tmsD]
      refine sw_callD ht2 rfl (aAs_ok ?_) ?_ (sw_run 200 _ _ _ ?_)
      · simp only [aAs, aA, aD, intsD, AS.ev, look, Option.getD, List.map, List.append_nil, ↓reduceIte, Nat.reduceEqDiff, eq_self, and_self, intsD]
      · simp only [okR]
      simp only [mkR, flatD, packA, retA, List.headD_cons, intsD, eq_self, xRun, gN, isCall, AS.pt, AS.mk', kill, td0, td1, td2, td3, td4, td5, td6, Option.getD, Option.isSome, List.getElem?_cons_zero, List.getElem?_cons_succ, List.foldr, ↓reduceIte, Nat.reduceLT, Nat.reduceAdd, true_and, intsD]
      refine sw_callD hS rfl (aAs_ok ?_) ?_ (sw_run 200 _ _ _ ?_)
      · simp only [aAs, aA, aDs, aD, tysD, tmsD, AS.ev, AS.owf, look, Option.bind, Option.getD, id_eq, List.map, List.append_nil, ↓reduceIte, Nat.reduceEqDiff, eq_self, and_self, pmsD, tmC_eq, tysD, tmsD]
      · simp only [okR]
      simp only [mkR, flatD, packA, retA, tysD, tmsD, eq_self, xRun, vE, vStore, gN, isPick, isCall, AS.pt, AS.ev, AS.setb, AS.mk', kill, look, setRowG, AV.cells, AV.whole, AV.one, td0, td1, td2, td3, td4, td5, td6, Option.getD, Option.isSome, List.take, List.length, List.getElem?_cons_zero, List.getElem?_cons_succ, List.set, List.foldr, List.all, List.append_nil, ↓reduceIte, Nat.reduceLT, Nat.reduceAdd, Nat.reduceEqDiff, Nat.zero_add, true_and, Bool.and_true, Bool.false_eq_true, and_self, Nat.le_refl, tmC_eq, tysD, tmsD, qK]
      refine ⟨rnL [(1, 2), (2, 3), (3, 4), (4, 5), (5, 6), (6, 7), (7, 8), (8, 9), (9, 1)], ?_⟩
      simp only [Sub, subT, subB, subO, subP, inj, AV.ren, AV.rens, AV.lt, AV.lts, eq_self, AS.owf, look, td0, td1, td2, td3, td4, td5, td6, Option.bind, Option.getD, List.map, List.mem_cons, List.not_mem_nil, List.nodup_cons, List.nodup_nil, ↓reduceIte, Nat.reduceLT, Nat.reduceEqDiff, not_false_eq_true, or_false, id_eq, reduceCtorEq, and_self, Nat.succ_ne_zero, rnL]
  simp only [eq_self, xRun, vE, vP, isCutO, gN, isPick, isCall, AS.pt, AS.ev, look, td0, td1, td2, td3, td4, td5, td6, Option.getD, ↓reduceIte, Nat.reduceLT, true_and, Bool.false_eq_true]
  refine sw_call ht0 rfl (aAs_ok ?_) ?_ (sw_run 200 _ _ _ ?_)
  · simp only [aAs, aA, aD, AS.ev, look, Option.getD, List.map, List.append_nil, ↓reduceIte, eq_self, and_self, pmsD]
  · simp only [okR]
  simp only [mkR, flatD, packA, retA, List.headD_cons, eq_self, xRun, vE, vP, vSub, vLoad, isCutO, gN, isPick, isCall, AS.pt, AS.ev, AS.mk', kill, look, td0, td1, td2, td3, td4, td5, td6, Option.getD, List.take, List.drop, List.length, List.foldr, ↓reduceIte, Nat.reduceLT, Nat.reduceAdd, Nat.reduceEqDiff, Nat.zero_add, true_and, Bool.false_eq_true, reduceCtorEq, Nat.succ_ne_zero, Nat.le_refl, pmsD]
  refine sw_call ht1 rfl (aAs_ok ?_) ?_ (sw_run 200 _ _ _ ?_)
  · simp only [aAs, aA, aDs, aD, tysD, tmsD, AS.ev, look, Option.getD, List.map, List.append_nil, ↓reduceIte, eq_self, and_self, tmC_eq, tysD, tmsD]
  · simp only [okR]
  simp only [mkR, flatD, packA, retA, tysD, tmsD, eq_self, xRun, vE, vP, vStore, isCutO, gN, isPick, isCall, AS.pt, AS.ev, AS.box, AS.setb, AS.mk', kill, look, setRowG, AV.cells, AV.whole, AV.one, td0, td1, td2, td3, td4, td5, td6, Option.getD, Option.isSome, List.take, List.length, List.set, List.foldr, List.all, List.append_nil, ↓reduceIte, Nat.reduceLT, Nat.reduceAdd, Nat.reduceEqDiff, Nat.zero_add, true_and, Bool.and_true, Bool.false_eq_true, and_self, Nat.succ_ne_zero, Nat.le_refl, tmC_eq, tysD, tmsD]
  refine sw_call ht2 rfl (aAs_ok ?_) ?_ (sw_run 200 _ _ _ ?_)
  · simp only [aAs, aA, aD, intsD, AS.ev, look, Option.getD, List.map, List.append_nil, ↓reduceIte, eq_self, and_self, intsD]
  · simp only [okR]
  simp only [mkR, flatD, packA, retA, List.headD_cons, intsD, eq_self, xRun, vE, vP, vSub, vLoad, isCutO, gN, isPick, isCall, AS.pt, AS.ev, AS.mk', kill, look, td0, td1, td2, td3, td4, td5, td6, Option.getD, List.take, List.drop, List.length, List.foldr, ↓reduceIte, Nat.reduceLT, Nat.reduceAdd, Nat.reduceEqDiff, Nat.zero_add, true_and, Bool.false_eq_true, Nat.le_refl, intsD]
  refine sw_call hI rfl (aAs_ok ?_) ?_ (sw_run 200 _ _ _ ?_)
  · simp only [aAs, aA, aDs, aD, tysD, tmsD, AS.ev, AS.owf, look, Option.bind, Option.getD, id_eq, List.map, List.append_nil, ↓reduceIte, Nat.reduceEqDiff, eq_self, and_self, pmsD, tmC_eq, tysD, tmsD]
  · simp only [okR]
  simp only [mkR, flatD, packA, retA, tysD, tmsD, eq_self, xRun, vE, vP, vSub, vLoad, vStore, isCutO, gN, isPick, isCall, AS.pt, AS.ev, AS.box, AS.setb, AS.mk', kill, look, setRowG, AV.cells, AV.whole, AV.one, td0, td1, td2, td3, td4, td5, td6, Option.getD, Option.isSome, List.take, List.drop, List.length, List.set, List.foldr, List.all, List.append_nil, ↓reduceIte, Nat.reduceLT, Nat.reduceAdd, Nat.reduceEqDiff, Nat.zero_add, true_and, Bool.and_true, Bool.false_eq_true, and_self, Nat.succ_ne_zero, Nat.le_refl, tmC_eq, tysD, tmsD]
  refine sw_call hqr0 rfl (aAs_ok ?_) ?_ (sw_run 200 _ _ _ ?_)
  · simp only [aAs, aA, aDs, aD, tysD, tmsD, AS.ev, AS.owf, look, Option.bind, Option.getD, id_eq, List.map, List.append_nil, ↓reduceIte, Nat.reduceEqDiff, eq_self, and_self, tmC_eq, tysD, tmsD]
  · simp only [okR]
  simp only [mkR, flatD, packA, retA, List.headD_cons, eq_self, xRun, vE, vP, vNot, isCutO, isB, bv, gN, isPick, isCall, AS.pt, AS.ev, look, td0, td1, td2, td3, td4, td5, td6, Option.getD, ↓reduceIte, Nat.reduceLT, Nat.reduceEqDiff, true_and, Bool.not_true, Bool.false_eq_true, reduceCtorEq]
  refine sw_call ht0 rfl (aAs_ok ?_) ?_ (sw_run 200 _ _ _ ?_)
  · simp only [aAs, aA, aD, AS.ev, look, Option.getD, List.map, List.append_nil, ↓reduceIte, eq_self, and_self, pmsD]
  · simp only [okR]
  simp only [mkR, flatD, packA, retA, List.headD_cons, eq_self, xRun, gN, isPick, isCall, AS.pt, AS.mk', kill, td0, td1, td2, td3, td4, td5, td6, List.foldr, ↓reduceIte, Nat.reduceLT, Nat.reduceAdd, Bool.false_eq_true, pmsD]
  refine sw_call hq0 rfl (aAs_ok ?_) ?_ (sw_run 200 _ _ _ ?_)
  · simp only [aAs, aA, aD, AS.ev, AS.owf, look, Option.bind, Option.getD, id_eq, List.map, List.append_nil, ↓reduceIte, Nat.reduceEqDiff, eq_self, and_self, pmsD]
  · simp only [okR]
  simp only [mkR, flatD, packA, retA, List.headD_cons, eq_self, xRun, vE, vP, vNot, isCutO, isB, bv, gN, isPick, isCall, AS.pt, AS.ev, look, td0, td1, td2, td3, td4, td5, td6, Option.getD, ↓reduceIte, Nat.reduceLT, true_and, Bool.not_true, Bool.false_eq_true]
  refine sw_drawn (.cons 0 true (.cons 1 true (.cons 2 false (.cons 3 false (.cons 4 true (.nil)))))) (by kernel_rfl) fQ_panic (by kernel_rfl) (sw_run 200 _ _ _ ?_)
  simp only [eq_self, xRun, vP, vSub, vLoad, gN, isPick, isCall, AS.pt, AS.ev, look, td0, td1, td2, td3, td4, td5, td6, Option.getD, Option.isSome, List.take, List.drop, List.length, List.getElem?_cons_zero, List.getElem?_cons_succ, ↓reduceIte, Nat.reduceLT, Nat.reduceAdd, Nat.reduceEqDiff, Nat.zero_add, true_and, Bool.false_eq_true, reduceCtorEq, Nat.succ_ne_zero, Nat.le_refl]
  refine sw_callD ht1 rfl (aAs_ok ?_) ?_ (sw_run 200 _ _ _ ?_)
  · simp only [aAs, aA, aDs, aD, tysD, tmsD, AS.ev, look, Option.getD, List.map, List.append_nil, ↓reduceIte, eq_self, and_self, tmC_eq, tysD, tmsD]
  · simp only [okR]
  simp only [mkR, flatD, packA, retA, tysD, tmsD, eq_self, xRun, gN, isCall, AS.pt, AS.mk', kill, td0, td1, td2, td3, td4, td5, td6, Option.getD, Option.isSome, List.take, List.length, List.getElem?_cons_zero, List.getElem?_cons_succ, List.foldr, List.append_nil, ↓reduceIte, Nat.reduceLT, Nat.reduceAdd, Nat.zero_add, true_and, tmC_eq, tysD, tmsD]
  refine sw_callD hq1 rfl (aAs_ok ?_) ?_ (sw_run 200 _ _ _ ?_)
  · simp only [aAs, aA, aDs, aD, tysD, tmsD, AS.ev, AS.owf, look, Option.bind, Option.getD, id_eq, List.map, List.append_nil, ↓reduceIte, Nat.reduceEqDiff, eq_self, and_self, tmC_eq, tysD, tmsD]
  · simp only [okR]
  simp only [mkR, flatD, packA, retA, List.headD_cons, eq_self, xRun, vE, vP, vNot, isCutO, isB, bv, gN, isPick, isCall, AS.pt, AS.ev, look, td0, td1, td2, td3, td4, td5, td6, Option.getD, Option.isSome, List.getElem?_cons_zero, List.getElem?_cons_succ, ↓reduceIte, Nat.reduceLT, Nat.reduceEqDiff, true_and, Bool.not_true, Bool.false_eq_true, Nat.succ_ne_zero]
  refine sw_call ht2 rfl (aAs_ok ?_) ?_ (sw_run 200 _ _ _ ?_)
  · simp only [aAs, aA, aD, intsD, AS.ev, look, Option.getD, List.map, List.append_nil, ↓reduceIte, eq_self, and_self, intsD]
  · simp only [okR]
  simp only [mkR, flatD, packA, retA, List.headD_cons, intsD, eq_self, xRun, gN, isPick, isCall, AS.pt, AS.mk', kill, td0, td1, td2, td3, td4, td5, td6, List.foldr, ↓reduceIte, Nat.reduceLT, Nat.reduceAdd, Bool.false_eq_true, intsD]
  refine sw_call hq2 rfl (aAs_ok ?_) ?_ (sw_run 200 _ _ _ ?_)
  · simp only [aAs, aA, aD, intsD, AS.ev, AS.owf, look, Option.bind, Option.getD, id_eq, List.map, List.append_nil, ↓reduceIte, Nat.reduceEqDiff, eq_self, and_self, intsD]
  · simp only [okR]
  simp only [mkR, flatD, packA, retA, List.headD_cons, eq_self, xRun, vE, vP, vNot, isCutO, isB, bv, gN, isPick, isCall, AS.pt, AS.ev, look, cav, td0, td1, td2, td3, td4, td5, td6, Option.getD, ↓reduceIte, Nat.reduceLT, Nat.reduceEqDiff, true_and, Bool.not_true, Bool.false_eq_true]
  refine sw_callL hmx0 rfl rfl rfl (.inl rfl) ?_ ?_ ?_ (sw_run 200 _ _ _ ?_)
  · simp only [rD, rDs, eq_self, AS.ev, AS.owf, look, td0, td1, td2, td3, td4, td5, td6, Option.bind, Option.getD, ↓reduceIte, Nat.reduceEqDiff, id_eq, and_self, lendOf, rDs, rD, pmsD]
  · simp only [eq_self, AS.ev, look, td0, td1, td2, td3, td4, td5, td6, Option.getD, ↓reduceIte, Nat.reduceEqDiff, and_self, lendOf, lendOk, shp2, pmsD]
  · simp only [eq_self, AS.ev, look, eatsOf, td0, td1, td2, td3, td4, td5, td6, Option.getD, List.not_mem_nil, List.nodup_cons, List.nodup_nil, ↓reduceIte, Nat.reduceEqDiff, not_false_eq_true, and_self, lendOf, eatsOf]
  simp only [eq_self, xRun, vE, vP, vSub, vLoad, isCutO, gN, isPick, isCall, AS.pt, AS.ev, look, td0, td1, td2, td3, td4, td5, td6, Option.getD, List.take, List.drop, List.length, ↓reduceIte, Nat.reduceLT, Nat.reduceAdd, Nat.reduceEqDiff, Nat.zero_add, true_and, Bool.false_eq_true, Nat.le_refl, AS.lend, lendOf, lendL, lendO, unspLT, unspLB, AV.unspL, AV.unspLs]
  refine sw_callL hmx1 rfl rfl rfl (.inr ?_) ?_ ?_ ?_ (sw_run 200 _ _ _ ?_)
  · simp only [eq_self, AS.ev, look, td0, td1, td2, td3, td4, td5, td6, Option.getD, ↓reduceIte, Nat.reduceEqDiff, isAgV]
  · simp only [tysD, tmsD, rD, rDs, eq_self, AS.ev, AS.owf, look, td0, td1, td2, td3, td4, td5, td6, Option.bind, Option.getD, ↓reduceIte, Nat.reduceEqDiff, Bool.false_eq_true, id_eq, and_self, lendOf, rDs, rD, tmC_eq, tysD, tmsD]
  · simp only [tysD, tmsD, eq_self, AS.ev, look, td0, td1, td2, td3, td4, td5, td6, Option.getD, ↓reduceIte, Nat.reduceEqDiff, Bool.false_eq_true, and_self, lendOf, lendOk, shp2, tmC_eq, tysD, tmsD]
  · simp only [eq_self, AS.ev, look, eatsOf, td0, td1, td2, td3, td4, td5, td6, Option.getD, List.mem_cons, List.not_mem_nil, List.nodup_cons, List.nodup_nil, ↓reduceIte, Nat.reduceEqDiff, not_false_eq_true, or_false, Bool.false_eq_true, and_self, lendOf, eatsOf]
  simp only [eq_self, xRun, vE, vP, isCutO, gN, isPick, isCall, AS.pt, AS.ev, look, td0, td1, td2, td3, td4, td5, td6, Option.getD, ↓reduceIte, Nat.reduceLT, Nat.reduceEqDiff, true_and, Bool.false_eq_true, AS.lend, lendOf, lendL, lendO, unspLT, unspLB, AV.unspL, AV.unspLs]
  refine sw_callL hmx2 rfl rfl rfl (.inl rfl) ?_ ?_ ?_ (sw_run 200 _ _ _ ?_)
  · simp only [intsD, rD, rDs, eq_self, AS.ev, AS.owf, look, td0, td1, td2, td3, td4, td5, td6, Option.bind, Option.getD, ↓reduceIte, Nat.reduceEqDiff, id_eq, and_self, lendOf, rDs, rD, intsD]
  · simp only [intsD, eq_self, AS.ev, look, td0, td1, td2, td3, td4, td5, td6, Option.getD, ↓reduceIte, Nat.reduceEqDiff, and_self, lendOf, lendOk, shp2, intsD]
  · simp only [eq_self, AS.ev, look, eatsOf, td0, td1, td2, td3, td4, td5, td6, Option.getD, List.not_mem_nil, List.nodup_cons, List.nodup_nil, ↓reduceIte, Nat.reduceEqDiff, not_false_eq_true, and_self, lendOf, eatsOf]
  simp only [eq_self, xRun, vE, vP, vSub, vLoad, vBin, vBinT, isAg, isBo, isCutO, isB, bv, gT, gW, gN, gV, isU, isPick, isCall, AS.pt, AS.kn, AS.ev, look, cav, td0, td1, td2, td3, td4, td5, td6, Option.bind, Option.getD, Option.isSome, List.take, List.drop, List.length, List.getElem?_cons_zero, List.getElem?_cons_succ, ↓reduceIte, Nat.reduceLT, Nat.reduceAdd, Nat.reduceEqDiff, Nat.zero_add, true_and, Bool.false_eq_true, decide_false, and_self, Nat.succ_ne_zero, Nat.le_refl, hkx2, AS.lend, lendOf, lendL, lendO, unspLT, unspLB, AV.unspL, AV.unspLs]
  refine sw_call hqr0 rfl (aAs_ok ?_) ?_ (sw_run 200 _ _ _ ?_)
  · simp only [aAs, aA, aDs, aD, tysD, tmsD, AS.ev, AS.owf, look, Option.bind, Option.getD, id_eq, List.map, List.append_nil, ↓reduceIte, Nat.reduceEqDiff, eq_self, and_self, tmC_eq, tysD, tmsD]
  · simp only [okR]
  simp only [mkR, flatD, packA, retA, List.headD_cons, eq_self, xRun, vE, vP, vSub, vLoad, vNot, isCutO, isB, bv, gT, gW, gN, gV, isU, isPick, pkC, pkB, isCall, AS.pt, AS.kn, AS.ev, look, cav, td0, td1, td2, td3, td4, td5, td6, Option.bind, Option.getD, Option.isSome, List.take, List.drop, List.length, List.getElem?_cons_zero, List.getElem?_cons_succ, ↓reduceIte, Nat.reduceLT, Nat.reduceAdd, Nat.reduceEqDiff, Nat.zero_add, true_and, Bool.not_true, Bool.false_eq_true, and_self, Nat.le_refl]
  refine sw_callL hmg0 rfl rfl rfl (.inr ?_) ?_ ?_ ?_ (sw_run 200 _ _ _ ?_)
  · simp only [eq_self, AS.ev, look, td0, td1, td2, td3, td4, td5, td6, Option.getD, ↓reduceIte, Nat.reduceEqDiff, isAgV]
  · simp only [tysD, tmsD, rD, rDs, eq_self, AS.ev, AS.owf, look, td0, td1, td2, td3, td4, td5, td6, Option.bind, Option.getD, ↓reduceIte, Nat.reduceEqDiff, Bool.false_eq_true, id_eq, and_self, lendOf, rDs, rD, tmC_eq, tysD, tmsD]
  · simp only [tysD, tmsD, eq_self, AS.ev, look, td0, td1, td2, td3, td4, td5, td6, Option.getD, ↓reduceIte, Nat.reduceEqDiff, Bool.false_eq_true, and_self, lendOf, lendOk, shp2, tmC_eq, tysD, tmsD]
  · simp only [eq_self, AS.ev, look, eatsOf, td0, td1, td2, td3, td4, td5, td6, Option.getD, List.mem_cons, List.not_mem_nil, List.nodup_cons, List.nodup_nil, ↓reduceIte, Nat.reduceEqDiff, not_false_eq_true, or_false, Bool.false_eq_true, and_self, lendOf, eatsOf]
  simp only [eq_self, xRun, vE, vP, vSub, vLoad, isCutO, gN, isPick, isCall, AS.pt, AS.ev, look, cav, td0, td1, td2, td3, td4, td5, td6, Option.getD, List.take, List.drop, List.length, ↓reduceIte, Nat.reduceLT, Nat.reduceAdd, Nat.reduceEqDiff, Nat.zero_add, true_and, Bool.false_eq_true, Nat.le_refl, AS.lend, lendOf, lendL, lendO, unspLT, unspLB, AV.unspL, AV.unspLs]
  refine sw_call hhg0 rfl (aAs_ok ?_) ?_ (sw_run 200 _ _ _ ?_)
  · simp only [aAs, aA, aDs, aD, AS.ev, AS.owf, look, Option.bind, Option.getD, id_eq, List.map, List.append_nil, ↓reduceIte, Nat.reduceEqDiff, eq_self, and_self]
  · simp only [okR]
  simp only [mkR, flatD, packA, retA, List.headD_cons, eq_self, xRun, vE, vP, vBin, vBinT, isAg, isBo, isCutO, isB, bv, gN, isPick, isCall, AS.pt, AS.ev, look, cav, td0, td1, td2, td3, td4, td5, td6, Option.getD, ↓reduceIte, Nat.reduceLT, Nat.reduceEqDiff, ne_eq, not_true_eq_false, true_and, Bool.false_eq_true, decide_false, hkg0]
  refine sw_drawnK ?sx2 (.cons 0 true (.cons 2 true (.cons 4 true (.fork (.alt 1 (.fork (.alt 3 (.fork (.alt 5 (.fork (.alt 6 (.cons 7 false (.cons 8 false (.nil))) (.alt 7 (.cons 6 false (.cons 8 false (.nil))) (.last)))) (.alt 7 (.cons 5 false (.cons 6 false (.cons 8 false (.nil)))) (.last)))) (.alt 7 (.cons 3 false (.cons 5 false (.cons 6 false (.cons 8 false (.nil))))) (.last)))) (.alt 7 (.cons 1 false (.cons 3 false (.cons 5 false (.cons 6 false (.cons 8 false (.nil)))))) (.last))))))) (by kernel_rfl) (by kernel_rfl) (sw_run 200 _ _ _ ?ha2) (sw_run 200 _ _ _ ?hb2)
  case ha2 =>
    simp only [eq_self, xRun, vE, vP, vSub, vLoad, gN, isPick, isCall, AS.pt, AS.ev, AS.box, look, td0, td1, td2, td3, td4, td5, td6, Option.getD, Option.isSome, List.take, List.drop, List.length, List.getElem?_cons_zero, List.getElem?_cons_succ, ↓reduceIte, Nat.reduceLT, Nat.reduceAdd, Nat.reduceEqDiff, Nat.zero_add, true_and, and_true, Bool.false_eq_true, reduceCtorEq, Nat.succ_ne_zero, Nat.le_refl]
    refine ⟨?_, ?_⟩
    · refine sw_callD ht0 rfl (aAs_ok ?_) ?_ (sw_run 200 _ _ _ ?_)
      · simp only [aAs, aA, aD, AS.ev, look, Option.getD, List.map, List.append_nil, ↓reduceIte, Nat.reduceEqDiff, eq_self, and_self, pmsD]
      · simp only [okR]
      simp only [mkR, flatD, packA, retA, List.headD_cons, eq_self, xRun, vE, gN, isPick, isCall, AS.pt, AS.box, AS.mk', kill, td0, td1, td2, td3, td4, td5, td6, Option.getD, Option.isSome, List.getElem?_cons_zero, List.getElem?_cons_succ, List.foldr, ↓reduceIte, Nat.reduceLT, Nat.reduceAdd, true_and, and_true, Bool.false_eq_true, pmsD]
      refine ⟨?_, ?_⟩
      · refine sw_callD ht1 rfl (aAs_ok ?_) ?_ (sw_run 200 _ _ _ ?_)
        · simp only [aAs, aA, aDs, aD, tysD, tmsD, AS.ev, look, Option.getD, List.map, List.append_nil, ↓reduceIte, Nat.reduceEqDiff, eq_self, and_self, tmC_eq, tysD, tmsD]
        · simp only [okR]
        simp only [mkR, flatD, packA, retA, tysD, tmsD, eq_self, xRun, vE, gN, isPick, isCall, AS.pt, AS.box, AS.mk', kill, td0, td1, td2, td3, td4, td5, td6, Option.getD, Option.isSome, List.take, List.length, List.getElem?_cons_zero, List.getElem?_cons_succ, List.foldr, List.append_nil, ↓reduceIte, Nat.reduceLT, Nat.reduceAdd, Nat.zero_add, true_and, and_true, Bool.false_eq_true, tmC_eq, tysD, tmsD]
        refine ⟨?_, ?_⟩
        · refine sw_callD ht2 rfl (aAs_ok ?_) ?_ (sw_run 200 _ _ _ ?_)
          · simp only [aAs, aA, aD, intsD, AS.ev, look, Option.getD, List.map, List.append_nil, ↓reduceIte, Nat.reduceEqDiff, eq_self, and_self, intsD]
          · simp only [okR]
          simp only [mkR, flatD, packA, retA, List.headD_cons, intsD, eq_self, xRun, vE, gN, isPick, isCall, AS.pt, AS.box, AS.mk', kill, td0, td1, td2, td3, td4, td5, td6, Option.getD, Option.isSome, List.getElem?_cons_zero, List.getElem?_cons_succ, List.foldr, ↓reduceIte, Nat.reduceLT, Nat.reduceAdd, true_and, and_true, Bool.false_eq_true, intsD]
          refine ⟨?_, ?_⟩
          · refine sw_callD hI rfl (aAs_ok ?_) ?_ (sw_run 200 _ _ _ ?_)
            · simp only [aAs, aA, aDs, aD, tysD, tmsD, AS.ev, AS.owf, look, Option.bind, Option.getD, id_eq, List.map, List.append_nil, ↓reduceIte, Nat.reduceEqDiff, eq_self, and_self, pmsD, tmC_eq, tysD, tmsD]
            · simp only [okR]
            simp only [mkR, flatD, packA, retA, tysD, tmsD, eq_self, xRun, vE, vStore, gN, isPick, isCall, AS.pt, AS.ev, AS.box, AS.setb, AS.mk', kill, look, setRowG, AV.cells, AV.whole, AV.one, td0, td1, td2, td3, td4, td5, td6, Option.getD, Option.isSome, List.take, List.length, List.getElem?_cons_zero, List.getElem?_cons_succ, List.set, List.foldr, List.all, List.append_nil, ↓reduceIte, Nat.reduceLT, Nat.reduceAdd, Nat.reduceEqDiff, Nat.zero_add, true_and, Bool.and_true, Bool.false_eq_true, and_self, Nat.le_refl, tmC_eq, tysD, tmsD, qK]
            refine qk_here [6, 8, 12, 14, 15, 16] ?he ?_
            case he => simp only [kpT, ddB, hasN, look, ↓reduceIte, Nat.reduceEqDiff, reduceCtorEq]; exact rfl
            simp only [Sub, subT, subB, subO, subP, inj, AV.ren, AV.rens, AV.lt, AV.lts, eq_self, AS.owf, look, td0, td1, td2, td3, td4, td5, td6, Option.bind, List.map, List.mem_cons, List.not_mem_nil, List.nodup_cons, List.nodup_nil, ↓reduceIte, Nat.reduceLT, Nat.reduceEqDiff, not_false_eq_true, or_false, id_eq, reduceCtorEq, and_self, Nat.succ_ne_zero]
          · refine sw_callD hI rfl (aAs_ok ?_) ?_ (sw_run 200 _ _ _ ?_)
            · simp only [aAs, aA, aDs, aD, tysD, tmsD, AS.ev, AS.owf, look, Option.bind, Option.getD, id_eq, List.map, List.append_nil, ↓reduceIte, Nat.reduceEqDiff, eq_self, and_self, pmsD, tmC_eq, tysD, tmsD]
            · simp only [okR]
            simp only [mkR, flatD, packA, retA, tysD, tmsD, eq_self, xRun, vE, vStore, gN, isPick, isCall, AS.pt, AS.ev, AS.setb, AS.mk', kill, look, setRowG, AV.cells, AV.whole, AV.one, td0, td1, td2, td3, td4, td5, td6, Option.getD, Option.isSome, List.take, List.length, List.getElem?_cons_zero, List.getElem?_cons_succ, List.set, List.foldr, List.all, List.append_nil, ↓reduceIte, Nat.reduceLT, Nat.reduceAdd, Nat.reduceEqDiff, Nat.zero_add, true_and, Bool.and_true, Bool.false_eq_true, and_self, Nat.le_refl, tmC_eq, tysD, tmsD, qK]
            refine ⟨rnL [(30, 31), (31, 32), (32, 33), (33, 30)], ?_⟩
            simp only [Sub, subT, subB, subO, subP, inj, AV.ren, AV.rens, AV.lt, AV.lts, eq_self, AS.owf, look, td0, td1, td2, td3, td4, td5, td6, Option.bind, Option.getD, List.map, List.mem_cons, List.not_mem_nil, List.nodup_cons, List.nodup_nil, ↓reduceIte, Nat.reduceLT, Nat.reduceEqDiff, not_false_eq_true, or_false, id_eq, reduceCtorEq, and_self, Nat.succ_ne_zero, rnL]
        · refine sw_callD ht2 rfl (aAs_ok ?_) ?_ (sw_run 200 _ _ _ ?_)
          · simp only [aAs, aA, aD, intsD, AS.ev, look, Option.getD, List.map, List.append_nil, ↓reduceIte, Nat.reduceEqDiff, eq_self, and_self, intsD]
          · simp only [okR]
          simp only [mkR, flatD, packA, retA, List.headD_cons, intsD, eq_self, xRun, gN, isCall, AS.pt, AS.mk', kill, td0, td1, td2, td3, td4, td5, td6, Option.getD, Option.isSome, List.getElem?_cons_zero, List.getElem?_cons_succ, List.foldr, ↓reduceIte, Nat.reduceLT, Nat.reduceAdd, true_and, intsD]
          refine sw_callD hI rfl (aAs_ok ?_) ?_ (sw_run 200 _ _ _ ?_)
          · simp only [aAs, aA, aDs, aD, tysD, tmsD, AS.ev, AS.owf, look, Option.bind, Option.getD, id_eq, List.map, List.append_nil, ↓reduceIte, Nat.reduceEqDiff, eq_self, and_self, pmsD, tmC_eq, tysD, tmsD]
          · simp only [okR]
          simp only [mkR, flatD, packA, retA, tysD, tmsD, eq_self, xRun, vE, vStore, gN, isPick, isCall, AS.pt, AS.ev, AS.setb, AS.mk', kill, look, setRowG, AV.cells, AV.whole, AV.one, td0, td1, td2, td3, td4, td5, td6, Option.getD, Option.isSome, List.take, List.length, List.getElem?_cons_zero, List.getElem?_cons_succ, List.set, List.foldr, List.all, List.append_nil, ↓reduceIte, Nat.reduceLT, Nat.reduceAdd, Nat.reduceEqDiff, Nat.zero_add, true_and, Bool.and_true, Bool.false_eq_true, and_self, Nat.le_refl, tmC_eq, tysD, tmsD, qK]
          refine ⟨rnL [(29, 30), (30, 31), (31, 32), (32, 33), (33, 29)], ?_⟩
          simp only [Sub, subT, subB, subO, subP, inj, AV.ren, AV.rens, AV.lt, AV.lts, eq_self, AS.owf, look, td0, td1, td2, td3, td4, td5, td6, Option.bind, Option.getD, List.map, List.mem_cons, List.not_mem_nil, List.nodup_cons, List.nodup_nil, ↓reduceIte, Nat.reduceLT, Nat.reduceEqDiff, not_false_eq_true, or_false, id_eq, reduceCtorEq, and_self, Nat.succ_ne_zero, rnL]
      · refine sw_callD ht1 rfl (aAs_ok ?_) ?_ (sw_run 200 _ _ _ ?_)
        · simp only [aAs, aA, aDs, aD, tysD, tmsD, AS.ev, look, Option.getD, List.map, List.append_nil, ↓reduceIte, Nat.reduceEqDiff, eq_self, and_self, tmC_eq, tysD, tmsD]
        · simp only [okR]
        simp only [mkR, flatD, packA, retA, tysD, tmsD, eq_self, xRun, gN, isCall, AS.pt, AS.mk', kill, td0, td1, td2, td3, td4, td5, td6, Option.getD, Option.isSome, List.take, List.length, List.getElem?_cons_zero, List.getElem?_cons_succ, List.foldr, List.append_nil, ↓reduceIte, Nat.reduceLT, Nat.reduceAdd, Nat.zero_add, true_and, tmC_eq, tysD, tmsD]
        refine sw_callD ht2 rfl (aAs_ok ?_) ?_ (sw_run 200 _ _ _ ?_)
        · simp only [aAs, aA, aD, intsD, AS.ev, look, Option.getD, List.map, List.append_nil, ↓reduceIte, Nat.reduceEqDiff, eq_self, and_self, intsD]
        · simp only [okR]
        simp only [mkR, flatD, packA, retA, List.headD_cons, intsD, eq_self, xRun, gN, isCall, AS.pt, AS.mk', kill, td0, td1, td2, td3, td4, td5, td6, Option.getD, Option.isSome, List.getElem?_cons_zero, List.getElem?_cons_succ, List.foldr, ↓reduceIte, Nat.reduceLT, Nat.reduceAdd, true_and, intsD]
        refine sw_callD hI rfl (aAs_ok ?_) ?_ (sw_run 200 _ _ _ ?_)
        · simp only [aAs, aA, aDs, aD, tysD, tmsD, AS.ev, AS.owf, look, Option.bind, Option.getD, id_eq, List.map, List.append_nil, ↓reduceIte, Nat.reduceEqDiff, eq_self, and_self, pmsD, tmC_eq, tysD, tmsD]
        · simp only [okR]
        simp only [mkR, flatD, packA, retA, tysD, tmsD, eq_self, xRun, vE, vStore, gN, isPick, isCall, AS.pt, AS.ev, AS.setb, AS.mk', kill, look, setRowG, AV.cells, AV.whole, AV.one, td0, td1, td2, td3, td4, td5, td6, Option.getD, Option.isSome, List.take, List.length, List.getElem?_cons_zero, List.getElem?_cons_succ, List.set, List.foldr, List.all, List.append_nil, ↓reduceIte, Nat.reduceLT, Nat.reduceAdd, Nat.reduceEqDiff, Nat.zero_add, true_and, Bool.and_true, Bool.false_eq_true, and_self, Nat.le_refl, tmC_eq, tysD, tmsD, qK]
        refine ⟨rnL [(26, 27), (27, 28), (28, 29), (29, 30), (30, 31), (31, 32), (32, 33), (33, 26)], ?_⟩
        simp only [Sub, subT, subB, subO, subP, inj, AV.ren, AV.rens, AV.lt, AV.lts, eq_self, AS.owf, look, td0, td1, td2, td3, td4, td5, td6, Option.bind, Option.getD, List.map, List.mem_cons, List.not_mem_nil, List.nodup_cons, List.nodup_nil, ↓reduceIte, Nat.reduceLT, Nat.reduceEqDiff, not_false_eq_true, or_false, id_eq, reduceCtorEq, and_self, Nat.succ_ne_zero, rnL]
    · refine sw_callD ht0 rfl (aAs_ok ?_) ?_ (sw_run 200 _ _ _ ?_)
      · simp only [aAs, aA, aD, AS.ev, look, Option.getD, List.map, List.append_nil, ↓reduceIte, Nat.reduceEqDiff, eq_self, and_self, pmsD]
      · simp only [okR]
      simp only [mkR, flatD, packA, retA, List.headD_cons, eq_self, xRun, gN, isCall, AS.pt, AS.mk', kill, td0, td1, td2, td3, td4, td5, td6, Option.getD, Option.isSome, List.getElem?_cons_zero, List.getElem?_cons_succ, List.foldr, ↓reduceIte, Nat.reduceLT, Nat.reduceAdd, true_and, pmsD]
      refine sw_callD ht1 rfl (aAs_ok ?_) ?_ (sw_run 200 _ _ _ ?_)
      · simp only [aAs, aA, aDs, aD, tysD, tmsD, AS.ev, look, Option.getD, List.map, List.append_nil, ↓reduceIte, Nat.reduceEqDiff, eq_self, and_self, tmC_eq, tysD, tmsD]
      · simp only [okR]
      simp only [mkR, flatD, packA, retA, tysD, tmsD, eq_self, xRun, gN, isCall, AS.pt, AS.mk', kill, td0, td1, td2, td3, td4, td5, td6, Option.getD, Option.isSome, List.take, List.length, List.getElem?_cons_zero, List.getElem?_cons_succ, List.foldr, List.append_nil, ↓reduceIte, Nat.reduceLT, Nat.reduceAdd, Nat.zero_add, true_and, tmC_eq, tysD, tmsD]
      refine sw_callD ht2 rfl (aAs_ok ?_) ?_ (sw_run 200 _ _ _ ?_)
      · simp only [aAs, aA, aD, intsD, AS.ev, look, Option.getD, List.map, List.append_nil, ↓reduceIte, Nat.reduceEqDiff, eq_self, and_self, intsD]
      · simp only [okR]
      simp only [mkR, flatD, packA, retA, List.headD_cons, intsD, eq_self, xRun, gN, isCall, AS.pt, AS.mk', kill, td0, td1, td2, td3, td4, td5, td6, Option.getD, Option.isSome, List.getElem?_cons_zero, List.getElem?_cons_succ, List.foldr, ↓reduceIte, Nat.reduceLT, Nat.reduceAdd, true_and, intsD]
      refine sw_callD hI rfl (aAs_ok ?_) ?_ (sw_run 200 _ _ _ ?_)
      · simp only [aAs, aA, aDs, aD, tysD, tmsD, AS.ev, AS.owf, look, Option.bind, Option.getD, id_eq, List.map, List.append_nil, ↓reduceIte, Nat.reduceEqDiff, eq_self, and_self, pmsD, tmC_eq, tysD, tmsD]
      · simp only [okR]
      simp only [mkR, flatD, packA, retA, tysD, tmsD, eq_self, xRun, vE, vStore, gN, isPick, isCall, AS.pt, AS.ev, AS.setb, AS.mk', kill, look, setRowG, AV.cells, AV.whole, AV.one, td0, td1, td2, td3, td4, td5, td6, Option.getD, Option.isSome, List.take, List.length, List.getElem?_cons_zero, List.getElem?_cons_succ, List.set, List.foldr, List.all, List.append_nil, ↓reduceIte, Nat.reduceLT, Nat.reduceAdd, Nat.reduceEqDiff, Nat.zero_add, true_and, Bool.and_true, Bool.false_eq_true, and_self, Nat.le_refl, tmC_eq, tysD, tmsD, qK]
      refine ⟨rnL [(25, 26), (26, 27), (27, 28), (28, 29), (29, 30), (30, 31), (31, 32), (32, 33), (33, 25)], ?_⟩
      simp only [Sub, subT, subB, subO, subP, inj, AV.ren, AV.rens, AV.lt, AV.lts, eq_self, AS.owf, look, td0, td1, td2, td3, td4, td5, td6, Option.bind, Option.getD, List.map, List.mem_cons, List.not_mem_nil, List.nodup_cons, List.nodup_nil, ↓reduceIte, Nat.reduceLT, Nat.reduceEqDiff, not_false_eq_true, or_false, id_eq, reduceCtorEq, and_self, Nat.succ_ne_zero, rnL]
  simp only [eq_self, xRun, vE, vP, vSub, vLoad, isCutO, gN, isPick, isCall, AS.pt, AS.ev, look, td0, td1, td2, td3, td4, td5, td6, Option.getD, List.take, List.drop, List.length, ↓reduceIte, Nat.reduceLT, Nat.reduceAdd, Nat.reduceEqDiff, Nat.zero_add, true_and, Bool.false_eq_true, Nat.le_refl]
  refine sw_call hqr0 rfl (aAs_ok ?_) ?_ (sw_run 200 _ _ _ ?_)
  · simp only [aAs, aA, aDs, aD, tysD, tmsD, AS.ev, AS.owf, look, Option.bind, Option.getD, id_eq, List.map, List.append_nil, ↓reduceIte, Nat.reduceEqDiff, eq_self, and_self, tmC_eq, tysD, tmsD]
  · simp only [okR]
  simp only [mkR, flatD, packA, retA, List.headD_cons, eq_self, xRun, vE, vP, vSub, vLoad, vNot, isCutO, isB, bv, gN, isPick, isCall, AS.pt, AS.ev, look, cav, td0, td1, td2, td3, td4, td5, td6, Option.getD, List.take, List.drop, List.length, ↓reduceIte, Nat.reduceLT, Nat.reduceAdd, Nat.reduceEqDiff, Nat.zero_add, true_and, Bool.not_true, Bool.false_eq_true, Nat.le_refl]
  refine sw_call hhg0 rfl (aAs_ok ?_) ?_ (sw_run 200 _ _ _ ?_)
  · simp only [aAs, aA, aDs, aD, AS.ev, AS.owf, look, Option.bind, Option.getD, id_eq, List.map, List.append_nil, ↓reduceIte, Nat.reduceEqDiff, eq_self, and_self]
  · simp only [okR]
  simp only [mkR, flatD, packA, retA, List.headD_cons, fQ, xRet, rPs, xRes, flatA, rD, eq_self, xRun, vE, vP, vBin, vBinT, isAg, isBo, isCutO, isB, bv, gN, isPick, isCall, AS.pt, AS.ev, look, cav, eatsOf, td0, td1, td2, td3, td4, td5, td6, Option.getD, List.map, List.nodup_nil, ↓reduceIte, Nat.reduceLT, Nat.reduceEqDiff, ne_eq, not_true_eq_false, or_false, Bool.false_eq_true, reduceCtorEq, decide_false, and_self, hkg0, Try.results4]
theorem top_FnExactCallOf (w : World) (v0 : Value) (h0 : Arg w .param v0) (cs1 : Array Value) (h1 : ArgS w K.tm.fields cs1) (v2 : Value) (h2 : Arg w .ints v2) : Calls Try.prog 4 #[v0, .agg cs1, v2] w fun e w' => e = .returned (.bool true) ∧ Below w.heap.size w w' := by
  obtain ⟨ds0, hc0, hr0, hs0⟩ := h0
  obtain ⟨p0, rfl⟩ := pms_of hc0
  obtain ⟨ds1, hc1, hr1, hs1⟩ := h1
  obtain ⟨p1, rfl⟩ := tm_of hc1
  obtain ⟨vs1, rfl⟩ : ∃ vs : List Value, cs1 = vs.toArray := ⟨cs1.toList, by simp⟩
  replace hr1 : RepVs w w.heap.size (tmC p1) vs1 := hr1
  obtain ⟨ds2, hc2, hr2, hs2⟩ := h2
  obtain ⟨p2, rfl⟩ := ints_of hc2
  exact lp_top (con_FnExactCallOf p0 p1 p2 ⟨hc0, hs0⟩ ⟨hc1, hs1⟩ ⟨hc2, hs2⟩) (rpd_cons (rpd_one hr0) (rpd_cons (rpd_ag hr1) (rpd_cons (rpd_one hr2) (rpd_nil _))))
end Go.Proofs.Ytkfknmnocddjbaa
