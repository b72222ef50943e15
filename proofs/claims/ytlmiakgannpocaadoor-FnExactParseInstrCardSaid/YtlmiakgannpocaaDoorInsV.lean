/-
  Instructions of both sides: validity, names of operations.
-/
import Derived.Test.YtlmiakgannpocaaDoorShp
import Derived.Test.YtlmiakgannpocaaDoorNum
import Derived.Test.YtlmiakgannpocaaDoorTmV
namespace Go.Proofs.YtlmiakgannpocaaDoor
open Go.RowKit
set_option linter.unusedVariables false
set_option linter.unusedSimpArgs false
set_option maxRecDepth 20000
def insB (x : Ins) : Bool :=
  if x.op = 1 then numB x.a else if x.op = 2 then decide (0 ≤ x.a) && decide (x.a ≤ 1) else if x.op = 4 then decide (1 ≤ x.a) && decide (x.a ≤ 8)
  else if x.op = 3 ∨ x.op = 5 ∨ x.op = 6 ∨ x.op = 7 ∨ x.op = 8 then decide (0 ≤ x.a) && decide (x.a ≤ 299) else (decide (9 ≤ x.op) && decide (x.op ≤ 12)) && decide (x.a = 0)
theorem ins_cases {x : Ins} (h : insB x = true) : (x.op = 1 ∨ x.op = 2 ∨ x.op = 3 ∨ x.op = 4 ∨ x.op = 5 ∨ x.op = 6 ∨ x.op = 7 ∨ x.op = 8 ∨ x.op = 9 ∨ x.op = 10 ∨ x.op = 11 ∨ x.op = 12) ∧ (0 ≤ x.a ∧ x.a ≤ 10006) ∧ (x.op = 4 → 1 ≤ x.a ∧ x.a ≤ 8) ∧ (3 ≤ x.op ∧ x.op ≤ 8 → x.a ≤ 299) := by
  unfold insB at h
  repeat' split at h
  · have := numB_t h; omega
  all_goals (simp only [Bool.and_eq_true, decide_eq_true_eq] at h; omega)
def opB (n : Int) : ByteArray := if n = 1 then ⟨#[43]⟩ else if n = 2 then ⟨#[45]⟩ else if n = 3 then ⟨#[42]⟩ else if n = 4 then ⟨#[61]⟩ else if n = 5 then ⟨#[60]⟩ else if n = 6 then ⟨#[38]⟩ else if n = 7 then ⟨#[124]⟩ else ⟨#[33]⟩
def opsL : List ByteArray := [⟨#[43]⟩, ⟨#[45]⟩, ⟨#[42]⟩, ⟨#[61]⟩, ⟨#[60]⟩, ⟨#[38]⟩, ⟨#[124]⟩, ⟨#[33]⟩]
theorem op_pop {a : Int} (h : 1 ≤ a ∧ a ≤ 8) : opAr (opB a) = if a = 8 then 1 else 2 := by
  rcases (show a = 1 ∨ a = 2 ∨ a = 3 ∨ a = 4 ∨ a = 5 ∨ a = 6 ∨ a = 7 ∨ a = 8 by omega) with rfl | rfl | rfl | rfl | rfl | rfl | rfl | rfl <;> decide
theorem con_opsI : Con Tryd.prog 33 [] [.one (strsD opsL)] := by
  refine con_run Tryd.func33 rfl rfl (by simp [Tryd.ntmps33]) ?_
  simp only [argT, fQ, strsD, xRet, rPs, xRes, flatA, rD, eq_self, xRun, vE, vP, vRow, isCutO, xFill, gN, isPick, isCall, AS.pt, AS.ev, AS.mk', AS.owf, kill, look, cav, setRowG, AV.cells, AV.whole, AV.one, cD, cDs, eatsOf, dpOf, td0, td1, td2, td3, td4, td5, td6, Option.bind, Option.getD, Option.isSome, List.map, List.length, List.set, List.foldr, List.all, List.replicate, List.not_mem_nil, List.nodup_cons, List.nodup_nil, ↓reduceIte, Nat.reduceLT, Nat.reduceAdd, Nat.reduceLeDiff, Nat.zero_add, Nat.mul_one, not_false_eq_true, or_false, or_true, Bool.and_true, Bool.false_eq_true, id_eq, reduceCtorEq, and_self, Nat.succ_ne_zero, Nat.le_refl, opsL, Tryd.ntmps33, Tryd.results33]
theorem con_OpNameI (n : Int) (h : 1 ≤ n ∧ n ≤ 8) : Con Tryd.prog 36 [.one (.int n)] [.one (.str (opB n))] := by
  have hO := con_opsI
  have hW := con_within n 1 8
  rcases (show n = 1 ∨ n = 2 ∨ n = 3 ∨ n = 4 ∨ n = 5 ∨ n = 6 ∨ n = 7 ∨ n = 8 by omega) with rfl | rfl | rfl | rfl | rfl | rfl | rfl | rfl
  all_goals
    refine con_run Tryd.func36 rfl rfl (by simp [Tryd.ntmps36]) ?_
    simp only [argT, argA, eq_self, xRun, vE, vP, isCutO, gN, isPick, isCall, AS.pt, AS.ev, look, cav, avB, td0, td1, td2, td3, td4, td5, td6, Option.getD, ↓reduceIte, Nat.reduceLT, true_and, Bool.false_eq_true, reduceCtorEq, Tryd.ntmps36]
    refine sw_call (hW) rfl (aAs_ok ?_) ?_ (sw_run 200 _ _ _ ?_)
    · simp only [aAs, aA, aD, AS.ev, look, cav, Option.getD, List.map, List.append_nil, ↓reduceIte, eq_self, and_self]
    · simp only [okR]
    simp only [mkR, flatD, packA, retA, List.headD_cons, eq_self, xRun, vE, vP, vNot, isCutO, isB, bv, gN, isPick, isCall, AS.pt, AS.ev, look, td0, td1, td2, td3, td4, td5, td6, Option.getD, ↓reduceIte, Nat.reduceLT, true_and, Bool.and_true, Bool.not_true, Bool.false_eq_true, Int.reduceLE, Int.le_refl, decide_true]
    refine sw_call (hO) rfl (aAs_ok ?_) ?_ (sw_run 200 _ _ _ ?_)
    · simp only [aAs, List.map, List.append_nil]
    · simp only [okR]
    simp only [mkR, flatD, packA, retA, List.headD_cons, fQ, strsD, rowD, xRet, rPs, xRes, flatA, rD, eq_self, xRun, vE, vP, vSub, vLoad, vIdx, vBin, vBinT, isAg, isBo, isCutO, gN, isPick, isCall, AS.pt, AS.ev, AS.mk', AS.owf, kill, look, cav, avO, eatsOf, td0, td1, td2, td3, td4, td5, td6, Option.bind, Option.getD, Option.isSome, List.map, List.take, List.drop, List.length, List.getElem?_cons_zero, List.foldr, List.nodup_nil, ↓reduceIte, Nat.reduceLT, Nat.reduceAdd, Nat.reduceEqDiff, Nat.zero_add, true_and, and_true, or_false, Bool.false_eq_true, id_eq, reduceCtorEq, Int.reduceLE, Int.reduceEq, Int.reduceSub, Int.reduceToNat, Int.toNat_zero, Int.toNat_one, Int.le_refl, and_self, opsL, rowAt, opB, Tryd.results36]
    exact ⟨by unfold inI; omega, by omega⟩
theorem con_opsS : Con Tryd.prog 27 [] [.one (strsD opsL)] := by
  refine con_run Tryd.func27 rfl rfl (by simp [Tryd.ntmps27]) ?_
  simp only [argT, fQ, strsD, xRet, rPs, xRes, flatA, rD, eq_self, xRun, vE, vP, vRow, isCutO, xFill, gN, isPick, isCall, AS.pt, AS.ev, AS.mk', AS.owf, kill, look, cav, setRowG, AV.cells, AV.whole, AV.one, cD, cDs, eatsOf, dpOf, td0, td1, td2, td3, td4, td5, td6, Option.bind, Option.getD, Option.isSome, List.map, List.length, List.set, List.foldr, List.all, List.replicate, List.not_mem_nil, List.nodup_cons, List.nodup_nil, ↓reduceIte, Nat.reduceLT, Nat.reduceAdd, Nat.reduceLeDiff, Nat.zero_add, Nat.mul_one, not_false_eq_true, or_false, or_true, Bool.and_true, Bool.false_eq_true, id_eq, reduceCtorEq, and_self, Nat.succ_ne_zero, Nat.le_refl, opsL, Tryd.ntmps27, Tryd.results27]
theorem con_OpNameS (n : Int) (h : 1 ≤ n ∧ n ≤ 8) : Con Tryd.prog 30 [.one (.int n)] [.one (.str (opB n))] := by
  have hO := con_opsS
  have hW := con_l1In n 1 8
  rcases (show n = 1 ∨ n = 2 ∨ n = 3 ∨ n = 4 ∨ n = 5 ∨ n = 6 ∨ n = 7 ∨ n = 8 by omega) with rfl | rfl | rfl | rfl | rfl | rfl | rfl | rfl
  all_goals
    refine con_run Tryd.func30 rfl rfl (by simp [Tryd.ntmps30]) ?_
    simp only [argT, argA, eq_self, xRun, vE, vP, isCutO, gN, isPick, isCall, AS.pt, AS.ev, look, cav, avB, td0, td1, td2, td3, td4, td5, td6, Option.getD, ↓reduceIte, Nat.reduceLT, true_and, Bool.false_eq_true, reduceCtorEq, Tryd.ntmps30]
    refine sw_call (hW) rfl (aAs_ok ?_) ?_ (sw_run 200 _ _ _ ?_)
    · simp only [aAs, aA, aD, AS.ev, look, cav, Option.getD, List.map, List.append_nil, ↓reduceIte, eq_self, and_self]
    · simp only [okR]
    simp only [mkR, flatD, packA, retA, List.headD_cons, eq_self, xRun, vE, vP, vNot, isCutO, isB, bv, gN, isPick, isCall, AS.pt, AS.ev, look, td0, td1, td2, td3, td4, td5, td6, Option.getD, ↓reduceIte, Nat.reduceLT, true_and, Bool.and_true, Bool.not_true, Bool.false_eq_true, Int.reduceLE, Int.le_refl, decide_true]
    refine sw_call (hO) rfl (aAs_ok ?_) ?_ (sw_run 200 _ _ _ ?_)
    · simp only [aAs, List.map, List.append_nil]
    · simp only [okR]
    simp only [mkR, flatD, packA, retA, List.headD_cons, fQ, strsD, rowD, xRet, rPs, xRes, flatA, rD, eq_self, xRun, vE, vP, vSub, vLoad, vIdx, vBin, vBinT, isAg, isBo, isCutO, gN, isPick, isCall, AS.pt, AS.ev, AS.mk', AS.owf, kill, look, cav, avO, eatsOf, td0, td1, td2, td3, td4, td5, td6, Option.bind, Option.getD, Option.isSome, List.map, List.take, List.drop, List.length, List.getElem?_cons_zero, List.foldr, List.nodup_nil, ↓reduceIte, Nat.reduceLT, Nat.reduceAdd, Nat.reduceEqDiff, Nat.zero_add, true_and, and_true, or_false, Bool.false_eq_true, id_eq, reduceCtorEq, Int.reduceLE, Int.reduceEq, Int.reduceSub, Int.reduceToNat, Int.toNat_zero, Int.toNat_one, Int.le_refl, and_self, opsL, rowAt, opB, Tryd.results30]
    exact ⟨by unfold inI; omega, by omega⟩
theorem con_IsInstrI (x : Ins) : Con Tryd.prog 35 [.ag (insC x)] [.one (.bool (insB x))] := by
  obtain ⟨op, a⟩ := x
  by_cases hop : 1 ≤ op ∧ op ≤ 8
  · rcases (show op = 1 ∨ op = 2 ∨ op = 3 ∨ op = 4 ∨ op = 5 ∨ op = 6 ∨ op = 7 ∨ op = 8 by omega) with rfl | rfl | rfl | rfl | rfl | rfl | rfl | rfl
    · refine con_run Tryd.func35 rfl rfl (by simp [Tryd.ntmps35]) ?_
      simp only [argT, argA, eq_self, xRun, vE, vP, vSub, vLoad, vFld, vBin, vBinT, isAg, isBo, isCutO, isB, bv, gN, isPick, isCall, AS.pt, AS.ev, AS.box, look, cav, avB, AV.cells, AV.whole, AV.one, td0, td1, td2, td3, td4, td5, td6, Option.getD, Option.isSome, List.map, List.getElem?_cons_zero, List.getElem?_cons_succ, List.all, ↓reduceIte, Nat.reduceLT, Nat.reduceEqDiff, Nat.zero_add, Nat.add_zero, ne_eq, not_false_eq_true, true_and, Bool.and_true, Bool.false_eq_true, decide_true, Nat.succ_ne_zero, insC, Tryd.ntmps35]
      refine sw_call (con_isNumber a) rfl (aAs_ok ?_) ?_ (sw_run 200 _ _ _ ?_)
      · simp only [aAs, aA, aD, AS.ev, look, Option.getD, List.map, List.append_nil, ↓reduceIte, eq_self, and_self]
      · simp only [okR]
      simp only [mkR, flatD, packA, retA, List.headD_cons, fQ, xRet, rPs, xRes, flatA, rD, eq_self, xRun, vE, vP, isCutO, gN, isPick, isCall, AS.pt, AS.ev, look, eatsOf, td0, td1, td2, td3, td4, td5, td6, Option.getD, List.map, List.nodup_nil, ↓reduceIte, Nat.reduceLT, or_false, Bool.false_eq_true, reduceCtorEq, and_self, insB, numB, Tryd.results35]
    · refine con_run Tryd.func35 rfl rfl (by simp [Tryd.ntmps35]) ?_
      simp only [argT, argA, eq_self, xRun, vE, vP, vSub, vLoad, vFld, vBin, vBinT, isAg, isBo, isCutO, isB, bv, gN, isPick, isCall, AS.pt, AS.ev, AS.box, look, cav, avB, AV.cells, AV.whole, AV.one, td0, td1, td2, td3, td4, td5, td6, Option.getD, Option.isSome, List.map, List.getElem?_cons_zero, List.getElem?_cons_succ, List.all, ↓reduceIte, Nat.reduceLT, Nat.reduceEqDiff, Nat.zero_add, Nat.add_zero, ne_eq, not_false_eq_true, true_and, Bool.and_true, Bool.false_eq_true, Int.reduceEq, decide_true, decide_false, Nat.succ_ne_zero, insC, Tryd.ntmps35]
      refine sw_call (con_within a 0 1) rfl (aAs_ok ?_) ?_ (sw_run 200 _ _ _ ?_)
      · simp only [aAs, aA, aD, AS.ev, look, cav, Option.getD, List.map, List.append_nil, ↓reduceIte, eq_self, and_self]
      · simp only [okR]
      simp only [mkR, flatD, packA, retA, List.headD_cons, fQ, xRet, rPs, xRes, flatA, rD, eq_self, xRun, vE, vP, isCutO, gN, isPick, isCall, AS.pt, AS.ev, look, eatsOf, td0, td1, td2, td3, td4, td5, td6, Option.getD, List.map, List.nodup_nil, ↓reduceIte, Nat.reduceLT, or_false, Bool.false_eq_true, reduceCtorEq, Int.reduceEq, and_self, insB, Tryd.results35]
    · refine con_run Tryd.func35 rfl rfl (by simp [Tryd.ntmps35]) ?_
      simp only [argT, argA, eq_self, xRun, vE, vP, vSub, vLoad, vFld, vBin, vBinT, isAg, isBo, isCutO, isB, bv, gN, isPick, isCall, AS.pt, AS.ev, AS.box, look, cav, avB, AV.cells, AV.whole, AV.one, td0, td1, td2, td3, td4, td5, td6, Option.getD, Option.isSome, List.map, List.getElem?_cons_zero, List.getElem?_cons_succ, List.all, ↓reduceIte, Nat.reduceLT, Nat.reduceEqDiff, Nat.zero_add, Nat.add_zero, ne_eq, not_false_eq_true, true_and, Bool.and_true, Bool.false_eq_true, Int.reduceEq, decide_true, decide_false, Nat.succ_ne_zero, insC, Tryd.ntmps35]
      refine sw_call (con_within a 0 299) rfl (aAs_ok ?_) ?_ (sw_run 200 _ _ _ ?_)
      · simp only [aAs, aA, aD, AS.ev, look, cav, Option.getD, List.map, List.append_nil, ↓reduceIte, eq_self, and_self]
      · simp only [okR]
      simp only [mkR, flatD, packA, retA, List.headD_cons, fQ, xRet, rPs, xRes, flatA, rD, eq_self, xRun, vE, vP, isCutO, gN, isPick, isCall, AS.pt, AS.ev, look, eatsOf, td0, td1, td2, td3, td4, td5, td6, Option.getD, List.map, List.nodup_nil, ↓reduceIte, Nat.reduceLT, or_false, Bool.false_eq_true, reduceCtorEq, Int.reduceEq, and_self, insB, Tryd.results35]
    · refine con_run Tryd.func35 rfl rfl (by simp [Tryd.ntmps35]) ?_
      simp only [argT, argA, eq_self, xRun, vE, vP, vSub, vLoad, vFld, vBin, vBinT, isAg, isBo, isCutO, isB, bv, gN, isPick, isCall, AS.pt, AS.ev, AS.box, look, cav, avB, AV.cells, AV.whole, AV.one, td0, td1, td2, td3, td4, td5, td6, Option.getD, Option.isSome, List.map, List.getElem?_cons_zero, List.getElem?_cons_succ, List.all, ↓reduceIte, Nat.reduceLT, Nat.reduceEqDiff, Nat.zero_add, Nat.add_zero, ne_eq, not_false_eq_true, true_and, Bool.and_true, Bool.false_eq_true, Int.reduceEq, decide_true, decide_false, Nat.succ_ne_zero, insC, Tryd.ntmps35]
      refine sw_call (con_within a 1 8) rfl (aAs_ok ?_) ?_ (sw_run 200 _ _ _ ?_)
      · simp only [aAs, aA, aD, AS.ev, look, cav, Option.getD, List.map, List.append_nil, ↓reduceIte, eq_self, and_self]
      · simp only [okR]
      simp only [mkR, flatD, packA, retA, List.headD_cons, fQ, xRet, rPs, xRes, flatA, rD, eq_self, xRun, vE, vP, isCutO, gN, isPick, isCall, AS.pt, AS.ev, look, eatsOf, td0, td1, td2, td3, td4, td5, td6, Option.getD, List.map, List.nodup_nil, ↓reduceIte, Nat.reduceLT, or_false, Bool.false_eq_true, reduceCtorEq, Int.reduceEq, and_self, insB, Tryd.results35]
    · refine con_run Tryd.func35 rfl rfl (by simp [Tryd.ntmps35]) ?_
      simp only [argT, argA, eq_self, xRun, vE, vP, vSub, vLoad, vFld, vBin, vBinT, isAg, isBo, isCutO, isB, bv, gN, isPick, isCall, AS.pt, AS.ev, AS.box, look, cav, avB, AV.cells, AV.whole, AV.one, td0, td1, td2, td3, td4, td5, td6, Option.getD, Option.isSome, List.map, List.getElem?_cons_zero, List.getElem?_cons_succ, List.all, ↓reduceIte, Nat.reduceLT, Nat.reduceEqDiff, Nat.zero_add, Nat.add_zero, ne_eq, not_false_eq_true, true_and, Bool.and_true, Bool.false_eq_true, Int.reduceEq, decide_true, decide_false, Nat.succ_ne_zero, insC, Tryd.ntmps35]
      refine sw_call (con_within a 0 299) rfl (aAs_ok ?_) ?_ (sw_run 200 _ _ _ ?_)
      · simp only [aAs, aA, aD, AS.ev, look, cav, Option.getD, List.map, List.append_nil, ↓reduceIte, eq_self, and_self]
      · simp only [okR]
      simp only [mkR, flatD, packA, retA, List.headD_cons, fQ, xRet, rPs, xRes, flatA, rD, eq_self, xRun, vE, vP, isCutO, gN, isPick, isCall, AS.pt, AS.ev, look, eatsOf, td0, td1, td2, td3, td4, td5, td6, Option.getD, List.map, List.nodup_nil, ↓reduceIte, Nat.reduceLT, or_false, or_true, Bool.false_eq_true, reduceCtorEq, Int.reduceEq, and_self, insB, Tryd.results35]
    · refine con_run Tryd.func35 rfl rfl (by simp [Tryd.ntmps35]) ?_
      simp only [argT, argA, eq_self, xRun, vE, vP, vSub, vLoad, vFld, vBin, vBinT, isAg, isBo, isCutO, isB, bv, gN, isPick, isCall, AS.pt, AS.ev, AS.box, look, cav, avB, AV.cells, AV.whole, AV.one, td0, td1, td2, td3, td4, td5, td6, Option.getD, Option.isSome, List.map, List.getElem?_cons_zero, List.getElem?_cons_succ, List.all, ↓reduceIte, Nat.reduceLT, Nat.reduceEqDiff, Nat.zero_add, Nat.add_zero, ne_eq, not_false_eq_true, true_and, Bool.and_true, Bool.false_eq_true, Int.reduceEq, decide_true, decide_false, Nat.succ_ne_zero, insC, Tryd.ntmps35]
      refine sw_call (con_within a 0 299) rfl (aAs_ok ?_) ?_ (sw_run 200 _ _ _ ?_)
      · simp only [aAs, aA, aD, AS.ev, look, cav, Option.getD, List.map, List.append_nil, ↓reduceIte, eq_self, and_self]
      · simp only [okR]
      simp only [mkR, flatD, packA, retA, List.headD_cons, fQ, xRet, rPs, xRes, flatA, rD, eq_self, xRun, vE, vP, isCutO, gN, isPick, isCall, AS.pt, AS.ev, look, eatsOf, td0, td1, td2, td3, td4, td5, td6, Option.getD, List.map, List.nodup_nil, ↓reduceIte, Nat.reduceLT, or_false, or_true, Bool.false_eq_true, reduceCtorEq, Int.reduceEq, and_self, insB, Tryd.results35]
    · refine con_run Tryd.func35 rfl rfl (by simp [Tryd.ntmps35]) ?_
      simp only [argT, argA, eq_self, xRun, vE, vP, vSub, vLoad, vFld, vBin, vBinT, isAg, isBo, isCutO, isB, bv, gN, isPick, isCall, AS.pt, AS.ev, AS.box, look, cav, avB, AV.cells, AV.whole, AV.one, td0, td1, td2, td3, td4, td5, td6, Option.getD, Option.isSome, List.map, List.getElem?_cons_zero, List.getElem?_cons_succ, List.all, ↓reduceIte, Nat.reduceLT, Nat.reduceEqDiff, Nat.zero_add, Nat.add_zero, ne_eq, not_false_eq_true, true_and, Bool.and_true, Bool.false_eq_true, Int.reduceEq, decide_true, decide_false, Nat.succ_ne_zero, insC, Tryd.ntmps35]
      refine sw_call (con_within a 0 299) rfl (aAs_ok ?_) ?_ (sw_run 200 _ _ _ ?_)
      · simp only [aAs, aA, aD, AS.ev, look, cav, Option.getD, List.map, List.append_nil, ↓reduceIte, eq_self, and_self]
      · simp only [okR]
      simp only [mkR, flatD, packA, retA, List.headD_cons, fQ, xRet, rPs, xRes, flatA, rD, eq_self, xRun, vE, vP, isCutO, gN, isPick, isCall, AS.pt, AS.ev, look, eatsOf, td0, td1, td2, td3, td4, td5, td6, Option.getD, List.map, List.nodup_nil, ↓reduceIte, Nat.reduceLT, or_false, or_true, Bool.false_eq_true, reduceCtorEq, Int.reduceEq, and_self, insB, Tryd.results35]
    · refine con_run Tryd.func35 rfl rfl (by simp [Tryd.ntmps35]) ?_
      simp only [argT, argA, eq_self, xRun, vE, vP, vSub, vLoad, vFld, vBin, vBinT, isAg, isBo, isCutO, isB, bv, gN, isPick, isCall, AS.pt, AS.ev, AS.box, look, cav, avB, AV.cells, AV.whole, AV.one, td0, td1, td2, td3, td4, td5, td6, Option.getD, Option.isSome, List.map, List.getElem?_cons_zero, List.getElem?_cons_succ, List.all, ↓reduceIte, Nat.reduceLT, Nat.reduceEqDiff, Nat.zero_add, Nat.add_zero, ne_eq, not_false_eq_true, true_and, Bool.and_true, Bool.false_eq_true, Int.reduceEq, decide_true, decide_false, Nat.succ_ne_zero, insC, Tryd.ntmps35]
      refine sw_call (con_within a 0 299) rfl (aAs_ok ?_) ?_ (sw_run 200 _ _ _ ?_)
      · simp only [aAs, aA, aD, AS.ev, look, cav, Option.getD, List.map, List.append_nil, ↓reduceIte, eq_self, and_self]
      · simp only [okR]
      simp only [mkR, flatD, packA, retA, List.headD_cons, fQ, xRet, rPs, xRes, flatA, rD, eq_self, xRun, vE, vP, isCutO, gN, isPick, isCall, AS.pt, AS.ev, look, eatsOf, td0, td1, td2, td3, td4, td5, td6, Option.getD, List.map, List.nodup_nil, ↓reduceIte, Nat.reduceLT, or_false, or_true, Bool.false_eq_true, reduceCtorEq, Int.reduceEq, and_self, insB, Tryd.results35]
  · have h1 : (op = 1) = False := eq_false (by omega)
    have h2 : (op = 2) = False := eq_false (by omega)
    have h3 : (op = 3) = False := eq_false (by omega)
    have h4 : (op = 4) = False := eq_false (by omega)
    have h5 : (op = 5) = False := eq_false (by omega)
    have h6 : (op = 6) = False := eq_false (by omega)
    have h7 : (op = 7) = False := eq_false (by omega)
    have h8 : (op = 8) = False := eq_false (by omega)
    rcases pc (a = 0) with ha | ha
    all_goals
      rcases pc (9 ≤ op) with h9 | h9
    all_goals
      rcases pc (op ≤ 12) with h12 | h12
    all_goals
      refine con_run Tryd.func35 rfl rfl (by simp [Tryd.ntmps35]) ?_
      simp only [argT, argA, eq_self, xRun, vE, vP, vSub, vLoad, vFld, vBin, vBinT, isAg, isBo, isCutO, isB, bv, gN, isPick, isCall, AS.pt, AS.ev, AS.box, look, cav, avB, AV.cells, AV.whole, AV.one, td0, td1, td2, td3, td4, td5, td6, Option.getD, Option.isSome, List.map, List.getElem?_cons_zero, List.all, ↓reduceIte, Nat.reduceLT, Nat.reduceEqDiff, Nat.zero_add, Nat.add_zero, ne_eq, not_false_eq_true, true_and, Bool.and_true, Bool.false_eq_true, decide_false, Nat.succ_ne_zero, h1, h2, h3, h4, h5, h6, h7, h8, insC, Tryd.ntmps35]
      refine sw_call (con_within op 9 12) rfl (aAs_ok ?_) ?_ (sw_run 200 _ _ _ ?_)
      · simp only [aAs, aA, aD, AS.ev, look, cav, Option.getD, List.map, List.append_nil, ↓reduceIte, eq_self, and_self]
      · simp only [okR]
      simp only [mkR, flatD, packA, retA, List.headD_cons, fQ, xRet, rPs, xRes, flatA, rD, eq_self, xRun, vE, vP, vSub, vLoad, vFld, vBin, vBinT, isAg, isBo, isCutO, isB, bv, gT, gW, gN, gV, isU, isPick, pkC, pkA, pkB, isCall, AS.pt, AS.kn, AS.ev, look, cav, eatsOf, td0, td1, td2, td3, td4, td5, td6, Option.bind, Option.getD, Option.isSome, List.map, List.getElem?_cons_zero, List.getElem?_cons_succ, List.nodup_nil, ↓reduceIte, Nat.reduceLT, Nat.reduceEqDiff, Nat.zero_add, ne_eq, not_false_eq_true, or_false, Bool.and_true, Bool.and_false, Bool.not_true, Bool.false_eq_true, reduceCtorEq, decide_true, decide_false, and_self, Nat.succ_ne_zero, h1, h2, h3, h4, h5, h6, h7, h8, h9, h12, ha, insB, Tryd.results35]
theorem con_IsInstrS (x : Ins) : Con Tryd.prog 18 [.ag (insC x)] [.one (.bool (insB x))] := by
  obtain ⟨op, a⟩ := x
  by_cases hop : 1 ≤ op ∧ op ≤ 8
  · rcases (show op = 1 ∨ op = 2 ∨ op = 3 ∨ op = 4 ∨ op = 5 ∨ op = 6 ∨ op = 7 ∨ op = 8 by omega) with rfl | rfl | rfl | rfl | rfl | rfl | rfl | rfl
    · refine con_run Tryd.func18 rfl rfl (by simp [Tryd.ntmps18]) ?_
      simp only [argT, argA, eq_self, xRun, vE, vP, vSub, vLoad, vFld, vBin, vBinT, isAg, isBo, isCutO, isB, bv, gN, isPick, isCall, AS.pt, AS.ev, AS.box, look, cav, avB, AV.cells, AV.whole, AV.one, td0, td1, td2, td3, td4, td5, td6, Option.getD, Option.isSome, List.map, List.getElem?_cons_zero, List.getElem?_cons_succ, List.all, ↓reduceIte, Nat.reduceLT, Nat.reduceEqDiff, Nat.zero_add, Nat.add_zero, ne_eq, not_false_eq_true, true_and, Bool.and_true, Bool.false_eq_true, decide_true, Nat.succ_ne_zero, insC, Tryd.ntmps18]
      refine sw_call (con_l1In a 0 10006) rfl (aAs_ok ?_) ?_ (sw_run 200 _ _ _ ?_)
      · simp only [aAs, aA, aD, AS.ev, look, cav, Option.getD, List.map, List.append_nil, ↓reduceIte, eq_self, and_self]
      · simp only [okR]
      simp only [mkR, flatD, packA, retA, List.headD_cons, fQ, xRet, rPs, xRes, flatA, rD, eq_self, xRun, vE, vP, isCutO, gN, isPick, isCall, AS.pt, AS.ev, look, eatsOf, td0, td1, td2, td3, td4, td5, td6, Option.getD, List.map, List.nodup_nil, ↓reduceIte, Nat.reduceLT, or_false, Bool.false_eq_true, reduceCtorEq, and_self, insB, numB, Tryd.results18]
    · refine con_run Tryd.func18 rfl rfl (by simp [Tryd.ntmps18]) ?_
      simp only [argT, argA, eq_self, xRun, vE, vP, vSub, vLoad, vFld, vBin, vBinT, isAg, isBo, isCutO, isB, bv, gN, isPick, isCall, AS.pt, AS.ev, AS.box, look, cav, avB, AV.cells, AV.whole, AV.one, td0, td1, td2, td3, td4, td5, td6, Option.getD, Option.isSome, List.map, List.getElem?_cons_zero, List.getElem?_cons_succ, List.all, ↓reduceIte, Nat.reduceLT, Nat.reduceEqDiff, Nat.zero_add, Nat.add_zero, ne_eq, not_false_eq_true, true_and, Bool.and_true, Bool.false_eq_true, Int.reduceEq, decide_true, decide_false, Nat.succ_ne_zero, insC, Tryd.ntmps18]
      refine sw_call (con_l1In a 0 1) rfl (aAs_ok ?_) ?_ (sw_run 200 _ _ _ ?_)
      · simp only [aAs, aA, aD, AS.ev, look, cav, Option.getD, List.map, List.append_nil, ↓reduceIte, eq_self, and_self]
      · simp only [okR]
      simp only [mkR, flatD, packA, retA, List.headD_cons, fQ, xRet, rPs, xRes, flatA, rD, eq_self, xRun, vE, vP, isCutO, gN, isPick, isCall, AS.pt, AS.ev, look, eatsOf, td0, td1, td2, td3, td4, td5, td6, Option.getD, List.map, List.nodup_nil, ↓reduceIte, Nat.reduceLT, or_false, Bool.false_eq_true, reduceCtorEq, Int.reduceEq, and_self, insB, Tryd.results18]
    · refine con_run Tryd.func18 rfl rfl (by simp [Tryd.ntmps18]) ?_
      simp only [argT, argA, eq_self, xRun, vE, vP, vSub, vLoad, vFld, vBin, vBinT, isAg, isBo, isCutO, isB, bv, gN, isPick, isCall, AS.pt, AS.ev, AS.box, look, cav, avB, AV.cells, AV.whole, AV.one, td0, td1, td2, td3, td4, td5, td6, Option.getD, Option.isSome, List.map, List.getElem?_cons_zero, List.getElem?_cons_succ, List.all, ↓reduceIte, Nat.reduceLT, Nat.reduceEqDiff, Nat.zero_add, Nat.add_zero, ne_eq, not_false_eq_true, true_and, Bool.and_true, Bool.false_eq_true, Int.reduceEq, decide_true, decide_false, Nat.succ_ne_zero, insC, Tryd.ntmps18]
      refine sw_call (con_l1In a 0 299) rfl (aAs_ok ?_) ?_ (sw_run 200 _ _ _ ?_)
      · simp only [aAs, aA, aD, AS.ev, look, cav, Option.getD, List.map, List.append_nil, ↓reduceIte, eq_self, and_self]
      · simp only [okR]
      simp only [mkR, flatD, packA, retA, List.headD_cons, fQ, xRet, rPs, xRes, flatA, rD, eq_self, xRun, vE, vP, isCutO, gN, isPick, isCall, AS.pt, AS.ev, look, eatsOf, td0, td1, td2, td3, td4, td5, td6, Option.getD, List.map, List.nodup_nil, ↓reduceIte, Nat.reduceLT, or_false, Bool.false_eq_true, reduceCtorEq, Int.reduceEq, and_self, insB, Tryd.results18]
    · refine con_run Tryd.func18 rfl rfl (by simp [Tryd.ntmps18]) ?_
      simp only [argT, argA, eq_self, xRun, vE, vP, vSub, vLoad, vFld, vBin, vBinT, isAg, isBo, isCutO, isB, bv, gN, isPick, isCall, AS.pt, AS.ev, AS.box, look, cav, avB, AV.cells, AV.whole, AV.one, td0, td1, td2, td3, td4, td5, td6, Option.getD, Option.isSome, List.map, List.getElem?_cons_zero, List.getElem?_cons_succ, List.all, ↓reduceIte, Nat.reduceLT, Nat.reduceEqDiff, Nat.zero_add, Nat.add_zero, ne_eq, not_false_eq_true, true_and, Bool.and_true, Bool.false_eq_true, Int.reduceEq, decide_true, decide_false, Nat.succ_ne_zero, insC, Tryd.ntmps18]
      refine sw_call (con_l1In a 1 8) rfl (aAs_ok ?_) ?_ (sw_run 200 _ _ _ ?_)
      · simp only [aAs, aA, aD, AS.ev, look, cav, Option.getD, List.map, List.append_nil, ↓reduceIte, eq_self, and_self]
      · simp only [okR]
      simp only [mkR, flatD, packA, retA, List.headD_cons, fQ, xRet, rPs, xRes, flatA, rD, eq_self, xRun, vE, vP, isCutO, gN, isPick, isCall, AS.pt, AS.ev, look, eatsOf, td0, td1, td2, td3, td4, td5, td6, Option.getD, List.map, List.nodup_nil, ↓reduceIte, Nat.reduceLT, or_false, Bool.false_eq_true, reduceCtorEq, Int.reduceEq, and_self, insB, Tryd.results18]
    · refine con_run Tryd.func18 rfl rfl (by simp [Tryd.ntmps18]) ?_
      simp only [argT, argA, eq_self, xRun, vE, vP, vSub, vLoad, vFld, vBin, vBinT, isAg, isBo, isCutO, isB, bv, gN, isPick, isCall, AS.pt, AS.ev, AS.box, look, cav, avB, AV.cells, AV.whole, AV.one, td0, td1, td2, td3, td4, td5, td6, Option.getD, Option.isSome, List.map, List.getElem?_cons_zero, List.getElem?_cons_succ, List.all, ↓reduceIte, Nat.reduceLT, Nat.reduceEqDiff, Nat.zero_add, Nat.add_zero, ne_eq, not_false_eq_true, true_and, Bool.and_true, Bool.false_eq_true, Int.reduceEq, decide_true, decide_false, Nat.succ_ne_zero, insC, Tryd.ntmps18]
      refine sw_call (con_l1In a 0 299) rfl (aAs_ok ?_) ?_ (sw_run 200 _ _ _ ?_)
      · simp only [aAs, aA, aD, AS.ev, look, cav, Option.getD, List.map, List.append_nil, ↓reduceIte, eq_self, and_self]
      · simp only [okR]
      simp only [mkR, flatD, packA, retA, List.headD_cons, fQ, xRet, rPs, xRes, flatA, rD, eq_self, xRun, vE, vP, isCutO, gN, isPick, isCall, AS.pt, AS.ev, look, eatsOf, td0, td1, td2, td3, td4, td5, td6, Option.getD, List.map, List.nodup_nil, ↓reduceIte, Nat.reduceLT, or_false, or_true, Bool.false_eq_true, reduceCtorEq, Int.reduceEq, and_self, insB, Tryd.results18]
    · refine con_run Tryd.func18 rfl rfl (by simp [Tryd.ntmps18]) ?_
      simp only [argT, argA, eq_self, xRun, vE, vP, vSub, vLoad, vFld, vBin, vBinT, isAg, isBo, isCutO, isB, bv, gN, isPick, isCall, AS.pt, AS.ev, AS.box, look, cav, avB, AV.cells, AV.whole, AV.one, td0, td1, td2, td3, td4, td5, td6, Option.getD, Option.isSome, List.map, List.getElem?_cons_zero, List.getElem?_cons_succ, List.all, ↓reduceIte, Nat.reduceLT, Nat.reduceEqDiff, Nat.zero_add, Nat.add_zero, ne_eq, not_false_eq_true, true_and, Bool.and_true, Bool.false_eq_true, Int.reduceEq, decide_true, decide_false, Nat.succ_ne_zero, insC, Tryd.ntmps18]
      refine sw_call (con_l1In a 0 299) rfl (aAs_ok ?_) ?_ (sw_run 200 _ _ _ ?_)
      · simp only [aAs, aA, aD, AS.ev, look, cav, Option.getD, List.map, List.append_nil, ↓reduceIte, eq_self, and_self]
      · simp only [okR]
      simp only [mkR, flatD, packA, retA, List.headD_cons, fQ, xRet, rPs, xRes, flatA, rD, eq_self, xRun, vE, vP, isCutO, gN, isPick, isCall, AS.pt, AS.ev, look, eatsOf, td0, td1, td2, td3, td4, td5, td6, Option.getD, List.map, List.nodup_nil, ↓reduceIte, Nat.reduceLT, or_false, or_true, Bool.false_eq_true, reduceCtorEq, Int.reduceEq, and_self, insB, Tryd.results18]
    · refine con_run Tryd.func18 rfl rfl (by simp [Tryd.ntmps18]) ?_
      simp only [argT, argA, eq_self, xRun, vE, vP, vSub, vLoad, vFld, vBin, vBinT, isAg, isBo, isCutO, isB, bv, gN, isPick, isCall, AS.pt, AS.ev, AS.box, look, cav, avB, AV.cells, AV.whole, AV.one, td0, td1, td2, td3, td4, td5, td6, Option.getD, Option.isSome, List.map, List.getElem?_cons_zero, List.getElem?_cons_succ, List.all, ↓reduceIte, Nat.reduceLT, Nat.reduceEqDiff, Nat.zero_add, Nat.add_zero, ne_eq, not_false_eq_true, true_and, Bool.and_true, Bool.false_eq_true, Int.reduceEq, decide_true, decide_false, Nat.succ_ne_zero, insC, Tryd.ntmps18]
      refine sw_call (con_l1In a 0 299) rfl (aAs_ok ?_) ?_ (sw_run 200 _ _ _ ?_)
      · simp only [aAs, aA, aD, AS.ev, look, cav, Option.getD, List.map, List.append_nil, ↓reduceIte, eq_self, and_self]
      · simp only [okR]
      simp only [mkR, flatD, packA, retA, List.headD_cons, fQ, xRet, rPs, xRes, flatA, rD, eq_self, xRun, vE, vP, isCutO, gN, isPick, isCall, AS.pt, AS.ev, look, eatsOf, td0, td1, td2, td3, td4, td5, td6, Option.getD, List.map, List.nodup_nil, ↓reduceIte, Nat.reduceLT, or_false, or_true, Bool.false_eq_true, reduceCtorEq, Int.reduceEq, and_self, insB, Tryd.results18]
    · refine con_run Tryd.func18 rfl rfl (by simp [Tryd.ntmps18]) ?_
      simp only [argT, argA, eq_self, xRun, vE, vP, vSub, vLoad, vFld, vBin, vBinT, isAg, isBo, isCutO, isB, bv, gN, isPick, isCall, AS.pt, AS.ev, AS.box, look, cav, avB, AV.cells, AV.whole, AV.one, td0, td1, td2, td3, td4, td5, td6, Option.getD, Option.isSome, List.map, List.getElem?_cons_zero, List.getElem?_cons_succ, List.all, ↓reduceIte, Nat.reduceLT, Nat.reduceEqDiff, Nat.zero_add, Nat.add_zero, ne_eq, not_false_eq_true, true_and, Bool.and_true, Bool.false_eq_true, Int.reduceEq, decide_true, decide_false, Nat.succ_ne_zero, insC, Tryd.ntmps18]
      refine sw_call (con_l1In a 0 299) rfl (aAs_ok ?_) ?_ (sw_run 200 _ _ _ ?_)
      · simp only [aAs, aA, aD, AS.ev, look, cav, Option.getD, List.map, List.append_nil, ↓reduceIte, eq_self, and_self]
      · simp only [okR]
      simp only [mkR, flatD, packA, retA, List.headD_cons, fQ, xRet, rPs, xRes, flatA, rD, eq_self, xRun, vE, vP, isCutO, gN, isPick, isCall, AS.pt, AS.ev, look, eatsOf, td0, td1, td2, td3, td4, td5, td6, Option.getD, List.map, List.nodup_nil, ↓reduceIte, Nat.reduceLT, or_false, or_true, Bool.false_eq_true, reduceCtorEq, Int.reduceEq, and_self, insB, Tryd.results18]
  · have h1 : (op = 1) = False := eq_false (by omega)
    have h2 : (op = 2) = False := eq_false (by omega)
    have h3 : (op = 3) = False := eq_false (by omega)
    have h4 : (op = 4) = False := eq_false (by omega)
    have h5 : (op = 5) = False := eq_false (by omega)
    have h6 : (op = 6) = False := eq_false (by omega)
    have h7 : (op = 7) = False := eq_false (by omega)
    have h8 : (op = 8) = False := eq_false (by omega)
    rcases pc (a = 0) with ha | ha
    all_goals
      rcases pc (9 ≤ op) with h9 | h9
    all_goals
      rcases pc (op ≤ 12) with h12 | h12
    all_goals
      refine con_run Tryd.func18 rfl rfl (by simp [Tryd.ntmps18]) ?_
      simp only [argT, argA, eq_self, xRun, vE, vP, vSub, vLoad, vFld, vBin, vBinT, isAg, isBo, isCutO, isB, bv, gN, isPick, isCall, AS.pt, AS.ev, AS.box, look, cav, avB, AV.cells, AV.whole, AV.one, td0, td1, td2, td3, td4, td5, td6, Option.getD, Option.isSome, List.map, List.getElem?_cons_zero, List.all, ↓reduceIte, Nat.reduceLT, Nat.reduceEqDiff, Nat.zero_add, Nat.add_zero, ne_eq, not_false_eq_true, true_and, Bool.and_true, Bool.false_eq_true, decide_false, Nat.succ_ne_zero, h1, h2, h3, h4, h5, h6, h7, h8, insC, Tryd.ntmps18]
      refine sw_call (con_l1In op 9 12) rfl (aAs_ok ?_) ?_ (sw_run 200 _ _ _ ?_)
      · simp only [aAs, aA, aD, AS.ev, look, cav, Option.getD, List.map, List.append_nil, ↓reduceIte, eq_self, and_self]
      · simp only [okR]
      simp only [mkR, flatD, packA, retA, List.headD_cons, fQ, xRet, rPs, xRes, flatA, rD, eq_self, xRun, vE, vP, vSub, vLoad, vFld, vBin, vBinT, isAg, isBo, isCutO, isB, bv, gT, gW, gN, gV, isU, isPick, pkC, pkA, pkB, isCall, AS.pt, AS.kn, AS.ev, look, cav, eatsOf, td0, td1, td2, td3, td4, td5, td6, Option.bind, Option.getD, Option.isSome, List.map, List.getElem?_cons_zero, List.getElem?_cons_succ, List.nodup_nil, ↓reduceIte, Nat.reduceLT, Nat.reduceEqDiff, Nat.zero_add, ne_eq, not_false_eq_true, or_false, Bool.and_true, Bool.and_false, Bool.not_true, Bool.false_eq_true, reduceCtorEq, decide_true, decide_false, and_self, Nat.succ_ne_zero, h1, h2, h3, h4, h5, h6, h7, h8, h9, h12, ha, insB, Tryd.results18]
end Go.Proofs.YtlmiakgannpocaaDoor
