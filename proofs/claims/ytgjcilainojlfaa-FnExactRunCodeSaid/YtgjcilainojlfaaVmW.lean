/-
  The reference's machine: an instruction; RunCode of the reference.
-/
import Derived.Test.YtgjcilainojlfaaVmU
import Derived.Test.YtgjcilainojlfaaVmG
namespace Go.Proofs.Ytgjcilainojlfaa
open Go.RowKit
set_option linter.unusedVariables false
set_option linter.unusedSimpArgs false
/-- What an instruction tells. -/
def tlM (m : Mch) (x : Ins) : Vl := if x.op = 10 then rtV m else .num 0
set_option maxRecDepth 20000 in
theorem con_do1 (m : Mch) (a : Int) (hm : SzM m) : ConP Try.prog 42 [.p (mcS m 0), .b (.ag (insC ⟨1, a⟩))] [mcS (exM m (.num 0) ⟨1, a⟩).2.1 (exM m (.num 0) ⟨1, a⟩).1] [.ag (vlQ (tlM m ⟨1, a⟩))] := by
  have hst := hm.st
  have hnm := hm.nm
  have hfr := hm.fr
  have ht : tlM m ⟨1, a⟩ = .num 0 := by unfold tlM; simp only; rw [if_neg (by decide)]
  rw [ht]
  have he : exM m (.num 0) ⟨1, a⟩ = (0, pushM m (.num a), .num 0) := by unfold exM; simp only; rw [if_pos (by decide)]
  rw [he]
  have hU := con_pushS m 0 (.num a) (by omega)
  unfold mcS vlQ at hU
  unfold mcS vlQ
  simp only [nm_m, nm_f, nm_r, nm_c, List.length_nil, flC, insC] at hU ⊢
  refine con_runP Try.func42 rfl rfl (by simp [Try.ntmps42]) rfl ?_
  simp only [s0P, mkPs, mkPA, mkC, argA, numT, eq_self, xRun, vE, vP, vSub, vLoad, vFld, vBin, vBinT, isAg, isBo, vBuild, isCutO, xFill, isB, bv, gN, isPick, isCall, AS.pt, AS.ev, AS.box, look, cav, avB, setRowG, AV.cells, AV.whole, AV.one, td0, td1, td2, td3, td4, td5, td6, Option.getD, Option.isSome, List.map, List.length, List.getElem?_cons_zero, List.getElem?_cons_succ, List.set, List.all, List.nil_append, ↓reduceIte, Nat.reduceLT, Nat.reduceAdd, Nat.reduceLeDiff, Nat.reduceEqDiff, Nat.zero_add, Nat.add_zero, ne_eq, not_false_eq_true, true_and, Bool.and_true, Bool.false_eq_true, reduceCtorEq, decide_true, and_self, Nat.succ_ne_zero, Try.ntmps42]
  refine sw_callPR (hU) rfl rfl rfl ?_ ?_ ?_ (sw_run 200 _ _ _ ?_)
  · simp only [rC, rCs, AS.em, mPs, mP, aD, rD, eq_self, AS.ev, look, td0, td1, td2, td3, td4, td5, td6, Option.getD, List.map, List.append_nil, ↓reduceIte, Nat.reduceEqDiff, reduceCtorEq, and_self]
  · simp only [eC, eCs, ePs, eP, eq_self, AS.ev, look, td0, td1, td2, td3, td4, td5, td6, Option.getD, List.map, List.nodup_nil, List.append_nil, ↓reduceIte, Nat.reduceEqDiff, reduceCtorEq]
  · simp only [bPs, bP, eq_self, AS.ev, look, td0, td1, td2, td3, td4, td5, td6, Option.getD, List.map, List.not_mem_nil, List.nodup_cons, List.nodup_nil, List.append_nil, ↓reduceIte, Nat.reduceEqDiff, not_false_eq_true, and_self]
  simp only [mkC, fQP, xRetP, rRs, rOs, rC, rCs, eRs, eOs, eC, eCs, aftS, aftV, AS.kb, rmBs, rmB, mkO, packRA, flatR, ePs, eP, bPs, bP, aD, AS.kl, retA, xRes, rD, eq_self, xRun, vE, vP, vBuild, vStore, isCutO, xFill, gN, isPick, isCall, AS.pt, AS.ev, AS.setb, kill, look, avB, setRowG, AV.cells, AV.whole, AV.one, td0, td1, td2, td3, td4, td5, td6, Option.getD, Option.isSome, List.map, List.length, List.set, List.foldr, List.all, List.not_mem_nil, List.nodup_cons, List.nodup_nil, List.append_nil, ↓reduceIte, Nat.reduceLT, Nat.reduceAdd, Nat.reduceEqDiff, Nat.zero_add, not_false_eq_true, or_false, Bool.and_true, Bool.false_eq_true, reduceCtorEq, and_self, Nat.succ_ne_zero, Nat.le_refl, Try.results42]
set_option maxRecDepth 20000 in
theorem con_do2 (m : Mch) (a : Int) (hm : SzM m) : ConP Try.prog 42 [.p (mcS m 0), .b (.ag (insC ⟨2, a⟩))] [mcS (exM m (.num 0) ⟨2, a⟩).2.1 (exM m (.num 0) ⟨2, a⟩).1] [.ag (vlQ (tlM m ⟨2, a⟩))] := by
  have hst := hm.st
  have hnm := hm.nm
  have hfr := hm.fr
  have ht : tlM m ⟨2, a⟩ = .num 0 := by unfold tlM; simp only; rw [if_neg (by decide)]
  rw [ht]
  have he : exM m (.num 0) ⟨2, a⟩ = (0, pushM m (.num a), .num 0) := by unfold exM; simp only; rw [if_pos (by decide)]
  rw [he]
  have hU := con_pushS m 0 (.num a) (by omega)
  unfold mcS vlQ at hU
  unfold mcS vlQ
  simp only [nm_m, nm_f, nm_r, nm_c, List.length_nil, flC, insC] at hU ⊢
  refine con_runP Try.func42 rfl rfl (by simp [Try.ntmps42]) rfl ?_
  simp only [s0P, mkPs, mkPA, mkC, argA, numT, eq_self, xRun, vE, vP, vSub, vLoad, vFld, vBin, vBinT, isAg, isBo, vBuild, isCutO, xFill, isB, bv, gN, isPick, isCall, AS.pt, AS.ev, AS.box, look, cav, avB, setRowG, AV.cells, AV.whole, AV.one, td0, td1, td2, td3, td4, td5, td6, Option.getD, Option.isSome, List.map, List.length, List.getElem?_cons_zero, List.getElem?_cons_succ, List.set, List.all, List.nil_append, ↓reduceIte, Nat.reduceLT, Nat.reduceAdd, Nat.reduceLeDiff, Nat.reduceEqDiff, Nat.zero_add, Nat.add_zero, ne_eq, not_false_eq_true, true_and, Bool.and_true, Bool.false_eq_true, reduceCtorEq, Int.reduceEq, decide_true, decide_false, and_self, Nat.succ_ne_zero, Try.ntmps42]
  refine sw_callPR (hU) rfl rfl rfl ?_ ?_ ?_ (sw_run 200 _ _ _ ?_)
  · simp only [rC, rCs, AS.em, mPs, mP, aD, rD, eq_self, AS.ev, look, td0, td1, td2, td3, td4, td5, td6, Option.getD, List.map, List.append_nil, ↓reduceIte, Nat.reduceEqDiff, reduceCtorEq, and_self]
  · simp only [eC, eCs, ePs, eP, eq_self, AS.ev, look, td0, td1, td2, td3, td4, td5, td6, Option.getD, List.map, List.nodup_nil, List.append_nil, ↓reduceIte, Nat.reduceEqDiff, reduceCtorEq]
  · simp only [bPs, bP, eq_self, AS.ev, look, td0, td1, td2, td3, td4, td5, td6, Option.getD, List.map, List.not_mem_nil, List.nodup_cons, List.nodup_nil, List.append_nil, ↓reduceIte, Nat.reduceEqDiff, not_false_eq_true, and_self]
  simp only [mkC, fQP, xRetP, rRs, rOs, rC, rCs, eRs, eOs, eC, eCs, aftS, aftV, AS.kb, rmBs, rmB, mkO, packRA, flatR, ePs, eP, bPs, bP, aD, AS.kl, retA, xRes, rD, eq_self, xRun, vE, vP, vBuild, vStore, isCutO, xFill, gN, isPick, isCall, AS.pt, AS.ev, AS.setb, kill, look, avB, setRowG, AV.cells, AV.whole, AV.one, td0, td1, td2, td3, td4, td5, td6, Option.getD, Option.isSome, List.map, List.length, List.set, List.foldr, List.all, List.not_mem_nil, List.nodup_cons, List.nodup_nil, List.append_nil, ↓reduceIte, Nat.reduceLT, Nat.reduceAdd, Nat.reduceEqDiff, Nat.zero_add, not_false_eq_true, or_false, Bool.and_true, Bool.false_eq_true, reduceCtorEq, and_self, Nat.succ_ne_zero, Nat.le_refl, Try.results42]
set_option maxRecDepth 20000 in
theorem con_do3 (m : Mch) (a : Int) (hm : SzM m) (ha : 0 ≤ a ∧ a ≤ 299) : ConP Try.prog 42 [.p (mcS m 0), .b (.ag (insC ⟨3, a⟩))] [mcS (exM m (.num 0) ⟨3, a⟩).2.1 (exM m (.num 0) ⟨3, a⟩).1] [.ag (vlQ (tlM m ⟨3, a⟩))] := by
  have hst := hm.st
  have hnm := hm.nm
  have hfr := hm.fr
  have ht : tlM m ⟨3, a⟩ = .num 0 := by unfold tlM; simp only; rw [if_neg (by decide)]
  rw [ht]
  have he : (exM m (.num 0) ⟨3, a⟩).1 = (varM m a).1 ∧ (exM m (.num 0) ⟨3, a⟩).2.1 = (varM m a).2 := by
    unfold exM
    simp only
    rw [if_neg (by decide)]
    rw [if_pos (by decide)]
    (try unfold varM)
    (try unfold unlM)
    (try unfold bndM)
    (try unfold unbM)
    (repeat' split) <;> exact ⟨rfl, rfl⟩
  rw [he.1, he.2]
  have hU := con_varS m a hm ha
  generalize varM m a = q at hU ⊢
  unfold mcS at hU
  unfold mcS vlQ
  simp only [nm_m, nm_f, nm_r, nm_c, List.length_nil, flC, insC] at hU ⊢
  refine con_runP Try.func42 rfl rfl (by simp [Try.ntmps42]) rfl ?_
  simp only [s0P, mkPs, mkPA, mkC, argA, numT, eq_self, xRun, vE, vP, vSub, vLoad, vFld, vBin, vBinT, isAg, isBo, isCutO, isB, bv, gN, isPick, isCall, AS.pt, AS.ev, AS.box, look, cav, avB, AV.cells, AV.whole, AV.one, td0, td1, td2, td3, td4, td5, td6, Option.getD, Option.isSome, List.map, List.getElem?_cons_zero, List.getElem?_cons_succ, List.all, List.nil_append, ↓reduceIte, Nat.reduceLT, Nat.reduceAdd, Nat.reduceEqDiff, Nat.zero_add, Nat.add_zero, ne_eq, not_false_eq_true, true_and, Bool.and_true, Bool.false_eq_true, reduceCtorEq, Int.reduceEq, decide_true, decide_false, Nat.succ_ne_zero, Try.ntmps42]
  refine sw_callPR (hU) rfl rfl rfl ?_ ?_ ?_ (sw_run 200 _ _ _ ?_)
  · simp only [rC, rCs, AS.em, mPs, mP, aA, aD, rD, eq_self, AS.ev, look, td0, td1, td2, td3, td4, td5, td6, Option.getD, List.map, List.append_nil, ↓reduceIte, Nat.reduceEqDiff, reduceCtorEq, and_self]
  · simp only [eC, eCs, ePs, eP, eq_self, AS.ev, look, td0, td1, td2, td3, td4, td5, td6, Option.getD, List.map, List.nodup_nil, List.append_nil, ↓reduceIte, Nat.reduceEqDiff, reduceCtorEq]
  · simp only [bPs, bP, eq_self, AS.ev, look, td0, td1, td2, td3, td4, td5, td6, Option.getD, List.map, List.not_mem_nil, List.nodup_cons, List.nodup_nil, List.append_nil, ↓reduceIte, Nat.reduceEqDiff, not_false_eq_true, and_self]
  simp only [mkC, fQP, xRetP, rRs, rOs, rC, rCs, eRs, eOs, eC, eCs, aftS, aftV, AS.kb, rmBs, rmB, mkO, packRA, flatR, ePs, eP, bPs, bP, aD, AS.kl, retA, xRes, rD, eq_self, xRun, vE, vP, vBuild, vStore, isCutO, xFill, gN, isPick, isCall, AS.pt, AS.ev, AS.setb, kill, look, avB, setRowG, AV.cells, AV.whole, AV.one, td0, td1, td2, td3, td4, td5, td6, Option.getD, Option.isSome, List.map, List.length, List.set, List.foldr, List.all, List.not_mem_nil, List.nodup_cons, List.nodup_nil, List.append_nil, ↓reduceIte, Nat.reduceLT, Nat.reduceAdd, Nat.reduceEqDiff, Nat.zero_add, not_false_eq_true, or_false, Bool.and_true, Bool.false_eq_true, reduceCtorEq, and_self, Nat.succ_ne_zero, Nat.le_refl, Try.results42]
set_option maxRecDepth 20000 in
theorem con_do4 (m : Mch) (a : Int) (hm : SzM m) (ha : 1 ≤ a ∧ a ≤ 8) : ConP Try.prog 42 [.p (mcS m 0), .b (.ag (insC ⟨4, a⟩))] [mcS (exM m (.num 0) ⟨4, a⟩).2.1 (exM m (.num 0) ⟨4, a⟩).1] [.ag (vlQ (tlM m ⟨4, a⟩))] := by
  have hst := hm.st
  have hnm := hm.nm
  have hfr := hm.fr
  have ht : tlM m ⟨4, a⟩ = .num 0 := by unfold tlM; simp only; rw [if_neg (by decide)]
  rw [ht]
  have he : (exM m (.num 0) ⟨4, a⟩).1 = (opM m (opB a)).1 ∧ (exM m (.num 0) ⟨4, a⟩).2.1 = (opM m (opB a)).2 := by
    unfold exM
    simp only
    rw [if_neg (by decide)]
    rw [if_neg (by decide)]
    rw [if_pos (by decide)]
    (try unfold varM)
    (try unfold unlM)
    (try unfold bndM)
    (try unfold unbM)
    (repeat' split) <;> exact ⟨rfl, rfl⟩
  rw [he.1, he.2]
  have hU := con_opS m a (by omega) ha
  generalize opM m (opB a) = q at hU ⊢
  unfold mcS at hU
  unfold mcS vlQ
  simp only [nm_m, nm_f, nm_r, nm_c, List.length_nil, flC, insC] at hU ⊢
  refine con_runP Try.func42 rfl rfl (by simp [Try.ntmps42]) rfl ?_
  simp only [s0P, mkPs, mkPA, mkC, argA, numT, eq_self, xRun, vE, vP, vSub, vLoad, vFld, vBin, vBinT, isAg, isBo, isCutO, isB, bv, gN, isPick, isCall, AS.pt, AS.ev, AS.box, look, cav, avB, AV.cells, AV.whole, AV.one, td0, td1, td2, td3, td4, td5, td6, Option.getD, Option.isSome, List.map, List.getElem?_cons_zero, List.getElem?_cons_succ, List.all, List.nil_append, ↓reduceIte, Nat.reduceLT, Nat.reduceAdd, Nat.reduceEqDiff, Nat.zero_add, Nat.add_zero, ne_eq, not_false_eq_true, true_and, Bool.and_true, Bool.false_eq_true, reduceCtorEq, Int.reduceEq, decide_true, decide_false, Nat.succ_ne_zero, Try.ntmps42]
  refine sw_callPR (hU) rfl rfl rfl ?_ ?_ ?_ (sw_run 200 _ _ _ ?_)
  · simp only [rC, rCs, AS.em, mPs, mP, aA, aD, rD, eq_self, AS.ev, look, td0, td1, td2, td3, td4, td5, td6, Option.getD, List.map, List.append_nil, ↓reduceIte, Nat.reduceEqDiff, reduceCtorEq, and_self]
  · simp only [eC, eCs, ePs, eP, eq_self, AS.ev, look, td0, td1, td2, td3, td4, td5, td6, Option.getD, List.map, List.nodup_nil, List.append_nil, ↓reduceIte, Nat.reduceEqDiff, reduceCtorEq]
  · simp only [bPs, bP, eq_self, AS.ev, look, td0, td1, td2, td3, td4, td5, td6, Option.getD, List.map, List.not_mem_nil, List.nodup_cons, List.nodup_nil, List.append_nil, ↓reduceIte, Nat.reduceEqDiff, not_false_eq_true, and_self]
  simp only [mkC, fQP, xRetP, rRs, rOs, rC, rCs, eRs, eOs, eC, eCs, aftS, aftV, AS.kb, rmBs, rmB, mkO, packRA, flatR, ePs, eP, bPs, bP, aD, AS.kl, retA, xRes, rD, eq_self, xRun, vE, vP, vBuild, vStore, isCutO, xFill, gN, isPick, isCall, AS.pt, AS.ev, AS.setb, kill, look, avB, setRowG, AV.cells, AV.whole, AV.one, td0, td1, td2, td3, td4, td5, td6, Option.getD, Option.isSome, List.map, List.length, List.set, List.foldr, List.all, List.not_mem_nil, List.nodup_cons, List.nodup_nil, List.append_nil, ↓reduceIte, Nat.reduceLT, Nat.reduceAdd, Nat.reduceEqDiff, Nat.zero_add, not_false_eq_true, or_false, Bool.and_true, Bool.false_eq_true, reduceCtorEq, and_self, Nat.succ_ne_zero, Nat.le_refl, Try.results42]
set_option maxRecDepth 20000 in
theorem con_do5 (m : Mch) (a : Int) (hm : SzM m) : ConP Try.prog 42 [.p (mcS m 0), .b (.ag (insC ⟨5, a⟩))] [mcS (exM m (.num 0) ⟨5, a⟩).2.1 (exM m (.num 0) ⟨5, a⟩).1] [.ag (vlQ (tlM m ⟨5, a⟩))] := by
  have hst := hm.st
  have hnm := hm.nm
  have hfr := hm.fr
  have ht : tlM m ⟨5, a⟩ = .num 0 := by unfold tlM; simp only; rw [if_neg (by decide)]
  rw [ht]
  unfold exM
  simp only
  rw [if_neg (by decide)]
  rw [if_neg (by decide)]
  rw [if_neg (by decide)]
  rw [if_pos (by decide)]
  unfold mcS vlQ
  simp only [pcM, nm_m, nm_f, nm_r, nm_c, List.length_nil, flC, insC]
  refine con_runP Try.func42 rfl rfl (by simp [Try.ntmps42]) rfl ?_
  simp only [s0P, mkPs, mkPA, mkC, fQP, xRetP, rRs, rOs, rC, rCs, eRs, eOs, eC, eCs, aD, argA, numT, xRes, rD, eq_self, xRun, vE, vP, vSub, vLoad, vFld, vBin, vBinT, isAg, isBo, vBuild, vStore, isCutO, xFill, isB, bv, gN, isPick, isCall, AS.pt, AS.ev, AS.box, AS.setb, look, cav, avB, setRowG, AV.cells, AV.whole, AV.one, td0, td1, td2, td3, td4, td5, td6, Option.getD, Option.isSome, List.map, List.length, List.getElem?_cons_zero, List.getElem?_cons_succ, List.set, List.all, List.not_mem_nil, List.nodup_cons, List.nodup_nil, List.nil_append, List.append_nil, ↓reduceIte, Nat.reduceLT, Nat.reduceAdd, Nat.reduceLeDiff, Nat.reduceEqDiff, Nat.zero_add, Nat.add_zero, ne_eq, not_false_eq_true, or_false, Bool.and_true, Bool.false_eq_true, reduceCtorEq, Int.reduceEq, decide_true, decide_false, and_self, Nat.succ_ne_zero, Nat.le_refl, Try.ntmps42, Try.results42]
set_option maxRecDepth 20000 in
theorem con_do6 (m : Mch) (a : Int) (hm : SzM m) : ConP Try.prog 42 [.p (mcS m 0), .b (.ag (insC ⟨6, a⟩))] [mcS (exM m (.num 0) ⟨6, a⟩).2.1 (exM m (.num 0) ⟨6, a⟩).1] [.ag (vlQ (tlM m ⟨6, a⟩))] := by
  have hst := hm.st
  have hnm := hm.nm
  have hfr := hm.fr
  have ht : tlM m ⟨6, a⟩ = .num 0 := by unfold tlM; simp only; rw [if_neg (by decide)]
  rw [ht]
  have he : (exM m (.num 0) ⟨6, a⟩).1 = (unlM m a).1 ∧ (exM m (.num 0) ⟨6, a⟩).2.1 = (unlM m a).2 := by
    unfold exM
    simp only
    rw [if_neg (by decide)]
    rw [if_neg (by decide)]
    rw [if_neg (by decide)]
    rw [if_neg (by decide)]
    rw [if_pos (by decide)]
    (try unfold varM)
    (try unfold unlM)
    (try unfold bndM)
    (try unfold unbM)
    (repeat' split) <;> exact ⟨rfl, rfl⟩
  rw [he.1, he.2]
  have hU := con_unlS m a hst
  generalize unlM m a = q at hU ⊢
  unfold mcS at hU
  unfold mcS vlQ
  simp only [nm_m, nm_f, nm_r, nm_c, List.length_nil, flC, insC] at hU ⊢
  refine con_runP Try.func42 rfl rfl (by simp [Try.ntmps42]) rfl ?_
  simp only [s0P, mkPs, mkPA, mkC, argA, numT, eq_self, xRun, vE, vP, vSub, vLoad, vFld, vBin, vBinT, isAg, isBo, isCutO, isB, bv, gN, isPick, isCall, AS.pt, AS.ev, AS.box, look, cav, avB, AV.cells, AV.whole, AV.one, td0, td1, td2, td3, td4, td5, td6, Option.getD, Option.isSome, List.map, List.getElem?_cons_zero, List.getElem?_cons_succ, List.all, List.nil_append, ↓reduceIte, Nat.reduceLT, Nat.reduceAdd, Nat.reduceEqDiff, Nat.zero_add, Nat.add_zero, ne_eq, not_false_eq_true, true_and, Bool.and_true, Bool.false_eq_true, reduceCtorEq, Int.reduceEq, decide_true, decide_false, Nat.succ_ne_zero, Try.ntmps42]
  refine sw_callPR (hU) rfl rfl rfl ?_ ?_ ?_ (sw_run 200 _ _ _ ?_)
  · simp only [rC, rCs, AS.em, mPs, mP, aA, aD, rD, eq_self, AS.ev, look, td0, td1, td2, td3, td4, td5, td6, Option.getD, List.map, List.append_nil, ↓reduceIte, Nat.reduceEqDiff, reduceCtorEq, and_self]
  · simp only [eC, eCs, ePs, eP, eq_self, AS.ev, look, td0, td1, td2, td3, td4, td5, td6, Option.getD, List.map, List.nodup_nil, List.append_nil, ↓reduceIte, Nat.reduceEqDiff, reduceCtorEq]
  · simp only [bPs, bP, eq_self, AS.ev, look, td0, td1, td2, td3, td4, td5, td6, Option.getD, List.map, List.not_mem_nil, List.nodup_cons, List.nodup_nil, List.append_nil, ↓reduceIte, Nat.reduceEqDiff, not_false_eq_true, and_self]
  simp only [mkC, fQP, xRetP, rRs, rOs, rC, rCs, eRs, eOs, eC, eCs, aftS, aftV, AS.kb, rmBs, rmB, mkO, packRA, flatR, ePs, eP, bPs, bP, aD, AS.kl, retA, xRes, rD, eq_self, xRun, vE, vP, vBuild, vStore, isCutO, xFill, gN, isPick, isCall, AS.pt, AS.ev, AS.setb, kill, look, avB, setRowG, AV.cells, AV.whole, AV.one, td0, td1, td2, td3, td4, td5, td6, Option.getD, Option.isSome, List.map, List.length, List.set, List.foldr, List.all, List.not_mem_nil, List.nodup_cons, List.nodup_nil, List.append_nil, ↓reduceIte, Nat.reduceLT, Nat.reduceAdd, Nat.reduceEqDiff, Nat.zero_add, not_false_eq_true, or_false, Bool.and_true, Bool.false_eq_true, reduceCtorEq, and_self, Nat.succ_ne_zero, Nat.le_refl, Try.results42]
set_option maxRecDepth 20000 in
theorem con_do7 (m : Mch) (a : Int) (hm : SzM m) : ConP Try.prog 42 [.p (mcS m 0), .b (.ag (insC ⟨7, a⟩))] [mcS (exM m (.num 0) ⟨7, a⟩).2.1 (exM m (.num 0) ⟨7, a⟩).1] [.ag (vlQ (tlM m ⟨7, a⟩))] := by
  have hst := hm.st
  have hnm := hm.nm
  have hfr := hm.fr
  have ht : tlM m ⟨7, a⟩ = .num 0 := by unfold tlM; simp only; rw [if_neg (by decide)]
  rw [ht]
  unfold exM
  simp only
  rw [if_neg (by decide)]
  rw [if_neg (by decide)]
  rw [if_neg (by decide)]
  rw [if_neg (by decide)]
  rw [if_neg (by decide)]
  rw [if_pos (by decide)]
  have hb : decide ((7 : Int) = 8) = false := by decide
  (try rw [hb])
  (try rw [show decide True = true from rfl])
  have hU := con_pushS m 0 (.fn false a m.nm) (by omega)
  unfold mcS vlQ at hU
  unfold mcS vlQ
  simp only [fn_m, fn_f, fn_r, fn_c, nm_m, nm_f, nm_r, nm_c, List.length_nil, flC, insC] at hU ⊢
  refine con_runP Try.func42 rfl rfl (by simp [Try.ntmps42]) rfl ?_
  simp only [s0P, mkPs, mkPA, mkC, argA, numT, eq_self, xRun, vE, vP, vSub, vLoad, vFld, vBin, vBinT, isAg, isBo, isCutO, isB, bv, gN, isPick, isCall, AS.pt, AS.ev, AS.box, look, cav, avB, AV.cells, AV.whole, AV.one, td0, td1, td2, td3, td4, td5, td6, Option.getD, Option.isSome, List.map, List.getElem?_cons_zero, List.all, List.nil_append, ↓reduceIte, Nat.reduceLT, Nat.reduceAdd, Nat.reduceEqDiff, Nat.zero_add, Nat.add_zero, ne_eq, not_false_eq_true, true_and, Bool.and_true, Bool.false_eq_true, Int.reduceEq, decide_true, decide_false, Nat.succ_ne_zero, Try.ntmps42]
  refine sw_drawn (.cons 0 true (.cons 1 true (.cons 2 true (.cons 3 true (.cons 4 true (.cons 5 true (.cons 6 true (.cons 7 true (.cons 8 true (.cons 9 true (.cons 10 true (.cons 11 false (.nil))))))))))))) (by kernel_rfl) fQP_panic (by kernel_rfl) (sw_run 200 _ _ _ ?_)
  simp only [eq_self, xRun, vP, vSub, vLoad, vFld, vBin, vBinT, isAg, isBo, vBuild, xFill, gN, isPick, isCall, AS.pt, AS.ev, look, cav, setRowG, AV.cells, AV.whole, AV.one, td0, td1, td2, td3, td4, td5, td6, Option.getD, Option.isSome, List.map, List.length, List.getElem?_cons_zero, List.getElem?_cons_succ, List.set, ↓reduceIte, Nat.reduceLT, Nat.reduceAdd, Nat.reduceLeDiff, Nat.reduceEqDiff, Nat.zero_add, Nat.add_zero, ne_eq, not_false_eq_true, true_and, Bool.false_eq_true, reduceCtorEq, Int.reduceEq, decide_false, and_self, Nat.succ_ne_zero, Nat.le_refl]
  refine sw_callDPR (cap := []) (hU) rfl rfl rfl ?_ ?_ ?_ rfl (sw_run 200 _ _ _ ?_)
  · simp only [rC, rCs, AS.em, mPs, mP, aD, rD, eq_self, AS.ev, look, td0, td1, td2, td3, td4, td5, td6, Option.getD, List.map, List.append_nil, ↓reduceIte, Nat.reduceEqDiff, reduceCtorEq, and_self]
  · simp only [eC, eCs, ePs, eP, eq_self, AS.ev, look, td0, td1, td2, td3, td4, td5, td6, Option.getD, List.map, List.nodup_nil, List.append_nil, ↓reduceIte, Nat.reduceEqDiff, reduceCtorEq]
  · simp only [bPs, bP, eq_self, AS.ev, look, td0, td1, td2, td3, td4, td5, td6, Option.getD, List.map, List.not_mem_nil, List.nodup_cons, List.nodup_nil, List.append_nil, ↓reduceIte, Nat.reduceEqDiff, not_false_eq_true, and_self]
  simp only [mkC, fQP, xRetP, rRs, rOs, rC, rCs, eRs, eOs, eC, eCs, aftS, aftV, AS.kb, rmBs, rmB, mkO, packRA, flatR, ePs, eP, bPs, bP, aD, AS.kl, retA, xRes, rD, eq_self, xRun, vE, vP, vBuild, vStore, isCutO, xFill, gN, isPick, isCall, AS.pt, AS.ev, AS.setb, kill, look, avB, setRowG, AV.cells, AV.whole, AV.one, td0, td1, td2, td3, td4, td5, td6, Option.getD, Option.isSome, List.map, List.length, List.set, List.foldr, List.all, List.not_mem_nil, List.nodup_cons, List.nodup_nil, List.append_nil, ↓reduceIte, Nat.reduceLT, Nat.reduceAdd, Nat.reduceEqDiff, Nat.zero_add, not_false_eq_true, or_false, Bool.and_true, Bool.false_eq_true, reduceCtorEq, and_self, Nat.succ_ne_zero, Nat.le_refl, Try.results42]
set_option maxRecDepth 20000 in
theorem con_do8 (m : Mch) (a : Int) (hm : SzM m) : ConP Try.prog 42 [.p (mcS m 0), .b (.ag (insC ⟨8, a⟩))] [mcS (exM m (.num 0) ⟨8, a⟩).2.1 (exM m (.num 0) ⟨8, a⟩).1] [.ag (vlQ (tlM m ⟨8, a⟩))] := by
  have hst := hm.st
  have hnm := hm.nm
  have hfr := hm.fr
  have ht : tlM m ⟨8, a⟩ = .num 0 := by unfold tlM; simp only; rw [if_neg (by decide)]
  rw [ht]
  unfold exM
  simp only
  rw [if_neg (by decide)]
  rw [if_neg (by decide)]
  rw [if_neg (by decide)]
  rw [if_neg (by decide)]
  rw [if_neg (by decide)]
  rw [if_pos (by decide)]
  have hb : decide ((8 : Int) = 8) = true := by decide
  (try rw [hb])
  (try rw [show decide True = true from rfl])
  have hU := con_pushS m 0 (.fn true a m.nm) (by omega)
  unfold mcS vlQ at hU
  unfold mcS vlQ
  simp only [fn_m, fn_f, fn_r, fn_c, nm_m, nm_f, nm_r, nm_c, List.length_nil, flC, insC] at hU ⊢
  refine con_runP Try.func42 rfl rfl (by simp [Try.ntmps42]) rfl ?_
  simp only [s0P, mkPs, mkPA, mkC, argA, numT, eq_self, xRun, vE, vP, vSub, vLoad, vFld, vBin, vBinT, isAg, isBo, isCutO, isB, bv, gN, isPick, isCall, AS.pt, AS.ev, AS.box, look, cav, avB, AV.cells, AV.whole, AV.one, td0, td1, td2, td3, td4, td5, td6, Option.getD, Option.isSome, List.map, List.getElem?_cons_zero, List.all, List.nil_append, ↓reduceIte, Nat.reduceLT, Nat.reduceAdd, Nat.reduceEqDiff, Nat.zero_add, Nat.add_zero, ne_eq, not_false_eq_true, true_and, Bool.and_true, Bool.false_eq_true, Int.reduceEq, decide_true, decide_false, Nat.succ_ne_zero, Try.ntmps42]
  refine sw_drawn (.cons 0 true (.cons 1 true (.cons 2 true (.cons 3 true (.cons 4 true (.cons 5 true (.cons 6 true (.cons 7 true (.cons 8 true (.cons 9 true (.cons 10 true (.cons 11 false (.nil))))))))))))) (by kernel_rfl) fQP_panic (by kernel_rfl) (sw_run 200 _ _ _ ?_)
  simp only [eq_self, xRun, vP, vSub, vLoad, vFld, vBin, vBinT, isAg, isBo, vBuild, xFill, gN, isPick, isCall, AS.pt, AS.ev, look, cav, setRowG, AV.cells, AV.whole, AV.one, td0, td1, td2, td3, td4, td5, td6, Option.getD, Option.isSome, List.map, List.length, List.getElem?_cons_zero, List.getElem?_cons_succ, List.set, ↓reduceIte, Nat.reduceLT, Nat.reduceAdd, Nat.reduceLeDiff, Nat.reduceEqDiff, Nat.zero_add, Nat.add_zero, ne_eq, not_false_eq_true, true_and, Bool.false_eq_true, reduceCtorEq, decide_true, and_self, Nat.succ_ne_zero, Nat.le_refl]
  refine sw_callDPR (cap := []) (hU) rfl rfl rfl ?_ ?_ ?_ rfl (sw_run 200 _ _ _ ?_)
  · simp only [rC, rCs, AS.em, mPs, mP, aD, rD, eq_self, AS.ev, look, td0, td1, td2, td3, td4, td5, td6, Option.getD, List.map, List.append_nil, ↓reduceIte, Nat.reduceEqDiff, reduceCtorEq, and_self]
  · simp only [eC, eCs, ePs, eP, eq_self, AS.ev, look, td0, td1, td2, td3, td4, td5, td6, Option.getD, List.map, List.nodup_nil, List.append_nil, ↓reduceIte, Nat.reduceEqDiff, reduceCtorEq]
  · simp only [bPs, bP, eq_self, AS.ev, look, td0, td1, td2, td3, td4, td5, td6, Option.getD, List.map, List.not_mem_nil, List.nodup_cons, List.nodup_nil, List.append_nil, ↓reduceIte, Nat.reduceEqDiff, not_false_eq_true, and_self]
  simp only [mkC, fQP, xRetP, rRs, rOs, rC, rCs, eRs, eOs, eC, eCs, aftS, aftV, AS.kb, rmBs, rmB, mkO, packRA, flatR, ePs, eP, bPs, bP, aD, AS.kl, retA, xRes, rD, eq_self, xRun, vE, vP, vBuild, vStore, isCutO, xFill, gN, isPick, isCall, AS.pt, AS.ev, AS.setb, kill, look, avB, setRowG, AV.cells, AV.whole, AV.one, td0, td1, td2, td3, td4, td5, td6, Option.getD, Option.isSome, List.map, List.length, List.set, List.foldr, List.all, List.not_mem_nil, List.nodup_cons, List.nodup_nil, List.append_nil, ↓reduceIte, Nat.reduceLT, Nat.reduceAdd, Nat.reduceEqDiff, Nat.zero_add, not_false_eq_true, or_false, Bool.and_true, Bool.false_eq_true, reduceCtorEq, and_self, Nat.succ_ne_zero, Nat.le_refl, Try.results42]
set_option maxRecDepth 20000 in
theorem con_do9 (m : Mch) (a : Int) (hm : SzM m) : ConP Try.prog 42 [.p (mcS m 0), .b (.ag (insC ⟨9, a⟩))] [mcS (exM m (.num 0) ⟨9, a⟩).2.1 (exM m (.num 0) ⟨9, a⟩).1] [.ag (vlQ (tlM m ⟨9, a⟩))] := by
  have hst := hm.st
  have hnm := hm.nm
  have hfr := hm.fr
  have ht : tlM m ⟨9, a⟩ = .num 0 := by unfold tlM; simp only; rw [if_neg (by decide)]
  rw [ht]
  have he : (exM m (.num 0) ⟨9, a⟩).1 = (callM m).1 ∧ (exM m (.num 0) ⟨9, a⟩).2.1 = (callM m).2 := by
    unfold exM
    simp only
    rw [if_neg (by decide)]
    rw [if_neg (by decide)]
    rw [if_neg (by decide)]
    rw [if_neg (by decide)]
    rw [if_neg (by decide)]
    rw [if_neg (by decide)]
    rw [if_pos (by decide)]
    (try unfold varM)
    (try unfold unlM)
    (try unfold bndM)
    (try unfold unbM)
    (repeat' split) <;> exact ⟨rfl, rfl⟩
  rw [he.1, he.2]
  have hU := con_callS m hst (fun v hv => hm.ct v hv) hfr
  generalize callM m = q at hU ⊢
  unfold mcS at hU
  unfold mcS vlQ
  simp only [nm_m, nm_f, nm_r, nm_c, List.length_nil, flC, insC] at hU ⊢
  refine con_runP Try.func42 rfl rfl (by simp [Try.ntmps42]) rfl ?_
  simp only [s0P, mkPs, mkPA, mkC, argA, numT, eq_self, xRun, vE, vP, vSub, vLoad, vFld, vBin, vBinT, isAg, isBo, isCutO, isB, bv, gN, isPick, isCall, AS.pt, AS.ev, AS.box, look, cav, avB, AV.cells, AV.whole, AV.one, td0, td1, td2, td3, td4, td5, td6, Option.getD, Option.isSome, List.map, List.getElem?_cons_zero, List.all, List.nil_append, ↓reduceIte, Nat.reduceLT, Nat.reduceAdd, Nat.reduceEqDiff, Nat.zero_add, Nat.add_zero, ne_eq, not_false_eq_true, true_and, Bool.and_true, Bool.false_eq_true, reduceCtorEq, Int.reduceEq, decide_true, decide_false, Nat.succ_ne_zero, Try.ntmps42]
  refine sw_callPR (hU) rfl rfl rfl ?_ ?_ ?_ (sw_run 200 _ _ _ ?_)
  · simp only [rC, rCs, AS.em, mPs, mP, aD, rD, eq_self, AS.ev, look, td0, td1, td2, td3, td4, td5, td6, Option.getD, List.map, List.append_nil, ↓reduceIte, reduceCtorEq, and_self]
  · simp only [eC, eCs, ePs, eP, eq_self, AS.ev, look, td0, td1, td2, td3, td4, td5, td6, Option.getD, List.map, List.nodup_nil, List.append_nil, ↓reduceIte, reduceCtorEq]
  · simp only [bPs, bP, eq_self, AS.ev, look, td0, td1, td2, td3, td4, td5, td6, Option.getD, List.map, List.not_mem_nil, List.nodup_cons, List.nodup_nil, List.append_nil, ↓reduceIte, not_false_eq_true, and_self]
  simp only [mkC, fQP, xRetP, rRs, rOs, rC, rCs, eRs, eOs, eC, eCs, aftS, aftV, AS.kb, rmBs, rmB, mkO, packRA, flatR, ePs, eP, bPs, bP, aD, AS.kl, retA, xRes, rD, eq_self, xRun, vE, vP, vBuild, vStore, isCutO, xFill, gN, isPick, isCall, AS.pt, AS.ev, AS.setb, kill, look, avB, setRowG, AV.cells, AV.whole, AV.one, td0, td1, td2, td3, td4, td5, td6, Option.getD, Option.isSome, List.map, List.length, List.set, List.foldr, List.all, List.not_mem_nil, List.nodup_cons, List.nodup_nil, List.append_nil, ↓reduceIte, Nat.reduceLT, Nat.reduceAdd, Nat.reduceEqDiff, Nat.zero_add, not_false_eq_true, or_false, Bool.and_true, Bool.false_eq_true, reduceCtorEq, and_self, Nat.succ_ne_zero, Nat.le_refl, Try.results42]
set_option maxRecDepth 20000 in
theorem con_do10 (m : Mch) (a : Int) (hm : SzM m) : ConP Try.prog 42 [.p (mcS m 0), .b (.ag (insC ⟨10, a⟩))] [mcS (exM m (.num 0) ⟨10, a⟩).2.1 (exM m (.num 0) ⟨10, a⟩).1] [.ag (vlQ (tlM m ⟨10, a⟩))] := by
  have hst := hm.st
  have hnm := hm.nm
  have hfr := hm.fr
  unfold exM
  simp only
  rw [if_neg (by decide)]
  rw [if_neg (by decide)]
  rw [if_neg (by decide)]
  rw [if_neg (by decide)]
  rw [if_neg (by decide)]
  rw [if_neg (by decide)]
  rw [if_neg (by decide)]
  rw [if_pos (by decide)]
  have ht : tlM m ⟨10, a⟩ = rtV m := by unfold tlM; rw [if_pos rfl]
  rw [ht]
  have hU := con_retS m hst hfr (fun f hf => hm.fs f hf)
  generalize retM m (.num 0) = q at hU ⊢
  generalize rtV m = v at hU ⊢
  unfold mcS vlQ at hU ⊢
  simp only [insC] at hU ⊢
  refine con_runP Try.func42 rfl rfl (by simp [Try.ntmps42]) rfl ?_
  simp only [s0P, mkPs, mkPA, mkC, argA, numT, eq_self, xRun, vE, vP, vSub, vLoad, vFld, vBin, vBinT, isAg, isBo, isCutO, isB, bv, gN, isPick, isCall, AS.pt, AS.ev, AS.box, look, cav, avB, AV.cells, AV.whole, AV.one, td0, td1, td2, td3, td4, td5, td6, Option.getD, Option.isSome, List.map, List.getElem?_cons_zero, List.all, List.nil_append, ↓reduceIte, Nat.reduceLT, Nat.reduceAdd, Nat.reduceEqDiff, Nat.zero_add, Nat.add_zero, ne_eq, not_false_eq_true, true_and, Bool.and_true, Bool.false_eq_true, reduceCtorEq, Int.reduceEq, decide_true, decide_false, Nat.succ_ne_zero, Try.ntmps42]
  refine sw_callPR (hU) rfl rfl rfl ?_ ?_ ?_ (sw_run 200 _ _ _ ?_)
  · simp only [rC, rCs, AS.em, mPs, mP, aD, rD, eq_self, AS.ev, look, td0, td1, td2, td3, td4, td5, td6, Option.getD, List.map, List.append_nil, ↓reduceIte, reduceCtorEq, and_self]
  · simp only [eC, eCs, ePs, eP, eq_self, AS.ev, look, td0, td1, td2, td3, td4, td5, td6, Option.getD, List.map, List.nodup_nil, List.append_nil, ↓reduceIte, reduceCtorEq]
  · simp only [bPs, bP, eq_self, AS.ev, look, td0, td1, td2, td3, td4, td5, td6, Option.getD, List.map, List.not_mem_nil, List.nodup_cons, List.nodup_nil, List.append_nil, ↓reduceIte, not_false_eq_true, and_self]
  simp only [mkC, fQP, xRetP, rRs, rOs, rC, rCs, eRs, eOs, eC, eCs, aftS, aftV, AS.kb, rmBs, rmB, mkO, packRA, flatR, ePs, eP, bPs, bP, aD, AS.kl, retA, xRes, rD, eq_self, xRun, vE, vStore, isCutO, gN, isPick, isCall, AS.pt, AS.ev, AS.setb, kill, look, avB, setRowG, AV.cells, AV.whole, AV.one, td0, td1, td2, td3, td4, td5, td6, Option.getD, List.map, List.take, List.length, List.set, List.foldr, List.all, List.not_mem_nil, List.nodup_cons, List.nodup_nil, List.append_nil, ↓reduceIte, Nat.reduceLT, Nat.reduceAdd, Nat.reduceEqDiff, Nat.zero_add, not_false_eq_true, or_false, Bool.and_true, Bool.false_eq_true, reduceCtorEq, and_self, Nat.succ_ne_zero, Nat.le_refl, Try.results42]
set_option maxRecDepth 20000 in
theorem con_do11 (m : Mch) (a : Int) (hm : SzM m) : ConP Try.prog 42 [.p (mcS m 0), .b (.ag (insC ⟨11, a⟩))] [mcS (exM m (.num 0) ⟨11, a⟩).2.1 (exM m (.num 0) ⟨11, a⟩).1] [.ag (vlQ (tlM m ⟨11, a⟩))] := by
  have hst := hm.st
  have hnm := hm.nm
  have hfr := hm.fr
  have ht : tlM m ⟨11, a⟩ = .num 0 := by unfold tlM; simp only; rw [if_neg (by decide)]
  rw [ht]
  have he : (exM m (.num 0) ⟨11, a⟩).1 = (bndM m).1 ∧ (exM m (.num 0) ⟨11, a⟩).2.1 = (bndM m).2 := by
    unfold exM
    simp only
    rw [if_neg (by decide)]
    rw [if_neg (by decide)]
    rw [if_neg (by decide)]
    rw [if_neg (by decide)]
    rw [if_neg (by decide)]
    rw [if_neg (by decide)]
    rw [if_neg (by decide)]
    rw [if_neg (by decide)]
    rw [if_pos (by decide)]
    (try unfold varM)
    (try unfold unlM)
    (try unfold bndM)
    (try unfold unbM)
    (repeat' split) <;> exact ⟨rfl, rfl⟩
  rw [he.1, he.2]
  have hU := con_bndS m hst hnm
  generalize bndM m = q at hU ⊢
  unfold mcS at hU
  unfold mcS vlQ
  simp only [nm_m, nm_f, nm_r, nm_c, List.length_nil, flC, insC] at hU ⊢
  refine con_runP Try.func42 rfl rfl (by simp [Try.ntmps42]) rfl ?_
  simp only [s0P, mkPs, mkPA, mkC, argA, numT, eq_self, xRun, vE, vP, vSub, vLoad, vFld, vBin, vBinT, isAg, isBo, isCutO, isB, bv, gN, isPick, isCall, AS.pt, AS.ev, AS.box, look, cav, avB, AV.cells, AV.whole, AV.one, td0, td1, td2, td3, td4, td5, td6, Option.getD, Option.isSome, List.map, List.getElem?_cons_zero, List.all, List.nil_append, ↓reduceIte, Nat.reduceLT, Nat.reduceAdd, Nat.reduceEqDiff, Nat.zero_add, Nat.add_zero, ne_eq, not_false_eq_true, true_and, Bool.and_true, Bool.false_eq_true, reduceCtorEq, Int.reduceEq, decide_true, decide_false, Nat.succ_ne_zero, Try.ntmps42]
  refine sw_callPR (hU) rfl rfl rfl ?_ ?_ ?_ (sw_run 200 _ _ _ ?_)
  · simp only [rC, rCs, AS.em, mPs, mP, aD, rD, eq_self, AS.ev, look, td0, td1, td2, td3, td4, td5, td6, Option.getD, List.map, List.append_nil, ↓reduceIte, reduceCtorEq, and_self]
  · simp only [eC, eCs, ePs, eP, eq_self, AS.ev, look, td0, td1, td2, td3, td4, td5, td6, Option.getD, List.map, List.nodup_nil, List.append_nil, ↓reduceIte, reduceCtorEq]
  · simp only [bPs, bP, eq_self, AS.ev, look, td0, td1, td2, td3, td4, td5, td6, Option.getD, List.map, List.not_mem_nil, List.nodup_cons, List.nodup_nil, List.append_nil, ↓reduceIte, not_false_eq_true, and_self]
  simp only [mkC, fQP, xRetP, rRs, rOs, rC, rCs, eRs, eOs, eC, eCs, aftS, aftV, AS.kb, rmBs, rmB, mkO, packRA, flatR, ePs, eP, bPs, bP, aD, AS.kl, retA, xRes, rD, eq_self, xRun, vE, vP, vBuild, vStore, isCutO, xFill, gN, isPick, isCall, AS.pt, AS.ev, AS.setb, kill, look, avB, setRowG, AV.cells, AV.whole, AV.one, td0, td1, td2, td3, td4, td5, td6, Option.getD, Option.isSome, List.map, List.length, List.set, List.foldr, List.all, List.not_mem_nil, List.nodup_cons, List.nodup_nil, List.append_nil, ↓reduceIte, Nat.reduceLT, Nat.reduceAdd, Nat.reduceEqDiff, Nat.zero_add, not_false_eq_true, or_false, Bool.and_true, Bool.false_eq_true, reduceCtorEq, and_self, Nat.succ_ne_zero, Nat.le_refl, Try.results42]
set_option maxRecDepth 20000 in
theorem con_do12 (m : Mch) (a : Int) (hm : SzM m) : ConP Try.prog 42 [.p (mcS m 0), .b (.ag (insC ⟨12, a⟩))] [mcS (exM m (.num 0) ⟨12, a⟩).2.1 (exM m (.num 0) ⟨12, a⟩).1] [.ag (vlQ (tlM m ⟨12, a⟩))] := by
  have hst := hm.st
  have hnm := hm.nm
  have hfr := hm.fr
  have ht : tlM m ⟨12, a⟩ = .num 0 := by unfold tlM; simp only; rw [if_neg (by decide)]
  rw [ht]
  have he : (exM m (.num 0) ⟨12, a⟩).1 = (unbM m).1 ∧ (exM m (.num 0) ⟨12, a⟩).2.1 = (unbM m).2 := by
    unfold exM
    simp only
    rw [if_neg (by decide)]
    rw [if_neg (by decide)]
    rw [if_neg (by decide)]
    rw [if_neg (by decide)]
    rw [if_neg (by decide)]
    rw [if_neg (by decide)]
    rw [if_neg (by decide)]
    rw [if_neg (by decide)]
    rw [if_neg (by decide)]
    (try unfold varM)
    (try unfold unlM)
    (try unfold bndM)
    (try unfold unbM)
    (repeat' split) <;> exact ⟨rfl, rfl⟩
  rw [he.1, he.2]
  have hU := con_unbS m hnm
  generalize unbM m = q at hU ⊢
  unfold mcS at hU
  unfold mcS vlQ
  simp only [nm_m, nm_f, nm_r, nm_c, List.length_nil, flC, insC] at hU ⊢
  refine con_runP Try.func42 rfl rfl (by simp [Try.ntmps42]) rfl ?_
  simp only [s0P, mkPs, mkPA, mkC, argA, numT, eq_self, xRun, vE, vP, vSub, vLoad, vFld, vBin, vBinT, isAg, isBo, isCutO, isB, bv, gN, isPick, isCall, AS.pt, AS.ev, AS.box, look, cav, avB, AV.cells, AV.whole, AV.one, td0, td1, td2, td3, td4, td5, td6, Option.getD, Option.isSome, List.map, List.getElem?_cons_zero, List.all, List.nil_append, ↓reduceIte, Nat.reduceLT, Nat.reduceAdd, Nat.reduceEqDiff, Nat.zero_add, Nat.add_zero, ne_eq, not_false_eq_true, true_and, Bool.and_true, Bool.false_eq_true, reduceCtorEq, Int.reduceEq, decide_true, decide_false, Nat.succ_ne_zero, Try.ntmps42]
  refine sw_callPR (hU) rfl rfl rfl ?_ ?_ ?_ (sw_run 200 _ _ _ ?_)
  · simp only [rC, rCs, AS.em, mPs, mP, aD, rD, eq_self, AS.ev, look, td0, td1, td2, td3, td4, td5, td6, Option.getD, List.map, List.append_nil, ↓reduceIte, reduceCtorEq, and_self]
  · simp only [eC, eCs, ePs, eP, eq_self, AS.ev, look, td0, td1, td2, td3, td4, td5, td6, Option.getD, List.map, List.nodup_nil, List.append_nil, ↓reduceIte, reduceCtorEq]
  · simp only [bPs, bP, eq_self, AS.ev, look, td0, td1, td2, td3, td4, td5, td6, Option.getD, List.map, List.not_mem_nil, List.nodup_cons, List.nodup_nil, List.append_nil, ↓reduceIte, not_false_eq_true, and_self]
  simp only [mkC, fQP, xRetP, rRs, rOs, rC, rCs, eRs, eOs, eC, eCs, aftS, aftV, AS.kb, rmBs, rmB, mkO, packRA, flatR, ePs, eP, bPs, bP, aD, AS.kl, retA, xRes, rD, eq_self, xRun, vE, vP, vBuild, vStore, isCutO, xFill, gN, isPick, isCall, AS.pt, AS.ev, AS.setb, kill, look, avB, setRowG, AV.cells, AV.whole, AV.one, td0, td1, td2, td3, td4, td5, td6, Option.getD, Option.isSome, List.map, List.length, List.set, List.foldr, List.all, List.not_mem_nil, List.nodup_cons, List.nodup_nil, List.append_nil, ↓reduceIte, Nat.reduceLT, Nat.reduceAdd, Nat.reduceEqDiff, Nat.zero_add, not_false_eq_true, or_false, Bool.and_true, Bool.false_eq_true, reduceCtorEq, and_self, Nat.succ_ne_zero, Nat.le_refl, Try.results42]
theorem con_do (m : Mch) (x : Ins) (hm : SzM m) (hx : insB x = true) : ConP Try.prog 42 [.p (mcS m 0), .b (.ag (insC x))] [mcS (exM m (.num 0) x).2.1 (exM m (.num 0) x).1] [.ag (vlQ (tlM m x))] := by
  obtain ⟨ho, ha, h4, h38⟩ := ins_cases hx
  obtain ⟨op, a⟩ := x
  simp only at ho ha h4 h38
  rcases ho with rfl | rfl | rfl | rfl | rfl | rfl | rfl | rfl | rfl | rfl | rfl | rfl
  · exact con_do1 m a hm
  · exact con_do2 m a hm
  · exact con_do3 m a hm ⟨ha.1, h38 (by omega)⟩
  · exact con_do4 m a hm (h4 rfl)
  · exact con_do5 m a hm
  · exact con_do6 m a hm
  · exact con_do7 m a hm
  · exact con_do8 m a hm
  · exact con_do9 m a hm
  · exact con_do10 m a hm
  · exact con_do11 m a hm
  · exact con_do12 m a hm
end Go.Proofs.Ytgjcilainojlfaa
/-
  RunCode of the reference.
-/
namespace Go.Proofs.Ytgjcilainojlfaa
open Go.RowKit
set_option linter.unusedVariables false
set_option linter.unusedSimpArgs false
/-- What is told is what was done, or nothing. -/
theorem tl_ok (m : Mch) (x : Ins) (hx : insB x = true) : ((exM m (.num 0) x).1 = 1 → tlM m x = (exM m (.num 0) x).2.2) ∧ ((exM m (.num 0) x).1 ≠ 0 → (exM m (.num 0) x).1 ≠ 1 → (tlM m x).f = false) := by
  unfold tlM
  by_cases h : x.op = 10
  · rw [if_pos h]
    have e : exM m (.num 0) x = retM m (.num 0) := by
      unfold exM
      rw [if_neg (by omega), if_neg (by omega), if_neg (by omega), if_neg (by omega), if_neg (by omega), if_neg (by omega), if_neg (by omega), if_pos h]
    rw [e]
    unfold retM rtV
    split
    · exact ⟨fun h => (by simp at h), fun _ _ => rfl⟩
    · split
      · exact ⟨fun _ => rfl, fun _ h => absurd rfl h⟩
      · exact ⟨fun h => (by simp at h), fun h _ => absurd rfl h⟩
  · rw [if_neg h]
    refine ⟨fun h1 => ?_, fun _ _ => rfl⟩
    unfold exM at h1 ⊢
    split
    · rfl
    rename_i n1; rw [if_neg n1] at h1
    split
    · split <;> rfl
    rename_i n2; rw [if_neg n2] at h1
    split
    · rfl
    rename_i n3; rw [if_neg n3] at h1
    split
    · rfl
    rename_i n4; rw [if_neg n4] at h1
    split
    · split
      · rfl
      split
      · rfl
      split <;> rfl
    rename_i n5; rw [if_neg n5] at h1
    split
    · rfl
    rename_i n6; rw [if_neg n6] at h1
    split
    · rfl
    split
    · split <;> rfl
    · split <;> rfl
set_option maxRecDepth 20000 in
theorem con_RunS (code : List Ins) (fuel : Int) (hl : code.length ≤ 1000000000) : Con Try.prog 16 [.one (inssD code), .one (.int fuel)] [.ag (otC (runO code fuel))] := by
  have hA := con_l23Code code hl
  have hW := con_l1In fuel 0 3000
  unfold runO
  cases hc : codeB code with
  | false =>
    rw [hc] at hA
    rw [if_neg (by simp)]
    simp only [inssD, otC] at hA ⊢
    refine con_run Try.func16 rfl rfl (by simp [Try.ntmps16]) ?_
    simp only [argT, argA, eq_self, xRun, vE, vP, isCutO, gN, isPick, isCall, AS.pt, AS.ev, AS.box, look, avB, td0, td1, td2, td3, td4, td5, td6, Option.getD, Option.isSome, ↓reduceIte, Nat.reduceLT, Nat.zero_add, true_and, Bool.false_eq_true, reduceCtorEq, Try.ntmps16]
    refine sw_call (hA) rfl (aAs_ok ?_) ?_ (sw_run 200 _ _ _ ?_)
    · simp only [aAs, aA, aD, AS.ev, look, Option.getD, List.map, List.append_nil, ↓reduceIte, eq_self, and_self]
    · simp only [okR]
    simp only [mkR, flatD, packA, retA, List.headD_cons, fQ, xRet, rPs, xRes, flatA, rD, rDs, eq_self, xRun, vE, vP, vNot, vBuild, vStore, isCutO, xFill, isB, bv, gT, gW, gN, gV, isU, isPick, pkC, pkA, isCall, AS.pt, AS.kn, AS.ev, AS.setb, look, cav, setRowG, AV.cells, AV.whole, AV.one, eatsOf, td0, td1, td2, td3, td4, td5, td6, Option.bind, Option.getD, Option.isSome, List.map, List.length, List.getElem?_cons_zero, List.getElem?_cons_succ, List.set, List.all, List.nodup_nil, List.append_nil, ↓reduceIte, Nat.reduceLT, Nat.reduceAdd, Nat.reduceEqDiff, Nat.zero_add, or_false, Bool.and_true, Bool.not_false, Bool.false_eq_true, Bool.true_eq_false, reduceCtorEq, and_self, Nat.le_refl, Try.results16]
  | true =>
    rw [hc] at hA
    cases hw : (decide (0 ≤ fuel) && decide (fuel ≤ 3000)) with
    | false =>
      rw [hw] at hW
      rw [if_neg (by simp)]
      simp only [inssD, otC] at hA ⊢
      refine con_run Try.func16 rfl rfl (by simp [Try.ntmps16]) ?_
      simp only [argT, argA, eq_self, xRun, vE, vP, isCutO, gN, isPick, isCall, AS.pt, AS.ev, AS.box, look, avB, td0, td1, td2, td3, td4, td5, td6, Option.getD, Option.isSome, ↓reduceIte, Nat.reduceLT, Nat.zero_add, true_and, Bool.false_eq_true, reduceCtorEq, Try.ntmps16]
      refine sw_call (hA) rfl (aAs_ok ?_) ?_ (sw_run 200 _ _ _ ?_)
      · simp only [aAs, aA, aD, AS.ev, look, Option.getD, List.map, List.append_nil, ↓reduceIte, eq_self, and_self]
      · simp only [okR]
      simp only [mkR, flatD, packA, retA, List.headD_cons, eq_self, xRun, vE, vP, vNot, isCutO, isB, bv, gT, gW, gN, gV, isU, isPick, isCall, AS.pt, AS.kn, AS.ev, look, td0, td1, td2, td3, td4, td5, td6, Option.bind, Option.getD, Option.isSome, List.getElem?_cons_zero, List.getElem?_cons_succ, ↓reduceIte, Nat.reduceLT, Nat.reduceEqDiff, true_and, Bool.not_true, Bool.false_eq_true, and_self, Nat.succ_ne_zero]
      refine sw_call (hW) rfl (aAs_ok ?_) ?_ (sw_run 200 _ _ _ ?_)
      · simp only [aAs, aA, aD, AS.ev, look, cav, Option.getD, List.map, List.append_nil, ↓reduceIte, Nat.reduceEqDiff, eq_self, and_self]
      · simp only [okR]
      simp only [mkR, flatD, packA, retA, List.headD_cons, fQ, xRet, rPs, xRes, flatA, rD, rDs, eq_self, xRun, vE, vP, vNot, vBuild, vStore, isCutO, xFill, isB, bv, gT, gW, gN, gV, isU, isPick, pkC, pkB, isCall, AS.pt, AS.kn, AS.ev, AS.setb, look, setRowG, AV.cells, AV.whole, AV.one, eatsOf, td0, td1, td2, td3, td4, td5, td6, Option.bind, Option.getD, Option.isSome, List.map, List.length, List.getElem?_cons_zero, List.getElem?_cons_succ, List.set, List.all, List.nodup_nil, List.append_nil, ↓reduceIte, Nat.reduceLT, Nat.reduceAdd, Nat.reduceEqDiff, Nat.zero_add, or_false, Bool.and_true, Bool.not_false, Bool.false_eq_true, reduceCtorEq, and_self, Nat.le_refl, Try.results16]
    | true =>
      rw [hw] at hW
      rw [if_pos (by simp)]
      simp only [Bool.and_eq_true, decide_eq_true_eq] at hw
      obtain ⟨F, hF⟩ : ∃ F : Nat, fuel = (F : Int) := ⟨fuel.toNat, by omega⟩
      subst hF
      rw [Int.toNat_natCast]
      have hF3 : F ≤ 3000 := by omega
      obtain ⟨R, hR⟩ : ∃ R, R = runM code F 0 ⟨0, [], [], []⟩ := ⟨_, rfl⟩
      rw [← hR]
      simp only [inssD, otC] at hA ⊢
      refine con_run Try.func16 rfl rfl (by simp [Try.ntmps16]) ?_
      simp only [argT, argA, eq_self, xRun, vE, vP, isCutO, gN, isPick, isCall, AS.pt, AS.ev, AS.box, look, avB, td0, td1, td2, td3, td4, td5, td6, Option.getD, Option.isSome, ↓reduceIte, Nat.reduceLT, Nat.zero_add, true_and, Bool.false_eq_true, reduceCtorEq, Try.ntmps16]
      refine sw_call (hA) rfl (aAs_ok ?_) ?_ (sw_run 200 _ _ _ ?_)
      · simp only [aAs, aA, aD, AS.ev, look, Option.getD, List.map, List.append_nil, ↓reduceIte, eq_self, and_self]
      · simp only [okR]
      simp only [mkR, flatD, packA, retA, List.headD_cons, eq_self, xRun, vE, vP, vNot, isCutO, isB, bv, gT, gW, gN, gV, isU, isPick, isCall, AS.pt, AS.kn, AS.ev, look, td0, td1, td2, td3, td4, td5, td6, Option.bind, Option.getD, Option.isSome, List.getElem?_cons_zero, List.getElem?_cons_succ, ↓reduceIte, Nat.reduceLT, Nat.reduceEqDiff, true_and, Bool.not_true, Bool.false_eq_true, and_self, Nat.succ_ne_zero]
      refine sw_call (hW) rfl (aAs_ok ?_) ?_ (sw_run 200 _ _ _ ?_)
      · simp only [aAs, aA, aD, AS.ev, look, cav, Option.getD, List.map, List.append_nil, ↓reduceIte, Nat.reduceEqDiff, eq_self, and_self]
      · simp only [okR]
      simp only [mkR, flatD, packA, retA, List.headD_cons, eq_self, xRun, vE, vP, vNot, vBuild, isCutO, xFill, isB, bv, gT, gW, gN, gV, isU, isPick, pkC, pkB, isCall, AS.pt, AS.kn, AS.ev, AS.box, look, cav, AV.cells, AV.whole, AV.one, td0, td1, td2, td3, td4, td5, td6, Option.bind, Option.getD, Option.isSome, List.map, List.getElem?_cons_zero, List.getElem?_cons_succ, List.all, ↓reduceIte, Nat.reduceLT, Nat.reduceAdd, Nat.reduceEqDiff, true_and, Bool.and_true, Bool.not_true, Bool.false_eq_true, and_self]
      refine sw_brB 1 1 rfl rfl ?_
      refine sw_brB 1 2 rfl rfl ?_
      refine sw_brB 1 3 rfl rfl ?_
      refine sw_loop (fun i : Nat × Mch => i.1 ≤ F ∧ GM i.1 i.2 ∧ runM code (F - i.1) i.1 i.2 = R)
        (fun i => ⟨83, [(6, .i i.1), (5, .bx 1 0), (4, .bx 0 0), (0, .br (.rows 2 code.length (flC insC code))), (1, .i F)], [(0, [.i 0, .i 0, .b false, .i 0]), (1, [.i i.2.pc, .br (.rows 4 i.2.st.length (flC vlS i.2.st)), .br (.rows 4 i.2.nm.length (flC vlS i.2.nm)), .br (.rows 3 i.2.fr.length (flC frS i.2.fr)), .i 0])], [], 2, []⟩)
        (fun i => F - i.1) (0, ⟨0, [], [], []⟩) id ⟨Nat.zero_le _, GM0, by rw [Nat.sub_zero]; exact hR.symm⟩ ?_ ?_
      · simp only [Sub, subT, subB, subO, subP, inj, AV.ren, AV.rens, AV.lt, AV.lts, eq_self, AS.setb, look, td0, td1, td2, td3, td4, td5, td6, List.map, List.length, List.set, List.mem_cons, List.not_mem_nil, List.nodup_cons, List.nodup_nil, ↓reduceIte, Nat.reduceLT, Nat.reduceEqDiff, not_false_eq_true, or_false, id_eq, reduceCtorEq, Int.natCast_zero, and_self, Nat.succ_ne_zero, Int.natCast_zero, flC]
      · rintro ⟨k, m⟩ ⟨hk, hm, hrun⟩
        simp only at hk hm hrun
        refine sw_run 200 _ _ _ ?_
        by_cases hkf : k = F
        · have hkf' : ((k : Int) = (F : Int)) = True := eq_true (by omega)
          rw [hkf, Nat.sub_self] at hrun
          subst hrun
          simp only [fQ, qLp, xRet, rPs, xRes, flatA, rD, rDs, eq_self, xRun, vE, vP, vBin, vBinT, isAg, isBo, vBuild, vStore, isCutO, xFill, isB, bv, gN, isPick, isCall, AS.pt, AS.ev, AS.setb, look, cav, setRowG, AV.cells, AV.whole, AV.one, eatsOf, td0, td1, td2, td3, td4, td5, td6, Option.getD, Option.isSome, List.map, List.length, List.getElem?_cons_zero, List.getElem?_cons_succ, List.set, List.all, List.nodup_nil, List.append_nil, ↓reduceIte, Nat.reduceLT, Nat.reduceAdd, Nat.reduceLeDiff, Nat.reduceEqDiff, Nat.zero_add, or_false, Bool.and_true, Bool.false_eq_true, reduceCtorEq, decide_true, and_self, Nat.succ_ne_zero, Nat.le_refl, hkf, runM, Try.results16]
        · have hkf' : ((k : Int) = (F : Int)) = False := eq_false (by omega)
          obtain ⟨r, hr⟩ : ∃ r, F - k = r + 1 := ⟨F - k - 1, by omega⟩
          rw [hr] at hrun
          unfold runM at hrun
          by_cases hpc : (code.length : Int) ≤ m.pc
          · rw [if_pos hpc] at hrun
            subst hrun
            simp only [fQ, qLp, xRet, rPs, xRes, flatA, rD, rDs, eq_self, xRun, vE, vP, vSub, vLoad, vFld, vBin, vBinT, isAg, isBo, vLen, vBuild, vStore, isCutO, xFill, isB, bv, gN, isPick, isCall, AS.pt, AS.ev, AS.setb, AS.rd, look, cav, setRowG, AV.cells, AV.whole, AV.one, eatsOf, td0, td1, td2, td3, td4, td5, td6, Option.getD, Option.isSome, List.map, List.length, List.getElem?_cons_zero, List.getElem?_cons_succ, List.set, List.all, List.nodup_nil, List.append_nil, ↓reduceIte, Nat.reduceLT, Nat.reduceAdd, Nat.reduceLeDiff, Nat.reduceEqDiff, Nat.zero_add, Nat.add_zero, ne_eq, not_false_eq_true, or_false, Bool.and_true, Bool.false_eq_true, reduceCtorEq, decide_true, decide_false, and_self, Nat.succ_ne_zero, Nat.le_refl, hkf', hpc, Try.results16]
          · rw [if_neg hpc] at hrun
            have h0 := hm.pc
            have hlt : m.pc.toNat < code.length := by omega
            have hpp : m.pc < (code.length : Int) := by omega
            have i0 : inI (m.pc + 1) := by unfold inI; omega
            have hsz : SzM (pcM m (m.pc + 1)) := by
              have q := hm.sz (by omega)
              exact ⟨⟨by unfold pcM; simp only; omega, by unfold pcM; simp only; omega⟩, q.st, q.nm, q.fr, q.ct, q.fs⟩
            have hX := con_do (pcM m (m.pc + 1)) code[m.pc.toNat]! hsz (codeB_at hc hlt)
            have ht := tl_ok (pcM m (m.pc + 1)) code[m.pc.toNat]! (codeB_at hc hlt)
            have hg := ex_ok hm (codeB_at hc hlt) (.num 0)
            have hrow := flC_row insC_len code m.pc.toNat hlt
            generalize exM (pcM m (m.pc + 1)) (.num 0) code[m.pc.toNat]! = e at hX hg ht hrun
            generalize tlM (pcM m (m.pc + 1)) code[m.pc.toNat]! = v at hX ht
            generalize code[m.pc.toNat]! = x at hX hrow
            obtain ⟨es, em, ed⟩ := e
            simp only at hX hg ht hrun
            unfold mcS vlQ at hX
            simp only [insC, pcM] at hX hrow
            simp only [rowD, eq_self, xRun, vE, vP, vSub, vLoad, vFld, vIdx, vBin, vBinT, isAg, isBo, vLen, vStore, isCutO, isB, bv, gN, isPick, isCall, AS.pt, AS.ev, AS.box, AS.setb, AS.rd, look, cav, avB, setRowG, AV.cells, AV.whole, AV.one, td0, td1, td2, td3, td4, td5, td6, Option.getD, Option.isSome, List.map, List.take, List.drop, List.length, List.getElem?_cons_zero, List.set, List.all, ↓reduceIte, Nat.reduceLT, Nat.reduceAdd, Nat.reduceLeDiff, Nat.reduceEqDiff, Nat.zero_add, Nat.add_zero, ne_eq, not_false_eq_true, true_and, Bool.and_true, Bool.false_eq_true, reduceCtorEq, decide_false, and_self, Nat.succ_ne_zero, Nat.le_refl, hkf', hpc, h0.1, hpp, hrow, i0]
            refine sw_callPR hX rfl rfl rfl ?_ ?_ ?_ (sw_run 200 _ _ _ ?_)
            · simp only [rC, rCs, AS.em, mPs, mP, aA, aDs, aD, rD, eq_self, AS.ev, look, td0, td1, td2, td3, td4, td5, td6, Option.getD, List.map, List.append_nil, ↓reduceIte, Nat.reduceEqDiff, and_self]
            · simp only [eC, eCs, ePs, eP, eq_self, AS.ev, look, td0, td1, td2, td3, td4, td5, td6, Option.getD, List.map, List.nodup_nil, List.append_nil, ↓reduceIte, Nat.reduceEqDiff]
            · simp only [bPs, bP, eq_self, AS.ev, look, td0, td1, td2, td3, td4, td5, td6, Option.getD, List.map, List.not_mem_nil, List.nodup_cons, List.nodup_nil, List.append_nil, ↓reduceIte, Nat.reduceEqDiff, not_false_eq_true, and_self]
            have i1 : inI ((k : Int) + 1) := by unfold inI; omega
            by_cases e0 : es = 0
            · rw [if_pos e0] at hrun
              subst e0
              simp only [mkC, eC, eCs, aftS, aftV, AS.kb, rmBs, rmB, mkO, packRA, flatR, ePs, eP, bPs, bP, AS.kl, retA, qLp, eq_self, xRun, vE, vP, vSub, vLoad, vFld, vBin, vBinT, isAg, isBo, vStore, isCutO, isB, bv, gT, gW, gN, gV, isU, isPick, pkC, pkB, isCall, AS.pt, AS.kn, AS.ev, AS.box, AS.setb, kill, look, cav, avB, setRowG, AV.cells, AV.whole, AV.one, td0, td1, td2, td3, td4, td5, td6, Option.bind, Option.getD, Option.isSome, List.map, List.take, List.length, List.getElem?_cons_zero, List.getElem?_cons_succ, List.set, List.foldr, List.all, List.append_nil, ↓reduceIte, Nat.reduceLT, Nat.reduceAdd, Nat.reduceEqDiff, Nat.zero_add, ne_eq, not_false_eq_true, not_true_eq_false, true_and, Bool.and_true, Bool.not_true, Bool.false_eq_true, reduceCtorEq, Int.reduceEq, decide_false, and_self, Nat.succ_ne_zero, Nat.le_refl, qLp, i1]
              refine ⟨(k + 1, em), id, ⟨by omega, hg rfl, by rw [← hrun]; congr 1; omega⟩, by simp only; omega, ?_⟩
              simp only [Sub, subT, subB, subO, subP, inj, AV.ren, AV.rens, AV.lt, AV.lts, eq_self, look, td0, td1, td2, td3, td4, td5, td6, List.map, List.mem_cons, List.not_mem_nil, List.nodup_cons, List.nodup_nil, ↓reduceIte, Nat.reduceLT, Nat.reduceEqDiff, not_false_eq_true, or_false, id_eq, reduceCtorEq, and_self, Nat.succ_ne_zero, cast1]
            · rw [if_neg e0] at hrun
              have e0' : (es = 0) = False := eq_false e0
              by_cases e1 : es = 1
              · rw [if_pos e1] at hrun
                subst e1
                have hv := ht.1 rfl
                subst hv
                cases hf : v.f with
                | true =>
                  rw [if_pos hf] at hrun
                  subst hrun
                  simp only [mkC, eC, eCs, aftS, aftV, AS.kb, rmBs, rmB, mkO, packRA, flatR, ePs, eP, bPs, bP, AS.kl, retA, eq_self, xRun, vE, vP, vSub, vLoad, vFld, vBin, vBinT, isAg, isBo, vNot, vStore, isCutO, isB, bv, gT, gW, gN, gV, isU, isPick, pkC, pkA, isCall, AS.pt, AS.kn, AS.ev, AS.box, AS.setb, kill, look, cav, avB, setRowG, AV.cells, AV.whole, AV.one, td0, td1, td2, td3, td4, td5, td6, Option.bind, Option.getD, Option.isSome, List.map, List.take, List.length, List.getElem?_cons_zero, List.getElem?_cons_succ, List.set, List.foldr, List.all, List.append_nil, ↓reduceIte, Nat.reduceLT, Nat.reduceAdd, Nat.reduceEqDiff, Nat.zero_add, Nat.add_zero, ne_eq, not_false_eq_true, true_and, Bool.and_true, Bool.not_true, Bool.false_eq_true, reduceCtorEq, Int.reduceEq, decide_true, and_self, Nat.succ_ne_zero, Nat.le_refl]
                  refine sw_drawn (.cons 0 true (.cons 1 true (.cons 2 true (.cons 3 true (.cons 4 true (.cons 5 true (.cons 6 true (.cons 7 true (.cons 8 true (.cons 9 false (.nil))))))))))) (by kernel_rfl) (fun _ _ h => False.elim h) (by kernel_rfl) (sw_run 200 _ _ _ ?_)
                  simp only [fQ, qLp, xRet, rPs, xRes, flatA, rD, rDs, eq_self, xRun, vE, vP, vSub, vLoad, vFld, vBin, vBinT, isAg, isBo, vBuild, vStore, xFill, gN, isPick, isCall, AS.pt, AS.ev, AS.setb, look, cav, setRowG, AV.cells, AV.whole, AV.one, eatsOf, td0, td1, td2, td3, td4, td5, td6, Option.getD, Option.isSome, List.map, List.length, List.getElem?_cons_zero, List.getElem?_cons_succ, List.set, List.all, List.nodup_nil, List.append_nil, ↓reduceIte, Nat.reduceLT, Nat.reduceAdd, Nat.reduceLeDiff, Nat.reduceEqDiff, Nat.zero_add, Nat.add_zero, ne_eq, not_false_eq_true, or_false, Bool.and_true, Bool.false_eq_true, reduceCtorEq, and_self, Nat.succ_ne_zero, Nat.le_refl, i1, Try.results16]
                | false =>
                  rw [if_neg (by rw [hf]; simp)] at hrun
                  subst hrun
                  simp only [mkC, eC, eCs, aftS, aftV, AS.kb, rmBs, rmB, mkO, packRA, flatR, ePs, eP, bPs, bP, AS.kl, retA, fQ, qLp, xRet, rPs, xRes, flatA, rD, rDs, eq_self, xRun, vE, vP, vSub, vLoad, vFld, vBin, vBinT, isAg, isBo, vNot, vBuild, vStore, isCutO, xFill, isB, bv, gT, gW, gN, gV, isU, isPick, pkC, pkA, isCall, AS.pt, AS.kn, AS.ev, AS.box, AS.setb, kill, look, cav, avB, setRowG, AV.cells, AV.whole, AV.one, eatsOf, td0, td1, td2, td3, td4, td5, td6, Option.bind, Option.getD, Option.isSome, List.map, List.take, List.length, List.getElem?_cons_zero, List.getElem?_cons_succ, List.set, List.foldr, List.all, List.nodup_nil, List.append_nil, ↓reduceIte, Nat.reduceLT, Nat.reduceAdd, Nat.reduceLeDiff, Nat.reduceEqDiff, Nat.zero_add, Nat.add_zero, ne_eq, not_false_eq_true, or_false, Bool.and_true, Bool.not_false, Bool.false_eq_true, reduceCtorEq, decide_true, and_self, Nat.succ_ne_zero, Nat.le_refl, mn_eq hf, i1, Try.results16]
              · rw [if_neg e1] at hrun
                have e1' : (es = 1) = False := eq_false e1
                have hvf := ht.2 e0 e1
                subst hrun
                simp only [mkC, eC, eCs, aftS, aftV, AS.kb, rmBs, rmB, mkO, packRA, flatR, ePs, eP, bPs, bP, AS.kl, retA, eq_self, xRun, vE, vP, vSub, vLoad, vFld, vBin, vBinT, isAg, isBo, vStore, isCutO, isB, bv, gT, gW, gN, gV, isU, isPick, pkC, pkB, isCall, AS.pt, AS.kn, AS.ev, AS.box, AS.setb, kill, look, cav, avB, setRowG, AV.cells, AV.whole, AV.one, td0, td1, td2, td3, td4, td5, td6, Option.bind, Option.getD, Option.isSome, List.map, List.take, List.length, List.getElem?_cons_zero, List.getElem?_cons_succ, List.set, List.foldr, List.all, List.append_nil, ↓reduceIte, Nat.reduceLT, Nat.reduceAdd, Nat.reduceEqDiff, Nat.zero_add, ne_eq, not_false_eq_true, true_and, Bool.and_true, Bool.not_true, Bool.false_eq_true, reduceCtorEq, decide_true, decide_false, and_self, Nat.succ_ne_zero, Nat.le_refl, e0', e1']
                refine sw_drawn (.cons 0 true (.cons 1 true (.cons 2 true (.cons 3 true (.cons 4 true (.cons 5 true (.cons 6 true (.cons 7 true (.cons 8 true (.cons 9 false (.nil))))))))))) (by kernel_rfl) (fun _ _ h => False.elim h) (by kernel_rfl) (sw_run 200 _ _ _ ?_)
                simp only [fQ, qLp, xRet, rPs, xRes, flatA, rD, rDs, eq_self, xRun, vE, vP, vSub, vLoad, vFld, vBin, vBinT, isAg, isBo, vBuild, vStore, xFill, gN, isPick, isCall, AS.pt, AS.ev, AS.setb, look, cav, setRowG, AV.cells, AV.whole, AV.one, eatsOf, td0, td1, td2, td3, td4, td5, td6, Option.getD, Option.isSome, List.map, List.length, List.getElem?_cons_zero, List.getElem?_cons_succ, List.set, List.all, List.nodup_nil, List.append_nil, ↓reduceIte, Nat.reduceLT, Nat.reduceAdd, Nat.reduceLeDiff, Nat.reduceEqDiff, Nat.zero_add, Nat.add_zero, ne_eq, not_false_eq_true, or_false, Bool.and_true, Bool.false_eq_true, reduceCtorEq, and_self, Nat.succ_ne_zero, Nat.le_refl, hvf, i1, Try.results16]
end Go.Proofs.Ytgjcilainojlfaa
