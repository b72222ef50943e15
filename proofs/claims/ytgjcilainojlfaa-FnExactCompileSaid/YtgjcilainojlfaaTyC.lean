/-
  Copies of types, of the reference and of the program.
-/
import Derived.Test.YtgjcilainojlfaaTree
import Derived.Test.YtgjcilainojlfaaDat
import Derived.Test.YtgjcilainojlfaaTd
/-
  Trees in memory: a node's fields, its parts.
-/
namespace Go.Proofs.Ytgjcilainojlfaa
open Go.RowKit
end Go.Proofs.Ytgjcilainojlfaa
namespace Go.Proofs.Ytgjcilainojlfaa
open Go.RowKit
set_option linter.unusedVariables false
set_option linter.unusedSimpArgs false
set_option maxRecDepth 20000
theorem szL_tys' (xs : List Ty) (k : Nat) (h : k < xs.length) : szL (tyC xs[k]!) ≤ szL (tysC xs) := by
  rw [tysC_flat]
  have e := tysC_row' xs k h
  have : ∀ (ys : List Ty) (j : Nat), j < ys.length → szL (tyC ys[j]!) ≤ szL (flC tyC ys) := by
    intro ys
    induction ys with
    | nil => intro j hj; simp at hj
    | cons y ys ih =>
      intro j hj
      rw [flC, szL_append]
      cases j with
      | zero => simp
      | succ j => have := ih j (by simpa using hj); simp only [List.getElem!_cons_succ]; omega
  exact this xs k h
theorem szL_tms' (xs : List Tm) (k : Nat) (h : k < xs.length) : szL (tmC xs[k]!) ≤ szL (tmsC xs) := by
  rw [tmsC_flat]
  have : ∀ (ys : List Tm) (j : Nat), j < ys.length → szL (tmC ys[j]!) ≤ szL (flC tmC ys) := by
    intro ys
    induction ys with
    | nil => intro j hj; simp at hj
    | cons y ys ih =>
      intro j hj
      rw [flC, szL_append]
      cases j with
      | zero => simp
      | succ j => have := ih j (by simpa using hj); simp only [List.getElem!_cons_succ]; omega
  exact this xs k h
theorem con_within (n lo hi : Int) : Con Try.prog 45 [.one (.int n), .one (.int lo), .one (.int hi)] [.one (.bool (decide (lo ≤ n) && decide (n ≤ hi)))] := by
  refine con_run Try.func45 rfl rfl (by simp [Try.ntmps45]) ?_
  simp only [argT, argA, argAs, s0M, numT, flatM, packM, AS.kl, eatM, mkR, flatD, packA, retA, List.headD_cons, List.tail_cons, fQ, qLp, tysD, tmsD, strsD, intsD, rowD, xRet, rPs, xRes, flatA, rD, rDs, eq_self, true_or, xRun, vE, vP, vSub, vLoad, vFld, vIdx, vBin, vBinT, vEqA, shp, isAg, isBo, bvA, vEqB, vMax, cellsA, eqAV, eqAVs, shpOk, vNot, vLen, vChr, vExt, vBuild, vCut, vSlc, vCnv, vRow, vStore, vStE, primD, primDs, frzD, frzDs, stDs, AS.setO, AV.unsp, AV.unsps, unspT, unspB, vApp, apP, apC, isCl, isCutO, vMake, iOf, bad, xFill, appL, appR, ixL, ixH, isB, bv, gT, gW, gN, gV, isU, isPick, pkC, pkA, pkB, isCall, popTo, AS.pt, AS.kn, AS.ev, AS.box, AS.setb, AS.mk', AS.owf, AS.rd, kill, look, cav, cav0, avB, avO, avF, setRowG, AV.cells, AV.whole, AV.one, cD, cDs, eatsOf, dpOf, td0, td1, td2, td3, td4, td5, td6, Option.bind, Option.getD, Option.map, Option.isSome, List.map, List.take, List.drop, List.length, List.getElem?_cons_zero, List.getElem?_cons_succ, List.getElem?_nil, List.set, List.flatMap, List.foldr, List.all, List.replicate, List.mem_cons, List.not_mem_nil, List.nodup_cons, List.nodup_nil, List.nil_append, List.cons_append, List.append_nil, ↓reduceIte, Nat.reduceLT, Nat.reduceAdd, Nat.reduceMul, Nat.reduceLeDiff, Nat.reduceEqDiff, Nat.zero_add, Nat.add_zero, Nat.mul_zero, Nat.zero_mul, Nat.one_mul, Nat.mul_one, ne_eq, not_false_eq_true, not_true_eq_false, true_and, and_true, false_and, and_false, or_false, or_true, false_or, true_or, Bool.true_and, Bool.and_true, Bool.false_and, Bool.and_false, Bool.not_true, Bool.not_false, Bool.false_eq_true, Bool.true_eq_false, id_eq, reduceCtorEq, Int.toNat_natCast, Int.reduceLT, Int.reduceLE, Int.reduceEq, Int.reduceNe, Int.reduceAdd, Int.reduceSub, Int.reduceMul, Int.reduceNeg, Int.reduceToNat, Nat.reduceSub, Int.toNat_zero, Int.toNat_one, Int.natCast_zero, Int.le_refl, Int.natCast_nonneg, decide_true, decide_false, and_self, decide_eq_true_eq, decide_eq_false_iff_not, Nat.succ_ne_zero, Nat.zero_le, Nat.le_refl, Try.ntmps45, Try.results45]
  split
  · simp [*]
  · rename_i h; simp [h]
theorem con_l1In (n lo hi : Int) : Con Try.prog 41 [.one (.int n), .one (.int lo), .one (.int hi)] [.one (.bool (decide (lo ≤ n) && decide (n ≤ hi)))] := by
  refine con_run Try.func41 rfl rfl (by simp [Try.ntmps41]) ?_
  simp only [argT, argA, argAs, s0M, numT, flatM, packM, AS.kl, eatM, mkR, flatD, packA, retA, List.headD_cons, List.tail_cons, fQ, qLp, tysD, tmsD, strsD, intsD, rowD, xRet, rPs, xRes, flatA, rD, rDs, eq_self, true_or, xRun, vE, vP, vSub, vLoad, vFld, vIdx, vBin, vBinT, vEqA, shp, isAg, isBo, bvA, vEqB, vMax, cellsA, eqAV, eqAVs, shpOk, vNot, vLen, vChr, vExt, vBuild, vCut, vSlc, vCnv, vRow, vStore, vStE, primD, primDs, frzD, frzDs, stDs, AS.setO, AV.unsp, AV.unsps, unspT, unspB, vApp, apP, apC, isCl, isCutO, vMake, iOf, bad, xFill, appL, appR, ixL, ixH, isB, bv, gT, gW, gN, gV, isU, isPick, pkC, pkA, pkB, isCall, popTo, AS.pt, AS.kn, AS.ev, AS.box, AS.setb, AS.mk', AS.owf, AS.rd, kill, look, cav, cav0, avB, avO, avF, setRowG, AV.cells, AV.whole, AV.one, cD, cDs, eatsOf, dpOf, td0, td1, td2, td3, td4, td5, td6, Option.bind, Option.getD, Option.map, Option.isSome, List.map, List.take, List.drop, List.length, List.getElem?_cons_zero, List.getElem?_cons_succ, List.getElem?_nil, List.set, List.flatMap, List.foldr, List.all, List.replicate, List.mem_cons, List.not_mem_nil, List.nodup_cons, List.nodup_nil, List.nil_append, List.cons_append, List.append_nil, ↓reduceIte, Nat.reduceLT, Nat.reduceAdd, Nat.reduceMul, Nat.reduceLeDiff, Nat.reduceEqDiff, Nat.zero_add, Nat.add_zero, Nat.mul_zero, Nat.zero_mul, Nat.one_mul, Nat.mul_one, ne_eq, not_false_eq_true, not_true_eq_false, true_and, and_true, false_and, and_false, or_false, or_true, false_or, true_or, Bool.true_and, Bool.and_true, Bool.false_and, Bool.and_false, Bool.not_true, Bool.not_false, Bool.false_eq_true, Bool.true_eq_false, id_eq, reduceCtorEq, Int.toNat_natCast, Int.reduceLT, Int.reduceLE, Int.reduceEq, Int.reduceNe, Int.reduceAdd, Int.reduceSub, Int.reduceMul, Int.reduceNeg, Int.reduceToNat, Nat.reduceSub, Int.toNat_zero, Int.toNat_one, Int.natCast_zero, Int.le_refl, Int.natCast_nonneg, decide_true, decide_false, and_self, decide_eq_true_eq, decide_eq_false_iff_not, Nat.succ_ne_zero, Nat.zero_le, Nat.le_refl, Try.ntmps41, Try.results41]
  split
  · simp [*]
  · rename_i h; simp [h]
end Go.Proofs.Ytgjcilainojlfaa
