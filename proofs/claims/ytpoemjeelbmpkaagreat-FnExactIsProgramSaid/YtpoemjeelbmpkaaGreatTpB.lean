/-
  Types of terms, the program's side: its helpers.
-/
import Derived.Test.YtpoemjeelbmpkaaGreatDat
import Derived.Test.YtpoemjeelbmpkaaGreatCox
import Derived.Lib.SlicesS
import Derived.LoopN
import Derived.Test.YtpoemjeelbmpkaaGreatTpA
import Derived.Test.YtpoemjeelbmpkaaGreatBy
import Derived.Test.YtpoemjeelbmpkaaGreatStaged
/-
  A frozen slice held against nil; slices.Clone and slices.Clip.
-/
namespace Go.Proofs.YtpoemjeelbmpkaaGreat
open Go.RowKit
set_option linter.unusedVariables false
set_option linter.unusedSimpArgs false
/-- 'xs == nil', where xs is only read. -/
theorem sw_nilE {P : Program} {all rest : List Oper} {st : List It} {dst : Option Tmp} {T T' : TypeId} {x : Operand} {ty : TypeId} {pos : String} {af : Array Edge} {gd : Option (Nat × Bool)} {s : AS} {Q : QE} {sz n : Nat} {cs : List D} {q : TypeId × Nat}
    (hx : s.ev x = .br (.rows sz n cs)) (ht : tElem P T = some q) (h1 : n = 0 → SW P (.ops all rest :: st) (s.pt dst (.b true)) Q) (h2 : SW P (.ops all rest :: st) (s.pt dst (.b false)) Q) :
    SW P (.ex all ⟨dst, .binOp .eql T x (.const (.slice none 0 0)) T', ty, pos, af, gd⟩ rest :: st) s Q := fun w0 G a w hr => by
  have hv := hr.ev x
  rw [hx] at hv
  unfold RV RepP at hv
  obtain ⟨a0, cap, e, _, _, _, h5⟩ := hv
  unfold tElem at ht
  split at ht
  · rename_i el hu
    show (Oper.mk dst (.binOp .eql T x (.const (.slice none 0 0)) T') ty pos af gd).wp P a w _ _
    unfold Oper.wp
    have hrun : (execOp a.eval ⟨dst, .binOp .eql T x (.const (.slice none 0 0)) T', ty, pos, af, gd⟩).run P w = .ok (.value (.bool a0.isNone)) w := by
      have e2 : a.eval (.const (.slice none 0 0)) = .slice none 0 0 := rfl
      have e3 : (eqGuard .eql T x (.const (.slice none 0 0)) (.slice a0 n cap) (.slice none 0 0)).run P w = .ok () w := rfl
      simp only [execOp, e, e2, Sem.run_bind, e3, Result.andThen_ok, Lib.run_eql_slice_nil w T el a0 n cap 0 0 hu, Sem.run_pure]
    rw [hrun]
    cases a0 with
    | none =>
      have hn : n = 0 := by
        rcases h5 with h5 | ⟨_, _, _, h6, _⟩
        · exact h5
        · cases h6
      exact h1 hn w0 G _ w (hr.pt dst (by unfold RV; rfl))
    | some b => exact h2 w0 G _ w (hr.pt dst (by unfold RV; rfl))
  · cases ht
/-! ## nil, known otherwise -/
/-! ## Loops of few rounds, one by one -/
end Go.Proofs.YtpoemjeelbmpkaaGreat

namespace Go.Proofs.YtpoemjeelbmpkaaGreat
open Go.RowKit
set_option linter.unusedVariables false
set_option linter.unusedSimpArgs false
set_option maxRecDepth 20000
mutual
theorem szT_eq : ∀ t : Ty, szL (tyC t) + 1 = szT t
  | .mk k xs => by
    have := szTs_eq xs
    rw [szT]
    simp only [tyC, szL, szD]
    omega
theorem szTs_eq : ∀ xs : List Ty, szL (tysC xs) + xs.length = szTs xs
  | [] => rfl
  | x :: xs => by
    have h1 := szT_eq x
    have h2 := szTs_eq xs
    rw [tysC, szL_append, szTs, List.length_cons]; omega
end
theorem v_sz {t : Ty} (h : vTy t = true) : szL (tyC t) ≤ 29 := by
  have := szT_eq t
  unfold vTy at h
  simp only [Bool.and_eq_true, decide_eq_true_eq] at h
  omega
theorem zv_sz {t : Ty} (h : Zv t) : szL (tyC t) ≤ 29 := by
  rcases h with rfl | h
  · exact Nat.zero_le _
  · exact v_sz h
theorem con_tyiI : Con Tryz.prog 76 [] [.ag (tyC tI)] := by
  refine con_run Tryz.func76 rfl rfl (by simp [Tryz.ntmps76]) ?_
  simp only [argT, argA, argAs, s0M, numT, flatM, packM, AS.kl, eatM, mkR, flatD, packA, retA, List.headD_cons, List.tail_cons, fQ, qLp, tysD, tmsD, strsD, intsD, rowD, xRet, rPs, xRes, flatA, rD, rDs, eq_self, true_or, xRun, vE, vP, vSub, vLoad, vFld, vIdx, vBin, vBinT, vEqA, shp, isAg, isBo, bvA, vEqB, vMax, cellsA, eqAV, eqAVs, shpOk, vNot, vLen, vChr, vExt, vBuild, vCut, vSlc, vCnv, vRow, vStore, vStE, primD, primDs, frzD, frzDs, stDs, AS.setO, AV.unsp, AV.unsps, unspT, unspB, vApp, apP, apC, isCl, isCutO, vMake, iOf, bad, xFill, appL, appR, ixL, ixH, isB, bv, gT, gW, gN, gV, isU, isPick, pkC, pkA, pkB, isCall, popTo, AS.pt, AS.kn, AS.ev, AS.box, AS.setb, AS.mk', AS.owf, AS.rd, kill, look, cav, cav0, avB, avO, avF, setRowG, AV.cells, AV.whole, AV.one, cD, cDs, eatsOf, dpOf, td0, td1, td2, td3, td4, td5, td6, Option.bind, Option.getD, Option.map, Option.isSome, List.map, List.take, List.drop, List.length, List.getElem?_cons_zero, List.getElem?_cons_succ, List.getElem?_nil, List.set, List.flatMap, List.foldr, List.all, List.replicate, List.mem_cons, List.not_mem_nil, List.nodup_cons, List.nodup_nil, List.nil_append, List.cons_append, List.append_nil, ↓reduceIte, Nat.reduceLT, Nat.reduceAdd, Nat.reduceMul, Nat.reduceLeDiff, Nat.reduceEqDiff, Nat.zero_add, Nat.add_zero, Nat.mul_zero, Nat.zero_mul, Nat.one_mul, Nat.mul_one, ne_eq, not_false_eq_true, not_true_eq_false, true_and, and_true, false_and, and_false, or_false, or_true, false_or, true_or, Bool.true_and, Bool.and_true, Bool.false_and, Bool.and_false, Bool.not_true, Bool.not_false, Bool.false_eq_true, Bool.true_eq_false, id_eq, reduceCtorEq, Int.toNat_natCast, Int.reduceLT, Int.reduceLE, Int.reduceEq, Int.reduceNe, Int.reduceAdd, Int.reduceSub, Int.reduceMul, Int.reduceNeg, Int.reduceToNat, Nat.reduceSub, Int.toNat_zero, Int.toNat_one, Int.natCast_zero, Int.le_refl, Int.natCast_nonneg, decide_true, decide_false, and_self, decide_eq_true_eq, decide_eq_false_iff_not, Nat.succ_ne_zero, Nat.zero_le, Nat.le_refl, tyC, tysC, tI, List.length_nil, Tryz.ntmps76, Tryz.results76]
theorem con_tybI : Con Tryz.prog 77 [] [.ag (tyC tB)] := by
  refine con_run Tryz.func77 rfl rfl (by simp [Tryz.ntmps77]) ?_
  simp only [argT, argA, argAs, s0M, numT, flatM, packM, AS.kl, eatM, mkR, flatD, packA, retA, List.headD_cons, List.tail_cons, fQ, qLp, tysD, tmsD, strsD, intsD, rowD, xRet, rPs, xRes, flatA, rD, rDs, eq_self, true_or, xRun, vE, vP, vSub, vLoad, vFld, vIdx, vBin, vBinT, vEqA, shp, isAg, isBo, bvA, vEqB, vMax, cellsA, eqAV, eqAVs, shpOk, vNot, vLen, vChr, vExt, vBuild, vCut, vSlc, vCnv, vRow, vStore, vStE, primD, primDs, frzD, frzDs, stDs, AS.setO, AV.unsp, AV.unsps, unspT, unspB, vApp, apP, apC, isCl, isCutO, vMake, iOf, bad, xFill, appL, appR, ixL, ixH, isB, bv, gT, gW, gN, gV, isU, isPick, pkC, pkA, pkB, isCall, popTo, AS.pt, AS.kn, AS.ev, AS.box, AS.setb, AS.mk', AS.owf, AS.rd, kill, look, cav, cav0, avB, avO, avF, setRowG, AV.cells, AV.whole, AV.one, cD, cDs, eatsOf, dpOf, td0, td1, td2, td3, td4, td5, td6, Option.bind, Option.getD, Option.map, Option.isSome, List.map, List.take, List.drop, List.length, List.getElem?_cons_zero, List.getElem?_cons_succ, List.getElem?_nil, List.set, List.flatMap, List.foldr, List.all, List.replicate, List.mem_cons, List.not_mem_nil, List.nodup_cons, List.nodup_nil, List.nil_append, List.cons_append, List.append_nil, ↓reduceIte, Nat.reduceLT, Nat.reduceAdd, Nat.reduceMul, Nat.reduceLeDiff, Nat.reduceEqDiff, Nat.zero_add, Nat.add_zero, Nat.mul_zero, Nat.zero_mul, Nat.one_mul, Nat.mul_one, ne_eq, not_false_eq_true, not_true_eq_false, true_and, and_true, false_and, and_false, or_false, or_true, false_or, true_or, Bool.true_and, Bool.and_true, Bool.false_and, Bool.and_false, Bool.not_true, Bool.not_false, Bool.false_eq_true, Bool.true_eq_false, id_eq, reduceCtorEq, Int.toNat_natCast, Int.reduceLT, Int.reduceLE, Int.reduceEq, Int.reduceNe, Int.reduceAdd, Int.reduceSub, Int.reduceMul, Int.reduceNeg, Int.reduceToNat, Nat.reduceSub, Int.toNat_zero, Int.toNat_one, Int.natCast_zero, Int.le_refl, Int.natCast_nonneg, decide_true, decide_false, and_self, decide_eq_true_eq, decide_eq_false_iff_not, Nat.succ_ne_zero, Nat.zero_le, Nat.le_refl, tyC, tysC, tB, List.length_nil, Tryz.ntmps77, Tryz.results77]
theorem con_codeOf (t : Ty) (hz : szL (tyC t) ≤ 1000000000) (h4 : t.kind = 4 → 0 < t.args.length) : Con Tryz.prog 100 [.ag (tyC t)] [.ag (tyC (codeF t))] := by
  unfold codeF
  by_cases hk : t.kind = 4
  · have hl := h4 hk
    have hi : (0 : Int) < (t.args.length : Int) := by omega
    have hR := tysC_row' t.args 0 hl
    have hs := szL_tys' t.args 0 hl
    have hO := con_own t.args[0]! (by rw [tyC_eq] at hz; simp only [szL, szD, tysD] at hz; omega)
    rw [if_pos hk]
    refine con_run Tryz.func100 rfl rfl (by simp [Tryz.ntmps100]) ?_
    simp only [argT, argA, argAs, s0M, numT, flatM, packM, AS.kl, eatM, mkR, flatD, packA, retA, List.headD_cons, List.tail_cons, fQ, qLp, tysD, tmsD, strsD, intsD, rowD, xRet, rPs, xRes, flatA, rD, rDs, eq_self, true_or, xRun, vE, vP, vSub, vLoad, vFld, vIdx, vBin, vBinT, vEqA, shp, isAg, isBo, bvA, vEqB, vMax, cellsA, eqAV, eqAVs, shpOk, vNot, vLen, vChr, vExt, vBuild, vCut, vSlc, vCnv, vRow, vStore, vStE, primD, primDs, frzD, frzDs, stDs, AS.setO, AV.unsp, AV.unsps, unspT, unspB, vApp, apP, apC, isCl, isCutO, vMake, iOf, bad, xFill, appL, appR, ixL, ixH, isB, bv, gT, gW, gN, gV, isU, isPick, pkC, pkA, pkB, isCall, popTo, AS.pt, AS.kn, AS.ev, AS.box, AS.setb, AS.mk', AS.owf, AS.rd, kill, look, cav, cav0, avB, avO, avF, setRowG, AV.cells, AV.whole, AV.one, cD, cDs, eatsOf, dpOf, td0, td1, td2, td3, td4, td5, td6, Option.bind, Option.getD, Option.map, Option.isSome, List.map, List.take, List.drop, List.length, List.getElem?_cons_zero, List.getElem?_cons_succ, List.getElem?_nil, List.set, List.flatMap, List.foldr, List.all, List.replicate, List.mem_cons, List.not_mem_nil, List.nodup_cons, List.nodup_nil, List.nil_append, List.cons_append, List.append_nil, ↓reduceIte, Nat.reduceLT, Nat.reduceAdd, Nat.reduceMul, Nat.reduceLeDiff, Nat.reduceEqDiff, Nat.zero_add, Nat.add_zero, Nat.mul_zero, Nat.zero_mul, Nat.one_mul, Nat.mul_one, ne_eq, not_false_eq_true, not_true_eq_false, true_and, and_true, false_and, and_false, or_false, or_true, false_or, true_or, Bool.true_and, Bool.and_true, Bool.false_and, Bool.and_false, Bool.not_true, Bool.not_false, Bool.false_eq_true, Bool.true_eq_false, id_eq, reduceCtorEq, Int.toNat_natCast, Int.reduceLT, Int.reduceLE, Int.reduceEq, Int.reduceNe, Int.reduceAdd, Int.reduceSub, Int.reduceMul, Int.reduceNeg, Int.reduceToNat, Nat.reduceSub, Int.toNat_zero, Int.toNat_one, Int.natCast_zero, Int.le_refl, Int.natCast_nonneg, decide_true, decide_false, and_self, decide_eq_true_eq, decide_eq_false_iff_not, Nat.succ_ne_zero, Nat.zero_le, Nat.le_refl, tyC_eq, tysD, hk, hi, hR, Tryz.ntmps100, Tryz.results100]
    refine sw_call (hO) rfl (aAs_ok ?_) ?_ (sw_run 200 _ _ _ ?_)
    · simp only [aAs, aA, aDs, aD, tysD, tmsD, strsD, intsD, argAs, argA, avB, AS.ev, AS.owf, AS.mk', AS.pt, AS.box, AS.setb, kill, look, cav, Option.bind, Option.getD, Option.map, Option.isSome, id_eq, List.map, List.nil_append, List.cons_append, List.append_nil, List.foldr, ↓reduceIte, Nat.reduceEqDiff, Nat.reduceLT, Nat.zero_add, Nat.reduceAdd, reduceCtorEq, eq_self, and_self, true_and, and_true, List.length, Nat.succ_ne_zero, if_true, tyC_eq, tysD]
    · simp only [okR]
    simp only [argT, argA, argAs, s0M, numT, flatM, packM, AS.kl, eatM, mkR, flatD, packA, retA, List.headD_cons, List.tail_cons, fQ, qLp, tysD, tmsD, strsD, intsD, rowD, xRet, rPs, xRes, flatA, rD, rDs, eq_self, true_or, xRun, vE, vP, vSub, vLoad, vFld, vIdx, vBin, vBinT, vEqA, shp, isAg, isBo, bvA, vEqB, vMax, cellsA, eqAV, eqAVs, shpOk, vNot, vLen, vChr, vExt, vBuild, vCut, vSlc, vCnv, vRow, vStore, vStE, primD, primDs, frzD, frzDs, stDs, AS.setO, AV.unsp, AV.unsps, unspT, unspB, vApp, apP, apC, isCl, isCutO, vMake, iOf, bad, xFill, appL, appR, ixL, ixH, isB, bv, gT, gW, gN, gV, isU, isPick, pkC, pkA, pkB, isCall, popTo, AS.pt, AS.kn, AS.ev, AS.box, AS.setb, AS.mk', AS.owf, AS.rd, kill, look, cav, cav0, avB, avO, avF, setRowG, AV.cells, AV.whole, AV.one, cD, cDs, eatsOf, dpOf, td0, td1, td2, td3, td4, td5, td6, Option.bind, Option.getD, Option.map, Option.isSome, List.map, List.take, List.drop, List.length, List.getElem?_cons_zero, List.getElem?_cons_succ, List.getElem?_nil, List.set, List.flatMap, List.foldr, List.all, List.replicate, List.mem_cons, List.not_mem_nil, List.nodup_cons, List.nodup_nil, List.nil_append, List.cons_append, List.append_nil, ↓reduceIte, Nat.reduceLT, Nat.reduceAdd, Nat.reduceMul, Nat.reduceLeDiff, Nat.reduceEqDiff, Nat.zero_add, Nat.add_zero, Nat.mul_zero, Nat.zero_mul, Nat.one_mul, Nat.mul_one, ne_eq, not_false_eq_true, not_true_eq_false, true_and, and_true, false_and, and_false, or_false, or_true, false_or, true_or, Bool.true_and, Bool.and_true, Bool.false_and, Bool.and_false, Bool.not_true, Bool.not_false, Bool.false_eq_true, Bool.true_eq_false, id_eq, reduceCtorEq, Int.toNat_natCast, Int.reduceLT, Int.reduceLE, Int.reduceEq, Int.reduceNe, Int.reduceAdd, Int.reduceSub, Int.reduceMul, Int.reduceNeg, Int.reduceToNat, Nat.reduceSub, Int.toNat_zero, Int.toNat_one, Int.natCast_zero, Int.le_refl, Int.natCast_nonneg, decide_true, decide_false, and_self, decide_eq_true_eq, decide_eq_false_iff_not, Nat.succ_ne_zero, Nat.zero_le, Nat.le_refl, tyC_eq, tysD, Tryz.ntmps100, Tryz.results100]
  · rw [if_neg hk]
    refine con_run Tryz.func100 rfl rfl (by simp [Tryz.ntmps100]) ?_
    simp only [argT, argA, argAs, s0M, numT, flatM, packM, AS.kl, eatM, mkR, flatD, packA, retA, List.headD_cons, List.tail_cons, fQ, qLp, tysD, tmsD, strsD, intsD, rowD, xRet, rPs, xRes, flatA, rD, rDs, eq_self, true_or, xRun, vE, vP, vSub, vLoad, vFld, vIdx, vBin, vBinT, vEqA, shp, isAg, isBo, bvA, vEqB, vMax, cellsA, eqAV, eqAVs, shpOk, vNot, vLen, vChr, vExt, vBuild, vCut, vSlc, vCnv, vRow, vStore, vStE, primD, primDs, frzD, frzDs, stDs, AS.setO, AV.unsp, AV.unsps, unspT, unspB, vApp, apP, apC, isCl, isCutO, vMake, iOf, bad, xFill, appL, appR, ixL, ixH, isB, bv, gT, gW, gN, gV, isU, isPick, pkC, pkA, pkB, isCall, popTo, AS.pt, AS.kn, AS.ev, AS.box, AS.setb, AS.mk', AS.owf, AS.rd, kill, look, cav, cav0, avB, avO, avF, setRowG, AV.cells, AV.whole, AV.one, cD, cDs, eatsOf, dpOf, td0, td1, td2, td3, td4, td5, td6, Option.bind, Option.getD, Option.map, Option.isSome, List.map, List.take, List.drop, List.length, List.getElem?_cons_zero, List.getElem?_cons_succ, List.getElem?_nil, List.set, List.flatMap, List.foldr, List.all, List.replicate, List.mem_cons, List.not_mem_nil, List.nodup_cons, List.nodup_nil, List.nil_append, List.cons_append, List.append_nil, ↓reduceIte, Nat.reduceLT, Nat.reduceAdd, Nat.reduceMul, Nat.reduceLeDiff, Nat.reduceEqDiff, Nat.zero_add, Nat.add_zero, Nat.mul_zero, Nat.zero_mul, Nat.one_mul, Nat.mul_one, ne_eq, not_false_eq_true, not_true_eq_false, true_and, and_true, false_and, and_false, or_false, or_true, false_or, true_or, Bool.true_and, Bool.and_true, Bool.false_and, Bool.and_false, Bool.not_true, Bool.not_false, Bool.false_eq_true, Bool.true_eq_false, id_eq, reduceCtorEq, Int.toNat_natCast, Int.reduceLT, Int.reduceLE, Int.reduceEq, Int.reduceNe, Int.reduceAdd, Int.reduceSub, Int.reduceMul, Int.reduceNeg, Int.reduceToNat, Nat.reduceSub, Int.toNat_zero, Int.toNat_one, Int.natCast_zero, Int.le_refl, Int.natCast_nonneg, decide_true, decide_false, and_self, decide_eq_true_eq, decide_eq_false_iff_not, Nat.succ_ne_zero, Nat.zero_le, Nat.le_refl, tyC_eq, tysD, hk, Tryz.ntmps100, Tryz.results100]
    exact ⟨rfl, rfl, rfl⟩
theorem con_CloneT (xs : List Tg) (hl : xs.length ≤ 2000000000) : ConP Tryz.prog 98 [.b (.one (.rows 4 xs.length (flC tgC xs)))] [] [.one (.q 58 (.rows 4 xs.length (flC tgC xs)))] := by
  refine con_runP Tryz.func98 rfl rfl (by simp [Tryz.ntmps98]) rfl ?_
  simp only [s0P, mkPs, mkPA, mkC, fQF, fQP, xRetP, rRs, rOs, rC, rCs, eRs, eOs, eC, eCs, AS.em, AS.fzL, AS.fzN, AS.fz, fzT, fzB, AV.fz, AV.fzs, aftS, aftV, AS.kb, rmBs, rmB, mkO, packRA, flatR, mPs, mP, ePs, eP, bPs, bP, nPs, nP, aAs, aA, aDs, aD, argT, argA, argAs, s0M, numT, flatM, packM, AS.kl, eatM, mkR, flatD, packA, retA, List.headD_cons, List.tail_cons, fQ, qLp, tysD, tmsD, strsD, intsD, rowD, xRet, rPs, xRes, flatA, rD, rDs, eq_self, true_or, xRun, vE, vP, vSub, vLoad, vFld, vIdx, vBin, vBinT, vEqA, shp, isAg, isBo, bvA, vEqB, vMax, cellsA, eqAV, eqAVs, shpOk, vNot, vLen, vChr, vExt, vBuild, vCut, vSlc, vCnv, vRow, vStore, vStE, primD, primDs, frzD, frzDs, stDs, AS.setO, AV.unsp, AV.unsps, unspT, unspB, vApp, apP, apC, isCl, isCutO, vMake, iOf, bad, xFill, appL, appR, ixL, ixH, isB, bv, gT, gW, gN, gV, isU, isPick, pkC, pkA, pkB, isCall, popTo, AS.pt, AS.kn, AS.ev, AS.box, AS.setb, AS.mk', AS.owf, AS.rd, kill, look, cav, cav0, avB, avO, avF, setRowG, AV.cells, AV.whole, AV.one, cD, cDs, eatsOf, dpOf, td0, td1, td2, td3, td4, td5, td6, Option.bind, Option.getD, Option.map, Option.isSome, List.map, List.take, List.drop, List.length, List.getElem?_cons_zero, List.getElem?_cons_succ, List.getElem?_nil, List.set, List.flatMap, List.foldr, List.all, List.replicate, List.mem_cons, List.not_mem_nil, List.nodup_cons, List.nodup_nil, List.nil_append, List.cons_append, List.append_nil, ↓reduceIte, Nat.reduceLT, Nat.reduceAdd, Nat.reduceMul, Nat.reduceLeDiff, Nat.reduceEqDiff, Nat.zero_add, Nat.add_zero, Nat.mul_zero, Nat.zero_mul, Nat.one_mul, Nat.mul_one, ne_eq, not_false_eq_true, not_true_eq_false, true_and, and_true, false_and, and_false, or_false, or_true, false_or, true_or, Bool.true_and, Bool.and_true, Bool.false_and, Bool.and_false, Bool.not_true, Bool.not_false, Bool.false_eq_true, Bool.true_eq_false, id_eq, reduceCtorEq, Int.toNat_natCast, Int.reduceLT, Int.reduceLE, Int.reduceEq, Int.reduceNe, Int.reduceAdd, Int.reduceSub, Int.reduceMul, Int.reduceNeg, Int.reduceToNat, Nat.reduceSub, Int.toNat_zero, Int.toNat_one, Int.natCast_zero, Int.le_refl, Int.natCast_nonneg, decide_true, decide_false, and_self, decide_eq_true_eq, decide_eq_false_iff_not, Nat.succ_ne_zero, Nat.zero_le, Nat.le_refl, Tryz.ntmps98, Tryz.results98]
  refine sw_nilE (q := (58, 4)) rfl (by simp only [td0, td1, td2, td3, td4, td5, td6]) (fun h0 => ?_) ?_
  · obtain rfl := List.eq_nil_of_length_eq_zero h0
    refine sw_run 200 _ _ _ ?_
    simp only [s0P, mkPs, mkPA, mkC, fQF, fQP, xRetP, rRs, rOs, rC, rCs, eRs, eOs, eC, eCs, AS.em, AS.fzL, AS.fzN, AS.fz, fzT, fzB, AV.fz, AV.fzs, aftS, aftV, AS.kb, rmBs, rmB, mkO, packRA, flatR, mPs, mP, ePs, eP, bPs, bP, nPs, nP, aAs, aA, aDs, aD, argT, argA, argAs, s0M, numT, flatM, packM, AS.kl, eatM, mkR, flatD, packA, retA, List.headD_cons, List.tail_cons, fQ, qLp, tysD, tmsD, strsD, intsD, rowD, xRet, rPs, xRes, flatA, rD, rDs, eq_self, true_or, xRun, vE, vP, vSub, vLoad, vFld, vIdx, vBin, vBinT, vEqA, shp, isAg, isBo, bvA, vEqB, vMax, cellsA, eqAV, eqAVs, shpOk, vNot, vLen, vChr, vExt, vBuild, vCut, vSlc, vCnv, vRow, vStore, vStE, primD, primDs, frzD, frzDs, stDs, AS.setO, AV.unsp, AV.unsps, unspT, unspB, vApp, apP, apC, isCl, isCutO, vMake, iOf, bad, xFill, appL, appR, ixL, ixH, isB, bv, gT, gW, gN, gV, isU, isPick, pkC, pkA, pkB, isCall, popTo, AS.pt, AS.kn, AS.ev, AS.box, AS.setb, AS.mk', AS.owf, AS.rd, kill, look, cav, cav0, avB, avO, avF, setRowG, AV.cells, AV.whole, AV.one, cD, cDs, eatsOf, dpOf, td0, td1, td2, td3, td4, td5, td6, Option.bind, Option.getD, Option.map, Option.isSome, List.map, List.take, List.drop, List.length, List.getElem?_cons_zero, List.getElem?_cons_succ, List.getElem?_nil, List.set, List.flatMap, List.foldr, List.all, List.replicate, List.mem_cons, List.not_mem_nil, List.nodup_cons, List.nodup_nil, List.nil_append, List.cons_append, List.append_nil, ↓reduceIte, Nat.reduceLT, Nat.reduceAdd, Nat.reduceMul, Nat.reduceLeDiff, Nat.reduceEqDiff, Nat.zero_add, Nat.add_zero, Nat.mul_zero, Nat.zero_mul, Nat.one_mul, Nat.mul_one, ne_eq, not_false_eq_true, not_true_eq_false, true_and, and_true, false_and, and_false, or_false, or_true, false_or, true_or, Bool.true_and, Bool.and_true, Bool.false_and, Bool.and_false, Bool.not_true, Bool.not_false, Bool.false_eq_true, Bool.true_eq_false, id_eq, reduceCtorEq, Int.toNat_natCast, Int.reduceLT, Int.reduceLE, Int.reduceEq, Int.reduceNe, Int.reduceAdd, Int.reduceSub, Int.reduceMul, Int.reduceNeg, Int.reduceToNat, Nat.reduceSub, Int.toNat_zero, Int.toNat_one, Int.natCast_zero, Int.le_refl, Int.natCast_nonneg, decide_true, decide_false, and_self, decide_eq_true_eq, decide_eq_false_iff_not, Nat.succ_ne_zero, Nat.zero_le, Nat.le_refl, flC, Tryz.ntmps98, Tryz.results98]
  · refine sw_run 200 _ _ _ ?_
    simp only [s0P, mkPs, mkPA, mkC, fQF, fQP, xRetP, rRs, rOs, rC, rCs, eRs, eOs, eC, eCs, AS.em, AS.fzL, AS.fzN, AS.fz, fzT, fzB, AV.fz, AV.fzs, aftS, aftV, AS.kb, rmBs, rmB, mkO, packRA, flatR, mPs, mP, ePs, eP, bPs, bP, nPs, nP, aAs, aA, aDs, aD, argT, argA, argAs, s0M, numT, flatM, packM, AS.kl, eatM, mkR, flatD, packA, retA, List.headD_cons, List.tail_cons, fQ, qLp, tysD, tmsD, strsD, intsD, rowD, xRet, rPs, xRes, flatA, rD, rDs, eq_self, true_or, xRun, vE, vP, vSub, vLoad, vFld, vIdx, vBin, vBinT, vEqA, shp, isAg, isBo, bvA, vEqB, vMax, cellsA, eqAV, eqAVs, shpOk, vNot, vLen, vChr, vExt, vBuild, vCut, vSlc, vCnv, vRow, vStore, vStE, primD, primDs, frzD, frzDs, stDs, AS.setO, AV.unsp, AV.unsps, unspT, unspB, vApp, apP, apC, isCl, isCutO, vMake, iOf, bad, xFill, appL, appR, ixL, ixH, isB, bv, gT, gW, gN, gV, isU, isPick, pkC, pkA, pkB, isCall, popTo, AS.pt, AS.kn, AS.ev, AS.box, AS.setb, AS.mk', AS.owf, AS.rd, kill, look, cav, cav0, avB, avO, avF, setRowG, AV.cells, AV.whole, AV.one, cD, cDs, eatsOf, dpOf, td0, td1, td2, td3, td4, td5, td6, Option.bind, Option.getD, Option.map, Option.isSome, List.map, List.take, List.drop, List.length, List.getElem?_cons_zero, List.getElem?_cons_succ, List.getElem?_nil, List.set, List.flatMap, List.foldr, List.all, List.replicate, List.mem_cons, List.not_mem_nil, List.nodup_cons, List.nodup_nil, List.nil_append, List.cons_append, List.append_nil, ↓reduceIte, Nat.reduceLT, Nat.reduceAdd, Nat.reduceMul, Nat.reduceLeDiff, Nat.reduceEqDiff, Nat.zero_add, Nat.add_zero, Nat.mul_zero, Nat.zero_mul, Nat.one_mul, Nat.mul_one, ne_eq, not_false_eq_true, not_true_eq_false, true_and, and_true, false_and, and_false, or_false, or_true, false_or, true_or, Bool.true_and, Bool.and_true, Bool.false_and, Bool.and_false, Bool.not_true, Bool.not_false, Bool.false_eq_true, Bool.true_eq_false, id_eq, reduceCtorEq, Int.toNat_natCast, Int.reduceLT, Int.reduceLE, Int.reduceEq, Int.reduceNe, Int.reduceAdd, Int.reduceSub, Int.reduceMul, Int.reduceNeg, Int.reduceToNat, Nat.reduceSub, Int.toNat_zero, Int.toNat_one, Int.natCast_zero, Int.le_refl, Int.natCast_nonneg, decide_true, decide_false, and_self, decide_eq_true_eq, decide_eq_false_iff_not, Nat.succ_ne_zero, Nat.zero_le, Nat.le_refl, Tryz.ntmps98, Tryz.results98]
    exact ⟨fun _ _ => trivial, by unfold maxLen; omega, by omega⟩
theorem con_with (xs ys : List Tg) (hl : xs.length ≤ 2000000000) (hm : ys.length ≤ 2000000000) : ConP Tryz.prog 80 [.b (.one (.rows 4 xs.length (flC tgC xs))), .b (.one (.rows 4 ys.length (flC tgC ys)))] [] [.one (.r (.rows 4 (xs ++ ys).length (flC tgC (xs ++ ys))))] := by
  have hC := con_CloneT xs hl
  rw [List.length_append, flC_app]
  refine con_runPF [0, 1] Tryz.func80 rfl rfl (by simp [Tryz.ntmps80]) rfl ?_
  refine byP (fc Tryz.ntmps80 Tryz.results80) ?_
  refine sw_callPR (hC) rfl rfl rfl (byQ True.intro) (byQ True.intro) (byQ True.intro) ?_
  refine sw_run 200 _ _ _ (byP (fc Tryz.ntmps80 Tryz.results80) ?_)
  exact ⟨fun _ _ => trivial, by unfold maxLen; omega, by omega⟩
theorem con_opType (s : ByteArray) (l : List Ty) (hl : l.length ≤ 2000000000) (hz : ∀ t ∈ l, szL (tyC t) ≤ 1000000000) : Con Tryz.prog 78 [.one (.str s), .one (.rows 2 l.length (tysC l))] [.ag (tyC (opI s l))] := by
  have hI := con_tyiI
  have hB := con_tybI
  simp only [tyC, tysC, tI, tB, List.length_nil] at hI hB
  by_cases h1 : s = ⟨#[61]⟩ ∨ s = ⟨#[60]⟩
  · rcases pc (s = ⟨#[61]⟩) with h2 | h2
    · have e1 : inT s = .mk 1 [] := by unfold inT; simp only [oEq, oLt, oAnd, oOr, oNot, h2, if_true, if_false, or_true, true_or, or_false, false_or]; rfl
      have e2 : outT s = .mk 2 [] := by unfold outT; simp only [oEq, oLt, oAnd, oOr, oNot, h2, if_true, if_false, or_true, true_or, or_false, false_or]; rfl
      unfold opI
      rw [e1, e2]
      refine con_run Tryz.func78 rfl rfl (by simp [Tryz.ntmps78]) ?_
      refine byP (fc Tryz.ntmps78 Tryz.results78) ?_
      refine sw_call (hI) rfl (aAs_ok (byQ True.intro)) (byQ True.intro) ?_
      refine sw_run 200 _ _ _ (byQ ?_)
      refine sw_call (hI) rfl (aAs_ok (byQ True.intro)) (byQ True.intro) ?_
      refine sw_run 200 _ _ _ (byP h2 ?_)
      refine sw_call (hB) rfl (aAs_ok (byQ True.intro)) (byQ True.intro) ?_
      refine sw_run 200 _ _ _ (byP h2 ?_)
      refine sw_loop (fun k : Nat => k ≤ l.length ∧ (l.take k).all (fun t => eqTy t (.mk 1 [])) = true) (fun k => ⟨35, [(24, .i k), (23, .i l.length), (22, .br (.rows 2 l.length (tysC l))), (6, .bx 2 0), (5, .bx 1 0), (4, .bx 0 0)], [(0, [.i 0, .nl 2]), (1, [.i 1, .sl 3]), (2, [.i 2, .sl 4])], [(3, some ⟨.rows 2 0 [], none, true⟩), (4, some ⟨.rows 2 0 [], none, true⟩)], 5, []⟩) (fun k => l.length - k) 0 (rnL [(1, 3), (2, 4), (3, 1), (4, 5)]) ⟨Nat.zero_le _, rfl⟩ (byP Int.natCast_zero True.intro) ?_
      rintro k ⟨hk, hall⟩
      by_cases hlt : k < l.length
      · have hi : (k : Int) < (l.length : Int) := by omega
        have hR := tysC_row' l k hlt
        have hE := con_EqTyI l[k]! (.mk 1 []) (hz _ (mem_bang hlt))
        have hst : (l.take (k + 1)).all (fun t => eqTy t (.mk 1 [])) = eqTy l[k]! (.mk 1 []) := by rw [take_snoc l k hlt, List.all_append, hall]; simp
        simp only [tyC, tysC, List.length_nil] at hE
        refine sw_run 200 _ _ _ (byP (fc hi hR) ?_)
        cases hb : eqTy l[k]! (.mk 1 []) with
        | true =>
          rw [hb] at hE hst
          refine sw_call (hE) rfl (aAs_ok (byQ True.intro)) (byQ True.intro) ?_
          refine sw_run 200 _ _ _ (byQ ?_)
          exact ⟨by unfold inI; omega, k + 1, id, ⟨by omega, hst⟩, by omega, byQ True.intro⟩
        | false =>
          rw [hb] at hE
          have hf : l.all (fun t => eqTy t (.mk 1 [])) = false := by
            rw [List.all_eq_false]
            exact ⟨l[k]!, mem_bang hlt, fun h => by rw [hb] at h; cases h⟩
          rw [hf]
          refine sw_call (hE) rfl (aAs_ok (byQ True.intro)) (byQ True.intro) ?_
          refine sw_run 200 _ _ _ (byP (fc Tryz.ntmps78 Tryz.results78) ?_)
          exact ⟨rfl, rfl, rfl⟩
      · have hi : ¬ (k : Int) < (l.length : Int) := by omega
        obtain rfl : k = l.length := by omega
        rw [List.take_length] at hall
        rw [hall]
        refine sw_run 200 _ _ _ (byP hi ?_)
        refine sw_run 200 _ _ _ (byP (fc Tryz.ntmps78 Tryz.results78) ?_)
        exact ⟨rfl, rfl⟩
    · have h3 : (s = ⟨#[60]⟩) = True := eq_true (h1.resolve_left (of_eq_false h2))
      have e1 : inT s = .mk 1 [] := by unfold inT; simp only [oEq, oLt, oAnd, oOr, oNot, h2, h3, if_true, if_false, or_true, true_or, or_false, false_or]; rfl
      have e2 : outT s = .mk 2 [] := by unfold outT; simp only [oEq, oLt, oAnd, oOr, oNot, h2, h3, if_true, if_false, or_true, true_or, or_false, false_or]; rfl
      unfold opI
      rw [e1, e2]
      refine con_run Tryz.func78 rfl rfl (by simp [Tryz.ntmps78]) ?_
      refine byP (fc Tryz.ntmps78 Tryz.results78) ?_
      refine sw_call (hI) rfl (aAs_ok (byQ True.intro)) (byQ True.intro) ?_
      refine sw_run 200 _ _ _ (byQ ?_)
      refine sw_call (hI) rfl (aAs_ok (byQ True.intro)) (byQ True.intro) ?_
      refine sw_run 200 _ _ _ (byP (fc h2 h3) ?_)
      refine sw_call (hB) rfl (aAs_ok (byQ True.intro)) (byQ True.intro) ?_
      refine sw_run 200 _ _ _ (byP (fc h2 h3) ?_)
      refine sw_loop (fun k : Nat => k ≤ l.length ∧ (l.take k).all (fun t => eqTy t (.mk 1 [])) = true) (fun k => ⟨35, [(24, .i k), (23, .i l.length), (22, .br (.rows 2 l.length (tysC l))), (6, .bx 2 0), (5, .bx 1 0), (4, .bx 0 0)], [(0, [.i 0, .nl 2]), (1, [.i 1, .sl 3]), (2, [.i 2, .sl 4])], [(3, some ⟨.rows 2 0 [], none, true⟩), (4, some ⟨.rows 2 0 [], none, true⟩)], 5, []⟩) (fun k => l.length - k) 0 (rnL [(1, 3), (2, 4), (3, 1), (4, 5)]) ⟨Nat.zero_le _, rfl⟩ (byP Int.natCast_zero True.intro) ?_
      rintro k ⟨hk, hall⟩
      by_cases hlt : k < l.length
      · have hi : (k : Int) < (l.length : Int) := by omega
        have hR := tysC_row' l k hlt
        have hE := con_EqTyI l[k]! (.mk 1 []) (hz _ (mem_bang hlt))
        have hst : (l.take (k + 1)).all (fun t => eqTy t (.mk 1 [])) = eqTy l[k]! (.mk 1 []) := by rw [take_snoc l k hlt, List.all_append, hall]; simp
        simp only [tyC, tysC, List.length_nil] at hE
        refine sw_run 200 _ _ _ (byP (fc hi hR) ?_)
        cases hb : eqTy l[k]! (.mk 1 []) with
        | true =>
          rw [hb] at hE hst
          refine sw_call (hE) rfl (aAs_ok (byQ True.intro)) (byQ True.intro) ?_
          refine sw_run 200 _ _ _ (byQ ?_)
          exact ⟨by unfold inI; omega, k + 1, id, ⟨by omega, hst⟩, by omega, byQ True.intro⟩
        | false =>
          rw [hb] at hE
          have hf : l.all (fun t => eqTy t (.mk 1 [])) = false := by
            rw [List.all_eq_false]
            exact ⟨l[k]!, mem_bang hlt, fun h => by rw [hb] at h; cases h⟩
          rw [hf]
          refine sw_call (hE) rfl (aAs_ok (byQ True.intro)) (byQ True.intro) ?_
          refine sw_run 200 _ _ _ (byP (fc Tryz.ntmps78 Tryz.results78) ?_)
          exact ⟨rfl, rfl, rfl⟩
      · have hi : ¬ (k : Int) < (l.length : Int) := by omega
        obtain rfl : k = l.length := by omega
        rw [List.take_length] at hall
        rw [hall]
        refine sw_run 200 _ _ _ (byP hi ?_)
        refine sw_run 200 _ _ _ (byP (fc Tryz.ntmps78 Tryz.results78) ?_)
        exact ⟨rfl, rfl⟩
  have h2 : (s = ⟨#[61]⟩) = False := eq_false fun h => h1 (.inl h)
  have h3 : (s = ⟨#[60]⟩) = False := eq_false fun h => h1 (.inr h)
  rcases pc (s = ⟨#[38]⟩) with h4 | h4
  · have e1 : inT s = .mk 2 [] := by unfold inT; simp only [oEq, oLt, oAnd, oOr, oNot, h2, h3, h4, if_true, if_false, or_true, true_or, or_false, false_or]; rfl
    have e2 : outT s = .mk 2 [] := by unfold outT; simp only [oEq, oLt, oAnd, oOr, oNot, h2, h3, h4, if_true, if_false, or_true, true_or, or_false, false_or]; rfl
    unfold opI
    rw [e1, e2]
    refine con_run Tryz.func78 rfl rfl (by simp [Tryz.ntmps78]) ?_
    refine byP (fc Tryz.ntmps78 Tryz.results78) ?_
    refine sw_call (hI) rfl (aAs_ok (byQ True.intro)) (byQ True.intro) ?_
    refine sw_run 200 _ _ _ (byQ ?_)
    refine sw_call (hI) rfl (aAs_ok (byQ True.intro)) (byQ True.intro) ?_
    refine sw_run 200 _ _ _ (byP (fc h2 (fc h3 h4)) ?_)
    refine sw_call (hB) rfl (aAs_ok (byQ True.intro)) (byQ True.intro) ?_
    refine sw_run 200 _ _ _ (byP (fc h2 (fc h3 h4)) ?_)
    refine sw_call (hB) rfl (aAs_ok (byQ True.intro)) (byQ True.intro) ?_
    refine sw_run 200 _ _ _ (byP (fc h2 (fc h3 h4)) ?_)
    refine sw_loop (fun k : Nat => k ≤ l.length ∧ (l.take k).all (fun t => eqTy t (.mk 2 [])) = true) (fun k => ⟨35, [(24, .i k), (23, .i l.length), (22, .br (.rows 2 l.length (tysC l))), (6, .bx 2 0), (5, .bx 1 0), (4, .bx 0 0)], [(0, [.i 0, .nl 2]), (1, [.i 2, .sl 3]), (2, [.i 2, .sl 4])], [(3, some ⟨.rows 2 0 [], none, true⟩), (4, some ⟨.rows 2 0 [], none, true⟩)], 5, []⟩) (fun k => l.length - k) 0 (rnL [(1, 3), (2, 4), (3, 5), (4, 6)]) ⟨Nat.zero_le _, rfl⟩ (byP Int.natCast_zero True.intro) ?_
    rintro k ⟨hk, hall⟩
    by_cases hlt : k < l.length
    · have hi : (k : Int) < (l.length : Int) := by omega
      have hR := tysC_row' l k hlt
      have hE := con_EqTyI l[k]! (.mk 2 []) (hz _ (mem_bang hlt))
      have hst : (l.take (k + 1)).all (fun t => eqTy t (.mk 2 [])) = eqTy l[k]! (.mk 2 []) := by rw [take_snoc l k hlt, List.all_append, hall]; simp
      simp only [tyC, tysC, List.length_nil] at hE
      refine sw_run 200 _ _ _ (byP (fc hi hR) ?_)
      cases hb : eqTy l[k]! (.mk 2 []) with
      | true =>
        rw [hb] at hE hst
        refine sw_call (hE) rfl (aAs_ok (byQ True.intro)) (byQ True.intro) ?_
        refine sw_run 200 _ _ _ (byQ ?_)
        exact ⟨by unfold inI; omega, k + 1, id, ⟨by omega, hst⟩, by omega, byQ True.intro⟩
      | false =>
        rw [hb] at hE
        have hf : l.all (fun t => eqTy t (.mk 2 [])) = false := by
          rw [List.all_eq_false]
          exact ⟨l[k]!, mem_bang hlt, fun h => by rw [hb] at h; cases h⟩
        rw [hf]
        refine sw_call (hE) rfl (aAs_ok (byQ True.intro)) (byQ True.intro) ?_
        refine sw_run 200 _ _ _ (byP (fc Tryz.ntmps78 Tryz.results78) ?_)
        exact ⟨rfl, rfl, rfl⟩
    · have hi : ¬ (k : Int) < (l.length : Int) := by omega
      obtain rfl : k = l.length := by omega
      rw [List.take_length] at hall
      rw [hall]
      refine sw_run 200 _ _ _ (byP hi ?_)
      refine sw_run 200 _ _ _ (byP (fc Tryz.ntmps78 Tryz.results78) ?_)
      exact ⟨rfl, rfl⟩
  rcases pc (s = ⟨#[124]⟩) with h5 | h5
  · have e1 : inT s = .mk 2 [] := by unfold inT; simp only [oEq, oLt, oAnd, oOr, oNot, h2, h3, h4, h5, if_true, if_false, or_true, true_or, or_false, false_or]; rfl
    have e2 : outT s = .mk 2 [] := by unfold outT; simp only [oEq, oLt, oAnd, oOr, oNot, h2, h3, h4, h5, if_true, if_false, or_true, true_or, or_false, false_or]; rfl
    unfold opI
    rw [e1, e2]
    refine con_run Tryz.func78 rfl rfl (by simp [Tryz.ntmps78]) ?_
    refine byP (fc Tryz.ntmps78 Tryz.results78) ?_
    refine sw_call (hI) rfl (aAs_ok (byQ True.intro)) (byQ True.intro) ?_
    refine sw_run 200 _ _ _ (byQ ?_)
    refine sw_call (hI) rfl (aAs_ok (byQ True.intro)) (byQ True.intro) ?_
    refine sw_run 200 _ _ _ (byP (fc h2 (fc h3 (fc h4 h5))) ?_)
    refine sw_call (hB) rfl (aAs_ok (byQ True.intro)) (byQ True.intro) ?_
    refine sw_run 200 _ _ _ (byP (fc h2 (fc h3 (fc h4 h5))) ?_)
    refine sw_call (hB) rfl (aAs_ok (byQ True.intro)) (byQ True.intro) ?_
    refine sw_run 200 _ _ _ (byP (fc h2 (fc h3 (fc h4 h5))) ?_)
    refine sw_loop (fun k : Nat => k ≤ l.length ∧ (l.take k).all (fun t => eqTy t (.mk 2 [])) = true) (fun k => ⟨35, [(24, .i k), (23, .i l.length), (22, .br (.rows 2 l.length (tysC l))), (6, .bx 2 0), (5, .bx 1 0), (4, .bx 0 0)], [(0, [.i 0, .nl 2]), (1, [.i 2, .sl 3]), (2, [.i 2, .sl 4])], [(3, some ⟨.rows 2 0 [], none, true⟩), (4, some ⟨.rows 2 0 [], none, true⟩)], 5, []⟩) (fun k => l.length - k) 0 (rnL [(1, 3), (2, 4), (3, 5), (4, 6)]) ⟨Nat.zero_le _, rfl⟩ (byP Int.natCast_zero True.intro) ?_
    rintro k ⟨hk, hall⟩
    by_cases hlt : k < l.length
    · have hi : (k : Int) < (l.length : Int) := by omega
      have hR := tysC_row' l k hlt
      have hE := con_EqTyI l[k]! (.mk 2 []) (hz _ (mem_bang hlt))
      have hst : (l.take (k + 1)).all (fun t => eqTy t (.mk 2 [])) = eqTy l[k]! (.mk 2 []) := by rw [take_snoc l k hlt, List.all_append, hall]; simp
      simp only [tyC, tysC, List.length_nil] at hE
      refine sw_run 200 _ _ _ (byP (fc hi hR) ?_)
      cases hb : eqTy l[k]! (.mk 2 []) with
      | true =>
        rw [hb] at hE hst
        refine sw_call (hE) rfl (aAs_ok (byQ True.intro)) (byQ True.intro) ?_
        refine sw_run 200 _ _ _ (byQ ?_)
        exact ⟨by unfold inI; omega, k + 1, id, ⟨by omega, hst⟩, by omega, byQ True.intro⟩
      | false =>
        rw [hb] at hE
        have hf : l.all (fun t => eqTy t (.mk 2 [])) = false := by
          rw [List.all_eq_false]
          exact ⟨l[k]!, mem_bang hlt, fun h => by rw [hb] at h; cases h⟩
        rw [hf]
        refine sw_call (hE) rfl (aAs_ok (byQ True.intro)) (byQ True.intro) ?_
        refine sw_run 200 _ _ _ (byP (fc Tryz.ntmps78 Tryz.results78) ?_)
        exact ⟨rfl, rfl, rfl⟩
    · have hi : ¬ (k : Int) < (l.length : Int) := by omega
      obtain rfl : k = l.length := by omega
      rw [List.take_length] at hall
      rw [hall]
      refine sw_run 200 _ _ _ (byP hi ?_)
      refine sw_run 200 _ _ _ (byP (fc Tryz.ntmps78 Tryz.results78) ?_)
      exact ⟨rfl, rfl⟩
  rcases pc (s = ⟨#[33]⟩) with h6 | h6
  · have e1 : inT s = .mk 2 [] := by unfold inT; simp only [oEq, oLt, oAnd, oOr, oNot, h2, h3, h4, h5, h6, if_true, if_false, or_true, true_or, or_false, false_or]; rfl
    have e2 : outT s = .mk 2 [] := by unfold outT; simp only [oEq, oLt, oAnd, oOr, oNot, h2, h3, h4, h5, h6, if_true, if_false, or_true, true_or, or_false, false_or]; rfl
    unfold opI
    rw [e1, e2]
    refine con_run Tryz.func78 rfl rfl (by simp [Tryz.ntmps78]) ?_
    refine byP (fc Tryz.ntmps78 Tryz.results78) ?_
    refine sw_call (hI) rfl (aAs_ok (byQ True.intro)) (byQ True.intro) ?_
    refine sw_run 200 _ _ _ (byQ ?_)
    refine sw_call (hI) rfl (aAs_ok (byQ True.intro)) (byQ True.intro) ?_
    refine sw_run 200 _ _ _ (byP (fc h2 (fc h3 (fc h4 (fc h5 h6)))) ?_)
    refine sw_call (hB) rfl (aAs_ok (byQ True.intro)) (byQ True.intro) ?_
    refine sw_run 200 _ _ _ (byP (fc h2 (fc h3 (fc h4 (fc h5 h6)))) ?_)
    refine sw_call (hB) rfl (aAs_ok (byQ True.intro)) (byQ True.intro) ?_
    refine sw_run 200 _ _ _ (byP (fc h2 (fc h3 (fc h4 (fc h5 h6)))) ?_)
    refine sw_loop (fun k : Nat => k ≤ l.length ∧ (l.take k).all (fun t => eqTy t (.mk 2 [])) = true) (fun k => ⟨35, [(24, .i k), (23, .i l.length), (22, .br (.rows 2 l.length (tysC l))), (6, .bx 2 0), (5, .bx 1 0), (4, .bx 0 0)], [(0, [.i 0, .nl 2]), (1, [.i 2, .sl 3]), (2, [.i 2, .sl 4])], [(3, some ⟨.rows 2 0 [], none, true⟩), (4, some ⟨.rows 2 0 [], none, true⟩)], 5, []⟩) (fun k => l.length - k) 0 (rnL [(1, 3), (2, 4), (3, 5), (4, 6)]) ⟨Nat.zero_le _, rfl⟩ (byP Int.natCast_zero True.intro) ?_
    rintro k ⟨hk, hall⟩
    by_cases hlt : k < l.length
    · have hi : (k : Int) < (l.length : Int) := by omega
      have hR := tysC_row' l k hlt
      have hE := con_EqTyI l[k]! (.mk 2 []) (hz _ (mem_bang hlt))
      have hst : (l.take (k + 1)).all (fun t => eqTy t (.mk 2 [])) = eqTy l[k]! (.mk 2 []) := by rw [take_snoc l k hlt, List.all_append, hall]; simp
      simp only [tyC, tysC, List.length_nil] at hE
      refine sw_run 200 _ _ _ (byP (fc hi hR) ?_)
      cases hb : eqTy l[k]! (.mk 2 []) with
      | true =>
        rw [hb] at hE hst
        refine sw_call (hE) rfl (aAs_ok (byQ True.intro)) (byQ True.intro) ?_
        refine sw_run 200 _ _ _ (byQ ?_)
        exact ⟨by unfold inI; omega, k + 1, id, ⟨by omega, hst⟩, by omega, byQ True.intro⟩
      | false =>
        rw [hb] at hE
        have hf : l.all (fun t => eqTy t (.mk 2 [])) = false := by
          rw [List.all_eq_false]
          exact ⟨l[k]!, mem_bang hlt, fun h => by rw [hb] at h; cases h⟩
        rw [hf]
        refine sw_call (hE) rfl (aAs_ok (byQ True.intro)) (byQ True.intro) ?_
        refine sw_run 200 _ _ _ (byP (fc Tryz.ntmps78 Tryz.results78) ?_)
        exact ⟨rfl, rfl, rfl⟩
    · have hi : ¬ (k : Int) < (l.length : Int) := by omega
      obtain rfl : k = l.length := by omega
      rw [List.take_length] at hall
      rw [hall]
      refine sw_run 200 _ _ _ (byP hi ?_)
      refine sw_run 200 _ _ _ (byP (fc Tryz.ntmps78 Tryz.results78) ?_)
      exact ⟨rfl, rfl⟩
  have e1 : inT s = .mk 1 [] := by unfold inT; simp only [oEq, oLt, oAnd, oOr, oNot, h2, h3, h4, h5, h6, if_true, if_false, or_true, true_or, or_false, false_or]; rfl
  have e2 : outT s = .mk 1 [] := by unfold outT; simp only [oEq, oLt, oAnd, oOr, oNot, h2, h3, h4, h5, h6, if_true, if_false, or_true, true_or, or_false, false_or]; rfl
  unfold opI
  rw [e1, e2]
  refine con_run Tryz.func78 rfl rfl (by simp [Tryz.ntmps78]) ?_
  refine byP (fc Tryz.ntmps78 Tryz.results78) ?_
  refine sw_call (hI) rfl (aAs_ok (byQ True.intro)) (byQ True.intro) ?_
  refine sw_run 200 _ _ _ (byQ ?_)
  refine sw_call (hI) rfl (aAs_ok (byQ True.intro)) (byQ True.intro) ?_
  refine sw_run 200 _ _ _ (byP (fc h2 (fc h3 (fc h4 (fc h5 h6)))) ?_)
  refine sw_loop (fun k : Nat => k ≤ l.length ∧ (l.take k).all (fun t => eqTy t (.mk 1 [])) = true) (fun k => ⟨35, [(24, .i k), (23, .i l.length), (22, .br (.rows 2 l.length (tysC l))), (6, .bx 2 0), (5, .bx 1 0), (4, .bx 0 0)], [(0, [.i 0, .nl 2]), (1, [.i 1, .sl 3]), (2, [.i 1, .sl 4])], [(3, some ⟨.rows 2 0 [], none, true⟩), (4, some ⟨.rows 2 0 [], none, true⟩)], 5, []⟩) (fun k => l.length - k) 0 (rnL [(1, 3), (2, 4), (3, 1), (4, 2)]) ⟨Nat.zero_le _, rfl⟩ (byP Int.natCast_zero True.intro) ?_
  rintro k ⟨hk, hall⟩
  by_cases hlt : k < l.length
  · have hi : (k : Int) < (l.length : Int) := by omega
    have hR := tysC_row' l k hlt
    have hE := con_EqTyI l[k]! (.mk 1 []) (hz _ (mem_bang hlt))
    have hst : (l.take (k + 1)).all (fun t => eqTy t (.mk 1 [])) = eqTy l[k]! (.mk 1 []) := by rw [take_snoc l k hlt, List.all_append, hall]; simp
    simp only [tyC, tysC, List.length_nil] at hE
    refine sw_run 200 _ _ _ (byP (fc hi hR) ?_)
    cases hb : eqTy l[k]! (.mk 1 []) with
    | true =>
      rw [hb] at hE hst
      refine sw_call (hE) rfl (aAs_ok (byQ True.intro)) (byQ True.intro) ?_
      refine sw_run 200 _ _ _ (byQ ?_)
      exact ⟨by unfold inI; omega, k + 1, id, ⟨by omega, hst⟩, by omega, byQ True.intro⟩
    | false =>
      rw [hb] at hE
      have hf : l.all (fun t => eqTy t (.mk 1 [])) = false := by
        rw [List.all_eq_false]
        exact ⟨l[k]!, mem_bang hlt, fun h => by rw [hb] at h; cases h⟩
      rw [hf]
      refine sw_call (hE) rfl (aAs_ok (byQ True.intro)) (byQ True.intro) ?_
      refine sw_run 200 _ _ _ (byP (fc Tryz.ntmps78 Tryz.results78) ?_)
      exact ⟨rfl, rfl, rfl⟩
  · have hi : ¬ (k : Int) < (l.length : Int) := by omega
    obtain rfl : k = l.length := by omega
    rw [List.take_length] at hall
    rw [hall]
    refine sw_run 200 _ _ _ (byP hi ?_)
    refine sw_run 200 _ _ _ (byP (fc Tryz.ntmps78 Tryz.results78) ?_)
    exact ⟨rfl, rfl⟩
end Go.Proofs.YtpoemjeelbmpkaaGreat
