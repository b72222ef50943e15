/-
  Makers of terms, of both sides.
-/
import Derived.Test.YtepjbiffebbelaaTmC
namespace Go.Proofs.Ytepjbiffebbelaa
open Go.RowKit
set_option linter.unusedVariables false
set_option linter.unusedSimpArgs false
set_option maxRecDepth 20000
theorem tyk (k : Int) (xs : List Ty) : (Ty.mk k xs).kind = k := rfl
theorem tya (k : Int) (xs : List Ty) : (Ty.mk k xs).args = xs := rfl
def e0 : ByteArray := ⟨#[]⟩
def ty0 : Ty := .mk 0 []
def tInt (n : Int) : Tm := .mk 2 e0 e0 n ty0 ty0 []
def tVar (s : ByteArray) : Tm := .mk 1 s e0 0 ty0 ty0 []
def tNode (k : Int) (xs : List Tm) : Tm := .mk k e0 e0 0 ty0 ty0 xs
def tOp (s : ByteArray) (xs : List Tm) : Tm := .mk 4 s e0 0 ty0 ty0 xs
def tLam (s : ByteArray) (t : Ty) (e : Tm) : Tm := .mk 6 s e0 0 t ty0 [e]
def t0 : Tm := .mk 0 e0 e0 0 ty0 ty0 []
theorem sz_tInt (n : Int) : szL (tmC (tInt n)) = 0 := rfl
theorem sz_ty0 : szL (tyC ty0) = 0 := rfl
theorem sz_tVar (s : ByteArray) : szL (tmC (tVar s)) = s.size := by rw [szL_tm]; simp only [tVar, mk_name, mk_other, mk_ty, mk_res, mk_args, sz_ty0, show e0.size = 0 from rfl, tmsC, szL, List.length_nil]; omega
theorem sz_e0 : e0.size = 0 := rfl
theorem sz_tNode (k : Int) (xs : List Tm) : szL (tmC (tNode k xs)) = xs.length + szL (tmsC xs) := by
  rw [szL_tm]; simp only [tNode, mk_name, mk_other, mk_ty, mk_res, mk_args, sz_ty0, sz_e0]; omega
theorem sz_tOp (s : ByteArray) (xs : List Tm) : szL (tmC (tOp s xs)) = s.size + (xs.length + szL (tmsC xs)) := by
  rw [szL_tm]; simp only [tOp, mk_name, mk_other, mk_ty, mk_res, mk_args, sz_ty0, sz_e0]; omega
theorem sz_tLam (s : ByteArray) (t : Ty) (e : Tm) : szL (tmC (tLam s t e)) = s.size + (szL (tyC t) + (1 + szL (tmC e))) := by
  rw [szL_tm]; simp only [tLam, mk_name, mk_other, mk_ty, mk_res, mk_args, sz_ty0, sz_e0, tmsC, List.append_nil, List.length_cons, List.length_nil]; omega
theorem sz_ms1 (a : Tm) : szL (tmsC [a]) = szL (tmC a) := by rw [tmsC, tmsC, List.append_nil]
theorem sz_ms2 (a b : Tm) : szL (tmsC [a, b]) = szL (tmC a) + szL (tmC b) := by rw [tmsC, szL_append, sz_ms1]
theorem con_tyInt : Con Try.prog 161 [] [.ag (tyC (.mk 1 []))] := by
  refine con_run Try.func161 rfl rfl (by simp [Try.ntmps161]) ?_
  simp only [argT, argA, argAs, s0M, numT, flatM, packM, AS.kl, eatM, mkR, flatD, packA, retA, List.headD_cons, List.tail_cons, fQ, qLp, tysD, tmsD, strsD, intsD, rowD, xRet, rPs, xRes, flatA, rD, rDs, eq_self, true_or, xRun, vE, vP, vSub, vLoad, vFld, vIdx, vBin, vBinT, vEqA, shp, isAg, isBo, bvA, vEqB, vMax, cellsA, eqAV, eqAVs, shpOk, vNot, vLen, vChr, vExt, vBuild, vCut, vSlc, vCnv, vRow, vStore, vStE, primD, primDs, AS.setO, AV.unsp, AV.unsps, unspT, unspB, vApp, apP, apC, isCl, isCutO, vMake, iOf, bad, xFill, appL, appR, ixL, ixH, isB, bv, gT, gW, gN, gV, isU, isPick, pkC, pkA, pkB, isCall, popTo, AS.pt, AS.kn, AS.ev, AS.box, AS.setb, AS.mk', AS.owf, AS.rd, kill, look, cav, avB, avO, setRowG, AV.cells, AV.whole, AV.one, cD, cDs, eatsOf, dpOf, td0, td1, td2, td3, td4, td5, td6, Option.bind, Option.getD, Option.map, Option.isSome, List.map, List.take, List.drop, List.length, List.getElem?_cons_zero, List.getElem?_cons_succ, List.getElem?_nil, List.set, List.flatMap, List.foldr, List.all, List.replicate, List.mem_cons, List.not_mem_nil, List.nodup_cons, List.nodup_nil, List.nil_append, List.cons_append, List.append_nil, ↓reduceIte, Nat.reduceLT, Nat.reduceAdd, Nat.reduceMul, Nat.reduceLeDiff, Nat.reduceEqDiff, Nat.zero_add, Nat.add_zero, Nat.mul_zero, Nat.zero_mul, Nat.one_mul, Nat.mul_one, ne_eq, not_false_eq_true, not_true_eq_false, true_and, and_true, false_and, and_false, or_false, or_true, false_or, true_or, Bool.true_and, Bool.and_true, Bool.false_and, Bool.and_false, Bool.not_true, Bool.not_false, Bool.false_eq_true, Bool.true_eq_false, id_eq, reduceCtorEq, Int.toNat_natCast, Int.reduceLT, Int.reduceLE, Int.reduceEq, Int.reduceNe, Int.reduceAdd, Int.reduceSub, Int.reduceMul, Int.reduceNeg, Int.reduceToNat, Nat.reduceSub, Int.toNat_zero, Int.toNat_one, Int.natCast_zero, Int.le_refl, Int.natCast_nonneg, decide_true, decide_false, and_self, decide_eq_true_eq, decide_eq_false_iff_not, Nat.succ_ne_zero, Nat.zero_le, Nat.le_refl, tInt, tVar, tNode, tOp, tLam, ty0, e0, tmC_eq, tyC_eq, mk_kind, mk_name, mk_other, mk_n, mk_ty, mk_res, mk_args, tyk, tya, tysC, List.length_cons, List.length_nil, tmsC, Try.ntmps161, Try.results161]
theorem con_l3Int : Con Try.prog 153 [] [.ag (tyC (.mk 1 []))] := by
  refine con_run Try.func153 rfl rfl (by simp [Try.ntmps153]) ?_
  simp only [argT, argA, argAs, s0M, numT, flatM, packM, AS.kl, eatM, mkR, flatD, packA, retA, List.headD_cons, List.tail_cons, fQ, qLp, tysD, tmsD, strsD, intsD, rowD, xRet, rPs, xRes, flatA, rD, rDs, eq_self, true_or, xRun, vE, vP, vSub, vLoad, vFld, vIdx, vBin, vBinT, vEqA, shp, isAg, isBo, bvA, vEqB, vMax, cellsA, eqAV, eqAVs, shpOk, vNot, vLen, vChr, vExt, vBuild, vCut, vSlc, vCnv, vRow, vStore, vStE, primD, primDs, AS.setO, AV.unsp, AV.unsps, unspT, unspB, vApp, apP, apC, isCl, isCutO, vMake, iOf, bad, xFill, appL, appR, ixL, ixH, isB, bv, gT, gW, gN, gV, isU, isPick, pkC, pkA, pkB, isCall, popTo, AS.pt, AS.kn, AS.ev, AS.box, AS.setb, AS.mk', AS.owf, AS.rd, kill, look, cav, avB, avO, setRowG, AV.cells, AV.whole, AV.one, cD, cDs, eatsOf, dpOf, td0, td1, td2, td3, td4, td5, td6, Option.bind, Option.getD, Option.map, Option.isSome, List.map, List.take, List.drop, List.length, List.getElem?_cons_zero, List.getElem?_cons_succ, List.getElem?_nil, List.set, List.flatMap, List.foldr, List.all, List.replicate, List.mem_cons, List.not_mem_nil, List.nodup_cons, List.nodup_nil, List.nil_append, List.cons_append, List.append_nil, ↓reduceIte, Nat.reduceLT, Nat.reduceAdd, Nat.reduceMul, Nat.reduceLeDiff, Nat.reduceEqDiff, Nat.zero_add, Nat.add_zero, Nat.mul_zero, Nat.zero_mul, Nat.one_mul, Nat.mul_one, ne_eq, not_false_eq_true, not_true_eq_false, true_and, and_true, false_and, and_false, or_false, or_true, false_or, true_or, Bool.true_and, Bool.and_true, Bool.false_and, Bool.and_false, Bool.not_true, Bool.not_false, Bool.false_eq_true, Bool.true_eq_false, id_eq, reduceCtorEq, Int.toNat_natCast, Int.reduceLT, Int.reduceLE, Int.reduceEq, Int.reduceNe, Int.reduceAdd, Int.reduceSub, Int.reduceMul, Int.reduceNeg, Int.reduceToNat, Nat.reduceSub, Int.toNat_zero, Int.toNat_one, Int.natCast_zero, Int.le_refl, Int.natCast_nonneg, decide_true, decide_false, and_self, decide_eq_true_eq, decide_eq_false_iff_not, Nat.succ_ne_zero, Nat.zero_le, Nat.le_refl, tInt, tVar, tNode, tOp, tLam, ty0, e0, tmC_eq, tyC_eq, mk_kind, mk_name, mk_other, mk_n, mk_ty, mk_res, mk_args, tyk, tya, tysC, List.length_cons, List.length_nil, tmsC, Try.ntmps153, Try.results153]
end Go.Proofs.Ytepjbiffebbelaa
