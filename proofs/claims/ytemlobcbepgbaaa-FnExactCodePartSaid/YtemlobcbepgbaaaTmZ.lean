/-
  The nodes of terms: l5Fields and IsTerm of the reference, and what both sides say of a node.
-/
import Derived.Test.YtemlobcbepgbaaaTmW
namespace Go.Proofs.Ytemlobcbepgbaaa
open Go.RowKit
set_option linter.unusedVariables false
set_option linter.unusedSimpArgs false
set_option maxRecDepth 20000
def mostI (k : Int) : Int := if k = 2 then 10006 else if k = 3 then 1 else 0
def fldB (t : Tm) : Bool := (if t.kind = 6 then vTy t.ty else if t.kind = 9 then vTy t.ty else !vTy t.ty && zB t.ty) && ((if t.kind = 9 then vTy t.res else !vTy t.res && zB t.res) && (rgB 0 (mostI t.kind) t.n && nmF t.kind t.name t.other))
set_option maxHeartbeats 8000000 in
theorem con_l5Fields (t : Tm) (hz : szL (tmC t) ≤ 1000000000) : Con Try.prog 128 [.ag (tmC t)] [.one (.bool (fldB t))] := by
  have hV := con_ValidTyS t.ty (sz_partsE hz).1
  have hW := con_ValidTyS t.res (sz_partsE hz).2.1
  have hZ := con_l5Zero t.ty
  have hZ2 := con_l5Zero t.res
  have hL : Con Try.prog 98 [.one (.int t.n), .one (.int 0), .one (.int (mostI t.kind))] [.one (.bool (rgB 0 (mostI t.kind) t.n))] := con_l1In t.n 0 (mostI t.kind)
  have hN := con_l5Names t hz
  unfold fldB
  generalize vTy t.ty = v1 at *
  generalize vTy t.res = v2 at *
  generalize zB t.ty = z1 at *
  generalize zB t.res = z2 at *
  generalize rgB 0 (mostI t.kind) t.n = c at *
  generalize nmF t.kind t.name t.other = m at *
  obtain ⟨k, s, o, n, ⟨tk, ta⟩, ⟨rk, ra⟩, xs⟩ := t
  simp only [Tm.kind, Tm.n, Tm.ty, Tm.res, tmC, tyC] at hV hW hZ hZ2 hL hN ⊢
  clear hz
  rcases k_cases k with rfl | rfl | rfl | rfl | rfl | rfl | rfl | rfl | rfl | rfl | rfl | rfl | rfl | ⟨g1, g2, g3, g4, g5, g6, g7, g8, g9, g10, g11, g12, g13⟩
  case inr.inr.inr.inr.inr.inl =>
    simp only [mostI, if_true, if_false, Int.reduceEq] at hL ⊢
    refine con_run Try.func128 rfl rfl (by simp [Try.ntmps128]) ?_
    simp only [argT, argA, eq_self, xRun, vE, vP, vSub, vLoad, vFld, vBin, vBinT, isAg, isBo, isCutO, isB, bv, gT, gW, gN, gV, isU, isPick, pkC, pkA, isCall, AS.pt, AS.kn, AS.ev, AS.box, look, cav, avB, AV.cells, AV.whole, AV.one, td0, td3, Option.bind, Option.getD, Option.isSome, List.map, List.take, List.drop, List.length, List.getElem?_cons_zero, List.getElem?_cons_succ, List.all, List.nil_append, List.cons_append, ↓reduceIte, Nat.reduceLT, Nat.reduceAdd, Nat.reduceLeDiff, Nat.reduceEqDiff, Nat.zero_add, Nat.add_zero, ne_eq, not_false_eq_true, true_and, Bool.and_true, Bool.not_false, Bool.false_eq_true, Bool.true_eq_false, decide_true, and_self, Nat.succ_ne_zero, Try.ntmps128]
    refine sw_call hV rfl (aAs_ok ?_) ?_ (sw_run 200 _ _ _ ?_)
    · simp only [aAs, aA, aDs, aD, AS.ev, look, Option.getD, List.map, List.append_nil, ↓reduceIte, eq_self, and_self]
    · simp only [okR]
    cases v1
    case false => simp only [mkR, flatD, packA, retA, List.headD_cons, fQ, xRet, rPs, xRes, flatA, rD, eq_self, xRun, vE, vP, vBinT, isAg, isBo, bvA, vEqB, isCutO, isB, bv, gT, gW, gN, gV, isU, isPick, pkC, pkA, isCall, AS.pt, AS.kn, AS.ev, look, cav, eatsOf, td1, Option.bind, Option.getD, Option.isSome, List.map, List.getElem?_cons_zero, List.getElem?_cons_succ, List.nodup_nil, ↓reduceIte, Nat.reduceLT, Nat.reduceEqDiff, ne_eq, not_false_eq_true, or_false, Bool.false_and, Bool.not_false, Bool.false_eq_true, Bool.true_eq_false, reduceCtorEq, decide_true, and_self, Try.results128]
    simp only [mkR, flatD, packA, retA, List.headD_cons, eq_self, xRun, vE, vP, vBinT, isAg, isBo, bvA, vEqB, vNot, isCutO, isB, bv, gT, gW, gN, gV, isU, isPick, pkC, pkB, isCall, AS.pt, AS.kn, AS.ev, look, cav, td1, Option.bind, Option.getD, Option.isSome, List.getElem?_cons_zero, List.getElem?_cons_succ, ↓reduceIte, Nat.reduceLT, Nat.reduceEqDiff, ne_eq, not_true_eq_false, true_and, Bool.true_and, Bool.not_true, Bool.false_eq_true, decide_false, and_self]
    refine sw_drawn (.cons 0 true (.cons 1 true (.cons 2 true (.cons 3 true (.cons 4 true (.cons 5 false (.cons 6 true (.cons 7 true (.cons 8 true (.cons 9 true (.cons 10 true (.cons 11 true (.cons 12 true (.cons 13 true (.cons 14 false (.cons 15 true (.cons 16 true (.cons 17 true (.nil))))))))))))))))))) (by kernel_rfl) fQ_panic (by kernel_rfl) (sw_run 200 _ _ _ ?_)
    simp only [eq_self, xRun, vP, vSub, vLoad, vFld, vBin, vBinT, isAg, isBo, gN, isPick, isCall, AS.pt, AS.ev, look, cav, td0, td3, Option.getD, Option.isSome, List.take, List.drop, List.length, List.getElem?_cons_zero, List.getElem?_cons_succ, ↓reduceIte, Nat.reduceLT, Nat.reduceAdd, Nat.reduceLeDiff, Nat.reduceEqDiff, Nat.zero_add, Nat.add_zero, ne_eq, not_false_eq_true, true_and, Bool.false_eq_true, Int.reduceEq, decide_false, Nat.succ_ne_zero]
    refine sw_callD hW rfl (aAs_ok ?_) ?_ (sw_run 200 _ _ _ ?_)
    · simp only [aAs, aA, aDs, aD, AS.ev, look, Option.getD, List.map, List.append_nil, ↓reduceIte, eq_self, and_self]
    · simp only [okR]
    cases v2
    case true => simp only [mkR, flatD, packA, retA, List.headD_cons, fQ, xRet, rPs, xRes, flatA, rD, eq_self, xRun, vE, vP, vBinT, isAg, isBo, bvA, vEqB, isCutO, isB, bv, gT, gW, gN, gV, isU, isPick, pkC, pkA, isCall, AS.pt, AS.kn, AS.ev, look, cav, eatsOf, td1, Option.bind, Option.getD, Option.isSome, List.map, List.getElem?_cons_zero, List.getElem?_cons_succ, List.nodup_nil, ↓reduceIte, Nat.reduceLT, Nat.reduceEqDiff, ne_eq, not_false_eq_true, or_false, Bool.false_and, Bool.not_true, Bool.not_false, Bool.false_eq_true, Bool.true_eq_false, reduceCtorEq, decide_true, and_self, Try.results128]
    simp only [mkR, flatD, packA, retA, List.headD_cons, eq_self, xRun, vP, vSub, vLoad, vFld, vBin, vBinT, isAg, isBo, bvA, vEqB, isB, bv, gT, gW, gN, gV, isU, isPick, isCall, AS.pt, AS.kn, AS.ev, look, cav, td0, td1, td3, Option.bind, Option.getD, Option.isSome, List.take, List.drop, List.length, List.getElem?_cons_zero, List.getElem?_cons_succ, ↓reduceIte, Nat.reduceLT, Nat.reduceAdd, Nat.reduceLeDiff, Nat.reduceEqDiff, Nat.zero_add, Nat.add_zero, ne_eq, not_false_eq_true, not_true_eq_false, true_and, Bool.true_and, Bool.not_false, Bool.false_eq_true, Int.reduceEq, decide_true, decide_false, and_self, Nat.succ_ne_zero]
    refine sw_callD hZ2 rfl (aAs_ok ?_) ?_ (sw_run 200 _ _ _ ?_)
    · simp only [aAs, aA, aDs, aD, AS.ev, look, Option.getD, List.map, List.append_nil, ↓reduceIte, Nat.reduceEqDiff, eq_self, and_self]
    · simp only [okR]
    cases z2
    case false => simp only [mkR, flatD, packA, retA, List.headD_cons, fQ, xRet, rPs, xRes, flatA, rD, eq_self, xRun, vE, vP, vNot, isCutO, isB, bv, gT, gW, gN, gV, isU, isPick, pkC, pkA, pkB, isCall, AS.pt, AS.kn, AS.ev, look, cav, eatsOf, Option.bind, Option.getD, Option.isSome, List.map, List.getElem?_cons_zero, List.getElem?_cons_succ, List.nodup_nil, ↓reduceIte, Nat.reduceLT, Nat.reduceEqDiff, or_false, Bool.false_and, Bool.not_false, Bool.false_eq_true, reduceCtorEq, and_self, Try.results128]
    simp only [mkR, flatD, packA, retA, List.headD_cons, eq_self, xRun, vE, vP, vSub, vLoad, vFld, vBin, vBinT, isAg, isBo, vNot, isCutO, isB, bv, gT, gW, gN, gV, isU, isPick, pkC, pkA, pkB, isCall, AS.pt, AS.kn, AS.ev, look, cav, td0, td3, Option.bind, Option.getD, Option.isSome, List.getElem?_cons_zero, List.getElem?_cons_succ, ↓reduceIte, Nat.reduceLT, Nat.reduceEqDiff, Nat.zero_add, Nat.add_zero, ne_eq, not_false_eq_true, true_and, Bool.true_and, Bool.not_true, Bool.false_eq_true, Int.reduceEq, decide_false, and_self, Nat.succ_ne_zero]
    refine sw_call hL rfl (aAs_ok ?_) ?_ (sw_run 200 _ _ _ ?_)
    · simp only [aAs, aA, aD, AS.ev, look, cav, Option.getD, List.map, List.append_nil, ↓reduceIte, Nat.reduceEqDiff, eq_self, and_self]
    · simp only [okR]
    cases c
    case false => simp only [mkR, flatD, packA, retA, List.headD_cons, fQ, xRet, rPs, xRes, flatA, rD, eq_self, xRun, vE, vP, isCutO, isB, bv, gT, gW, gN, gV, isU, isPick, pkC, pkB, isCall, AS.pt, AS.kn, AS.ev, look, cav, eatsOf, Option.bind, Option.getD, Option.isSome, List.map, List.getElem?_cons_zero, List.getElem?_cons_succ, List.nodup_nil, ↓reduceIte, Nat.reduceLT, Nat.reduceEqDiff, or_false, Bool.false_and, Bool.not_true, Bool.false_eq_true, reduceCtorEq, and_self, Try.results128]
    simp only [mkR, flatD, packA, retA, List.headD_cons, eq_self, xRun, vE, vP, vSub, vLoad, isCutO, isB, bv, gT, gW, gN, gV, isU, isPick, isCall, AS.pt, AS.kn, AS.ev, look, td0, Option.bind, Option.getD, Option.isSome, List.take, List.drop, List.length, List.getElem?_cons_zero, List.getElem?_cons_succ, ↓reduceIte, Nat.reduceLT, Nat.reduceAdd, Nat.reduceEqDiff, Nat.zero_add, true_and, Bool.true_and, Bool.false_eq_true, and_self, Nat.le_refl]
    refine sw_call hN rfl (aAs_ok ?_) ?_ (sw_run 200 _ _ _ ?_)
    · simp only [aAs, aA, aDs, aD, AS.ev, look, Option.getD, List.map, List.nil_append, List.cons_append, List.append_nil, ↓reduceIte, Nat.reduceEqDiff, eq_self, and_self]
    · simp only [okR]
    simp only [mkR, flatD, packA, retA, List.headD_cons, fQ, xRet, rPs, xRes, flatA, rD, eq_self, xRun, vE, vP, isCutO, isB, bv, gN, isPick, pkC, pkA, isCall, AS.pt, AS.ev, look, eatsOf, Option.getD, List.map, List.nodup_nil, ↓reduceIte, Nat.reduceLT, Nat.reduceEqDiff, or_false, Bool.false_eq_true, reduceCtorEq, and_self, Try.results128]
  case inr.inr.inr.inr.inr.inr.inr.inr.inl =>
    simp only [mostI, if_true, if_false, Int.reduceEq] at hL ⊢
    refine con_run Try.func128 rfl rfl (by simp [Try.ntmps128]) ?_
    simp only [argT, argA, eq_self, xRun, vE, vP, vSub, vLoad, vFld, vBin, vBinT, isAg, isBo, isCutO, isB, bv, gT, gW, gN, gV, isU, isPick, pkC, pkB, isCall, AS.pt, AS.kn, AS.ev, AS.box, look, cav, avB, AV.cells, AV.whole, AV.one, td0, td3, Option.bind, Option.getD, Option.isSome, List.map, List.take, List.drop, List.length, List.getElem?_cons_zero, List.getElem?_cons_succ, List.all, List.nil_append, List.cons_append, ↓reduceIte, Nat.reduceLT, Nat.reduceAdd, Nat.reduceLeDiff, Nat.reduceEqDiff, Nat.zero_add, Nat.add_zero, ne_eq, not_false_eq_true, true_and, Bool.and_true, Bool.false_eq_true, Int.reduceEq, decide_true, decide_false, and_self, Nat.succ_ne_zero, Try.ntmps128]
    refine sw_call hV rfl (aAs_ok ?_) ?_ (sw_run 200 _ _ _ ?_)
    · simp only [aAs, aA, aDs, aD, AS.ev, look, Option.getD, List.map, List.append_nil, ↓reduceIte, eq_self, and_self]
    · simp only [okR]
    cases v1
    case false => simp only [mkR, flatD, packA, retA, List.headD_cons, fQ, xRet, rPs, xRes, flatA, rD, eq_self, xRun, vE, vP, vBinT, isAg, isBo, bvA, vEqB, isCutO, isB, bv, gT, gW, gN, gV, isU, isPick, pkC, pkA, isCall, AS.pt, AS.kn, AS.ev, look, cav, eatsOf, td1, Option.bind, Option.getD, Option.isSome, List.map, List.getElem?_cons_zero, List.getElem?_cons_succ, List.nodup_nil, ↓reduceIte, Nat.reduceLT, Nat.reduceEqDiff, ne_eq, not_false_eq_true, or_false, Bool.false_and, Bool.not_false, Bool.false_eq_true, Bool.true_eq_false, reduceCtorEq, decide_true, and_self, Try.results128]
    simp only [mkR, flatD, packA, retA, List.headD_cons, eq_self, xRun, vE, vP, vBinT, isAg, isBo, bvA, vEqB, vNot, isCutO, isB, bv, gT, gW, gN, gV, isU, isPick, pkC, pkB, isCall, AS.pt, AS.kn, AS.ev, look, cav, td1, Option.bind, Option.getD, Option.isSome, List.getElem?_cons_zero, List.getElem?_cons_succ, ↓reduceIte, Nat.reduceLT, Nat.reduceEqDiff, ne_eq, not_true_eq_false, true_and, Bool.true_and, Bool.not_true, Bool.false_eq_true, decide_false, and_self]
    refine sw_drawn (.cons 0 true (.cons 1 true (.cons 2 true (.cons 3 true (.cons 4 true (.cons 5 false (.cons 6 true (.cons 7 true (.cons 8 true (.cons 9 true (.cons 10 true (.cons 11 true (.cons 12 true (.cons 13 true (.cons 14 false (.cons 15 true (.cons 16 true (.cons 17 true (.nil))))))))))))))))))) (by kernel_rfl) fQ_panic (by kernel_rfl) (sw_run 200 _ _ _ ?_)
    simp only [eq_self, xRun, vP, vSub, vLoad, vFld, vBin, vBinT, isAg, isBo, gN, isPick, isCall, AS.pt, AS.ev, look, cav, td0, td3, Option.getD, Option.isSome, List.take, List.drop, List.length, List.getElem?_cons_zero, List.getElem?_cons_succ, ↓reduceIte, Nat.reduceLT, Nat.reduceAdd, Nat.reduceLeDiff, Nat.reduceEqDiff, Nat.zero_add, Nat.add_zero, ne_eq, not_false_eq_true, true_and, Bool.false_eq_true, decide_true, Nat.succ_ne_zero]
    refine sw_callD hW rfl (aAs_ok ?_) ?_ (sw_run 200 _ _ _ ?_)
    · simp only [aAs, aA, aDs, aD, AS.ev, look, Option.getD, List.map, List.append_nil, ↓reduceIte, eq_self, and_self]
    · simp only [okR]
    cases v2
    case false => simp only [mkR, flatD, packA, retA, List.headD_cons, fQ, xRet, rPs, xRes, flatA, rD, eq_self, xRun, vE, vP, vBinT, isAg, isBo, bvA, vEqB, isCutO, isB, bv, gT, gW, gN, gV, isU, isPick, pkC, pkA, isCall, AS.pt, AS.kn, AS.ev, look, cav, eatsOf, td1, Option.bind, Option.getD, Option.isSome, List.map, List.getElem?_cons_zero, List.getElem?_cons_succ, List.nodup_nil, ↓reduceIte, Nat.reduceLT, Nat.reduceEqDiff, ne_eq, not_false_eq_true, or_false, Bool.false_and, Bool.not_false, Bool.false_eq_true, Bool.true_eq_false, reduceCtorEq, decide_true, and_self, Try.results128]
    simp only [mkR, flatD, packA, retA, List.headD_cons, eq_self, xRun, vE, vP, vSub, vLoad, vFld, vBin, vBinT, isAg, isBo, bvA, vEqB, isCutO, isB, bv, gT, gW, gN, gV, isU, isPick, pkC, pkB, isCall, AS.pt, AS.kn, AS.ev, look, cav, td0, td1, td3, Option.bind, Option.getD, Option.isSome, List.getElem?_cons_zero, List.getElem?_cons_succ, ↓reduceIte, Nat.reduceLT, Nat.reduceEqDiff, Nat.zero_add, Nat.add_zero, ne_eq, not_false_eq_true, not_true_eq_false, true_and, Bool.true_and, Bool.not_true, Bool.false_eq_true, Int.reduceEq, decide_false, and_self, Nat.succ_ne_zero]
    refine sw_call hL rfl (aAs_ok ?_) ?_ (sw_run 200 _ _ _ ?_)
    · simp only [aAs, aA, aD, AS.ev, look, cav, Option.getD, List.map, List.append_nil, ↓reduceIte, Nat.reduceEqDiff, eq_self, and_self]
    · simp only [okR]
    cases c
    case false => simp only [mkR, flatD, packA, retA, List.headD_cons, fQ, xRet, rPs, xRes, flatA, rD, eq_self, xRun, vE, vP, isCutO, isB, bv, gT, gW, gN, gV, isU, isPick, pkC, pkB, isCall, AS.pt, AS.kn, AS.ev, look, cav, eatsOf, Option.bind, Option.getD, Option.isSome, List.map, List.getElem?_cons_zero, List.getElem?_cons_succ, List.nodup_nil, ↓reduceIte, Nat.reduceLT, Nat.reduceEqDiff, or_false, Bool.false_and, Bool.not_true, Bool.false_eq_true, reduceCtorEq, and_self, Try.results128]
    simp only [mkR, flatD, packA, retA, List.headD_cons, eq_self, xRun, vE, vP, vSub, vLoad, isCutO, isB, bv, gT, gW, gN, gV, isU, isPick, isCall, AS.pt, AS.kn, AS.ev, look, td0, Option.bind, Option.getD, Option.isSome, List.take, List.drop, List.length, List.getElem?_cons_zero, List.getElem?_cons_succ, ↓reduceIte, Nat.reduceLT, Nat.reduceAdd, Nat.reduceEqDiff, Nat.zero_add, true_and, Bool.true_and, Bool.false_eq_true, and_self, Nat.le_refl]
    refine sw_call hN rfl (aAs_ok ?_) ?_ (sw_run 200 _ _ _ ?_)
    · simp only [aAs, aA, aDs, aD, AS.ev, look, Option.getD, List.map, List.nil_append, List.cons_append, List.append_nil, ↓reduceIte, Nat.reduceEqDiff, eq_self, and_self]
    · simp only [okR]
    simp only [mkR, flatD, packA, retA, List.headD_cons, fQ, xRet, rPs, xRes, flatA, rD, eq_self, xRun, vE, vP, isCutO, isB, bv, gN, isPick, pkC, pkA, isCall, AS.pt, AS.ev, look, eatsOf, Option.getD, List.map, List.nodup_nil, ↓reduceIte, Nat.reduceLT, Nat.reduceEqDiff, or_false, Bool.false_eq_true, reduceCtorEq, and_self, Try.results128]
  case inr.inr.inr.inr.inr.inr.inr.inr.inr.inr.inr.inr.inr =>
    simp only [mostI, *, if_false] at hL ⊢
    refine con_run Try.func128 rfl rfl (by simp [Try.ntmps128]) ?_
    simp only [argT, argA, eq_self, xRun, vE, vP, vSub, vLoad, vFld, vBin, vBinT, isAg, isBo, isCutO, isB, bv, gT, gW, gN, gV, isU, isPick, pkC, pkB, isCall, AS.pt, AS.kn, AS.ev, AS.box, look, cav, avB, AV.cells, AV.whole, AV.one, td0, td3, Option.bind, Option.getD, Option.isSome, List.map, List.take, List.drop, List.length, List.getElem?_cons_zero, List.getElem?_cons_succ, List.all, List.nil_append, List.cons_append, ↓reduceIte, Nat.reduceLT, Nat.reduceAdd, Nat.reduceLeDiff, Nat.reduceEqDiff, Nat.zero_add, Nat.add_zero, ne_eq, not_false_eq_true, true_and, Bool.and_true, Bool.false_eq_true, decide_false, and_self, Nat.succ_ne_zero, *, Try.ntmps128]
    refine sw_call hV rfl (aAs_ok ?_) ?_ (sw_run 200 _ _ _ ?_)
    · simp only [aAs, aA, aDs, aD, AS.ev, look, Option.getD, List.map, List.append_nil, ↓reduceIte, eq_self, and_self]
    · simp only [okR]
    cases v1
    case true => simp only [mkR, flatD, packA, retA, List.headD_cons, fQ, xRet, rPs, xRes, flatA, rD, eq_self, xRun, vE, vP, vBinT, isAg, isBo, bvA, vEqB, isCutO, isB, bv, gT, gW, gN, gV, isU, isPick, pkC, pkA, isCall, AS.pt, AS.kn, AS.ev, look, cav, eatsOf, td1, Option.bind, Option.getD, Option.isSome, List.map, List.getElem?_cons_zero, List.getElem?_cons_succ, List.nodup_nil, ↓reduceIte, Nat.reduceLT, Nat.reduceEqDiff, ne_eq, not_false_eq_true, or_false, Bool.false_and, Bool.not_true, Bool.not_false, Bool.false_eq_true, Bool.true_eq_false, reduceCtorEq, decide_true, and_self, *, Try.results128]
    simp only [mkR, flatD, packA, retA, List.headD_cons, eq_self, xRun, vE, vP, vSub, vLoad, vFld, vBinT, isAg, isBo, bvA, vEqB, vNot, isCutO, isB, bv, gT, gW, gN, gV, isU, isPick, isCall, AS.pt, AS.kn, AS.ev, look, td0, td1, td3, Option.bind, Option.getD, Option.isSome, List.take, List.drop, List.length, List.getElem?_cons_zero, List.getElem?_cons_succ, ↓reduceIte, Nat.reduceLT, Nat.reduceAdd, Nat.reduceLeDiff, Nat.reduceEqDiff, Nat.zero_add, ne_eq, not_false_eq_true, not_true_eq_false, true_and, Bool.true_and, Bool.not_false, Bool.false_eq_true, decide_false, and_self, Nat.succ_ne_zero, *]
    refine sw_call hZ rfl (aAs_ok ?_) ?_ (sw_run 200 _ _ _ ?_)
    · simp only [aAs, aA, aDs, aD, AS.ev, look, Option.getD, List.map, List.append_nil, ↓reduceIte, Nat.reduceEqDiff, eq_self, and_self]
    · simp only [okR]
    cases z1
    case false => simp only [mkR, flatD, packA, retA, List.headD_cons, fQ, xRet, rPs, xRes, flatA, rD, eq_self, xRun, vE, vP, vNot, isCutO, isB, bv, gT, gW, gN, gV, isU, isPick, pkC, pkA, pkB, isCall, AS.pt, AS.kn, AS.ev, look, cav, eatsOf, Option.bind, Option.getD, Option.isSome, List.map, List.getElem?_cons_zero, List.getElem?_cons_succ, List.nodup_nil, ↓reduceIte, Nat.reduceLT, Nat.reduceEqDiff, or_false, Bool.false_and, Bool.not_false, Bool.false_eq_true, reduceCtorEq, and_self, *, Try.results128]
    simp only [mkR, flatD, packA, retA, List.headD_cons, eq_self, xRun, vE, vP, vNot, isCutO, isB, bv, gT, gW, gN, gV, isU, isPick, pkC, pkA, pkB, isCall, AS.pt, AS.kn, AS.ev, look, Option.bind, Option.getD, Option.isSome, List.getElem?_cons_zero, List.getElem?_cons_succ, ↓reduceIte, Nat.reduceLT, Nat.reduceEqDiff, true_and, Bool.true_and, Bool.not_true, Bool.false_eq_true, and_self, *]
    refine sw_drawn (.cons 0 true (.cons 1 true (.cons 2 true (.cons 3 true (.cons 4 true (.cons 5 false (.cons 6 true (.cons 7 true (.cons 8 true (.cons 9 true (.cons 10 true (.cons 11 true (.cons 12 true (.cons 13 true (.cons 14 false (.cons 15 true (.cons 16 true (.cons 17 true (.nil))))))))))))))))))) (by kernel_rfl) fQ_panic (by kernel_rfl) (sw_run 200 _ _ _ ?_)
    simp only [eq_self, xRun, vP, vSub, vLoad, vFld, vBin, vBinT, isAg, isBo, gN, isPick, isCall, AS.pt, AS.ev, look, cav, td0, td3, Option.getD, Option.isSome, List.take, List.drop, List.length, List.getElem?_cons_zero, List.getElem?_cons_succ, ↓reduceIte, Nat.reduceLT, Nat.reduceAdd, Nat.reduceLeDiff, Nat.reduceEqDiff, Nat.zero_add, Nat.add_zero, ne_eq, not_false_eq_true, true_and, Bool.false_eq_true, decide_false, Nat.succ_ne_zero, *]
    refine sw_callD hW rfl (aAs_ok ?_) ?_ (sw_run 200 _ _ _ ?_)
    · simp only [aAs, aA, aDs, aD, AS.ev, look, Option.getD, List.map, List.append_nil, ↓reduceIte, eq_self, and_self]
    · simp only [okR]
    cases v2
    case true => simp only [mkR, flatD, packA, retA, List.headD_cons, fQ, xRet, rPs, xRes, flatA, rD, eq_self, xRun, vE, vP, vBinT, isAg, isBo, bvA, vEqB, isCutO, isB, bv, gT, gW, gN, gV, isU, isPick, pkC, pkA, isCall, AS.pt, AS.kn, AS.ev, look, cav, eatsOf, td1, Option.bind, Option.getD, Option.isSome, List.map, List.getElem?_cons_zero, List.getElem?_cons_succ, List.nodup_nil, ↓reduceIte, Nat.reduceLT, Nat.reduceEqDiff, ne_eq, not_false_eq_true, or_false, Bool.false_and, Bool.not_true, Bool.not_false, Bool.false_eq_true, Bool.true_eq_false, reduceCtorEq, decide_true, and_self, *, Try.results128]
    simp only [mkR, flatD, packA, retA, List.headD_cons, eq_self, xRun, vP, vSub, vLoad, vFld, vBin, vBinT, isAg, isBo, bvA, vEqB, isB, bv, gT, gW, gN, gV, isU, isPick, isCall, AS.pt, AS.kn, AS.ev, look, cav, td0, td1, td3, Option.bind, Option.getD, Option.isSome, List.take, List.drop, List.length, List.getElem?_cons_zero, List.getElem?_cons_succ, ↓reduceIte, Nat.reduceLT, Nat.reduceAdd, Nat.reduceLeDiff, Nat.reduceEqDiff, Nat.zero_add, Nat.add_zero, ne_eq, not_false_eq_true, not_true_eq_false, true_and, Bool.true_and, Bool.not_false, Bool.false_eq_true, decide_true, decide_false, and_self, Nat.succ_ne_zero, *]
    refine sw_callD hZ2 rfl (aAs_ok ?_) ?_ (sw_run 200 _ _ _ ?_)
    · simp only [aAs, aA, aDs, aD, AS.ev, look, Option.getD, List.map, List.append_nil, ↓reduceIte, Nat.reduceEqDiff, eq_self, and_self]
    · simp only [okR]
    cases z2
    case false => simp only [mkR, flatD, packA, retA, List.headD_cons, fQ, xRet, rPs, xRes, flatA, rD, eq_self, xRun, vE, vP, vNot, isCutO, isB, bv, gT, gW, gN, gV, isU, isPick, pkC, pkA, pkB, isCall, AS.pt, AS.kn, AS.ev, look, cav, eatsOf, Option.bind, Option.getD, Option.isSome, List.map, List.getElem?_cons_zero, List.getElem?_cons_succ, List.nodup_nil, ↓reduceIte, Nat.reduceLT, Nat.reduceEqDiff, or_false, Bool.false_and, Bool.not_false, Bool.false_eq_true, reduceCtorEq, and_self, *, Try.results128]
    simp only [mkR, flatD, packA, retA, List.headD_cons, eq_self, xRun, vE, vP, vSub, vLoad, vFld, vBin, vBinT, isAg, isBo, vNot, isCutO, isB, bv, gT, gW, gN, gV, isU, isPick, pkC, pkA, pkB, isCall, AS.pt, AS.kn, AS.ev, look, cav, td0, td3, Option.bind, Option.getD, Option.isSome, List.getElem?_cons_zero, List.getElem?_cons_succ, ↓reduceIte, Nat.reduceLT, Nat.reduceEqDiff, Nat.zero_add, Nat.add_zero, ne_eq, not_false_eq_true, true_and, Bool.true_and, Bool.not_true, Bool.false_eq_true, decide_false, and_self, Nat.succ_ne_zero, *]
    refine sw_call hL rfl (aAs_ok ?_) ?_ (sw_run 200 _ _ _ ?_)
    · simp only [aAs, aA, aD, AS.ev, look, cav, Option.getD, List.map, List.append_nil, ↓reduceIte, Nat.reduceEqDiff, eq_self, and_self]
    · simp only [okR]
    cases c
    case false => simp only [mkR, flatD, packA, retA, List.headD_cons, fQ, xRet, rPs, xRes, flatA, rD, eq_self, xRun, vE, vP, isCutO, isB, bv, gT, gW, gN, gV, isU, isPick, pkC, pkB, isCall, AS.pt, AS.kn, AS.ev, look, cav, eatsOf, Option.bind, Option.getD, Option.isSome, List.map, List.getElem?_cons_zero, List.getElem?_cons_succ, List.nodup_nil, ↓reduceIte, Nat.reduceLT, Nat.reduceEqDiff, or_false, Bool.false_and, Bool.not_true, Bool.false_eq_true, reduceCtorEq, and_self, *, Try.results128]
    simp only [mkR, flatD, packA, retA, List.headD_cons, eq_self, xRun, vE, vP, vSub, vLoad, isCutO, isB, bv, gT, gW, gN, gV, isU, isPick, isCall, AS.pt, AS.kn, AS.ev, look, td0, Option.bind, Option.getD, Option.isSome, List.take, List.drop, List.length, List.getElem?_cons_zero, List.getElem?_cons_succ, ↓reduceIte, Nat.reduceLT, Nat.reduceAdd, Nat.reduceEqDiff, Nat.zero_add, true_and, Bool.true_and, Bool.false_eq_true, and_self, Nat.le_refl, *]
    refine sw_call hN rfl (aAs_ok ?_) ?_ (sw_run 200 _ _ _ ?_)
    · simp only [aAs, aA, aDs, aD, AS.ev, look, Option.getD, List.map, List.nil_append, List.cons_append, List.append_nil, ↓reduceIte, Nat.reduceEqDiff, eq_self, and_self]
    · simp only [okR]
    simp only [mkR, flatD, packA, retA, List.headD_cons, fQ, xRet, rPs, xRes, flatA, rD, eq_self, xRun, vE, vP, isCutO, isB, bv, gN, isPick, pkC, pkA, isCall, AS.pt, AS.ev, look, eatsOf, Option.getD, List.map, List.nodup_nil, ↓reduceIte, Nat.reduceLT, Nat.reduceEqDiff, or_false, Bool.false_eq_true, reduceCtorEq, and_self, *, Try.results128]
  all_goals
    simp only [mostI, if_true, if_false, Int.reduceEq] at hL ⊢
    refine con_run Try.func128 rfl rfl (by simp [Try.ntmps128]) ?_
    simp only [argT, argA, eq_self, xRun, vE, vP, vSub, vLoad, vFld, vBin, vBinT, isAg, isBo, isCutO, isB, bv, gT, gW, gN, gV, isU, isPick, pkC, pkB, isCall, AS.pt, AS.kn, AS.ev, AS.box, look, cav, avB, AV.cells, AV.whole, AV.one, td0, td3, Option.bind, Option.getD, Option.isSome, List.map, List.take, List.drop, List.length, List.getElem?_cons_zero, List.getElem?_cons_succ, List.all, List.nil_append, List.cons_append, ↓reduceIte, Nat.reduceLT, Nat.reduceAdd, Nat.reduceLeDiff, Nat.reduceEqDiff, Nat.zero_add, Nat.add_zero, ne_eq, not_false_eq_true, true_and, Bool.and_true, Bool.false_eq_true, Int.reduceEq, decide_false, and_self, Nat.succ_ne_zero, Try.ntmps128]
    refine sw_call hV rfl (aAs_ok ?_) ?_ (sw_run 200 _ _ _ ?_)
    · simp only [aAs, aA, aDs, aD, AS.ev, look, Option.getD, List.map, List.append_nil, ↓reduceIte, eq_self, and_self]
    · simp only [okR]
    cases v1
    case true => simp only [mkR, flatD, packA, retA, List.headD_cons, fQ, xRet, rPs, xRes, flatA, rD, eq_self, xRun, vE, vP, vBinT, isAg, isBo, bvA, vEqB, isCutO, isB, bv, gT, gW, gN, gV, isU, isPick, pkC, pkA, isCall, AS.pt, AS.kn, AS.ev, look, cav, eatsOf, td1, Option.bind, Option.getD, Option.isSome, List.map, List.getElem?_cons_zero, List.getElem?_cons_succ, List.nodup_nil, ↓reduceIte, Nat.reduceLT, Nat.reduceEqDiff, ne_eq, not_false_eq_true, or_false, Bool.false_and, Bool.not_true, Bool.not_false, Bool.false_eq_true, Bool.true_eq_false, reduceCtorEq, decide_true, and_self, Try.results128]
    simp only [mkR, flatD, packA, retA, List.headD_cons, eq_self, xRun, vE, vP, vSub, vLoad, vFld, vBinT, isAg, isBo, bvA, vEqB, vNot, isCutO, isB, bv, gT, gW, gN, gV, isU, isPick, isCall, AS.pt, AS.kn, AS.ev, look, td0, td1, td3, Option.bind, Option.getD, Option.isSome, List.take, List.drop, List.length, List.getElem?_cons_zero, List.getElem?_cons_succ, ↓reduceIte, Nat.reduceLT, Nat.reduceAdd, Nat.reduceLeDiff, Nat.reduceEqDiff, Nat.zero_add, ne_eq, not_false_eq_true, not_true_eq_false, true_and, Bool.true_and, Bool.not_false, Bool.false_eq_true, decide_false, and_self, Nat.succ_ne_zero]
    refine sw_call hZ rfl (aAs_ok ?_) ?_ (sw_run 200 _ _ _ ?_)
    · simp only [aAs, aA, aDs, aD, AS.ev, look, Option.getD, List.map, List.append_nil, ↓reduceIte, Nat.reduceEqDiff, eq_self, and_self]
    · simp only [okR]
    cases z1
    case false => simp only [mkR, flatD, packA, retA, List.headD_cons, fQ, xRet, rPs, xRes, flatA, rD, eq_self, xRun, vE, vP, vNot, isCutO, isB, bv, gT, gW, gN, gV, isU, isPick, pkC, pkA, pkB, isCall, AS.pt, AS.kn, AS.ev, look, cav, eatsOf, Option.bind, Option.getD, Option.isSome, List.map, List.getElem?_cons_zero, List.getElem?_cons_succ, List.nodup_nil, ↓reduceIte, Nat.reduceLT, Nat.reduceEqDiff, or_false, Bool.false_and, Bool.not_false, Bool.false_eq_true, reduceCtorEq, and_self, Try.results128]
    simp only [mkR, flatD, packA, retA, List.headD_cons, eq_self, xRun, vE, vP, vNot, isCutO, isB, bv, gT, gW, gN, gV, isU, isPick, pkC, pkA, pkB, isCall, AS.pt, AS.kn, AS.ev, look, Option.bind, Option.getD, Option.isSome, List.getElem?_cons_zero, List.getElem?_cons_succ, ↓reduceIte, Nat.reduceLT, Nat.reduceEqDiff, true_and, Bool.true_and, Bool.not_true, Bool.false_eq_true, and_self]
    refine sw_drawn (.cons 0 true (.cons 1 true (.cons 2 true (.cons 3 true (.cons 4 true (.cons 5 false (.cons 6 true (.cons 7 true (.cons 8 true (.cons 9 true (.cons 10 true (.cons 11 true (.cons 12 true (.cons 13 true (.cons 14 false (.cons 15 true (.cons 16 true (.cons 17 true (.nil))))))))))))))))))) (by kernel_rfl) fQ_panic (by kernel_rfl) (sw_run 200 _ _ _ ?_)
    simp only [eq_self, xRun, vP, vSub, vLoad, vFld, vBin, vBinT, isAg, isBo, gN, isPick, isCall, AS.pt, AS.ev, look, cav, td0, td3, Option.getD, Option.isSome, List.take, List.drop, List.length, List.getElem?_cons_zero, List.getElem?_cons_succ, ↓reduceIte, Nat.reduceLT, Nat.reduceAdd, Nat.reduceLeDiff, Nat.reduceEqDiff, Nat.zero_add, Nat.add_zero, ne_eq, not_false_eq_true, true_and, Bool.false_eq_true, Int.reduceEq, decide_false, Nat.succ_ne_zero]
    refine sw_callD hW rfl (aAs_ok ?_) ?_ (sw_run 200 _ _ _ ?_)
    · simp only [aAs, aA, aDs, aD, AS.ev, look, Option.getD, List.map, List.append_nil, ↓reduceIte, eq_self, and_self]
    · simp only [okR]
    cases v2
    case true => simp only [mkR, flatD, packA, retA, List.headD_cons, fQ, xRet, rPs, xRes, flatA, rD, eq_self, xRun, vE, vP, vBinT, isAg, isBo, bvA, vEqB, isCutO, isB, bv, gT, gW, gN, gV, isU, isPick, pkC, pkA, isCall, AS.pt, AS.kn, AS.ev, look, cav, eatsOf, td1, Option.bind, Option.getD, Option.isSome, List.map, List.getElem?_cons_zero, List.getElem?_cons_succ, List.nodup_nil, ↓reduceIte, Nat.reduceLT, Nat.reduceEqDiff, ne_eq, not_false_eq_true, or_false, Bool.false_and, Bool.not_true, Bool.not_false, Bool.false_eq_true, Bool.true_eq_false, reduceCtorEq, decide_true, and_self, Try.results128]
    simp only [mkR, flatD, packA, retA, List.headD_cons, eq_self, xRun, vP, vSub, vLoad, vFld, vBin, vBinT, isAg, isBo, bvA, vEqB, isB, bv, gT, gW, gN, gV, isU, isPick, isCall, AS.pt, AS.kn, AS.ev, look, cav, td0, td1, td3, Option.bind, Option.getD, Option.isSome, List.take, List.drop, List.length, List.getElem?_cons_zero, List.getElem?_cons_succ, ↓reduceIte, Nat.reduceLT, Nat.reduceAdd, Nat.reduceLeDiff, Nat.reduceEqDiff, Nat.zero_add, Nat.add_zero, ne_eq, not_false_eq_true, not_true_eq_false, true_and, Bool.true_and, Bool.not_false, Bool.false_eq_true, Int.reduceEq, decide_true, decide_false, and_self, Nat.succ_ne_zero]
    refine sw_callD hZ2 rfl (aAs_ok ?_) ?_ (sw_run 200 _ _ _ ?_)
    · simp only [aAs, aA, aDs, aD, AS.ev, look, Option.getD, List.map, List.append_nil, ↓reduceIte, Nat.reduceEqDiff, eq_self, and_self]
    · simp only [okR]
    cases z2
    case false => simp only [mkR, flatD, packA, retA, List.headD_cons, fQ, xRet, rPs, xRes, flatA, rD, eq_self, xRun, vE, vP, vNot, isCutO, isB, bv, gT, gW, gN, gV, isU, isPick, pkC, pkA, pkB, isCall, AS.pt, AS.kn, AS.ev, look, cav, eatsOf, Option.bind, Option.getD, Option.isSome, List.map, List.getElem?_cons_zero, List.getElem?_cons_succ, List.nodup_nil, ↓reduceIte, Nat.reduceLT, Nat.reduceEqDiff, or_false, Bool.false_and, Bool.not_false, Bool.false_eq_true, reduceCtorEq, and_self, Try.results128]
    simp only [mkR, flatD, packA, retA, List.headD_cons, eq_self, xRun, vE, vP, vSub, vLoad, vFld, vBin, vBinT, isAg, isBo, vNot, isCutO, isB, bv, gT, gW, gN, gV, isU, isPick, pkC, pkA, pkB, isCall, AS.pt, AS.kn, AS.ev, look, cav, td0, td3, Option.bind, Option.getD, Option.isSome, List.getElem?_cons_zero, List.getElem?_cons_succ, ↓reduceIte, Nat.reduceLT, Nat.reduceEqDiff, Nat.zero_add, Nat.add_zero, ne_eq, not_false_eq_true, true_and, Bool.true_and, Bool.not_true, Bool.false_eq_true, Int.reduceEq, decide_true, decide_false, and_self, Nat.succ_ne_zero]
    refine sw_call hL rfl (aAs_ok ?_) ?_ (sw_run 200 _ _ _ ?_)
    · simp only [aAs, aA, aD, AS.ev, look, cav, Option.getD, List.map, List.append_nil, ↓reduceIte, Nat.reduceEqDiff, eq_self, and_self]
    · simp only [okR]
    cases c
    case false => simp only [mkR, flatD, packA, retA, List.headD_cons, fQ, xRet, rPs, xRes, flatA, rD, eq_self, xRun, vE, vP, isCutO, isB, bv, gT, gW, gN, gV, isU, isPick, pkC, pkB, isCall, AS.pt, AS.kn, AS.ev, look, cav, eatsOf, Option.bind, Option.getD, Option.isSome, List.map, List.getElem?_cons_zero, List.getElem?_cons_succ, List.nodup_nil, ↓reduceIte, Nat.reduceLT, Nat.reduceEqDiff, or_false, Bool.false_and, Bool.not_true, Bool.false_eq_true, reduceCtorEq, and_self, Try.results128]
    simp only [mkR, flatD, packA, retA, List.headD_cons, eq_self, xRun, vE, vP, vSub, vLoad, isCutO, isB, bv, gT, gW, gN, gV, isU, isPick, isCall, AS.pt, AS.kn, AS.ev, look, td0, Option.bind, Option.getD, Option.isSome, List.take, List.drop, List.length, List.getElem?_cons_zero, List.getElem?_cons_succ, ↓reduceIte, Nat.reduceLT, Nat.reduceAdd, Nat.reduceEqDiff, Nat.zero_add, true_and, Bool.true_and, Bool.false_eq_true, and_self, Nat.le_refl]
    refine sw_call hN rfl (aAs_ok ?_) ?_ (sw_run 200 _ _ _ ?_)
    · simp only [aAs, aA, aDs, aD, AS.ev, look, Option.getD, List.map, List.nil_append, List.cons_append, List.append_nil, ↓reduceIte, Nat.reduceEqDiff, eq_self, and_self]
    · simp only [okR]
    simp only [mkR, flatD, packA, retA, List.headD_cons, fQ, xRet, rPs, xRes, flatA, rD, eq_self, xRun, vE, vP, isCutO, isB, bv, gN, isPick, pkC, pkA, isCall, AS.pt, AS.ev, look, eatsOf, Option.getD, List.map, List.nodup_nil, ↓reduceIte, Nat.reduceLT, Nat.reduceEqDiff, or_false, Bool.false_eq_true, reduceCtorEq, and_self, Try.results128]
theorem zB_v (t : Ty) : (!vTy t && zB t) = zB t := by
  obtain ⟨k, xs⟩ := t
  by_cases h : k = 0 ∧ xs = []
  · obtain ⟨rfl, rfl⟩ := h
    have h1 : vTy (.mk 0 []) = false := by simp [vTy, formT, formTs, shB]
    rw [h1]; rfl
  · have h2 : zB (.mk k xs) = false := by
      show (decide (k = 0) && decide ((xs.length : Int) = 0)) = false
      by_cases h3 : k = 0
      · have : xs ≠ [] := fun e => h ⟨h3, e⟩
        have h4 : xs.length ≠ 0 := fun e => this (List.length_eq_zero_iff.mp e)
        rw [decide_eq_false (show ¬ (xs.length : Int) = 0 by omega), Bool.and_false]
      · rw [decide_eq_false h3, Bool.false_and]
    rw [h2, Bool.and_false]
mutual
theorem eqTy_refl : ∀ t : Ty, eqTy t t = true
  | .mk k xs => by rw [eqTy, eqTys_refl xs, decide_eq_true rfl]; rfl
theorem eqTys_refl : ∀ xs : List Ty, eqTys xs xs = true
  | [] => by rw [eqTys]
  | x :: xs => by rw [eqTys, eqTy_refl x, eqTys_refl xs]; rfl
end
theorem eqTy_zero (t : Ty) : eqTy t (.mk 0 []) = zB t := by
  obtain ⟨k, xs⟩ := t
  show eqTy (.mk k xs) (.mk 0 []) = (decide (k = 0) && decide ((xs.length : Int) = 0))
  rw [eqTy]
  cases xs with
  | nil => rw [eqTys]; rfl
  | cons x xs =>
    rw [eqTys, decide_eq_false (show ¬ (((x :: xs).length : Nat) : Int) = 0 by rw [List.length_cons]; omega)]
theorem rg_zero (n : Int) : decide (n = 0) = rgB 0 0 n := by
  unfold rgB
  rcases (by omega : n < 0 ∨ n = 0 ∨ 0 < n) with h | h | h
  · rw [decide_eq_false (by omega), decide_eq_false (show ¬ 0 ≤ n by omega)]; rfl
  · subst h; rfl
  · rw [decide_eq_false (by omega), decide_eq_false (show ¬ n ≤ 0 by omega), Bool.and_false]
end Go.Proofs.Ytemlobcbepgbaaa
