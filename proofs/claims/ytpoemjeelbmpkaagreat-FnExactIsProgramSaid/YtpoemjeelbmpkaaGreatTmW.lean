/-
  The nodes of terms, of both sides: isNamed, fields, forms; IsTerm.
-/
import Derived.Test.YtpoemjeelbmpkaaGreatTmV
namespace Go.Proofs.YtpoemjeelbmpkaaGreat
open Go.RowKit
set_option linter.unusedVariables false
set_option linter.unusedSimpArgs false
set_option maxRecDepth 20000
def rgB (lo hi n : Int) : Bool := decide (lo ≤ n) && decide (n ≤ hi)
def isNm (t : Tm) : Bool := if t.kind = 1 then nmB t.name else if t.kind = 2 then rgB 0 10006 t.n else if t.kind = 3 then rgB 0 1 t.n else if t.kind = 4 then decide (0 < opAr t.name) else if t.kind = 6 then nmB t.name && vTy t.ty else if t.kind = 8 then nmB t.name else if t.kind = 9 then nmB t.name && (nmB t.other && (!decide (t.name = t.other) && (vTy t.ty && vTy t.res))) else rgB 1 13 t.kind
theorem con_isNumR (n : Int) : Con Tryz.prog 105 [.one (.int n)] [.one (.bool (rgB 0 10006 n))] := by
  have h := con_within n 0 10006
  refine con_run Tryz.func105 rfl rfl (by simp [Tryz.ntmps105]) ?_
  simp only [argT, argA, eq_self, xRun, vE, vP, isCutO, gN, isPick, isCall, AS.pt, AS.ev, look, cav, avB, td0, td1, td2, td3, td4, td5, td6, Option.getD, ↓reduceIte, Nat.reduceLT, true_and, Bool.false_eq_true, reduceCtorEq, Tryz.ntmps105]
  refine sw_call h rfl (aAs_ok ?_) ?_ (sw_run 200 _ _ _ ?_)
  · simp only [aAs, aA, aD, AS.ev, look, cav, Option.getD, List.map, List.append_nil, ↓reduceIte, eq_self, and_self]
  · simp only [okR]
  simp only [mkR, flatD, packA, retA, List.headD_cons, fQ, xRet, rPs, xRes, flatA, rD, eq_self, xRun, vE, vP, isCutO, gN, isPick, isCall, AS.pt, AS.ev, look, eatsOf, td0, td1, td2, td3, td4, td5, td6, Option.getD, List.map, List.nodup_nil, ↓reduceIte, Nat.reduceLT, or_false, Bool.false_eq_true, reduceCtorEq, and_self, rgB, Tryz.results105]
theorem con_isNamed (t : Tm) (hz : szL (tmC t) ≤ 1000000000) : Con Tryz.prog 86 [.ag (tmC t)] [.one (.bool (isNm t))] := by
  have hO := con_OpArI t.name
  have hN := con_IsNameI t.name (sz_so hz).1
  have hM := con_IsNameI t.other (sz_so hz).2
  have hV := con_ValidTyI t.ty (sz_partsE hz).1
  have hW := con_ValidTyI t.res (sz_partsE hz).2.1
  have hI := con_isNumR t.n
  have hJ : Con Tryz.prog 46 [.one (.int t.n), .one (.int 0), .one (.int 1)] [.one (.bool (rgB 0 1 t.n))] := con_within t.n 0 1
  have hK : Con Tryz.prog 46 [.one (.int t.kind), .one (.int 1), .one (.int 13)] [.one (.bool (rgB 1 13 t.kind))] := con_within t.kind 1 13
  unfold isNm
  generalize vTy t.ty = v at *
  generalize vTy t.res = v2 at *
  generalize nmB t.name = a at *
  generalize nmB t.other = b at *
  generalize rgB 0 10006 t.n = c at *
  generalize rgB 0 1 t.n = c2 at *
  generalize rgB 1 13 t.kind = c3 at *
  generalize opAr t.name = e at *
  obtain ⟨k, s, o, n, ⟨tk, ta⟩, ⟨rk, ra⟩, xs⟩ := t
  simp only [Tm.kind, Tm.name, Tm.other, Tm.n, Tm.ty, Tm.res, tyC] at hO hN hM hV hW hI hJ hK ⊢
  clear hz
  rcases k_cases k with rfl | rfl | rfl | rfl | rfl | rfl | rfl | rfl | rfl | rfl | rfl | rfl | rfl | ⟨g1, g2, g3, g4, g5, g6, g7, g8, g9, g10, g11, g12, g13⟩
  case inl | inr.inr.inr.inr.inr.inr.inr.inl =>
    simp only [if_true, if_false, Int.reduceEq]
    refine con_run Tryz.func86 rfl rfl (by simp [Tryz.ntmps86]) ?_
    simp only [argT, argA, eq_self, xRun, vE, vP, vSub, vLoad, vFld, vBin, vBinT, isAg, isBo, isCutO, isB, bv, gN, isPick, isCall, AS.pt, AS.ev, AS.box, look, cav, avB, AV.cells, AV.whole, AV.one, td0, td1, td2, td3, td4, td5, td6, Option.getD, Option.isSome, List.map, List.getElem?_cons_zero, List.getElem?_cons_succ, List.all, List.nil_append, List.cons_append, ↓reduceIte, Nat.reduceLT, Nat.reduceEqDiff, Nat.zero_add, Nat.add_zero, ne_eq, not_false_eq_true, true_and, Bool.and_true, Bool.false_eq_true, Int.reduceEq, decide_true, decide_false, Nat.succ_ne_zero, tmC, tyC, Tryz.ntmps86]
    refine sw_call hN rfl (aAs_ok ?_) ?_ (sw_run 200 _ _ _ ?_)
    · simp only [aAs, aA, aD, AS.ev, look, Option.getD, List.map, List.append_nil, ↓reduceIte, eq_self, and_self]
    · simp only [okR]
    simp only [mkR, flatD, packA, retA, List.headD_cons, fQ, xRet, rPs, xRes, flatA, rD, eq_self, xRun, vE, vP, isCutO, gN, isPick, isCall, AS.pt, AS.ev, look, eatsOf, td0, td1, td2, td3, td4, td5, td6, Option.getD, List.map, List.nodup_nil, ↓reduceIte, Nat.reduceLT, or_false, Bool.false_eq_true, reduceCtorEq, and_self, Tryz.results86]
  case inr.inl =>
    simp only [if_true, if_false, Int.reduceEq]
    refine con_run Tryz.func86 rfl rfl (by simp [Tryz.ntmps86]) ?_
    simp only [argT, argA, eq_self, xRun, vE, vP, vSub, vLoad, vFld, vBin, vBinT, isAg, isBo, isCutO, isB, bv, gN, isPick, isCall, AS.pt, AS.ev, AS.box, look, cav, avB, AV.cells, AV.whole, AV.one, td0, td1, td2, td3, td4, td5, td6, Option.getD, Option.isSome, List.map, List.getElem?_cons_zero, List.getElem?_cons_succ, List.all, List.nil_append, List.cons_append, ↓reduceIte, Nat.reduceLT, Nat.reduceEqDiff, Nat.zero_add, Nat.add_zero, ne_eq, not_false_eq_true, true_and, Bool.and_true, Bool.false_eq_true, Int.reduceEq, decide_true, decide_false, Nat.succ_ne_zero, tmC, tyC, Tryz.ntmps86]
    refine sw_call hI rfl (aAs_ok ?_) ?_ (sw_run 200 _ _ _ ?_)
    · simp only [aAs, aA, aD, AS.ev, look, Option.getD, List.map, List.append_nil, ↓reduceIte, eq_self, and_self]
    · simp only [okR]
    simp only [mkR, flatD, packA, retA, List.headD_cons, fQ, xRet, rPs, xRes, flatA, rD, eq_self, xRun, vE, vP, isCutO, gN, isPick, isCall, AS.pt, AS.ev, look, eatsOf, td0, td1, td2, td3, td4, td5, td6, Option.getD, List.map, List.nodup_nil, ↓reduceIte, Nat.reduceLT, or_false, Bool.false_eq_true, reduceCtorEq, and_self, Tryz.results86]
  case inr.inr.inl =>
    simp only [if_true, if_false, Int.reduceEq]
    refine con_run Tryz.func86 rfl rfl (by simp [Tryz.ntmps86]) ?_
    simp only [argT, argA, eq_self, xRun, vE, vP, vSub, vLoad, vFld, vBin, vBinT, isAg, isBo, isCutO, isB, bv, gN, isPick, isCall, AS.pt, AS.ev, AS.box, look, cav, avB, AV.cells, AV.whole, AV.one, td0, td1, td2, td3, td4, td5, td6, Option.getD, Option.isSome, List.map, List.getElem?_cons_zero, List.getElem?_cons_succ, List.all, List.nil_append, List.cons_append, ↓reduceIte, Nat.reduceLT, Nat.reduceEqDiff, Nat.zero_add, Nat.add_zero, ne_eq, not_false_eq_true, true_and, Bool.and_true, Bool.false_eq_true, Int.reduceEq, decide_true, decide_false, Nat.succ_ne_zero, tmC, tyC, Tryz.ntmps86]
    refine sw_call hJ rfl (aAs_ok ?_) ?_ (sw_run 200 _ _ _ ?_)
    · simp only [aAs, aA, aD, AS.ev, look, cav, Option.getD, List.map, List.append_nil, ↓reduceIte, eq_self, and_self]
    · simp only [okR]
    simp only [mkR, flatD, packA, retA, List.headD_cons, fQ, xRet, rPs, xRes, flatA, rD, eq_self, xRun, vE, vP, isCutO, gN, isPick, isCall, AS.pt, AS.ev, look, eatsOf, td0, td1, td2, td3, td4, td5, td6, Option.getD, List.map, List.nodup_nil, ↓reduceIte, Nat.reduceLT, or_false, Bool.false_eq_true, reduceCtorEq, and_self, Tryz.results86]
  case inr.inr.inr.inl =>
    simp only [if_true, if_false, Int.reduceEq]
    refine con_run Tryz.func86 rfl rfl (by simp [Tryz.ntmps86]) ?_
    simp only [argT, argA, eq_self, xRun, vE, vP, vSub, vLoad, vFld, vBin, vBinT, isAg, isBo, isCutO, isB, bv, gN, isPick, isCall, AS.pt, AS.ev, AS.box, look, cav, avB, AV.cells, AV.whole, AV.one, td0, td1, td2, td3, td4, td5, td6, Option.getD, Option.isSome, List.map, List.getElem?_cons_zero, List.getElem?_cons_succ, List.all, List.nil_append, List.cons_append, ↓reduceIte, Nat.reduceLT, Nat.reduceEqDiff, Nat.zero_add, Nat.add_zero, ne_eq, not_false_eq_true, true_and, Bool.and_true, Bool.false_eq_true, Int.reduceEq, decide_true, decide_false, Nat.succ_ne_zero, tmC, tyC, Tryz.ntmps86]
    refine sw_call hO rfl (aAs_ok ?_) ?_ (sw_run 200 _ _ _ ?_)
    · simp only [aAs, aA, aD, AS.ev, look, Option.getD, List.map, List.append_nil, ↓reduceIte, eq_self, and_self]
    · simp only [okR]
    rcases pc ((0 : Int) < e) with h | h
    all_goals simp only [mkR, flatD, packA, retA, List.headD_cons, fQ, xRet, rPs, xRes, flatA, rD, eq_self, xRun, vE, vP, vBin, vBinT, isAg, isBo, isCutO, gN, isPick, isCall, AS.pt, AS.ev, look, cav, eatsOf, td0, td1, td2, td3, td4, td5, td6, Option.getD, List.map, List.nodup_nil, ↓reduceIte, Nat.reduceLT, or_false, Bool.false_eq_true, reduceCtorEq, decide_true, decide_false, and_self, *, Tryz.results86]
  case inr.inr.inr.inr.inr.inl =>
    simp only [if_true, if_false, Int.reduceEq]
    refine con_run Tryz.func86 rfl rfl (by simp [Tryz.ntmps86]) ?_
    simp only [argT, argA, eq_self, xRun, vE, vP, vSub, vLoad, vFld, vBin, vBinT, isAg, isBo, isCutO, isB, bv, gN, isPick, isCall, AS.pt, AS.ev, AS.box, look, cav, avB, AV.cells, AV.whole, AV.one, td0, td1, td2, td3, td4, td5, td6, Option.getD, Option.isSome, List.map, List.getElem?_cons_zero, List.getElem?_cons_succ, List.all, List.nil_append, List.cons_append, ↓reduceIte, Nat.reduceLT, Nat.reduceEqDiff, Nat.zero_add, Nat.add_zero, ne_eq, not_false_eq_true, true_and, Bool.and_true, Bool.false_eq_true, Int.reduceEq, decide_true, decide_false, Nat.succ_ne_zero, tmC, tyC, Tryz.ntmps86]
    refine sw_call hN rfl (aAs_ok ?_) ?_ (sw_run 200 _ _ _ ?_)
    · simp only [aAs, aA, aD, AS.ev, look, Option.getD, List.map, List.append_nil, ↓reduceIte, eq_self, and_self]
    · simp only [okR]
    cases a
    · simp only [mkR, flatD, packA, retA, List.headD_cons, fQ, xRet, rPs, xRes, flatA, rD, eq_self, xRun, vE, vP, isCutO, isB, bv, gT, gW, gN, gV, isU, isPick, pkC, pkB, isCall, AS.pt, AS.kn, AS.ev, look, cav, eatsOf, td0, td1, td2, td3, td4, td5, td6, Option.bind, Option.getD, Option.isSome, List.map, List.getElem?_cons_zero, List.getElem?_cons_succ, List.nodup_nil, ↓reduceIte, Nat.reduceLT, Nat.reduceEqDiff, or_false, Bool.false_and, Bool.not_true, Bool.false_eq_true, reduceCtorEq, and_self, Tryz.results86]
    simp only [mkR, flatD, packA, retA, List.headD_cons, eq_self, xRun, vE, vP, vSub, vLoad, vFld, isCutO, isB, bv, gT, gW, gN, gV, isU, isPick, isCall, AS.pt, AS.kn, AS.ev, look, td0, td1, td2, td3, td4, td5, td6, Option.bind, Option.getD, Option.isSome, List.take, List.drop, List.length, List.getElem?_cons_zero, List.getElem?_cons_succ, ↓reduceIte, Nat.reduceLT, Nat.reduceAdd, Nat.reduceLeDiff, Nat.reduceEqDiff, Nat.zero_add, ne_eq, not_false_eq_true, true_and, Bool.true_and, Bool.false_eq_true, and_self, Nat.succ_ne_zero]
    refine sw_call hV rfl (aAs_ok ?_) ?_ (sw_run 200 _ _ _ ?_)
    · simp only [aAs, aA, aDs, aD, AS.ev, look, Option.getD, List.map, List.append_nil, ↓reduceIte, Nat.reduceEqDiff, eq_self, and_self]
    · simp only [okR]
    simp only [mkR, flatD, packA, retA, List.headD_cons, fQ, xRet, rPs, xRes, flatA, rD, eq_self, xRun, vE, vP, isCutO, isB, bv, gN, isPick, pkC, pkA, isCall, AS.pt, AS.ev, look, eatsOf, td0, td1, td2, td3, td4, td5, td6, Option.getD, List.map, List.nodup_nil, ↓reduceIte, Nat.reduceLT, Nat.reduceEqDiff, or_false, Bool.false_eq_true, reduceCtorEq, and_self, Tryz.results86]
  case inr.inr.inr.inr.inr.inr.inr.inr.inl =>
    simp only [if_true, if_false, Int.reduceEq]
    refine con_run Tryz.func86 rfl rfl (by simp [Tryz.ntmps86]) ?_
    simp only [argT, argA, eq_self, xRun, vE, vP, vSub, vLoad, vFld, vBin, vBinT, isAg, isBo, isCutO, isB, bv, gN, isPick, isCall, AS.pt, AS.ev, AS.box, look, cav, avB, AV.cells, AV.whole, AV.one, td0, td1, td2, td3, td4, td5, td6, Option.getD, Option.isSome, List.map, List.getElem?_cons_zero, List.getElem?_cons_succ, List.all, List.nil_append, List.cons_append, ↓reduceIte, Nat.reduceLT, Nat.reduceEqDiff, Nat.zero_add, Nat.add_zero, ne_eq, not_false_eq_true, true_and, Bool.and_true, Bool.false_eq_true, Int.reduceEq, decide_true, decide_false, Nat.succ_ne_zero, tmC, tyC, Tryz.ntmps86]
    refine sw_call hN rfl (aAs_ok ?_) ?_ (sw_run 200 _ _ _ ?_)
    · simp only [aAs, aA, aD, AS.ev, look, Option.getD, List.map, List.append_nil, ↓reduceIte, eq_self, and_self]
    · simp only [okR]
    cases a
    · simp only [mkR, flatD, packA, retA, List.headD_cons, fQ, xRet, rPs, xRes, flatA, rD, eq_self, xRun, vE, vP, isCutO, isB, bv, gT, gW, gN, gV, isU, isPick, pkC, pkB, isCall, AS.pt, AS.kn, AS.ev, look, cav, eatsOf, td0, td1, td2, td3, td4, td5, td6, Option.bind, Option.getD, Option.isSome, List.map, List.getElem?_cons_zero, List.getElem?_cons_succ, List.nodup_nil, ↓reduceIte, Nat.reduceLT, Nat.reduceEqDiff, or_false, Bool.false_and, Bool.not_true, Bool.false_eq_true, reduceCtorEq, and_self, Tryz.results86]
    simp only [mkR, flatD, packA, retA, List.headD_cons, eq_self, xRun, vE, vP, vSub, vLoad, vFld, isCutO, isB, bv, gT, gW, gN, gV, isU, isPick, isCall, AS.pt, AS.kn, AS.ev, look, td0, td1, td2, td3, td4, td5, td6, Option.bind, Option.getD, Option.isSome, List.getElem?_cons_zero, List.getElem?_cons_succ, ↓reduceIte, Nat.reduceLT, Nat.reduceEqDiff, Nat.zero_add, ne_eq, not_false_eq_true, true_and, Bool.true_and, Bool.false_eq_true, and_self, Nat.succ_ne_zero]
    refine sw_call hM rfl (aAs_ok ?_) ?_ (sw_run 200 _ _ _ ?_)
    · simp only [aAs, aA, aD, AS.ev, look, Option.getD, List.map, List.append_nil, ↓reduceIte, Nat.reduceEqDiff, eq_self, and_self]
    · simp only [okR]
    cases b
    · simp only [mkR, flatD, packA, retA, List.headD_cons, fQ, xRet, rPs, xRes, flatA, rD, eq_self, xRun, vE, vP, isCutO, isB, bv, gT, gW, gN, gV, isU, isPick, pkC, pkA, pkB, isCall, AS.pt, AS.kn, AS.ev, look, cav, eatsOf, td0, td1, td2, td3, td4, td5, td6, Option.bind, Option.getD, Option.isSome, List.map, List.getElem?_cons_zero, List.getElem?_cons_succ, List.nodup_nil, ↓reduceIte, Nat.reduceLT, Nat.reduceEqDiff, or_false, Bool.false_and, Bool.not_true, Bool.false_eq_true, reduceCtorEq, and_self, Tryz.results86]
    rcases pc (s = o) with h | h
    · simp only [mkR, flatD, packA, retA, List.headD_cons, fQ, xRet, rPs, xRes, flatA, rD, eq_self, xRun, vE, vP, vSub, vLoad, vFld, vBin, vBinT, isAg, isBo, isCutO, isB, bv, gT, gW, gN, gV, isU, isPick, pkC, pkA, pkB, isCall, AS.pt, AS.kn, AS.ev, look, cav, eatsOf, td0, td1, td2, td3, td4, td5, td6, Option.bind, Option.getD, Option.isSome, List.map, List.getElem?_cons_zero, List.getElem?_cons_succ, List.nodup_nil, ↓reduceIte, Nat.reduceLT, Nat.reduceEqDiff, Nat.zero_add, ne_eq, not_false_eq_true, not_true_eq_false, or_false, Bool.false_and, Bool.and_false, Bool.not_true, Bool.false_eq_true, reduceCtorEq, decide_true, decide_false, and_self, Nat.succ_ne_zero, h, Tryz.results86]
    simp only [mkR, flatD, packA, retA, List.headD_cons, eq_self, xRun, vE, vP, vSub, vLoad, vFld, vBin, vBinT, isAg, isBo, isCutO, isB, bv, gT, gW, gN, gV, isU, isPick, pkC, pkA, isCall, AS.pt, AS.kn, AS.ev, look, td0, td1, td2, td3, td4, td5, td6, Option.bind, Option.getD, Option.isSome, List.take, List.drop, List.length, List.getElem?_cons_zero, List.getElem?_cons_succ, ↓reduceIte, Nat.reduceLT, Nat.reduceAdd, Nat.reduceLeDiff, Nat.reduceEqDiff, Nat.zero_add, ne_eq, not_false_eq_true, true_and, Bool.true_and, Bool.not_false, Bool.false_eq_true, decide_true, decide_false, and_self, Nat.succ_ne_zero, h]
    refine sw_call hV rfl (aAs_ok ?_) ?_ (sw_run 200 _ _ _ ?_)
    · simp only [aAs, aA, aDs, aD, AS.ev, look, Option.getD, List.map, List.append_nil, ↓reduceIte, Nat.reduceEqDiff, eq_self, and_self]
    · simp only [okR]
    cases v
    · simp only [mkR, flatD, packA, retA, List.headD_cons, fQ, xRet, rPs, xRes, flatA, rD, eq_self, xRun, vE, vP, isCutO, isB, bv, gT, gW, gN, gV, isU, isPick, pkC, pkA, pkB, isCall, AS.pt, AS.kn, AS.ev, look, cav, eatsOf, td0, td1, td2, td3, td4, td5, td6, Option.bind, Option.getD, Option.isSome, List.map, List.getElem?_cons_zero, List.getElem?_cons_succ, List.nodup_nil, ↓reduceIte, Nat.reduceLT, Nat.reduceEqDiff, or_false, Bool.false_and, Bool.not_true, Bool.false_eq_true, reduceCtorEq, and_self, Tryz.results86]
    simp only [mkR, flatD, packA, retA, List.headD_cons, eq_self, xRun, vE, vP, vSub, vLoad, vFld, isCutO, isB, bv, gT, gW, gN, gV, isU, isPick, pkC, pkA, isCall, AS.pt, AS.kn, AS.ev, look, td0, td1, td2, td3, td4, td5, td6, Option.bind, Option.getD, Option.isSome, List.take, List.drop, List.length, List.getElem?_cons_zero, List.getElem?_cons_succ, ↓reduceIte, Nat.reduceLT, Nat.reduceAdd, Nat.reduceLeDiff, Nat.reduceEqDiff, Nat.zero_add, ne_eq, not_false_eq_true, true_and, Bool.true_and, Bool.false_eq_true, and_self, Nat.succ_ne_zero]
    refine sw_call hW rfl (aAs_ok ?_) ?_ (sw_run 200 _ _ _ ?_)
    · simp only [aAs, aA, aDs, aD, AS.ev, look, Option.getD, List.map, List.append_nil, ↓reduceIte, Nat.reduceEqDiff, eq_self, and_self]
    · simp only [okR]
    simp only [mkR, flatD, packA, retA, List.headD_cons, fQ, xRet, rPs, xRes, flatA, rD, eq_self, xRun, vE, vP, isCutO, isB, bv, gN, isPick, pkC, pkA, isCall, AS.pt, AS.ev, look, eatsOf, td0, td1, td2, td3, td4, td5, td6, Option.getD, List.map, List.nodup_nil, ↓reduceIte, Nat.reduceLT, Nat.reduceEqDiff, or_false, Bool.false_eq_true, reduceCtorEq, and_self, Tryz.results86]
  all_goals
    simp only [*, if_false, Int.reduceEq]
    refine con_run Tryz.func86 rfl rfl (by simp [Tryz.ntmps86]) ?_
    simp only [argT, argA, eq_self, xRun, vE, vP, vSub, vLoad, vFld, vBin, vBinT, isAg, isBo, isCutO, isB, bv, gN, isPick, isCall, AS.pt, AS.ev, AS.box, look, cav, avB, AV.cells, AV.whole, AV.one, td0, td1, td2, td3, td4, td5, td6, Option.getD, Option.isSome, List.map, List.getElem?_cons_zero, List.all, List.nil_append, List.cons_append, ↓reduceIte, Nat.reduceLT, Nat.reduceEqDiff, Nat.zero_add, Nat.add_zero, ne_eq, not_false_eq_true, true_and, Bool.and_true, Bool.false_eq_true, Int.reduceEq, decide_false, Nat.succ_ne_zero, tmC, tyC, *, Tryz.ntmps86]
    refine sw_call hK rfl (aAs_ok ?_) ?_ (sw_run 200 _ _ _ ?_)
    · simp only [aAs, aA, aD, AS.ev, look, cav, Option.getD, List.map, List.append_nil, ↓reduceIte, eq_self, and_self]
    · simp only [okR]
    simp only [mkR, flatD, packA, retA, List.headD_cons, fQ, xRet, rPs, xRes, flatA, rD, eq_self, xRun, vE, vP, isCutO, gN, isPick, isCall, AS.pt, AS.ev, look, eatsOf, td0, td1, td2, td3, td4, td5, td6, Option.getD, List.map, List.nodup_nil, ↓reduceIte, Nat.reduceLT, or_false, Bool.false_eq_true, reduceCtorEq, and_self, Tryz.results86]
end Go.Proofs.YtpoemjeelbmpkaaGreat
