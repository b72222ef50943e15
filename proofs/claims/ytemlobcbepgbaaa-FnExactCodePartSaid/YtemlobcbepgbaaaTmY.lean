/-
  The nodes of terms: isForm at a recursive function: its drawn region has 842 orders.
-/
import Derived.Test.YtemlobcbepgbaaaTmO
namespace Go.Proofs.Ytemlobcbepgbaaa
open Go.RowKit
set_option linter.unusedVariables false
set_option linter.unusedSimpArgs false
set_option maxRecDepth 20000
set_option maxHeartbeats 80000000 in
theorem con_isFormD (t : Tm) (hz : szL (tmC t) ≤ 1000000000) (hk : t.kind = 9) : Con Try.prog 132 [.ag (tmC t)] [.one (.bool (isFm t))] := by
  have hA := con_arityI t
  have hN := con_isNamed t hz
  have hT := con_EqTyI t.ty (wT t) (sz_partsE hz).1
  have hR := con_EqTyI t.res (wR t) (sz_partsE hz).2.1
  rw [isFm_eq]
  generalize isNm t = a at *
  generalize arF 0 t.kind t.name = ar at *
  generalize eqTy t.ty (wT t) = cT at *
  generalize eqTy t.res (wR t) = cR at *
  obtain ⟨k, s, o, n, ⟨tk, ta⟩, ⟨rk, ra⟩, xs⟩ := t
  simp only [Tm.kind, Tm.name, Tm.other, Tm.n, Tm.ty, Tm.res, Tm.args, wN, wO, wI, wT, wR] at hA hN hT hR hk ⊢
  clear hz
  subst hk
  all_goals
    simp only [if_true, if_false, Int.reduceEq, decide_true, Bool.true_and] at hT hR ⊢
    simp only [tyC, tmC] at hA hN hT hR
    refine con_run Try.func132 rfl rfl (by simp [Try.ntmps132]) ?_
    simp only [argT, argA, eq_self, xRun, vE, vP, isCutO, gN, isPick, isCall, AS.pt, AS.ev, AS.box, look, cav, avB, AV.cells, AV.whole, AV.one, Option.getD, List.map, List.all, List.nil_append, List.cons_append, ↓reduceIte, Nat.reduceLT, Nat.zero_add, true_and, Bool.and_true, Bool.false_eq_true, tmC, tyC, Try.ntmps132]
    refine sw_drawn (.cons 0 true (.cons 1 true (.cons 2 true (.cons 3 true (.cons 4 false (.cons 5 true (.nil))))))) (by kernel_rfl) fQ_panic (by kernel_rfl) (sw_run 200 _ _ _ ?_)
    simp only [eq_self, xRun, vP, vSub, vLoad, vFld, vLen, gN, isPick, isCall, AS.pt, AS.ev, AS.rd, look, td0, td3, td4, Option.getD, Option.isSome, List.take, List.drop, List.length, List.getElem?_cons_zero, List.getElem?_cons_succ, ↓reduceIte, Nat.reduceLT, Nat.reduceAdd, Nat.reduceEqDiff, Nat.zero_add, ne_eq, not_false_eq_true, true_and, Bool.false_eq_true, Nat.succ_ne_zero, Nat.le_refl]
    refine sw_callD hA rfl (aAs_ok ?_) ?_ (sw_run 200 _ _ _ ?_)
    · simp only [aAs, aA, aDs, aD, AS.ev, look, Option.getD, List.map, List.nil_append, List.cons_append, List.append_nil, ↓reduceIte, eq_self, and_self]
    · simp only [okR]
    rcases pc ((xs.length : Int) = ar) with hl | hl
    case inr => simp only [mkR, flatD, packA, retA, List.headD_cons, fQ, xRet, rPs, xRes, flatA, rD, eq_self, xRun, vE, vP, vBin, vBinT, isAg, isBo, isCutO, isB, bv, gN, isPick, isCall, AS.pt, AS.ev, look, cav, eatsOf, Option.getD, Option.isSome, List.map, List.getElem?_cons_zero, List.getElem?_cons_succ, List.nodup_nil, ↓reduceIte, Nat.reduceLT, Nat.reduceEqDiff, ne_eq, not_false_eq_true, or_false, Bool.false_and, Bool.false_eq_true, reduceCtorEq, decide_true, decide_false, and_self, hl, Try.results132]
    simp only [mkR, flatD, packA, retA, List.headD_cons, eq_self, xRun, vE, vP, vSub, vLoad, vFld, vBin, vBinT, isAg, isBo, vBuild, vStore, isCutO, xFill, isB, bv, gN, isPick, isCall, AS.pt, AS.ev, AS.box, AS.setb, look, cav, setRowG, AV.cells, AV.whole, AV.one, td0, td1, td3, td6, Option.getD, Option.isSome, List.map, List.length, List.getElem?_cons_zero, List.getElem?_cons_succ, List.set, List.all, ↓reduceIte, Nat.reduceLT, Nat.reduceAdd, Nat.reduceLeDiff, Nat.reduceEqDiff, Nat.zero_add, Nat.add_zero, ne_eq, not_false_eq_true, not_true_eq_false, true_and, Bool.true_and, Bool.and_true, Bool.false_eq_true, reduceCtorEq, Int.reduceEq, decide_true, decide_false, and_self, Nat.succ_ne_zero, Nat.le_refl, hl]
    refine sw_drawnKr id ⟨91, [(1, .bx 0 0), (2, .b false), (3, .bx 1 0)], [(0, [.i 9, .s s, .s o, .i n, .i tk, .br (.rows 2 ta.length (tysC ta)), .i rk, .br (.rows 2 ra.length (tysC ra)), .br (.rows 9 xs.length (tmsC xs))]), (1, [.i 9, .s s, .s o, .i 0, .i tk, .br (.rows 2 ta.length (tysC ta)), .i rk, .br (.rows 2 ra.length (tysC ra)), .nl 9])], [], 2, []⟩ oF187 (by kernel_rfl) cF_all (sw_run 200 _ _ _ ?_) (sw_run 200 _ _ _ ?_)
    · simp (maxSteps := 100000000) only [qKr, Sub, subT, subB, subO, subP, inj, AV.ren, AV.rens, AV.lt, AV.lts, eq_self, xRun, vE, vP, vSub, vLoad, vFld, vStore, gN, isPick, isCall, AS.pt, AS.ev, AS.setb, look, setRowG, AV.cells, AV.whole, AV.one, td0, td1, td3, td6, Option.getD, Option.isSome, List.map, List.take, List.drop, List.length, List.getElem?_cons_zero, List.getElem?_cons_succ, List.set, List.all, List.mem_cons, List.not_mem_nil, List.nodup_cons, List.nodup_nil, ↓reduceIte, Nat.reduceLT, Nat.reduceAdd, Nat.reduceLeDiff, Nat.reduceEqDiff, Nat.zero_add, ne_eq, not_false_eq_true, or_false, Bool.and_true, Bool.false_eq_true, id_eq, reduceCtorEq, and_self, Nat.succ_ne_zero, and_self, oF0, oF1, oF2, oF3, oF4, oF5, oF6, oF7, oF8, oF9, oF10, oF11, oF12, oF13, oF14, oF15, oF16, oF17, oF18, oF19, oF20, oF21, oF22, oF23, oF24, oF25, oF26, oF27, oF28, oF29, oF30, oF31, oF32, oF33, oF34, oF35, oF36, oF37, oF38, oF39, oF40, oF41, oF42, oF43, oF44, oF45, oF46, oF47, oF48, oF49, oF50, oF51, oF52, oF53, oF54, oF55, oF56, oF57, oF58, oF59, oF60, oF61, oF62, oF63, oF64, oF65, oF66, oF67, oF68, oF69, oF70, oF71, oF72, oF73, oF74, oF75, oF76, oF77, oF78, oF79, oF80, oF81, oF82, oF83, oF84, oF85, oF86, oF87, oF88, oF89, oF90, oF91, oF92, oF93, oF94, oF95, oF96, oF97, oF98, oF99, oF100, oF101, oF102, oF103, oF104, oF105, oF106, oF107, oF108, oF109, oF110, oF111, oF112, oF113, oF114, oF115, oF116, oF117, oF118, oF119, oF120, oF121, oF122, oF123, oF124, oF125, oF126, oF127, oF128, oF129, oF130, oF131, oF132, oF133, oF134, oF135, oF136, oF137, oF138, oF139, oF140, oF141, oF142, oF143, oF144, oF145, oF146, oF147, oF148, oF149, oF150, oF151, oF152, oF153, oF154, oF155, oF156, oF157, oF158, oF159, oF160, oF161, oF162, oF163, oF164, oF165, oF166, oF167, oF168, oF169, oF170, oF171, oF172, oF173, oF174, oF175, oF176, oF177, oF178, oF179, oF180, oF181, oF182, oF183, oF184, oF185, oF186, oF187]
    simp only [eq_self, xRun, vE, vP, vSub, vLoad, isCutO, gN, isPick, isCall, AS.pt, AS.ev, look, td0, Option.getD, List.take, List.drop, List.length, ↓reduceIte, Nat.reduceLT, Nat.reduceAdd, Nat.zero_add, true_and, Bool.false_eq_true, Nat.le_refl]
    refine sw_call hN rfl (aAs_ok ?_) ?_ (sw_run 200 _ _ _ ?_)
    · simp only [aAs, aA, aDs, aD, AS.ev, look, Option.getD, List.map, List.nil_append, List.cons_append, List.append_nil, ↓reduceIte, eq_self, and_self]
    · simp only [okR]
    cases a
    case false => simp only [mkR, flatD, packA, retA, List.headD_cons, fQ, xRet, rPs, xRes, flatA, rD, eq_self, xRun, vE, vP, isCutO, isB, bv, gT, gW, gN, gV, isU, isPick, pkC, pkB, isCall, AS.pt, AS.kn, AS.ev, look, cav, eatsOf, Option.bind, Option.getD, Option.isSome, List.map, List.getElem?_cons_zero, List.getElem?_cons_succ, List.nodup_nil, ↓reduceIte, Nat.reduceLT, Nat.reduceEqDiff, or_false, Bool.false_and, Bool.not_true, Bool.false_eq_true, reduceCtorEq, and_self, Try.results132]
    rcases pc (n = 0) with h0 | h0
    case inr => simp only [mkR, flatD, packA, retA, List.headD_cons, fQ, xRet, rPs, xRes, flatA, rD, eq_self, xRun, vE, vP, vSub, vLoad, vFld, vBin, vBinT, isAg, isBo, isCutO, isB, bv, gT, gW, gN, gV, isU, isPick, pkC, pkA, pkB, isCall, AS.pt, AS.kn, AS.ev, look, cav, eatsOf, td0, td1, td3, Option.bind, Option.getD, Option.isSome, List.map, List.getElem?_cons_zero, List.getElem?_cons_succ, List.nodup_nil, ↓reduceIte, Nat.reduceLT, Nat.reduceEqDiff, Nat.zero_add, ne_eq, not_false_eq_true, or_false, Bool.false_and, Bool.and_false, Bool.not_true, Bool.false_eq_true, reduceCtorEq, decide_true, decide_false, and_self, Nat.succ_ne_zero, h0, Try.results132]
    simp only [mkR, flatD, packA, retA, List.headD_cons, eq_self, xRun, vE, vP, vSub, vLoad, vFld, vBin, vBinT, isAg, isBo, isCutO, isB, bv, gT, gW, gN, gV, isU, isPick, pkC, pkA, isCall, AS.pt, AS.kn, AS.ev, look, td0, td1, td3, Option.bind, Option.getD, Option.isSome, List.take, List.drop, List.length, List.getElem?_cons_zero, List.getElem?_cons_succ, ↓reduceIte, Nat.reduceLT, Nat.reduceAdd, Nat.reduceLeDiff, Nat.reduceEqDiff, Nat.zero_add, ne_eq, not_false_eq_true, true_and, Bool.true_and, Bool.false_eq_true, decide_true, and_self, Nat.succ_ne_zero, h0]
    refine sw_call hT rfl (aAs_ok ?_) ?_ (sw_run 200 _ _ _ ?_)
    · simp only [aAs, aA, aDs, aD, AS.ev, look, Option.getD, List.map, List.append_nil, ↓reduceIte, Nat.reduceEqDiff, eq_self, and_self]
    · simp only [okR]
    cases cT
    case false => simp only [mkR, flatD, packA, retA, List.headD_cons, fQ, xRet, rPs, xRes, flatA, rD, eq_self, xRun, vE, vP, isCutO, isB, bv, gT, gW, gN, gV, isU, isPick, pkC, pkA, pkB, isCall, AS.pt, AS.kn, AS.ev, look, cav, eatsOf, Option.bind, Option.getD, Option.isSome, List.map, List.getElem?_cons_zero, List.getElem?_cons_succ, List.nodup_nil, ↓reduceIte, Nat.reduceLT, Nat.reduceEqDiff, or_false, Bool.false_and, Bool.not_true, Bool.false_eq_true, reduceCtorEq, and_self, Try.results132]
    simp only [mkR, flatD, packA, retA, List.headD_cons, eq_self, xRun, vE, vP, vSub, vLoad, vFld, isCutO, isB, bv, gT, gW, gN, gV, isU, isPick, pkC, pkA, isCall, AS.pt, AS.kn, AS.ev, look, td0, td3, Option.bind, Option.getD, Option.isSome, List.take, List.drop, List.length, List.getElem?_cons_zero, List.getElem?_cons_succ, ↓reduceIte, Nat.reduceLT, Nat.reduceAdd, Nat.reduceLeDiff, Nat.reduceEqDiff, Nat.zero_add, ne_eq, not_false_eq_true, true_and, Bool.true_and, Bool.false_eq_true, and_self, Nat.succ_ne_zero]
    refine sw_call hR rfl (aAs_ok ?_) ?_ (sw_run 200 _ _ _ ?_)
    · simp only [aAs, aA, aDs, aD, AS.ev, look, Option.getD, List.map, List.append_nil, ↓reduceIte, Nat.reduceEqDiff, eq_self, and_self]
    · simp only [okR]
    simp only [mkR, flatD, packA, retA, List.headD_cons, fQ, xRet, rPs, xRes, flatA, rD, eq_self, xRun, vE, vP, isCutO, isB, bv, gN, isPick, pkC, pkA, isCall, AS.pt, AS.ev, look, eatsOf, Option.getD, List.map, List.nodup_nil, ↓reduceIte, Nat.reduceLT, Nat.reduceEqDiff, or_false, Bool.false_eq_true, reduceCtorEq, and_self, Try.results132]
end Go.Proofs.Ytemlobcbepgbaaa
