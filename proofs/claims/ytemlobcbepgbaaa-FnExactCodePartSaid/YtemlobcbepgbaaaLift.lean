/-
  LiftOf of both sides.
-/
import Derived.Test.YtemlobcbepgbaaaTmB
import Derived.Test.YtemlobcbepgbaaaMk
namespace Go.Proofs.Ytemlobcbepgbaaa
open Go.RowKit
set_option linter.unusedVariables false
set_option linter.unusedSimpArgs false
set_option maxRecDepth 20000
def liftB (e : Tm) : Bool := (decide (e.kind = 2) || decide (e.kind = 3)) && allTm isFm e
def tZ : Tm := .mk 0 ⟨#[]⟩ ⟨#[]⟩ 0 (.mk 0 []) (.mk 0 []) []
def liftT (e : Tm) : Tm := if liftB e = true then tNode 10 [e] else tZ
theorem lift_no {e : Tm} (h : liftB e = false) : liftT e = tZ := by unfold liftT; rw [h]; rfl
theorem lift_yes {e : Tm} (h : liftB e = true) : liftT e = tNode 10 [e] := by unfold liftT; rw [h]; rfl
theorem con_LiftS (e : Tm) (hz : szL (tmC e) ≤ 100000000) : Con Try.prog 15 [.ag (tmC e)] [.ag (tmC (liftT e)), .one (.bool (liftB e))] := by
  have hI := con_IsTermS e (by omega)
  have hz1 := sz_ms1 e
  have hc := con_l5Node 10 [e] (by rw [hz1]; simp; omega)
  simp only [List.length_cons, List.length_nil, Nat.zero_add] at hc
  have hb : liftB e = ((decide (e.kind = 2) || decide (e.kind = 3)) && allTm isFm e) := rfl
  generalize allTm isFm e = b at *
  cases b
  case false =>
    rw [Bool.and_false] at hb
    rw [lift_no hb, hb]
    refine con_run Try.func15 rfl rfl (by simp [Try.ntmps15]) ?_
    simp only [argT, argA, tysD, tmsD, eq_self, xRun, vE, vP, vSub, vLoad, isCutO, gN, isPick, isCall, AS.pt, AS.ev, AS.box, look, cav, avB, AV.cells, AV.whole, AV.one, td0, td6, Option.getD, Option.isSome, List.map, List.take, List.drop, List.length, List.all, ↓reduceIte, Nat.reduceLT, Nat.reduceAdd, Nat.reduceEqDiff, Nat.zero_add, true_and, Bool.and_true, Bool.false_eq_true, reduceCtorEq, Nat.le_refl, tZ, tmC_eq, mk_kind, mk_name, mk_other, mk_n, mk_ty, mk_res, mk_args, tyk, tya, tysC, List.length_nil, tmsC, Try.ntmps15]
    refine sw_call hI rfl (aAs_ok ?_) ?_ (sw_run 200 _ _ _ ?_)
    · simp only [aAs, aA, aDs, aD, tysD, tmsD, AS.ev, look, Option.getD, List.map, List.append_nil, ↓reduceIte, eq_self, and_self, tmC_eq, tysD, tmsD]
    · simp only [okR]
    simp only [mkR, flatD, packA, retA, List.headD_cons, fQ, xRet, rPs, xRes, flatA, rD, rDs, eq_self, xRun, vE, vP, vNot, vBuild, vStore, isCutO, xFill, isB, bv, gT, gW, gN, gV, isU, isPick, pkC, pkA, isCall, AS.pt, AS.kn, AS.ev, AS.setb, look, cav, setRowG, AV.cells, AV.whole, AV.one, eatsOf, td0, td1, td6, Option.bind, Option.getD, Option.isSome, List.map, List.length, List.getElem?_cons_zero, List.getElem?_cons_succ, List.set, List.all, List.nodup_nil, List.nil_append, List.cons_append, ↓reduceIte, Nat.reduceLT, Nat.reduceAdd, Nat.reduceEqDiff, Nat.zero_add, or_false, Bool.and_true, Bool.not_false, Bool.false_eq_true, Bool.true_eq_false, reduceCtorEq, and_self, Nat.le_refl, List.length_cons, Try.results15]
  rw [Bool.and_true] at hb
  rcases pc (e.kind = 2) with h2 | h2
  all_goals rcases pc (e.kind = 3) with h3 | h3
  case inr.inr =>
    simp only [h2, h3, decide_false, Bool.or_false] at hb
    rw [lift_no hb, hb]
    refine con_run Try.func15 rfl rfl (by simp [Try.ntmps15]) ?_
    simp only [argT, argA, tysD, tmsD, eq_self, xRun, vE, vP, vSub, vLoad, isCutO, gN, isPick, isCall, AS.pt, AS.ev, AS.box, look, cav, avB, AV.cells, AV.whole, AV.one, td0, td6, Option.getD, Option.isSome, List.map, List.take, List.drop, List.length, List.all, ↓reduceIte, Nat.reduceLT, Nat.reduceAdd, Nat.reduceEqDiff, Nat.zero_add, true_and, Bool.and_true, Bool.false_eq_true, reduceCtorEq, Nat.le_refl, tZ, tmC_eq, mk_kind, mk_name, mk_other, mk_n, mk_ty, mk_res, mk_args, tyk, tya, tysC, List.length_nil, tmsC, Try.ntmps15]
    refine sw_call hI rfl (aAs_ok ?_) ?_ (sw_run 200 _ _ _ ?_)
    · simp only [aAs, aA, aDs, aD, tysD, tmsD, AS.ev, look, Option.getD, List.map, List.append_nil, ↓reduceIte, eq_self, and_self, tmC_eq, tysD, tmsD]
    · simp only [okR]
    simp only [mkR, flatD, packA, retA, List.headD_cons, fQ, xRet, rPs, xRes, flatA, rD, rDs, eq_self, xRun, vE, vP, vSub, vLoad, vFld, vBin, vBinT, isAg, isBo, vNot, vBuild, vStore, isCutO, xFill, isB, bv, gT, gW, gN, gV, isU, isPick, pkC, pkA, pkB, isCall, AS.pt, AS.kn, AS.ev, AS.setb, look, cav, setRowG, AV.cells, AV.whole, AV.one, eatsOf, td0, td1, td3, td6, Option.bind, Option.getD, Option.isSome, List.map, List.length, List.getElem?_cons_zero, List.getElem?_cons_succ, List.set, List.all, List.nodup_nil, List.nil_append, List.cons_append, ↓reduceIte, Nat.reduceLT, Nat.reduceAdd, Nat.reduceEqDiff, Nat.zero_add, Nat.add_zero, ne_eq, not_false_eq_true, or_false, Bool.and_true, Bool.not_true, Bool.false_eq_true, reduceCtorEq, decide_true, and_self, Nat.succ_ne_zero, Nat.le_refl, h2, h3, List.length_cons, Try.results15]
  all_goals
    simp only [h2, h3, decide_true, decide_false, Bool.or_false, Bool.or_true] at hb
    rw [lift_yes hb, hb]
    refine con_run Try.func15 rfl rfl (by simp [Try.ntmps15]) ?_
    simp only [argT, argA, tysD, tmsD, eq_self, xRun, vE, vP, vSub, vLoad, isCutO, gN, isPick, isCall, AS.pt, AS.ev, AS.box, look, cav, avB, AV.cells, AV.whole, AV.one, td0, td6, Option.getD, Option.isSome, List.map, List.take, List.drop, List.length, List.all, ↓reduceIte, Nat.reduceLT, Nat.reduceAdd, Nat.reduceEqDiff, Nat.zero_add, true_and, Bool.and_true, Bool.false_eq_true, reduceCtorEq, Nat.le_refl, tmC_eq e, Try.ntmps15]
    refine sw_call hI rfl (aAs_ok ?_) ?_ (sw_run 200 _ _ _ ?_)
    · simp only [aAs, aA, aDs, aD, tysD, tmsD, AS.ev, look, Option.getD, List.map, List.append_nil, ↓reduceIte, eq_self, and_self, tmC_eq, tysD, tmsD]
    · simp only [okR]
    simp only [mkR, flatD, packA, retA, List.headD_cons, eq_self, xRun, vE, vP, vSub, vLoad, vFld, vBin, vBinT, isAg, isBo, vNot, vRow, isCutO, xFill, isB, bv, gT, gW, gN, gV, isU, isPick, pkC, pkA, pkB, isCall, AS.pt, AS.kn, AS.ev, AS.mk', kill, look, cav, setRowG, AV.cells, AV.whole, AV.one, cD, cDs, eatsOf, dpOf, td0, td1, td3, td6, Option.bind, Option.getD, Option.isSome, List.map, List.take, List.drop, List.length, List.getElem?_cons_zero, List.getElem?_cons_succ, List.set, List.foldr, List.all, List.replicate, List.nodup_nil, ↓reduceIte, Nat.reduceLT, Nat.reduceAdd, Nat.reduceLeDiff, Nat.reduceEqDiff, Nat.zero_add, Nat.add_zero, Nat.zero_mul, Nat.one_mul, ne_eq, not_false_eq_true, not_true_eq_false, true_and, or_true, Bool.and_true, Bool.and_false, Bool.not_true, Bool.false_eq_true, reduceCtorEq, decide_true, decide_false, and_self, Nat.succ_ne_zero, Nat.le_refl, h2, h3]
    refine sw_call hc rfl (aAs_ok ?_) ?_ (sw_run 200 _ _ _ ?_)
    · simp only [aAs, aA, aD, tysD, tmsD, AS.ev, AS.owf, look, cav, Option.bind, Option.getD, id_eq, List.map, List.append_nil, ↓reduceIte, eq_self, and_self, tmC_eq, tmsC]
    · simp only [okR]
    simp only [mkR, flatD, packA, retA, fQ, tysD, tmsD, xRet, rPs, xRes, flatA, rD, rDs, eq_self, xRun, vE, vP, vStore, isCutO, gN, isPick, isCall, AS.pt, AS.ev, AS.setb, AS.mk', AS.owf, kill, look, cav, setRowG, AV.cells, AV.whole, AV.one, eatsOf, td0, td6, Option.bind, Option.getD, List.map, List.take, List.length, List.set, List.foldr, List.all, List.mem_cons, List.not_mem_nil, List.nodup_cons, List.nodup_nil, List.nil_append, List.cons_append, List.append_nil, ↓reduceIte, Nat.reduceLT, Nat.reduceAdd, Nat.reduceEqDiff, Nat.zero_add, not_false_eq_true, or_false, Bool.and_true, Bool.false_eq_true, id_eq, reduceCtorEq, and_self, Nat.le_refl, tNode, ty0, e0, tmC_eq, mk_kind, mk_name, mk_other, mk_n, mk_ty, mk_res, mk_args, tyk, tya, tysC, List.length_cons, List.length_nil, tmsC, Try.results15]
theorem con_LiftI (e : Tm) (hz : szL (tmC e) ≤ 100000000) : Con Try.prog 17 [.ag (tmC e)] [.ag (tmC (liftT e)), .one (.bool (liftB e))] := by
  have hI := con_IsTermI e (by omega)
  have hO := con_ownT e (by omega)
  have hb : liftB e = ((decide (e.kind = 2) || decide (e.kind = 3)) && allTm isFm e) := rfl
  generalize allTm isFm e = b at *
  rcases pc (e.kind = 2) with h2 | h2
  all_goals rcases pc (e.kind = 3) with h3 | h3
  case inr.inr =>
    simp only [h2, h3, decide_false, Bool.or_false, Bool.false_and] at hb
    rw [lift_no hb, hb]
    refine con_run Try.func17 rfl rfl (by simp [Try.ntmps17]) ?_
    simp only [argT, argA, fQ, tysD, tmsD, xRet, rPs, xRes, flatA, rD, rDs, eq_self, xRun, vE, vP, vSub, vLoad, vFld, vBin, vBinT, isAg, isBo, vBuild, vStore, isCutO, xFill, isB, bv, gT, gW, gN, gV, isU, isPick, pkC, pkA, isCall, AS.pt, AS.kn, AS.ev, AS.box, AS.setb, look, cav, avB, setRowG, AV.cells, AV.whole, AV.one, eatsOf, td0, td1, td3, td6, Option.bind, Option.getD, Option.isSome, List.map, List.length, List.getElem?_cons_zero, List.getElem?_cons_succ, List.set, List.all, List.nodup_nil, List.nil_append, List.cons_append, ↓reduceIte, Nat.reduceLT, Nat.reduceAdd, Nat.reduceEqDiff, Nat.zero_add, Nat.add_zero, ne_eq, not_false_eq_true, or_false, Bool.and_true, Bool.not_false, Bool.false_eq_true, Bool.true_eq_false, reduceCtorEq, decide_true, and_self, Nat.succ_ne_zero, Nat.le_refl, h2, h3, tZ, tmC_eq, mk_kind, mk_name, mk_other, mk_n, mk_ty, mk_res, mk_args, tyk, tya, tysC, List.length_cons, List.length_nil, tmsC, Try.ntmps17, Try.results17]
  all_goals
    simp only [h2, h3, decide_true, decide_false, Bool.or_false, Bool.or_true, Bool.true_and] at hb
    cases b
    case false =>
      rw [lift_no hb, hb]
      refine con_run Try.func17 rfl rfl (by simp [Try.ntmps17]) ?_
      simp only [argT, argA, tysD, tmsD, eq_self, xRun, vE, vP, vSub, vLoad, vFld, vBin, vBinT, isAg, isBo, isCutO, isB, bv, gT, gW, gN, gV, isU, isPick, pkC, pkA, pkB, isCall, AS.pt, AS.kn, AS.ev, AS.box, look, cav, avB, AV.cells, AV.whole, AV.one, td0, td3, td6, Option.bind, Option.getD, Option.isSome, List.map, List.take, List.drop, List.length, List.getElem?_cons_zero, List.getElem?_cons_succ, List.all, ↓reduceIte, Nat.reduceLT, Nat.reduceAdd, Nat.reduceEqDiff, Nat.zero_add, Nat.add_zero, ne_eq, not_false_eq_true, not_true_eq_false, true_and, Bool.and_true, Bool.not_true, Bool.false_eq_true, reduceCtorEq, decide_true, decide_false, and_self, Nat.succ_ne_zero, Nat.le_refl, h2, h3, tmC_eq e, tysD, tmsD, Try.ntmps17]
      refine sw_call hI rfl (aAs_ok ?_) ?_ (sw_run 200 _ _ _ ?_)
      · simp only [aAs, aA, aDs, aD, tysD, tmsD, AS.ev, look, Option.getD, List.map, List.append_nil, ↓reduceIte, Nat.reduceEqDiff, eq_self, and_self, tmC_eq, tysD, tmsD]
      · simp only [okR]
      simp only [mkR, flatD, packA, retA, List.headD_cons, fQ, tysD, tmsD, xRet, rPs, xRes, flatA, rD, rDs, eq_self, xRun, vE, vP, vNot, vBuild, vStore, isCutO, xFill, isB, bv, gT, gW, gN, gV, isU, isPick, pkC, pkB, isCall, AS.pt, AS.kn, AS.ev, AS.setb, look, cav, setRowG, AV.cells, AV.whole, AV.one, eatsOf, td0, td1, td6, Option.bind, Option.getD, Option.isSome, List.map, List.length, List.getElem?_cons_zero, List.getElem?_cons_succ, List.set, List.all, List.nodup_nil, List.nil_append, List.cons_append, ↓reduceIte, Nat.reduceLT, Nat.reduceAdd, Nat.reduceEqDiff, Nat.zero_add, or_false, Bool.and_true, Bool.not_false, Bool.false_eq_true, reduceCtorEq, and_self, Nat.le_refl, tZ, tmC_eq, mk_kind, mk_name, mk_other, mk_n, mk_ty, mk_res, mk_args, tyk, tya, tysC, List.length_cons, List.length_nil, tmsC, Try.results17]
    rw [lift_yes hb, hb]
    refine con_run Try.func17 rfl rfl (by simp [Try.ntmps17]) ?_
    simp only [argT, argA, tysD, tmsD, eq_self, xRun, vE, vP, vSub, vLoad, vFld, vBin, vBinT, isAg, isBo, isCutO, isB, bv, gT, gW, gN, gV, isU, isPick, pkC, pkA, pkB, isCall, AS.pt, AS.kn, AS.ev, AS.box, look, cav, avB, AV.cells, AV.whole, AV.one, td0, td3, td6, Option.bind, Option.getD, Option.isSome, List.map, List.take, List.drop, List.length, List.getElem?_cons_zero, List.getElem?_cons_succ, List.all, ↓reduceIte, Nat.reduceLT, Nat.reduceAdd, Nat.reduceEqDiff, Nat.zero_add, Nat.add_zero, ne_eq, not_false_eq_true, not_true_eq_false, true_and, Bool.and_true, Bool.not_true, Bool.false_eq_true, reduceCtorEq, decide_true, decide_false, and_self, Nat.succ_ne_zero, Nat.le_refl, h2, h3, tmC_eq e, tysD, tmsD, Try.ntmps17]
    refine sw_call hI rfl (aAs_ok ?_) ?_ (sw_run 200 _ _ _ ?_)
    · simp only [aAs, aA, aDs, aD, tysD, tmsD, AS.ev, look, Option.getD, List.map, List.append_nil, ↓reduceIte, Nat.reduceEqDiff, eq_self, and_self, tmC_eq, tysD, tmsD]
    · simp only [okR]
    simp only [mkR, flatD, packA, retA, List.headD_cons, eq_self, xRun, vE, vP, vSub, vLoad, vNot, isCutO, isB, bv, gT, gW, gN, gV, isU, isPick, pkC, pkB, isCall, AS.pt, AS.kn, AS.ev, look, td0, Option.bind, Option.getD, Option.isSome, List.take, List.drop, List.length, List.getElem?_cons_zero, List.getElem?_cons_succ, ↓reduceIte, Nat.reduceLT, Nat.reduceAdd, Nat.reduceEqDiff, Nat.zero_add, true_and, Bool.not_true, Bool.false_eq_true, reduceCtorEq, and_self, Nat.le_refl]
    refine sw_call hO rfl (aAs_ok ?_) ?_ (sw_run 200 _ _ _ ?_)
    · simp only [aAs, aA, aDs, aD, tysD, tmsD, AS.ev, look, Option.getD, List.map, List.append_nil, ↓reduceIte, eq_self, and_self, tmC_eq, tysD, tmsD]
    · simp only [okR]
    simp only [mkR, flatD, packA, retA, tysD, tmsD, eq_self, xRun, vE, vRow, isCutO, xFill, gN, isPick, isCall, AS.pt, AS.ev, AS.mk', AS.owf, kill, look, setRowG, AV.cells, AV.whole, AV.one, cD, cDs, eatsOf, dpOf, td1, td6, Option.bind, Option.getD, Option.map, Option.isSome, List.map, List.take, List.length, List.set, List.foldr, List.all, List.replicate, List.mem_cons, List.not_mem_nil, List.nodup_cons, List.nodup_nil, List.append_nil, ↓reduceIte, Nat.reduceLT, Nat.reduceAdd, Nat.reduceLeDiff, Nat.reduceEqDiff, Nat.zero_add, Nat.zero_mul, Nat.one_mul, not_false_eq_true, true_and, or_false, or_true, Bool.and_true, Bool.false_eq_true, id_eq, and_self, Nat.succ_ne_zero, Nat.le_refl, tmC_eq e, tysD, tmsD]
    refine sw_callM (con_tmForm 10 1 (tmC e)) rfl ?_ ?_ ?_ (sw_run 200 _ _ _ ?_)
    · simp only [aA, aD, mAs, mA, AS.kl, eatM, tysD, tmsD, rD, eq_self, AS.ev, AS.owf, kill, look, cav, eatsOf, Option.bind, Option.getD, List.map, List.foldr, List.append_nil, ↓reduceIte, id_eq, and_self, tmC_eq]
    · simp only [eatM, tysD, tmsD, eq_self, AS.ev, look, cav, eatsOf, Option.getD, List.map, List.not_mem_nil, List.nodup_cons, List.nodup_nil, List.append_nil, ↓reduceIte, not_false_eq_true, and_self, tmC_eq]
    · simp only [okR]
    simp only [AS.kl, eatM, mkR, flatD, packA, retA, fQ, tysD, tmsD, xRet, rPs, xRes, flatA, rD, rDs, eq_self, xRun, vE, vP, vStore, isCutO, gN, isPick, isCall, AS.pt, AS.ev, AS.setb, AS.mk', AS.owf, kill, look, cav, setRowG, AV.cells, AV.whole, AV.one, eatsOf, td0, td6, Option.bind, Option.getD, List.map, List.take, List.length, List.set, List.foldr, List.all, List.mem_cons, List.not_mem_nil, List.nodup_cons, List.nodup_nil, List.nil_append, List.cons_append, List.append_nil, ↓reduceIte, Nat.reduceLT, Nat.reduceAdd, Nat.reduceEqDiff, Nat.zero_add, not_false_eq_true, or_false, Bool.and_true, Bool.false_eq_true, id_eq, reduceCtorEq, and_self, Nat.le_refl, tNode, ty0, e0, tmC_eq, mk_kind, mk_name, mk_other, mk_n, mk_ty, mk_res, mk_args, tyk, tya, tysC, List.length_cons, List.length_nil, tmsC, Try.results17]
theorem lift_fit {t : Tm} (h : szL (tmC t) ≤ 1048576) : ConfL (tmC (liftT t)) K.tm.fields ∧ cntS (tmC (liftT t)) ≤ 17592186044416 := by
  have h1 : szL (tmC (liftT t)) ≤ 1048577 := by
    cases hb : liftB t
    · rw [lift_no hb]; exact Nat.le_trans (Nat.le_of_eq (show szL (tmC tZ) = 0 from rfl)) (Nat.zero_le _)
    · rw [lift_yes hb, sz_tNode, sz_ms1]; simp only [List.length_cons, List.length_nil]; omega
  have hc := conf_tmS (t := liftT t) (by omega)
  have := cntS_bd hc
  exact ⟨hc, by omega⟩
end Go.Proofs.Ytemlobcbepgbaaa

