/-
  Plain terms, of both sides.
-/
import Derived.Test.YtgjcilainojlfaaTmB
namespace Go.Proofs.Ytgjcilainojlfaa
open Go.RowKit
set_option linter.unusedVariables false
set_option linter.unusedSimpArgs false
set_option maxRecDepth 20000
mutual
def hasT (m : Int) : Ty → Bool
  | .mk k xs => hasTs m xs || decide (k = m)
def hasTs (m : Int) : List Ty → Bool
  | [] => false
  | x :: xs => hasT m x || hasTs m xs
end
theorem hasTs_drop (m : Int) (xs : List Ty) (k : Nat) (h : k < xs.length) : hasTs m (xs.drop k) = (hasT m xs[k]! || hasTs m (xs.drop (k + 1))) := by
  rw [List.drop_eq_getElem_cons h, hasTs, getElem!_pos xs k h]
theorem con_l3Has (m : Int) : ∀ t : Ty, szL (tyC t) ≤ 1000000000 → Con Try.prog 129 [.ag (tyC t), .one (.int m)] [.one (.bool (hasT m t))] := by
  refine Ty.ind fun kd xs ih hz => ?_
  have hz' : xs.length + szL (tysC xs) ≤ 1000000000 := by simpa [tyC, szL, szD] using hz
  have hT : hasT m (.mk kd xs) = (hasTs m xs || decide (kd = m)) := by rw [hasT]
  rw [hT]
  refine con_run Try.func129 rfl rfl (by simp [Try.ntmps129]) ?_
  simp only [argT, argA, eq_self, xRun, vE, vP, isCutO, gN, isPick, isCall, AS.pt, AS.ev, AS.box, look, cav, avB, AV.cells, AV.whole, AV.one, td0, td1, td2, td3, td4, td5, td6, Option.getD, List.map, List.all, ↓reduceIte, Nat.reduceLT, Nat.zero_add, true_and, Bool.and_true, Bool.false_eq_true, Try.ntmps129, tyC]
  refine sw_loop (fun k : Nat => k ≤ xs.length ∧ hasTs m (xs.drop k) = hasTs m xs) (fun k => ⟨24, [(5, .i k), (1, .i m), (2, .bx 0 0)], [(0, [.i kd, .br (.rows 2 xs.length (tysC xs))])], [], 1, []⟩) (fun k => xs.length - k) 0 id ⟨Nat.zero_le _, rfl⟩ ?_ ?_
  · simp only [Sub, subT, subB, subO, subP, inj, AV.ren, AV.rens, AV.lt, AV.lts, eq_self, look, td0, td1, td2, td3, td4, td5, td6, List.map, List.not_mem_nil, List.nodup_cons, List.nodup_nil, ↓reduceIte, Nat.reduceLT, Nat.reduceEqDiff, not_false_eq_true, id_eq, Int.natCast_zero, and_self, Nat.succ_ne_zero]
  · rintro k ⟨hk, hf⟩
    refine sw_run 200 _ _ _ ?_
    by_cases hlt : k < xs.length
    · have hi : (k : Int) < (xs.length : Int) := by omega
      have hR := tysC_row' xs k hlt
      have hm := mem_bang hlt
      have hs := szL_tys' xs k hlt
      have hrec := ih _ hm (by omega)
      rw [hasTs_drop m xs k hlt] at hf
      obtain ⟨b, hb⟩ : ∃ b, b = hasT m xs[k]! := ⟨_, rfl⟩
      rw [← hb] at hrec hf
      simp only [tysD, rowD, eq_self, xRun, vE, vP, vSub, vLoad, vFld, vIdx, vBin, vBinT, isAg, isBo, vLen, isCutO, isB, bv, gN, isPick, isCall, AS.pt, AS.ev, AS.rd, look, avB, td0, td1, td2, td3, td4, td5, td6, Option.getD, Option.isSome, List.map, List.take, List.drop, List.length, List.getElem?_cons_zero, List.getElem?_cons_succ, ↓reduceIte, Nat.reduceLT, Nat.reduceAdd, Nat.reduceEqDiff, Nat.zero_add, ne_eq, not_false_eq_true, true_and, Bool.false_eq_true, Int.toNat_natCast, Int.natCast_nonneg, decide_true, and_self, Nat.succ_ne_zero, Nat.le_refl, hi, hR, tyC_eq]
      refine sw_call (hrec) rfl (aAs_ok ?_) ?_ (sw_run 200 _ _ _ ?_)
      · simp only [aAs, aA, aDs, aD, tysD, AS.ev, look, Option.getD, List.map, List.append_nil, ↓reduceIte, Nat.reduceEqDiff, eq_self, and_self, tyC_eq]
      · simp only [okR]
      cases b
      · rw [Bool.false_or] at hf
        simp only [mkR, flatD, packA, retA, List.headD_cons, qLp, eq_self, xRun, vE, vP, vBin, vBinT, isAg, isBo, isCutO, isB, bv, gN, isPick, isCall, AS.pt, AS.ev, look, cav, td0, td1, td2, td3, td4, td5, td6, Option.getD, ↓reduceIte, Nat.reduceLT, Nat.reduceEqDiff, true_and, Bool.false_eq_true, qLp]
        refine ⟨by unfold inI; omega, k + 1, id, ⟨by omega, hf⟩, by omega, ?_⟩
        simp only [Sub, subT, subB, subO, subP, inj, AV.ren, AV.rens, AV.lt, AV.lts, eq_self, look, td0, td1, td2, td3, td4, td5, td6, List.map, List.not_mem_nil, List.nodup_cons, List.nodup_nil, ↓reduceIte, Nat.reduceLT, Nat.reduceEqDiff, not_false_eq_true, id_eq, and_self, cast1]
      · rw [Bool.true_or] at hf
        simp only [mkR, flatD, packA, retA, List.headD_cons, fQ, qLp, xRet, rPs, xRes, flatA, rD, eq_self, xRun, vE, vP, isCutO, isB, bv, gN, isPick, isCall, AS.pt, AS.ev, look, cav, eatsOf, td0, td1, td2, td3, td4, td5, td6, Option.getD, List.map, List.nodup_nil, ↓reduceIte, Nat.reduceLT, or_false, Bool.false_eq_true, reduceCtorEq, and_self, ← hf, Bool.true_or, Try.results129]
    · have hi : ¬ (k : Int) < (xs.length : Int) := by omega
      rw [List.drop_of_length_le (by omega), hasTs] at hf
      rw [← hf, Bool.false_or]
      simp only [qLp, eq_self, xRun, vE, vP, vSub, vLoad, vFld, vBin, vBinT, isAg, isBo, vLen, isCutO, isB, bv, gN, isPick, isCall, popTo, AS.pt, AS.ev, AS.rd, look, td0, td1, td2, td3, td4, td5, td6, Option.getD, Option.isSome, List.getElem?_cons_zero, List.getElem?_cons_succ, ↓reduceIte, Nat.reduceLT, Nat.reduceEqDiff, Nat.zero_add, ne_eq, not_false_eq_true, true_and, Bool.false_eq_true, decide_false, Nat.succ_ne_zero, hi]
      refine sw_run 200 _ _ _ ?_
      simp only [fQ, xRet, rPs, xRes, flatA, rD, eq_self, xRun, vE, vP, vSub, vLoad, vFld, vBin, vBinT, isAg, isBo, isCutO, gN, isPick, isCall, AS.pt, AS.ev, look, eatsOf, td0, td1, td2, td3, td4, td5, td6, Option.getD, Option.isSome, List.map, List.getElem?_cons_zero, List.nodup_nil, ↓reduceIte, Nat.reduceLT, Nat.reduceEqDiff, Nat.add_zero, ne_eq, not_false_eq_true, or_false, Bool.false_eq_true, reduceCtorEq, and_self, Nat.succ_ne_zero, Try.results129]
def pnS (t : Tm) : Bool := if t.kind < 10 then (if hasT 4 t.ty = true then false else !hasT 4 t.res) else false
theorem con_l8Plain : ∀ t : Tm, szL (tmC t) ≤ 1000000000 → Con Try.prog 89 [.ag (tmC t)] [.one (.bool (allTm pnS t))] := by
  refine Tm.ind fun t ih hz => ?_
  have hT : allTm pnS t = (allTms pnS t.args && pnS t) := by rw [allTm_eq, Bool.and_comm]
  rw [hT]
  have hY := con_l3Has 4 t.ty (sz_partsE hz).1
  have hR := con_l3Has 4 t.res (sz_partsE hz).2.1
  have hz8 := (sz_partsE hz).2.2
  unfold pnS
  generalize hasT 4 t.ty = c at *
  generalize hasT 4 t.res = d at *
  change Con _ _ _ [.one (.bool (allTms pnS t.args && _))]
  clear hT
  refine con_run Try.func89 rfl rfl (by simp [Try.ntmps89]) ?_
  simp only [argT, argA, tysD, tmsD, eq_self, xRun, vE, vP, isCutO, gN, isPick, isCall, AS.pt, AS.ev, AS.box, look, cav, avB, AV.cells, AV.whole, AV.one, td0, td1, td2, td3, td4, td5, td6, Option.getD, List.map, List.all, ↓reduceIte, Nat.reduceLT, Nat.zero_add, true_and, Bool.and_true, Bool.false_eq_true, Try.ntmps89, tmC_eq, tysD, tmsD]
  refine sw_loop (fun k : Nat => k ≤ t.args.length ∧ allTms pnS (t.args.drop k) = allTms pnS t.args) (fun k => ⟨33, [(3, .i k), (1, .bx 0 0)], [(0, [.i t.kind, .s t.name, .s t.other, .i t.n, .i t.ty.kind, .br (.rows 2 t.ty.args.length (tysC t.ty.args)), .i t.res.kind, .br (.rows 2 t.res.args.length (tysC t.res.args)), .br (.rows 9 t.args.length (tmsC t.args))])], [], 1, []⟩) (fun k => t.args.length - k) 0 id ⟨Nat.zero_le _, rfl⟩ ?_ ?_
  · simp only [Sub, subT, subB, subO, subP, inj, AV.ren, AV.rens, AV.lt, AV.lts, eq_self, look, td0, td1, td2, td3, td4, td5, td6, List.map, List.not_mem_nil, List.nodup_cons, List.nodup_nil, ↓reduceIte, Nat.reduceLT, Nat.reduceEqDiff, not_false_eq_true, id_eq, Int.natCast_zero, and_self]
  · rintro k ⟨hk, hf⟩
    refine sw_run 200 _ _ _ ?_
    by_cases hlt : k < t.args.length
    · have hi : (k : Int) < (t.args.length : Int) := by omega
      have hR' := tmsC_row' t.args k hlt
      have hm := mem_bang hlt
      have hs := szL_tms' t.args k hlt
      have hrec := ih _ hm (by omega)
      rw [allTms_drop pnS t.args k hlt] at hf
      obtain ⟨b, hb⟩ : ∃ b, b = allTm pnS t.args[k]! := ⟨_, rfl⟩
      rw [← hb] at hrec hf
      simp only [tysD, tmsD, rowD, eq_self, xRun, vE, vP, vSub, vLoad, vFld, vIdx, vBin, vBinT, isAg, isBo, vLen, isCutO, isB, bv, gN, isPick, isCall, AS.pt, AS.ev, AS.rd, look, avB, td0, td1, td2, td3, td4, td5, td6, Option.getD, Option.isSome, List.map, List.take, List.drop, List.length, List.getElem?_cons_zero, List.getElem?_cons_succ, ↓reduceIte, Nat.reduceLT, Nat.reduceAdd, Nat.reduceEqDiff, Nat.zero_add, ne_eq, not_false_eq_true, true_and, Bool.false_eq_true, Int.toNat_natCast, Int.natCast_nonneg, decide_true, and_self, Nat.succ_ne_zero, Nat.le_refl, hi, hR', tmC_eq]
      refine sw_call (hrec) rfl (aAs_ok ?_) ?_ (sw_run 200 _ _ _ ?_)
      · simp only [aAs, aA, aDs, aD, tysD, tmsD, AS.ev, look, Option.getD, List.map, List.append_nil, ↓reduceIte, eq_self, and_self, tmC_eq]
      · simp only [okR]
      cases b
      · rw [Bool.false_and] at hf
        simp only [mkR, flatD, packA, retA, List.headD_cons, fQ, qLp, xRet, rPs, xRes, flatA, rD, eq_self, xRun, vE, vP, vNot, isCutO, isB, bv, gN, isPick, isCall, AS.pt, AS.ev, look, cav, eatsOf, td0, td1, td2, td3, td4, td5, td6, Option.getD, List.map, List.nodup_nil, ↓reduceIte, Nat.reduceLT, or_false, Bool.false_and, Bool.not_false, Bool.false_eq_true, reduceCtorEq, and_self, ← hf, Try.results89]
      · simp only [mkR, flatD, packA, retA, List.headD_cons, qLp, eq_self, xRun, vE, vP, vBin, vBinT, isAg, isBo, vNot, isCutO, isB, bv, gN, isPick, isCall, AS.pt, AS.ev, look, cav, td0, td1, td2, td3, td4, td5, td6, Option.getD, ↓reduceIte, Nat.reduceLT, Nat.reduceEqDiff, true_and, Bool.not_true, Bool.false_eq_true, qLp]
        refine ⟨by unfold inI; omega, k + 1, id, ⟨by omega, by simpa using hf⟩, by omega, ?_⟩
        simp only [Sub, subT, subB, subO, subP, inj, AV.ren, AV.rens, AV.lt, AV.lts, eq_self, look, td0, td1, td2, td3, td4, td5, td6, List.map, List.not_mem_nil, List.nodup_cons, List.nodup_nil, ↓reduceIte, Nat.reduceLT, Nat.reduceEqDiff, not_false_eq_true, id_eq, and_self, cast1]
    · have hi : ¬ (k : Int) < (t.args.length : Int) := by omega
      rw [List.drop_of_length_le (by omega), allTms] at hf
      rw [← hf, Bool.true_and]
      simp only [qLp, eq_self, xRun, vE, vP, vSub, vLoad, vFld, vBin, vBinT, isAg, isBo, vLen, isCutO, isB, bv, gN, isPick, isCall, popTo, AS.pt, AS.ev, AS.rd, look, td0, td1, td2, td3, td4, td5, td6, Option.getD, Option.isSome, List.getElem?_cons_zero, List.getElem?_cons_succ, ↓reduceIte, Nat.reduceLT, Nat.reduceEqDiff, Nat.zero_add, ne_eq, not_false_eq_true, true_and, Bool.false_eq_true, decide_false, Nat.succ_ne_zero, hi]
      refine sw_run 200 _ _ _ ?_
      rcases pc (t.kind < 10) with h1 | h1
      · simp only [eq_self, xRun, vE, vP, vSub, vLoad, vFld, vBin, vBinT, isAg, isBo, isCutO, isB, bv, gT, gW, gN, gV, isU, isPick, isCall, AS.pt, AS.kn, AS.ev, look, cav, td0, td1, td2, td3, td4, td5, td6, Option.bind, Option.getD, Option.isSome, List.take, List.drop, List.length, List.getElem?_cons_zero, List.getElem?_cons_succ, ↓reduceIte, Nat.reduceLT, Nat.reduceAdd, Nat.reduceLeDiff, Nat.reduceEqDiff, Nat.zero_add, Nat.add_zero, ne_eq, not_false_eq_true, true_and, Bool.false_eq_true, decide_true, and_self, Nat.succ_ne_zero, h1]
        refine sw_call (hY) rfl (aAs_ok ?_) ?_ (sw_run 200 _ _ _ ?_)
        · simp only [aAs, aA, aDs, aD, tysD, AS.ev, look, cav, Option.getD, List.map, List.append_nil, ↓reduceIte, Nat.reduceEqDiff, eq_self, and_self, tysD, tyC_eq]
        · simp only [okR]
        cases c
        · simp only [mkR, flatD, packA, retA, List.headD_cons, eq_self, xRun, vE, vP, vSub, vLoad, vFld, vNot, isCutO, isB, bv, gT, gW, gN, gV, isU, isPick, pkC, pkA, isCall, AS.pt, AS.kn, AS.ev, look, td0, td1, td2, td3, td4, td5, td6, Option.bind, Option.getD, Option.isSome, List.take, List.drop, List.length, List.getElem?_cons_zero, List.getElem?_cons_succ, ↓reduceIte, Nat.reduceLT, Nat.reduceAdd, Nat.reduceLeDiff, Nat.reduceEqDiff, Nat.zero_add, ne_eq, not_false_eq_true, true_and, Bool.not_false, Bool.false_eq_true, and_self, Nat.succ_ne_zero]
          refine sw_call (hR) rfl (aAs_ok ?_) ?_ (sw_run 200 _ _ _ ?_)
          · simp only [aAs, aA, aDs, aD, tysD, AS.ev, look, cav, Option.getD, List.map, List.append_nil, ↓reduceIte, Nat.reduceEqDiff, eq_self, and_self, tysD, tyC_eq]
          · simp only [okR]
          cases d
          all_goals simp only [mkR, flatD, packA, retA, List.headD_cons, fQ, xRet, rPs, xRes, flatA, rD, eq_self, xRun, vE, vP, vNot, isCutO, isB, bv, gT, gW, gN, gV, isU, isPick, pkC, pkA, isCall, AS.pt, AS.kn, AS.ev, look, eatsOf, td0, td1, td2, td3, td4, td5, td6, Option.bind, Option.getD, Option.isSome, List.map, List.getElem?_cons_zero, List.getElem?_cons_succ, List.nodup_nil, ↓reduceIte, Nat.reduceLT, Nat.reduceEqDiff, or_false, Bool.not_true, Bool.not_false, Bool.false_eq_true, reduceCtorEq, and_self, Try.results89]
        · simp only [mkR, flatD, packA, retA, List.headD_cons, fQ, xRet, rPs, xRes, flatA, rD, eq_self, xRun, vE, vP, vNot, isCutO, isB, bv, gT, gW, gN, gV, isU, isPick, pkC, pkA, pkB, isCall, AS.pt, AS.kn, AS.ev, look, cav, eatsOf, td0, td1, td2, td3, td4, td5, td6, Option.bind, Option.getD, Option.isSome, List.map, List.getElem?_cons_zero, List.getElem?_cons_succ, List.nodup_nil, ↓reduceIte, Nat.reduceLT, Nat.reduceEqDiff, or_false, Bool.not_true, Bool.false_eq_true, reduceCtorEq, and_self, Try.results89]
      · simp only [fQ, xRet, rPs, xRes, flatA, rD, eq_self, xRun, vE, vP, vSub, vLoad, vFld, vBin, vBinT, isAg, isBo, isCutO, isB, bv, gT, gW, gN, gV, isU, isPick, pkC, pkB, isCall, AS.pt, AS.kn, AS.ev, look, cav, eatsOf, td0, td1, td2, td3, td4, td5, td6, Option.bind, Option.getD, Option.isSome, List.map, List.getElem?_cons_zero, List.getElem?_cons_succ, List.nodup_nil, ↓reduceIte, Nat.reduceLT, Nat.reduceEqDiff, Nat.add_zero, ne_eq, not_false_eq_true, or_false, Bool.not_true, Bool.false_eq_true, reduceCtorEq, decide_false, and_self, Nat.succ_ne_zero, h1, Try.results89]
theorem con_IsPlainS (t : Tm) (hz : szL (tmC t) ≤ 1000000000) : Con Try.prog 48 [.ag (tmC t)] [.one (.bool (allTm isFm t && allTm pnS t))] := by
  have h1 := con_IsTermS t hz
  have h2 := con_l8Plain t hz
  generalize allTm isFm t = a at *
  generalize allTm pnS t = b at *
  cases a
  all_goals
    refine con_run Try.func48 rfl rfl (by simp [Try.ntmps48]) ?_
    simp only [argT, argA, tysD, tmsD, eq_self, xRun, vE, vP, vSub, vLoad, isCutO, gN, isPick, isCall, AS.pt, AS.ev, AS.box, look, cav, avB, AV.cells, AV.whole, AV.one, td0, td1, td2, td3, td4, td5, td6, Option.getD, List.map, List.take, List.drop, List.length, List.all, ↓reduceIte, Nat.reduceLT, Nat.reduceAdd, Nat.reduceEqDiff, Nat.zero_add, true_and, Bool.true_and, Bool.and_true, Bool.false_and, Bool.false_eq_true, Nat.le_refl, tmC_eq, tysD, tmsD, Try.ntmps48]
    refine sw_call (h1) rfl (aAs_ok ?_) ?_ (sw_run 200 _ _ _ ?_)
    · simp only [aAs, aA, aDs, aD, tysD, tmsD, AS.ev, look, Option.getD, List.map, List.append_nil, ↓reduceIte, eq_self, and_self, tmC_eq, tysD, tmsD]
    · simp only [okR]
    try simp only [mkR, flatD, packA, retA, List.headD_cons, fQ, xRet, rPs, xRes, flatA, rD, eq_self, xRun, vE, vP, vSub, vLoad, isCutO, isB, bv, gT, gW, gN, gV, isU, isPick, pkC, pkB, isCall, AS.pt, AS.kn, AS.ev, look, cav, eatsOf, td0, td1, td2, td3, td4, td5, td6, Option.bind, Option.getD, Option.isSome, List.map, List.take, List.drop, List.length, List.getElem?_cons_zero, List.getElem?_cons_succ, List.nodup_nil, ↓reduceIte, Nat.reduceLT, Nat.reduceAdd, Nat.reduceEqDiff, Nat.zero_add, true_and, or_false, Bool.not_true, Bool.false_eq_true, reduceCtorEq, and_self, Nat.le_refl, Try.results48]
  · refine sw_call (h2) rfl (aAs_ok ?_) ?_ (sw_run 200 _ _ _ ?_)
    · simp only [aAs, aA, aDs, aD, tysD, tmsD, AS.ev, look, Option.getD, List.map, List.append_nil, ↓reduceIte, Nat.reduceEqDiff, eq_self, and_self, tmC_eq, tysD, tmsD]
    · simp only [okR]
    simp only [mkR, flatD, packA, retA, List.headD_cons, fQ, xRet, rPs, xRes, flatA, rD, eq_self, xRun, vE, vP, isCutO, isB, bv, gN, isPick, pkC, pkA, isCall, AS.pt, AS.ev, look, eatsOf, td0, td1, td2, td3, td4, td5, td6, Option.getD, List.map, List.nodup_nil, ↓reduceIte, Nat.reduceLT, Nat.reduceEqDiff, or_false, Bool.false_eq_true, reduceCtorEq, and_self, Try.results48]
def nc (t : Ty) : Bool := !decide (t.kind = 4)
def plTy (t : Ty) : Bool := vTy t && allTy nc t
def pnI (t : Tm) : Bool := if (decide (10 ≤ t.kind) && decide (t.kind ≤ 13)) = true then false else if t.kind = 6 then plTy t.ty else if t.kind = 9 then plTy t.ty && plTy t.res else true
theorem con_nc (t : Ty) : Con Try.prog 137 [.ag (tyC t)] [.one (.bool (nc t))] := by
  unfold nc
  rcases pc (t.kind = 4) with h | h
  all_goals
    refine con_run Try.func137 rfl rfl (by simp [Try.ntmps137]) ?_
    simp only [argT, argA, fQ, tysD, xRet, rPs, xRes, flatA, rD, eq_self, xRun, vE, vP, vSub, vLoad, vFld, vBin, vBinT, isAg, isBo, isCutO, gN, isPick, isCall, AS.pt, AS.ev, AS.box, look, cav, avB, AV.cells, AV.whole, AV.one, eatsOf, td0, td1, td2, td3, td4, td5, td6, Option.getD, Option.isSome, List.map, List.getElem?_cons_zero, List.all, List.nodup_nil, ↓reduceIte, Nat.reduceLT, Nat.reduceEqDiff, Nat.zero_add, Nat.add_zero, ne_eq, not_false_eq_true, not_true_eq_false, or_false, Bool.and_true, Bool.not_true, Bool.not_false, Bool.false_eq_true, reduceCtorEq, decide_true, decide_false, and_self, Nat.succ_ne_zero, tyC_eq, h, Try.ntmps137, Try.results137]
theorem con_IsPlainTy (t : Ty) (hz : szL (tyC t) ≤ 1000000000) : Con Try.prog 97 [.ag (tyC t)] [.one (.bool (plTy t))] := by
  have h1 := con_ValidTyI t hz
  have h2 := con_allTypes nc 137 1000000000 (Nat.le_refl _) (fun t _ => con_nc t) t hz
  unfold plTy
  generalize vTy t = a at *
  generalize allTy nc t = b at *
  cases a
  all_goals
    refine con_run Try.func97 rfl rfl (by simp [Try.ntmps97]) ?_
    simp only [argT, argA, tysD, eq_self, xRun, vE, vP, vSub, vLoad, isCutO, gN, isPick, isCall, AS.pt, AS.ev, AS.box, look, cav, avB, AV.cells, AV.whole, AV.one, td0, td1, td2, td3, td4, td5, td6, Option.getD, List.map, List.take, List.drop, List.length, List.all, ↓reduceIte, Nat.reduceLT, Nat.reduceAdd, Nat.reduceEqDiff, Nat.zero_add, true_and, Bool.true_and, Bool.and_true, Bool.false_and, Bool.false_eq_true, Nat.le_refl, tyC_eq, tysD, Try.ntmps97]
    refine sw_call (h1) rfl (aAs_ok ?_) ?_ (sw_run 200 _ _ _ ?_)
    · simp only [aAs, aA, aDs, aD, tysD, AS.ev, look, Option.getD, List.map, List.append_nil, ↓reduceIte, eq_self, and_self, tyC_eq, tysD]
    · simp only [okR]
    try simp only [mkR, flatD, packA, retA, List.headD_cons, fQ, xRet, rPs, xRes, flatA, rD, eq_self, xRun, vE, vP, vSub, vLoad, isCutO, isB, bv, gT, gW, gN, gV, isU, isPick, pkC, pkB, isCall, AS.pt, AS.kn, AS.ev, look, cav, eatsOf, td0, td1, td2, td3, td4, td5, td6, Option.bind, Option.getD, Option.isSome, List.map, List.take, List.drop, List.length, List.getElem?_cons_zero, List.getElem?_cons_succ, List.nodup_nil, ↓reduceIte, Nat.reduceLT, Nat.reduceAdd, Nat.reduceEqDiff, Nat.zero_add, true_and, or_false, Bool.not_true, Bool.false_eq_true, reduceCtorEq, and_self, Nat.le_refl, Try.results97]
  · refine sw_call (h2) rfl (aAs_ok ?_) ?_ (sw_run 200 _ _ _ ?_)
    · simp only [aAs, aA, aDs, aD, tysD, AS.ev, look, Option.getD, List.map, List.append_nil, ↓reduceIte, Nat.reduceEqDiff, eq_self, and_self, tyC_eq, tysD]
    · simp only [okR]
    simp only [mkR, flatD, packA, retA, List.headD_cons, fQ, xRet, rPs, xRes, flatA, rD, eq_self, xRun, vE, vP, isCutO, isB, bv, gN, isPick, pkC, pkA, isCall, AS.pt, AS.ev, look, eatsOf, td0, td1, td2, td3, td4, td5, td6, Option.getD, List.map, List.nodup_nil, ↓reduceIte, Nat.reduceLT, Nat.reduceEqDiff, or_false, Bool.false_eq_true, reduceCtorEq, and_self, Try.results97]
theorem con_stg (n : Int) : Con Try.prog 96 [.one (.int n)] [.one (.bool (decide (10 ≤ n) && decide (n ≤ 13)))] := by
  have h := con_within n 10 13
  generalize (decide (10 ≤ n) && decide (n ≤ 13)) = b at *
  refine con_run Try.func96 rfl rfl (by simp [Try.ntmps96]) ?_
  simp only [argT, argA, eq_self, xRun, vE, vP, isCutO, gN, isPick, isCall, AS.pt, AS.ev, look, cav, avB, td0, td1, td2, td3, td4, td5, td6, Option.getD, ↓reduceIte, Nat.reduceLT, true_and, Bool.false_eq_true, reduceCtorEq, Try.ntmps96]
  refine sw_call (h) rfl (aAs_ok ?_) ?_ (sw_run 200 _ _ _ ?_)
  · simp only [aAs, aA, aD, AS.ev, look, cav, Option.getD, List.map, List.append_nil, ↓reduceIte, eq_self, and_self]
  · simp only [okR]
  simp only [mkR, flatD, packA, retA, List.headD_cons, fQ, xRet, rPs, xRes, flatA, rD, eq_self, xRun, vE, vP, isCutO, gN, isPick, isCall, AS.pt, AS.ev, look, eatsOf, td0, td1, td2, td3, td4, td5, td6, Option.getD, List.map, List.nodup_nil, ↓reduceIte, Nat.reduceLT, or_false, Bool.false_eq_true, reduceCtorEq, and_self, Try.results96]
theorem con_pnI (t : Tm) (hz : szL (tmC t) ≤ 1000000000) : Con Try.prog 95 [.ag (tmC t)] [.one (.bool (pnI t))] := by
  have hS := con_stg t.kind
  have hT := con_IsPlainTy t.ty (sz_partsE hz).1
  have hR := con_IsPlainTy t.res (sz_partsE hz).2.1
  unfold pnI
  generalize (decide (10 ≤ t.kind) && decide (t.kind ≤ 13)) = b at *
  generalize plTy t.ty = c at *
  generalize plTy t.res = d at *
  cases b
  case true =>
    rcases pc (t.kind = 6) with h6 | h6
    all_goals rcases pc (t.kind = 9) with h9 | h9
    all_goals
      refine con_run Try.func95 rfl rfl (by simp [Try.ntmps95]) ?_
      simp only [argT, argA, tysD, tmsD, eq_self, xRun, vE, vP, vSub, vLoad, vFld, vBin, vBinT, isAg, isBo, isCutO, isB, bv, gT, gW, gN, gV, isU, isPick, pkC, pkA, pkB, isCall, AS.pt, AS.kn, AS.ev, AS.box, look, cav, avB, AV.cells, AV.whole, AV.one, td0, td1, td2, td3, td4, td5, td6, Option.bind, Option.getD, Option.isSome, List.map, List.getElem?_cons_zero, List.getElem?_cons_succ, List.all, ↓reduceIte, Nat.reduceLT, Nat.reduceEqDiff, Nat.zero_add, Nat.add_zero, ne_eq, not_false_eq_true, true_and, Bool.and_true, Bool.not_false, Bool.false_eq_true, Bool.true_eq_false, decide_true, decide_false, and_self, Nat.succ_ne_zero, tmC_eq, tysD, tmsD, h6, h9, Try.ntmps95]
      refine sw_call (hS) rfl (aAs_ok ?_) ?_ (sw_run 200 _ _ _ ?_)
      · simp only [aAs, aA, aD, AS.ev, look, Option.getD, List.map, List.append_nil, ↓reduceIte, eq_self, and_self]
      · simp only [okR]
      simp only [mkR, flatD, packA, retA, List.headD_cons, fQ, xRet, rPs, xRes, flatA, rD, eq_self, xRun, vE, vP, vNot, isCutO, isB, bv, gT, gW, gN, gV, isU, isPick, pkC, pkB, isCall, AS.pt, AS.kn, AS.ev, look, cav, eatsOf, td0, td1, td2, td3, td4, td5, td6, Option.bind, Option.getD, Option.isSome, List.map, List.getElem?_cons_zero, List.getElem?_cons_succ, List.nodup_nil, ↓reduceIte, Nat.reduceLT, Nat.reduceEqDiff, or_false, Bool.not_true, Bool.false_eq_true, reduceCtorEq, and_self, Try.results95]
  rcases pc (t.kind = 6) with h6 | h6
  · rcases pc (t.kind = 9) with h9 | h9
    all_goals cases c
    all_goals
      refine con_run Try.func95 rfl rfl (by simp [Try.ntmps95]) ?_
      simp only [argT, argA, tysD, tmsD, eq_self, xRun, vE, vP, vSub, vLoad, vFld, vBin, vBinT, isAg, isBo, isCutO, isB, bv, gT, gW, gN, gV, isU, isPick, pkC, pkA, isCall, AS.pt, AS.kn, AS.ev, AS.box, look, cav, avB, AV.cells, AV.whole, AV.one, td0, td1, td2, td3, td4, td5, td6, Option.bind, Option.getD, Option.isSome, List.map, List.getElem?_cons_zero, List.getElem?_cons_succ, List.all, ↓reduceIte, Nat.reduceLT, Nat.reduceEqDiff, Nat.zero_add, Nat.add_zero, ne_eq, not_false_eq_true, true_and, Bool.and_true, Bool.not_false, Bool.false_eq_true, Bool.true_eq_false, decide_true, and_self, Nat.succ_ne_zero, tmC_eq, tysD, tmsD, h6, Try.ntmps95]
      refine sw_call (hS) rfl (aAs_ok ?_) ?_ (sw_run 200 _ _ _ ?_)
      · simp only [aAs, aA, aD, AS.ev, look, Option.getD, List.map, List.append_nil, ↓reduceIte, eq_self, and_self]
      · simp only [okR]
      simp only [mkR, flatD, packA, retA, List.headD_cons, eq_self, xRun, vE, vP, vSub, vLoad, vFld, vNot, isCutO, isB, bv, gT, gW, gN, gV, isU, isPick, isCall, AS.pt, AS.kn, AS.ev, look, td0, td1, td2, td3, td4, td5, td6, Option.bind, Option.getD, Option.isSome, List.take, List.drop, List.length, List.getElem?_cons_zero, List.getElem?_cons_succ, ↓reduceIte, Nat.reduceLT, Nat.reduceAdd, Nat.reduceLeDiff, Nat.reduceEqDiff, Nat.zero_add, ne_eq, not_false_eq_true, true_and, Bool.not_true, Bool.not_false, Bool.false_eq_true, and_self, Nat.succ_ne_zero]
      refine sw_call (hT) rfl (aAs_ok ?_) ?_ (sw_run 200 _ _ _ ?_)
      · simp only [aAs, aA, aDs, aD, tysD, AS.ev, look, Option.getD, List.map, List.append_nil, ↓reduceIte, Nat.reduceEqDiff, eq_self, and_self, tyC_eq, tysD]
      · simp only [okR]
      simp only [mkR, flatD, packA, retA, List.headD_cons, fQ, xRet, rPs, xRes, flatA, rD, eq_self, xRun, vE, vP, vSub, vLoad, vFld, vBin, vBinT, isAg, isBo, isCutO, isB, bv, gT, gW, gN, gV, isU, isPick, pkC, pkA, pkB, isCall, AS.pt, AS.kn, AS.ev, look, cav, eatsOf, td0, td1, td2, td3, td4, td5, td6, Option.bind, Option.getD, Option.isSome, List.map, List.getElem?_cons_zero, List.getElem?_cons_succ, List.nodup_nil, ↓reduceIte, Nat.reduceLT, Nat.reduceEqDiff, Nat.add_zero, ne_eq, not_false_eq_true, or_false, Bool.not_true, Bool.not_false, Bool.false_eq_true, Bool.true_eq_false, reduceCtorEq, decide_true, and_self, Nat.succ_ne_zero, h6, Try.results95]
  · rcases pc (t.kind = 9) with h9 | h9
    case inr =>
      refine con_run Try.func95 rfl rfl (by simp [Try.ntmps95]) ?_
      simp only [argT, argA, tysD, tmsD, eq_self, xRun, vE, vP, vSub, vLoad, vFld, vBin, vBinT, isAg, isBo, isCutO, isB, bv, gT, gW, gN, gV, isU, isPick, pkC, pkB, isCall, AS.pt, AS.kn, AS.ev, AS.box, look, cav, avB, AV.cells, AV.whole, AV.one, td0, td1, td2, td3, td4, td5, td6, Option.bind, Option.getD, Option.isSome, List.map, List.getElem?_cons_zero, List.getElem?_cons_succ, List.all, ↓reduceIte, Nat.reduceLT, Nat.reduceEqDiff, Nat.zero_add, Nat.add_zero, ne_eq, not_false_eq_true, true_and, Bool.and_true, Bool.false_eq_true, decide_false, and_self, Nat.succ_ne_zero, tmC_eq, tysD, tmsD, h6, h9, Try.ntmps95]
      refine sw_call (hS) rfl (aAs_ok ?_) ?_ (sw_run 200 _ _ _ ?_)
      · simp only [aAs, aA, aD, AS.ev, look, Option.getD, List.map, List.append_nil, ↓reduceIte, eq_self, and_self]
      · simp only [okR]
      simp only [mkR, flatD, packA, retA, List.headD_cons, fQ, xRet, rPs, xRes, flatA, rD, eq_self, xRun, vE, vP, vNot, isCutO, isB, bv, gT, gW, gN, gV, isU, isPick, pkC, pkA, isCall, AS.pt, AS.kn, AS.ev, look, cav, eatsOf, td0, td1, td2, td3, td4, td5, td6, Option.bind, Option.getD, Option.isSome, List.map, List.getElem?_cons_zero, List.getElem?_cons_succ, List.nodup_nil, ↓reduceIte, Nat.reduceLT, Nat.reduceEqDiff, or_false, Bool.not_false, Bool.false_eq_true, Bool.true_eq_false, reduceCtorEq, and_self, Try.results95]
    cases c
    · refine con_run Try.func95 rfl rfl (by simp [Try.ntmps95]) ?_
      simp only [argT, argA, tysD, tmsD, eq_self, xRun, vE, vP, vSub, vLoad, vFld, vBin, vBinT, isAg, isBo, isCutO, isB, bv, gT, gW, gN, gV, isU, isPick, pkC, pkB, isCall, AS.pt, AS.kn, AS.ev, AS.box, look, cav, avB, AV.cells, AV.whole, AV.one, td0, td1, td2, td3, td4, td5, td6, Option.bind, Option.getD, Option.isSome, List.map, List.getElem?_cons_zero, List.getElem?_cons_succ, List.all, ↓reduceIte, Nat.reduceLT, Nat.reduceEqDiff, Nat.zero_add, Nat.add_zero, ne_eq, not_false_eq_true, true_and, Bool.and_true, Bool.false_and, Bool.false_eq_true, decide_true, decide_false, and_self, Nat.succ_ne_zero, tmC_eq, tysD, tmsD, h6, h9, Try.ntmps95]
      refine sw_call (hS) rfl (aAs_ok ?_) ?_ (sw_run 200 _ _ _ ?_)
      · simp only [aAs, aA, aD, AS.ev, look, Option.getD, List.map, List.append_nil, ↓reduceIte, eq_self, and_self]
      · simp only [okR]
      simp only [mkR, flatD, packA, retA, List.headD_cons, eq_self, xRun, vE, vP, vSub, vLoad, vFld, vNot, isCutO, isB, bv, gT, gW, gN, gV, isU, isPick, isCall, AS.pt, AS.kn, AS.ev, look, td0, td1, td2, td3, td4, td5, td6, Option.bind, Option.getD, Option.isSome, List.take, List.drop, List.length, List.getElem?_cons_zero, List.getElem?_cons_succ, ↓reduceIte, Nat.reduceLT, Nat.reduceAdd, Nat.reduceLeDiff, Nat.reduceEqDiff, Nat.zero_add, ne_eq, not_false_eq_true, true_and, Bool.not_true, Bool.not_false, Bool.false_eq_true, and_self, Nat.succ_ne_zero]
      refine sw_call (hT) rfl (aAs_ok ?_) ?_ (sw_run 200 _ _ _ ?_)
      · simp only [aAs, aA, aDs, aD, tysD, AS.ev, look, Option.getD, List.map, List.append_nil, ↓reduceIte, Nat.reduceEqDiff, eq_self, and_self, tyC_eq, tysD]
      · simp only [okR]
      simp only [mkR, flatD, packA, retA, List.headD_cons, fQ, xRet, rPs, xRes, flatA, rD, eq_self, xRun, vE, vP, isCutO, isB, bv, gT, gW, gN, gV, isU, isPick, pkC, pkA, pkB, isCall, AS.pt, AS.kn, AS.ev, look, cav, eatsOf, td0, td1, td2, td3, td4, td5, td6, Option.bind, Option.getD, Option.isSome, List.map, List.getElem?_cons_zero, List.getElem?_cons_succ, List.nodup_nil, ↓reduceIte, Nat.reduceLT, Nat.reduceEqDiff, or_false, Bool.not_true, Bool.false_eq_true, reduceCtorEq, and_self, Try.results95]
    · refine con_run Try.func95 rfl rfl (by simp [Try.ntmps95]) ?_
      simp only [argT, argA, tysD, tmsD, eq_self, xRun, vE, vP, vSub, vLoad, vFld, vBin, vBinT, isAg, isBo, isCutO, isB, bv, gT, gW, gN, gV, isU, isPick, pkC, pkB, isCall, AS.pt, AS.kn, AS.ev, AS.box, look, cav, avB, AV.cells, AV.whole, AV.one, td0, td1, td2, td3, td4, td5, td6, Option.bind, Option.getD, Option.isSome, List.map, List.getElem?_cons_zero, List.getElem?_cons_succ, List.all, ↓reduceIte, Nat.reduceLT, Nat.reduceEqDiff, Nat.zero_add, Nat.add_zero, ne_eq, not_false_eq_true, true_and, Bool.true_and, Bool.and_true, Bool.false_eq_true, decide_true, decide_false, and_self, Nat.succ_ne_zero, tmC_eq, tysD, tmsD, h6, h9, Try.ntmps95]
      refine sw_call (hS) rfl (aAs_ok ?_) ?_ (sw_run 200 _ _ _ ?_)
      · simp only [aAs, aA, aD, AS.ev, look, Option.getD, List.map, List.append_nil, ↓reduceIte, eq_self, and_self]
      · simp only [okR]
      simp only [mkR, flatD, packA, retA, List.headD_cons, eq_self, xRun, vE, vP, vSub, vLoad, vFld, vNot, isCutO, isB, bv, gT, gW, gN, gV, isU, isPick, isCall, AS.pt, AS.kn, AS.ev, look, td0, td1, td2, td3, td4, td5, td6, Option.bind, Option.getD, Option.isSome, List.take, List.drop, List.length, List.getElem?_cons_zero, List.getElem?_cons_succ, ↓reduceIte, Nat.reduceLT, Nat.reduceAdd, Nat.reduceLeDiff, Nat.reduceEqDiff, Nat.zero_add, ne_eq, not_false_eq_true, true_and, Bool.not_true, Bool.not_false, Bool.false_eq_true, and_self, Nat.succ_ne_zero]
      refine sw_call (hT) rfl (aAs_ok ?_) ?_ (sw_run 200 _ _ _ ?_)
      · simp only [aAs, aA, aDs, aD, tysD, AS.ev, look, Option.getD, List.map, List.append_nil, ↓reduceIte, Nat.reduceEqDiff, eq_self, and_self, tyC_eq, tysD]
      · simp only [okR]
      simp only [mkR, flatD, packA, retA, List.headD_cons, eq_self, xRun, vE, vP, vSub, vLoad, vFld, vBin, vBinT, isAg, isBo, isCutO, isB, bv, gT, gW, gN, gV, isU, isPick, isCall, AS.pt, AS.kn, AS.ev, look, cav, td0, td1, td2, td3, td4, td5, td6, Option.bind, Option.getD, Option.isSome, List.take, List.drop, List.length, List.getElem?_cons_zero, List.getElem?_cons_succ, ↓reduceIte, Nat.reduceLT, Nat.reduceAdd, Nat.reduceLeDiff, Nat.reduceEqDiff, Nat.zero_add, Nat.add_zero, ne_eq, not_false_eq_true, true_and, Bool.false_eq_true, decide_false, and_self, Nat.succ_ne_zero, h6]
      refine sw_call (hR) rfl (aAs_ok ?_) ?_ (sw_run 200 _ _ _ ?_)
      · simp only [aAs, aA, aDs, aD, tysD, AS.ev, look, Option.getD, List.map, List.append_nil, ↓reduceIte, Nat.reduceEqDiff, eq_self, and_self, tyC_eq, tysD]
      · simp only [okR]
      simp only [mkR, flatD, packA, retA, List.headD_cons, fQ, xRet, rPs, xRes, flatA, rD, eq_self, xRun, vE, vP, isCutO, isB, bv, gT, gW, gN, gV, isU, isPick, pkC, pkA, pkB, isCall, AS.pt, AS.kn, AS.ev, look, eatsOf, td0, td1, td2, td3, td4, td5, td6, Option.bind, Option.getD, Option.isSome, List.map, List.getElem?_cons_zero, List.getElem?_cons_succ, List.nodup_nil, ↓reduceIte, Nat.reduceLT, Nat.reduceEqDiff, or_false, Bool.false_eq_true, reduceCtorEq, and_self, Try.results95]
theorem con_IsPlainI (t : Tm) (hz : szL (tmC t) ≤ 1000000000) : Con Try.prog 52 [.ag (tmC t)] [.one (.bool (allTm isFm t && allTm pnI t))] := by
  have h1 := con_IsTermI t hz
  have h2 := con_allTerms pnI 95 1000000000 (Nat.le_refl _) con_pnI t hz
  generalize allTm isFm t = a at *
  generalize allTm pnI t = b at *
  cases a
  all_goals
    refine con_run Try.func52 rfl rfl (by simp [Try.ntmps52]) ?_
    simp only [argT, argA, tysD, tmsD, eq_self, xRun, vE, vP, vSub, vLoad, isCutO, gN, isPick, isCall, AS.pt, AS.ev, AS.box, look, cav, avB, AV.cells, AV.whole, AV.one, td0, td1, td2, td3, td4, td5, td6, Option.getD, List.map, List.take, List.drop, List.length, List.all, ↓reduceIte, Nat.reduceLT, Nat.reduceAdd, Nat.reduceEqDiff, Nat.zero_add, true_and, Bool.true_and, Bool.and_true, Bool.false_and, Bool.false_eq_true, Nat.le_refl, tmC_eq, tysD, tmsD, Try.ntmps52]
    refine sw_call (h1) rfl (aAs_ok ?_) ?_ (sw_run 200 _ _ _ ?_)
    · simp only [aAs, aA, aDs, aD, tysD, tmsD, AS.ev, look, Option.getD, List.map, List.append_nil, ↓reduceIte, eq_self, and_self, tmC_eq, tysD, tmsD]
    · simp only [okR]
    try simp only [mkR, flatD, packA, retA, List.headD_cons, fQ, xRet, rPs, xRes, flatA, rD, eq_self, xRun, vE, vP, vSub, vLoad, isCutO, isB, bv, gT, gW, gN, gV, isU, isPick, pkC, pkB, isCall, AS.pt, AS.kn, AS.ev, look, cav, eatsOf, td0, td1, td2, td3, td4, td5, td6, Option.bind, Option.getD, Option.isSome, List.map, List.take, List.drop, List.length, List.getElem?_cons_zero, List.getElem?_cons_succ, List.nodup_nil, ↓reduceIte, Nat.reduceLT, Nat.reduceAdd, Nat.reduceEqDiff, Nat.zero_add, true_and, or_false, Bool.not_true, Bool.false_eq_true, reduceCtorEq, and_self, Nat.le_refl, Try.results52]
  · refine sw_call (h2) rfl (aAs_ok ?_) ?_ (sw_run 200 _ _ _ ?_)
    · simp only [aAs, aA, aDs, aD, tysD, tmsD, AS.ev, look, Option.getD, List.map, List.append_nil, ↓reduceIte, Nat.reduceEqDiff, eq_self, and_self, tmC_eq, tysD, tmsD]
    · simp only [okR]
    simp only [mkR, flatD, packA, retA, List.headD_cons, fQ, xRet, rPs, xRes, flatA, rD, eq_self, xRun, vE, vP, isCutO, isB, bv, gN, isPick, pkC, pkA, isCall, AS.pt, AS.ev, look, eatsOf, td0, td1, td2, td3, td4, td5, td6, Option.getD, List.map, List.nodup_nil, ↓reduceIte, Nat.reduceLT, Nat.reduceEqDiff, or_false, Bool.false_eq_true, reduceCtorEq, and_self, Try.results52]
mutual
theorem nc_has : ∀ t : Ty, allTy nc t = !hasT 4 t
  | .mk k xs => by
    rw [allTy, hasT, ncs_has xs]
    show (!decide (k = 4) && !hasTs 4 xs) = !(hasTs 4 xs || decide (k = 4))
    cases hasTs 4 xs <;> cases decide (k = 4) <;> rfl
theorem ncs_has : ∀ xs : List Ty, allTys nc xs = !hasTs 4 xs
  | [] => rfl
  | x :: xs => by rw [allTys, hasTs, nc_has x, ncs_has xs]; cases hasT 4 x <;> cases hasTs 4 xs <;> rfl
end
theorem has_zero {t : Ty} (h : eqTy t (.mk 0 []) = true) : hasT 4 t = false := by
  rw [eqTy_zero] at h
  obtain ⟨k, xs⟩ := t
  have h' : (decide (k = 0) && decide ((xs.length : Int) = 0)) = true := h
  simp only [Bool.and_eq_true, decide_eq_true_eq] at h'
  obtain ⟨rfl, h2⟩ := h'
  have : xs = [] := List.length_eq_zero_iff.mp (by omega)
  subst this
  rfl
theorem pn_same {t : Tm} (h : isFm t = true) : pnI t = pnS t := by
  rw [isFm_eq] at h
  simp only [Bool.and_eq_true, decide_eq_true_eq] at h
  obtain ⟨_, hn, _, _, _, hT, hR⟩ := h
  unfold pnI pnS plTy
  rw [nc_has, nc_has]
  unfold isNm at hn
  unfold wT at hT
  unfold wR at hR
  rcases k_cases t.kind with h | h | h | h | h | h | h | h | h | h | h | h | h | ⟨g1, g2, g3, g4, g5, g6, g7, g8, g9, g10, g11, g12, g13⟩
  case inr.inr.inr.inr.inr.inl =>
    simp only [h, if_true, if_false, Int.reduceEq] at hn hT hR ⊢
    have hn' : vTy t.ty = true := by simp only [Bool.and_eq_true] at hn; exact hn.2
    rw [has_zero hR, hn']
    cases hasT 4 t.ty <;> rfl
  case inr.inr.inr.inr.inr.inr.inr.inr.inl =>
    simp only [h, if_true, if_false, Int.reduceEq] at hn hT hR ⊢
    simp only [Bool.and_eq_true] at hn
    have hn1 : vTy t.ty = true := hn.2.2.2.1
    have hn2 : vTy t.res = true := hn.2.2.2.2
    rw [hn1, hn2]
    cases hasT 4 t.ty <;> cases hasT 4 t.res <;> rfl
  case inr.inr.inr.inr.inr.inr.inr.inr.inr.inr.inr.inr.inr =>
    simp only [g1, g2, g3, g4, g6, g8, g9, if_false] at hn
    rw [rg_out _ g1 g2 g3 g4 g5 g6 g7 g8 g9 g10 g11 g12 g13] at hn
    cases hn
  all_goals
    simp only [h, if_false, Int.reduceEq] at hT hR ⊢
    simp only [has_zero hT, has_zero hR]
    try rfl
mutual
theorem pns_same : ∀ t : Tm, allTm isFm t = true → allTm pnI t = allTm pnS t
  | .mk k s o n ty r xs, h => by
    rw [allTm] at h ⊢
    rw [allTm]
    simp only [Bool.and_eq_true] at h
    rw [pn_same h.1, pnss_same xs h.2]
theorem pnss_same : ∀ xs : List Tm, allTms isFm xs = true → allTms pnI xs = allTms pnS xs
  | [], _ => rfl
  | x :: xs, h => by
    rw [allTms] at h ⊢
    rw [allTms]
    simp only [Bool.and_eq_true] at h
    rw [pns_same x h.1, pnss_same xs h.2]
end
def plT (t : Tm) : Bool := allTm isFm t && allTm pnS t
theorem pl_same (t : Tm) : (allTm isFm t && allTm pnI t) = plT t := by
  unfold plT
  cases h : allTm isFm t with
  | false => rfl
  | true => rw [pns_same t h]
end Go.Proofs.Ytgjcilainojlfaa
