/-
  CallOf of both sides: a function of parameters, called with numbers.
-/
import Derived.Test.YtkfknmnocddjbaaFoI
namespace Go.Proofs.Ytkfknmnocddjbaa
open Go.RowKit
set_option linter.unusedVariables false
set_option linter.unusedSimpArgs false
set_option maxRecDepth 20000
def tBool (n : Int) : Tm := .mk 3 e0 e0 n ty0 ty0 []
def litT (k n : Int) : Tm := if k = 2 then tBool n else tInt n
def caK (ps : List Pm) (as1 : List Int) (t : Tm) : Nat → Tm
  | 0 => t
  | k + 1 => tNode 7 [caK ps as1 t k, litT ps[k]!.ty.kind as1[k]!]
def caT (ps : List Pm) (e : Tm) (as1 : List Int) : Tm := if as1.length = ps.length then caK ps as1 (foT ps e) ps.length else t0
theorem sz_litT (k n : Int) : szL (tmC (litT k n)) = 0 := by unfold litT; split <;> rfl
theorem sz_caK (ps : List Pm) (as1 : List Int) (t : Tm) : ∀ k, szL (tmC (caK ps as1 t k)) = szL (tmC t) + 2 * k
  | 0 => rfl
  | k + 1 => by
    rw [caK, sz_tNode, sz_ms2, sz_caK ps as1 t k, sz_litT]
    simp only [List.length_cons, List.length_nil]
    omega
theorem caT_fit {ps : List Pm} {e : Tm} {as1 : List Int} (h0 : szD (pmsD ps) ≤ 2000000) (h1 : szL (tmC e) ≤ 2000000) : ConfL (tmC (caT ps e as1)) K.tm.fields ∧ cntS (tmC (caT ps e as1)) ≤ 17592186044416 := by
  have h := sz_foT ps e
  rw [sz_pmsD] at h0
  have hs : szL (tmC (caT ps e as1)) ≤ 100000000 := by
    unfold caT
    split
    · rw [sz_caK]; omega
    · have : szL (tmC t0) = 0 := rfl
      omega
  have hc := conf_tmS (t := caT ps e as1) (by omega)
  have := cntS_bd hc
  exact ⟨hc, by omega⟩
theorem con_tmValue (k n : Int) : Con Try.prog 138 [.one (.int n), .one (.bool (decide (k = 2)))] [.ag (tmC (litT k n))] := by
  refine con_run Try.func138 rfl rfl (by simp [Try.ntmps138]) ?_
  by_cases h : k = 2
  · have hl : litT k n = tBool n := if_pos h
    rw [hl]
    simp only [argT, argA, fQ, tysD, tmsD, xRet, rPs, xRes, flatA, rD, rDs, eq_self, xRun, vE, vP, vBuild, vStore, isCutO, xFill, isB, bv, gN, isPick, isCall, AS.pt, AS.ev, AS.box, AS.setb, look, cav, avB, setRowG, AV.cells, AV.whole, AV.one, eatsOf, td0, td1, td2, td3, td4, td5, td6, Option.getD, Option.isSome, List.map, List.length, List.getElem?_cons_zero, List.getElem?_cons_succ, List.set, List.all, List.nodup_nil, List.append_nil, ↓reduceIte, Nat.reduceLT, Nat.reduceAdd, Nat.reduceLeDiff, Nat.reduceEqDiff, Nat.zero_add, or_false, Bool.and_true, Bool.false_eq_true, reduceCtorEq, decide_true, and_self, Nat.succ_ne_zero, Nat.le_refl, h, tBool, ty0, e0, tmC_eq, mk_kind, mk_name, mk_other, mk_n, mk_ty, mk_res, mk_args, tyk, tya, tysC, List.length_cons, List.length_nil, tmsC, Try.ntmps138, Try.results138]
  · have hl : litT k n = tInt n := if_neg h
    rw [hl]
    simp only [argT, argA, eq_self, xRun, vE, vP, isCutO, isB, bv, gN, isPick, isCall, AS.pt, AS.ev, AS.box, look, avB, td0, td1, td2, td3, td4, td5, td6, Option.getD, Option.isSome, ↓reduceIte, Nat.reduceLT, Nat.reduceEqDiff, Nat.zero_add, true_and, Bool.false_eq_true, reduceCtorEq, decide_false, Nat.succ_ne_zero, h, Try.ntmps138]
    refine sw_call (con_tmInt n) rfl (aAs_ok ?_) ?_ (sw_run 200 _ _ _ ?_)
    · simp only [aAs, aA, aD, AS.ev, look, Option.getD, List.map, List.append_nil, ↓reduceIte, eq_self, and_self]
    · simp only [okR]
    simp only [mkR, flatD, packA, retA, fQ, tysD, tmsD, xRet, rPs, xRes, flatA, rD, rDs, eq_self, xRun, vE, vStore, isCutO, gN, isPick, isCall, AS.pt, AS.ev, AS.setb, AS.mk', AS.owf, kill, look, setRowG, AV.cells, AV.whole, AV.one, eatsOf, td0, td1, td2, td3, td4, td5, td6, Option.bind, Option.getD, List.map, List.take, List.length, List.set, List.foldr, List.all, List.mem_cons, List.not_mem_nil, List.nodup_cons, List.nodup_nil, List.append_nil, ↓reduceIte, Nat.reduceLT, Nat.reduceAdd, Nat.reduceEqDiff, Nat.zero_add, not_false_eq_true, or_false, Bool.and_true, Bool.false_eq_true, id_eq, reduceCtorEq, and_self, Nat.le_refl, tInt, ty0, e0, tmC_eq, mk_kind, mk_name, mk_other, mk_n, mk_ty, mk_res, mk_args, tyk, tya, tysC, List.length_cons, List.length_nil, tmsC, Try.results138]
theorem con_l5Bool (n : Int) : Con Try.prog 135 [.one (.int n)] [.ag (tmC (tBool n))] := by
  refine con_run Try.func135 rfl rfl (by simp [Try.ntmps135]) ?_
  simp only [argT, argA, fQ, tysD, tmsD, xRet, rPs, xRes, flatA, rD, rDs, eq_self, xRun, vE, vP, vBuild, vStore, isCutO, xFill, gN, isPick, isCall, AS.pt, AS.ev, AS.box, AS.setb, look, cav, avB, setRowG, AV.cells, AV.whole, AV.one, eatsOf, td0, td1, td2, td3, td4, td5, td6, Option.getD, Option.isSome, List.map, List.length, List.getElem?_cons_zero, List.getElem?_cons_succ, List.set, List.all, List.nodup_nil, List.append_nil, ↓reduceIte, Nat.reduceLT, Nat.reduceAdd, Nat.reduceLeDiff, Nat.reduceEqDiff, Nat.zero_add, or_false, Bool.and_true, Bool.false_eq_true, reduceCtorEq, and_self, Nat.le_refl, tBool, ty0, e0, tmC_eq, mk_kind, mk_name, mk_other, mk_n, mk_ty, mk_res, mk_args, tyk, tya, tysC, List.length_cons, List.length_nil, tmsC, Try.ntmps135, Try.results135]
theorem con_literal (t : Ty) (n : Int) : Con Try.prog 75 [.ag (tyC t), .one (.int n)] [.ag (tmC (litT t.kind n))] := by
  have h1 := con_l5Bool n
  have h2 := con_l5Int n
  refine con_run Try.func75 rfl rfl (by simp [Try.ntmps75]) ?_
  by_cases h : t.kind = 2
  · have hl : litT t.kind n = tBool n := if_pos h
    rw [hl]
    simp only [argT, argA, tysD, eq_self, xRun, vE, vP, vSub, vLoad, vFld, vBin, vBinT, isAg, isBo, isCutO, isB, bv, gN, isPick, isCall, AS.pt, AS.ev, AS.box, look, cav, avB, AV.cells, AV.whole, AV.one, td0, td1, td2, td3, td4, td5, td6, Option.getD, Option.isSome, List.map, List.getElem?_cons_zero, List.all, ↓reduceIte, Nat.reduceLT, Nat.reduceAdd, Nat.reduceEqDiff, Nat.zero_add, Nat.add_zero, ne_eq, not_false_eq_true, true_and, Bool.and_true, Bool.false_eq_true, reduceCtorEq, decide_true, Nat.succ_ne_zero, h, tyC_eq, tysD, Try.ntmps75]
    refine sw_call (h1) rfl (aAs_ok ?_) ?_ (sw_run 200 _ _ _ ?_)
    · simp only [aAs, aA, aD, AS.ev, look, Option.getD, List.map, List.append_nil, ↓reduceIte, eq_self, and_self]
    · simp only [okR]
    simp only [mkR, flatD, packA, retA, fQ, tysD, tmsD, xRet, rPs, xRes, flatA, rD, rDs, eq_self, xRun, vE, vStore, isCutO, gN, isPick, isCall, AS.pt, AS.ev, AS.setb, AS.mk', AS.owf, kill, look, setRowG, AV.cells, AV.whole, AV.one, eatsOf, td0, td1, td2, td3, td4, td5, td6, Option.bind, Option.getD, List.map, List.take, List.length, List.set, List.foldr, List.all, List.mem_cons, List.not_mem_nil, List.nodup_cons, List.nodup_nil, List.append_nil, ↓reduceIte, Nat.reduceLT, Nat.reduceAdd, Nat.reduceEqDiff, Nat.zero_add, not_false_eq_true, or_false, Bool.and_true, Bool.false_eq_true, id_eq, reduceCtorEq, and_self, Nat.le_refl, tmC_eq, List.length_cons, Try.results75]
  · have hl : litT t.kind n = tInt n := if_neg h
    rw [hl]
    simp only [argT, argA, tysD, eq_self, xRun, vE, vP, vSub, vLoad, vFld, vBin, vBinT, isAg, isBo, isCutO, isB, bv, gN, isPick, isCall, AS.pt, AS.ev, AS.box, look, cav, avB, AV.cells, AV.whole, AV.one, td0, td1, td2, td3, td4, td5, td6, Option.getD, Option.isSome, List.map, List.getElem?_cons_zero, List.all, ↓reduceIte, Nat.reduceLT, Nat.reduceAdd, Nat.reduceEqDiff, Nat.zero_add, Nat.add_zero, ne_eq, not_false_eq_true, true_and, Bool.and_true, Bool.false_eq_true, reduceCtorEq, decide_false, Nat.succ_ne_zero, h, tyC_eq, tysD, Try.ntmps75]
    refine sw_call (h2) rfl (aAs_ok ?_) ?_ (sw_run 200 _ _ _ ?_)
    · simp only [aAs, aA, aD, AS.ev, look, Option.getD, List.map, List.append_nil, ↓reduceIte, eq_self, and_self]
    · simp only [okR]
    simp only [mkR, flatD, packA, retA, fQ, tysD, tmsD, xRet, rPs, xRes, flatA, rD, rDs, eq_self, xRun, vE, vStore, isCutO, gN, isPick, isCall, AS.pt, AS.ev, AS.setb, AS.mk', AS.owf, kill, look, setRowG, AV.cells, AV.whole, AV.one, eatsOf, td0, td1, td2, td3, td4, td5, td6, Option.bind, Option.getD, List.map, List.take, List.length, List.set, List.foldr, List.all, List.mem_cons, List.not_mem_nil, List.nodup_cons, List.nodup_nil, List.append_nil, ↓reduceIte, Nat.reduceLT, Nat.reduceAdd, Nat.reduceEqDiff, Nat.zero_add, not_false_eq_true, or_false, Bool.and_true, Bool.false_eq_true, id_eq, reduceCtorEq, and_self, Nat.le_refl, tInt, ty0, e0, tmC_eq, mk_kind, mk_name, mk_other, mk_n, mk_ty, mk_res, mk_args, tyk, tya, tysC, List.length_cons, List.length_nil, tmsC, Try.results75]
theorem con_called (ps : List Pm) (as1 : List Int) (t : Tm) (hl : as1.length = ps.length) (h0 : ps.length ≤ 100000000) : ConM Try.prog 76 [.g (tmC t), .b (.one (pmsD ps)), .b (.one (.rows 1 as1.length (as1.map D.int)))] [.ag (tmC (caK ps as1 t ps.length))] := by
  have h0e : caK ps as1 t 0 = t := rfl
  refine con_runM Try.func76 rfl rfl (by simp [Try.ntmps76]) ?_
  simp only [argA, s0M, numT, flatM, packM, mkR, tysD, tmsD, eq_self, xRun, vE, vP, vLen, isCutO, gN, isPick, isCall, AS.pt, AS.ev, AS.box, AS.mk', AS.rd, kill, look, cav, avB, AV.cells, AV.whole, AV.one, td0, td1, td2, td3, td4, td5, td6, Option.getD, Option.isSome, List.take, List.length, List.foldr, List.all, List.append_nil, ↓reduceIte, Nat.reduceLT, Nat.reduceAdd, Nat.reduceEqDiff, Nat.zero_add, true_and, Bool.and_true, Bool.false_eq_true, Nat.succ_ne_zero, tmC_eq, pmsD, Try.ntmps76]
  refine sw_loop (fun k : Nat => k ≤ ps.length) (fun k => ⟨30, [(11, .i k), (10, .i ps.length), (9, .br (.rows 4 ps.length (flC pmC ps))), (2, .br (.rows 1 as1.length (as1.map D.int))), (3, .bx 0 0), (6, .bx 1 0)], [(0, [.i (caK ps as1 t k).kind, .s (caK ps as1 t k).name, .s (caK ps as1 t k).other, .i (caK ps as1 t k).n, .i (caK ps as1 t k).ty.kind, .sl 2, .i (caK ps as1 t k).res.kind, .sl 3, .sl 4]), (1, [.i 0, .s ⟨#[]⟩, .s ⟨#[]⟩, .i 0, .i 0, .nl 2, .i 0, .nl 2, .nl 9])], [(2, some ⟨.rows 2 (caK ps as1 t k).ty.args.length (tysC (caK ps as1 t k).ty.args), none, true⟩), (3, some ⟨.rows 2 (caK ps as1 t k).res.args.length (tysC (caK ps as1 t k).res.args), none, true⟩), (4, some ⟨.rows 9 (caK ps as1 t k).args.length (tmsC (caK ps as1 t k).args), none, true⟩)], 5, []⟩) (fun k => ps.length - k) 0 (rnL [(0, 3), (1, 4), (2, 0), (3, 1), (4, 2)]) (Nat.zero_le _) ?_ ?_
  · simp only [Sub, subT, subB, subO, subP, inj, AV.ren, AV.rens, AV.lt, AV.lts, eq_self, AS.owf, look, td0, td1, td2, td3, td4, td5, td6, Option.bind, Option.getD, List.map, List.mem_cons, List.not_mem_nil, List.nodup_cons, List.nodup_nil, ↓reduceIte, Nat.reduceLT, Nat.reduceEqDiff, not_false_eq_true, or_false, id_eq, reduceCtorEq, Int.natCast_zero, and_self, Nat.succ_ne_zero, rnL, h0e, Int.natCast_zero]
  rintro k hk
  refine sw_run 200 _ _ _ ?_
  by_cases hlt : k < ps.length
  · have hi : (k : Int) < (ps.length : Int) := by omega
    have hi2 : (k : Int) < (as1.length : Int) := by omega
    have hR := flC_row (c := pmC) (n := 4) pmC_len ps k hlt
    have hR2 := ints_row as1 k (by omega)
    have hst : caK ps as1 t (k + 1) = tNode 7 [caK ps as1 t k, litT ps[k]!.ty.kind as1[k]!] := rfl
    have hco := con_tmValue ps[k]!.ty.kind as1[k]!
    generalize ps[k]! = p at *
    generalize as1[k]! = q at *
    simp only [tysD, rowD, eq_self, xRun, vE, vP, vSub, vLoad, vIdx, vBin, vBinT, isAg, isBo, vStore, isCutO, isB, bv, gN, isPick, isCall, AS.pt, AS.ev, AS.box, AS.setb, look, avB, setRowG, AV.cells, AV.whole, AV.one, td0, td1, td2, td3, td4, td5, td6, Option.getD, Option.isSome, List.map, List.take, List.drop, List.length, List.set, List.all, ↓reduceIte, Nat.reduceLT, Nat.reduceAdd, Nat.reduceEqDiff, Nat.zero_add, true_and, Bool.and_true, Bool.false_eq_true, Int.toNat_natCast, Int.natCast_nonneg, decide_true, and_self, Nat.le_refl, hi, hR, pmC, tysD]
    refine sw_drawn (.cons 0 true (.cons 1 true (.cons 2 true (.cons 3 true (.cons 4 true (.cons 5 true (.cons 6 true (.cons 7 true (.cons 8 true (.cons 9 false (.cons 10 false (.cons 11 false (.cons 12 false (.nil)))))))))))))) (by kernel_rfl) qLp_panic (by kernel_rfl) (sw_run 200 _ _ _ ?_)
    simp only [rowD, eq_self, xRun, vP, vSub, vLoad, vFld, vIdx, vBin, vBinT, isAg, isBo, gN, isPick, isCall, AS.pt, AS.ev, look, cav, avB, td0, td1, td2, td3, td4, td5, td6, Option.getD, Option.isSome, List.map, List.take, List.drop, List.length, List.getElem?_cons_zero, List.getElem?_cons_succ, ↓reduceIte, Nat.reduceLT, Nat.reduceAdd, Nat.reduceEqDiff, Nat.zero_add, Nat.add_zero, ne_eq, not_false_eq_true, true_and, Bool.false_eq_true, reduceCtorEq, Int.toNat_natCast, Int.natCast_nonneg, and_self, Nat.succ_ne_zero, Nat.le_refl, hi2, hR2]
    refine sw_callD hco rfl (aAs_ok ?_) ?_ (sw_run 200 _ _ _ ?_)
    · simp only [aAs, aA, aD, AS.ev, look, Option.getD, List.map, List.append_nil, ↓reduceIte, Nat.reduceEqDiff, eq_self, and_self]
    · simp only [okR]
    simp only [mkR, flatD, packA, retA, tysD, tmsD, eq_self, xRun, vE, vRow, xFill, gN, isPick, isCall, AS.pt, AS.ev, AS.mk', AS.owf, kill, look, setRowG, AV.cells, AV.whole, AV.one, cD, cDs, eatsOf, dpOf, td0, td1, td2, td3, td4, td5, td6, Option.bind, Option.getD, Option.map, Option.isSome, List.map, List.take, List.length, List.getElem?_cons_zero, List.getElem?_cons_succ, List.set, List.foldr, List.all, List.replicate, List.mem_cons, List.not_mem_nil, List.nodup_cons, List.nodup_nil, List.append_nil, ↓reduceIte, Nat.reduceLT, Nat.reduceAdd, Nat.reduceMul, Nat.reduceLeDiff, Nat.reduceEqDiff, Nat.zero_add, Nat.zero_mul, Nat.one_mul, not_false_eq_true, true_and, or_false, or_true, Bool.and_true, Bool.false_eq_true, id_eq, and_self, Nat.succ_ne_zero, Nat.le_refl, tmC_eq]
    refine sw_callDM (con_tmForm 7 2 (tmC (caK ps as1 t k) ++ tmC (litT p.ty.kind q))) rfl ?_ ?_ ?_ rfl (sw_run 200 _ _ _ ?_)
    · simp only [aA, aD, mAs, mA, AS.kl, eatM, tysD, tmsD, rD, eq_self, AS.ev, AS.owf, kill, look, cav, eatsOf, td0, td1, td2, td3, td4, td5, td6, Option.bind, Option.getD, List.map, List.foldr, List.nil_append, List.cons_append, List.append_nil, ↓reduceIte, id_eq, and_self, tmC_eq, tmsD, tysD]
    · simp only [eatM, tysD, tmsD, eq_self, AS.ev, look, cav, eatsOf, td0, td1, td2, td3, td4, td5, td6, Option.getD, List.map, List.not_mem_nil, List.nodup_cons, List.nodup_nil, List.nil_append, List.cons_append, List.append_nil, ↓reduceIte, not_false_eq_true, and_self, tmC_eq, tmsD, tysD]
    · simp only [okR, td0, td1, td2, td3, td4, td5, td6]
    simp only [AS.kl, eatM, mkR, flatD, packA, retA, qLp, tysD, tmsD, eq_self, xRun, vE, vP, vBin, vBinT, isAg, isBo, vStore, isCutO, gN, isPick, isCall, AS.pt, AS.ev, AS.setb, AS.mk', kill, look, cav, setRowG, AV.cells, AV.whole, AV.one, eatsOf, td0, td1, td2, td3, td4, td5, td6, Option.getD, Option.isSome, List.map, List.take, List.length, List.getElem?_cons_zero, List.getElem?_cons_succ, List.set, List.foldr, List.all, List.nil_append, List.cons_append, List.append_nil, ↓reduceIte, Nat.reduceLT, Nat.reduceAdd, Nat.reduceEqDiff, Nat.zero_add, true_and, Bool.and_true, Bool.false_eq_true, reduceCtorEq, and_self, Nat.le_refl, e0, tmC_eq, List.length_cons]
    refine ⟨by unfold inI; omega, k + 1, rnL [(2, 10), (3, 11), (4, 12)], by omega, by omega, ?_⟩
    simp only [Sub, subT, subB, subO, subP, inj, AV.ren, AV.rens, AV.lt, AV.lts, tysD, tmsD, eq_self, AS.owf, look, td0, td1, td2, td3, td4, td5, td6, Option.bind, Option.getD, List.map, List.length, List.mem_cons, List.not_mem_nil, List.nodup_cons, List.nodup_nil, List.nil_append, List.cons_append, List.append_nil, ↓reduceIte, Nat.reduceLT, Nat.reduceAdd, Nat.reduceEqDiff, Nat.zero_add, not_false_eq_true, or_false, id_eq, reduceCtorEq, and_self, Nat.succ_ne_zero, rnL, cast1, hst, tNode, ty0, e0, tmC_eq, mk_kind, mk_name, mk_other, mk_n, mk_ty, mk_res, mk_args, tyk, tya, tysC, List.length_cons, List.length_nil, tmsC]
  · have hi : ¬ (k : Int) < (ps.length : Int) := by omega
    obtain rfl : k = ps.length := by omega
    simp only [qLp, eq_self, xRun, vE, vP, vBin, vBinT, isAg, isBo, isCutO, isB, bv, gN, isPick, isCall, popTo, AS.pt, AS.ev, look, td0, td1, td2, td3, td4, td5, td6, Option.getD, Option.isSome, ↓reduceIte, Nat.reduceLT, Nat.reduceEqDiff, true_and, Bool.false_eq_true, decide_false, hi]
    refine sw_run 200 _ _ _ ?_
    simp only [fQ, xRet, rPs, xRes, flatA, rD, rDs, eq_self, xRun, vE, vP, vSub, vLoad, vStore, isCutO, gN, isPick, isCall, AS.pt, AS.ev, AS.setb, AS.owf, look, setRowG, AV.cells, AV.whole, AV.one, eatsOf, td0, td1, td2, td3, td4, td5, td6, Option.bind, Option.getD, List.map, List.take, List.drop, List.length, List.set, List.all, List.mem_cons, List.not_mem_nil, List.nodup_cons, List.nodup_nil, List.append_nil, ↓reduceIte, Nat.reduceLT, Nat.reduceAdd, Nat.reduceEqDiff, Nat.zero_add, not_false_eq_true, or_false, Bool.and_true, Bool.false_eq_true, id_eq, reduceCtorEq, and_self, Nat.succ_ne_zero, Nat.le_refl, Try.results76]
theorem con_CallI (ps : List Pm) (e : Tm) (as1 : List Int) (h0 : szD (pmsD ps) ≤ 10000000) (h1 : szL (tmC e) ≤ 10000000) : Con Try.prog 23 [.one (pmsD ps), .ag (tmC e), .one (.rows 1 as1.length (as1.map D.int))] [.ag (tmC (caT ps e as1))] := by
  have hfo := con_FoI ps e h0 h1
  rw [sz_pmsD] at h0
  refine con_run Try.func23 rfl rfl (by simp [Try.ntmps23]) ?_
  by_cases hl : as1.length = ps.length
  case neg =>
    have hT : caT ps e as1 = t0 := if_neg hl
    have hn : ¬ (ps.length : Int) = (as1.length : Int) := by omega
    rw [hT]
    simp only [argT, argA, fQ, tysD, tmsD, xRet, rPs, xRes, flatA, rD, rDs, eq_self, xRun, vE, vP, vBin, vBinT, isAg, isBo, vLen, vBuild, vStore, isCutO, xFill, isB, bv, gN, isPick, isCall, AS.pt, AS.ev, AS.box, AS.setb, AS.rd, look, avB, setRowG, AV.cells, AV.whole, AV.one, eatsOf, td0, td1, td2, td3, td4, td5, td6, Option.getD, Option.isSome, List.map, List.length, List.set, List.all, List.nodup_nil, List.append_nil, ↓reduceIte, Nat.reduceLT, Nat.reduceAdd, Nat.reduceEqDiff, Nat.zero_add, ne_eq, not_false_eq_true, or_false, Bool.and_true, Bool.false_eq_true, reduceCtorEq, decide_true, and_self, Nat.succ_ne_zero, Nat.le_refl, hn, tmC_eq, pmsD, t0, ty0, e0, tmC_eq, mk_kind, mk_name, mk_other, mk_n, mk_ty, mk_res, mk_args, tyk, tya, tysC, List.length_cons, List.length_nil, tmsC, Try.ntmps23, Try.results23]
  have hT : caT ps e as1 = caK ps as1 (foT ps e) ps.length := if_pos hl
  have hn : (ps.length : Int) = (as1.length : Int) := by omega
  rw [hT]
  simp only [argT, argA, tysD, tmsD, eq_self, xRun, vE, vP, vSub, vLoad, vBin, vBinT, isAg, isBo, vLen, isCutO, isB, bv, gN, isPick, isCall, AS.pt, AS.ev, AS.box, AS.rd, look, avB, AV.cells, AV.whole, AV.one, td0, td1, td2, td3, td4, td5, td6, Option.getD, Option.isSome, List.map, List.take, List.drop, List.length, List.all, ↓reduceIte, Nat.reduceLT, Nat.reduceAdd, Nat.reduceEqDiff, Nat.zero_add, ne_eq, not_true_eq_false, true_and, Bool.and_true, Bool.false_eq_true, reduceCtorEq, decide_false, Nat.succ_ne_zero, Nat.le_refl, eq_true hn, tmC_eq, pmsD, Try.ntmps23]
  refine sw_call (hfo) rfl (aAs_ok ?_) ?_ (sw_run 200 _ _ _ ?_)
  · simp only [aAs, aA, aDs, aD, tysD, tmsD, AS.ev, look, Option.getD, List.map, List.append_nil, ↓reduceIte, Nat.reduceEqDiff, eq_self, and_self, tmC_eq, pmsD]
  · simp only [okR]
  simp only [mkR, flatD, packA, retA, tysD, tmsD, eq_self, xRun, vE, vP, isCutO, gN, isPick, isCall, AS.pt, AS.ev, AS.mk', kill, look, td0, td1, td2, td3, td4, td5, td6, Option.getD, List.take, List.length, List.foldr, List.append_nil, ↓reduceIte, Nat.reduceLT, Nat.reduceAdd, Nat.reduceEqDiff, Nat.zero_add, true_and, Bool.false_eq_true, reduceCtorEq, Nat.succ_ne_zero, tmC_eq]
  refine sw_callM (con_called ps as1 (foT ps e) hl (by omega)) rfl ?_ ?_ ?_ (sw_run 200 _ _ _ ?_)
  · simp only [aA, aD, mAs, mA, AS.kl, eatM, tysD, tmsD, rD, rDs, eq_self, AS.ev, AS.owf, kill, look, eatsOf, td0, td1, td2, td3, td4, td5, td6, Option.bind, Option.getD, List.map, List.foldr, List.append_nil, ↓reduceIte, Nat.reduceEqDiff, id_eq, and_self, tmC_eq, pmsD, tmsD, tysD]
  · simp only [eatM, tysD, tmsD, eq_self, AS.ev, look, eatsOf, td0, td1, td2, td3, td4, td5, td6, Option.getD, List.map, List.mem_cons, List.not_mem_nil, List.nodup_cons, List.nodup_nil, List.append_nil, ↓reduceIte, Nat.reduceEqDiff, not_false_eq_true, or_false, and_self, tmC_eq, pmsD, tmsD, tysD]
  · simp only [okR]
  simp only [AS.kl, eatM, mkR, flatD, packA, retA, fQ, tysD, tmsD, xRet, rPs, xRes, flatA, rD, rDs, eq_self, xRun, vE, vStore, isCutO, gN, isPick, isCall, AS.pt, AS.ev, AS.setb, AS.mk', AS.owf, kill, look, setRowG, AV.cells, AV.whole, AV.one, eatsOf, td0, td1, td2, td3, td4, td5, td6, Option.bind, Option.getD, List.map, List.take, List.length, List.set, List.foldr, List.all, List.mem_cons, List.not_mem_nil, List.nodup_cons, List.nodup_nil, List.append_nil, ↓reduceIte, Nat.reduceLT, Nat.reduceAdd, Nat.reduceEqDiff, Nat.zero_add, not_false_eq_true, or_false, Bool.and_true, Bool.false_eq_true, id_eq, reduceCtorEq, and_self, Nat.le_refl, tmC_eq, tmsD, tysD, Try.results23]
theorem con_CallS (ps : List Pm) (e : Tm) (as1 : List Int) (h0 : szD (pmsD ps) ≤ 10000000) (h1 : szL (tmC e) ≤ 10000000) : Con Try.prog 21 [.one (pmsD ps), .ag (tmC e), .one (.rows 1 as1.length (as1.map D.int))] [.ag (tmC (caT ps e as1))] := by
  have hfo := con_FoS ps e h0 h1
  have hsf := sz_foT ps e
  rw [sz_pmsD] at h0
  refine con_run Try.func21 rfl rfl (by simp [Try.ntmps21]) ?_
  by_cases hl : as1.length = ps.length
  case neg =>
    have hT : caT ps e as1 = t0 := if_neg hl
    have hn : ¬ (as1.length : Int) = (ps.length : Int) := by omega
    rw [hT]
    simp only [argT, argA, fQ, tysD, tmsD, xRet, rPs, xRes, flatA, rD, rDs, eq_self, xRun, vE, vP, vBin, vBinT, isAg, isBo, vLen, vBuild, vStore, isCutO, xFill, isB, bv, gN, isPick, isCall, AS.pt, AS.ev, AS.box, AS.setb, AS.rd, look, avB, setRowG, AV.cells, AV.whole, AV.one, eatsOf, td0, td1, td2, td3, td4, td5, td6, Option.getD, Option.isSome, List.map, List.length, List.set, List.all, List.nodup_nil, List.append_nil, ↓reduceIte, Nat.reduceLT, Nat.reduceAdd, Nat.reduceEqDiff, Nat.zero_add, ne_eq, not_false_eq_true, or_false, Bool.and_true, Bool.false_eq_true, reduceCtorEq, decide_true, and_self, Nat.succ_ne_zero, Nat.le_refl, hn, tmC_eq, pmsD, t0, ty0, e0, tmC_eq, mk_kind, mk_name, mk_other, mk_n, mk_ty, mk_res, mk_args, tyk, tya, tysC, List.length_cons, List.length_nil, tmsC, Try.ntmps21, Try.results21]
  have hT : caT ps e as1 = caK ps as1 (foT ps e) ps.length := if_pos hl
  have hn : (as1.length : Int) = (ps.length : Int) := by omega
  rw [hT]
  simp only [argT, argA, tysD, tmsD, eq_self, xRun, vE, vP, vSub, vLoad, vBin, vBinT, isAg, isBo, vLen, isCutO, isB, bv, gN, isPick, isCall, AS.pt, AS.ev, AS.box, AS.rd, look, avB, AV.cells, AV.whole, AV.one, td0, td1, td2, td3, td4, td5, td6, Option.getD, Option.isSome, List.map, List.take, List.drop, List.length, List.all, ↓reduceIte, Nat.reduceLT, Nat.reduceAdd, Nat.reduceEqDiff, Nat.zero_add, ne_eq, not_true_eq_false, true_and, Bool.and_true, Bool.false_eq_true, reduceCtorEq, decide_false, Nat.succ_ne_zero, Nat.le_refl, eq_true hn, tmC_eq, pmsD, Try.ntmps21]
  refine sw_call (hfo) rfl (aAs_ok ?_) ?_ (sw_run 200 _ _ _ ?_)
  · simp only [aAs, aA, aDs, aD, tysD, tmsD, AS.ev, look, Option.getD, List.map, List.append_nil, ↓reduceIte, Nat.reduceEqDiff, eq_self, and_self, tmC_eq, pmsD]
  · simp only [okR]
  simp only [mkR, flatD, packA, retA, tysD, tmsD, eq_self, xRun, vE, vP, vStore, isCutO, gN, isPick, isCall, AS.pt, AS.ev, AS.box, AS.setb, AS.mk', kill, look, cav, setRowG, AV.cells, AV.whole, AV.one, td0, td1, td2, td3, td4, td5, td6, Option.getD, Option.isSome, List.take, List.length, List.set, List.foldr, List.all, List.append_nil, ↓reduceIte, Nat.reduceLT, Nat.reduceAdd, Nat.reduceEqDiff, Nat.zero_add, true_and, Bool.and_true, Bool.false_eq_true, and_self, Nat.le_refl, tmC_eq]
  have h0e : caK ps as1 (foT ps e) 0 = foT ps e := rfl
  refine sw_loop (fun k : Nat => k ≤ ps.length) (fun k => ⟨38, [(8, .i k), (0, .br (.rows 4 ps.length (flC pmC ps))), (2, .br (.rows 1 as1.length (as1.map D.int))), (7, .bx 0 0), (6, .bx 1 0)], [(0, [.i (caK ps as1 (foT ps e) k).kind, .s (caK ps as1 (foT ps e) k).name, .s (caK ps as1 (foT ps e) k).other, .i (caK ps as1 (foT ps e) k).n, .i (caK ps as1 (foT ps e) k).ty.kind, .sl 2, .i (caK ps as1 (foT ps e) k).res.kind, .sl 3, .sl 4]), (1, [.i 0, .s ⟨#[]⟩, .s ⟨#[]⟩, .i 0, .i 0, .nl 2, .i 0, .nl 2, .nl 9])], [(2, some ⟨.rows 2 (caK ps as1 (foT ps e) k).ty.args.length (tysC (caK ps as1 (foT ps e) k).ty.args), none, true⟩), (3, some ⟨.rows 2 (caK ps as1 (foT ps e) k).res.args.length (tysC (caK ps as1 (foT ps e) k).res.args), none, true⟩), (4, some ⟨.rows 9 (caK ps as1 (foT ps e) k).args.length (tmsC (caK ps as1 (foT ps e) k).args), none, true⟩)], 5, []⟩) (fun k => ps.length - k) 0 (rnL [(0, 5)]) (Nat.zero_le _) ?_ ?_
  · simp only [Sub, subT, subB, subO, subP, inj, AV.ren, AV.rens, AV.lt, AV.lts, eq_self, AS.owf, look, td0, td1, td2, td3, td4, td5, td6, Option.bind, Option.getD, List.map, List.mem_cons, List.not_mem_nil, List.nodup_cons, List.nodup_nil, ↓reduceIte, Nat.reduceLT, Nat.reduceEqDiff, not_false_eq_true, or_false, id_eq, reduceCtorEq, Int.natCast_zero, and_self, Nat.succ_ne_zero, rnL, h0e, Int.natCast_zero]
  rintro k hk
  refine sw_run 200 _ _ _ ?_
  have hsz := sz_caK ps as1 (foT ps e) k
  by_cases hlt : k < ps.length
  · have hi : (k : Int) < (ps.length : Int) := by omega
    have hi2 : (k : Int) < (as1.length : Int) := by omega
    have hR := flC_row (c := pmC) (n := 4) pmC_len ps k hlt
    have hR2 := ints_row as1 k (by omega)
    have hst : caK ps as1 (foT ps e) (k + 1) = tNode 7 [caK ps as1 (foT ps e) k, litT ps[k]!.ty.kind as1[k]!] := rfl
    have hco := con_literal ps[k]!.ty as1[k]!
    have hzl := sz_litT ps[k]!.ty.kind as1[k]!
    generalize ps[k]! = p at *
    generalize as1[k]! = q at *
    simp only [eq_self, xRun, vE, vP, vBin, vBinT, isAg, isBo, vLen, isCutO, isB, bv, gN, isPick, isCall, AS.pt, AS.ev, AS.rd, look, td0, td1, td2, td3, td4, td5, td6, Option.getD, ↓reduceIte, Nat.reduceLT, Nat.reduceEqDiff, true_and, Bool.false_eq_true, reduceCtorEq, decide_true, hi]
    refine sw_drawn (.cons 0 true (.cons 1 true (.cons 2 true (.cons 3 true (.cons 4 true (.cons 5 true (.cons 6 true (.cons 7 true (.cons 8 true (.cons 9 true (.cons 10 false (.cons 11 false (.cons 12 false (.cons 13 false (.nil))))))))))))))) (by kernel_rfl) qLp_panic (by kernel_rfl) (sw_run 200 _ _ _ ?_)
    simp only [tysD, rowD, eq_self, xRun, vP, vSub, vLoad, vFld, vIdx, gN, isPick, isCall, AS.pt, AS.ev, look, avB, td0, td1, td2, td3, td4, td5, td6, Option.getD, Option.isSome, List.map, List.take, List.drop, List.length, List.getElem?_cons_zero, List.getElem?_cons_succ, ↓reduceIte, Nat.reduceLT, Nat.reduceAdd, Nat.reduceLeDiff, Nat.reduceEqDiff, Nat.zero_add, ne_eq, not_false_eq_true, true_and, Bool.false_eq_true, reduceCtorEq, Int.toNat_natCast, Int.natCast_nonneg, and_self, Nat.succ_ne_zero, Nat.le_refl, hi, hi2, hR, hR2, pmC, tysD]
    refine sw_callD hco rfl (aAs_ok ?_) ?_ (sw_run 200 _ _ _ ?_)
    · simp only [aAs, aA, aDs, aD, tysD, AS.ev, look, Option.getD, List.map, List.append_nil, ↓reduceIte, Nat.reduceEqDiff, eq_self, and_self, tyC_eq, tysD]
    · simp only [okR]
    simp only [mkR, flatD, packA, retA, tysD, tmsD, eq_self, xRun, vE, vRow, xFill, gN, isPick, isCall, AS.pt, AS.ev, AS.mk', AS.owf, kill, look, setRowG, AV.cells, AV.whole, AV.one, cD, cDs, eatsOf, dpOf, td0, td1, td2, td3, td4, td5, td6, Option.bind, Option.getD, Option.map, Option.isSome, List.map, List.take, List.length, List.getElem?_cons_zero, List.getElem?_cons_succ, List.set, List.foldr, List.all, List.replicate, List.mem_cons, List.not_mem_nil, List.nodup_cons, List.nodup_nil, List.append_nil, ↓reduceIte, Nat.reduceLT, Nat.reduceAdd, Nat.reduceMul, Nat.reduceLeDiff, Nat.reduceEqDiff, Nat.zero_add, Nat.zero_mul, Nat.one_mul, not_false_eq_true, true_and, or_false, or_true, Bool.and_true, Bool.false_eq_true, id_eq, and_self, Nat.succ_ne_zero, Nat.le_refl, tmC_eq]
    refine sw_callD (con_l5Node 7 [caK ps as1 (foT ps e) k, litT p.ty.kind q] (by rw [sz_ms2]; simp only [List.length_cons, List.length_nil]; omega)) rfl (aAs_ok ?_) ?_ (sw_run 200 _ _ _ ?_)
    · simp only [aAs, aA, aD, tysD, tmsD, AS.ev, AS.owf, look, cav, Option.bind, Option.getD, id_eq, List.map, List.nil_append, List.cons_append, List.append_nil, ↓reduceIte, Nat.zero_add, Nat.reduceAdd, eq_self, and_self, List.length, tmC_eq, tmsC, tmsD, tysD]
    · simp only [okR]
    simp only [mkR, flatD, packA, retA, qLp, tysD, tmsD, eq_self, xRun, vE, vP, vBin, vBinT, isAg, isBo, vStore, isCutO, gN, isPick, isCall, AS.pt, AS.ev, AS.setb, AS.mk', kill, look, cav, setRowG, AV.cells, AV.whole, AV.one, td0, td1, td2, td3, td4, td5, td6, Option.getD, Option.isSome, List.take, List.length, List.getElem?_cons_zero, List.getElem?_cons_succ, List.set, List.foldr, List.all, List.nil_append, List.cons_append, List.append_nil, ↓reduceIte, Nat.reduceLT, Nat.reduceAdd, Nat.reduceEqDiff, Nat.zero_add, true_and, Bool.and_true, Bool.false_eq_true, and_self, Nat.succ_ne_zero, Nat.le_refl, tNode, ty0, e0, tmC_eq, mk_kind, mk_name, mk_other, mk_n, mk_ty, mk_res, mk_args, tyk, tya, tysC, List.length_cons, List.length_nil, tmsC]
    refine ⟨by unfold inI; omega, k + 1, rnL [(2, 9), (3, 10), (4, 11)], by omega, by omega, ?_⟩
    simp only [Sub, subT, subB, subO, subP, inj, AV.ren, AV.rens, AV.lt, AV.lts, tysD, tmsD, eq_self, AS.owf, look, td0, td1, td2, td3, td4, td5, td6, Option.bind, Option.getD, List.map, List.length, List.mem_cons, List.not_mem_nil, List.nodup_cons, List.nodup_nil, List.nil_append, List.cons_append, List.append_nil, ↓reduceIte, Nat.reduceLT, Nat.reduceAdd, Nat.reduceEqDiff, Nat.zero_add, not_false_eq_true, or_false, id_eq, reduceCtorEq, and_self, Nat.succ_ne_zero, rnL, cast1, hst, tNode, ty0, e0, tmC_eq, mk_kind, mk_name, mk_other, mk_n, mk_ty, mk_res, mk_args, tyk, tya, tysC, List.length_cons, List.length_nil, tmsC]
  · have hi : ¬ (k : Int) < (ps.length : Int) := by omega
    obtain rfl : k = ps.length := by omega
    simp only [qLp, eq_self, xRun, vE, vP, vBin, vBinT, isAg, isBo, vLen, isCutO, isB, bv, gN, isPick, isCall, popTo, AS.pt, AS.ev, AS.rd, look, td0, td1, td2, td3, td4, td5, td6, Option.getD, Option.isSome, ↓reduceIte, Nat.reduceLT, Nat.reduceEqDiff, true_and, Bool.false_eq_true, reduceCtorEq, decide_false, hi]
    refine sw_run 200 _ _ _ ?_
    simp only [fQ, xRet, rPs, xRes, flatA, rD, rDs, eq_self, xRun, vE, vP, vSub, vLoad, vStore, isCutO, gN, isPick, isCall, AS.pt, AS.ev, AS.setb, AS.owf, look, setRowG, AV.cells, AV.whole, AV.one, eatsOf, td0, td1, td2, td3, td4, td5, td6, Option.bind, Option.getD, List.map, List.take, List.drop, List.length, List.set, List.all, List.mem_cons, List.not_mem_nil, List.nodup_cons, List.nodup_nil, List.append_nil, ↓reduceIte, Nat.reduceLT, Nat.reduceAdd, Nat.reduceEqDiff, Nat.zero_add, not_false_eq_true, or_false, Bool.and_true, Bool.false_eq_true, id_eq, reduceCtorEq, and_self, Nat.succ_ne_zero, Nat.le_refl, Try.results21]
end Go.Proofs.Ytkfknmnocddjbaa
