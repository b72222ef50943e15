/-
  Copies of types, of the reference and of the program.
-/
import Derived.Test.YtepjbiffebbelaaDat
import Derived.Test.YtepjbiffebbelaaTd
import Derived.Test.YtepjbiffebbelaaTreeM
namespace Go.Proofs.Ytepjbiffebbelaa
open Go.RowKit
set_option linter.unusedVariables false
set_option linter.unusedSimpArgs false
set_option maxRecDepth 20000
theorem szL_tys' (xs : List Ty) (k : Nat) (h : k < xs.length) : szL (tyC xs[k]!) ≤ szL (tysC xs) := by
  rw [tysC_flat]
  have e := tysC_row' xs k h
  have : ∀ (ys : List Ty) (j : Nat), j < ys.length → szL (tyC ys[j]!) ≤ szL (flC tyC ys) := by
    intro ys
    induction ys with
    | nil => intro j hj; simp at hj
    | cons y ys ih =>
      intro j hj
      rw [flC, szL_append]
      cases j with
      | zero => simp
      | succ j => have := ih j (by simpa using hj); simp only [List.getElem!_cons_succ]; omega
  exact this xs k h
theorem szL_tms' (xs : List Tm) (k : Nat) (h : k < xs.length) : szL (tmC xs[k]!) ≤ szL (tmsC xs) := by
  rw [tmsC_flat]
  have : ∀ (ys : List Tm) (j : Nat), j < ys.length → szL (tmC ys[j]!) ≤ szL (flC tmC ys) := by
    intro ys
    induction ys with
    | nil => intro j hj; simp at hj
    | cons y ys ih =>
      intro j hj
      rw [flC, szL_append]
      cases j with
      | zero => simp
      | succ j => have := ih j (by simpa using hj); simp only [List.getElem!_cons_succ]; omega
  exact this xs k h
theorem con_within (n lo hi : Int) : Con Try.prog 75 [.one (.int n), .one (.int lo), .one (.int hi)] [.one (.bool (decide (lo ≤ n) && decide (n ≤ hi)))] := by
  refine con_run Try.func75 rfl rfl (by simp [Try.ntmps75]) ?_
  simp only [argT, argA, fQ, xRet, rPs, xRes, flatA, rD, eq_self, xRun, vE, vP, vBin, vBinT, isAg, isBo, isCutO, isB, bv, gT, gW, gN, gV, isU, isPick, pkC, pkA, pkB, isCall, AS.pt, AS.kn, AS.ev, look, cav, avB, eatsOf, td0, td1, td2, td3, td4, td5, td6, Option.bind, Option.getD, Option.isSome, List.map, List.getElem?_cons_zero, List.getElem?_cons_succ, List.nodup_nil, ↓reduceIte, Nat.reduceLT, Nat.reduceAdd, Nat.reduceEqDiff, Nat.zero_add, true_and, and_true, or_false, Bool.not_true, Bool.false_eq_true, reduceCtorEq, and_self, decide_eq_true_eq, Nat.succ_ne_zero, Try.ntmps75, Try.results75]
  split
  · simp [*]
  · rename_i h; simp [h]
theorem con_l1In (n lo hi : Int) : Con Try.prog 71 [.one (.int n), .one (.int lo), .one (.int hi)] [.one (.bool (decide (lo ≤ n) && decide (n ≤ hi)))] := by
  refine con_run Try.func71 rfl rfl (by simp [Try.ntmps71]) ?_
  simp only [argT, argA, fQ, xRet, rPs, xRes, flatA, rD, eq_self, xRun, vE, vP, vBin, vBinT, isAg, isBo, isCutO, isB, bv, gT, gW, gN, gV, isU, isPick, pkC, pkA, pkB, isCall, AS.pt, AS.kn, AS.ev, look, cav, avB, eatsOf, td0, td1, td2, td3, td4, td5, td6, Option.bind, Option.getD, Option.isSome, List.map, List.getElem?_cons_zero, List.getElem?_cons_succ, List.nodup_nil, ↓reduceIte, Nat.reduceLT, Nat.reduceAdd, Nat.reduceEqDiff, Nat.zero_add, true_and, and_true, or_false, Bool.not_true, Bool.false_eq_true, reduceCtorEq, and_self, decide_eq_true_eq, Nat.succ_ne_zero, Try.ntmps71, Try.results71]
  split
  · simp [*]
  · rename_i h; simp [h]
theorem con_l3Copy : ∀ t : Ty, szL (tyC t) ≤ 1000000000 → Con Try.prog 204 [.ag (tyC t)] [.ag (tyC t)] := by
  refine Ty.ind fun kd xs ih hz => ?_
  have hz' : xs.length + szL (tysC xs) ≤ 1000000000 := by simpa [tyC, szL, szD] using hz
  refine con_run Try.func204 rfl rfl (by simp [Try.ntmps204]) ?_
  simp only [argT, argA, eq_self, xRun, vE, vP, vSub, vLoad, vFld, vBuild, vStore, isCutO, xFill, gN, isPick, isCall, AS.pt, AS.ev, AS.box, AS.setb, look, cav, avB, setRowG, AV.cells, AV.whole, AV.one, td0, td1, td2, td3, td4, td5, td6, Option.getD, Option.isSome, List.map, List.length, List.getElem?_cons_zero, List.set, List.all, ↓reduceIte, Nat.reduceLT, Nat.reduceAdd, Nat.reduceLeDiff, Nat.reduceEqDiff, Nat.zero_add, Nat.add_zero, ne_eq, not_false_eq_true, true_and, Bool.and_true, Bool.false_eq_true, reduceCtorEq, and_self, Nat.succ_ne_zero, Nat.le_refl, Try.ntmps204, tyC]
  refine sw_ownB 2 1 45 rfl rfl ?_
  refine sw_loop (fun k : Nat => k ≤ xs.length) (fun k => ⟨27, [(4, .i k), (1, .bx 0 0), (2, .bx 1 0), (3, .bx 2 0)], [(0, [.i kd, .br (.rows 2 xs.length (tysC xs))]), (1, [.i 0, .nl 2]), (2, [.i kd, .sl 3])], [(3, some ⟨.rows 2 k (tysC (xs.take k)), some 45, true⟩)], 4, []⟩) (fun k => xs.length - k) 0 id (Nat.zero_le _) ?_ ?_
  · simp only [Sub, subT, subB, subO, subP, inj, AV.ren, AV.rens, AV.lt, AV.lts, eq_self, AS.setb, AS.mk', AS.owf, kill, look, td0, td1, td2, td3, td4, td5, td6, Option.bind, List.map, List.take, List.set, List.foldr, List.mem_cons, List.not_mem_nil, List.nodup_cons, List.nodup_nil, ↓reduceIte, Nat.reduceLT, Nat.reduceAdd, Nat.reduceEqDiff, not_false_eq_true, or_false, id_eq, reduceCtorEq, Int.natCast_zero, and_self, tysC, Int.natCast_zero]
  · rintro k hk
    refine sw_run 200 _ _ _ ?_
    by_cases hlt : k < xs.length
    · have hi : (k : Int) < (xs.length : Int) := by omega
      simp only [eq_self, xRun, vE, vP, vSub, vLoad, vFld, vBin, vBinT, isAg, isBo, vLen, isCutO, isB, bv, gN, isPick, isCall, AS.pt, AS.ev, AS.rd, look, td0, td1, td2, td3, td4, td5, td6, Option.getD, Option.isSome, List.getElem?_cons_zero, List.getElem?_cons_succ, ↓reduceIte, Nat.reduceLT, Nat.reduceEqDiff, Nat.zero_add, ne_eq, not_false_eq_true, true_and, Bool.false_eq_true, decide_true, Nat.succ_ne_zero, hi]
      refine sw_drawn (.cons 0 true (.cons 1 true (.cons 2 true (.cons 3 true (.cons 4 true (.cons 5 true (.cons 6 true (.cons 7 false (.cons 8 false (.cons 9 false (.cons 10 true (.cons 11 false (.nil))))))))))))) (by kernel_rfl) qLp_panic (by kernel_rfl) (sw_run 200 _ _ _ ?_)
      have hR := tysC_row' xs k hlt
      have hm := mem_bang hlt
      have hs : szL (tyC xs[k]!) ≤ 1000000000 := by
        have := szL_tys' xs k hlt
        omega
      simp only [tysD, rowD, eq_self, xRun, vP, vSub, vLoad, vFld, vIdx, gN, isPick, isCall, AS.pt, AS.ev, look, avB, td0, td1, td2, td3, td4, td5, td6, Option.getD, Option.isSome, List.map, List.take, List.drop, List.length, List.getElem?_cons_zero, List.getElem?_cons_succ, ↓reduceIte, Nat.reduceLT, Nat.reduceAdd, Nat.reduceEqDiff, Nat.zero_add, ne_eq, not_false_eq_true, true_and, Bool.false_eq_true, Int.toNat_natCast, Int.natCast_nonneg, and_self, Nat.succ_ne_zero, Nat.le_refl, hR, tyC_eq, hi]
      refine sw_callD (ih _ hm hs) rfl (aAs_ok ?_) ?_ (sw_run 200 _ _ _ ?_)
      · simp only [aAs, aA, aDs, aD, tysD, AS.ev, look, Option.getD, List.map, List.append_nil, ↓reduceIte, eq_self, and_self, tyC_eq]
      · simp only [okR]
      simp only [mkR, flatD, packA, retA, qLp, tysD, eq_self, xRun, vE, vP, vFld, vBin, vBinT, isAg, isBo, vRow, vStore, vApp, apP, apC, isCl, isCutO, xFill, appL, appR, gN, isPick, isCall, AS.pt, AS.ev, AS.setb, AS.mk', AS.owf, kill, look, cav, setRowG, AV.cells, AV.whole, AV.one, cD, cDs, eatsOf, dpOf, td0, td1, td2, td3, td4, td5, td6, Option.bind, Option.getD, Option.map, Option.isSome, List.map, List.take, List.length, List.getElem?_cons_zero, List.getElem?_cons_succ, List.set, List.foldr, List.all, List.replicate, List.mem_cons, List.not_mem_nil, List.nodup_cons, List.nodup_nil, List.nil_append, List.cons_append, List.append_nil, ↓reduceIte, Nat.reduceLT, Nat.reduceAdd, Nat.reduceLeDiff, Nat.reduceEqDiff, Nat.zero_add, Nat.zero_mul, Nat.one_mul, ne_eq, not_false_eq_true, true_and, or_false, or_true, Bool.and_true, Bool.false_eq_true, id_eq, and_self, Nat.succ_ne_zero, Nat.le_refl, tyC_eq]
      refine ⟨⟨fun o ho => by omega, by unfold maxLen; omega, by omega⟩, by unfold inI; omega, k + 1, rn1 3 6, by omega, by omega, ?_⟩
      simp only [Sub, subT, subB, subO, subP, inj, AV.ren, AV.rens, AV.lt, AV.lts, tysD, eq_self, AS.owf, look, td0, td1, td2, td3, td4, td5, td6, Option.bind, List.map, List.mem_cons, List.not_mem_nil, List.nodup_cons, List.nodup_nil, ↓reduceIte, Nat.reduceLT, Nat.reduceEqDiff, not_false_eq_true, or_false, id_eq, reduceCtorEq, and_self, Nat.succ_ne_zero, rn1, cast1, tysC_snoc' xs k hlt, tyC_eq]
    · have hi : ¬ (k : Int) < (xs.length : Int) := by omega
      obtain rfl : k = xs.length := by omega
      simp only [qLp, eq_self, xRun, vE, vP, vSub, vLoad, vFld, vBin, vBinT, isAg, isBo, vLen, isCutO, isB, bv, gN, isPick, isCall, popTo, AS.pt, AS.ev, AS.rd, look, td0, td1, td2, td3, td4, td5, td6, Option.getD, Option.isSome, List.getElem?_cons_zero, List.getElem?_cons_succ, ↓reduceIte, Nat.reduceLT, Nat.reduceEqDiff, Nat.zero_add, ne_eq, not_false_eq_true, true_and, Bool.false_eq_true, decide_false, Nat.succ_ne_zero, hi]
      refine sw_run 200 _ _ _ ?_
      simp only [fQ, xRet, rPs, xRes, flatA, rD, rDs, eq_self, xRun, vE, vP, vSub, vLoad, vStore, isCutO, gN, isPick, isCall, AS.pt, AS.ev, AS.setb, AS.owf, look, setRowG, AV.cells, AV.whole, AV.one, eatsOf, td0, td1, td2, td3, td4, td5, td6, Option.bind, Option.getD, List.map, List.take, List.drop, List.length, List.set, List.all, List.not_mem_nil, List.nodup_cons, List.nodup_nil, List.append_nil, ↓reduceIte, Nat.reduceLT, Nat.reduceAdd, Nat.reduceEqDiff, Nat.zero_add, not_false_eq_true, or_false, Bool.and_true, Bool.false_eq_true, id_eq, reduceCtorEq, and_self, Nat.succ_ne_zero, Nat.le_refl, List.take_length, Try.results204]
theorem con_own : ∀ t : Ty, szL (tyC t) ≤ 1000000000 → Con Try.prog 208 [.ag (tyC t)] [.ag (tyC t)] := by
  refine Ty.ind fun kd xs ih hz => ?_
  have hz' : xs.length + szL (tysC xs) ≤ 1000000000 := by simpa [tyC, szL, szD] using hz
  refine con_run Try.func208 rfl rfl (by simp [Try.ntmps208]) ?_
  simp only [argT, argA, eq_self, xRun, vE, vP, vSub, vLoad, vFld, vLen, vBuild, vStore, isCutO, xFill, gN, isPick, isCall, AS.pt, AS.ev, AS.box, AS.setb, AS.rd, look, cav, avB, setRowG, AV.cells, AV.whole, AV.one, td0, td1, td2, td3, td4, td5, td6, Option.getD, Option.isSome, List.map, List.length, List.getElem?_cons_zero, List.getElem?_cons_succ, List.set, List.all, ↓reduceIte, Nat.reduceLT, Nat.reduceAdd, Nat.reduceLeDiff, Nat.reduceEqDiff, Nat.zero_add, Nat.add_zero, ne_eq, not_false_eq_true, true_and, Bool.and_true, Bool.false_eq_true, reduceCtorEq, and_self, Nat.succ_ne_zero, Nat.le_refl, Try.ntmps208, tyC]
  refine sw_ownB 2 1 45 rfl rfl ?_
  refine sw_loop (fun k : Nat => k ≤ xs.length) (fun k => ⟨25, [(12, .i k), (11, .i xs.length), (10, .br (.rows 2 xs.length (tysC xs))), (2, .bx 1 0), (3, .bx 2 0)], [(1, [.i 0, .nl 2]), (2, [.i kd, .sl 3])], [(3, some ⟨.rows 2 k (tysC (xs.take k)), some 45, true⟩)], 4, []⟩) (fun k => xs.length - k) 0 id (Nat.zero_le _) ?_ ?_
  · simp only [Sub, subT, subB, subO, subP, inj, AV.ren, AV.rens, AV.lt, AV.lts, eq_self, AS.setb, AS.mk', AS.owf, kill, look, td0, td1, td2, td3, td4, td5, td6, Option.bind, List.map, List.take, List.set, List.foldr, List.mem_cons, List.not_mem_nil, List.nodup_cons, List.nodup_nil, ↓reduceIte, Nat.reduceLT, Nat.reduceAdd, Nat.reduceEqDiff, not_false_eq_true, or_false, id_eq, Int.natCast_zero, and_self, tysC, Int.natCast_zero]
  · rintro k hk
    refine sw_run 200 _ _ _ ?_
    by_cases hlt : k < xs.length
    · have hi : (k : Int) < (xs.length : Int) := by omega
      have hR := tysC_row' xs k hlt
      simp only [tysD, rowD, eq_self, xRun, vE, vP, vSub, vLoad, vIdx, vBin, vBinT, isAg, isBo, vStore, isCutO, isB, bv, gN, isPick, isCall, AS.pt, AS.ev, AS.box, AS.setb, look, avB, setRowG, AV.cells, AV.whole, AV.one, td0, td1, td2, td3, td4, td5, td6, Option.getD, Option.isSome, List.map, List.take, List.drop, List.length, List.set, List.all, ↓reduceIte, Nat.reduceLT, Nat.reduceAdd, Nat.reduceEqDiff, Nat.zero_add, true_and, Bool.and_true, Bool.false_eq_true, Int.toNat_natCast, Int.natCast_nonneg, decide_true, and_self, Nat.le_refl, hi, hR, tyC_eq]
      refine sw_drawn (.cons 0 true (.cons 1 true (.cons 2 true (.cons 3 false (.cons 4 false (.cons 5 false (.cons 6 true (.cons 7 false (.nil))))))))) (by kernel_rfl) qLp_panic (by kernel_rfl) (sw_run 200 _ _ _ ?_)
      have hm := mem_bang hlt
      have hs : szL (tyC xs[k]!) ≤ 1000000000 := by
        have := szL_tys' xs k hlt
        omega
      simp only [eq_self, xRun, vP, vSub, vLoad, vFld, gN, isPick, isCall, AS.pt, AS.ev, look, td0, td1, td2, td3, td4, td5, td6, Option.getD, Option.isSome, List.take, List.drop, List.length, List.getElem?_cons_zero, List.getElem?_cons_succ, ↓reduceIte, Nat.reduceLT, Nat.reduceAdd, Nat.reduceEqDiff, Nat.zero_add, ne_eq, not_false_eq_true, true_and, Bool.false_eq_true, Nat.succ_ne_zero, Nat.le_refl]
      refine sw_callD (ih _ hm hs) rfl (aAs_ok ?_) ?_ (sw_run 200 _ _ _ ?_)
      · simp only [aAs, aA, aDs, aD, tysD, AS.ev, look, Option.getD, List.map, List.append_nil, ↓reduceIte, eq_self, and_self, tyC_eq]
      · simp only [okR]
      simp only [mkR, flatD, packA, retA, qLp, tysD, eq_self, xRun, vE, vP, vFld, vBin, vBinT, isAg, isBo, vRow, vStore, vApp, apP, apC, isCl, isCutO, xFill, appL, appR, gN, isPick, isCall, AS.pt, AS.ev, AS.setb, AS.mk', AS.owf, kill, look, cav, setRowG, AV.cells, AV.whole, AV.one, cD, cDs, eatsOf, dpOf, td0, td1, td2, td3, td4, td5, td6, Option.bind, Option.getD, Option.map, Option.isSome, List.map, List.take, List.length, List.getElem?_cons_zero, List.getElem?_cons_succ, List.set, List.foldr, List.all, List.replicate, List.mem_cons, List.not_mem_nil, List.nodup_cons, List.nodup_nil, List.nil_append, List.cons_append, List.append_nil, ↓reduceIte, Nat.reduceLT, Nat.reduceAdd, Nat.reduceLeDiff, Nat.reduceEqDiff, Nat.zero_add, Nat.zero_mul, Nat.one_mul, ne_eq, not_false_eq_true, true_and, or_false, or_true, Bool.and_true, Bool.false_eq_true, id_eq, and_self, Nat.succ_ne_zero, Nat.le_refl, tyC_eq]
      refine ⟨⟨fun o ho => by omega, by unfold maxLen; omega, by omega⟩, by unfold inI; omega, k + 1, rn1 3 7, by omega, by omega, ?_⟩
      simp only [Sub, subT, subB, subO, subP, inj, AV.ren, AV.rens, AV.lt, AV.lts, tysD, eq_self, AS.owf, look, td0, td1, td2, td3, td4, td5, td6, Option.bind, List.map, List.mem_cons, List.not_mem_nil, List.nodup_cons, List.nodup_nil, ↓reduceIte, Nat.reduceLT, Nat.reduceEqDiff, not_false_eq_true, or_false, id_eq, and_self, rn1, cast1, tysC_snoc' xs k hlt, tyC_eq]
    · have hi : ¬ (k : Int) < (xs.length : Int) := by omega
      obtain rfl : k = xs.length := by omega
      simp only [qLp, eq_self, xRun, vE, vP, vBin, vBinT, isAg, isBo, isCutO, isB, bv, gN, isPick, isCall, popTo, AS.pt, AS.ev, look, td0, td1, td2, td3, td4, td5, td6, Option.getD, Option.isSome, ↓reduceIte, Nat.reduceLT, Nat.reduceEqDiff, true_and, Bool.false_eq_true, decide_false, hi]
      refine sw_run 200 _ _ _ ?_
      simp only [fQ, xRet, rPs, xRes, flatA, rD, rDs, eq_self, xRun, vE, vP, vSub, vLoad, vStore, isCutO, gN, isPick, isCall, AS.pt, AS.ev, AS.setb, AS.owf, look, setRowG, AV.cells, AV.whole, AV.one, eatsOf, td0, td1, td2, td3, td4, td5, td6, Option.bind, Option.getD, List.map, List.take, List.drop, List.length, List.set, List.all, List.not_mem_nil, List.nodup_cons, List.nodup_nil, List.append_nil, ↓reduceIte, Nat.reduceLT, Nat.reduceAdd, Nat.reduceEqDiff, Nat.zero_add, not_false_eq_true, or_false, Bool.and_true, Bool.false_eq_true, id_eq, reduceCtorEq, and_self, Nat.le_refl, List.take_length, Try.results208]
end Go.Proofs.Ytepjbiffebbelaa
