/-
  The type of a staged function, of both sides.
-/
import Derived.Test.YtpoemjeelbmpkaaGreatTyC
import Derived.Test.YtpoemjeelbmpkaaGreatLst
/-
  Static and dynamic parameters, of both sides.
-/
namespace Go.Proofs.YtpoemjeelbmpkaaGreat
open Go.RowKit
set_option linter.unusedVariables false
set_option linter.unusedSimpArgs false
set_option maxRecDepth 20000
end Go.Proofs.YtpoemjeelbmpkaaGreat

namespace Go.Proofs.YtpoemjeelbmpkaaGreat
open Go.RowKit
set_option linter.unusedVariables false
set_option linter.unusedSimpArgs false
set_option maxRecDepth 20000
theorem con_tyFun (a b : Ty) (ha : szL (tyC a) ≤ 1000000000) (hb : szL (tyC b) ≤ 1000000000) : Con Tryz.prog 81 [.ag (tyC a), .ag (tyC b)] [.ag (tyC (.mk 3 [a, b]))] := by
  refine con_run Tryz.func81 rfl rfl (by simp [Tryz.ntmps81]) ?_
  simp only [argT, argA, tysD, eq_self, xRun, vE, isCutO, gN, isPick, isCall, AS.pt, AS.ev, AS.box, look, avB, AV.cells, AV.whole, AV.one, td0, td1, td2, td3, td4, td5, td6, Option.getD, Option.isSome, List.map, List.all, ↓reduceIte, Nat.reduceLT, Nat.reduceAdd, Nat.reduceEqDiff, Nat.zero_add, true_and, Bool.and_true, Bool.false_eq_true, Nat.succ_ne_zero, Tryz.ntmps81, tyC_eq]
  refine sw_drawn (.cons 0 true (.cons 2 true (.cons 1 false (.cons 3 false (.cons 4 false (.cons 5 true (.cons 6 false (.nil)))))))) (by kernel_rfl) fQ_panic (by kernel_rfl) (sw_run 200 _ _ _ ?_)
  simp only [eq_self, xRun, vP, vSub, vLoad, gN, isPick, isCall, AS.pt, AS.ev, look, td0, td1, td2, td3, td4, td5, td6, Option.getD, Option.isSome, List.take, List.drop, List.length, List.getElem?_cons_zero, List.getElem?_cons_succ, ↓reduceIte, Nat.reduceLT, Nat.reduceAdd, Nat.reduceEqDiff, Nat.zero_add, true_and, Bool.false_eq_true, reduceCtorEq, Nat.le_refl]
  refine sw_callD (con_own a ha) rfl (aAs_ok ?_) ?_ (sw_run 200 _ _ _ ?_)
  · simp only [aAs, aA, aDs, aD, tysD, AS.ev, look, Option.getD, List.map, List.append_nil, ↓reduceIte, Nat.reduceEqDiff, eq_self, and_self, tyC_eq]
  · simp only [okR]
  simp only [mkR, flatD, packA, retA, tysD, eq_self, xRun, gN, isCall, AS.pt, AS.mk', kill, td0, td1, td2, td3, td4, td5, td6, Option.getD, Option.isSome, List.take, List.length, List.getElem?_cons_zero, List.getElem?_cons_succ, List.foldr, List.append_nil, ↓reduceIte, Nat.reduceLT, Nat.reduceAdd, Nat.zero_add, true_and, tyC_eq]
  refine sw_callD (con_own b hb) rfl (aAs_ok ?_) ?_ (sw_run 200 _ _ _ ?_)
  · simp only [aAs, aA, aDs, aD, tysD, AS.ev, look, Option.getD, List.map, List.append_nil, ↓reduceIte, Nat.reduceEqDiff, eq_self, and_self, tyC_eq]
  · simp only [okR]
  simp only [mkR, flatD, packA, retA, fQ, tysD, xRet, rPs, xRes, flatA, rD, rDs, eq_self, xRun, vE, vP, vBuild, vRow, vStore, xFill, gN, isPick, isCall, AS.pt, AS.ev, AS.setb, AS.mk', AS.owf, kill, look, cav, setRowG, AV.cells, AV.whole, AV.one, cD, cDs, eatsOf, dpOf, td0, td1, td2, td3, td4, td5, td6, Option.bind, Option.getD, Option.map, Option.isSome, List.map, List.take, List.length, List.getElem?_cons_zero, List.getElem?_cons_succ, List.set, List.foldr, List.all, List.replicate, List.mem_cons, List.not_mem_nil, List.nodup_cons, List.nodup_nil, List.nil_append, List.cons_append, List.append_nil, ↓reduceIte, Nat.reduceLT, Nat.reduceAdd, Nat.reduceMul, Nat.reduceLeDiff, Nat.reduceEqDiff, Nat.zero_add, Nat.zero_mul, Nat.one_mul, not_false_eq_true, or_false, or_true, Bool.and_true, Bool.false_eq_true, id_eq, reduceCtorEq, and_self, Nat.succ_ne_zero, Nat.le_refl, tyC_eq, Tryz.results81, Ty.kind, Ty.args, tysC]
theorem con_l3Fun (a b : Ty) (ha : szL (tyC a) ≤ 1000000000) (hb : szL (tyC b) ≤ 1000000000) : Con Tryz.prog 88 [.ag (tyC a), .ag (tyC b)] [.ag (tyC (.mk 3 [a, b]))] := by
  refine con_run Tryz.func88 rfl rfl (by simp [Tryz.ntmps88]) ?_
  simp only [argT, argA, tysD, eq_self, xRun, vE, isCutO, gN, isPick, isCall, AS.pt, AS.ev, AS.box, look, avB, AV.cells, AV.whole, AV.one, td0, td1, td2, td3, td4, td5, td6, Option.getD, Option.isSome, List.map, List.all, ↓reduceIte, Nat.reduceLT, Nat.reduceAdd, Nat.reduceEqDiff, Nat.zero_add, true_and, Bool.and_true, Bool.false_eq_true, Nat.succ_ne_zero, Tryz.ntmps88, tyC_eq]
  refine sw_drawn (.cons 0 true (.cons 2 true (.cons 1 false (.cons 3 false (.cons 4 false (.cons 5 true (.cons 6 false (.nil)))))))) (by kernel_rfl) fQ_panic (by kernel_rfl) (sw_run 200 _ _ _ ?_)
  simp only [eq_self, xRun, vP, vSub, vLoad, gN, isPick, isCall, AS.pt, AS.ev, look, td0, td1, td2, td3, td4, td5, td6, Option.getD, Option.isSome, List.take, List.drop, List.length, List.getElem?_cons_zero, List.getElem?_cons_succ, ↓reduceIte, Nat.reduceLT, Nat.reduceAdd, Nat.reduceEqDiff, Nat.zero_add, true_and, Bool.false_eq_true, reduceCtorEq, Nat.le_refl]
  refine sw_callD (con_l3Copy a ha) rfl (aAs_ok ?_) ?_ (sw_run 200 _ _ _ ?_)
  · simp only [aAs, aA, aDs, aD, tysD, AS.ev, look, Option.getD, List.map, List.append_nil, ↓reduceIte, Nat.reduceEqDiff, eq_self, and_self, tyC_eq]
  · simp only [okR]
  simp only [mkR, flatD, packA, retA, tysD, eq_self, xRun, gN, isCall, AS.pt, AS.mk', kill, td0, td1, td2, td3, td4, td5, td6, Option.getD, Option.isSome, List.take, List.length, List.getElem?_cons_zero, List.getElem?_cons_succ, List.foldr, List.append_nil, ↓reduceIte, Nat.reduceLT, Nat.reduceAdd, Nat.zero_add, true_and, tyC_eq]
  refine sw_callD (con_l3Copy b hb) rfl (aAs_ok ?_) ?_ (sw_run 200 _ _ _ ?_)
  · simp only [aAs, aA, aDs, aD, tysD, AS.ev, look, Option.getD, List.map, List.append_nil, ↓reduceIte, Nat.reduceEqDiff, eq_self, and_self, tyC_eq]
  · simp only [okR]
  simp only [mkR, flatD, packA, retA, fQ, tysD, xRet, rPs, xRes, flatA, rD, rDs, eq_self, xRun, vE, vP, vBuild, vRow, vStore, xFill, gN, isPick, isCall, AS.pt, AS.ev, AS.setb, AS.mk', AS.owf, kill, look, cav, setRowG, AV.cells, AV.whole, AV.one, cD, cDs, eatsOf, dpOf, td0, td1, td2, td3, td4, td5, td6, Option.bind, Option.getD, Option.map, Option.isSome, List.map, List.take, List.length, List.getElem?_cons_zero, List.getElem?_cons_succ, List.set, List.foldr, List.all, List.replicate, List.mem_cons, List.not_mem_nil, List.nodup_cons, List.nodup_nil, List.nil_append, List.cons_append, List.append_nil, ↓reduceIte, Nat.reduceLT, Nat.reduceAdd, Nat.reduceMul, Nat.reduceLeDiff, Nat.reduceEqDiff, Nat.zero_add, Nat.zero_mul, Nat.one_mul, not_false_eq_true, or_false, or_true, Bool.and_true, Bool.false_eq_true, id_eq, reduceCtorEq, and_self, Nat.succ_ne_zero, Nat.le_refl, tyC_eq, Tryz.results88, Ty.kind, Ty.args, tysC]
theorem con_tyCode (a : Ty) (ha : szL (tyC a) ≤ 1000000000) : Con Tryz.prog 99 [.ag (tyC a)] [.ag (tyC (.mk 4 [a]))] := by
  refine con_run Tryz.func99 rfl rfl (by simp [Tryz.ntmps99]) ?_
  simp only [argT, argA, tysD, eq_self, xRun, vE, vP, vSub, vLoad, isCutO, gN, isPick, isCall, AS.pt, AS.ev, AS.box, look, avB, AV.cells, AV.whole, AV.one, td0, td1, td2, td3, td4, td5, td6, Option.getD, Option.isSome, List.map, List.take, List.drop, List.length, List.all, ↓reduceIte, Nat.reduceLT, Nat.reduceAdd, Nat.reduceEqDiff, Nat.zero_add, true_and, Bool.and_true, Bool.false_eq_true, reduceCtorEq, Nat.le_refl, Tryz.ntmps99, tyC_eq]
  refine sw_call (con_own a ha) rfl (aAs_ok ?_) ?_ (sw_run 200 _ _ _ ?_)
  · simp only [aAs, aA, aDs, aD, tysD, AS.ev, look, Option.getD, List.map, List.append_nil, ↓reduceIte, eq_self, and_self, tyC_eq]
  · simp only [okR]
  simp only [mkR, flatD, packA, retA, fQ, tysD, xRet, rPs, xRes, flatA, rD, rDs, eq_self, xRun, vE, vP, vBuild, vRow, vStore, isCutO, xFill, gN, isPick, isCall, AS.pt, AS.ev, AS.setb, AS.mk', AS.owf, kill, look, cav, setRowG, AV.cells, AV.whole, AV.one, cD, cDs, eatsOf, dpOf, td0, td1, td2, td3, td4, td5, td6, Option.bind, Option.getD, Option.map, Option.isSome, List.map, List.take, List.length, List.getElem?_cons_zero, List.getElem?_cons_succ, List.set, List.foldr, List.all, List.replicate, List.not_mem_nil, List.nodup_cons, List.nodup_nil, List.append_nil, ↓reduceIte, Nat.reduceLT, Nat.reduceAdd, Nat.reduceLeDiff, Nat.reduceEqDiff, Nat.zero_add, Nat.zero_mul, Nat.one_mul, not_false_eq_true, or_false, or_true, Bool.and_true, Bool.false_eq_true, id_eq, reduceCtorEq, and_self, Nat.succ_ne_zero, Nat.le_refl, tyC_eq, Tryz.results99, Ty.kind, Ty.args, tysC]
theorem con_l3Code (a : Ty) (ha : szL (tyC a) ≤ 1000000000) : Con Tryz.prog 91 [.ag (tyC a)] [.ag (tyC (.mk 4 [a]))] := by
  refine con_run Tryz.func91 rfl rfl (by simp [Tryz.ntmps91]) ?_
  simp only [argT, argA, tysD, eq_self, xRun, vE, vP, vSub, vLoad, isCutO, gN, isPick, isCall, AS.pt, AS.ev, AS.box, look, avB, AV.cells, AV.whole, AV.one, td0, td1, td2, td3, td4, td5, td6, Option.getD, Option.isSome, List.map, List.take, List.drop, List.length, List.all, ↓reduceIte, Nat.reduceLT, Nat.reduceAdd, Nat.reduceEqDiff, Nat.zero_add, true_and, Bool.and_true, Bool.false_eq_true, reduceCtorEq, Nat.le_refl, Tryz.ntmps91, tyC_eq]
  refine sw_call (con_l3Copy a ha) rfl (aAs_ok ?_) ?_ (sw_run 200 _ _ _ ?_)
  · simp only [aAs, aA, aDs, aD, tysD, AS.ev, look, Option.getD, List.map, List.append_nil, ↓reduceIte, eq_self, and_self, tyC_eq]
  · simp only [okR]
  simp only [mkR, flatD, packA, retA, fQ, tysD, xRet, rPs, xRes, flatA, rD, rDs, eq_self, xRun, vE, vP, vBuild, vRow, vStore, isCutO, xFill, gN, isPick, isCall, AS.pt, AS.ev, AS.setb, AS.mk', AS.owf, kill, look, cav, setRowG, AV.cells, AV.whole, AV.one, cD, cDs, eatsOf, dpOf, td0, td1, td2, td3, td4, td5, td6, Option.bind, Option.getD, Option.map, Option.isSome, List.map, List.take, List.length, List.getElem?_cons_zero, List.getElem?_cons_succ, List.set, List.foldr, List.all, List.replicate, List.not_mem_nil, List.nodup_cons, List.nodup_nil, List.append_nil, ↓reduceIte, Nat.reduceLT, Nat.reduceAdd, Nat.reduceLeDiff, Nat.reduceEqDiff, Nat.zero_add, Nat.zero_mul, Nat.one_mul, not_false_eq_true, or_false, or_true, Bool.and_true, Bool.false_eq_true, id_eq, reduceCtorEq, and_self, Nat.succ_ne_zero, Nat.le_refl, tyC_eq, Tryz.results91, Ty.kind, Ty.args, tysC]
end Go.Proofs.YtpoemjeelbmpkaaGreat
