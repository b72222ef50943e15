/-
  Copies of types, of the reference and of the program.
-/
import Derived.Test.YtgjcilainojlfaaDat
import Derived.Test.YtgjcilainojlfaaTd
import Derived.Test.YtgjcilainojlfaaTreeM
namespace Go.Proofs.Ytgjcilainojlfaa
open Go.RowKit
set_option linter.unusedVariables false
set_option linter.unusedSimpArgs false
set_option maxRecDepth 20000
theorem szL_tys' (xs : List Ty) (k : Nat) (h : k < xs.length) : szL (tyC xs[k]!) ≤ szL (tysC xs) := by
  rw [tysC_flat]
  have e := tysC_row' xs k h
  have : ∀ (ys : List Ty) (j : Nat), j < ys.length → szL (tyC ys[j]!) ≤ szL (flC tyC ys) := by
    intro ys
    induction ys with
    | nil => intro j hj; simp at hj
    | cons y ys ih =>
      intro j hj
      rw [flC, szL_append]
      cases j with
      | zero => simp
      | succ j => have := ih j (by simpa using hj); simp only [List.getElem!_cons_succ]; omega
  exact this xs k h
theorem szL_tms' (xs : List Tm) (k : Nat) (h : k < xs.length) : szL (tmC xs[k]!) ≤ szL (tmsC xs) := by
  rw [tmsC_flat]
  have : ∀ (ys : List Tm) (j : Nat), j < ys.length → szL (tmC ys[j]!) ≤ szL (flC tmC ys) := by
    intro ys
    induction ys with
    | nil => intro j hj; simp at hj
    | cons y ys ih =>
      intro j hj
      rw [flC, szL_append]
      cases j with
      | zero => simp
      | succ j => have := ih j (by simpa using hj); simp only [List.getElem!_cons_succ]; omega
  exact this xs k h
theorem con_within (n lo hi : Int) : Con Try.prog 45 [.one (.int n), .one (.int lo), .one (.int hi)] [.one (.bool (decide (lo ≤ n) && decide (n ≤ hi)))] := by
  refine con_run Try.func45 rfl rfl (by simp [Try.ntmps45]) ?_
  simp only [argT, argA, fQ, xRet, rPs, xRes, flatA, rD, eq_self, xRun, vE, vP, vBin, vBinT, isAg, isBo, isCutO, isB, bv, gT, gW, gN, gV, isU, isPick, pkC, pkA, pkB, isCall, AS.pt, AS.kn, AS.ev, look, cav, avB, eatsOf, td0, td1, td2, td3, td4, td5, td6, Option.bind, Option.getD, Option.isSome, List.map, List.getElem?_cons_zero, List.getElem?_cons_succ, List.nodup_nil, ↓reduceIte, Nat.reduceLT, Nat.reduceAdd, Nat.reduceEqDiff, Nat.zero_add, true_and, and_true, or_false, Bool.not_true, Bool.false_eq_true, reduceCtorEq, and_self, decide_eq_true_eq, Nat.succ_ne_zero, Try.ntmps45, Try.results45]
  split
  · simp [*]
  · rename_i h; simp [h]
theorem con_l1In (n lo hi : Int) : Con Try.prog 41 [.one (.int n), .one (.int lo), .one (.int hi)] [.one (.bool (decide (lo ≤ n) && decide (n ≤ hi)))] := by
  refine con_run Try.func41 rfl rfl (by simp [Try.ntmps41]) ?_
  simp only [argT, argA, fQ, xRet, rPs, xRes, flatA, rD, eq_self, xRun, vE, vP, vBin, vBinT, isAg, isBo, isCutO, isB, bv, gT, gW, gN, gV, isU, isPick, pkC, pkA, pkB, isCall, AS.pt, AS.kn, AS.ev, look, cav, avB, eatsOf, td0, td1, td2, td3, td4, td5, td6, Option.bind, Option.getD, Option.isSome, List.map, List.getElem?_cons_zero, List.getElem?_cons_succ, List.nodup_nil, ↓reduceIte, Nat.reduceLT, Nat.reduceAdd, Nat.reduceEqDiff, Nat.zero_add, true_and, and_true, or_false, Bool.not_true, Bool.false_eq_true, reduceCtorEq, and_self, decide_eq_true_eq, Nat.succ_ne_zero, Try.ntmps41, Try.results41]
  split
  · simp [*]
  · rename_i h; simp [h]
end Go.Proofs.Ytgjcilainojlfaa
