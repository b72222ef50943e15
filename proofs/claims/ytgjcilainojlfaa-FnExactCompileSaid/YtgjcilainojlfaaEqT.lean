/-
  Equal types and terms, of both sides.
-/
import Derived.Test.YtgjcilainojlfaaTyC
import Derived.Test.YtgjcilainojlfaaLst
namespace Go.Proofs.Ytgjcilainojlfaa
open Go.RowKit
set_option linter.unusedVariables false
set_option linter.unusedSimpArgs false
set_option maxRecDepth 20000
theorem sz_partsE {t : Tm} {B : Nat} (h : szL (tmC t) ≤ B) : szL (tyC t.ty) ≤ B ∧ szL (tyC t.res) ≤ B ∧ t.args.length + szL (tmsC t.args) ≤ B := by
  rw [tmC_eq] at h; rw [tyC_eq, tyC_eq]; simp only [szL, szD, tysD, tmsD] at h ⊢; omega
def likeL {α : Type} (f : α → α → Bool) : List α → List α → Bool
  | [], [] => true
  | x :: xs, y :: ys => f x y && likeL f xs ys
  | [], _ :: _ => false
  | _ :: _, [] => false
theorem likeL_ne {α : Type} (f : α → α → Bool) : ∀ xs ys : List α, xs.length ≠ ys.length → likeL f xs ys = false
  | [], [], h => absurd rfl h
  | x :: xs, y :: ys, h => by rw [likeL, likeL_ne f xs ys (by simpa using h), Bool.and_false]
  | [], _ :: _, _ => rfl
  | _ :: _, [], _ => rfl
theorem likeL_step {α : Type} [Inhabited α] (f : α → α → Bool) (xs ys : List α) (k : Nat) (h : k < xs.length) (h2 : k < ys.length) : likeL f (xs.drop k) (ys.drop k) = (f xs[k]! ys[k]! && likeL f (xs.drop (k + 1)) (ys.drop (k + 1))) := by
  rw [List.drop_eq_getElem_cons h, List.drop_eq_getElem_cons h2, likeL, getElem!_pos xs k h, getElem!_pos ys k h2]
theorem likeL_end {α : Type} (f : α → α → Bool) (xs ys : List α) (k : Nat) (h : xs.length ≤ k) (h2 : ys.length ≤ k) : likeL f (xs.drop k) (ys.drop k) = true := by
  rw [List.drop_of_length_le h, List.drop_of_length_le h2]; rfl
mutual
def eqTy : Ty → Ty → Bool
  | .mk k xs, .mk l ys => decide (k = l) && eqTys xs ys
def eqTys : List Ty → List Ty → Bool
  | [], [] => true
  | x :: xs, y :: ys => eqTy x y && eqTys xs ys
  | [], _ :: _ => false
  | _ :: _, [] => false
end
theorem eqTys_L : ∀ xs ys : List Ty, eqTys xs ys = likeL eqTy xs ys
  | [], [] => by rw [eqTys, likeL]
  | x :: xs, y :: ys => by rw [eqTys, likeL, eqTys_L xs ys]
  | [], _ :: _ => by rw [eqTys, likeL]
  | _ :: _, [] => by rw [eqTys, likeL]
theorem con_EqFTy (g : FuncId) (f : Ty → Ty → Bool) (xs ys : List Ty) (hl : xs.length ≤ 1000000000) (hp : ∀ a ∈ xs, ∀ b ∈ ys, Con Try.prog g [.ag (tyC a), .ag (tyC b)] [.one (.bool (f a b))]) :
    Con Try.prog 154 [.one (.rows 2 xs.length (tysC xs)), .one (.rows 2 ys.length (tysC ys)), .fn g []] [.one (.bool (likeL f xs ys))] := by
  refine con_run Try.func154 rfl rfl (by simp [Try.ntmps154]) ?_
  by_cases hn : (xs.length : Int) = (ys.length : Int)
  case neg =>
    rw [likeL_ne f xs ys (by omega)]
    simp only [argT, argA, argAs, fQ, xRet, rPs, xRes, flatA, rD, eq_self, xRun, vE, vP, vBin, vBinT, isAg, isBo, vLen, isCutO, isB, bv, gN, isPick, isCall, AS.pt, AS.ev, AS.rd, look, cav, avB, eatsOf, td0, td1, td2, td3, td4, td5, td6, Option.getD, List.map, List.nodup_nil, ↓reduceIte, Nat.reduceLT, Nat.reduceAdd, Nat.reduceEqDiff, Nat.zero_add, ne_eq, not_false_eq_true, or_false, Bool.false_eq_true, reduceCtorEq, decide_true, and_self, Nat.succ_ne_zero, hn, Try.ntmps154, Try.results154]
  have hn2 : xs.length = ys.length := by omega
  simp only [argT, argA, argAs, eq_self, xRun, vE, vP, vBin, vBinT, isAg, isBo, vLen, isCutO, isB, bv, gN, isPick, isCall, AS.pt, AS.ev, AS.rd, look, cav, avB, td0, td1, td2, td3, td4, td5, td6, Option.getD, ↓reduceIte, Nat.reduceLT, Nat.reduceAdd, Nat.reduceEqDiff, Nat.zero_add, ne_eq, not_true_eq_false, true_and, Bool.false_eq_true, reduceCtorEq, decide_false, Nat.succ_ne_zero, hn2, Try.ntmps154]
  refine sw_loop (fun k : Nat => k ≤ xs.length ∧ likeL f (xs.drop k) (ys.drop k) = likeL f xs ys) (fun k => ⟨32, [(17, .i k), (16, .i ys.length), (15, .br (.rows 2 ys.length (tysC xs))), (1, .br (.rows 2 ys.length (tysC ys))), (2, .fn g [])], [], [], 0, []⟩) (fun k => xs.length - k) 0 id ⟨Nat.zero_le _, rfl⟩ ?_ ?_
  · simp only [Sub, subT, subB, subO, subP, inj, AV.ren, AV.rens, AV.lt, AV.lts, eq_self, look, td0, td1, td2, td3, td4, td5, td6, List.map, List.nodup_nil, ↓reduceIte, Nat.reduceEqDiff, Int.natCast_zero, and_self, Nat.succ_ne_zero, Int.natCast_zero]
  · rintro k ⟨hk, hf⟩
    refine sw_run 200 _ _ _ ?_
    by_cases hlt : k < xs.length
    · have hi : (k : Int) < (ys.length : Int) := by omega
      have hR := tysC_row' xs k hlt
      have hR2 := tysC_row' ys k (by omega)
      have hpc := hp _ (mem_bang hlt) _ (mem_bang (show k < ys.length by omega))
      rw [likeL_step f xs ys k hlt (by omega)] at hf
      obtain ⟨b, hb⟩ : ∃ b, b = f xs[k]! ys[k]! := ⟨_, rfl⟩
      rw [← hb] at hf hpc
      simp only [tysD, rowD, eq_self, xRun, vE, vP, vSub, vLoad, vIdx, vBin, vBinT, isAg, isBo, vStore, isCutO, isB, bv, gN, isPick, isCall, AS.pt, AS.ev, AS.box, AS.setb, look, avB, setRowG, AV.cells, AV.whole, AV.one, td0, td1, td2, td3, td4, td5, td6, Option.getD, Option.isSome, List.map, List.take, List.drop, List.length, List.set, List.all, ↓reduceIte, Nat.reduceLT, Nat.reduceAdd, Nat.reduceEqDiff, Nat.zero_add, true_and, Bool.and_true, Bool.false_eq_true, reduceCtorEq, Int.toNat_natCast, Int.natCast_nonneg, decide_true, and_self, Nat.le_refl, hi, hR, hR2, tyC_eq]
      refine sw_call (hpc) rfl (aAs_ok ?_) ?_ (sw_run 200 _ _ _ ?_)
      · simp only [aAs, aA, aDs, aD, tysD, AS.ev, look, Option.getD, List.map, List.append_nil, ↓reduceIte, Nat.reduceEqDiff, eq_self, and_self, tyC_eq]
      · simp only [okR]
      cases b
      · rw [Bool.false_and] at hf
        rw [← hf]
        simp only [mkR, flatD, packA, retA, List.headD_cons, fQ, qLp, xRet, rPs, xRes, flatA, rD, eq_self, xRun, vE, vP, vNot, isCutO, isB, bv, gN, isPick, isCall, AS.pt, AS.ev, look, cav, eatsOf, td0, td1, td2, td3, td4, td5, td6, Option.getD, List.map, List.nodup_nil, ↓reduceIte, Nat.reduceLT, or_false, Bool.not_false, Bool.false_eq_true, reduceCtorEq, and_self, Try.results154]
      · rw [Bool.true_and] at hf
        simp only [mkR, flatD, packA, retA, List.headD_cons, qLp, eq_self, xRun, vE, vP, vBin, vBinT, isAg, isBo, vNot, isCutO, isB, bv, gN, isPick, isCall, AS.pt, AS.ev, look, cav, td0, td1, td2, td3, td4, td5, td6, Option.getD, ↓reduceIte, Nat.reduceLT, Nat.reduceEqDiff, true_and, Bool.not_true, Bool.false_eq_true, qLp]
        refine ⟨by unfold inI; omega, k + 1, id, ⟨by omega, hf⟩, by omega, ?_⟩
        simp only [Sub, subT, subB, subO, subP, inj, AV.ren, AV.rens, AV.lt, AV.lts, eq_self, look, td0, td1, td2, td3, td4, td5, td6, List.map, List.nodup_nil, ↓reduceIte, Nat.reduceEqDiff, and_self, cast1]
    · have hi : ¬ (k : Int) < (ys.length : Int) := by omega
      rw [likeL_end f xs ys k (by omega) (by omega)] at hf
      rw [← hf]
      simp only [qLp, eq_self, xRun, vE, vP, vBin, vBinT, isAg, isBo, isCutO, isB, bv, gN, isPick, isCall, popTo, AS.pt, AS.ev, look, td0, td1, td2, td3, td4, td5, td6, Option.getD, Option.isSome, ↓reduceIte, Nat.reduceLT, Nat.reduceEqDiff, true_and, Bool.false_eq_true, decide_false, hi]
      refine sw_run 200 _ _ _ ?_
      simp only [fQ, xRet, rPs, xRes, flatA, rD, eq_self, xRun, vE, vP, isCutO, gN, isPick, isCall, AS.pt, AS.ev, look, cav, eatsOf, td0, td1, td2, td3, td4, td5, td6, List.map, List.nodup_nil, ↓reduceIte, Nat.reduceLT, or_false, Bool.false_eq_true, reduceCtorEq, and_self, Try.results154]
theorem con_EqTyI : ∀ t u : Ty, szL (tyC t) ≤ 1000000000 → Con Try.prog 111 [.ag (tyC t), .ag (tyC u)] [.one (.bool (eqTy t u))] := by
  refine Ty.ind fun kd xs ih u hz => ?_
  obtain ⟨kd2, ys⟩ := u
  have hz' : xs.length + szL (tysC xs) ≤ 1000000000 := by simpa [tyC, szL, szD] using hz
  have hc := con_EqFTy 111 eqTy xs ys (by omega) fun a ha b hb => ih a ha b (by
    have := szL_mem tyC xs a ha
    rw [← tysC_flat] at this
    omega)
  rw [eqTy, eqTys_L]
  refine con_run Try.func111 rfl rfl (by simp [Try.ntmps111]) ?_
  by_cases hn : kd = kd2
  case neg =>
    simp only [argT, argA, fQ, xRet, rPs, xRes, flatA, rD, eq_self, xRun, vE, vP, vSub, vLoad, vFld, vBin, vBinT, isAg, isBo, isCutO, isB, bv, gT, gW, gN, gV, isU, isPick, pkC, pkB, isCall, AS.pt, AS.kn, AS.ev, AS.box, look, cav, avB, AV.cells, AV.whole, AV.one, eatsOf, td0, td1, td2, td3, td4, td5, td6, Option.bind, Option.getD, Option.isSome, List.map, List.getElem?_cons_zero, List.getElem?_cons_succ, List.all, List.nodup_nil, ↓reduceIte, Nat.reduceLT, Nat.reduceAdd, Nat.reduceEqDiff, Nat.zero_add, Nat.add_zero, ne_eq, not_false_eq_true, or_false, Bool.and_true, Bool.false_and, Bool.not_true, Bool.false_eq_true, reduceCtorEq, decide_false, and_self, Nat.succ_ne_zero, tyC, hn, Try.ntmps111, Try.results111]
  simp only [argT, argA, eq_self, xRun, vE, vP, vSub, vLoad, vFld, vBin, vBinT, isAg, isBo, isCutO, isB, bv, gT, gW, gN, gV, isU, isPick, isCall, AS.pt, AS.kn, AS.ev, AS.box, look, cav, avB, AV.cells, AV.whole, AV.one, td0, td1, td2, td3, td4, td5, td6, Option.bind, Option.getD, Option.isSome, List.map, List.getElem?_cons_zero, List.getElem?_cons_succ, List.all, ↓reduceIte, Nat.reduceLT, Nat.reduceAdd, Nat.reduceEqDiff, Nat.zero_add, Nat.add_zero, ne_eq, not_false_eq_true, true_and, Bool.true_and, Bool.and_true, Bool.false_eq_true, reduceCtorEq, decide_true, and_self, Nat.succ_ne_zero, tyC, eq_true hn, Try.ntmps111]
  refine sw_call (hc) rfl (aAs_ok ?_) ?_ (sw_run 200 _ _ _ ?_)
  · simp only [aAs, aA, aD, AS.ev, look, Option.getD, List.map, List.append_nil, ↓reduceIte, Nat.reduceEqDiff, eq_self, and_self]
  · simp only [okR]
  simp only [mkR, flatD, packA, retA, List.headD_cons, fQ, xRet, rPs, xRes, flatA, rD, eq_self, xRun, vE, vP, isCutO, isB, bv, gN, isPick, pkC, pkA, isCall, AS.pt, AS.ev, look, eatsOf, td0, td1, td2, td3, td4, td5, td6, Option.getD, List.map, List.nodup_nil, ↓reduceIte, Nat.reduceLT, Nat.reduceEqDiff, or_false, Bool.false_eq_true, reduceCtorEq, and_self, Try.results111]
end Go.Proofs.Ytgjcilainojlfaa
