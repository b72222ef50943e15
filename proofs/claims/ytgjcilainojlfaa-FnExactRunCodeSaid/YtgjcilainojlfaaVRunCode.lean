/-
  The walk of the law FnExactRunCode.
-/
import Derived.Test.YtgjcilainojlfaaLp
import Derived.Test.YtgjcilainojlfaaVmW
import Derived.Test.YtgjcilainojlfaaUSL
import Derived.Test.YtgjcilainojlfaaCon2
namespace Go.Proofs.Ytgjcilainojlfaa
open Go.RowKit
set_option linter.unusedVariables false
set_option linter.unusedSimpArgs false
set_option maxRecDepth 20000
theorem con_eqOut (a : Otc) : Con Try.prog 19 [.ag (otC a), .ag (otC a)] [.one (.bool true)] := by
  obtain ⟨s, n, f, k⟩ := a
  simp only [otC]
  cases f
  all_goals
    refine con_run Try.func19 rfl rfl (by simp [Try.ntmps19]) ?_
    simp only [argT, argA, fQ, xRet, rPs, xRes, flatA, rD, eq_self, xRun, vE, vP, vSub, vLoad, vFld, vBin, vBinT, isAg, isBo, bvA, vEqB, isCutO, isB, bv, gN, isPick, isCall, AS.pt, AS.ev, AS.box, look, cav, avB, AV.cells, AV.whole, AV.one, eatsOf, td0, td1, td2, td3, td4, td5, td6, Option.getD, Option.isSome, List.map, List.getElem?_cons_zero, List.getElem?_cons_succ, List.all, List.nodup_nil, ↓reduceIte, Nat.reduceLT, Nat.reduceAdd, Nat.reduceEqDiff, Nat.zero_add, Nat.add_zero, ne_eq, not_false_eq_true, not_true_eq_false, or_false, Bool.and_true, Bool.false_eq_true, reduceCtorEq, decide_false, and_self, Nat.succ_ne_zero, Try.ntmps19, Try.results19]
theorem con_FnExactRunCode (p0 : List Ins) (p1 : Int) (hi0 : Inn (inssD p0) .instr) : Con Try.prog 4 [.one (inssD p0), .one (.int p1)] [.one (.bool true)] := by
  obtain ⟨z0, ez0⟩ : ∃ z, z = szD (inssD p0) := ⟨_, rfl⟩
  have hs0 := lp_sz1 (f := 15) (k := 1048576) ⟨_, Try.func15, rfl, rfl⟩ fun w v hr => U_szInstrS hi0.1 hi0.2 hr (by omega) (by omega)
  rw [← ez0] at hs0
  by_cases hft0 : (z0 : Int) ≤ 1048576
  case neg =>
    rw [szR_out _ _ (by omega)] at hs0
    refine con_run Try.func4 rfl rfl (by simp [Try.ntmps4]) ?_
    simp only [argT, argA, eq_self, xRun, vE, vP, isCutO, gN, isPick, isCall, AS.pt, AS.ev, look, cav, avB, td0, td1, td2, td3, td4, td5, td6, Option.getD, ↓reduceIte, Nat.reduceLT, Nat.reduceEqDiff, Nat.zero_add, true_and, Bool.false_eq_true, reduceCtorEq, inssD, Try.ntmps4]
    refine sw_call hs0 rfl (aAs_ok ?_) ?_ (sw_run 200 _ _ _ ?_)
    · simp only [aAs, aA, aD, AS.ev, look, Option.getD, List.map, List.append_nil, ↓reduceIte, Nat.reduceEqDiff, eq_self, and_self, inssD]
    · simp only [okR]
    simp only [mkR, flatD, packA, retA, List.headD_cons, fQ, xRet, rPs, xRes, flatA, rD, eq_self, xRun, vE, vP, vBin, vBinT, isAg, isBo, isCutO, isB, bv, gN, isPick, isCall, AS.pt, AS.ev, look, cav, eatsOf, td0, td1, td2, td3, td4, td5, td6, Option.getD, List.map, List.nodup_nil, ↓reduceIte, Nat.reduceLT, or_false, Bool.false_eq_true, reduceCtorEq, Int.reduceLT, Int.reduceNeg, decide_true, and_self, Try.results4]
  rw [szR_in _ _ hft0] at hs0
  have hnn0 : ¬ (1048576 - (z0 : Int) < 0) := by omega
  have hz0 : szD (inssD p0) ≤ 1048576 := by omega
  have ht0 := lp_to1 (d := inssD p0) (f := 17) ⟨_, Try.func17, rfl, rfl⟩ fun w v hr => U_toInstrS ⟨hi0.1, hi0.2, hz0, hr⟩
  have hq0 := lp_eq1 (d := inssD p0) (f := 20) ⟨_, Try.func20, rfl, rfl⟩ fun w v u hr hr' => U_eqsInstrS hi0.1 hr hr'
  have hS := con_RunS p0 p1 (by have h := hz0; unfold inssD szD at h; omega)
  have hI := con_RunI p0 p1 (by have h := hz0; unfold inssD szD at h; omega)
  generalize runO p0 p1 = R0 at *
  have hE := con_eqOut R0
  simp only [otC] at hS hI hE
  refine con_run Try.func4 rfl rfl (by simp [Try.ntmps4]) ?_
  simp only [argT, argA, eq_self, xRun, vE, vP, isCutO, gN, isPick, isCall, AS.pt, AS.ev, look, cav, avB, td0, td1, td2, td3, td4, td5, td6, Option.getD, ↓reduceIte, Nat.reduceLT, Nat.reduceEqDiff, Nat.zero_add, true_and, Bool.false_eq_true, reduceCtorEq, inssD, Try.ntmps4]
  refine sw_call hs0 rfl (aAs_ok ?_) ?_ (sw_run 200 _ _ _ ?_)
  · simp only [aAs, aA, aD, AS.ev, look, Option.getD, List.map, List.append_nil, ↓reduceIte, Nat.reduceEqDiff, eq_self, and_self, inssD]
  · simp only [okR]
  simp only [mkR, flatD, packA, retA, List.headD_cons, eq_self, xRun, vE, vP, vBin, vBinT, isAg, isBo, isCutO, isB, bv, gN, isPick, isCall, AS.pt, AS.ev, look, cav, td0, td1, td2, td3, td4, td5, td6, Option.getD, ↓reduceIte, Nat.reduceLT, true_and, Bool.false_eq_true, reduceCtorEq, decide_false, hnn0]
  refine sw_call ht0 rfl (aAs_ok ?_) ?_ (sw_run 200 _ _ _ ?_)
  · simp only [aAs, aA, aD, AS.ev, look, Option.getD, List.map, List.append_nil, ↓reduceIte, eq_self, and_self, inssD]
  · simp only [okR]
  simp only [mkR, flatD, packA, retA, List.headD_cons, eq_self, xRun, vE, vP, isCutO, gN, isPick, isCall, AS.pt, AS.ev, AS.mk', kill, look, td0, td1, td2, td3, td4, td5, td6, Option.getD, List.foldr, ↓reduceIte, Nat.reduceLT, Nat.reduceEqDiff, Nat.zero_add, true_and, Bool.false_eq_true, Nat.succ_ne_zero, inssD]
  refine sw_call hS rfl (aAs_ok ?_) ?_ (sw_run 200 _ _ _ ?_)
  · simp only [aAs, aA, aD, AS.ev, AS.owf, look, Option.bind, Option.getD, id_eq, List.map, List.append_nil, ↓reduceIte, Nat.reduceEqDiff, eq_self, and_self, inssD]
  · simp only [okR]
  simp only [mkR, flatD, packA, retA, eq_self, xRun, vE, vP, vStore, isCutO, gN, isPick, isCall, AS.pt, AS.ev, AS.box, AS.setb, look, setRowG, AV.cells, AV.whole, AV.one, td0, td1, td2, td3, td4, td5, td6, Option.getD, Option.isSome, List.take, List.length, List.set, List.all, List.append_nil, ↓reduceIte, Nat.reduceLT, Nat.reduceAdd, Nat.reduceEqDiff, Nat.zero_add, true_and, Bool.and_true, Bool.false_eq_true, reduceCtorEq, and_self, Nat.le_refl]
  refine sw_call ht0 rfl (aAs_ok ?_) ?_ (sw_run 200 _ _ _ ?_)
  · simp only [aAs, aA, aD, AS.ev, look, Option.getD, List.map, List.append_nil, ↓reduceIte, eq_self, and_self, inssD]
  · simp only [okR]
  simp only [mkR, flatD, packA, retA, List.headD_cons, eq_self, xRun, vE, vP, isCutO, gN, isPick, isCall, AS.pt, AS.ev, AS.mk', kill, look, td0, td1, td2, td3, td4, td5, td6, Option.getD, List.foldr, ↓reduceIte, Nat.reduceLT, Nat.reduceAdd, Nat.reduceEqDiff, true_and, Bool.false_eq_true, Nat.succ_ne_zero, inssD]
  refine sw_call hI rfl (aAs_ok ?_) ?_ (sw_run 200 _ _ _ ?_)
  · simp only [aAs, aA, aD, AS.ev, AS.owf, look, Option.bind, Option.getD, id_eq, List.map, List.append_nil, ↓reduceIte, Nat.reduceEqDiff, eq_self, and_self, inssD]
  · simp only [okR]
  simp only [mkR, flatD, packA, retA, eq_self, xRun, vE, vP, vSub, vLoad, vStore, isCutO, gN, isPick, isCall, AS.pt, AS.ev, AS.box, AS.setb, look, setRowG, AV.cells, AV.whole, AV.one, td0, td1, td2, td3, td4, td5, td6, Option.getD, Option.isSome, List.take, List.drop, List.length, List.set, List.all, List.append_nil, ↓reduceIte, Nat.reduceLT, Nat.reduceAdd, Nat.reduceEqDiff, Nat.zero_add, true_and, Bool.and_true, Bool.false_eq_true, and_self, Nat.le_refl]
  refine sw_call hE rfl (aAs_ok ?_) ?_ (sw_run 200 _ _ _ ?_)
  · simp only [aAs, aA, aDs, aD, AS.ev, look, Option.getD, List.map, List.append_nil, ↓reduceIte, Nat.reduceEqDiff, eq_self, and_self]
  · simp only [okR]
  simp only [mkR, flatD, packA, retA, List.headD_cons, eq_self, xRun, vE, vP, vNot, isCutO, isB, bv, gN, isPick, isCall, AS.pt, AS.ev, look, td0, td1, td2, td3, td4, td5, td6, Option.getD, ↓reduceIte, Nat.reduceLT, Nat.reduceEqDiff, true_and, Bool.not_true, Bool.false_eq_true, reduceCtorEq]
  refine sw_call ht0 rfl (aAs_ok ?_) ?_ (sw_run 200 _ _ _ ?_)
  · simp only [aAs, aA, aD, AS.ev, look, Option.getD, List.map, List.append_nil, ↓reduceIte, eq_self, and_self, inssD]
  · simp only [okR]
  simp only [mkR, flatD, packA, retA, List.headD_cons, eq_self, xRun, gN, isPick, isCall, AS.pt, AS.mk', kill, td0, td1, td2, td3, td4, td5, td6, List.foldr, ↓reduceIte, Nat.reduceLT, Nat.reduceAdd, Bool.false_eq_true, inssD]
  refine sw_call hq0 rfl (aAs_ok ?_) ?_ (sw_run 200 _ _ _ ?_)
  · simp only [aAs, aA, aD, AS.ev, AS.owf, look, Option.bind, Option.getD, id_eq, List.map, List.append_nil, ↓reduceIte, Nat.reduceEqDiff, eq_self, and_self, inssD]
  · simp only [okR]
  simp only [mkR, flatD, packA, retA, List.headD_cons, fQ, xRet, rPs, xRes, flatA, rD, eq_self, xRun, vE, vP, vNot, isCutO, isB, bv, gN, isPick, isCall, AS.pt, AS.ev, look, cav, eatsOf, td0, td1, td2, td3, td4, td5, td6, Option.getD, List.map, List.nodup_nil, ↓reduceIte, Nat.reduceLT, or_false, Bool.not_true, Bool.false_eq_true, reduceCtorEq, and_self, Try.results4]
theorem top_FnExactRunCode (w : World) (v0 : Value) (h0 : Arg w .instr v0) (p1 : Int) (wf1 : (Lit.int .i64 p1).wf = true) : Calls Try.prog 4 #[v0, .int .i64 p1] w fun e w' => e = .returned (.bool true) ∧ Below w.heap.size w w' := by
  obtain ⟨ds0, hc0, hr0, hs0⟩ := h0
  obtain ⟨p0, rfl⟩ := ins_of hc0
  exact lp_top (con_FnExactRunCode p0 p1 ⟨hc0, hs0⟩) (rpd_cons (rpd_one hr0) (rpd_cons (rpd_int _) (rpd_nil _)))
end Go.Proofs.Ytgjcilainojlfaa
