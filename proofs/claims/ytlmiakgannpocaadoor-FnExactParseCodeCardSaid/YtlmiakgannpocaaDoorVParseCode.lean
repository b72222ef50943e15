/-
  The walk of the law FnExactParseCode.
-/
import Derived.Test.YtlmiakgannpocaaDoorLp
import Derived.Test.YtlmiakgannpocaaDoorPco
import Derived.Test.YtlmiakgannpocaaDoorUSL
import Derived.Test.YtlmiakgannpocaaDoorUSLM
import Derived.Test.YtlmiakgannpocaaDoorCon2
namespace Go.Proofs.YtlmiakgannpocaaDoor
open Go.RowKit
set_option linter.unusedVariables false
set_option linter.unusedSimpArgs false
set_option maxRecDepth 20000
theorem con_FnExactParseCode (p0 : ByteArray) (wf0 : p0.size ≤ maxLen) : Con Tryd.prog 4 [.one (.str p0)] [.one (.bool true)] := by
  by_cases hln0 : (1048576 : Int) < (p0.size : Int)
  case pos =>
    refine con_run Tryd.func4 rfl rfl (by simp [Tryd.ntmps4]) ?_
    simp only [argT, argA, fQ, xRet, rPs, xRes, flatA, rD, eq_self, xRun, vE, vP, vBin, vBinT, isAg, isBo, vLen, isCutO, isB, bv, gN, isPick, isCall, AS.pt, AS.ev, look, cav, avB, eatsOf, td0, td1, td2, td3, td4, td5, td6, Option.getD, List.map, List.nodup_nil, ↓reduceIte, Nat.reduceLT, or_false, Bool.false_eq_true, reduceCtorEq, decide_true, and_self, hln0, Tryd.ntmps4, Tryd.results4]
  have hz0 : p0.size ≤ 1048576 := by omega
  have hS := con_PcS p0 hz0
  have hI := con_PcI p0 hz0
  have hc := (pc_fit hz0).1
  have hn := (pc_fit hz0).2
  generalize (pcX p0).1 = R0 at *
  have hqr0 := lp_eq1 (d := inssD R0) (f := 10) ⟨_, Tryd.func10, rfl, rfl⟩ fun w v u hr hr' => U_eqsInstrS hc hr hr'
  generalize (pcX p0).2 = R1 at *
  have hbg0 : cntD (inssD R0) ≤ 17592186044416 := hn
  have hmg0 := lp_mark1 (d := inssD R0) (k := 1) (f := 11) ⟨_, Tryd.func11, rfl, rfl⟩ fun w v fp ho hn => markInstrS_all _ hc v fp w (1) ho hn (by omega) (by omega)
  have hhg0 := lp_sz1 (d := markD (inssD R0) (1)) (k := 1) (f := 12) ⟨_, Tryd.func12, rfl, rfl⟩ fun w v hr => U_heldInstrS hc hr (by omega) (by omega)
  obtain ⟨d1g0, emg0⟩ : ∃ d, markD (inssD R0) (1) = .rows 2 R0.length d := ⟨_, rfl⟩
  rw [emg0] at hmg0 hhg0
  obtain ⟨ng0, eng0⟩ : ∃ n, n = cntD (inssD R0) := ⟨_, rfl⟩
  rw [← eng0] at hmg0 hbg0 hhg0
  have hkg0 : ¬ (1 + (ng0 : Int) < 0) := by omega
  refine con_run Tryd.func4 rfl rfl (by simp [Tryd.ntmps4]) ?_
  simp only [argT, argA, eq_self, xRun, vE, vP, vBin, vBinT, isAg, isBo, vLen, isCutO, isB, bv, gN, isPick, isCall, AS.pt, AS.ev, look, cav, avB, td0, td1, td2, td3, td4, td5, td6, Option.getD, ↓reduceIte, Nat.reduceLT, true_and, Bool.false_eq_true, reduceCtorEq, decide_false, hln0, Tryd.ntmps4]
  refine sw_call hS rfl (aAs_ok ?_) ?_ (sw_run 200 _ _ _ ?_)
  · simp only [aAs, aA, aD, AS.ev, look, Option.getD, List.map, List.append_nil, ↓reduceIte, eq_self, and_self]
  · simp only [okR]
  simp only [mkR, flatD, packA, retA, List.headD_cons, List.tail_cons, eq_self, xRun, vE, vP, vExt, isCutO, gN, isPick, isCall, AS.pt, AS.ev, AS.mk', kill, look, td0, td1, td2, td3, td4, td5, td6, Option.getD, Option.isSome, List.getElem?_cons_zero, List.getElem?_cons_succ, List.foldr, ↓reduceIte, Nat.reduceLT, Nat.reduceEqDiff, Nat.zero_add, true_and, Bool.false_eq_true, reduceCtorEq, inssD]
  refine sw_call hI rfl (aAs_ok ?_) ?_ (sw_run 200 _ _ _ ?_)
  · simp only [aAs, aA, aD, AS.ev, look, Option.getD, List.map, List.append_nil, ↓reduceIte, eq_self, and_self]
  · simp only [okR]
  simp only [mkR, flatD, packA, retA, List.headD_cons, List.tail_cons, eq_self, xRun, vE, vP, vExt, isCutO, gN, isPick, isCall, AS.pt, AS.ev, AS.mk', kill, look, td0, td1, td2, td3, td4, td5, td6, Option.getD, Option.isSome, List.getElem?_cons_zero, List.getElem?_cons_succ, List.foldr, ↓reduceIte, Nat.reduceLT, Nat.reduceAdd, Nat.reduceEqDiff, true_and, Bool.false_eq_true, inssD]
  refine sw_call hqr0 rfl (aAs_ok ?_) ?_ (sw_run 200 _ _ _ ?_)
  · simp only [aAs, aA, aD, AS.ev, AS.owf, look, Option.bind, Option.getD, id_eq, List.map, List.append_nil, ↓reduceIte, Nat.reduceEqDiff, reduceCtorEq, eq_self, and_self, inssD]
  · simp only [okR]
  simp only [mkR, flatD, packA, retA, List.headD_cons, eq_self, xRun, vE, vP, vBin, vBinT, isAg, isBo, vNot, isCutO, isB, bv, gT, gW, gN, gV, isU, isPick, pkC, pkB, isCall, AS.pt, AS.kn, AS.ev, look, cav, td0, td1, td2, td3, td4, td5, td6, Option.bind, Option.getD, Option.isSome, List.getElem?_cons_zero, List.getElem?_cons_succ, ↓reduceIte, Nat.reduceLT, Nat.reduceEqDiff, ne_eq, not_true_eq_false, true_and, Bool.not_true, Bool.false_eq_true, decide_false, and_self]
  refine sw_callL hmg0 rfl rfl rfl (.inl rfl) ?_ ?_ ?_ (sw_run 200 _ _ _ ?_)
  · simp only [rD, rDs, eq_self, AS.ev, AS.owf, look, td0, td1, td2, td3, td4, td5, td6, Option.bind, Option.getD, ↓reduceIte, Nat.reduceEqDiff, id_eq, and_self, lendOf, rDs, rD, inssD]
  · simp only [eq_self, AS.ev, look, td0, td1, td2, td3, td4, td5, td6, Option.getD, ↓reduceIte, Nat.reduceEqDiff, and_self, lendOf, lendOk, shp2, inssD]
  · simp only [eq_self, AS.ev, look, eatsOf, td0, td1, td2, td3, td4, td5, td6, Option.getD, List.not_mem_nil, List.nodup_cons, List.nodup_nil, ↓reduceIte, Nat.reduceEqDiff, not_false_eq_true, and_self, lendOf, eatsOf]
  simp only [eq_self, xRun, vE, vP, isCutO, gN, isPick, isCall, AS.pt, AS.ev, look, cav, td0, td1, td2, td3, td4, td5, td6, Option.getD, ↓reduceIte, Nat.reduceLT, Nat.reduceEqDiff, true_and, Bool.false_eq_true, AS.lend, lendOf, lendL, lendO, unspLT, unspLB, AV.unspL, AV.unspLs]
  refine sw_call hhg0 rfl (aAs_ok ?_) ?_ (sw_run 200 _ _ _ ?_)
  · simp only [aAs, aA, aD, AS.ev, AS.owf, look, Option.bind, Option.getD, id_eq, List.map, List.append_nil, ↓reduceIte, Nat.reduceEqDiff, eq_self, and_self]
  · simp only [okR]
  simp only [mkR, flatD, packA, retA, List.headD_cons, eq_self, xRun, vE, vP, vBin, vBinT, isAg, isBo, isCutO, isB, bv, gN, isPick, isCall, AS.pt, AS.ev, look, cav, td0, td1, td2, td3, td4, td5, td6, Option.getD, ↓reduceIte, Nat.reduceLT, Nat.reduceEqDiff, ne_eq, not_true_eq_false, true_and, Bool.false_eq_true, reduceCtorEq, decide_false, hkg0]
  refine sw_call hI rfl (aAs_ok ?_) ?_ (sw_run 200 _ _ _ ?_)
  · simp only [aAs, aA, aD, AS.ev, look, Option.getD, List.map, List.append_nil, ↓reduceIte, eq_self, and_self]
  · simp only [okR]
  simp only [mkR, flatD, packA, retA, List.headD_cons, List.tail_cons, eq_self, xRun, vE, vP, vExt, isCutO, gN, isPick, isCall, AS.pt, AS.ev, AS.mk', kill, look, td0, td1, td2, td3, td4, td5, td6, Option.getD, Option.isSome, List.getElem?_cons_zero, List.getElem?_cons_succ, List.foldr, ↓reduceIte, Nat.reduceLT, Nat.reduceAdd, Nat.reduceEqDiff, true_and, Bool.false_eq_true, inssD]
  refine sw_call hqr0 rfl (aAs_ok ?_) ?_ (sw_run 200 _ _ _ ?_)
  · simp only [aAs, aA, aD, AS.ev, AS.owf, look, Option.bind, Option.getD, id_eq, List.map, List.append_nil, ↓reduceIte, Nat.reduceEqDiff, reduceCtorEq, eq_self, and_self, inssD]
  · simp only [okR]
  simp only [mkR, flatD, packA, retA, List.headD_cons, eq_self, xRun, vE, vP, vBin, vBinT, isAg, isBo, vNot, isCutO, isB, bv, gT, gW, gN, gV, isU, isPick, pkC, pkB, isCall, AS.pt, AS.kn, AS.ev, look, cav, td0, td1, td2, td3, td4, td5, td6, Option.bind, Option.getD, Option.isSome, List.getElem?_cons_zero, List.getElem?_cons_succ, ↓reduceIte, Nat.reduceLT, Nat.reduceEqDiff, ne_eq, not_true_eq_false, true_and, Bool.not_true, Bool.false_eq_true, decide_false, and_self]
  refine sw_call hhg0 rfl (aAs_ok ?_) ?_ (sw_run 200 _ _ _ ?_)
  · simp only [aAs, aA, aD, AS.ev, AS.owf, look, Option.bind, Option.getD, id_eq, List.map, List.append_nil, ↓reduceIte, Nat.reduceEqDiff, eq_self, and_self]
  · simp only [okR]
  simp only [mkR, flatD, packA, retA, List.headD_cons, fQ, xRet, rPs, xRes, flatA, rD, eq_self, xRun, vE, vP, vBin, vBinT, isAg, isBo, isCutO, isB, bv, gN, isPick, isCall, AS.pt, AS.ev, look, cav, eatsOf, td0, td1, td2, td3, td4, td5, td6, Option.getD, List.map, List.nodup_nil, ↓reduceIte, Nat.reduceLT, Nat.reduceEqDiff, ne_eq, not_true_eq_false, or_false, Bool.false_eq_true, reduceCtorEq, decide_false, and_self, hkg0, Tryd.results4]
theorem top_FnExactParseCode (w : World) (hg : GI w) (p0 : ByteArray) (wf0 : p0.size ≤ maxLen) : Calls Tryd.prog 4 #[.string p0] w fun e w' => e = .returned (.bool true) ∧ Below w.heap.size w w' := by
  exact lp_top (con_FnExactParseCode p0 wf0) (rpd_cons (rpd_str _) (rpd_nil _))
end Go.Proofs.YtlmiakgannpocaaDoor
