/-
  The walk of the law FnExactDotTerm.
-/
import Derived.Test.YtlmnfemobajmlaaDoorLp
import Derived.Test.YtlmnfemobajmlaaDoorDot
import Derived.Test.YtlmnfemobajmlaaDoorUTerm
import Derived.Test.YtlmnfemobajmlaaDoorUMTerm
import Derived.Test.YtlmnfemobajmlaaDoorUSS
import Derived.Test.YtlmnfemobajmlaaDoorCon2
namespace Go.Proofs.YtlmnfemobajmlaaDoor
open Go.RowKit
set_option linter.unusedVariables false
set_option linter.unusedSimpArgs false
set_option maxRecDepth 20000
theorem con_FnExactDotTerm (p0 : List Int) (hi0 : Inn (intsD p0) .ints) : Con Tryd.prog 3 [.one (intsD p0)] [.one (.bool true)] := by
  by_cases hln0 : (1048576 : Int) < (p0.length : Int)
  case pos =>
    refine con_run Tryd.func3 rfl rfl (by simp [Tryd.ntmps3]) ?_
    simp only [argT, argA, fQ, intsD, xRet, rPs, xRes, flatA, rD, eq_self, xRun, vE, vP, vBin, vBinT, isAg, isBo, vLen, isCutO, isB, bv, gN, isPick, isCall, AS.pt, AS.ev, AS.rd, look, cav, avB, eatsOf, td0, td1, td2, td3, td4, td5, td6, Option.getD, List.map, List.nodup_nil, ↓reduceIte, Nat.reduceLT, or_false, Bool.false_eq_true, reduceCtorEq, decide_true, and_self, intsD, hln0, Tryd.ntmps3, Tryd.results3]
  have hz0 : p0.length ≤ 1048576 := by omega
  have ht0 := lp_to1 (d := intsD p0) (f := 7) ⟨_, Tryd.func7, rfl, rfl⟩ fun w v hr => U_toIntS ⟨hi0.1, hi0.2, (by rw [szD_intsEq]; omega), hr⟩
  have hq0 := lp_eq1 (d := intsD p0) (f := 10) ⟨_, Tryd.func10, rfl, rfl⟩ fun w v u hr hr' => U_eqsIntS hi0.1 hr hr'
  have hS := con_DotS p0 (Nat.le_trans hz0 (by omega))
  have hI := con_DotI p0 (Nat.le_trans hz0 (by omega))
  have hc := (dot_fit p0).1
  have hn := (dot_fit p0).2
  generalize dotT p0 = R0 at *
  have hqr0 := lp_eq (ds := tmC R0) (f := 9) ⟨_, Tryd.func9, rfl, rfl⟩ fun w v u hr hr' => U_eqsTerm hc hr hr'
  have hbx0 : cntD (intsD p0) ≤ 20971520 := by have := cntD_bd hi0.1; rw [szD_intsEq] at this; omega
  have hmx0 := lp_mark1 (d := intsD p0) (k := 1) (f := 11) ⟨_, Tryd.func11, rfl, rfl⟩ fun w v fp ho hn => markintS_all _ hi0.1 v fp w (1) ho hn (by omega) (by omega)
  obtain ⟨d1x0, emx0⟩ : ∃ d, markD (intsD p0) (1) = .rows 1 p0.length d := ⟨_, rfl⟩
  rw [emx0] at hmx0
  obtain ⟨nx0, enx0⟩ : ∃ n, n = cntD (intsD p0) := ⟨_, rfl⟩
  rw [← enx0] at hmx0 hbx0
  have hkx0 : ¬ (1 + (nx0 : Int) < 0) := by omega
  have hbg0 : cntS (tmC R0) ≤ 17592186044416 := hn
  have hmg0 := lp_mark (ds := tmC R0) (k := 1) (f := 12) ⟨_, Tryd.func12, rfl, rfl⟩ fun w v fp ho hn => U_markTerm hc ho hn (by omega) (by omega)
  have hhg0 := lp_sz (ds := markS (tmC R0) (1)) (k := 1) (f := 13) ⟨_, Tryd.func13, rfl, rfl⟩ fun w v hr => U_heldTerm hc hr (by omega) (by omega)
  obtain ⟨d5g0, d7g0, d8g0, emg0⟩ : ∃ d5g0 d7g0 d8g0, markS (tmC R0) (1) = [.int R0.kind, .str R0.name, .str R0.other, .int R0.n, .int R0.ty.kind, .rows 2 R0.ty.args.length d5g0, .int R0.res.kind, .rows 2 R0.res.args.length d7g0, .rows 9 R0.args.length d8g0] := by
    simp only [tmC_eq]
    exact ⟨_, _, _, rfl⟩
  rw [emg0] at hmg0 hhg0
  obtain ⟨ng0, eng0⟩ : ∃ n, n = cntS (tmC R0) := ⟨_, rfl⟩
  rw [← eng0] at hmg0 hbg0 hhg0
  have hkg0 : ¬ (1 + (ng0 : Int) < 0) := by omega
  refine con_run Tryd.func3 rfl rfl (by simp [Tryd.ntmps3]) ?_
  simp only [argT, argA, intsD, eq_self, xRun, vE, vP, vBin, vBinT, isAg, isBo, vLen, isCutO, isB, bv, gN, isPick, isCall, AS.pt, AS.ev, AS.rd, look, cav, avB, td0, td1, td2, td3, td4, td5, td6, Option.getD, ↓reduceIte, Nat.reduceLT, true_and, Bool.false_eq_true, reduceCtorEq, decide_false, intsD, hln0, Tryd.ntmps3]
  refine sw_call ht0 rfl (aAs_ok ?_) ?_ (sw_run 200 _ _ _ ?_)
  · simp only [aAs, aA, aD, intsD, AS.ev, look, Option.getD, List.map, List.append_nil, ↓reduceIte, eq_self, and_self, intsD]
  · simp only [okR]
  simp only [mkR, flatD, packA, retA, List.headD_cons, intsD, eq_self, xRun, gN, isPick, isCall, AS.pt, AS.mk', kill, td0, td1, td2, td3, td4, td5, td6, List.foldr, ↓reduceIte, Nat.reduceLT, Nat.zero_add, Bool.false_eq_true, intsD]
  refine sw_call hS rfl (aAs_ok ?_) ?_ (sw_run 200 _ _ _ ?_)
  · simp only [aAs, aA, aD, AS.ev, AS.owf, look, Option.bind, Option.getD, id_eq, List.map, List.append_nil, ↓reduceIte, eq_self, and_self]
  · simp only [okR]
  simp only [mkR, flatD, packA, retA, tysD, tmsD, eq_self, xRun, vE, vP, vStore, isCutO, gN, isPick, isCall, AS.pt, AS.ev, AS.box, AS.setb, AS.mk', kill, look, setRowG, AV.cells, AV.whole, AV.one, td0, td1, td2, td3, td4, td5, td6, Option.getD, Option.isSome, List.take, List.length, List.set, List.foldr, List.all, List.append_nil, ↓reduceIte, Nat.reduceLT, Nat.reduceAdd, Nat.reduceEqDiff, Nat.zero_add, true_and, Bool.and_true, Bool.false_eq_true, reduceCtorEq, and_self, Nat.le_refl, tmC_eq, tysD, tmsD]
  refine sw_call ht0 rfl (aAs_ok ?_) ?_ (sw_run 200 _ _ _ ?_)
  · simp only [aAs, aA, aD, intsD, AS.ev, look, Option.getD, List.map, List.append_nil, ↓reduceIte, eq_self, and_self, intsD]
  · simp only [okR]
  simp only [mkR, flatD, packA, retA, List.headD_cons, intsD, eq_self, xRun, vE, vP, isCutO, gN, isPick, isCall, AS.pt, AS.ev, AS.mk', kill, look, td0, td1, td2, td3, td4, td5, td6, Option.getD, List.foldr, ↓reduceIte, Nat.reduceLT, Nat.reduceAdd, true_and, Bool.false_eq_true, intsD]
  refine sw_call hI rfl (aAs_ok ?_) ?_ (sw_run 200 _ _ _ ?_)
  · simp only [aAs, aA, aD, AS.ev, AS.owf, look, Option.bind, Option.getD, id_eq, List.map, List.append_nil, ↓reduceIte, eq_self, and_self]
  · simp only [okR]
  simp only [mkR, flatD, packA, retA, tysD, tmsD, eq_self, xRun, vE, vP, vSub, vLoad, vStore, isCutO, gN, isPick, isCall, AS.pt, AS.ev, AS.box, AS.setb, AS.mk', kill, look, setRowG, AV.cells, AV.whole, AV.one, td0, td1, td2, td3, td4, td5, td6, Option.getD, Option.isSome, List.take, List.drop, List.length, List.set, List.foldr, List.all, List.append_nil, ↓reduceIte, Nat.reduceLT, Nat.reduceAdd, Nat.reduceEqDiff, Nat.zero_add, true_and, Bool.and_true, Bool.false_eq_true, and_self, Nat.le_refl, tmC_eq, tysD, tmsD]
  refine sw_call hqr0 rfl (aAs_ok ?_) ?_ (sw_run 200 _ _ _ ?_)
  · simp only [aAs, aA, aDs, aD, tysD, tmsD, AS.ev, AS.owf, look, Option.bind, Option.getD, id_eq, List.map, List.append_nil, ↓reduceIte, Nat.reduceEqDiff, eq_self, and_self, tmC_eq, tysD, tmsD]
  · simp only [okR]
  simp only [mkR, flatD, packA, retA, List.headD_cons, eq_self, xRun, vE, vP, vNot, isCutO, isB, bv, gN, isPick, isCall, AS.pt, AS.ev, look, td0, td1, td2, td3, td4, td5, td6, Option.getD, ↓reduceIte, Nat.reduceLT, Nat.reduceEqDiff, true_and, Bool.not_true, Bool.false_eq_true, reduceCtorEq]
  refine sw_call ht0 rfl (aAs_ok ?_) ?_ (sw_run 200 _ _ _ ?_)
  · simp only [aAs, aA, aD, intsD, AS.ev, look, Option.getD, List.map, List.append_nil, ↓reduceIte, eq_self, and_self, intsD]
  · simp only [okR]
  simp only [mkR, flatD, packA, retA, List.headD_cons, intsD, eq_self, xRun, gN, isPick, isCall, AS.pt, AS.mk', kill, td0, td1, td2, td3, td4, td5, td6, List.foldr, ↓reduceIte, Nat.reduceLT, Nat.reduceAdd, Bool.false_eq_true, intsD]
  refine sw_call hq0 rfl (aAs_ok ?_) ?_ (sw_run 200 _ _ _ ?_)
  · simp only [aAs, aA, aD, intsD, AS.ev, AS.owf, look, Option.bind, Option.getD, id_eq, List.map, List.append_nil, ↓reduceIte, Nat.reduceEqDiff, eq_self, and_self, intsD]
  · simp only [okR]
  simp only [mkR, flatD, packA, retA, List.headD_cons, eq_self, xRun, vE, vP, vNot, isCutO, isB, bv, gN, isPick, isCall, AS.pt, AS.ev, look, cav, td0, td1, td2, td3, td4, td5, td6, Option.getD, ↓reduceIte, Nat.reduceLT, Nat.reduceEqDiff, true_and, Bool.not_true, Bool.false_eq_true]
  refine sw_callL hmx0 rfl rfl rfl (.inl rfl) ?_ ?_ ?_ (sw_run 200 _ _ _ ?_)
  · simp only [intsD, rD, rDs, eq_self, AS.ev, AS.owf, look, td0, td1, td2, td3, td4, td5, td6, Option.bind, Option.getD, ↓reduceIte, Nat.reduceEqDiff, id_eq, and_self, lendOf, rDs, rD, intsD]
  · simp only [intsD, eq_self, AS.ev, look, td0, td1, td2, td3, td4, td5, td6, Option.getD, ↓reduceIte, Nat.reduceEqDiff, and_self, lendOf, lendOk, shp2, intsD]
  · simp only [eq_self, AS.ev, look, eatsOf, td0, td1, td2, td3, td4, td5, td6, Option.getD, List.not_mem_nil, List.nodup_cons, List.nodup_nil, ↓reduceIte, Nat.reduceEqDiff, not_false_eq_true, and_self, lendOf, eatsOf]
  simp only [eq_self, xRun, vE, vP, vSub, vLoad, vBin, vBinT, isAg, isBo, isCutO, isB, bv, gT, gW, gN, gV, isU, isPick, isCall, AS.pt, AS.kn, AS.ev, look, cav, td0, td1, td2, td3, td4, td5, td6, Option.bind, Option.getD, Option.isSome, List.take, List.drop, List.length, List.getElem?_cons_zero, List.getElem?_cons_succ, ↓reduceIte, Nat.reduceLT, Nat.reduceAdd, Nat.reduceEqDiff, Nat.zero_add, true_and, Bool.false_eq_true, decide_false, and_self, Nat.le_refl, hkx0, AS.lend, lendOf, lendL, lendO, unspLT, unspLB, AV.unspL, AV.unspLs]
  refine sw_call hqr0 rfl (aAs_ok ?_) ?_ (sw_run 200 _ _ _ ?_)
  · simp only [aAs, aA, aDs, aD, tysD, tmsD, AS.ev, AS.owf, look, Option.bind, Option.getD, id_eq, List.map, List.append_nil, ↓reduceIte, Nat.reduceEqDiff, eq_self, and_self, tmC_eq, tysD, tmsD]
  · simp only [okR]
  simp only [mkR, flatD, packA, retA, List.headD_cons, eq_self, xRun, vE, vP, vSub, vLoad, vNot, isCutO, isB, bv, gT, gW, gN, gV, isU, isPick, pkC, pkB, isCall, AS.pt, AS.kn, AS.ev, look, cav, td0, td1, td2, td3, td4, td5, td6, Option.bind, Option.getD, Option.isSome, List.take, List.drop, List.length, List.getElem?_cons_zero, List.getElem?_cons_succ, ↓reduceIte, Nat.reduceLT, Nat.reduceAdd, Nat.reduceEqDiff, Nat.zero_add, true_and, Bool.not_true, Bool.false_eq_true, and_self, Nat.le_refl]
  refine sw_callL hmg0 rfl rfl rfl (.inr ?_) ?_ ?_ ?_ (sw_run 200 _ _ _ ?_)
  · simp only [eq_self, AS.ev, look, td0, td1, td2, td3, td4, td5, td6, Option.getD, ↓reduceIte, Nat.reduceEqDiff, isAgV]
  · simp only [tysD, tmsD, rD, rDs, eq_self, AS.ev, AS.owf, look, td0, td1, td2, td3, td4, td5, td6, Option.bind, Option.getD, ↓reduceIte, Nat.reduceEqDiff, Bool.false_eq_true, id_eq, and_self, lendOf, rDs, rD, tmC_eq, tysD, tmsD]
  · simp only [tysD, tmsD, eq_self, AS.ev, look, td0, td1, td2, td3, td4, td5, td6, Option.getD, ↓reduceIte, Nat.reduceEqDiff, Bool.false_eq_true, and_self, lendOf, lendOk, shp2, tmC_eq, tysD, tmsD]
  · simp only [eq_self, AS.ev, look, eatsOf, td0, td1, td2, td3, td4, td5, td6, Option.getD, List.mem_cons, List.not_mem_nil, List.nodup_cons, List.nodup_nil, ↓reduceIte, Nat.reduceEqDiff, not_false_eq_true, or_false, Bool.false_eq_true, and_self, lendOf, eatsOf]
  simp only [eq_self, xRun, vE, vP, vSub, vLoad, isCutO, gN, isPick, isCall, AS.pt, AS.ev, look, cav, td0, td1, td2, td3, td4, td5, td6, Option.getD, List.take, List.drop, List.length, ↓reduceIte, Nat.reduceLT, Nat.reduceAdd, Nat.reduceEqDiff, Nat.zero_add, true_and, Bool.false_eq_true, Nat.le_refl, AS.lend, lendOf, lendL, lendO, unspLT, unspLB, AV.unspL, AV.unspLs]
  refine sw_call hhg0 rfl (aAs_ok ?_) ?_ (sw_run 200 _ _ _ ?_)
  · simp only [aAs, aA, aDs, aD, AS.ev, AS.owf, look, Option.bind, Option.getD, id_eq, List.map, List.append_nil, ↓reduceIte, Nat.reduceEqDiff, eq_self, and_self]
  · simp only [okR]
  simp only [mkR, flatD, packA, retA, List.headD_cons, eq_self, xRun, vE, vP, vBin, vBinT, isAg, isBo, isCutO, isB, bv, gN, isPick, isCall, AS.pt, AS.ev, look, cav, td0, td1, td2, td3, td4, td5, td6, Option.getD, ↓reduceIte, Nat.reduceLT, Nat.reduceEqDiff, ne_eq, not_true_eq_false, true_and, Bool.false_eq_true, reduceCtorEq, decide_false, hkg0]
  refine sw_call ht0 rfl (aAs_ok ?_) ?_ (sw_run 200 _ _ _ ?_)
  · simp only [aAs, aA, aD, intsD, AS.ev, look, Option.getD, List.map, List.append_nil, ↓reduceIte, eq_self, and_self, intsD]
  · simp only [okR]
  simp only [mkR, flatD, packA, retA, List.headD_cons, intsD, eq_self, xRun, gN, isPick, isCall, AS.pt, AS.mk', kill, td0, td1, td2, td3, td4, td5, td6, List.foldr, ↓reduceIte, Nat.reduceLT, Nat.reduceAdd, Bool.false_eq_true, intsD]
  refine sw_call hI rfl (aAs_ok ?_) ?_ (sw_run 200 _ _ _ ?_)
  · simp only [aAs, aA, aD, AS.ev, AS.owf, look, Option.bind, Option.getD, id_eq, List.map, List.append_nil, ↓reduceIte, eq_self, and_self]
  · simp only [okR]
  simp only [mkR, flatD, packA, retA, tysD, tmsD, eq_self, xRun, vE, vP, vSub, vLoad, vStore, isCutO, gN, isPick, isCall, AS.pt, AS.ev, AS.box, AS.setb, AS.mk', kill, look, setRowG, AV.cells, AV.whole, AV.one, td0, td1, td2, td3, td4, td5, td6, Option.getD, Option.isSome, List.take, List.drop, List.length, List.set, List.foldr, List.all, List.append_nil, ↓reduceIte, Nat.reduceLT, Nat.reduceAdd, Nat.reduceEqDiff, Nat.zero_add, true_and, Bool.and_true, Bool.false_eq_true, and_self, Nat.le_refl, tmC_eq, tysD, tmsD]
  refine sw_call hqr0 rfl (aAs_ok ?_) ?_ (sw_run 200 _ _ _ ?_)
  · simp only [aAs, aA, aDs, aD, tysD, tmsD, AS.ev, AS.owf, look, Option.bind, Option.getD, id_eq, List.map, List.append_nil, ↓reduceIte, Nat.reduceEqDiff, eq_self, and_self, tmC_eq, tysD, tmsD]
  · simp only [okR]
  simp only [mkR, flatD, packA, retA, List.headD_cons, eq_self, xRun, vE, vP, vSub, vLoad, vNot, isCutO, isB, bv, gN, isPick, isCall, AS.pt, AS.ev, look, cav, td0, td1, td2, td3, td4, td5, td6, Option.getD, List.take, List.drop, List.length, ↓reduceIte, Nat.reduceLT, Nat.reduceAdd, Nat.reduceEqDiff, Nat.zero_add, true_and, Bool.not_true, Bool.false_eq_true, Nat.le_refl]
  refine sw_call hhg0 rfl (aAs_ok ?_) ?_ (sw_run 200 _ _ _ ?_)
  · simp only [aAs, aA, aDs, aD, AS.ev, AS.owf, look, Option.bind, Option.getD, id_eq, List.map, List.append_nil, ↓reduceIte, Nat.reduceEqDiff, eq_self, and_self]
  · simp only [okR]
  simp only [mkR, flatD, packA, retA, List.headD_cons, fQ, xRet, rPs, xRes, flatA, rD, eq_self, xRun, vE, vP, vBin, vBinT, isAg, isBo, isCutO, isB, bv, gN, isPick, isCall, AS.pt, AS.ev, look, cav, eatsOf, td0, td1, td2, td3, td4, td5, td6, Option.getD, List.map, List.nodup_nil, ↓reduceIte, Nat.reduceLT, Nat.reduceEqDiff, ne_eq, not_true_eq_false, or_false, Bool.false_eq_true, reduceCtorEq, decide_false, and_self, hkg0, Tryd.results3]
theorem top_FnExactDotTerm (w : World) (hg : GI w) (v0 : Value) (h0 : Arg w .ints v0) : Calls Tryd.prog 3 #[v0] w fun e w' => e = .returned (.bool true) ∧ Below w.heap.size w w' := by
  obtain ⟨ds0, hc0, hr0, hs0⟩ := h0
  obtain ⟨p0, rfl⟩ := ints_of hc0
  exact lp_top (con_FnExactDotTerm p0 ⟨hc0, hs0⟩) (rpd_cons (rpd_one hr0) (rpd_nil _))
end Go.Proofs.YtlmnfemobajmlaaDoor
