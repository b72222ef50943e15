/-
  The walk of the law FnExactCompile.
-/
import Derived.Test.YtgjcilainojlfaaUMark
import Derived.Test.YtgjcilainojlfaaHMkL
import Derived.Test.YtgjcilainojlfaaHEqL
import Derived.Test.YtgjcilainojlfaaLst
import Derived.Test.YtgjcilainojlfaaLp
import Derived.Test.YtgjcilainojlfaaCpM
import Derived.Test.YtgjcilainojlfaaUTerm
import Derived.Test.YtgjcilainojlfaaUMTerm
/-
  Slices of structs: marks.
-/
namespace Go.Proofs.Ytgjcilainojlfaa
open Go.RowKit
set_option linter.unusedVariables false
theorem U_heldInstrS {d : D} {v : Value} {w : World} {c : Int} (hc : Conf d (.sl .instr)) (hr : RepV w w.heap.size (markD d c) v) (h0 : 0 ≤ c) (h1 : c + cntD d ≤ 140737488351232) :
    Calls Try.prog 24 #[v, .int .i64 c] w fun e w' => e = .returned (.int .i64 (c + cntD d)) ∧ Below w.heap.size w w' :=
  heldInstrS_all _ hc v w.heap.size w c hr (Nat.le_refl _) h0 h1
end Go.Proofs.Ytgjcilainojlfaa
/-
  Slices of structs.
-/
namespace Go.Proofs.Ytgjcilainojlfaa
open Go.RowKit
set_option linter.unusedVariables false
theorem U_eqsInstrS {d : D} {v u : Value} {w : World} (hc : Conf d (.sl .instr)) (hr : RepV w w.heap.size d v) (hr' : RepV w w.heap.size d u) :
    Calls Try.prog 20 #[v, u] w fun e w' => e = .returned (.bool true) ∧ Below w.heap.size w w' := by
  have h := eqInstrS_all _ hc d v u w.heap.size w.heap.size w hc hr hr' (Nat.le_refl _) (Nat.le_refl _)
  rwa [eqD_refl] at h
end Go.Proofs.Ytgjcilainojlfaa
/-
  Contracts with two results, used on memory.
-/
namespace Go.Proofs.Ytgjcilainojlfaa
open Go.RowKit
set_option linter.unusedVariables false
set_option linter.unusedSimpArgs false
end Go.Proofs.Ytgjcilainojlfaa
namespace Go.Proofs.Ytgjcilainojlfaa
open Go.RowKit
set_option linter.unusedVariables false
set_option linter.unusedSimpArgs false
set_option maxRecDepth 20000
theorem con_FnExactCompile (p0 : Tm) (hi0 : In (tmC p0) K.tm.fields) : Con Try.prog 5 [.ag (tmC p0)] [.one (.bool true)] := by
  obtain ⟨z0, ez0⟩ : ∃ z, z = szL (tmC p0) := ⟨_, rfl⟩
  have hs0 := lp_sz (f := 6) (k := 1048576) ⟨_, Try.func6, rfl, rfl⟩ fun w v hr => U_szTerm hi0.1 hi0.2 hr (by omega) (by omega)
  rw [← ez0] at hs0
  by_cases hft0 : (z0 : Int) ≤ 1048576
  case neg =>
    rw [szR_out _ _ (by omega)] at hs0
    refine con_run Try.func5 rfl rfl (by simp [Try.ntmps5]) ?_
    simp only [argT, argA, tysD, tmsD, eq_self, xRun, vE, vP, vSub, vLoad, isCutO, gN, isPick, isCall, AS.pt, AS.ev, AS.box, look, cav, avB, AV.cells, AV.whole, AV.one, td0, td1, td2, td3, td4, td5, td6, Option.getD, List.map, List.take, List.drop, List.length, List.all, ↓reduceIte, Nat.reduceLT, Nat.reduceAdd, Nat.reduceEqDiff, Nat.zero_add, true_and, Bool.and_true, Bool.false_eq_true, Nat.le_refl, tmC_eq, tysD, tmsD, Try.ntmps5]
    refine sw_call hs0 rfl (aAs_ok ?_) ?_ (sw_run 200 _ _ _ ?_)
    · simp only [aAs, aA, aDs, aD, tysD, tmsD, AS.ev, look, Option.getD, List.map, List.append_nil, ↓reduceIte, Nat.reduceEqDiff, eq_self, and_self, tmC_eq, tysD, tmsD]
    · simp only [okR]
    simp only [mkR, flatD, packA, retA, List.headD_cons, fQ, xRet, rPs, xRes, flatA, rD, eq_self, xRun, vE, vP, vBin, vBinT, isAg, isBo, isCutO, isB, bv, gN, isPick, isCall, AS.pt, AS.ev, look, cav, eatsOf, td0, td1, td2, td3, td4, td5, td6, Option.getD, List.map, List.nodup_nil, ↓reduceIte, Nat.reduceLT, or_false, Bool.false_eq_true, reduceCtorEq, Int.reduceLT, Int.reduceNeg, decide_true, and_self, Try.results5]
  rw [szR_in _ _ hft0] at hs0
  have hnn0 : ¬ (1048576 - (z0 : Int) < 0) := by omega
  have hz0 : szL (tmC p0) ≤ 1048576 := by omega
  have ht0 := lp_to (ds := tmC p0) (f := 8) ⟨_, Try.func8, rfl, rfl⟩ fun w v hr => U_toTerm ⟨hi0.1, hi0.2, hz0, hr⟩
  have hq0 := lp_eq (ds := tmC p0) (f := 11) ⟨_, Try.func11, rfl, rfl⟩ fun w v u hr hr' => U_eqsTerm hi0.1 hr hr'
  have hS := con_CompS p0 (Nat.le_trans hz0 (by omega))
  have hI := con_CompI p0 (Nat.le_trans hz0 (by omega))
  have hc := (cm_fit p0).1
  have hn := (cm_fit p0).2
  generalize (cmR p0).1 = R0 at *
  have hqr0 := lp_eq1 (d := inssD R0) (f := 20) ⟨_, Try.func20, rfl, rfl⟩ fun w v u hr hr' => U_eqsInstrS hc hr hr'
  generalize (cmR p0).2 = R1 at *
  have hbx0 : cntS (tmC p0) ≤ 20971520 := by have := cntS_bd hi0.1; omega
  have hmx0 := lp_mark (ds := tmC p0) (k := 1) (f := 12) ⟨_, Try.func12, rfl, rfl⟩ fun w v fp ho hn => U_markTerm hi0.1 ho hn (by omega) (by omega)
  obtain ⟨d5x0, d7x0, d8x0, emx0⟩ : ∃ d5x0 d7x0 d8x0, markS (tmC p0) (1) = [.int p0.kind, .str p0.name, .str p0.other, .int p0.n, .int p0.ty.kind, .rows 2 p0.ty.args.length d5x0, .int p0.res.kind, .rows 2 p0.res.args.length d7x0, .rows 9 p0.args.length d8x0] := by
    simp only [tmC_eq]
    exact ⟨_, _, _, rfl⟩
  rw [emx0] at hmx0
  obtain ⟨nx0, enx0⟩ : ∃ n, n = cntS (tmC p0) := ⟨_, rfl⟩
  rw [← enx0] at hmx0 hbx0
  have hkx0 : ¬ (1 + (nx0 : Int) < 0) := by omega
  have hbg0 : cntD (inssD R0) ≤ 17592186044416 := hn
  have hmg0 := lp_mark1 (d := inssD R0) (k := 1) (f := 23) ⟨_, Try.func23, rfl, rfl⟩ fun w v fp ho hn => markInstrS_all _ hc v fp w (1) ho hn (by omega) (by omega)
  have hhg0 := lp_sz1 (d := markD (inssD R0) (1)) (k := 1) (f := 24) ⟨_, Try.func24, rfl, rfl⟩ fun w v hr => U_heldInstrS hc hr (by omega) (by omega)
  obtain ⟨d1g0, emg0⟩ : ∃ d, markD (inssD R0) (1) = .rows 2 R0.length d := ⟨_, rfl⟩
  rw [emg0] at hmg0 hhg0
  obtain ⟨ng0, eng0⟩ : ∃ n, n = cntD (inssD R0) := ⟨_, rfl⟩
  rw [← eng0] at hmg0 hbg0 hhg0
  have hkg0 : ¬ (1 + (ng0 : Int) < 0) := by omega
  refine con_run Try.func5 rfl rfl (by simp [Try.ntmps5]) ?_
  simp only [argT, argA, tysD, tmsD, eq_self, xRun, vE, vP, vSub, vLoad, isCutO, gN, isPick, isCall, AS.pt, AS.ev, AS.box, look, cav, avB, AV.cells, AV.whole, AV.one, td0, td1, td2, td3, td4, td5, td6, Option.getD, List.map, List.take, List.drop, List.length, List.all, ↓reduceIte, Nat.reduceLT, Nat.reduceAdd, Nat.reduceEqDiff, Nat.zero_add, true_and, Bool.and_true, Bool.false_eq_true, Nat.le_refl, tmC_eq, tysD, tmsD, Try.ntmps5]
  refine sw_call hs0 rfl (aAs_ok ?_) ?_ (sw_run 200 _ _ _ ?_)
  · simp only [aAs, aA, aDs, aD, tysD, tmsD, AS.ev, look, Option.getD, List.map, List.append_nil, ↓reduceIte, Nat.reduceEqDiff, eq_self, and_self, tmC_eq, tysD, tmsD]
  · simp only [okR]
  simp only [mkR, flatD, packA, retA, List.headD_cons, eq_self, xRun, vE, vP, vSub, vLoad, vBin, vBinT, isAg, isBo, isCutO, isB, bv, gN, isPick, isCall, AS.pt, AS.ev, look, cav, td0, td1, td2, td3, td4, td5, td6, Option.getD, List.take, List.drop, List.length, ↓reduceIte, Nat.reduceLT, Nat.reduceAdd, Nat.reduceEqDiff, Nat.zero_add, true_and, Bool.false_eq_true, decide_false, Nat.le_refl, hnn0]
  refine sw_call ht0 rfl (aAs_ok ?_) ?_ (sw_run 200 _ _ _ ?_)
  · simp only [aAs, aA, aDs, aD, tysD, tmsD, AS.ev, look, Option.getD, List.map, List.append_nil, ↓reduceIte, eq_self, and_self, tmC_eq, tysD, tmsD]
  · simp only [okR]
  simp only [mkR, flatD, packA, retA, tysD, tmsD, eq_self, xRun, gN, isPick, isCall, AS.pt, AS.mk', kill, td0, td1, td2, td3, td4, td5, td6, List.take, List.length, List.foldr, List.append_nil, ↓reduceIte, Nat.reduceLT, Nat.reduceAdd, Nat.zero_add, Bool.false_eq_true, tmC_eq, tysD, tmsD]
  refine sw_call hS rfl (aAs_ok ?_) ?_ (sw_run 200 _ _ _ ?_)
  · simp only [aAs, aA, aDs, aD, tysD, tmsD, AS.ev, AS.owf, look, Option.bind, Option.getD, id_eq, List.map, List.append_nil, ↓reduceIte, Nat.reduceEqDiff, eq_self, and_self, tmC_eq, tysD, tmsD]
  · simp only [okR]
  simp only [mkR, flatD, packA, retA, List.headD_cons, List.tail_cons, eq_self, xRun, vE, vP, vSub, vLoad, vExt, isCutO, gN, isPick, isCall, AS.pt, AS.ev, AS.mk', kill, look, td0, td1, td2, td3, td4, td5, td6, Option.getD, Option.isSome, List.take, List.drop, List.length, List.getElem?_cons_zero, List.getElem?_cons_succ, List.foldr, ↓reduceIte, Nat.reduceLT, Nat.reduceAdd, Nat.reduceEqDiff, Nat.zero_add, true_and, Bool.false_eq_true, Nat.le_refl, inssD]
  refine sw_call ht0 rfl (aAs_ok ?_) ?_ (sw_run 200 _ _ _ ?_)
  · simp only [aAs, aA, aDs, aD, tysD, tmsD, AS.ev, look, Option.getD, List.map, List.append_nil, ↓reduceIte, eq_self, and_self, tmC_eq, tysD, tmsD]
  · simp only [okR]
  simp only [mkR, flatD, packA, retA, tysD, tmsD, eq_self, xRun, vE, vP, vSub, vLoad, vStore, isCutO, gN, isPick, isCall, AS.pt, AS.ev, AS.box, AS.setb, AS.mk', kill, look, setRowG, AV.cells, AV.whole, AV.one, td0, td1, td2, td3, td4, td5, td6, Option.getD, Option.isSome, List.take, List.drop, List.length, List.set, List.foldr, List.all, List.append_nil, ↓reduceIte, Nat.reduceLT, Nat.reduceAdd, Nat.reduceEqDiff, Nat.zero_add, true_and, Bool.and_true, Bool.false_eq_true, and_self, Nat.le_refl, tmC_eq, tysD, tmsD]
  refine sw_call hI rfl (aAs_ok ?_) ?_ (sw_run 200 _ _ _ ?_)
  · simp only [aAs, aA, aDs, aD, tysD, tmsD, AS.ev, AS.owf, look, Option.bind, Option.getD, id_eq, List.map, List.append_nil, ↓reduceIte, Nat.reduceEqDiff, eq_self, and_self, tmC_eq, tysD, tmsD]
  · simp only [okR]
  simp only [mkR, flatD, packA, retA, List.headD_cons, List.tail_cons, eq_self, xRun, vE, vP, vExt, isCutO, gN, isPick, isCall, AS.pt, AS.ev, AS.mk', kill, look, td0, td1, td2, td3, td4, td5, td6, Option.getD, Option.isSome, List.getElem?_cons_zero, List.getElem?_cons_succ, List.foldr, ↓reduceIte, Nat.reduceLT, Nat.reduceAdd, Nat.reduceEqDiff, true_and, Bool.false_eq_true, inssD]
  refine sw_call hqr0 rfl (aAs_ok ?_) ?_ (sw_run 200 _ _ _ ?_)
  · simp only [aAs, aA, aD, AS.ev, AS.owf, look, Option.bind, Option.getD, id_eq, List.map, List.append_nil, ↓reduceIte, Nat.reduceEqDiff, eq_self, and_self, inssD]
  · simp only [okR]
  simp only [mkR, flatD, packA, retA, List.headD_cons, eq_self, xRun, vE, vP, vBinT, isAg, isBo, bvA, vEqB, vNot, isCutO, isB, bv, gT, gW, gN, gV, isU, isPick, pkC, pkB, isCall, AS.pt, AS.kn, AS.ev, look, td0, td1, td2, td3, td4, td5, td6, Option.bind, Option.getD, Option.isSome, List.getElem?_cons_zero, List.getElem?_cons_succ, ↓reduceIte, Nat.reduceLT, Nat.reduceEqDiff, ne_eq, not_true_eq_false, true_and, Bool.not_true, Bool.false_eq_true, decide_false, and_self]
  refine sw_drawn (.cons 0 true (.cons 1 true (.cons 2 false (.cons 3 false (.cons 4 true (.nil)))))) (by kernel_rfl) fQ_panic (by kernel_rfl) (sw_run 200 _ _ _ ?_)
  simp only [eq_self, xRun, vP, vSub, vLoad, gN, isPick, isCall, AS.pt, AS.ev, look, td0, td1, td2, td3, td4, td5, td6, Option.getD, Option.isSome, List.take, List.drop, List.length, List.getElem?_cons_zero, List.getElem?_cons_succ, ↓reduceIte, Nat.reduceLT, Nat.reduceAdd, Nat.reduceEqDiff, Nat.zero_add, true_and, Bool.false_eq_true, reduceCtorEq, Nat.le_refl]
  refine sw_callD ht0 rfl (aAs_ok ?_) ?_ (sw_run 200 _ _ _ ?_)
  · simp only [aAs, aA, aDs, aD, tysD, tmsD, AS.ev, look, Option.getD, List.map, List.append_nil, ↓reduceIte, eq_self, and_self, tmC_eq, tysD, tmsD]
  · simp only [okR]
  simp only [mkR, flatD, packA, retA, tysD, tmsD, eq_self, xRun, gN, isCall, AS.pt, AS.mk', kill, td0, td1, td2, td3, td4, td5, td6, Option.getD, Option.isSome, List.take, List.length, List.getElem?_cons_zero, List.getElem?_cons_succ, List.foldr, List.append_nil, ↓reduceIte, Nat.reduceLT, Nat.reduceAdd, Nat.zero_add, true_and, tmC_eq, tysD, tmsD]
  refine sw_callD hq0 rfl (aAs_ok ?_) ?_ (sw_run 200 _ _ _ ?_)
  · simp only [aAs, aA, aDs, aD, tysD, tmsD, AS.ev, AS.owf, look, Option.bind, Option.getD, id_eq, List.map, List.append_nil, ↓reduceIte, Nat.reduceEqDiff, eq_self, and_self, tmC_eq, tysD, tmsD]
  · simp only [okR]
  simp only [mkR, flatD, packA, retA, List.headD_cons, eq_self, xRun, vE, vP, vSub, vLoad, vNot, isCutO, isB, bv, gN, isPick, isCall, AS.pt, AS.ev, look, cav, td0, td1, td2, td3, td4, td5, td6, Option.getD, Option.isSome, List.take, List.drop, List.length, List.getElem?_cons_zero, List.getElem?_cons_succ, ↓reduceIte, Nat.reduceLT, Nat.reduceAdd, Nat.reduceEqDiff, Nat.zero_add, true_and, Bool.not_true, Bool.false_eq_true, Nat.le_refl]
  refine sw_callL hmx0 rfl rfl rfl (.inr ?_) ?_ ?_ ?_ (sw_run 200 _ _ _ ?_)
  · simp only [eq_self, AS.ev, look, td0, td1, td2, td3, td4, td5, td6, Option.getD, ↓reduceIte, Nat.reduceEqDiff, isAgV]
  · simp only [tysD, tmsD, rD, rDs, eq_self, AS.ev, AS.owf, look, td0, td1, td2, td3, td4, td5, td6, Option.bind, Option.getD, ↓reduceIte, Nat.reduceEqDiff, Bool.false_eq_true, id_eq, and_self, lendOf, rDs, rD, tmC_eq, tysD, tmsD]
  · simp only [tysD, tmsD, eq_self, AS.ev, look, td0, td1, td2, td3, td4, td5, td6, Option.getD, ↓reduceIte, Nat.reduceEqDiff, Bool.false_eq_true, and_self, lendOf, lendOk, shp2, tmC_eq, tysD, tmsD]
  · simp only [eq_self, AS.ev, look, eatsOf, td0, td1, td2, td3, td4, td5, td6, Option.getD, List.mem_cons, List.not_mem_nil, List.nodup_cons, List.nodup_nil, ↓reduceIte, Nat.reduceEqDiff, not_false_eq_true, or_false, Bool.false_eq_true, and_self, lendOf, eatsOf]
  simp only [eq_self, xRun, vE, vP, vBin, vBinT, isAg, isBo, isCutO, isB, bv, gT, gW, gN, gV, isU, isPick, isCall, AS.pt, AS.kn, AS.ev, look, cav, td0, td1, td2, td3, td4, td5, td6, Option.bind, Option.getD, Option.isSome, List.getElem?_cons_zero, List.getElem?_cons_succ, ↓reduceIte, Nat.reduceLT, Nat.reduceEqDiff, true_and, Bool.false_eq_true, decide_false, and_self, hkx0, AS.lend, lendOf, lendL, lendO, unspLT, unspLB, AV.unspL, AV.unspLs]
  refine sw_call hqr0 rfl (aAs_ok ?_) ?_ (sw_run 200 _ _ _ ?_)
  · simp only [aAs, aA, aD, AS.ev, AS.owf, look, Option.bind, Option.getD, id_eq, List.map, List.append_nil, ↓reduceIte, Nat.reduceEqDiff, eq_self, and_self, inssD]
  · simp only [okR]
  simp only [mkR, flatD, packA, retA, List.headD_cons, eq_self, xRun, vE, vP, vBinT, isAg, isBo, bvA, vEqB, vNot, isCutO, isB, bv, gT, gW, gN, gV, isU, isPick, pkC, pkB, isCall, AS.pt, AS.kn, AS.ev, look, cav, td0, td1, td2, td3, td4, td5, td6, Option.bind, Option.getD, Option.isSome, List.getElem?_cons_zero, List.getElem?_cons_succ, ↓reduceIte, Nat.reduceLT, Nat.reduceEqDiff, ne_eq, not_true_eq_false, true_and, Bool.not_true, Bool.false_eq_true, decide_false, and_self]
  refine sw_callL hmg0 rfl rfl rfl (.inl rfl) ?_ ?_ ?_ (sw_run 200 _ _ _ ?_)
  · simp only [rD, rDs, eq_self, AS.ev, AS.owf, look, td0, td1, td2, td3, td4, td5, td6, Option.bind, Option.getD, ↓reduceIte, Nat.reduceEqDiff, id_eq, and_self, lendOf, rDs, rD, inssD]
  · simp only [eq_self, AS.ev, look, td0, td1, td2, td3, td4, td5, td6, Option.getD, ↓reduceIte, Nat.reduceEqDiff, and_self, lendOf, lendOk, shp2, inssD]
  · simp only [eq_self, AS.ev, look, eatsOf, td0, td1, td2, td3, td4, td5, td6, Option.getD, List.not_mem_nil, List.nodup_cons, List.nodup_nil, ↓reduceIte, Nat.reduceEqDiff, not_false_eq_true, and_self, lendOf, eatsOf]
  simp only [eq_self, xRun, vE, vP, isCutO, gN, isPick, isCall, AS.pt, AS.ev, look, cav, td0, td1, td2, td3, td4, td5, td6, Option.getD, ↓reduceIte, Nat.reduceLT, Nat.reduceEqDiff, true_and, Bool.false_eq_true, AS.lend, lendOf, lendL, lendO, unspLT, unspLB, AV.unspL, AV.unspLs]
  refine sw_call hhg0 rfl (aAs_ok ?_) ?_ (sw_run 200 _ _ _ ?_)
  · simp only [aAs, aA, aD, AS.ev, AS.owf, look, Option.bind, Option.getD, id_eq, List.map, List.append_nil, ↓reduceIte, Nat.reduceEqDiff, eq_self, and_self]
  · simp only [okR]
  simp only [mkR, flatD, packA, retA, List.headD_cons, eq_self, xRun, vE, vP, vSub, vLoad, vBin, vBinT, isAg, isBo, isCutO, isB, bv, gN, isPick, isCall, AS.pt, AS.ev, look, cav, td0, td1, td2, td3, td4, td5, td6, Option.getD, List.take, List.drop, List.length, ↓reduceIte, Nat.reduceLT, Nat.reduceAdd, Nat.reduceEqDiff, Nat.zero_add, ne_eq, not_true_eq_false, true_and, Bool.false_eq_true, reduceCtorEq, decide_false, Nat.le_refl, hkg0]
  refine sw_call ht0 rfl (aAs_ok ?_) ?_ (sw_run 200 _ _ _ ?_)
  · simp only [aAs, aA, aDs, aD, tysD, tmsD, AS.ev, look, Option.getD, List.map, List.append_nil, ↓reduceIte, eq_self, and_self, tmC_eq, tysD, tmsD]
  · simp only [okR]
  simp only [mkR, flatD, packA, retA, tysD, tmsD, eq_self, xRun, gN, isPick, isCall, AS.pt, AS.mk', kill, td0, td1, td2, td3, td4, td5, td6, List.take, List.length, List.foldr, List.append_nil, ↓reduceIte, Nat.reduceLT, Nat.reduceAdd, Nat.zero_add, Bool.false_eq_true, tmC_eq, tysD, tmsD]
  refine sw_call hI rfl (aAs_ok ?_) ?_ (sw_run 200 _ _ _ ?_)
  · simp only [aAs, aA, aDs, aD, tysD, tmsD, AS.ev, AS.owf, look, Option.bind, Option.getD, id_eq, List.map, List.append_nil, ↓reduceIte, Nat.reduceEqDiff, eq_self, and_self, tmC_eq, tysD, tmsD]
  · simp only [okR]
  simp only [mkR, flatD, packA, retA, List.headD_cons, List.tail_cons, eq_self, xRun, vE, vP, vExt, isCutO, gN, isPick, isCall, AS.pt, AS.ev, AS.mk', kill, look, td0, td1, td2, td3, td4, td5, td6, Option.getD, Option.isSome, List.getElem?_cons_zero, List.getElem?_cons_succ, List.foldr, ↓reduceIte, Nat.reduceLT, Nat.reduceAdd, Nat.reduceEqDiff, true_and, Bool.false_eq_true, inssD]
  refine sw_call hqr0 rfl (aAs_ok ?_) ?_ (sw_run 200 _ _ _ ?_)
  · simp only [aAs, aA, aD, AS.ev, AS.owf, look, Option.bind, Option.getD, id_eq, List.map, List.append_nil, ↓reduceIte, Nat.reduceEqDiff, eq_self, and_self, inssD]
  · simp only [okR]
  simp only [mkR, flatD, packA, retA, List.headD_cons, eq_self, xRun, vE, vP, vBinT, isAg, isBo, bvA, vEqB, vNot, isCutO, isB, bv, gT, gW, gN, gV, isU, isPick, pkC, pkB, isCall, AS.pt, AS.kn, AS.ev, look, cav, td0, td1, td2, td3, td4, td5, td6, Option.bind, Option.getD, Option.isSome, List.getElem?_cons_zero, List.getElem?_cons_succ, ↓reduceIte, Nat.reduceLT, Nat.reduceEqDiff, ne_eq, not_true_eq_false, true_and, Bool.not_true, Bool.false_eq_true, decide_false, and_self]
  refine sw_call hhg0 rfl (aAs_ok ?_) ?_ (sw_run 200 _ _ _ ?_)
  · simp only [aAs, aA, aD, AS.ev, AS.owf, look, Option.bind, Option.getD, id_eq, List.map, List.append_nil, ↓reduceIte, Nat.reduceEqDiff, eq_self, and_self]
  · simp only [okR]
  simp only [mkR, flatD, packA, retA, List.headD_cons, fQ, xRet, rPs, xRes, flatA, rD, eq_self, xRun, vE, vP, vBin, vBinT, isAg, isBo, isCutO, isB, bv, gN, isPick, isCall, AS.pt, AS.ev, look, cav, eatsOf, td0, td1, td2, td3, td4, td5, td6, Option.getD, List.map, List.nodup_nil, ↓reduceIte, Nat.reduceLT, Nat.reduceEqDiff, ne_eq, not_true_eq_false, or_false, Bool.false_eq_true, reduceCtorEq, decide_false, and_self, hkg0, Try.results5]
theorem top_FnExactCompile (w : World) (cs0 : Array Value) (h0 : ArgS w K.tm.fields cs0) : Calls Try.prog 5 #[.agg cs0] w fun e w' => e = .returned (.bool true) ∧ Below w.heap.size w w' := by
  obtain ⟨ds0, hc0, hr0, hs0⟩ := h0
  obtain ⟨p0, rfl⟩ := tm_of hc0
  obtain ⟨vs0, rfl⟩ : ∃ vs : List Value, cs0 = vs.toArray := ⟨cs0.toList, by simp⟩
  replace hr0 : RepVs w w.heap.size (tmC p0) vs0 := hr0
  exact lp_top (con_FnExactCompile p0 ⟨hc0, hs0⟩) (rpd_cons (rpd_ag hr0) (rpd_nil _))
end Go.Proofs.Ytgjcilainojlfaa
