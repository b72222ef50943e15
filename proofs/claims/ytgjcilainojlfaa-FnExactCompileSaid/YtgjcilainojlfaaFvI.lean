/-
  Free names: the program's function.
-/
import Derived.Test.YtgjcilainojlfaaFv
namespace Go.Proofs.Ytgjcilainojlfaa
open Go.RowKit
set_option linter.unusedVariables false
set_option linter.unusedSimpArgs false
set_option maxRecDepth 20000
theorem con_UniteP (a b : List ByteArray) (ha : sL a ≤ 100000000) (hb : sL b ≤ 100000000) : ConP Try.prog 142 [.b (.one (strsD a)), .b (.one (strsD b))] [] [.one (.a 9 (strsD (uniR a b)))] := by
  have hla : a.length ≤ sL a := by rw [sL]; omega
  have hlb : b.length ≤ sL b := by rw [sL]; omega
  have hcc := con_Concat [a, b] (by simp only [List.flatten_cons, List.flatten_nil, List.append_nil, List.length_append]; omega) (by simp)
  simp only [List.flatten_cons, List.flatten_nil, List.append_nil, List.length_cons, List.length_nil, List.map_cons, List.map_nil, strsD, Nat.zero_add, Nat.reduceAdd] at hcc
  refine con_runP Try.func142 rfl rfl (by simp [Try.ntmps142]) rfl ?_
  simp only [s0P, mkPs, mkPA, argA, numT, strsD, eq_self, xRun, vE, vP, vRow, isCutO, xFill, gN, isPick, isCall, AS.pt, AS.ev, AS.mk', kill, look, cav, avB, setRowG, AV.cells, AV.whole, AV.one, cD, cDs, eatsOf, dpOf, td0, td1, td2, td3, td4, td5, td6, Option.getD, Option.isSome, List.map, List.length, List.set, List.foldr, List.all, List.replicate, List.nodup_nil, ↓reduceIte, Nat.reduceLT, Nat.reduceAdd, Nat.reduceLeDiff, Nat.reduceEqDiff, Nat.zero_add, Nat.mul_one, true_and, or_true, Bool.and_true, Bool.and_false, Bool.false_eq_true, reduceCtorEq, and_self, Nat.succ_ne_zero, Nat.zero_le, Nat.le_refl, strsD, Try.ntmps142]
  refine sw_call (hcc) rfl (aAs_ok ?_) ?_ (sw_run 200 _ _ _ ?_)
  · simp only [aAs, aA, aD, AS.ev, AS.owf, look, Option.bind, Option.getD, id_eq, List.map, List.append_nil, ↓reduceIte, eq_self, and_self]
  · simp only [okR]
  simp only [mkR, flatD, packA, retA, List.headD_cons, eq_self, xRun, vE, vP, vLen, isCutO, gN, isPick, isCall, AS.pt, AS.ev, AS.mk', AS.owf, AS.rd, kill, look, cav, td0, td1, td2, td3, td4, td5, td6, Option.bind, Option.getD, Option.map, List.foldr, ↓reduceIte, Nat.reduceLT, Nat.reduceAdd, true_and, Bool.false_eq_true, id_eq]
  refine sw_loop (fun k : Nat => k ≤ (a ++ b).length) (fun k => ⟨28, [(14, .i k), (13, .i (a ++ b).length), (12, .sl 0), (5, .sl 1)], [], [(0, some ⟨.rows 1 (a ++ b).length ((a ++ b).map D.str), none, true⟩), (1, some ⟨.rows 1 (uni [] (a ++ b) k).length ((uni [] (a ++ b) k).map D.str), some 9, true⟩)], 2, []⟩) (fun k => (a ++ b).length - k) 0 (rnL [(0, 2), (1, 0)]) (Nat.zero_le _) ?_ ?_
  · simp only [Sub, subT, subB, subO, subP, inj, AV.ren, AV.lt, eq_self, AS.owf, look, td0, td1, td2, td3, td4, td5, td6, Option.bind, Option.getD, List.map, List.mem_cons, List.not_mem_nil, List.nodup_cons, List.nodup_nil, ↓reduceIte, Nat.reduceLT, Nat.reduceEqDiff, not_false_eq_true, or_false, id_eq, reduceCtorEq, Int.natCast_zero, and_self, Nat.succ_ne_zero, rnL, uni, List.length_nil, List.map_nil, List.length_append, List.map_append]
  · rintro k hk
    refine sw_run 200 _ _ _ ?_
    by_cases hlt : k < (a ++ b).length
    · have hi : (k : Int) < ((a ++ b).length : Int) := by omega
      have hab : (a ++ b).length = a.length + b.length := List.length_append
      have hR := strs_row (a ++ b) k hlt
      have hsz := uni_sz [] (a ++ b) k hk
      rw [sL_app] at hsz
      have h0 : sL [] = 0 := rfl
      have hlu : (uni [] (a ++ b) k).length ≤ sL (uni [] (a ++ b) k) := by rw [sL]; omega
      have hct := con_Contains (uni [] (a ++ b) k) (a ++ b)[k]! (by omega)
      have hst : uni [] (a ++ b) (k + 1) = if 0 ≤ fi (a ++ b)[k]! (uni [] (a ++ b) k) 0 then uni [] (a ++ b) k else uni [] (a ++ b) k ++ [(a ++ b)[k]!] := rfl
      by_cases hc : 0 ≤ fi (a ++ b)[k]! (uni [] (a ++ b) k) 0
      · rw [decide_eq_true hc] at hct
        rw [if_pos hc] at hst
        simp only [rowD, eq_self, xRun, vE, vP, vSub, vLoad, vIdx, vBin, vBinT, isAg, isBo, isCutO, isB, bv, gN, isPick, isCall, AS.pt, AS.ev, AS.owf, look, avO, avF, td0, td1, td2, td3, td4, td5, td6, Option.bind, Option.getD, Option.isSome, List.map, List.getElem?_cons_zero, ↓reduceIte, Nat.reduceLT, Nat.reduceEqDiff, true_and, Bool.false_eq_true, id_eq, Int.toNat_natCast, Int.natCast_nonneg, decide_true, and_self, hi, hR]
        refine sw_call (hct) rfl (aAs_ok ?_) ?_ (sw_run 200 _ _ _ ?_)
        · simp only [aAs, aA, aD, strsD, AS.ev, AS.owf, look, Option.bind, Option.getD, id_eq, List.map, List.append_nil, ↓reduceIte, Nat.reduceEqDiff, eq_self, and_self, Nat.succ_ne_zero, strsD]
        · simp only [okR]
        simp only [mkR, flatD, packA, retA, List.headD_cons, qLp, eq_self, xRun, vE, vP, vBin, vBinT, isAg, isBo, vNot, isCutO, isB, bv, gN, isPick, isCall, AS.pt, AS.ev, look, cav, td0, td1, td2, td3, td4, td5, td6, Option.getD, ↓reduceIte, Nat.reduceLT, Nat.reduceEqDiff, true_and, Bool.not_true, Bool.false_eq_true, qLp]
        refine ⟨by unfold inI; omega, k + 1, id, by omega, by omega, ?_⟩
        simp only [Sub, subT, subB, subO, subP, inj, AV.ren, AV.lt, eq_self, AS.owf, look, td0, td1, td2, td3, td4, td5, td6, Option.bind, List.map, List.mem_cons, List.not_mem_nil, List.nodup_cons, List.nodup_nil, ↓reduceIte, Nat.reduceLT, Nat.reduceEqDiff, not_false_eq_true, or_false, id_eq, reduceCtorEq, and_self, Nat.succ_ne_zero, cast1, hst]
      · rw [decide_eq_false hc] at hct
        rw [if_neg hc] at hst
        simp only [rowD, eq_self, xRun, vE, vP, vSub, vLoad, vIdx, vBin, vBinT, isAg, isBo, isCutO, isB, bv, gN, isPick, isCall, AS.pt, AS.ev, AS.owf, look, avO, avF, td0, td1, td2, td3, td4, td5, td6, Option.bind, Option.getD, Option.isSome, List.map, List.getElem?_cons_zero, ↓reduceIte, Nat.reduceLT, Nat.reduceEqDiff, true_and, Bool.false_eq_true, id_eq, Int.toNat_natCast, Int.natCast_nonneg, decide_true, and_self, hi, hR]
        refine sw_call (hct) rfl (aAs_ok ?_) ?_ (sw_run 200 _ _ _ ?_)
        · simp only [aAs, aA, aD, strsD, AS.ev, AS.owf, look, Option.bind, Option.getD, id_eq, List.map, List.append_nil, ↓reduceIte, Nat.reduceEqDiff, eq_self, and_self, Nat.succ_ne_zero, strsD]
        · simp only [okR]
        simp only [mkR, flatD, packA, retA, List.headD_cons, qLp, eq_self, xRun, vE, vP, vBin, vBinT, isAg, isBo, vNot, vRow, vApp, apP, apC, isCl, isCutO, xFill, appL, appR, isB, bv, gN, isPick, isCall, AS.pt, AS.ev, AS.mk', AS.owf, kill, look, cav, setRowG, AV.cells, AV.whole, AV.one, cD, cDs, eatsOf, dpOf, td0, td1, td2, td3, td4, td5, td6, Option.bind, Option.getD, Option.isSome, List.map, List.length, List.set, List.foldr, List.all, List.replicate, List.mem_cons, List.not_mem_nil, List.nodup_nil, List.nil_append, List.cons_append, ↓reduceIte, Nat.reduceLT, Nat.reduceAdd, Nat.reduceLeDiff, Nat.reduceEqDiff, Nat.zero_add, Nat.mul_one, true_and, or_false, or_true, Bool.and_true, Bool.not_false, Bool.false_eq_true, id_eq, reduceCtorEq, and_self, Nat.succ_ne_zero, Nat.le_refl, qLp]
        refine ⟨⟨fun _ d hd => by rw [hd]; rfl, fun o ho => by omega, by unfold maxLen; omega, by omega⟩, by unfold inI; omega, k + 1, rnL [(1, 3)], by omega, by omega, ?_⟩
        simp only [Sub, subT, subB, subO, subP, inj, AV.ren, AV.lt, eq_self, AS.owf, look, td0, td1, td2, td3, td4, td5, td6, Option.bind, Option.getD, List.map, List.length, List.mem_cons, List.not_mem_nil, List.nodup_cons, List.nodup_nil, ↓reduceIte, Nat.reduceLT, Nat.reduceEqDiff, Nat.zero_add, not_false_eq_true, or_false, id_eq, reduceCtorEq, and_self, rnL, cast1, hst, List.length_append, List.map_append, List.map_cons, List.map_nil]
    · have hi : ¬ (k : Int) < ((a ++ b).length : Int) := by omega
      obtain rfl : k = (a ++ b).length := by omega
      simp only [qLp, eq_self, xRun, vE, vP, vBin, vBinT, isAg, isBo, isCutO, isB, bv, gN, isPick, isCall, popTo, AS.pt, AS.ev, look, td0, td1, td2, td3, td4, td5, td6, Option.getD, Option.isSome, ↓reduceIte, Nat.reduceLT, Nat.reduceEqDiff, true_and, Bool.false_eq_true, decide_false, hi]
      refine sw_run 200 _ _ _ ?_
      simp only [fQP, xRetP, rRs, rOs, rC, eRs, eOs, eC, xRes, eq_self, xRun, vE, vP, isCutO, gN, isPick, isCall, AS.pt, AS.ev, AS.owf, look, td0, td1, td2, td3, td4, td5, td6, Option.bind, Option.getD, List.map, List.not_mem_nil, List.nodup_cons, List.nodup_nil, List.append_nil, ↓reduceIte, Nat.reduceLT, Nat.reduceEqDiff, not_false_eq_true, or_false, Bool.false_eq_true, id_eq, reduceCtorEq, and_self, Nat.succ_ne_zero, uniR, Try.results142]
theorem con_FreeP : ∀ t : Tm, szL (tmC t) ≤ 3000000 → ConP Try.prog 98 [.b (.ag (tmC t))] [] [.one (.a 9 (strsD (freeT t)))] := by
  refine Tm.ind fun t ih hz => ?_
  obtain ⟨h5, h7, h8⟩ := sz_parts hz
  have hT := freeT_eq t
  have hB := con_bdI t (by omega)
  rw [frF] at hT
  by_cases h1 : t.kind = 1
  · rw [if_pos h1] at hT
    refine con_runP Try.func98 rfl rfl (by simp [Try.ntmps98]) rfl ?_
    simp only [s0P, mkPs, mkPA, fQP, xRetP, rRs, rOs, rC, eRs, eOs, eC, argA, numT, tysD, tmsD, strsD, xRes, eq_self, xRun, vE, vP, vSub, vLoad, vFld, vBin, vBinT, isAg, isBo, vRow, isCutO, xFill, isB, bv, gN, isPick, isCall, AS.pt, AS.ev, AS.box, AS.mk', AS.owf, kill, look, cav, avB, setRowG, AV.cells, AV.whole, AV.one, cD, cDs, eatsOf, dpOf, td0, td1, td2, td3, td4, td5, td6, Option.bind, Option.getD, Option.isSome, List.map, List.length, List.getElem?_cons_zero, List.getElem?_cons_succ, List.set, List.foldr, List.all, List.replicate, List.not_mem_nil, List.nodup_cons, List.nodup_nil, List.append_nil, ↓reduceIte, Nat.reduceLT, Nat.reduceAdd, Nat.reduceLeDiff, Nat.reduceEqDiff, Nat.zero_add, Nat.add_zero, Nat.mul_one, ne_eq, not_false_eq_true, or_false, or_true, Bool.and_true, Bool.false_eq_true, id_eq, reduceCtorEq, decide_true, and_self, Nat.succ_ne_zero, Nat.le_refl, tmC_eq, strsD, hT, eq_true h1, List.length_cons, List.map_cons, Try.ntmps98, Try.results98]
  rw [if_neg h1, List.length_map] at hT
  have hnl : (bdN t.kind t.name t.other t.args.length).length ≤ 2 := by rw [bdN]; split <;> (try split) <;> (try split) <;> simp
  generalize hn : bdN t.kind t.name t.other t.args.length = ns at hT hB hnl
  generalize hp : bdP t.kind t.args.length = p at hT hB
  simp only [strsD] at hB
  refine con_runP Try.func98 rfl rfl (by simp [Try.ntmps98]) rfl ?_
  simp only [s0P, mkPs, mkPA, argA, numT, tysD, tmsD, strsD, eq_self, xRun, vE, vP, vSub, vLoad, vFld, vBin, vBinT, isAg, isBo, isCutO, isB, bv, gN, isPick, isCall, AS.pt, AS.ev, AS.box, look, cav, avB, AV.cells, AV.whole, AV.one, td0, td1, td2, td3, td4, td5, td6, Option.getD, Option.isSome, List.map, List.take, List.drop, List.length, List.getElem?_cons_zero, List.all, ↓reduceIte, Nat.reduceLT, Nat.reduceAdd, Nat.reduceEqDiff, Nat.zero_add, Nat.add_zero, ne_eq, not_false_eq_true, true_and, Bool.and_true, Bool.false_eq_true, decide_false, Nat.succ_ne_zero, Nat.le_refl, tmC_eq, strsD, h1, Try.ntmps98]
  refine sw_call (hB) rfl (aAs_ok ?_) ?_ (sw_run 200 _ _ _ ?_)
  · simp only [aAs, aA, aDs, aD, tysD, tmsD, AS.ev, look, Option.getD, List.map, List.append_nil, ↓reduceIte, eq_self, and_self, tmC_eq]
  · simp only [okR]
  simp only [mkR, flatD, packA, retA, List.headD_cons, List.tail_cons, eq_self, xRun, vE, vP, vSub, vLoad, vFld, vLen, vExt, vRow, vStore, isCutO, xFill, gN, isPick, isCall, AS.pt, AS.ev, AS.box, AS.setb, AS.mk', AS.rd, kill, look, cav, setRowG, AV.cells, AV.whole, AV.one, cDs, eatsOf, td0, td1, td2, td3, td4, td5, td6, Option.getD, Option.isSome, List.map, List.length, List.getElem?_cons_zero, List.getElem?_cons_succ, List.set, List.foldr, List.all, List.replicate, List.nodup_nil, ↓reduceIte, Nat.reduceLT, Nat.reduceAdd, Nat.reduceEqDiff, Nat.zero_add, Nat.mul_one, ne_eq, not_false_eq_true, true_and, or_true, Bool.false_eq_true, reduceCtorEq, and_self, Nat.succ_ne_zero, Nat.zero_le, Nat.le_refl]
  refine sw_loop (fun k : Nat => k ≤ t.args.length) (fun k => ⟨42, [(24, .i k), (23, .i t.args.length), (22, .br (.rows 9 t.args.length (tmsC t.args))), (5, .sl 2), (4, .i p), (3, .bx 0 0)], [(0, [.sl 1])], [(2, some ⟨.rows 1 (frU ns p (t.args.map freeT) k).length ((frU ns p (t.args.map freeT) k).map D.str), some 9, true⟩), (1, some ⟨.rows 1 ns.length (ns.map D.str), none, true⟩)], 3, []⟩) (fun k => t.args.length - k) 0 (rnL [(0, 2), (2, 3)]) (Nat.zero_le _) ?_ ?_
  · simp only [Sub, subT, subB, subO, subP, inj, AV.ren, AV.rens, AV.lt, AV.lts, eq_self, AS.owf, look, td0, td1, td2, td3, td4, td5, td6, Option.bind, Option.getD, List.map, List.mem_cons, List.not_mem_nil, List.nodup_cons, List.nodup_nil, ↓reduceIte, Nat.reduceLT, Nat.reduceEqDiff, not_false_eq_true, or_false, id_eq, Int.natCast_zero, and_self, Nat.succ_ne_zero, rnL, Int.natCast_zero, frU, List.length_nil, List.map_nil]
  · rintro k hk
    refine sw_run 200 _ _ _ ?_
    by_cases hlt : k < t.args.length
    · have hi : (k : Int) < (t.args.length : Int) := by omega
      have hR := tmsC_row' t.args k hlt
      have hm := mem_bang hlt
      have hs := szL_tms' t.args k hlt
      have hrec := ih _ hm (by omega)
      have hfs := free_sz t.args[k]!
      have hfl : (freeT t.args[k]!).length ≤ sL (freeT t.args[k]!) := by rw [sL]; omega
      have hwz := woL_sz ns (freeT t.args[k]!)
      have hus := frU_sz ns p (t.args.map freeT) k (by rw [List.length_map]; omega)
      have hu2 := sum_take (t.args.map freeT) k
      have hu3 := free_szs t.args
      rw [freeTs_map] at hu3
      simp only [strsD] at hrec
      simp only [tysD, tmsD, rowD, eq_self, xRun, vE, vP, vSub, vLoad, vIdx, vBin, vBinT, isAg, isBo, vStore, isCutO, isB, bv, gN, isPick, isCall, AS.pt, AS.ev, AS.box, AS.setb, look, avB, setRowG, AV.cells, AV.whole, AV.one, td0, td1, td2, td3, td4, td5, td6, Option.getD, Option.isSome, List.map, List.take, List.drop, List.length, List.set, List.all, ↓reduceIte, Nat.reduceLT, Nat.reduceAdd, Nat.reduceEqDiff, Nat.zero_add, true_and, Bool.and_true, Bool.false_eq_true, Int.toNat_natCast, Int.natCast_nonneg, decide_true, and_self, Nat.le_refl, hi, hR, tmC_eq]
      refine sw_callP (hrec) rfl rfl rfl rfl ?_ ?_ ?_ (sw_run 200 _ _ _ ?_)
      · simp only [AS.kb, rmBs, mPs, mP, ePs, eP, bPs, bP, aA, aDs, aD, AS.kl, tysD, tmsD, eq_self, AS.ev, kill, look, td0, td1, td2, td3, td4, td5, td6, Option.getD, List.map, List.foldr, List.append_nil, ↓reduceIte, and_self, tmC_eq]
      · simp only [ePs, eP, tysD, tmsD, eq_self, AS.ev, look, td0, td1, td2, td3, td4, td5, td6, Option.getD, List.map, List.nodup_nil, List.append_nil, ↓reduceIte, tmC_eq]
      · simp only [bPs, bP, tysD, tmsD, eq_self, AS.ev, look, td0, td1, td2, td3, td4, td5, td6, Option.getD, List.map, List.nodup_nil, List.append_nil, ↓reduceIte, tmC_eq]
      by_cases hq : (k : Int) = p
      · have hD := con_DelNm ns (freeT t.args[k]!) (by omega) (by omega)
        simp only [strsD] at hD
        simp only [mkC, aftS, aftV, AS.kb, rmBs, mkO, packRA, flatR, ePs, eP, bPs, bP, AS.kl, retA, List.headD_cons, eq_self, xRun, vE, vP, vBin, vBinT, isAg, isBo, isCutO, isB, bv, gN, isPick, isCall, AS.pt, AS.ev, AS.mk', kill, look, td0, td1, td2, td3, td4, td5, td6, Option.getD, List.map, List.length, List.foldr, List.append_nil, ↓reduceIte, Nat.reduceLT, Nat.reduceAdd, Nat.reduceEqDiff, true_and, Bool.false_eq_true, decide_true, eq_true hq]
        refine sw_callP (hD) rfl rfl rfl rfl ?_ ?_ ?_ (sw_run 200 _ _ _ ?_)
        · simp only [rC, eC, AS.kb, rmBs, mPs, mP, ePs, eP, bPs, bP, aAs, aA, aD, AS.kl, eq_self, AS.ev, AS.owf, kill, look, td0, td1, td2, td3, td4, td5, td6, Option.bind, Option.getD, List.map, List.foldr, List.append_nil, ↓reduceIte, Nat.reduceEqDiff, id_eq, reduceCtorEq, and_self]
        · simp only [eC, ePs, eP, eq_self, AS.ev, look, td0, td1, td2, td3, td4, td5, td6, Option.getD, List.map, List.not_mem_nil, List.nodup_cons, List.nodup_nil, List.append_nil, ↓reduceIte, Nat.reduceEqDiff, not_false_eq_true, and_self]
        · simp only [bPs, bP, eq_self, AS.ev, look, td0, td1, td2, td3, td4, td5, td6, Option.getD, List.map, List.nodup_nil, List.append_nil, ↓reduceIte, Nat.reduceEqDiff]
        have hst : frU ns p (t.args.map freeT) (k + 1) = uniR (frU ns p (t.args.map freeT) k) (woL ns (freeT t.args[k]!)) := by rw [frU, if_pos hq, map_bang freeT hlt]
        have hU := con_UniteP (frU ns p (t.args.map freeT) k) (woL ns (freeT t.args[k]!)) (by omega) (by omega)
        simp only [strsD] at hU
        simp only [mkC, eC, aftS, aftV, AS.kb, rmBs, mkO, packRA, flatR, ePs, eP, bPs, bP, AS.kl, retA, List.headD_cons, eq_self, xRun, vE, vP, isCutO, gN, isPick, isCall, AS.pt, AS.ev, AS.mk', kill, look, td0, td1, td2, td3, td4, td5, td6, Option.getD, List.map, List.foldr, List.append_nil, ↓reduceIte, Nat.reduceLT, Nat.reduceAdd, Nat.reduceEqDiff, true_and, Bool.false_eq_true]
        refine sw_callP (hU) rfl rfl rfl rfl ?_ ?_ ?_ (sw_run 200 _ _ _ ?_)
        · simp only [AS.kb, rmBs, mPs, mP, ePs, eP, bPs, bP, aA, aD, AS.kl, eq_self, AS.ev, AS.owf, kill, look, td0, td1, td2, td3, td4, td5, td6, Option.bind, Option.getD, List.map, List.foldr, List.append_nil, ↓reduceIte, Nat.reduceEqDiff, id_eq, and_self]
        · simp only [ePs, eP, eq_self, AS.ev, look, td0, td1, td2, td3, td4, td5, td6, Option.getD, List.map, List.nodup_nil, List.append_nil, ↓reduceIte, Nat.reduceEqDiff]
        · simp only [bPs, bP, eq_self, AS.ev, look, td0, td1, td2, td3, td4, td5, td6, Option.getD, List.map, List.nodup_nil, List.append_nil, ↓reduceIte, Nat.reduceEqDiff]
        simp only [mkC, aftS, aftV, AS.kb, rmBs, mkO, packRA, flatR, ePs, eP, bPs, bP, AS.kl, retA, List.headD_cons, qLp, eq_self, xRun, vE, vP, vBin, vBinT, isAg, isBo, isCutO, gN, isPick, isCall, AS.pt, AS.ev, AS.mk', kill, look, cav, td0, td1, td2, td3, td4, td5, td6, Option.getD, List.map, List.foldr, List.append_nil, ↓reduceIte, Nat.reduceLT, Nat.reduceAdd, Nat.reduceEqDiff, true_and, Bool.false_eq_true, qLp]
        refine ⟨by unfold inI; omega, k + 1, rnL [(2, 6)], by omega, by omega, ?_⟩
        simp only [Sub, subT, subB, subO, subP, inj, AV.ren, AV.rens, AV.lt, AV.lts, eq_self, AS.owf, look, td0, td1, td2, td3, td4, td5, td6, Option.bind, Option.getD, List.map, List.mem_cons, List.not_mem_nil, List.nodup_cons, List.nodup_nil, ↓reduceIte, Nat.reduceLT, Nat.reduceEqDiff, not_false_eq_true, or_false, id_eq, reduceCtorEq, and_self, rnL, cast1, hst]
      · have hst : frU ns p (t.args.map freeT) (k + 1) = uniR (frU ns p (t.args.map freeT) k) (freeT t.args[k]!) := by rw [frU, if_neg hq, map_bang freeT hlt]
        have hU := con_UniteP (frU ns p (t.args.map freeT) k) (freeT t.args[k]!) (by omega) (by omega)
        simp only [strsD] at hU
        simp only [mkC, aftS, aftV, AS.kb, rmBs, mkO, packRA, flatR, ePs, eP, bPs, bP, AS.kl, retA, List.headD_cons, eq_self, xRun, vE, vP, vBin, vBinT, isAg, isBo, isCutO, isB, bv, gN, isPick, isCall, AS.pt, AS.ev, AS.mk', kill, look, td0, td1, td2, td3, td4, td5, td6, Option.getD, List.map, List.foldr, List.append_nil, ↓reduceIte, Nat.reduceLT, Nat.reduceAdd, Nat.reduceEqDiff, true_and, Bool.false_eq_true, decide_false, hq]
        refine sw_callP (hU) rfl rfl rfl rfl ?_ ?_ ?_ (sw_run 200 _ _ _ ?_)
        · simp only [AS.kb, rmBs, mPs, mP, ePs, eP, bPs, bP, aA, aD, AS.kl, eq_self, AS.ev, AS.owf, kill, look, td0, td1, td2, td3, td4, td5, td6, Option.bind, Option.getD, List.map, List.foldr, List.append_nil, ↓reduceIte, Nat.reduceEqDiff, id_eq, and_self]
        · simp only [ePs, eP, eq_self, AS.ev, look, td0, td1, td2, td3, td4, td5, td6, Option.getD, List.map, List.nodup_nil, List.append_nil, ↓reduceIte, Nat.reduceEqDiff]
        · simp only [bPs, bP, eq_self, AS.ev, look, td0, td1, td2, td3, td4, td5, td6, Option.getD, List.map, List.nodup_nil, List.append_nil, ↓reduceIte, Nat.reduceEqDiff]
        simp only [mkC, aftS, aftV, AS.kb, rmBs, mkO, packRA, flatR, ePs, eP, bPs, bP, AS.kl, retA, List.headD_cons, qLp, eq_self, xRun, vE, vP, vBin, vBinT, isAg, isBo, isCutO, gN, isPick, isCall, AS.pt, AS.ev, AS.mk', kill, look, cav, td0, td1, td2, td3, td4, td5, td6, Option.getD, List.map, List.foldr, List.append_nil, ↓reduceIte, Nat.reduceLT, Nat.reduceAdd, Nat.reduceEqDiff, true_and, Bool.false_eq_true, qLp]
        refine ⟨by unfold inI; omega, k + 1, rnL [(2, 5)], by omega, by omega, ?_⟩
        simp only [Sub, subT, subB, subO, subP, inj, AV.ren, AV.rens, AV.lt, AV.lts, eq_self, AS.owf, look, td0, td1, td2, td3, td4, td5, td6, Option.bind, Option.getD, List.map, List.mem_cons, List.not_mem_nil, List.nodup_cons, List.nodup_nil, ↓reduceIte, Nat.reduceLT, Nat.reduceEqDiff, not_false_eq_true, or_false, id_eq, reduceCtorEq, and_self, rnL, cast1, hst]
    · have hi : ¬ (k : Int) < (t.args.length : Int) := by omega
      obtain rfl : k = t.args.length := by omega
      simp only [qLp, eq_self, xRun, vE, vP, vBin, vBinT, isAg, isBo, isCutO, isB, bv, gN, isPick, isCall, popTo, AS.pt, AS.ev, look, td0, td1, td2, td3, td4, td5, td6, Option.getD, Option.isSome, ↓reduceIte, Nat.reduceLT, Nat.reduceEqDiff, true_and, Bool.false_eq_true, decide_false, hi]
      refine sw_run 200 _ _ _ ?_
      simp only [fQP, xRetP, rRs, rOs, rC, eRs, eOs, eC, xRes, eq_self, xRun, vE, vP, isCutO, gN, isPick, isCall, AS.pt, AS.ev, AS.owf, look, td0, td1, td2, td3, td4, td5, td6, Option.bind, Option.getD, List.map, List.not_mem_nil, List.nodup_cons, List.nodup_nil, List.append_nil, ↓reduceIte, Nat.reduceLT, Nat.reduceEqDiff, not_false_eq_true, or_false, Bool.false_eq_true, id_eq, reduceCtorEq, and_self, hT, Try.results98]
end Go.Proofs.Ytgjcilainojlfaa
