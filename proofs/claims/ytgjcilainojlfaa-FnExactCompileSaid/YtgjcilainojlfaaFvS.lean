/-
  Free names and closed terms: the reference's functions.
-/
import Derived.Test.YtgjcilainojlfaaFv
namespace Go.Proofs.Ytgjcilainojlfaa
open Go.RowKit
set_option linter.unusedVariables false
set_option linter.unusedSimpArgs false
set_option maxRecDepth 20000
theorem woL_snoc (ns : List ByteArray) (y : ByteArray) (xs : List ByteArray) : woL (ns ++ [y]) xs = woL [y] (woL ns xs) := by
  rw [woL, woL, woL, List.filter_filter]
  congr 1; funext z
  rw [← Bool.decide_and]
  congr 1
  rw [fi_out, fi_out, fi_out]; simp [and_comm]
theorem szL_bd (k : Int) (nm ot : ByteArray) (c : Nat) : (bdN k nm ot c).length ≤ 2 := by
  unfold bdN
  split <;> (try split) <;> (try split) <;> simp
theorem con_FreeS : ∀ t : Tm, szL (tmC t) ≤ 3000000 → Con Try.prog 90 [.ag (tmC t)] [.one (strsD (freeT t))] := by
  refine Tm.ind fun t ih hz => ?_
  obtain ⟨h5, h7, h8⟩ := sz_parts hz
  have hT := freeT_eq t
  have hB := con_bdS t (by omega)
  rw [frF] at hT
  by_cases h1 : t.kind = 1
  · rw [if_pos h1] at hT
    refine con_run Try.func90 rfl rfl (by simp [Try.ntmps90]) ?_
    simp only [argT, argA, fQ, tysD, tmsD, strsD, xRet, rPs, xRes, flatA, rD, eq_self, xRun, vE, vP, vSub, vLoad, vFld, vBin, vBinT, isAg, isBo, vRow, isCutO, xFill, isB, bv, gN, isPick, isCall, AS.pt, AS.ev, AS.box, AS.mk', AS.owf, kill, look, cav, avB, setRowG, AV.cells, AV.whole, AV.one, cD, cDs, eatsOf, dpOf, td0, td1, td2, td3, td4, td5, td6, Option.bind, Option.getD, Option.isSome, List.map, List.length, List.getElem?_cons_zero, List.getElem?_cons_succ, List.set, List.foldr, List.all, List.replicate, List.not_mem_nil, List.nodup_cons, List.nodup_nil, ↓reduceIte, Nat.reduceLT, Nat.reduceAdd, Nat.reduceLeDiff, Nat.reduceEqDiff, Nat.zero_add, Nat.add_zero, Nat.mul_one, ne_eq, not_false_eq_true, or_false, or_true, Bool.and_true, Bool.false_eq_true, id_eq, reduceCtorEq, decide_true, and_self, Nat.succ_ne_zero, Nat.le_refl, tmC_eq, strsD, hT, eq_true h1, List.length_cons, List.map_cons, Try.ntmps90, Try.results90]
  rw [if_neg h1, List.length_map] at hT
  have hnl := szL_bd t.kind t.name t.other t.args.length
  generalize hn : bdN t.kind t.name t.other t.args.length = ns at hT hB hnl
  generalize hp : bdP t.kind t.args.length = p at hT hB
  simp only [strsD] at hB
  refine con_run Try.func90 rfl rfl (by simp [Try.ntmps90]) ?_
  simp only [argT, argA, tysD, tmsD, strsD, eq_self, xRun, vE, vP, vSub, vLoad, vFld, vBin, vBinT, isAg, isBo, isCutO, isB, bv, gN, isPick, isCall, AS.pt, AS.ev, AS.box, look, cav, avB, AV.cells, AV.whole, AV.one, td0, td1, td2, td3, td4, td5, td6, Option.getD, Option.isSome, List.map, List.take, List.drop, List.length, List.getElem?_cons_zero, List.all, ↓reduceIte, Nat.reduceLT, Nat.reduceAdd, Nat.reduceEqDiff, Nat.zero_add, Nat.add_zero, ne_eq, not_false_eq_true, true_and, Bool.and_true, Bool.false_eq_true, decide_false, Nat.succ_ne_zero, Nat.le_refl, tmC_eq, strsD, h1, Try.ntmps90]
  refine sw_call (hB) rfl (aAs_ok ?_) ?_ (sw_run 200 _ _ _ ?_)
  · simp only [aAs, aA, aDs, aD, tysD, tmsD, AS.ev, look, Option.getD, List.map, List.append_nil, ↓reduceIte, eq_self, and_self, tmC_eq]
  · simp only [okR]
  simp only [mkR, flatD, packA, retA, List.headD_cons, List.tail_cons, eq_self, xRun, vE, vP, vExt, vRow, isCutO, xFill, gN, isPick, isCall, AS.pt, AS.ev, AS.mk', kill, look, cav, cDs, eatsOf, td0, td1, td2, td3, td4, td5, td6, Option.getD, Option.isSome, List.map, List.getElem?_cons_zero, List.getElem?_cons_succ, List.foldr, List.all, List.replicate, List.nodup_nil, ↓reduceIte, Nat.reduceLT, Nat.reduceAdd, Nat.reduceEqDiff, Nat.mul_one, true_and, or_true, Bool.false_eq_true, and_self, Nat.zero_le]
  refine sw_loop (fun k : Nat => k ≤ t.args.length) (fun k => ⟨55, [(6, .i k), (5, .sl 2), (4, .i p), (3, .sl 1), (1, .bx 0 0)], [(0, [.i t.kind, .s t.name, .s t.other, .i t.n, .i t.ty.kind, .br (.rows 2 t.ty.args.length (tysC t.ty.args)), .i t.res.kind, .br (.rows 2 t.res.args.length (tysC t.res.args)), .br (.rows 9 t.args.length (tmsC t.args))])], [(2, some ⟨.rows 1 (frU ns p (t.args.map freeT) k).length ((frU ns p (t.args.map freeT) k).map D.str), if k = 0 then some 9 else none, true⟩), (1, some ⟨.rows 1 ns.length (ns.map D.str), none, true⟩)], 3, []⟩) (fun k => t.args.length - k) 0 id (Nat.zero_le _) ?_ ?_
  · simp only [Sub, subT, subB, subO, subP, inj, AV.ren, AV.rens, AV.lt, AV.lts, eq_self, AS.owf, look, td0, td1, td2, td3, td4, td5, td6, Option.bind, List.map, List.mem_cons, List.not_mem_nil, List.nodup_cons, List.nodup_nil, ↓reduceIte, Nat.reduceLT, Nat.reduceEqDiff, not_false_eq_true, or_false, id_eq, Int.natCast_zero, and_self, Int.natCast_zero, frU, List.length_nil, List.map_nil]
  · rintro k hk
    refine sw_run 200 _ _ _ ?_
    by_cases hlt : k < t.args.length
    · have hi : (k : Int) < (t.args.length : Int) := by omega
      have hR := tmsC_row' t.args k hlt
      have hm := mem_bang hlt
      have hs := szL_tms' t.args k hlt
      have hrec := ih _ hm (by omega)
      have hfs := free_sz t.args[k]!
      have hfl : (freeT t.args[k]!).length ≤ sL (freeT t.args[k]!) := by rw [sL]; omega
      have hus := frU_sz ns p (t.args.map freeT) k (by rw [List.length_map]; omega)
      have hu2 := sum_take (t.args.map freeT) k
      have hu3 := free_szs t.args
      rw [freeTs_map] at hu3
      simp only [strsD] at hrec
      simp only [tysD, tmsD, rowD, eq_self, xRun, vE, vP, vSub, vLoad, vFld, vIdx, vBin, vBinT, isAg, isBo, vLen, isCutO, isB, bv, gN, isPick, isCall, AS.pt, AS.ev, AS.rd, look, avB, td0, td1, td2, td3, td4, td5, td6, Option.getD, Option.isSome, List.map, List.take, List.drop, List.length, List.getElem?_cons_zero, List.getElem?_cons_succ, ↓reduceIte, Nat.reduceLT, Nat.reduceAdd, Nat.reduceEqDiff, Nat.zero_add, ne_eq, not_false_eq_true, true_and, Bool.false_eq_true, Int.toNat_natCast, Int.natCast_nonneg, decide_true, and_self, Nat.succ_ne_zero, Nat.le_refl, hi, hR, tmC_eq]
      refine sw_call (hrec) rfl (aAs_ok ?_) ?_ (sw_run 200 _ _ _ ?_)
      · simp only [aAs, aA, aDs, aD, tysD, tmsD, AS.ev, look, Option.getD, List.map, List.append_nil, ↓reduceIte, eq_self, and_self, tmC_eq]
      · simp only [okR]
      simp only [mkR, flatD, packA, retA, List.headD_cons, eq_self, xRun, vE, vP, isCutO, gN, isPick, isCall, AS.pt, AS.ev, AS.mk', kill, look, cav, td0, td1, td2, td3, td4, td5, td6, Option.getD, List.foldr, ↓reduceIte, Nat.reduceLT, Nat.reduceAdd, true_and, Bool.false_eq_true]
      by_cases hq : (k : Int) = p
      · have hst : frU ns p (t.args.map freeT) (k + 1) = uniR (frU ns p (t.args.map freeT) k) (woL ns (freeT t.args[k]!)) := by rw [frU, if_pos hq, map_bang freeT hlt]
        refine sw_loop (fun i : Nat => i ≤ ns.length) (fun i => ⟨55, [(8, .i i), (7, .sl 3), (6, .i k), (5, .sl 2), (4, .i p), (3, .sl 1), (1, .bx 0 0)], [(0, [.i t.kind, .s t.name, .s t.other, .i t.n, .i t.ty.kind, .br (.rows 2 t.ty.args.length (tysC t.ty.args)), .i t.res.kind, .br (.rows 2 t.res.args.length (tysC t.res.args)), .br (.rows 9 t.args.length (tmsC t.args))])], [(3, some ⟨.rows 1 (woL (ns.take i) (freeT t.args[k]!)).length ((woL (ns.take i) (freeT t.args[k]!)).map D.str), none, true⟩), (2, some ⟨.rows 1 (frU ns p (t.args.map freeT) k).length ((frU ns p (t.args.map freeT) k).map D.str), if k = 0 then some 9 else none, true⟩), (1, some ⟨.rows 1 ns.length (ns.map D.str), none, true⟩)], 4, []⟩) (fun i => ns.length - i) 0 id (Nat.zero_le _) ?_ ?_
        · simp only [Sub, subT, subB, subO, subP, inj, AV.ren, AV.rens, AV.lt, AV.lts, eq_self, AS.owf, look, td0, td1, td2, td3, td4, td5, td6, Option.bind, List.map, List.take, List.mem_cons, List.not_mem_nil, List.nodup_cons, List.nodup_nil, ↓reduceIte, Nat.reduceLT, Nat.reduceEqDiff, not_false_eq_true, or_false, id_eq, Int.natCast_zero, and_self, Int.natCast_zero, woL_nil]
        · rintro i hi0
          refine sw_run 200 _ _ _ ?_
          have hwz := woL_sz (ns.take i) (freeT t.args[k]!)
          have hwl : (woL (ns.take i) (freeT t.args[k]!)).length ≤ sL (woL (ns.take i) (freeT t.args[k]!)) := by rw [sL]; omega
          by_cases hlt2 : i < ns.length
          · have hi2 : (i : Int) < (ns.length : Int) := by omega
            have hR2 := strs_row ns i hlt2
            have hW := con_WithoutS (woL (ns.take i) (freeT t.args[k]!)) ns[i]! (by omega)
            have hws : woL (ns.take (i + 1)) (freeT t.args[k]!) = woL [ns[i]!] (woL (ns.take i) (freeT t.args[k]!)) := by rw [take_snoc ns i hlt2, woL_snoc]
            simp only [strsD] at hW
            simp only [rowD, eq_self, xRun, vE, vP, vSub, vLoad, vIdx, vBin, vBinT, isAg, isBo, vLen, isCutO, isB, bv, gT, gW, gN, gV, isU, isPick, pkC, pkA, isCall, AS.pt, AS.kn, AS.ev, AS.owf, AS.rd, look, avO, avF, td0, td1, td2, td3, td4, td5, td6, Option.bind, Option.getD, Option.map, Option.isSome, List.map, List.getElem?_cons_zero, List.getElem?_cons_succ, ↓reduceIte, Nat.reduceLT, Nat.reduceEqDiff, true_and, Bool.false_eq_true, id_eq, Int.toNat_natCast, Int.natCast_nonneg, decide_true, and_self, hi2, hR2, eq_true hq]
            refine sw_call (hW) rfl (aAs_ok ?_) ?_ (sw_run 200 _ _ _ ?_)
            · simp only [aAs, aA, aD, AS.ev, AS.owf, look, Option.bind, Option.getD, id_eq, List.map, List.append_nil, ↓reduceIte, Nat.reduceEqDiff, eq_self, and_self]
            · simp only [okR]
            simp only [mkR, flatD, packA, retA, List.headD_cons, qLp, eq_self, xRun, vE, vP, vBin, vBinT, isAg, isBo, isCutO, gN, isPick, isCall, AS.pt, AS.ev, AS.mk', kill, look, cav, td0, td1, td2, td3, td4, td5, td6, Option.getD, List.foldr, ↓reduceIte, Nat.reduceLT, Nat.reduceAdd, Nat.reduceEqDiff, true_and, Bool.false_eq_true, qLp]
            refine ⟨by unfold inI; omega, i + 1, rnL [(3, 4)], by omega, by omega, ?_⟩
            simp only [Sub, subT, subB, subO, subP, inj, AV.ren, AV.rens, AV.lt, AV.lts, eq_self, AS.owf, look, td0, td1, td2, td3, td4, td5, td6, Option.bind, Option.getD, List.map, List.mem_cons, List.not_mem_nil, List.nodup_cons, List.nodup_nil, ↓reduceIte, Nat.reduceLT, Nat.reduceEqDiff, not_false_eq_true, or_false, id_eq, reduceCtorEq, and_self, rnL, cast1, hws]
          · have hi2 : ¬ (i : Int) < (ns.length : Int) := by omega
            obtain rfl : i = ns.length := by omega
            rw [List.take_length] at hwz hwl
            simp only [qLp, eq_self, xRun, vE, vP, vBin, vBinT, isAg, isBo, vLen, isCutO, isB, bv, gT, gW, gN, gV, isU, isPick, pkC, pkB, isCall, popTo, AS.pt, AS.kn, AS.ev, AS.owf, AS.rd, look, cav, td0, td1, td2, td3, td4, td5, td6, Option.bind, Option.getD, Option.map, Option.isSome, List.getElem?_cons_zero, List.getElem?_cons_succ, ↓reduceIte, Nat.reduceLT, Nat.reduceEqDiff, true_and, Bool.not_true, Bool.false_eq_true, id_eq, decide_false, and_self, hi2, List.take_length]
            have hU := con_UniteS (frU ns p (t.args.map freeT) k) (woL ns (freeT t.args[k]!)) (by omega) (by omega)
            simp only [strsD] at hU
            refine sw_run 200 _ _ _ ?_
            simp only [eq_self, xRun, vE, vP, isCutO, gN, isPick, isCall, AS.pt, AS.ev, look, td0, td1, td2, td3, td4, td5, td6, Option.getD, ↓reduceIte, Nat.reduceLT, Nat.reduceEqDiff, true_and, Bool.false_eq_true]
            refine sw_call (hU) rfl (aAs_ok ?_) ?_ (sw_run 200 _ _ _ ?_)
            · simp only [aAs, aA, aD, AS.ev, AS.owf, look, Option.bind, Option.getD, id_eq, List.map, List.append_nil, ↓reduceIte, Nat.reduceEqDiff, eq_self, and_self]
            · simp only [okR]
            simp only [mkR, flatD, packA, retA, List.headD_cons, qLp, eq_self, xRun, vE, vP, vBin, vBinT, isAg, isBo, isCutO, gN, isPick, isCall, AS.pt, AS.ev, AS.mk', kill, look, cav, td0, td1, td2, td3, td4, td5, td6, Option.getD, List.foldr, ↓reduceIte, Nat.reduceLT, Nat.reduceAdd, Nat.reduceEqDiff, true_and, Bool.false_eq_true, qLp]
            refine ⟨by unfold inI; omega, k + 1, rnL [(2, 4)], by omega, by omega, ?_⟩
            simp only [Sub, subT, subB, subO, subP, inj, AV.ren, AV.rens, AV.lt, AV.lts, eq_self, AS.owf, look, td0, td1, td2, td3, td4, td5, td6, Option.bind, Option.getD, List.map, List.mem_cons, List.not_mem_nil, List.nodup_cons, List.nodup_nil, ↓reduceIte, Nat.reduceLT, Nat.reduceEqDiff, not_false_eq_true, or_false, id_eq, reduceCtorEq, and_self, Nat.succ_ne_zero, rnL, cast1, hst, Nat.succ_ne_zero]
      · have hst : frU ns p (t.args.map freeT) (k + 1) = uniR (frU ns p (t.args.map freeT) k) (freeT t.args[k]!) := by rw [frU, if_neg hq, map_bang freeT hlt]
        refine sw_loop (fun i : Nat => i = 0) (fun i => ⟨55, [(8, .i i), (7, .sl 3), (6, .i k), (5, .sl 2), (4, .i p), (3, .sl 1), (1, .bx 0 0)], [(0, [.i t.kind, .s t.name, .s t.other, .i t.n, .i t.ty.kind, .br (.rows 2 t.ty.args.length (tysC t.ty.args)), .i t.res.kind, .br (.rows 2 t.res.args.length (tysC t.res.args)), .br (.rows 9 t.args.length (tmsC t.args))])], [(3, some ⟨.rows 1 (freeT t.args[k]!).length ((freeT t.args[k]!).map D.str), none, true⟩), (2, some ⟨.rows 1 (frU ns p (t.args.map freeT) k).length ((frU ns p (t.args.map freeT) k).map D.str), if k = 0 then some 9 else none, true⟩), (1, some ⟨.rows 1 ns.length (ns.map D.str), none, true⟩)], 4, []⟩) (fun i => 0) 0 id rfl ?_ ?_
        · simp only [Sub, subT, subB, subO, subP, inj, AV.ren, AV.rens, AV.lt, AV.lts, eq_self, AS.owf, look, td0, td1, td2, td3, td4, td5, td6, Option.bind, List.map, List.mem_cons, List.not_mem_nil, List.nodup_cons, List.nodup_nil, ↓reduceIte, Nat.reduceLT, Nat.reduceEqDiff, not_false_eq_true, or_false, id_eq, Int.natCast_zero, and_self, Int.natCast_zero]
        · rintro i rfl
          refine sw_run 200 _ _ _ ?_
          by_cases hlt2 : 0 < ns.length
          · have hi2 : (0 : Int) < (ns.length : Int) := by omega
            simp only [qLp, eq_self, xRun, vE, vP, vBin, vBinT, isAg, isBo, vLen, isCutO, isB, bv, gT, gW, gN, gV, isU, isPick, pkC, pkA, isCall, popTo, AS.pt, AS.kn, AS.ev, AS.owf, AS.rd, look, td0, td1, td2, td3, td4, td5, td6, Option.bind, Option.getD, Option.map, Option.isSome, List.getElem?_cons_zero, List.getElem?_cons_succ, ↓reduceIte, Nat.reduceLT, Nat.reduceEqDiff, true_and, Bool.false_eq_true, id_eq, Int.natCast_zero, decide_true, decide_false, and_self, hi2, hq]
            have hU := con_UniteS (frU ns p (t.args.map freeT) k) (freeT t.args[k]!) (by omega) (by omega)
            simp only [strsD] at hU
            refine sw_run 200 _ _ _ ?_
            simp only [eq_self, xRun, vE, vP, isCutO, gN, isPick, isCall, AS.pt, AS.ev, look, td0, td1, td2, td3, td4, td5, td6, Option.getD, ↓reduceIte, Nat.reduceLT, Nat.reduceEqDiff, true_and, Bool.false_eq_true]
            refine sw_call (hU) rfl (aAs_ok ?_) ?_ (sw_run 200 _ _ _ ?_)
            · simp only [aAs, aA, aD, AS.ev, AS.owf, look, Option.bind, Option.getD, id_eq, List.map, List.append_nil, ↓reduceIte, Nat.reduceEqDiff, eq_self, and_self]
            · simp only [okR]
            simp only [mkR, flatD, packA, retA, List.headD_cons, qLp, eq_self, xRun, vE, vP, vBin, vBinT, isAg, isBo, isCutO, gN, isPick, isCall, AS.pt, AS.ev, AS.mk', kill, look, cav, td0, td1, td2, td3, td4, td5, td6, Option.getD, List.foldr, ↓reduceIte, Nat.reduceLT, Nat.reduceAdd, Nat.reduceEqDiff, true_and, Bool.false_eq_true, qLp]
            refine ⟨by unfold inI; omega, k + 1, rnL [(2, 4)], by omega, by omega, ?_⟩
            simp only [Sub, subT, subB, subO, subP, inj, AV.ren, AV.rens, AV.lt, AV.lts, eq_self, AS.owf, look, td0, td1, td2, td3, td4, td5, td6, Option.bind, Option.getD, List.map, List.mem_cons, List.not_mem_nil, List.nodup_cons, List.nodup_nil, ↓reduceIte, Nat.reduceLT, Nat.reduceEqDiff, not_false_eq_true, or_false, id_eq, reduceCtorEq, and_self, Nat.succ_ne_zero, rnL, cast1, hst, Nat.succ_ne_zero]
          · have hi2 : ¬ (0 : Int) < (ns.length : Int) := by omega
            simp only [qLp, eq_self, xRun, vE, vP, vBin, vBinT, isAg, isBo, vLen, isCutO, isB, bv, gT, gW, gN, gV, isU, isPick, pkC, pkB, isCall, popTo, AS.pt, AS.kn, AS.ev, AS.owf, AS.rd, look, cav, td0, td1, td2, td3, td4, td5, td6, Option.bind, Option.getD, Option.map, Option.isSome, List.getElem?_cons_zero, List.getElem?_cons_succ, ↓reduceIte, Nat.reduceLT, Nat.reduceEqDiff, true_and, Bool.not_true, Bool.false_eq_true, id_eq, Int.natCast_zero, decide_false, and_self, hi2]
            have hU := con_UniteS (frU ns p (t.args.map freeT) k) (freeT t.args[k]!) (by omega) (by omega)
            simp only [strsD] at hU
            refine sw_run 200 _ _ _ ?_
            simp only [eq_self, xRun, vE, vP, isCutO, gN, isPick, isCall, AS.pt, AS.ev, look, td0, td1, td2, td3, td4, td5, td6, Option.getD, ↓reduceIte, Nat.reduceLT, Nat.reduceEqDiff, true_and, Bool.false_eq_true]
            refine sw_call (hU) rfl (aAs_ok ?_) ?_ (sw_run 200 _ _ _ ?_)
            · simp only [aAs, aA, aD, AS.ev, AS.owf, look, Option.bind, Option.getD, id_eq, List.map, List.append_nil, ↓reduceIte, Nat.reduceEqDiff, eq_self, and_self]
            · simp only [okR]
            simp only [mkR, flatD, packA, retA, List.headD_cons, qLp, eq_self, xRun, vE, vP, vBin, vBinT, isAg, isBo, isCutO, gN, isPick, isCall, AS.pt, AS.ev, AS.mk', kill, look, cav, td0, td1, td2, td3, td4, td5, td6, Option.getD, List.foldr, ↓reduceIte, Nat.reduceLT, Nat.reduceAdd, Nat.reduceEqDiff, true_and, Bool.false_eq_true, qLp]
            refine ⟨by unfold inI; omega, k + 1, rnL [(2, 4)], by omega, by omega, ?_⟩
            simp only [Sub, subT, subB, subO, subP, inj, AV.ren, AV.rens, AV.lt, AV.lts, eq_self, AS.owf, look, td0, td1, td2, td3, td4, td5, td6, Option.bind, Option.getD, List.map, List.mem_cons, List.not_mem_nil, List.nodup_cons, List.nodup_nil, ↓reduceIte, Nat.reduceLT, Nat.reduceEqDiff, not_false_eq_true, or_false, id_eq, reduceCtorEq, and_self, Nat.succ_ne_zero, rnL, cast1, hst, Nat.succ_ne_zero]
    · have hi : ¬ (k : Int) < (t.args.length : Int) := by omega
      obtain rfl : k = t.args.length := by omega
      simp only [qLp, eq_self, xRun, vE, vP, vSub, vLoad, vFld, vBin, vBinT, isAg, isBo, vLen, isCutO, isB, bv, gN, isPick, isCall, popTo, AS.pt, AS.ev, AS.rd, look, td0, td1, td2, td3, td4, td5, td6, Option.getD, Option.isSome, List.getElem?_cons_zero, List.getElem?_cons_succ, ↓reduceIte, Nat.reduceLT, Nat.reduceEqDiff, Nat.zero_add, ne_eq, not_false_eq_true, true_and, Bool.false_eq_true, decide_false, Nat.succ_ne_zero, hi]
      refine sw_run 200 _ _ _ ?_
      simp only [fQ, xRet, rPs, xRes, flatA, rD, eq_self, xRun, vE, vP, isCutO, gN, isPick, isCall, AS.pt, AS.ev, AS.owf, look, eatsOf, td0, td1, td2, td3, td4, td5, td6, Option.bind, Option.getD, List.map, List.not_mem_nil, List.nodup_cons, List.nodup_nil, ↓reduceIte, Nat.reduceLT, Nat.reduceEqDiff, not_false_eq_true, or_false, Bool.false_eq_true, id_eq, reduceCtorEq, and_self, hT, Try.results90]
theorem con_ClosedS (t : Tm) (hz : szL (tmC t) ≤ 3000000) : Con Try.prog 49 [.ag (tmC t)] [.one (.bool (decide (((freeT t).length : Int) = 0)))] := by
  have hc := con_FreeS t hz
  simp only [strsD] at hc
  refine con_run Try.func49 rfl rfl (by simp [Try.ntmps49]) ?_
  simp only [argT, argA, tysD, tmsD, eq_self, xRun, vE, vP, vSub, vLoad, isCutO, gN, isPick, isCall, AS.pt, AS.ev, AS.box, look, cav, avB, AV.cells, AV.whole, AV.one, td0, td1, td2, td3, td4, td5, td6, Option.getD, List.map, List.take, List.drop, List.length, List.all, ↓reduceIte, Nat.reduceLT, Nat.reduceAdd, Nat.reduceEqDiff, Nat.zero_add, true_and, Bool.and_true, Bool.false_eq_true, Nat.le_refl, tmC_eq, Try.ntmps49]
  refine sw_call (hc) rfl (aAs_ok ?_) ?_ (sw_run 200 _ _ _ ?_)
  · simp only [aAs, aA, aDs, aD, tysD, tmsD, AS.ev, look, Option.getD, List.map, List.append_nil, ↓reduceIte, eq_self, and_self, tmC_eq]
  · simp only [okR]
  simp only [mkR, flatD, packA, retA, List.headD_cons, fQ, xRet, rPs, xRes, flatA, rD, eq_self, xRun, vE, vP, vBin, vBinT, isAg, isBo, vLen, isCutO, gN, isPick, isCall, AS.pt, AS.ev, AS.mk', AS.owf, AS.rd, kill, look, cav, eatsOf, td0, td1, td2, td3, td4, td5, td6, Option.bind, Option.getD, Option.map, List.map, List.foldr, List.nodup_nil, ↓reduceIte, Nat.reduceLT, Nat.reduceAdd, or_false, Bool.false_eq_true, id_eq, reduceCtorEq, and_self, Try.results49]
end Go.Proofs.Ytgjcilainojlfaa
