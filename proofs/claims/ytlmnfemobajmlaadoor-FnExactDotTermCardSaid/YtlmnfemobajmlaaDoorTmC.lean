/-
  Copies of terms, of the reference and of the program.
-/
import Derived.Test.YtlmnfemobajmlaaDoorTyC
import Derived.Test.YtlmnfemobajmlaaDoorErD
namespace Go.Proofs.YtlmnfemobajmlaaDoor
open Go.RowKit
set_option linter.unusedVariables false
set_option linter.unusedSimpArgs false
set_option maxRecDepth 20000
theorem sz_parts {t : Tm} {B : Nat} (h : szL (tmC t) ≤ B) : szL (tyC t.ty) ≤ B ∧ szL (tyC t.res) ≤ B ∧ t.args.length + szL (tmsC t.args) ≤ B := by
  rw [szL_tm] at h; omega
theorem con_node (t : Tm) (n : Nat) (cs : List D) (h5 : szL (tyC t.ty) ≤ 1000000000) (h7 : szL (tyC t.res) ≤ 1000000000) : ConM Tryd.prog 98 [.b (.ag (tmC t)), .m (.rows 9 n cs)]
    [.ag [.int t.kind, .str t.name, .str t.other, .int t.n, .int t.ty.kind, tysD t.ty.args, .int t.res.kind, tysD t.res.args, .rows 9 n cs]] := by
  refine con_runM Tryd.func98 rfl rfl (by simp [Tryd.ntmps98]) ?_
  simp only [argA, s0M, numT, flatM, packM, mkR, List.headD_cons, tysD, tmsD, eq_self, xRun, vE, isCutO, gN, isPick, isCall, AS.pt, AS.ev, AS.box, AS.mk', kill, look, avB, AV.cells, AV.whole, AV.one, td0, td1, td2, td3, td4, td5, td6, Option.getD, Option.isSome, List.map, List.foldr, List.all, ↓reduceIte, Nat.reduceLT, Nat.reduceAdd, Nat.zero_add, true_and, Bool.and_true, Bool.false_eq_true, Tryd.ntmps98, tmC_eq, tmsD, tysD]
  refine sw_drawn (.cons 0 true (.cons 1 true (.cons 2 true (.cons 3 true (.cons 4 true (.cons 5 true (.cons 6 true (.cons 7 true (.cons 8 true (.cons 9 true (.cons 11 true (.cons 12 true (.cons 14 true (.cons 10 false (.cons 13 false (.cons 15 true (.cons 16 false (.nil)))))))))))))))))) (by kernel_rfl) fQ_panic (by kernel_rfl) (sw_run 200 _ _ _ ?_)
  simp only [eq_self, xRun, vP, vSub, vLoad, vFld, gN, isPick, isCall, AS.pt, AS.ev, look, td0, td1, td2, td3, td4, td5, td6, Option.getD, Option.isSome, List.take, List.drop, List.length, List.getElem?_cons_zero, List.getElem?_cons_succ, ↓reduceIte, Nat.reduceLT, Nat.reduceAdd, Nat.reduceLeDiff, Nat.reduceEqDiff, Nat.zero_add, Nat.add_zero, ne_eq, not_false_eq_true, true_and, Bool.false_eq_true, Nat.succ_ne_zero]
  refine sw_callD (con_own t.ty h5) rfl (aAs_ok ?_) ?_ (sw_run 200 _ _ _ ?_)
  · simp only [aAs, aA, aDs, aD, tysD, AS.ev, look, Option.getD, List.map, List.append_nil, ↓reduceIte, Nat.reduceEqDiff, eq_self, and_self, tyC_eq]
  · simp only [okR]
  simp only [mkR, flatD, packA, retA, tysD, eq_self, xRun, gN, isCall, AS.pt, AS.mk', kill, td0, td1, td2, td3, td4, td5, td6, Option.getD, Option.isSome, List.take, List.length, List.getElem?_cons_zero, List.getElem?_cons_succ, List.foldr, List.append_nil, ↓reduceIte, Nat.reduceLT, Nat.reduceAdd, Nat.zero_add, true_and, tyC_eq]
  refine sw_callD (con_own t.res h7) rfl (aAs_ok ?_) ?_ (sw_run 200 _ _ _ ?_)
  · simp only [aAs, aA, aDs, aD, tysD, AS.ev, look, Option.getD, List.map, List.append_nil, ↓reduceIte, Nat.reduceEqDiff, eq_self, and_self, tyC_eq]
  · simp only [okR]
  simp only [mkR, flatD, packA, retA, fQ, tysD, xRet, rPs, xRes, flatA, rD, rDs, eq_self, xRun, vE, vP, vBuild, vStore, xFill, gN, isPick, isCall, AS.pt, AS.ev, AS.setb, AS.mk', AS.owf, kill, look, setRowG, AV.cells, AV.whole, AV.one, eatsOf, td0, td1, td2, td3, td4, td5, td6, Option.bind, Option.getD, Option.isSome, List.map, List.take, List.length, List.getElem?_cons_zero, List.getElem?_cons_succ, List.set, List.foldr, List.all, List.mem_cons, List.not_mem_nil, List.nodup_cons, List.nodup_nil, List.append_nil, ↓reduceIte, Nat.reduceLT, Nat.reduceAdd, Nat.reduceLeDiff, Nat.reduceEqDiff, Nat.zero_add, not_false_eq_true, or_false, Bool.and_true, Bool.false_eq_true, id_eq, reduceCtorEq, and_self, Nat.succ_ne_zero, Nat.le_refl, tyC_eq, Tryd.results98]
theorem con_mapped (g : FuncId) (F : Tm → Tm) (t : Tm) (hz : szL (tmC t) ≤ 1000000000) (hF : ∀ a ∈ t.args, Con Tryd.prog g [.ag (tmC a)] [.ag (tmC (F a))]) :
    Con Tryd.prog 89 [.ag (tmC t), .fn g []] [.ag (tmC (mapT F t))] := by
  obtain ⟨h5, h7, h8⟩ := sz_parts hz
  rw [tmC_eq (mapT F t), mapT_kind, mapT_name, mapT_other, mapT_n, mapT_ty, mapT_res]
  have hma : (mapT F t).args = t.args.map F := rfl
  rw [hma]
  refine con_run Tryd.func89 rfl rfl (by simp [Tryd.ntmps89]) ?_
  simp only [argT, argA, argAs, tysD, tmsD, eq_self, xRun, vE, vP, vSub, vLoad, vFld, vLen, vRow, isCutO, xFill, gN, isPick, isCall, AS.pt, AS.ev, AS.box, AS.mk', AS.rd, kill, look, cav, avB, AV.cells, AV.whole, AV.one, cDs, eatsOf, td0, td1, td2, td3, td4, td5, td6, Option.getD, Option.isSome, List.map, List.getElem?_cons_zero, List.getElem?_cons_succ, List.foldr, List.all, List.replicate, List.nodup_nil, ↓reduceIte, Nat.reduceLT, Nat.reduceAdd, Nat.reduceEqDiff, Nat.zero_add, Nat.zero_mul, ne_eq, not_false_eq_true, true_and, or_true, Bool.and_true, Bool.false_eq_true, reduceCtorEq, and_self, Nat.succ_ne_zero, Nat.zero_le, Tryd.ntmps89, tmC_eq]
  refine sw_loop (fun k : Nat => k ≤ t.args.length) (fun k => ⟨26, [(12, .i k), (11, .i t.args.length), (10, .br (.rows 9 t.args.length (tmsC t.args))), (5, .sl 2), (1, .fn g []), (2, .bx 0 0), (4, .bx 1 0)], [(0, [.i t.kind, .s t.name, .s t.other, .i t.n, .i t.ty.kind, .br (.rows 2 t.ty.args.length (tysC t.ty.args)), .i t.res.kind, .br (.rows 2 t.res.args.length (tysC t.res.args)), .br (.rows 9 t.args.length (tmsC t.args))]), (1, [.i 0, .s ⟨#[]⟩, .s ⟨#[]⟩, .i 0, .i 0, .nl 2, .i 0, .nl 2, .nl 9])], [(2, some ⟨.rows 9 k (tmsC ((t.args.take k).map F)), some 28, true⟩)], 3, []⟩) (fun k => t.args.length - k) 0 id (Nat.zero_le _) ?_ ?_
  · simp only [Sub, subT, subB, subO, subP, inj, AV.ren, AV.rens, AV.lt, AV.lts, eq_self, AS.owf, look, td0, td1, td2, td3, td4, td5, td6, Option.bind, List.map, List.take, List.mem_cons, List.not_mem_nil, List.nodup_cons, List.nodup_nil, ↓reduceIte, Nat.reduceLT, Nat.reduceEqDiff, not_false_eq_true, or_false, id_eq, reduceCtorEq, Int.natCast_zero, and_self, Nat.succ_ne_zero, List.map_nil, tmsC, Int.natCast_zero]
  · rintro k hk
    refine sw_run 200 _ _ _ ?_
    by_cases hlt : k < t.args.length
    · have hi : (k : Int) < (t.args.length : Int) := by omega
      have hR := tmsC_row' t.args k hlt
      have hm := mem_bang hlt
      simp only [tysD, tmsD, rowD, eq_self, xRun, vE, vP, vSub, vLoad, vIdx, vBin, vBinT, isAg, isBo, vStore, isCutO, isB, bv, gN, isPick, isCall, AS.pt, AS.ev, AS.box, AS.setb, look, avB, setRowG, AV.cells, AV.whole, AV.one, td0, td1, td2, td3, td4, td5, td6, Option.getD, Option.isSome, List.map, List.take, List.drop, List.length, List.set, List.all, ↓reduceIte, Nat.reduceLT, Nat.reduceAdd, Nat.reduceEqDiff, Nat.zero_add, true_and, Bool.and_true, Bool.false_eq_true, Int.toNat_natCast, Int.natCast_nonneg, decide_true, and_self, Nat.le_refl, hi, hR, tmC_eq]
      refine sw_call (hF _ hm) rfl (aAs_ok ?_) ?_ (sw_run 200 _ _ _ ?_)
      · simp only [aAs, aA, aDs, aD, tysD, tmsD, AS.ev, look, Option.getD, List.map, List.append_nil, ↓reduceIte, eq_self, and_self, tmC_eq]
      · simp only [okR]
      simp only [mkR, flatD, packA, retA, qLp, tysD, tmsD, eq_self, xRun, vE, vP, vBin, vBinT, isAg, isBo, vRow, vApp, apP, apC, isCl, isCutO, xFill, appL, appR, gN, isPick, isCall, AS.pt, AS.ev, AS.mk', AS.owf, kill, look, cav, setRowG, AV.cells, AV.whole, AV.one, cD, cDs, eatsOf, dpOf, td0, td1, td2, td3, td4, td5, td6, Option.bind, Option.getD, Option.map, Option.isSome, List.map, List.take, List.length, List.set, List.foldr, List.all, List.replicate, List.mem_cons, List.not_mem_nil, List.nodup_cons, List.nodup_nil, List.nil_append, List.cons_append, List.append_nil, ↓reduceIte, Nat.reduceLT, Nat.reduceAdd, Nat.reduceLeDiff, Nat.reduceEqDiff, Nat.zero_add, Nat.zero_mul, Nat.one_mul, not_false_eq_true, true_and, or_false, or_true, Bool.and_true, Bool.false_eq_true, id_eq, and_self, Nat.succ_ne_zero, Nat.le_refl, tmC_eq, qLp]
      refine ⟨⟨fun o ho => by omega, by unfold maxLen; omega, by omega⟩, by unfold inI; omega, k + 1, rn1 2 8, by omega, by omega, ?_⟩
      simp only [Sub, subT, subB, subO, subP, inj, AV.ren, AV.rens, AV.lt, AV.lts, tysD, tmsD, eq_self, AS.owf, look, td0, td1, td2, td3, td4, td5, td6, Option.bind, List.map, List.mem_cons, List.not_mem_nil, List.nodup_cons, List.nodup_nil, ↓reduceIte, Nat.reduceLT, Nat.reduceEqDiff, not_false_eq_true, or_false, id_eq, reduceCtorEq, and_self, Nat.succ_ne_zero, rn1, cast1, tmsC_snocF F t.args k hlt, tmC_eq]
    · have hi : ¬ (k : Int) < (t.args.length : Int) := by omega
      obtain rfl : k = t.args.length := by omega
      simp only [qLp, eq_self, xRun, vE, vP, vBin, vBinT, isAg, isBo, isCutO, isB, bv, gN, isPick, isCall, popTo, AS.pt, AS.ev, look, td0, td1, td2, td3, td4, td5, td6, Option.getD, Option.isSome, ↓reduceIte, Nat.reduceLT, Nat.reduceEqDiff, true_and, Bool.false_eq_true, decide_false, hi]
      refine sw_run 200 _ _ _ ?_
      simp only [eq_self, xRun, vE, vP, vSub, vLoad, isCutO, gN, isPick, isCall, AS.pt, AS.ev, look, td0, td1, td2, td3, td4, td5, td6, Option.getD, List.take, List.drop, List.length, ↓reduceIte, Nat.reduceLT, Nat.reduceAdd, Nat.reduceEqDiff, Nat.zero_add, true_and, Bool.false_eq_true, Nat.le_refl]
      refine sw_callM (con_node t t.args.length (tmsC (t.args.map F)) h5 h7) rfl ?_ ?_ ?_ (sw_run 200 _ _ _ ?_)
      · simp only [aA, aDs, aD, mAs, mA, AS.kl, eatM, tysD, tmsD, rD, eq_self, AS.ev, AS.owf, kill, look, eatsOf, td0, td1, td2, td3, td4, td5, td6, Option.bind, Option.getD, List.map, List.foldr, List.append_nil, ↓reduceIte, Nat.reduceEqDiff, id_eq, and_self, tmC_eq, List.take_length]
      · simp only [eatM, tysD, tmsD, eq_self, AS.ev, look, eatsOf, td0, td1, td2, td3, td4, td5, td6, Option.getD, List.map, List.not_mem_nil, List.nodup_cons, List.nodup_nil, List.append_nil, ↓reduceIte, Nat.reduceEqDiff, not_false_eq_true, and_self, tmC_eq]
      · simp only [okR, td0, td1, td2, td3, td4, td5, td6]
      simp only [AS.kl, eatM, mkR, flatD, packA, retA, fQ, tysD, tmsD, xRet, rPs, xRes, flatA, rD, rDs, eq_self, xRun, vE, vStore, isCutO, gN, isPick, isCall, AS.pt, AS.ev, AS.setb, AS.mk', AS.owf, kill, look, setRowG, AV.cells, AV.whole, AV.one, eatsOf, td0, td1, td2, td3, td4, td5, td6, Option.bind, Option.getD, List.map, List.take, List.length, List.set, List.foldr, List.all, List.mem_cons, List.not_mem_nil, List.nodup_cons, List.nodup_nil, List.append_nil, ↓reduceIte, Nat.reduceLT, Nat.reduceAdd, Nat.reduceEqDiff, Nat.zero_add, not_false_eq_true, or_false, Bool.and_true, Bool.false_eq_true, id_eq, reduceCtorEq, and_self, Nat.succ_ne_zero, Nat.le_refl, tmC_eq, List.take_length, List.length_map, Tryd.results89]
theorem con_ownT : ∀ t : Tm, szL (tmC t) ≤ 1000000000 → Con Tryd.prog 71 [.ag (tmC t)] [.ag (tmC t)] := by
  refine Tm.ind fun t ih hz => ?_
  obtain ⟨h5, h7, h8⟩ := sz_parts hz
  have hid : mapT id t = t := by cases t; simp [mapT, Tm.kind, Tm.name, Tm.other, Tm.n, Tm.ty, Tm.res, Tm.args]
  have hc := con_mapped 71 id t hz fun a ha => ih a ha (by
    obtain ⟨j, hj, rfl⟩ := List.mem_iff_getElem.mp ha
    have := szL_tms' t.args j hj
    rw [getElem!_pos t.args j hj] at this
    omega)
  rw [hid] at hc
  refine con_run Tryd.func71 rfl rfl (by simp [Tryd.ntmps71]) ?_
  simp only [argT, argA, tysD, tmsD, eq_self, xRun, vE, vP, vSub, vLoad, isCutO, gN, isPick, isCall, AS.pt, AS.ev, AS.box, look, avB, AV.cells, AV.whole, AV.one, td0, td1, td2, td3, td4, td5, td6, Option.getD, Option.isSome, List.map, List.take, List.drop, List.length, List.all, ↓reduceIte, Nat.reduceLT, Nat.reduceAdd, Nat.reduceEqDiff, Nat.zero_add, true_and, Bool.and_true, Bool.false_eq_true, reduceCtorEq, Nat.le_refl, Tryd.ntmps71, tmC_eq]
  refine sw_call hc rfl (aAs_ok ?_) ?_ (sw_run 200 _ _ _ ?_)
  · simp only [aAs, aA, aDs, aD, tysD, tmsD, AS.ev, look, Option.getD, List.map, List.append_nil, ↓reduceIte, eq_self, and_self, tmC_eq]
  · simp only [okR]
  simp only [mkR, flatD, packA, retA, fQ, tysD, tmsD, xRet, rPs, xRes, flatA, rD, rDs, eq_self, xRun, vE, vStore, isCutO, gN, isPick, isCall, AS.pt, AS.ev, AS.setb, AS.mk', AS.owf, kill, look, setRowG, AV.cells, AV.whole, AV.one, eatsOf, td0, td1, td2, td3, td4, td5, td6, Option.bind, Option.getD, List.map, List.take, List.length, List.set, List.foldr, List.all, List.mem_cons, List.not_mem_nil, List.nodup_cons, List.nodup_nil, List.append_nil, ↓reduceIte, Nat.reduceLT, Nat.reduceAdd, Nat.reduceEqDiff, Nat.zero_add, not_false_eq_true, or_false, Bool.and_true, Bool.false_eq_true, id_eq, reduceCtorEq, and_self, Nat.le_refl, tmC_eq, Tryd.results71]
theorem con_l5Copy : ∀ t : Tm, szL (tmC t) ≤ 1000000000 → Con Tryd.prog 87 [.ag (tmC t)] [.ag (tmC t)] := by
  refine Tm.ind fun t ih hz => ?_
  obtain ⟨h5, h7, h8⟩ := sz_parts hz
  refine con_run Tryd.func87 rfl rfl (by simp [Tryd.ntmps87]) ?_
  simp only [argT, argA, tysD, tmsD, eq_self, xRun, vE, isCutO, gN, isPick, isCall, AS.pt, AS.ev, AS.box, look, avB, AV.cells, AV.whole, AV.one, td0, td1, td2, td3, td4, td5, td6, Option.getD, Option.isSome, List.map, List.all, ↓reduceIte, Nat.reduceLT, Nat.reduceAdd, Nat.zero_add, true_and, Bool.and_true, Bool.false_eq_true, Tryd.ntmps87, tmC_eq]
  refine sw_drawnK ⟨39, [(3, .bx 4 0), (1, .bx 0 0), (2, .bx 1 0)], [(0, [.i t.kind, .s t.name, .s t.other, .i t.n, .i t.ty.kind, .br (.rows 2 t.ty.args.length (tysC t.ty.args)), .i t.res.kind, .br (.rows 2 t.res.args.length (tysC t.res.args)), .br (.rows 9 t.args.length (tmsC t.args))]), (1, [.i 0, .s ⟨#[]⟩, .s ⟨#[]⟩, .i 0, .i 0, .nl 2, .i 0, .nl 2, .nl 9]),
      (4, [.i t.kind, .s t.name, .s t.other, .i t.n, .i t.ty.kind, .sl 2, .i t.res.kind, .sl 3, .nl 9])], [(2, some ⟨.rows 2 t.ty.args.length (tysC t.ty.args), none, true⟩), (3, some ⟨.rows 2 t.res.args.length (tysC t.res.args), none, true⟩)], 5, []⟩ (.cons 0 true (.cons 1 true (.cons 2 true (.cons 3 true (.cons 4 true (.cons 5 true (.cons 6 true (.cons 7 true (.cons 8 true (.cons 9 true (.cons 11 true (.cons 12 true (.fork (.alt 10 (.fork (.alt 13 (.cons 14 true (.cons 15 false (.cons 16 false (.nil)))) (.alt 15 (.cons 13 false (.cons 14 true (.cons 16 false (.nil)))) (.last)))) (.alt 15 (.cons 10 false (.cons 13 false (.cons 14 true (.cons 16 false (.nil))))) (.last)))))))))))))))) (by kernel_rfl) (by kernel_rfl) (sw_run 200 _ _ _ ?_) (sw_run 200 _ _ _ ?_)
  · simp only [eq_self, xRun, vE, vP, vSub, vLoad, vFld, gN, isPick, isCall, AS.pt, AS.ev, AS.box, look, td0, td1, td2, td3, td4, td5, td6, Option.getD, Option.isSome, List.take, List.drop, List.length, List.getElem?_cons_zero, List.getElem?_cons_succ, ↓reduceIte, Nat.reduceLT, Nat.reduceAdd, Nat.reduceLeDiff, Nat.reduceEqDiff, Nat.zero_add, Nat.add_zero, ne_eq, not_false_eq_true, true_and, and_true, Bool.false_eq_true, reduceCtorEq, Nat.succ_ne_zero]
    refine ⟨?_, ?_⟩
    · refine sw_callD (con_l3Copy t.ty h5) rfl (aAs_ok ?_) ?_ (sw_run 200 _ _ _ ?_)
      · simp only [aAs, aA, aDs, aD, tysD, AS.ev, look, Option.getD, List.map, List.append_nil, ↓reduceIte, Nat.reduceEqDiff, eq_self, and_self, tyC_eq]
      · simp only [okR]
      simp only [mkR, flatD, packA, retA, tysD, eq_self, xRun, vE, gN, isPick, isCall, AS.pt, AS.box, AS.mk', kill, td0, td1, td2, td3, td4, td5, td6, Option.getD, Option.isSome, List.take, List.length, List.getElem?_cons_zero, List.getElem?_cons_succ, List.foldr, List.append_nil, ↓reduceIte, Nat.reduceLT, Nat.reduceAdd, Nat.zero_add, true_and, and_true, Bool.false_eq_true, tyC_eq]
      refine ⟨?_, ?_⟩
      · refine sw_callD (con_l3Copy t.res h7) rfl (aAs_ok ?_) ?_ (sw_run 200 _ _ _ ?_)
        · simp only [aAs, aA, aDs, aD, tysD, AS.ev, look, Option.getD, List.map, List.append_nil, ↓reduceIte, Nat.reduceEqDiff, eq_self, and_self, tyC_eq]
        · simp only [okR]
        simp only [mkR, flatD, packA, retA, tysD, eq_self, xRun, vE, vP, vBuild, vStore, xFill, gN, isPick, isCall, AS.pt, AS.ev, AS.box, AS.setb, AS.mk', kill, look, setRowG, AV.cells, AV.whole, AV.one, td0, td1, td2, td3, td4, td5, td6, Option.getD, Option.isSome, List.map, List.take, List.length, List.getElem?_cons_zero, List.getElem?_cons_succ, List.set, List.foldr, List.all, List.append_nil, ↓reduceIte, Nat.reduceLT, Nat.reduceAdd, Nat.reduceLeDiff, Nat.reduceEqDiff, Nat.zero_add, true_and, Bool.and_true, Bool.false_eq_true, and_self, Nat.le_refl, tyC_eq, qK]
        refine ⟨id, ?_⟩
        simp only [Sub, subT, subB, subO, subP, inj, AV.ren, AV.rens, AV.lt, AV.lts, eq_self, AS.owf, look, td0, td1, td2, td3, td4, td5, td6, Option.bind, List.map, List.mem_cons, List.not_mem_nil, List.nodup_cons, List.nodup_nil, ↓reduceIte, Nat.reduceLT, Nat.reduceEqDiff, not_false_eq_true, or_false, id_eq, reduceCtorEq, and_self]
      · refine sw_callD (con_l3Copy t.res h7) rfl (aAs_ok ?_) ?_ (sw_run 200 _ _ _ ?_)
        · simp only [aAs, aA, aDs, aD, tysD, AS.ev, look, Option.getD, List.map, List.append_nil, ↓reduceIte, Nat.reduceEqDiff, eq_self, and_self, tyC_eq]
        · simp only [okR]
        simp only [mkR, flatD, packA, retA, tysD, eq_self, xRun, vE, vP, vBuild, vStore, xFill, gN, isPick, isCall, AS.pt, AS.ev, AS.setb, AS.mk', kill, look, setRowG, AV.cells, AV.whole, AV.one, td0, td1, td2, td3, td4, td5, td6, Option.getD, Option.isSome, List.map, List.take, List.length, List.getElem?_cons_zero, List.getElem?_cons_succ, List.set, List.foldr, List.all, List.append_nil, ↓reduceIte, Nat.reduceLT, Nat.reduceAdd, Nat.reduceLeDiff, Nat.reduceEqDiff, Nat.zero_add, true_and, Bool.and_true, Bool.false_eq_true, and_self, Nat.le_refl, tyC_eq, qK]
        refine ⟨rn2 3 4 4 3, ?_⟩
        simp only [Sub, subT, subB, subO, subP, inj, AV.ren, AV.rens, AV.lt, AV.lts, eq_self, AS.owf, look, td0, td1, td2, td3, td4, td5, td6, Option.bind, List.map, List.mem_cons, List.not_mem_nil, List.nodup_cons, List.nodup_nil, ↓reduceIte, Nat.reduceLT, Nat.reduceEqDiff, not_false_eq_true, or_false, id_eq, reduceCtorEq, and_self, rn2]
    · refine sw_callD (con_l3Copy t.ty h5) rfl (aAs_ok ?_) ?_ (sw_run 200 _ _ _ ?_)
      · simp only [aAs, aA, aDs, aD, tysD, AS.ev, look, Option.getD, List.map, List.append_nil, ↓reduceIte, Nat.reduceEqDiff, eq_self, and_self, tyC_eq]
      · simp only [okR]
      simp only [mkR, flatD, packA, retA, tysD, eq_self, xRun, gN, isCall, AS.pt, AS.mk', kill, td0, td1, td2, td3, td4, td5, td6, Option.getD, Option.isSome, List.take, List.length, List.getElem?_cons_zero, List.getElem?_cons_succ, List.foldr, List.append_nil, ↓reduceIte, Nat.reduceLT, Nat.reduceAdd, Nat.zero_add, true_and, tyC_eq]
      refine sw_callD (con_l3Copy t.res h7) rfl (aAs_ok ?_) ?_ (sw_run 200 _ _ _ ?_)
      · simp only [aAs, aA, aDs, aD, tysD, AS.ev, look, Option.getD, List.map, List.append_nil, ↓reduceIte, Nat.reduceEqDiff, eq_self, and_self, tyC_eq]
      · simp only [okR]
      simp only [mkR, flatD, packA, retA, tysD, eq_self, xRun, vE, vP, vBuild, vStore, xFill, gN, isPick, isCall, AS.pt, AS.ev, AS.setb, AS.mk', kill, look, setRowG, AV.cells, AV.whole, AV.one, td0, td1, td2, td3, td4, td5, td6, Option.getD, Option.isSome, List.map, List.take, List.length, List.getElem?_cons_zero, List.getElem?_cons_succ, List.set, List.foldr, List.all, List.append_nil, ↓reduceIte, Nat.reduceLT, Nat.reduceAdd, Nat.reduceLeDiff, Nat.reduceEqDiff, Nat.zero_add, true_and, Bool.and_true, Bool.false_eq_true, and_self, Nat.le_refl, tyC_eq, qK]
      refine ⟨rn3 2 3 3 4 4 2, ?_⟩
      simp only [Sub, subT, subB, subO, subP, inj, AV.ren, AV.rens, AV.lt, AV.lts, eq_self, AS.owf, look, td0, td1, td2, td3, td4, td5, td6, Option.bind, List.map, List.mem_cons, List.not_mem_nil, List.nodup_cons, List.nodup_nil, ↓reduceIte, Nat.reduceLT, Nat.reduceEqDiff, not_false_eq_true, or_false, id_eq, reduceCtorEq, and_self, rn3]
  simp only [eq_self, xRun, vE, vP, isCutO, gN, isPick, isCall, AS.pt, AS.ev, cav, td0, td1, td2, td3, td4, td5, td6, ↓reduceIte, Nat.reduceLT, true_and, Bool.false_eq_true]
  refine sw_ownB 4 8 28 rfl rfl ?_
  refine sw_loop (fun k : Nat => k ≤ t.args.length) (fun k => ⟨39, [(4, .i k), (1, .bx 0 0), (2, .bx 1 0), (3, .bx 4 0)], [(0, [.i t.kind, .s t.name, .s t.other, .i t.n, .i t.ty.kind, .br (.rows 2 t.ty.args.length (tysC t.ty.args)), .i t.res.kind, .br (.rows 2 t.res.args.length (tysC t.res.args)), .br (.rows 9 t.args.length (tmsC t.args))]), (1, [.i 0, .s ⟨#[]⟩, .s ⟨#[]⟩, .i 0, .i 0, .nl 2, .i 0, .nl 2, .nl 9]),
      (4, [.i t.kind, .s t.name, .s t.other, .i t.n, .i t.ty.kind, .sl 2, .i t.res.kind, .sl 3, .sl 5])], [(2, some ⟨.rows 2 t.ty.args.length (tysC t.ty.args), none, true⟩), (3, some ⟨.rows 2 t.res.args.length (tysC t.res.args), none, true⟩), (5, some ⟨.rows 9 k (tmsC (t.args.take k)), some 28, true⟩)], 6, []⟩) (fun k => t.args.length - k) 0 id (Nat.zero_le _) ?_ ?_
  · simp only [Sub, subT, subB, subO, subP, inj, AV.ren, AV.rens, AV.lt, AV.lts, eq_self, AS.setb, AS.mk', AS.owf, kill, look, td0, td1, td2, td3, td4, td5, td6, Option.bind, List.map, List.take, List.set, List.foldr, List.mem_cons, List.not_mem_nil, List.nodup_cons, List.nodup_nil, ↓reduceIte, Nat.reduceLT, Nat.reduceAdd, Nat.reduceEqDiff, not_false_eq_true, or_false, id_eq, reduceCtorEq, Int.natCast_zero, and_self, Nat.succ_ne_zero, tmsC, Int.natCast_zero]
  · rintro k hk
    refine sw_run 200 _ _ _ ?_
    by_cases hlt : k < t.args.length
    · have hi : (k : Int) < (t.args.length : Int) := by omega
      have hR := tmsC_row' t.args k hlt
      have hm := mem_bang hlt
      have hs := szL_tms' t.args k hlt
      simp only [eq_self, xRun, vE, vP, vSub, vLoad, vFld, vBin, vBinT, isAg, isBo, vLen, isCutO, isB, bv, gN, isPick, isCall, AS.pt, AS.ev, AS.rd, look, td0, td1, td2, td3, td4, td5, td6, Option.getD, Option.isSome, List.getElem?_cons_zero, List.getElem?_cons_succ, ↓reduceIte, Nat.reduceLT, Nat.reduceEqDiff, Nat.zero_add, ne_eq, not_false_eq_true, true_and, Bool.false_eq_true, decide_true, Nat.succ_ne_zero, hi]
      refine sw_drawn (.cons 0 true (.cons 1 true (.cons 2 true (.cons 3 true (.cons 4 true (.cons 5 true (.cons 6 true (.cons 7 false (.cons 8 false (.cons 9 false (.cons 10 true (.cons 11 false (.nil))))))))))))) (by kernel_rfl) qLp_panic (by kernel_rfl) (sw_run 200 _ _ _ ?_)
      simp only [tysD, tmsD, rowD, eq_self, xRun, vP, vSub, vLoad, vFld, vIdx, gN, isPick, isCall, AS.pt, AS.ev, look, avB, td0, td1, td2, td3, td4, td5, td6, Option.getD, Option.isSome, List.map, List.take, List.drop, List.length, List.getElem?_cons_zero, List.getElem?_cons_succ, ↓reduceIte, Nat.reduceLT, Nat.reduceAdd, Nat.reduceEqDiff, Nat.zero_add, ne_eq, not_false_eq_true, true_and, Bool.false_eq_true, Int.toNat_natCast, Int.natCast_nonneg, and_self, Nat.succ_ne_zero, Nat.le_refl, hi, hR, tmC_eq]
      refine sw_callD (ih _ hm (by omega)) rfl (aAs_ok ?_) ?_ (sw_run 200 _ _ _ ?_)
      · simp only [aAs, aA, aDs, aD, tysD, tmsD, AS.ev, look, Option.getD, List.map, List.append_nil, ↓reduceIte, eq_self, and_self, tmC_eq]
      · simp only [okR]
      simp only [mkR, flatD, packA, retA, qLp, tysD, tmsD, eq_self, xRun, vE, vP, vFld, vBin, vBinT, isAg, isBo, vRow, vStore, vApp, apP, apC, isCl, isCutO, xFill, appL, appR, gN, isPick, isCall, AS.pt, AS.ev, AS.setb, AS.mk', AS.owf, kill, look, cav, setRowG, AV.cells, AV.whole, AV.one, cD, cDs, eatsOf, dpOf, td0, td1, td2, td3, td4, td5, td6, Option.bind, Option.getD, Option.map, Option.isSome, List.map, List.take, List.length, List.getElem?_cons_zero, List.getElem?_cons_succ, List.set, List.foldr, List.all, List.replicate, List.mem_cons, List.not_mem_nil, List.nodup_cons, List.nodup_nil, List.nil_append, List.cons_append, List.append_nil, ↓reduceIte, Nat.reduceLT, Nat.reduceAdd, Nat.reduceLeDiff, Nat.reduceEqDiff, Nat.zero_add, Nat.zero_mul, Nat.one_mul, ne_eq, not_false_eq_true, true_and, or_false, or_true, Bool.and_true, Bool.false_eq_true, id_eq, and_self, Nat.succ_ne_zero, Nat.le_refl, tmC_eq, qLp]
      refine ⟨⟨fun o ho => by omega, by unfold maxLen; omega, by omega⟩, by unfold inI; omega, k + 1, rn1 5 10, by omega, by omega, ?_⟩
      simp only [Sub, subT, subB, subO, subP, inj, AV.ren, AV.rens, AV.lt, AV.lts, tysD, tmsD, eq_self, AS.owf, look, td0, td1, td2, td3, td4, td5, td6, Option.bind, List.map, List.mem_cons, List.not_mem_nil, List.nodup_cons, List.nodup_nil, ↓reduceIte, Nat.reduceLT, Nat.reduceEqDiff, not_false_eq_true, or_false, id_eq, reduceCtorEq, and_self, Nat.succ_ne_zero, rn1, cast1, tmsC_snoc' t.args k hlt, tmC_eq]
    · have hi : ¬ (k : Int) < (t.args.length : Int) := by omega
      obtain rfl : k = t.args.length := by omega
      simp only [qLp, eq_self, xRun, vE, vP, vSub, vLoad, vFld, vBin, vBinT, isAg, isBo, vLen, isCutO, isB, bv, gN, isPick, isCall, popTo, AS.pt, AS.ev, AS.rd, look, td0, td1, td2, td3, td4, td5, td6, Option.getD, Option.isSome, List.getElem?_cons_zero, List.getElem?_cons_succ, ↓reduceIte, Nat.reduceLT, Nat.reduceEqDiff, Nat.zero_add, ne_eq, not_false_eq_true, true_and, Bool.false_eq_true, decide_false, Nat.succ_ne_zero, hi]
      refine sw_run 200 _ _ _ ?_
      simp only [fQ, xRet, rPs, xRes, flatA, rD, rDs, eq_self, xRun, vE, vP, vSub, vLoad, vStore, isCutO, gN, isPick, isCall, AS.pt, AS.ev, AS.setb, AS.owf, look, setRowG, AV.cells, AV.whole, AV.one, eatsOf, td0, td1, td2, td3, td4, td5, td6, Option.bind, Option.getD, List.map, List.take, List.drop, List.length, List.set, List.all, List.mem_cons, List.not_mem_nil, List.nodup_cons, List.nodup_nil, List.append_nil, ↓reduceIte, Nat.reduceLT, Nat.reduceAdd, Nat.reduceEqDiff, Nat.zero_add, not_false_eq_true, or_false, Bool.and_true, Bool.false_eq_true, id_eq, reduceCtorEq, and_self, Nat.succ_ne_zero, Nat.le_refl, List.take_length, Tryd.results87]
end Go.Proofs.YtlmnfemobajmlaaDoor
