/-
  CodeText of both sides.
-/
import Derived.Test.YtfbjdeeomjfhkaaGreatDoorITx
import Derived.Test.YtfbjdeeomjfhkaaGreatDoorDrw
import Derived.Test.YtfbjdeeomjfhkaaGreatDoorPco
namespace Go.Proofs.YtfbjdeeomjfhkaaGreatDoor
open Go.RowKit
set_option linter.unusedVariables false
set_option linter.unusedSimpArgs false
set_option maxRecDepth 20000
def iwL (xs : List Ins) (k : Nat) : List ByteArray := (xs.take k).map itB
theorem iwL_len (xs : List Ins) (k : Nat) (h : k ≤ xs.length) : (iwL xs k).length = k := by rw [iwL, List.length_map, List.length_take]; omega
theorem iwL_snoc (xs : List Ins) (k : Nat) (h : k < xs.length) : (iwL xs (k + 1)).map D.str = (iwL xs k).map D.str ++ [.str (itB xs[k]!)] := by
  rw [iwL, take_snoc xs k h, List.map_append, List.map_append]; rfl
theorem iwL_jn (xs : List Ins) (hn : xs.length ≤ 1048576) (k : Nat) (hk : k ≤ xs.length) : (jn (iwL xs xs.length) ⟨#[59]⟩ k).length ≤ 1000000000 := by
  have hl := iwL_len xs xs.length (Nat.le_refl _)
  have h := jn_len (iwL xs xs.length) ⟨#[59]⟩ 40 (fun i hi => by
    rw [getElem!_pos _ i hi]
    simp only [iwL, List.getElem_map]
    exact itB_len _) k (by omega)
  have h1 : (⟨#[59]⟩ : ByteArray).data.toList.length = 1 := rfl
  rw [h1] at h
  omega
def ctB (xs : List Ins) : ByteArray := joinB (iwL xs xs.length) ⟨#[59]⟩
theorem con_CtI (xs : List Ins) (hn : xs.length ≤ 1048576) : Con Tryz.prog 19 [.one (inssD xs)] [.one (.str (ctB xs))] := by
  have hl := iwL_len xs xs.length (Nat.le_refl _)
  unfold ctB
  refine con_run Tryz.func19 rfl rfl (by simp [Tryz.ntmps19]) ?_
  simp only [argT, argA, eq_self, xRun, vE, vP, vLen, vRow, isCutO, xFill, gN, isPick, isCall, AS.pt, AS.ev, AS.mk', AS.rd, kill, look, cav, avB, cDs, eatsOf, td0, td1, td2, td3, td4, td5, td6, Option.getD, Option.isSome, List.map, List.foldr, List.all, List.replicate, List.nodup_nil, ↓reduceIte, Nat.reduceLT, Nat.zero_add, Nat.mul_one, true_and, or_true, Bool.false_eq_true, reduceCtorEq, and_self, Nat.zero_le, Tryz.ntmps19, inssD]
  refine sw_loop (fun k : Nat => k ≤ xs.length) (fun k => ⟨21, [(9, .i k), (8, .i xs.length), (7, .br (.rows 2 xs.length (flC insC xs))), (3, .sl 0)], [], [(0, some ⟨.rows 1 k ((iwL xs k).map D.str), some 9, true⟩)], 1, []⟩) (fun k => xs.length - k) 0 id (Nat.zero_le _) ?_ ?_
  · simp only [Sub, subT, subB, subO, subP, inj, AV.ren, AV.lt, eq_self, AS.owf, look, td0, td1, td2, td3, td4, td5, td6, Option.bind, List.map, List.take, List.not_mem_nil, List.nodup_cons, List.nodup_nil, ↓reduceIte, Nat.reduceLT, Nat.reduceEqDiff, not_false_eq_true, id_eq, Int.natCast_zero, and_self, iwL, List.map_nil, Int.natCast_zero]
  · rintro k hk
    refine sw_run 200 _ _ _ ?_
    by_cases hlt : k < xs.length
    · have hi : (k : Int) < (xs.length : Int) := by omega
      have hR := flC_row insC_len xs k hlt
      have hs := iwL_snoc xs k hlt
      have hc := con_ItI xs[k]!
      simp only [insC] at hR hc
      simp only [rowD, eq_self, xRun, vE, vP, vSub, vLoad, vIdx, vBin, vBinT, isAg, isBo, vStore, isCutO, isB, bv, gN, isPick, isCall, AS.pt, AS.ev, AS.box, AS.setb, look, avB, setRowG, AV.cells, AV.whole, AV.one, td0, td1, td2, td3, td4, td5, td6, Option.getD, Option.isSome, List.map, List.take, List.drop, List.length, List.set, List.all, ↓reduceIte, Nat.reduceLT, Nat.reduceAdd, Nat.reduceEqDiff, Nat.zero_add, true_and, Bool.and_true, Bool.false_eq_true, Int.toNat_natCast, Int.natCast_nonneg, decide_true, and_self, Nat.le_refl, hi, hR]
      refine sw_call (hc) rfl (aAs_ok ?_) ?_ (sw_run 200 _ _ _ ?_)
      · simp only [aAs, aA, aDs, aD, AS.ev, look, Option.getD, List.map, List.append_nil, ↓reduceIte, eq_self, and_self]
      · simp only [okR]
      simp only [mkR, flatD, packA, retA, List.headD_cons, qLp, eq_self, xRun, vE, vP, vBin, vBinT, isAg, isBo, vRow, vApp, apP, apC, isCl, isCutO, xFill, appL, appR, gN, isPick, isCall, AS.pt, AS.ev, AS.mk', AS.owf, kill, look, cav, setRowG, AV.cells, AV.whole, AV.one, cD, cDs, eatsOf, dpOf, td0, td1, td2, td3, td4, td5, td6, Option.bind, Option.getD, Option.isSome, List.map, List.length, List.set, List.foldr, List.all, List.replicate, List.mem_cons, List.not_mem_nil, List.nodup_nil, List.nil_append, List.cons_append, ↓reduceIte, Nat.reduceLT, Nat.reduceAdd, Nat.reduceLeDiff, Nat.reduceEqDiff, Nat.zero_add, Nat.mul_one, true_and, or_false, or_true, Bool.and_true, Bool.false_eq_true, id_eq, reduceCtorEq, and_self, Nat.succ_ne_zero, Nat.le_refl]
      refine ⟨⟨fun h => h.elim, fun o ho => by omega, by unfold maxLen; omega, by omega⟩, by unfold inI; omega, k + 1, rn1 0 3, by omega, by omega, ?_⟩
      simp only [Sub, subT, subB, subO, subP, inj, AV.ren, AV.lt, eq_self, AS.owf, look, td0, td1, td2, td3, td4, td5, td6, Option.bind, List.map, List.not_mem_nil, List.nodup_cons, List.nodup_nil, ↓reduceIte, Nat.reduceLT, Nat.reduceEqDiff, not_false_eq_true, id_eq, and_self, rn1, hs, Int.natCast_add, Int.natCast_one]
    · obtain rfl : k = xs.length := by omega
      have hi : ¬ ((xs.length : Nat) : Int) < ((xs.length : Nat) : Int) := by omega
      have hJ := con_JoinI (iwL xs xs.length) ⟨#[59]⟩ (by omega) (iwL_jn xs hn _ (by rw [iwL_len xs _ (Nat.le_refl _)]; exact Nat.le_refl _))
      simp only [qLp, eq_self, xRun, vE, vP, vBin, vBinT, isAg, isBo, isCutO, isB, bv, gN, isPick, isCall, popTo, AS.pt, AS.ev, look, td0, td1, td2, td3, td4, td5, td6, Option.getD, Option.isSome, ↓reduceIte, Nat.reduceLT, Nat.reduceEqDiff, true_and, Bool.false_eq_true, decide_false, hi]
      refine sw_run 200 _ _ _ ?_
      simp only [eq_self, xRun, vE, vP, isCutO, gN, isPick, isCall, AS.pt, AS.ev, look, td0, td1, td2, td3, td4, td5, td6, Option.getD, ↓reduceIte, Nat.reduceLT, Nat.reduceEqDiff, true_and, Bool.false_eq_true]
      refine sw_call (hJ) rfl (aAs_ok ?_) ?_ (sw_run 200 _ _ _ ?_)
      · simp only [aAs, aA, aD, strsD, AS.ev, AS.owf, look, cav, Option.bind, Option.getD, id_eq, List.map, List.append_nil, ↓reduceIte, eq_self, and_self, strsD, hl]
      · simp only [okR]
      simp only [mkR, flatD, packA, retA, List.headD_cons, fQ, xRet, rPs, xRes, flatA, rD, eq_self, xRun, vE, vP, isCutO, gN, isPick, isCall, AS.pt, AS.ev, look, eatsOf, td0, td1, td2, td3, td4, td5, td6, Option.getD, List.map, List.nodup_nil, ↓reduceIte, Nat.reduceLT, or_false, Bool.false_eq_true, reduceCtorEq, and_self, Tryz.results19]
theorem con_CtS (xs : List Ins) (hn : xs.length ≤ 1048576) : Con Tryz.prog 20 [.one (inssD xs)] [.one (.str (ctB xs))] := by
  have hl := iwL_len xs xs.length (Nat.le_refl _)
  unfold ctB
  refine con_run Tryz.func20 rfl rfl (by simp [Tryz.ntmps20]) ?_
  simp only [argT, argA, eq_self, xRun, vE, vP, vRow, isCutO, xFill, gN, isPick, isCall, AS.pt, AS.ev, AS.mk', kill, look, cav, avB, cDs, eatsOf, td0, td1, td2, td3, td4, td5, td6, Option.getD, Option.isSome, List.map, List.foldr, List.all, List.replicate, List.nodup_nil, ↓reduceIte, Nat.reduceLT, Nat.zero_add, Nat.mul_one, true_and, or_true, Bool.false_eq_true, and_self, Nat.zero_le, Tryz.ntmps20, inssD]
  refine sw_loop (fun k : Nat => k ≤ xs.length) (fun k => ⟨22, [(4, .i k), (0, .br (.rows 2 xs.length (flC insC xs))), (3, .sl 0)], [], [(0, some ⟨.rows 1 k ((iwL xs k).map D.str), some 9, true⟩)], 1, []⟩) (fun k => xs.length - k) 0 id (Nat.zero_le _) ?_ ?_
  · simp only [Sub, subT, subB, subO, subP, inj, AV.ren, AV.lt, eq_self, AS.owf, look, td0, td1, td2, td3, td4, td5, td6, Option.bind, List.map, List.take, List.not_mem_nil, List.nodup_cons, List.nodup_nil, ↓reduceIte, Nat.reduceLT, Nat.reduceEqDiff, not_false_eq_true, id_eq, reduceCtorEq, Int.natCast_zero, and_self, iwL, List.map_nil, Int.natCast_zero]
  · rintro k hk
    refine sw_run 200 _ _ _ ?_
    by_cases hlt : k < xs.length
    · have hi : (k : Int) < (xs.length : Int) := by omega
      have hR := flC_row insC_len xs k hlt
      have hs := iwL_snoc xs k hlt
      have hc := con_ItS xs[k]!
      simp only [insC] at hR hc
      simp only [rowD, eq_self, xRun, vE, vP, vSub, vLoad, vIdx, vBin, vBinT, isAg, isBo, vLen, isCutO, isB, bv, gN, isPick, isCall, AS.pt, AS.ev, AS.rd, look, avB, td0, td1, td2, td3, td4, td5, td6, Option.getD, List.map, List.take, List.drop, List.length, ↓reduceIte, Nat.reduceLT, Nat.reduceAdd, Nat.reduceEqDiff, Nat.zero_add, true_and, Bool.false_eq_true, reduceCtorEq, Int.toNat_natCast, Int.natCast_nonneg, decide_true, and_self, Nat.succ_ne_zero, Nat.le_refl, hi, hR]
      refine sw_call (hc) rfl (aAs_ok ?_) ?_ (sw_run 200 _ _ _ ?_)
      · simp only [aAs, aA, aDs, aD, AS.ev, look, Option.getD, List.map, List.append_nil, ↓reduceIte, eq_self, and_self]
      · simp only [okR]
      simp only [mkR, flatD, packA, retA, List.headD_cons, qLp, eq_self, xRun, vE, vP, vBin, vBinT, isAg, isBo, vRow, vApp, apP, apC, isCl, isCutO, xFill, appL, appR, gN, isPick, isCall, AS.pt, AS.ev, AS.mk', AS.owf, kill, look, cav, setRowG, AV.cells, AV.whole, AV.one, cD, cDs, eatsOf, dpOf, td0, td1, td2, td3, td4, td5, td6, Option.bind, Option.getD, Option.isSome, List.map, List.length, List.set, List.foldr, List.all, List.replicate, List.mem_cons, List.not_mem_nil, List.nodup_nil, List.nil_append, List.cons_append, ↓reduceIte, Nat.reduceLT, Nat.reduceAdd, Nat.reduceLeDiff, Nat.reduceEqDiff, Nat.zero_add, Nat.mul_one, true_and, or_false, or_true, Bool.and_true, Bool.false_eq_true, id_eq, reduceCtorEq, and_self, Nat.succ_ne_zero, Nat.le_refl]
      refine ⟨⟨fun h => h.elim, fun o ho => by omega, by unfold maxLen; omega, by omega⟩, by unfold inI; omega, k + 1, rn1 0 2, by omega, by omega, ?_⟩
      simp only [Sub, subT, subB, subO, subP, inj, AV.ren, AV.lt, eq_self, AS.owf, look, td0, td1, td2, td3, td4, td5, td6, Option.bind, List.map, List.not_mem_nil, List.nodup_cons, List.nodup_nil, ↓reduceIte, Nat.reduceLT, Nat.reduceEqDiff, not_false_eq_true, id_eq, reduceCtorEq, and_self, rn1, hs, Int.natCast_add, Int.natCast_one]
    · obtain rfl : k = xs.length := by omega
      have hi : ¬ ((xs.length : Nat) : Int) < ((xs.length : Nat) : Int) := by omega
      have hJ := con_JoinS (iwL xs xs.length) ⟨#[59]⟩ (by omega) (fun k hk => iwL_jn xs hn k (by omega))
      simp only [qLp, eq_self, xRun, vE, vP, vBin, vBinT, isAg, isBo, vLen, isCutO, isB, bv, gN, isPick, isCall, popTo, AS.pt, AS.ev, AS.rd, look, td0, td1, td2, td3, td4, td5, td6, Option.getD, Option.isSome, ↓reduceIte, Nat.reduceLT, Nat.reduceEqDiff, true_and, Bool.false_eq_true, reduceCtorEq, decide_false, hi]
      refine sw_run 200 _ _ _ ?_
      simp only [eq_self, xRun, vE, vP, isCutO, gN, isPick, isCall, AS.pt, AS.ev, look, td0, td1, td2, td3, td4, td5, td6, Option.getD, ↓reduceIte, Nat.reduceLT, Nat.reduceEqDiff, true_and, Bool.false_eq_true, Nat.succ_ne_zero]
      refine sw_call (hJ) rfl (aAs_ok ?_) ?_ (sw_run 200 _ _ _ ?_)
      · simp only [aAs, aA, aD, strsD, AS.ev, AS.owf, look, cav, Option.bind, Option.getD, id_eq, List.map, List.append_nil, ↓reduceIte, eq_self, and_self, strsD, hl]
      · simp only [okR]
      simp only [mkR, flatD, packA, retA, List.headD_cons, fQ, xRet, rPs, xRes, flatA, rD, eq_self, xRun, vE, vP, isCutO, gN, isPick, isCall, AS.pt, AS.ev, look, eatsOf, td0, td1, td2, td3, td4, td5, td6, Option.getD, List.map, List.nodup_nil, ↓reduceIte, Nat.reduceLT, or_false, Bool.false_eq_true, reduceCtorEq, and_self, Tryz.results20]
end Go.Proofs.YtfbjdeeomjfhkaaGreatDoor
/-
  Drawn instructions and their texts.
-/
namespace Go.Proofs.YtfbjdeeomjfhkaaGreatDoor
open Go.RowKit
set_option linter.unusedVariables false
set_option linter.unusedSimpArgs false
set_option maxRecDepth 20000
/-- A drawn instruction. -/
def inI' (zs : List Int) (x : Ins × Nat × Int) : Prop := x.2.1 ≤ zs.length
def inO (zs : List Int) (x : Ins × Nat × Int) : List (List CD) := [curA zs x.2.1 x.2.2]
def inR (x : Ins × Nat × Int) : List RD := [.ag [.o (.int x.1.op), .o (.int x.1.a)]]
theorem con_l21Draw (zs : List Int) (hz : BytOk zs) (i : Nat) (hi : i ≤ zs.length) (h : Int) : ConX Tryz.prog 43 [.p (curA zs i h)] (inI' zs) (inO zs) inR := by
  refine con_runX Tryz.func43 rfl rfl (by simp [Tryz.ntmps43]) (fun _ _ => rfl) ?_
  have hB := fun n hn hn2 i hi h => con_Below zs hz n hn hn2 i hi h
  simp only [s0P, mkPs, mkPA, mkC, numT, eq_self, xRun, vE, vP, isCutO, gN, isPick, isCall, AS.pt, AS.ev, AS.box, look, avB, td0, td1, td2, td3, td4, td5, td6, Option.getD, Option.isSome, List.nil_append, ↓reduceIte, Nat.reduceLT, Nat.reduceAdd, Nat.zero_add, true_and, Bool.false_eq_true, reduceCtorEq, curA, bytD, Tryz.ntmps43]
  refine sw_callXR (hB 12 (by decide) (by decide) i hi h) rfl rfl rfl ?_ ?_ ?_ ?_
  · simp only [rC, rCs, AS.em, mPs, mP, aA, aD, rD, eq_self, AS.ev, look, cav, td0, td1, td2, td3, td4, td5, td6, Option.getD, List.map, List.append_nil, ↓reduceIte, reduceCtorEq, and_self, curA, bytD]
  · simp only [eC, eCs, ePs, eP, eq_self, AS.ev, look, cav, td0, td1, td2, td3, td4, td5, td6, Option.getD, List.map, List.nodup_nil, List.append_nil, ↓reduceIte, reduceCtorEq, curA, bytD]
  · simp only [bPs, bP, eq_self, AS.ev, look, cav, td0, td1, td2, td3, td4, td5, td6, Option.getD, List.map, List.not_mem_nil, List.nodup_cons, List.nodup_nil, List.append_nil, ↓reduceIte, not_false_eq_true, and_self, curA, bytD]
  rintro ⟨v, i1, h1⟩ ⟨hv, hi1⟩
  simp only at hv hi1
  have hin : inI (1 + v) := by unfold inI; omega
  refine sw_run 200 _ _ _ ?_
  have hin1 : inI 1 := by unfold inI; omega
  have hin2 : inI 2 := by unfold inI; omega
  have hin3 : inI 3 := by unfold inI; omega
  have hin4 : inI 4 := by unfold inI; omega
  have hin5 : inI 5 := by unfold inI; omega
  have hin6 : inI 6 := by unfold inI; omega
  have hin7 : inI 7 := by unfold inI; omega
  have hin8 : inI 8 := by unfold inI; omega
  by_cases v1 : v = 0
  · have hop : 1 + v = 1 := by omega
    simp only [mkC, eC, eCs, aftS, aftV, AS.kb, rmBs, rmB, mkO, packRA, flatR, ePs, eP, bPs, bP, AS.kl, retA, List.headD_cons, eq_self, xRun, vE, vP, vSub, vLoad, vFld, vBin, vBinT, isAg, isBo, vBuild, vStore, isCutO, xFill, isB, bv, gN, isPick, isCall, AS.pt, AS.ev, AS.box, AS.setb, kill, look, cav, avB, setRowG, AV.cells, AV.whole, AV.one, td0, td1, td2, td3, td4, td5, td6, Option.getD, Option.isSome, List.map, List.length, List.getElem?_cons_zero, List.set, List.foldr, List.all, List.append_nil, ↓reduceIte, Nat.reduceLT, Nat.reduceAdd, Nat.reduceLeDiff, Nat.reduceEqDiff, Nat.zero_add, Nat.add_zero, ne_eq, not_false_eq_true, true_and, Bool.and_true, Bool.false_eq_true, reduceCtorEq, decide_true, and_self, Nat.succ_ne_zero, Nat.le_refl, curO, curA, curR, bytD, hop, hin1]
    refine sw_callXR (hB 5 (by decide) (by decide) i1 hi1 h1) rfl rfl rfl ?_ ?_ ?_ ?_
    · simp only [rC, rCs, AS.em, mPs, mP, aA, aD, rD, eq_self, AS.ev, look, cav, td0, td1, td2, td3, td4, td5, td6, Option.getD, List.map, List.append_nil, ↓reduceIte, reduceCtorEq, and_self, curA, bytD]
    · simp only [eC, eCs, ePs, eP, eq_self, AS.ev, look, cav, td0, td1, td2, td3, td4, td5, td6, Option.getD, List.map, List.nodup_nil, List.append_nil, ↓reduceIte, reduceCtorEq, curA, bytD]
    · simp only [bPs, bP, eq_self, AS.ev, look, cav, td0, td1, td2, td3, td4, td5, td6, Option.getD, List.map, List.not_mem_nil, List.nodup_cons, List.nodup_nil, List.append_nil, ↓reduceIte, not_false_eq_true, and_self, curA, bytD]
    rintro ⟨a, i2, h2⟩ ⟨ha, hi2⟩
    simp only at ha hi2
    skip
    refine sw_run 200 _ _ _ ?_
    simp only [mkC, eC, eCs, aftS, aftV, AS.kb, rmBs, rmB, mkO, packRA, flatR, ePs, eP, bPs, bP, AS.kl, retA, List.headD_cons, eq_self, xRun, vE, vP, vSub, vLoad, vFld, vStore, isCutO, gN, isPick, isCall, AS.pt, AS.ev, AS.setb, kill, look, cav, avB, setRowG, AV.cells, AV.whole, AV.one, td0, td1, td2, td3, td4, td5, td6, Option.getD, List.map, List.take, List.drop, List.length, List.set, List.foldr, List.all, List.append_nil, ↓reduceIte, Nat.reduceLT, Nat.reduceAdd, Nat.reduceEqDiff, Nat.zero_add, ne_eq, not_false_eq_true, true_and, Bool.and_true, Bool.false_eq_true, reduceCtorEq, and_self, Nat.succ_ne_zero, Nat.le_refl, curO, curA, curR, bytD]
    refine ⟨.inl rfl, (⟨1, a⟩, i2, h2), hi2, ?_⟩
    simp only [xRetP, rRs, rOs, rC, rCs, eRs, eOs, eC, eCs, aD, xRes, rD, eq_self, look, td0, td1, td2, td3, td4, td5, td6, List.map, List.length, List.not_mem_nil, List.nodup_cons, List.nodup_nil, List.append_nil, ↓reduceIte, Nat.reduceAdd, Nat.reduceEqDiff, Nat.zero_add, not_false_eq_true, reduceCtorEq, and_self, inO, curA, inR, bytD, Tryz.results43]
  by_cases v2 : v = 1
  · have hop : 1 + v = 2 := by omega
    simp only [mkC, eC, eCs, aftS, aftV, AS.kb, rmBs, rmB, mkO, packRA, flatR, ePs, eP, bPs, bP, AS.kl, retA, List.headD_cons, eq_self, xRun, vE, vP, vSub, vLoad, vFld, vBin, vBinT, isAg, isBo, vBuild, vStore, isCutO, xFill, isB, bv, gN, isPick, isCall, AS.pt, AS.ev, AS.box, AS.setb, kill, look, cav, avB, setRowG, AV.cells, AV.whole, AV.one, td0, td1, td2, td3, td4, td5, td6, Option.getD, Option.isSome, List.map, List.length, List.getElem?_cons_zero, List.set, List.foldr, List.all, List.append_nil, ↓reduceIte, Nat.reduceLT, Nat.reduceAdd, Nat.reduceLeDiff, Nat.reduceEqDiff, Nat.zero_add, Nat.add_zero, ne_eq, not_false_eq_true, true_and, Bool.and_true, Bool.false_eq_true, reduceCtorEq, Int.reduceEq, decide_true, decide_false, and_self, Nat.succ_ne_zero, Nat.le_refl, curO, curA, curR, bytD, hop, hin2]
    refine sw_callXR (hB 2 (by decide) (by decide) i1 hi1 h1) rfl rfl rfl ?_ ?_ ?_ ?_
    · simp only [rC, rCs, AS.em, mPs, mP, aA, aD, rD, eq_self, AS.ev, look, cav, td0, td1, td2, td3, td4, td5, td6, Option.getD, List.map, List.append_nil, ↓reduceIte, reduceCtorEq, and_self, curA, bytD]
    · simp only [eC, eCs, ePs, eP, eq_self, AS.ev, look, cav, td0, td1, td2, td3, td4, td5, td6, Option.getD, List.map, List.nodup_nil, List.append_nil, ↓reduceIte, reduceCtorEq, curA, bytD]
    · simp only [bPs, bP, eq_self, AS.ev, look, cav, td0, td1, td2, td3, td4, td5, td6, Option.getD, List.map, List.not_mem_nil, List.nodup_cons, List.nodup_nil, List.append_nil, ↓reduceIte, not_false_eq_true, and_self, curA, bytD]
    rintro ⟨a, i2, h2⟩ ⟨ha, hi2⟩
    simp only at ha hi2
    skip
    refine sw_run 200 _ _ _ ?_
    simp only [mkC, eC, eCs, aftS, aftV, AS.kb, rmBs, rmB, mkO, packRA, flatR, ePs, eP, bPs, bP, AS.kl, retA, List.headD_cons, eq_self, xRun, vE, vP, vSub, vLoad, vFld, vStore, isCutO, gN, isPick, isCall, AS.pt, AS.ev, AS.setb, kill, look, cav, avB, setRowG, AV.cells, AV.whole, AV.one, td0, td1, td2, td3, td4, td5, td6, Option.getD, List.map, List.take, List.drop, List.length, List.set, List.foldr, List.all, List.append_nil, ↓reduceIte, Nat.reduceLT, Nat.reduceAdd, Nat.reduceEqDiff, Nat.zero_add, ne_eq, not_false_eq_true, true_and, Bool.and_true, Bool.false_eq_true, reduceCtorEq, and_self, Nat.succ_ne_zero, Nat.le_refl, curO, curA, curR, bytD]
    refine ⟨.inl rfl, (⟨2, a⟩, i2, h2), hi2, ?_⟩
    simp only [xRetP, rRs, rOs, rC, rCs, eRs, eOs, eC, eCs, aD, xRes, rD, eq_self, look, td0, td1, td2, td3, td4, td5, td6, List.map, List.length, List.not_mem_nil, List.nodup_cons, List.nodup_nil, List.append_nil, ↓reduceIte, Nat.reduceAdd, Nat.reduceEqDiff, Nat.zero_add, not_false_eq_true, reduceCtorEq, and_self, inO, curA, inR, bytD, Tryz.results43]
  by_cases v3 : v = 2
  · have hop : 1 + v = 3 := by omega
    simp only [mkC, eC, eCs, aftS, aftV, AS.kb, rmBs, rmB, mkO, packRA, flatR, ePs, eP, bPs, bP, AS.kl, retA, List.headD_cons, eq_self, xRun, vE, vP, vSub, vLoad, vFld, vBin, vBinT, isAg, isBo, vBuild, vStore, isCutO, xFill, isB, bv, gN, isPick, isCall, AS.pt, AS.ev, AS.box, AS.setb, kill, look, cav, avB, setRowG, AV.cells, AV.whole, AV.one, td0, td1, td2, td3, td4, td5, td6, Option.getD, Option.isSome, List.map, List.length, List.getElem?_cons_zero, List.set, List.foldr, List.all, List.append_nil, ↓reduceIte, Nat.reduceLT, Nat.reduceAdd, Nat.reduceLeDiff, Nat.reduceEqDiff, Nat.zero_add, Nat.add_zero, ne_eq, not_false_eq_true, true_and, Bool.and_true, Bool.false_eq_true, reduceCtorEq, Int.reduceEq, decide_true, decide_false, and_self, Nat.succ_ne_zero, Nat.le_refl, curO, curA, curR, bytD, hop, hin3]
    refine sw_callXR (hB 3 (by decide) (by decide) i1 hi1 h1) rfl rfl rfl ?_ ?_ ?_ ?_
    · simp only [rC, rCs, AS.em, mPs, mP, aA, aD, rD, eq_self, AS.ev, look, cav, td0, td1, td2, td3, td4, td5, td6, Option.getD, List.map, List.append_nil, ↓reduceIte, reduceCtorEq, and_self, curA, bytD]
    · simp only [eC, eCs, ePs, eP, eq_self, AS.ev, look, cav, td0, td1, td2, td3, td4, td5, td6, Option.getD, List.map, List.nodup_nil, List.append_nil, ↓reduceIte, reduceCtorEq, curA, bytD]
    · simp only [bPs, bP, eq_self, AS.ev, look, cav, td0, td1, td2, td3, td4, td5, td6, Option.getD, List.map, List.not_mem_nil, List.nodup_cons, List.nodup_nil, List.append_nil, ↓reduceIte, not_false_eq_true, and_self, curA, bytD]
    rintro ⟨a, i2, h2⟩ ⟨ha, hi2⟩
    simp only at ha hi2
    skip
    refine sw_run 200 _ _ _ ?_
    simp only [mkC, eC, eCs, aftS, aftV, AS.kb, rmBs, rmB, mkO, packRA, flatR, ePs, eP, bPs, bP, AS.kl, retA, List.headD_cons, eq_self, xRun, vE, vP, vSub, vLoad, vFld, vStore, isCutO, gN, isPick, isCall, AS.pt, AS.ev, AS.setb, kill, look, cav, avB, setRowG, AV.cells, AV.whole, AV.one, td0, td1, td2, td3, td4, td5, td6, Option.getD, List.map, List.take, List.drop, List.length, List.set, List.foldr, List.all, List.append_nil, ↓reduceIte, Nat.reduceLT, Nat.reduceAdd, Nat.reduceEqDiff, Nat.zero_add, ne_eq, not_false_eq_true, true_and, Bool.and_true, Bool.false_eq_true, reduceCtorEq, and_self, Nat.succ_ne_zero, Nat.le_refl, curO, curA, curR, bytD]
    refine ⟨.inl rfl, (⟨3, a⟩, i2, h2), hi2, ?_⟩
    simp only [xRetP, rRs, rOs, rC, rCs, eRs, eOs, eC, eCs, aD, xRes, rD, eq_self, look, td0, td1, td2, td3, td4, td5, td6, List.map, List.length, List.not_mem_nil, List.nodup_cons, List.nodup_nil, List.append_nil, ↓reduceIte, Nat.reduceAdd, Nat.reduceEqDiff, Nat.zero_add, not_false_eq_true, reduceCtorEq, and_self, inO, curA, inR, bytD, Tryz.results43]
  by_cases v4 : v = 3
  · have hop : 1 + v = 4 := by omega
    simp only [mkC, eC, eCs, aftS, aftV, AS.kb, rmBs, rmB, mkO, packRA, flatR, ePs, eP, bPs, bP, AS.kl, retA, List.headD_cons, eq_self, xRun, vE, vP, vSub, vLoad, vFld, vBin, vBinT, isAg, isBo, vBuild, vStore, isCutO, xFill, isB, bv, gN, isPick, isCall, AS.pt, AS.ev, AS.box, AS.setb, kill, look, cav, avB, setRowG, AV.cells, AV.whole, AV.one, td0, td1, td2, td3, td4, td5, td6, Option.getD, Option.isSome, List.map, List.length, List.getElem?_cons_zero, List.set, List.foldr, List.all, List.append_nil, ↓reduceIte, Nat.reduceLT, Nat.reduceAdd, Nat.reduceLeDiff, Nat.reduceEqDiff, Nat.zero_add, Nat.add_zero, ne_eq, not_false_eq_true, true_and, Bool.and_true, Bool.false_eq_true, reduceCtorEq, Int.reduceEq, decide_true, decide_false, and_self, Nat.succ_ne_zero, Nat.le_refl, curO, curA, curR, bytD, hop, hin4]
    refine sw_callXR (hB 8 (by decide) (by decide) i1 hi1 h1) rfl rfl rfl ?_ ?_ ?_ ?_
    · simp only [rC, rCs, AS.em, mPs, mP, aA, aD, rD, eq_self, AS.ev, look, cav, td0, td1, td2, td3, td4, td5, td6, Option.getD, List.map, List.append_nil, ↓reduceIte, reduceCtorEq, and_self, curA, bytD]
    · simp only [eC, eCs, ePs, eP, eq_self, AS.ev, look, cav, td0, td1, td2, td3, td4, td5, td6, Option.getD, List.map, List.nodup_nil, List.append_nil, ↓reduceIte, reduceCtorEq, curA, bytD]
    · simp only [bPs, bP, eq_self, AS.ev, look, cav, td0, td1, td2, td3, td4, td5, td6, Option.getD, List.map, List.not_mem_nil, List.nodup_cons, List.nodup_nil, List.append_nil, ↓reduceIte, not_false_eq_true, and_self, curA, bytD]
    rintro ⟨a, i2, h2⟩ ⟨ha, hi2⟩
    simp only at ha hi2
    have hia : inI (1 + a) := by unfold inI; omega
    refine sw_run 200 _ _ _ ?_
    simp only [mkC, eC, eCs, aftS, aftV, AS.kb, rmBs, rmB, mkO, packRA, flatR, ePs, eP, bPs, bP, AS.kl, retA, List.headD_cons, eq_self, xRun, vE, vP, vSub, vLoad, vFld, vBin, vBinT, isAg, isBo, vStore, isCutO, gN, isPick, isCall, AS.pt, AS.ev, AS.setb, kill, look, cav, avB, setRowG, AV.cells, AV.whole, AV.one, td0, td1, td2, td3, td4, td5, td6, Option.getD, List.map, List.take, List.drop, List.length, List.set, List.foldr, List.all, List.append_nil, ↓reduceIte, Nat.reduceLT, Nat.reduceAdd, Nat.reduceEqDiff, Nat.zero_add, ne_eq, not_false_eq_true, true_and, Bool.and_true, Bool.false_eq_true, reduceCtorEq, and_self, Nat.succ_ne_zero, Nat.le_refl, curO, curA, curR, bytD, hia]
    refine ⟨.inl rfl, (⟨4, 1 + a⟩, i2, h2), hi2, ?_⟩
    simp only [xRetP, rRs, rOs, rC, rCs, eRs, eOs, eC, eCs, aD, xRes, rD, eq_self, look, td0, td1, td2, td3, td4, td5, td6, List.map, List.length, List.not_mem_nil, List.nodup_cons, List.nodup_nil, List.append_nil, ↓reduceIte, Nat.reduceAdd, Nat.reduceEqDiff, Nat.zero_add, not_false_eq_true, reduceCtorEq, and_self, inO, curA, inR, bytD, Tryz.results43]
  by_cases v5 : v = 4
  · have hop : 1 + v = 5 := by omega
    simp only [mkC, eC, eCs, aftS, aftV, AS.kb, rmBs, rmB, mkO, packRA, flatR, ePs, eP, bPs, bP, AS.kl, retA, List.headD_cons, eq_self, xRun, vE, vP, vSub, vLoad, vFld, vBin, vBinT, isAg, isBo, vBuild, vStore, isCutO, xFill, isB, bv, gN, isPick, isCall, AS.pt, AS.ev, AS.box, AS.setb, kill, look, cav, avB, setRowG, AV.cells, AV.whole, AV.one, td0, td1, td2, td3, td4, td5, td6, Option.getD, Option.isSome, List.map, List.length, List.getElem?_cons_zero, List.set, List.foldr, List.all, List.append_nil, ↓reduceIte, Nat.reduceLT, Nat.reduceAdd, Nat.reduceLeDiff, Nat.reduceEqDiff, Nat.zero_add, Nat.add_zero, ne_eq, not_false_eq_true, true_and, Bool.and_true, Bool.false_eq_true, reduceCtorEq, Int.reduceEq, decide_true, decide_false, and_self, Nat.succ_ne_zero, Nat.le_refl, curO, curA, curR, bytD, hop, hin5]
    refine sw_callXR (hB 12 (by decide) (by decide) i1 hi1 h1) rfl rfl rfl ?_ ?_ ?_ ?_
    · simp only [rC, rCs, AS.em, mPs, mP, aA, aD, rD, eq_self, AS.ev, look, cav, td0, td1, td2, td3, td4, td5, td6, Option.getD, List.map, List.append_nil, ↓reduceIte, reduceCtorEq, and_self, curA, bytD]
    · simp only [eC, eCs, ePs, eP, eq_self, AS.ev, look, cav, td0, td1, td2, td3, td4, td5, td6, Option.getD, List.map, List.nodup_nil, List.append_nil, ↓reduceIte, reduceCtorEq, curA, bytD]
    · simp only [bPs, bP, eq_self, AS.ev, look, cav, td0, td1, td2, td3, td4, td5, td6, Option.getD, List.map, List.not_mem_nil, List.nodup_cons, List.nodup_nil, List.append_nil, ↓reduceIte, not_false_eq_true, and_self, curA, bytD]
    rintro ⟨a, i2, h2⟩ ⟨ha, hi2⟩
    simp only at ha hi2
    skip
    refine sw_run 200 _ _ _ ?_
    simp only [mkC, eC, eCs, aftS, aftV, AS.kb, rmBs, rmB, mkO, packRA, flatR, ePs, eP, bPs, bP, AS.kl, retA, List.headD_cons, eq_self, xRun, vE, vP, vSub, vLoad, vFld, vStore, isCutO, gN, isPick, isCall, AS.pt, AS.ev, AS.setb, kill, look, cav, avB, setRowG, AV.cells, AV.whole, AV.one, td0, td1, td2, td3, td4, td5, td6, Option.getD, List.map, List.take, List.drop, List.length, List.set, List.foldr, List.all, List.append_nil, ↓reduceIte, Nat.reduceLT, Nat.reduceAdd, Nat.reduceEqDiff, Nat.zero_add, ne_eq, not_false_eq_true, true_and, Bool.and_true, Bool.false_eq_true, reduceCtorEq, and_self, Nat.succ_ne_zero, Nat.le_refl, curO, curA, curR, bytD]
    refine ⟨.inl rfl, (⟨5, a⟩, i2, h2), hi2, ?_⟩
    simp only [xRetP, rRs, rOs, rC, rCs, eRs, eOs, eC, eCs, aD, xRes, rD, eq_self, look, td0, td1, td2, td3, td4, td5, td6, List.map, List.length, List.not_mem_nil, List.nodup_cons, List.nodup_nil, List.append_nil, ↓reduceIte, Nat.reduceAdd, Nat.reduceEqDiff, Nat.zero_add, not_false_eq_true, reduceCtorEq, and_self, inO, curA, inR, bytD, Tryz.results43]
  by_cases v6 : v = 5
  · have hop : 1 + v = 6 := by omega
    simp only [mkC, eC, eCs, aftS, aftV, AS.kb, rmBs, rmB, mkO, packRA, flatR, ePs, eP, bPs, bP, AS.kl, retA, List.headD_cons, eq_self, xRun, vE, vP, vSub, vLoad, vFld, vBin, vBinT, isAg, isBo, vBuild, vStore, isCutO, xFill, isB, bv, gN, isPick, isCall, AS.pt, AS.ev, AS.box, AS.setb, kill, look, cav, avB, setRowG, AV.cells, AV.whole, AV.one, td0, td1, td2, td3, td4, td5, td6, Option.getD, Option.isSome, List.map, List.length, List.getElem?_cons_zero, List.set, List.foldr, List.all, List.append_nil, ↓reduceIte, Nat.reduceLT, Nat.reduceAdd, Nat.reduceLeDiff, Nat.reduceEqDiff, Nat.zero_add, Nat.add_zero, ne_eq, not_false_eq_true, true_and, Bool.and_true, Bool.false_eq_true, reduceCtorEq, Int.reduceEq, decide_true, decide_false, and_self, Nat.succ_ne_zero, Nat.le_refl, curO, curA, curR, bytD, hop, hin6]
    refine sw_callXR (hB 12 (by decide) (by decide) i1 hi1 h1) rfl rfl rfl ?_ ?_ ?_ ?_
    · simp only [rC, rCs, AS.em, mPs, mP, aA, aD, rD, eq_self, AS.ev, look, cav, td0, td1, td2, td3, td4, td5, td6, Option.getD, List.map, List.append_nil, ↓reduceIte, reduceCtorEq, and_self, curA, bytD]
    · simp only [eC, eCs, ePs, eP, eq_self, AS.ev, look, cav, td0, td1, td2, td3, td4, td5, td6, Option.getD, List.map, List.nodup_nil, List.append_nil, ↓reduceIte, reduceCtorEq, curA, bytD]
    · simp only [bPs, bP, eq_self, AS.ev, look, cav, td0, td1, td2, td3, td4, td5, td6, Option.getD, List.map, List.not_mem_nil, List.nodup_cons, List.nodup_nil, List.append_nil, ↓reduceIte, not_false_eq_true, and_self, curA, bytD]
    rintro ⟨a, i2, h2⟩ ⟨ha, hi2⟩
    simp only at ha hi2
    skip
    refine sw_run 200 _ _ _ ?_
    simp only [mkC, eC, eCs, aftS, aftV, AS.kb, rmBs, rmB, mkO, packRA, flatR, ePs, eP, bPs, bP, AS.kl, retA, List.headD_cons, eq_self, xRun, vE, vP, vSub, vLoad, vFld, vStore, isCutO, gN, isPick, isCall, AS.pt, AS.ev, AS.setb, kill, look, cav, avB, setRowG, AV.cells, AV.whole, AV.one, td0, td1, td2, td3, td4, td5, td6, Option.getD, List.map, List.take, List.drop, List.length, List.set, List.foldr, List.all, List.append_nil, ↓reduceIte, Nat.reduceLT, Nat.reduceAdd, Nat.reduceEqDiff, Nat.zero_add, ne_eq, not_false_eq_true, true_and, Bool.and_true, Bool.false_eq_true, reduceCtorEq, and_self, Nat.succ_ne_zero, Nat.le_refl, curO, curA, curR, bytD]
    refine ⟨.inl rfl, (⟨6, a⟩, i2, h2), hi2, ?_⟩
    simp only [xRetP, rRs, rOs, rC, rCs, eRs, eOs, eC, eCs, aD, xRes, rD, eq_self, look, td0, td1, td2, td3, td4, td5, td6, List.map, List.length, List.not_mem_nil, List.nodup_cons, List.nodup_nil, List.append_nil, ↓reduceIte, Nat.reduceAdd, Nat.reduceEqDiff, Nat.zero_add, not_false_eq_true, reduceCtorEq, and_self, inO, curA, inR, bytD, Tryz.results43]
  by_cases v7 : v = 6
  · have hop : 1 + v = 7 := by omega
    simp only [mkC, eC, eCs, aftS, aftV, AS.kb, rmBs, rmB, mkO, packRA, flatR, ePs, eP, bPs, bP, AS.kl, retA, List.headD_cons, eq_self, xRun, vE, vP, vSub, vLoad, vFld, vBin, vBinT, isAg, isBo, vBuild, vStore, isCutO, xFill, isB, bv, gN, isPick, isCall, AS.pt, AS.ev, AS.box, AS.setb, kill, look, cav, avB, setRowG, AV.cells, AV.whole, AV.one, td0, td1, td2, td3, td4, td5, td6, Option.getD, Option.isSome, List.map, List.length, List.getElem?_cons_zero, List.set, List.foldr, List.all, List.append_nil, ↓reduceIte, Nat.reduceLT, Nat.reduceAdd, Nat.reduceLeDiff, Nat.reduceEqDiff, Nat.zero_add, Nat.add_zero, ne_eq, not_false_eq_true, true_and, Bool.and_true, Bool.false_eq_true, reduceCtorEq, Int.reduceEq, decide_true, decide_false, and_self, Nat.succ_ne_zero, Nat.le_refl, curO, curA, curR, bytD, hop, hin7]
    refine sw_callXR (hB 12 (by decide) (by decide) i1 hi1 h1) rfl rfl rfl ?_ ?_ ?_ ?_
    · simp only [rC, rCs, AS.em, mPs, mP, aA, aD, rD, eq_self, AS.ev, look, cav, td0, td1, td2, td3, td4, td5, td6, Option.getD, List.map, List.append_nil, ↓reduceIte, reduceCtorEq, and_self, curA, bytD]
    · simp only [eC, eCs, ePs, eP, eq_self, AS.ev, look, cav, td0, td1, td2, td3, td4, td5, td6, Option.getD, List.map, List.nodup_nil, List.append_nil, ↓reduceIte, reduceCtorEq, curA, bytD]
    · simp only [bPs, bP, eq_self, AS.ev, look, cav, td0, td1, td2, td3, td4, td5, td6, Option.getD, List.map, List.not_mem_nil, List.nodup_cons, List.nodup_nil, List.append_nil, ↓reduceIte, not_false_eq_true, and_self, curA, bytD]
    rintro ⟨a, i2, h2⟩ ⟨ha, hi2⟩
    simp only at ha hi2
    skip
    refine sw_run 200 _ _ _ ?_
    simp only [mkC, eC, eCs, aftS, aftV, AS.kb, rmBs, rmB, mkO, packRA, flatR, ePs, eP, bPs, bP, AS.kl, retA, List.headD_cons, eq_self, xRun, vE, vP, vSub, vLoad, vFld, vStore, isCutO, gN, isPick, isCall, AS.pt, AS.ev, AS.setb, kill, look, cav, avB, setRowG, AV.cells, AV.whole, AV.one, td0, td1, td2, td3, td4, td5, td6, Option.getD, List.map, List.take, List.drop, List.length, List.set, List.foldr, List.all, List.append_nil, ↓reduceIte, Nat.reduceLT, Nat.reduceAdd, Nat.reduceEqDiff, Nat.zero_add, ne_eq, not_false_eq_true, true_and, Bool.and_true, Bool.false_eq_true, reduceCtorEq, and_self, Nat.succ_ne_zero, Nat.le_refl, curO, curA, curR, bytD]
    refine ⟨.inl rfl, (⟨7, a⟩, i2, h2), hi2, ?_⟩
    simp only [xRetP, rRs, rOs, rC, rCs, eRs, eOs, eC, eCs, aD, xRes, rD, eq_self, look, td0, td1, td2, td3, td4, td5, td6, List.map, List.length, List.not_mem_nil, List.nodup_cons, List.nodup_nil, List.append_nil, ↓reduceIte, Nat.reduceAdd, Nat.reduceEqDiff, Nat.zero_add, not_false_eq_true, reduceCtorEq, and_self, inO, curA, inR, bytD, Tryz.results43]
  by_cases v8 : v = 7
  · have hop : 1 + v = 8 := by omega
    simp only [mkC, eC, eCs, aftS, aftV, AS.kb, rmBs, rmB, mkO, packRA, flatR, ePs, eP, bPs, bP, AS.kl, retA, List.headD_cons, eq_self, xRun, vE, vP, vSub, vLoad, vFld, vBin, vBinT, isAg, isBo, vBuild, vStore, isCutO, xFill, isB, bv, gN, isPick, isCall, AS.pt, AS.ev, AS.box, AS.setb, kill, look, cav, avB, setRowG, AV.cells, AV.whole, AV.one, td0, td1, td2, td3, td4, td5, td6, Option.getD, Option.isSome, List.map, List.length, List.getElem?_cons_zero, List.set, List.foldr, List.all, List.append_nil, ↓reduceIte, Nat.reduceLT, Nat.reduceAdd, Nat.reduceLeDiff, Nat.reduceEqDiff, Nat.zero_add, Nat.add_zero, ne_eq, not_false_eq_true, true_and, Bool.and_true, Bool.false_eq_true, reduceCtorEq, Int.reduceEq, decide_true, decide_false, and_self, Nat.succ_ne_zero, Nat.le_refl, curO, curA, curR, bytD, hop, hin8]
    refine sw_callXR (hB 12 (by decide) (by decide) i1 hi1 h1) rfl rfl rfl ?_ ?_ ?_ ?_
    · simp only [rC, rCs, AS.em, mPs, mP, aA, aD, rD, eq_self, AS.ev, look, cav, td0, td1, td2, td3, td4, td5, td6, Option.getD, List.map, List.append_nil, ↓reduceIte, reduceCtorEq, and_self, curA, bytD]
    · simp only [eC, eCs, ePs, eP, eq_self, AS.ev, look, cav, td0, td1, td2, td3, td4, td5, td6, Option.getD, List.map, List.nodup_nil, List.append_nil, ↓reduceIte, reduceCtorEq, curA, bytD]
    · simp only [bPs, bP, eq_self, AS.ev, look, cav, td0, td1, td2, td3, td4, td5, td6, Option.getD, List.map, List.not_mem_nil, List.nodup_cons, List.nodup_nil, List.append_nil, ↓reduceIte, not_false_eq_true, and_self, curA, bytD]
    rintro ⟨a, i2, h2⟩ ⟨ha, hi2⟩
    simp only at ha hi2
    skip
    refine sw_run 200 _ _ _ ?_
    simp only [mkC, eC, eCs, aftS, aftV, AS.kb, rmBs, rmB, mkO, packRA, flatR, ePs, eP, bPs, bP, AS.kl, retA, List.headD_cons, eq_self, xRun, vE, vP, vSub, vLoad, vFld, vStore, isCutO, gN, isPick, isCall, AS.pt, AS.ev, AS.setb, kill, look, cav, avB, setRowG, AV.cells, AV.whole, AV.one, td0, td1, td2, td3, td4, td5, td6, Option.getD, List.map, List.take, List.drop, List.length, List.set, List.foldr, List.all, List.append_nil, ↓reduceIte, Nat.reduceLT, Nat.reduceAdd, Nat.reduceEqDiff, Nat.zero_add, ne_eq, not_false_eq_true, true_and, Bool.and_true, Bool.false_eq_true, reduceCtorEq, and_self, Nat.succ_ne_zero, Nat.le_refl, curO, curA, curR, bytD]
    refine ⟨.inl rfl, (⟨8, a⟩, i2, h2), hi2, ?_⟩
    simp only [xRetP, rRs, rOs, rC, rCs, eRs, eOs, eC, eCs, aD, xRes, rD, eq_self, look, td0, td1, td2, td3, td4, td5, td6, List.map, List.length, List.not_mem_nil, List.nodup_cons, List.nodup_nil, List.append_nil, ↓reduceIte, Nat.reduceAdd, Nat.reduceEqDiff, Nat.zero_add, not_false_eq_true, reduceCtorEq, and_self, inO, curA, inR, bytD, Tryz.results43]
  have q1 : ¬ 1 + v = 1 := by omega
  have q2 : ¬ 1 + v = 2 := by omega
  have q3 : ¬ 1 + v = 3 := by omega
  have q4 : ¬ 1 + v = 4 := by omega
  have q5 : ¬ 1 + v = 5 := by omega
  have q6 : ¬ 1 + v = 6 := by omega
  have q7 : ¬ 1 + v = 7 := by omega
  have q8 : ¬ 1 + v = 8 := by omega
  simp only [mkC, eC, eCs, aftS, aftV, AS.kb, rmBs, rmB, mkO, packRA, flatR, ePs, eP, bPs, bP, AS.kl, retA, List.headD_cons, eq_self, xRun, vE, vP, vSub, vLoad, vFld, vBin, vBinT, isAg, isBo, vBuild, vStore, isCutO, xFill, isB, bv, gN, isPick, isCall, AS.pt, AS.ev, AS.box, AS.setb, kill, look, cav, avB, setRowG, AV.cells, AV.whole, AV.one, td0, td1, td2, td3, td4, td5, td6, Option.getD, Option.isSome, List.map, List.take, List.drop, List.length, List.getElem?_cons_zero, List.set, List.foldr, List.all, List.append_nil, ↓reduceIte, Nat.reduceLT, Nat.reduceAdd, Nat.reduceLeDiff, Nat.reduceEqDiff, Nat.zero_add, Nat.add_zero, ne_eq, not_false_eq_true, true_and, Bool.and_true, Bool.false_eq_true, reduceCtorEq, decide_false, and_self, Nat.succ_ne_zero, Nat.le_refl, curO, curA, curR, bytD, hin, q1, q2, q3, q4, q5, q6, q7, q8]
  refine ⟨.inl rfl, (⟨1 + v, 0⟩, i1, h1), hi1, ?_⟩
  simp only [xRetP, rRs, rOs, rC, rCs, eRs, eOs, eC, eCs, aD, xRes, rD, eq_self, look, td0, td1, td2, td3, td4, td5, td6, List.map, List.length, List.not_mem_nil, List.nodup_cons, List.nodup_nil, List.append_nil, ↓reduceIte, Nat.reduceAdd, Nat.reduceEqDiff, Nat.zero_add, not_false_eq_true, reduceCtorEq, and_self, inO, curA, inR, bytD, Tryz.results43]
theorem con_l21Bent (zs : List Int) (hz : BytOk zs) (i : Nat) (hi : i ≤ zs.length) (h : Int) : ConX Tryz.prog 26 [.p (curA zs i h)] (inI' zs) (inO zs) inR := by
  refine con_runX Tryz.func26 rfl rfl (by simp [Tryz.ntmps26]) (fun _ _ => rfl) ?_
  have hB := fun n hn hn2 i hi h => con_Below zs hz n hn hn2 i hi h
  simp only [s0P, mkPs, mkPA, mkC, numT, eq_self, xRun, vE, vP, isCutO, gN, isPick, isCall, AS.pt, AS.ev, AS.box, look, avB, td0, td1, td2, td3, td4, td5, td6, Option.getD, Option.isSome, List.nil_append, ↓reduceIte, Nat.reduceLT, Nat.reduceAdd, Nat.zero_add, true_and, Bool.false_eq_true, reduceCtorEq, Int.reduceNeg, curA, bytD, Tryz.ntmps26]
  refine sw_callXR (con_l21Draw zs hz i hi h) rfl rfl rfl ?_ ?_ ?_ ?_
  · simp only [rC, rCs, AS.em, mPs, mP, aD, rD, eq_self, AS.ev, look, td0, td1, td2, td3, td4, td5, td6, Option.getD, List.map, List.append_nil, ↓reduceIte, reduceCtorEq, and_self, curA, bytD]
  · simp only [eC, eCs, ePs, eP, eq_self, AS.ev, look, td0, td1, td2, td3, td4, td5, td6, Option.getD, List.map, List.nodup_nil, List.append_nil, ↓reduceIte, reduceCtorEq, curA, bytD]
  · simp only [bPs, bP, eq_self, AS.ev, look, td0, td1, td2, td3, td4, td5, td6, Option.getD, List.map, List.not_mem_nil, List.nodup_cons, List.nodup_nil, List.append_nil, ↓reduceIte, not_false_eq_true, and_self, curA, bytD]
  rintro ⟨x, i1, h1⟩ hi1
  have hi1' : i1 ≤ zs.length := hi1
  refine sw_run 200 _ _ _ ?_
  simp only [mkC, eC, eCs, aftS, aftV, AS.kb, rmBs, rmB, mkO, packRA, flatR, ePs, eP, bPs, bP, AS.kl, retA, eq_self, xRun, vE, vP, vStore, isCutO, gN, isPick, isCall, AS.pt, AS.ev, AS.box, AS.setb, kill, look, avB, setRowG, AV.cells, AV.whole, AV.one, td0, td1, td2, td3, td4, td5, td6, Option.getD, Option.isSome, List.map, List.take, List.length, List.set, List.foldr, List.all, List.append_nil, ↓reduceIte, Nat.reduceLT, Nat.reduceAdd, Nat.reduceEqDiff, Nat.zero_add, true_and, Bool.and_true, Bool.false_eq_true, reduceCtorEq, Int.reduceNeg, and_self, Nat.succ_ne_zero, Nat.le_refl, inO, curA, inR, bytD]
  refine sw_callXR (hB 8 (by decide) (by decide) i1 hi1' h1) rfl rfl rfl ?_ ?_ ?_ ?_
  · simp only [rC, rCs, AS.em, mPs, mP, aA, aD, rD, eq_self, AS.ev, look, cav, td0, td1, td2, td3, td4, td5, td6, Option.getD, List.map, List.append_nil, ↓reduceIte, reduceCtorEq, and_self, curA, bytD]
  · simp only [eC, eCs, ePs, eP, eq_self, AS.ev, look, cav, td0, td1, td2, td3, td4, td5, td6, Option.getD, List.map, List.nodup_nil, List.append_nil, ↓reduceIte, reduceCtorEq, curA, bytD]
  · simp only [bPs, bP, eq_self, AS.ev, look, cav, td0, td1, td2, td3, td4, td5, td6, Option.getD, List.map, List.not_mem_nil, List.nodup_cons, List.nodup_nil, List.append_nil, ↓reduceIte, not_false_eq_true, and_self, curA, bytD]
  rintro ⟨v, i2, h2⟩ ⟨hv, hi2⟩
  simp only at hv hi2
  refine sw_run 200 _ _ _ ?_
  by_cases v0 : v = 0
  · simp only [mkC, eC, eCs, aftS, aftV, AS.kb, rmBs, rmB, mkO, packRA, flatR, ePs, eP, bPs, bP, AS.kl, retA, List.headD_cons, eq_self, xRun, vE, vP, vBin, vBinT, isAg, isBo, isCutO, isB, bv, gN, isPick, isCall, AS.pt, AS.ev, kill, look, cav, avB, td0, td1, td2, td3, td4, td5, td6, Option.getD, List.map, List.foldr, List.append_nil, ↓reduceIte, Nat.reduceLT, true_and, Bool.false_eq_true, reduceCtorEq, decide_true, Nat.succ_ne_zero, curO, curA, curR, bytD, eq_true v0]
    refine sw_callXR (hB 15 (by decide) (by decide) i2 hi2 h2) rfl rfl rfl ?_ ?_ ?_ ?_
    · simp only [rC, rCs, AS.em, mPs, mP, aA, aD, rD, eq_self, AS.ev, look, cav, td0, td1, td2, td3, td4, td5, td6, Option.getD, List.map, List.append_nil, ↓reduceIte, and_self, curA, bytD]
    · simp only [eC, eCs, ePs, eP, eq_self, AS.ev, look, cav, td0, td1, td2, td3, td4, td5, td6, Option.getD, List.map, List.nodup_nil, List.append_nil, ↓reduceIte, curA, bytD]
    · simp only [bPs, bP, eq_self, AS.ev, look, cav, td0, td1, td2, td3, td4, td5, td6, Option.getD, List.map, List.not_mem_nil, List.nodup_cons, List.nodup_nil, List.append_nil, ↓reduceIte, not_false_eq_true, and_self, curA, bytD]
    rintro ⟨a, i3, h3⟩ ⟨ha, hi3⟩
    simp only at ha hi3
    have hia : inI (a - 1) := by unfold inI; omega
    refine sw_run 200 _ _ _ ?_
    simp only [mkC, eC, eCs, aftS, aftV, AS.kb, rmBs, rmB, mkO, packRA, flatR, ePs, eP, bPs, bP, AS.kl, retA, List.headD_cons, eq_self, xRun, vE, vP, vSub, vLoad, vFld, vBin, vBinT, isAg, isBo, vStore, isCutO, gN, isPick, isCall, AS.pt, AS.ev, AS.setb, kill, look, cav, avB, setRowG, AV.cells, AV.whole, AV.one, td0, td1, td2, td3, td4, td5, td6, Option.getD, List.map, List.take, List.drop, List.length, List.set, List.foldr, List.all, List.append_nil, ↓reduceIte, Nat.reduceLT, Nat.reduceAdd, Nat.reduceLeDiff, Nat.reduceEqDiff, Nat.zero_add, Nat.add_zero, ne_eq, not_false_eq_true, true_and, Bool.and_true, Bool.false_eq_true, and_self, Nat.succ_ne_zero, Nat.le_refl, curO, curA, curR, bytD, hia]
    refine ⟨.inl rfl, (⟨a - 1, x.a⟩, i3, h3), hi3, ?_⟩
    simp only [xRetP, rRs, rOs, rC, rCs, eRs, eOs, eC, eCs, aD, xRes, rD, eq_self, look, td0, td1, td2, td3, td4, td5, td6, List.map, List.length, List.not_mem_nil, List.nodup_cons, List.nodup_nil, List.append_nil, ↓reduceIte, Nat.reduceAdd, Nat.reduceEqDiff, Nat.zero_add, not_false_eq_true, reduceCtorEq, and_self, inO, curA, inR, bytD, Tryz.results26]
  by_cases v1 : v = 1
  · simp only [mkC, eC, eCs, aftS, aftV, AS.kb, rmBs, rmB, mkO, packRA, flatR, ePs, eP, bPs, bP, AS.kl, retA, List.headD_cons, eq_self, xRun, vE, vP, vBin, vBinT, isAg, isBo, vRow, isCutO, xFill, isB, bv, gN, isPick, isCall, AS.pt, AS.ev, AS.mk', kill, look, cav, avB, setRowG, AV.cells, AV.whole, AV.one, cD, cDs, eatsOf, dpOf, td0, td1, td2, td3, td4, td5, td6, Option.getD, Option.isSome, List.map, List.length, List.set, List.foldr, List.all, List.replicate, List.nodup_nil, List.append_nil, ↓reduceIte, Nat.reduceLT, Nat.reduceAdd, Nat.reduceLeDiff, Nat.reduceEqDiff, Nat.zero_add, Nat.mul_one, true_and, or_true, Bool.and_true, Bool.false_eq_true, reduceCtorEq, Int.reduceNeg, decide_true, decide_false, and_self, Nat.succ_ne_zero, Nat.le_refl, curO, curA, curR, bytD, v0, eq_true v1]
    refine sw_fzE 3 rfl ?_
    refine sw_callXR (con_PickInt zs hz [-1, 0, 299, 300, 10006, 10007] (by decide) (by decide) i2 hi2 h2) rfl rfl rfl ?_ ?_ ?_ ?_
    · simp only [rC, rCs, AS.em, AS.fz, fzT, fzB, AV.fz, AV.fzs, mPs, mP, aA, aD, intsD, rD, eq_self, AS.ev, look, td0, td1, td2, td3, td4, td5, td6, Option.getD, List.map, List.length, List.append_nil, ↓reduceIte, Nat.reduceAdd, Nat.reduceEqDiff, Nat.zero_add, Int.reduceNeg, and_self, curA, bytD, intsD]
    · simp only [eC, eCs, AS.fz, fzT, fzB, AV.fz, AV.fzs, ePs, eP, intsD, eq_self, AS.ev, look, td0, td1, td2, td3, td4, td5, td6, Option.getD, List.map, List.length, List.nodup_nil, List.append_nil, ↓reduceIte, Nat.reduceAdd, Nat.reduceEqDiff, Nat.zero_add, Int.reduceNeg, curA, bytD, intsD]
    · simp only [AS.fz, fzT, fzB, AV.fz, AV.fzs, bPs, bP, intsD, eq_self, AS.ev, look, td0, td1, td2, td3, td4, td5, td6, Option.getD, List.map, List.length, List.not_mem_nil, List.nodup_cons, List.nodup_nil, List.append_nil, ↓reduceIte, Nat.reduceAdd, Nat.reduceEqDiff, Nat.zero_add, not_false_eq_true, Int.reduceNeg, and_self, curA, bytD, intsD]
    rintro ⟨a, i3, h3⟩ ⟨ha, hi3⟩
    simp only at ha hi3
    refine sw_run 200 _ _ _ ?_
    simp only [mkC, eC, eCs, AS.fz, fzT, fzB, AV.fz, AV.fzs, aftS, aftV, AS.kb, rmBs, rmB, mkO, packRA, flatR, ePs, eP, bPs, bP, AS.kl, retA, List.headD_cons, intsD, eq_self, xRun, vE, vP, vSub, vLoad, vFld, vStore, isCutO, gN, isPick, isCall, AS.pt, AS.ev, AS.setb, kill, look, avB, setRowG, AV.cells, AV.whole, AV.one, td0, td1, td2, td3, td4, td5, td6, Option.getD, List.map, List.take, List.drop, List.length, List.set, List.foldr, List.all, List.append_nil, ↓reduceIte, Nat.reduceLT, Nat.reduceAdd, Nat.reduceEqDiff, Nat.zero_add, ne_eq, not_false_eq_true, true_and, Bool.and_true, Bool.false_eq_true, Int.reduceNeg, and_self, Nat.succ_ne_zero, Nat.le_refl, curO, curA, curR, bytD]
    refine ⟨.inl rfl, (⟨x.op, a⟩, i3, h3), hi3, ?_⟩
    simp only [xRetP, rRs, rOs, rC, rCs, eRs, eOs, eC, eCs, aD, xRes, rD, eq_self, look, td0, td1, td2, td3, td4, td5, td6, List.map, List.length, List.not_mem_nil, List.nodup_cons, List.nodup_nil, List.append_nil, ↓reduceIte, Nat.reduceAdd, Nat.reduceEqDiff, Nat.zero_add, not_false_eq_true, reduceCtorEq, Int.reduceNeg, and_self, inO, curA, inR, bytD, Tryz.results26]
  · simp only [mkC, eC, eCs, aftS, aftV, AS.kb, rmBs, rmB, mkO, packRA, flatR, ePs, eP, bPs, bP, AS.kl, retA, List.headD_cons, eq_self, xRun, vE, vP, vSub, vLoad, vBin, vBinT, isAg, isBo, vStore, isCutO, isB, bv, gN, isPick, isCall, AS.pt, AS.ev, AS.setb, kill, look, cav, avB, setRowG, AV.cells, AV.whole, AV.one, td0, td1, td2, td3, td4, td5, td6, Option.getD, List.map, List.take, List.drop, List.length, List.set, List.foldr, List.all, List.append_nil, ↓reduceIte, Nat.reduceLT, Nat.reduceAdd, Nat.reduceEqDiff, Nat.zero_add, true_and, Bool.and_true, Bool.false_eq_true, reduceCtorEq, decide_false, and_self, Nat.succ_ne_zero, Nat.le_refl, curO, curA, curR, bytD, v0, v1]
    refine ⟨.inl rfl, (x, i2, h2), hi2, ?_⟩
    simp only [xRetP, rRs, rOs, rC, rCs, eRs, eOs, eC, eCs, aD, xRes, rD, eq_self, look, td0, td1, td2, td3, td4, td5, td6, List.map, List.length, List.not_mem_nil, List.nodup_cons, List.nodup_nil, List.append_nil, ↓reduceIte, Nat.reduceAdd, Nat.reduceEqDiff, Nat.zero_add, not_false_eq_true, reduceCtorEq, and_self, inO, curA, inR, bytD, Tryz.results26]
theorem con_DrawInstr (zs : List Int) (hz : BytOk zs) : ConX Tryz.prog 5 [.b (.one (bytD zs))] (fun _ : Ins => True) (fun _ => []) (fun x : Ins => [.ag [.o (.int x.op), .o (.int x.a)]]) := by
  refine con_runX Tryz.func5 rfl rfl (by simp [Tryz.ntmps5]) (fun _ _ => rfl) ?_
  simp only [s0P, mkPs, mkPA, argA, numT, eq_self, xRun, vE, vP, isCutO, gN, isPick, isCall, AS.pt, AS.ev, AS.box, look, avB, td0, td1, td2, td3, td4, td5, td6, Option.getD, Option.isSome, ↓reduceIte, Nat.reduceLT, Nat.zero_add, true_and, Bool.false_eq_true, reduceCtorEq, bytD, Tryz.ntmps5]
  refine sw_callN con_New rfl rfl hz.1 hz.2 fun h => sw_run 200 _ _ _ ?_
  simp only [eq_self, xRun, gN, isPick, isCall, AS.pt, AS.box, td0, td1, td2, td3, td4, td5, td6, ↓reduceIte, Nat.reduceLT, Nat.reduceAdd, Bool.false_eq_true, bytD]
  refine sw_callXR (con_l21Bent zs hz 0 (Nat.zero_le _) h) rfl rfl rfl ?_ ?_ ?_ ?_
  · simp only [rC, rCs, AS.em, mPs, mP, aD, rD, eq_self, AS.ev, look, td0, td1, td2, td3, td4, td5, td6, Option.getD, List.map, List.append_nil, ↓reduceIte, Int.natCast_zero, and_self, curA, bytD]
  · simp only [eC, eCs, ePs, eP, eq_self, AS.ev, look, td0, td1, td2, td3, td4, td5, td6, Option.getD, List.map, List.nodup_nil, List.append_nil, ↓reduceIte, Int.natCast_zero, curA, bytD]
  · simp only [bPs, bP, eq_self, AS.ev, look, td0, td1, td2, td3, td4, td5, td6, Option.getD, List.map, List.not_mem_nil, List.nodup_cons, List.nodup_nil, List.append_nil, ↓reduceIte, not_false_eq_true, Int.natCast_zero, and_self, curA, bytD]
  rintro ⟨x, i1, h1⟩ hi1
  refine sw_run 200 _ _ _ ?_
  simp only [mkC, eC, eCs, aftS, aftV, AS.kb, rmBs, rmB, mkO, packRA, flatR, ePs, eP, bPs, bP, AS.kl, retA, eq_self, xRun, vE, vStore, isCutO, gN, isPick, isCall, AS.pt, AS.ev, AS.setb, kill, look, avB, setRowG, AV.cells, AV.whole, AV.one, td0, td1, td2, td3, td4, td5, td6, Option.getD, List.map, List.take, List.length, List.set, List.foldr, List.all, List.append_nil, ↓reduceIte, Nat.reduceLT, Nat.reduceAdd, Nat.reduceEqDiff, Nat.zero_add, true_and, Bool.and_true, Bool.false_eq_true, reduceCtorEq, Int.natCast_zero, and_self, Nat.le_refl, inO, curA, inR, bytD]
  refine ⟨.inl rfl, x, trivial, ?_⟩
  simp only [xRetP, rRs, rOs, rC, rCs, eRs, eOs, eC, eCs, xRes, rD, eq_self, look, td0, td1, td2, td3, td4, td5, td6, List.map, List.length, List.nodup_nil, List.append_nil, ↓reduceIte, Nat.reduceAdd, Nat.reduceEqDiff, Nat.zero_add, and_self, Tryz.results5]
def tuI1 (m : Nat) (x : ByteArray) : Prop := x.size ≤ m
def pickIn : List ByteArray := [⟨#[32]⟩, ⟨#[105, 110, 116]⟩, ⟨#[49]⟩, ⟨#[114, 101, 116]⟩, ⟨#[43]⟩]
theorem con_DrawPi (zs : List Int) (hz : BytOk zs) : ConX Tryz.prog 11 [.b (.one (bytD zs))] (tuI1 200) (fun _ => []) (fun x : ByteArray => [.one (.o (.str x))]) := by
  refine con_runX Tryz.func11 rfl rfl (by simp [Tryz.ntmps11]) (fun _ _ => rfl) ?_
  simp only [s0P, mkPs, mkPA, argA, numT, eq_self, xRun, vE, vP, isCutO, gN, isPick, isCall, AS.pt, AS.ev, look, cav, avB, td0, td1, td2, td3, td4, td5, td6, Option.getD, ↓reduceIte, Nat.reduceLT, true_and, Bool.false_eq_true, reduceCtorEq, bytD, Tryz.ntmps11]
  refine sw_callN con_New rfl rfl hz.1 hz.2 fun h => sw_run 200 _ _ _ ?_
  simp only [eq_self, xRun, vE, vP, isCutO, gN, isPick, isCall, AS.pt, AS.ev, AS.box, look, td0, td1, td2, td3, td4, td5, td6, Option.getD, ↓reduceIte, Nat.reduceLT, Nat.reduceEqDiff, Nat.zero_add, true_and, Bool.false_eq_true, bytD]
  refine sw_callXR (con_l21Bent zs hz 0 (Nat.zero_le _) h) rfl rfl rfl ?_ ?_ ?_ ?_
  · simp only [rC, rCs, AS.em, mPs, mP, aD, rD, eq_self, AS.ev, look, td0, td1, td2, td3, td4, td5, td6, Option.getD, List.map, List.append_nil, ↓reduceIte, Int.natCast_zero, and_self, curA, bytD]
  · simp only [eC, eCs, ePs, eP, eq_self, AS.ev, look, td0, td1, td2, td3, td4, td5, td6, Option.getD, List.map, List.nodup_nil, List.append_nil, ↓reduceIte, Int.natCast_zero, curA, bytD]
  · simp only [bPs, bP, eq_self, AS.ev, look, td0, td1, td2, td3, td4, td5, td6, Option.getD, List.map, List.not_mem_nil, List.nodup_cons, List.nodup_nil, List.append_nil, ↓reduceIte, not_false_eq_true, Int.natCast_zero, and_self, curA, bytD]
  rintro ⟨x, i1, h1⟩ hi1
  have hi1' : i1 ≤ zs.length := hi1
  refine sw_run 200 _ _ _ ?_
  simp only [mkC, eC, eCs, aftS, aftV, AS.kb, rmBs, rmB, mkO, packRA, flatR, ePs, eP, bPs, bP, AS.kl, retA, eq_self, xRun, gN, isPick, isCall, AS.pt, AS.ev, kill, look, avB, td0, td1, td2, td3, td4, td5, td6, Option.getD, List.map, List.take, List.length, List.foldr, List.append_nil, ↓reduceIte, Nat.reduceLT, Nat.reduceAdd, Nat.zero_add, Bool.false_eq_true, Int.natCast_zero, inO, curA, inR, bytD]
  refine sw_call (con_ItS x) rfl (aAs_ok ?_) ?_ (sw_run 200 _ _ _ ?_)
  · simp only [aAs, aA, aDs, aD, AS.ev, look, Option.getD, List.map, List.append_nil, ↓reduceIte, eq_self, and_self, insC]
  · simp only [okR]
  have hl := itB_len x
  have hT := con_Turned zs hz (itB x) (by omega) pickIn (by decide) (by decide) (by decide +kernel) i1 hi1' h1
  generalize itB x = y at *
  simp only [mkR, flatD, packA, retA, List.headD_cons, eq_self, xRun, vE, vRow, isCutO, xFill, gN, isPick, isCall, AS.pt, AS.ev, AS.mk', kill, cav, setRowG, AV.cells, AV.whole, AV.one, cD, cDs, eatsOf, dpOf, td0, td1, td2, td3, td4, td5, td6, Option.getD, Option.isSome, List.map, List.length, List.set, List.foldr, List.all, List.replicate, List.nodup_nil, ↓reduceIte, Nat.reduceLT, Nat.reduceAdd, Nat.reduceLeDiff, Nat.zero_add, Nat.mul_one, true_and, or_true, Bool.and_true, Bool.false_eq_true, and_self, Nat.succ_ne_zero, Nat.le_refl]
  refine sw_fzE 1 rfl ?_
  refine sw_callXR (hT) rfl rfl rfl ?_ ?_ ?_ ?_
  · simp only [rC, rCs, AS.em, AS.fz, fzT, fzB, AV.fz, AV.fzs, mPs, mP, aA, aD, strsD, rD, eq_self, AS.ev, look, td0, td1, td2, td3, td4, td5, td6, Option.getD, List.map, List.length, List.append_nil, ↓reduceIte, Nat.reduceAdd, Nat.reduceEqDiff, Nat.zero_add, and_self, curA, bytD, strsD, pickIn]
  · simp only [eC, eCs, AS.fz, fzT, fzB, AV.fz, AV.fzs, ePs, eP, strsD, eq_self, AS.ev, look, td0, td1, td2, td3, td4, td5, td6, Option.getD, List.map, List.length, List.nodup_nil, List.append_nil, ↓reduceIte, Nat.reduceAdd, Nat.reduceEqDiff, Nat.zero_add, curA, bytD, strsD, pickIn]
  · simp only [AS.fz, fzT, fzB, AV.fz, AV.fzs, bPs, bP, strsD, eq_self, AS.ev, look, td0, td1, td2, td3, td4, td5, td6, Option.getD, List.map, List.length, List.not_mem_nil, List.nodup_cons, List.nodup_nil, List.append_nil, ↓reduceIte, Nat.reduceAdd, Nat.reduceEqDiff, Nat.zero_add, not_false_eq_true, and_self, curA, bytD, strsD, pickIn]
  rintro ⟨z, i2, h2⟩ ⟨hz2, hi2⟩
  simp only at hz2 hi2
  refine sw_run 200 _ _ _ ?_
  simp only [mkC, eC, eCs, AS.fz, fzT, fzB, AV.fz, AV.fzs, aftS, aftV, AS.kb, rmBs, rmB, mkO, packRA, flatR, ePs, eP, bPs, bP, AS.kl, retA, List.headD_cons, strsD, eq_self, xRun, vE, vP, isCutO, gN, isPick, isCall, AS.pt, AS.ev, kill, look, avB, td0, td1, td2, td3, td4, td5, td6, Option.getD, List.map, List.foldr, List.append_nil, ↓reduceIte, Nat.reduceLT, Nat.reduceEqDiff, true_and, Bool.false_eq_true, txO, curA, txR, bytD]
  refine ⟨.inl rfl, z, ?_, ?_⟩
  · exact Nat.le_trans hz2 (by omega)
  · simp only [xRetP, rRs, rOs, rC, eRs, eOs, eC, xRes, rD, eq_self, look, td0, td1, td2, td3, td4, td5, td6, List.map, List.nodup_nil, List.append_nil, ↓reduceIte, and_self, Tryz.results11]
def cdI (xs : List Ins) : Prop := xs.length ≤ 6
theorem fl1 (xs : List Ins) (x : Ins) : flC insC (xs ++ [x]) = flC insC xs ++ [.int x.op, .int x.a] := by
  rw [flI_app]; rfl
theorem con_DrawCt (zs : List Int) (hz : BytOk zs) : ConX Tryz.prog 13 [.b (.one (bytD zs))] cdI (fun _ => []) (fun xs : List Ins => [.one (.o (inssD xs))]) := by
  refine con_runX Tryz.func13 rfl rfl (by simp [Tryz.ntmps13]) (fun _ _ => rfl) ?_
  simp only [s0P, mkPs, mkPA, argA, numT, eq_self, xRun, vE, vP, isCutO, gN, isPick, isCall, AS.pt, AS.ev, look, cav, avB, td0, td1, td2, td3, td4, td5, td6, Option.getD, ↓reduceIte, Nat.reduceLT, true_and, Bool.false_eq_true, reduceCtorEq, bytD, Tryz.ntmps13]
  refine sw_callN con_New rfl rfl hz.1 hz.2 fun h => sw_run 200 _ _ _ ?_
  simp only [eq_self, xRun, vE, vP, vRow, isCutO, xFill, gN, isPick, isCall, AS.pt, AS.ev, AS.box, AS.mk', kill, look, cDs, eatsOf, td0, td1, td2, td3, td4, td5, td6, Option.getD, Option.isSome, List.map, List.foldr, List.all, List.replicate, List.nodup_nil, ↓reduceIte, Nat.reduceLT, Nat.reduceAdd, Nat.reduceEqDiff, Nat.zero_add, Nat.zero_mul, true_and, or_true, Bool.false_eq_true, and_self, Nat.zero_le, bytD]
  refine sw_callXR (con_Below zs hz 5 (by decide) (by decide) 0 (Nat.zero_le _) h) rfl rfl rfl ?_ ?_ ?_ ?_
  · simp only [rC, rCs, AS.em, mPs, mP, aA, aD, rD, eq_self, AS.ev, look, cav, td0, td1, td2, td3, td4, td5, td6, Option.getD, List.map, List.append_nil, ↓reduceIte, Int.natCast_zero, and_self, curA, bytD]
  · simp only [eC, eCs, ePs, eP, eq_self, AS.ev, look, cav, td0, td1, td2, td3, td4, td5, td6, Option.getD, List.map, List.nodup_nil, List.append_nil, ↓reduceIte, Int.natCast_zero, curA, bytD]
  · simp only [bPs, bP, eq_self, AS.ev, look, cav, td0, td1, td2, td3, td4, td5, td6, Option.getD, List.map, List.not_mem_nil, List.nodup_cons, List.nodup_nil, List.append_nil, ↓reduceIte, not_false_eq_true, Int.natCast_zero, and_self, curA, bytD]
  rintro ⟨n, i0, h0⟩ ⟨hn, hi0⟩
  simp only at hn hi0
  refine sw_run 200 _ _ _ ?_
  simp only [mkC, eC, eCs, aftS, aftV, AS.kb, rmBs, rmB, mkO, packRA, flatR, ePs, eP, bPs, bP, AS.kl, retA, List.headD_cons, eq_self, xRun, vE, vP, isCutO, gN, isPick, isCall, AS.pt, AS.ev, kill, look, cav, avB, td0, td1, td2, td3, td4, td5, td6, Option.getD, List.map, List.foldr, List.append_nil, ↓reduceIte, Nat.reduceLT, true_and, Bool.false_eq_true, Int.natCast_zero, curO, curA, curR, bytD]
  refine sw_loop (fun x : List Ins × Nat × Nat × Int => x.1.length = x.2.1 ∧ x.2.1 ≤ 5 ∧ (x.2.1 : Int) ≤ n ∧ x.2.2.1 ≤ zs.length) (fun x => ⟨30, [(6, .i x.2.1), (5, .i n), (4, .sl 1), (3, .bx 0 0)], [(0, [.br (.rows 1 zs.length (zs.map D.byt)), .i x.2.2.1, .i x.2.2.2])], [(1, some ⟨.rows 2 x.1.length (flC insC x.1), some 25, true⟩)], 2, []⟩) (fun x => 6 - x.2.1) ([], 0, i0, h0) id ⟨rfl, by simp only; omega, by simp only; omega, hi0⟩ ?_ ?_
  · simp only [Sub, subT, subB, subO, subP, inj, AV.ren, AV.rens, AV.lt, AV.lts, eq_self, AS.owf, look, td0, td1, td2, td3, td4, td5, td6, Option.bind, List.map, List.length, List.not_mem_nil, List.nodup_cons, List.nodup_nil, ↓reduceIte, Nat.reduceLT, Nat.reduceEqDiff, not_false_eq_true, id_eq, Int.natCast_zero, and_self, Int.natCast_zero, flC0]
  rintro ⟨acc, k, i, h⟩ ⟨hk, hk5, hkn, hi⟩
  simp only at hk hk5 hkn hi
  refine sw_run 200 _ _ _ ?_
  by_cases hlt : (k : Int) < n
  · have hin2 : inI ((k : Int) + 1) := by unfold inI; omega
    simp only [eq_self, xRun, vE, vP, vBin, vBinT, isAg, isBo, isCutO, isB, bv, gN, isPick, isCall, AS.pt, AS.ev, look, td0, td1, td2, td3, td4, td5, td6, Option.getD, ↓reduceIte, Nat.reduceLT, Nat.reduceEqDiff, true_and, Bool.false_eq_true, decide_true, hlt]
    refine sw_callXR (con_l21Draw zs hz i hi h) rfl rfl rfl ?_ ?_ ?_ ?_
    · simp only [rC, rCs, AS.em, mPs, mP, aD, rD, eq_self, AS.ev, look, td0, td1, td2, td3, td4, td5, td6, Option.getD, List.map, List.append_nil, ↓reduceIte, and_self, curA, bytD]
    · simp only [eC, eCs, ePs, eP, eq_self, AS.ev, look, td0, td1, td2, td3, td4, td5, td6, Option.getD, List.map, List.nodup_nil, List.append_nil, ↓reduceIte, curA, bytD]
    · simp only [bPs, bP, eq_self, AS.ev, look, td0, td1, td2, td3, td4, td5, td6, Option.getD, List.map, List.not_mem_nil, List.nodup_cons, List.nodup_nil, List.append_nil, ↓reduceIte, not_false_eq_true, and_self, curA, bytD]
    rintro ⟨x, i1, h1⟩ hi1
    have hi1' : i1 ≤ zs.length := hi1
    refine sw_run 200 _ _ _ ?_
    simp only [mkC, eC, eCs, aftS, aftV, AS.kb, rmBs, rmB, mkO, packRA, flatR, ePs, eP, bPs, bP, AS.kl, retA, qLp, eq_self, xRun, vE, vP, vBin, vBinT, isAg, isBo, vRow, vApp, apP, apC, isCl, isCutO, xFill, appL, appR, gN, isPick, isCall, AS.pt, AS.ev, AS.mk', AS.owf, kill, look, cav, avB, setRowG, AV.cells, AV.whole, AV.one, cD, cDs, eatsOf, dpOf, td0, td1, td2, td3, td4, td5, td6, Option.bind, Option.getD, Option.isSome, List.map, List.take, List.length, List.set, List.foldr, List.all, List.replicate, List.mem_cons, List.not_mem_nil, List.nodup_nil, List.nil_append, List.cons_append, List.append_nil, ↓reduceIte, Nat.reduceLT, Nat.reduceAdd, Nat.reduceLeDiff, Nat.reduceEqDiff, Nat.zero_add, Nat.zero_mul, Nat.one_mul, true_and, or_false, or_true, Bool.and_true, Bool.false_eq_true, id_eq, reduceCtorEq, and_self, Nat.succ_ne_zero, Nat.le_refl, inO, curA, inR, bytD, hin2, qLp]
    refine ⟨⟨fun h => h.elim, fun o ho => by omega, by unfold maxLen; omega, by omega⟩, (acc ++ [x], k + 1, i1, h1), rnL [(0, 0), (1, 3)], ⟨by simp [hk], by simp only; omega, by simp only; omega, hi1'⟩, by simp only; omega, ?_⟩
    simp only [Sub, subT, subB, subO, subP, inj, AV.ren, AV.rens, AV.lt, AV.lts, eq_self, AS.owf, look, td0, td1, td2, td3, td4, td5, td6, Option.bind, Option.getD, List.map, List.length, List.not_mem_nil, List.nodup_cons, List.nodup_nil, ↓reduceIte, Nat.reduceLT, Nat.reduceEqDiff, Nat.zero_add, not_false_eq_true, id_eq, and_self, Nat.succ_ne_zero, rnL, cast1, fl1, List.length_append, Nat.zero_add]
  · simp only [qLp, eq_self, xRun, vE, vP, vBin, vBinT, isAg, isBo, isCutO, isB, bv, gN, isPick, isCall, popTo, AS.pt, AS.ev, look, td0, td1, td2, td3, td4, td5, td6, Option.getD, Option.isSome, ↓reduceIte, Nat.reduceLT, Nat.reduceEqDiff, true_and, Bool.false_eq_true, decide_false, hlt]
    refine sw_run 200 _ _ _ ?_
    simp only [eq_self, xRun, vE, vP, isCutO, gN, isPick, isCall, AS.pt, AS.ev, look, td0, td1, td2, td3, td4, td5, td6, Option.getD, ↓reduceIte, Nat.reduceLT, Nat.reduceEqDiff, true_and, Bool.false_eq_true]
    refine sw_callXR (con_Once zs hz 8 (by decide) (by decide) i hi h) rfl rfl rfl ?_ ?_ ?_ ?_
    · simp only [rC, rCs, AS.em, mPs, mP, aA, aD, rD, eq_self, AS.ev, look, cav, td0, td1, td2, td3, td4, td5, td6, Option.getD, List.map, List.append_nil, ↓reduceIte, and_self, curA, bytD]
    · simp only [eC, eCs, ePs, eP, eq_self, AS.ev, look, cav, td0, td1, td2, td3, td4, td5, td6, Option.getD, List.map, List.nodup_nil, List.append_nil, ↓reduceIte, curA, bytD]
    · simp only [bPs, bP, eq_self, AS.ev, look, cav, td0, td1, td2, td3, td4, td5, td6, Option.getD, List.map, List.not_mem_nil, List.nodup_cons, List.nodup_nil, List.append_nil, ↓reduceIte, not_false_eq_true, and_self, curA, bytD]
    rintro ⟨b, i1, h1⟩ hi1
    have hi1' : i1 ≤ zs.length := hi1
    refine sw_run 200 _ _ _ ?_
    cases b
    · simp only [mkC, eC, eCs, aftS, aftV, AS.kb, rmBs, rmB, mkO, packRA, flatR, ePs, eP, bPs, bP, AS.kl, retA, List.headD_cons, eq_self, xRun, vE, vP, isCutO, isB, bv, gN, isPick, isCall, AS.pt, AS.ev, kill, look, cav, avB, td0, td1, td2, td3, td4, td5, td6, Option.getD, List.map, List.foldr, List.append_nil, ↓reduceIte, Nat.reduceLT, Nat.reduceEqDiff, true_and, Bool.false_eq_true, bitO, curA, bitR, bytD]
      refine ⟨.inl rfl, acc, by unfold cdI; omega, ?_⟩
      simp only [xRetP, rRs, rOs, rC, eRs, eOs, eC, xRes, rD, eq_self, AS.owf, look, td0, td1, td2, td3, td4, td5, td6, Option.bind, List.map, List.not_mem_nil, List.nodup_cons, List.nodup_nil, List.append_nil, ↓reduceIte, not_false_eq_true, id_eq, and_self, inssD, Tryz.results13]
    · simp only [mkC, eC, eCs, aftS, aftV, AS.kb, rmBs, rmB, mkO, packRA, flatR, ePs, eP, bPs, bP, AS.kl, retA, List.headD_cons, eq_self, xRun, vE, vP, isCutO, isB, bv, gN, isPick, isCall, AS.pt, AS.ev, kill, look, cav, avB, td0, td1, td2, td3, td4, td5, td6, Option.getD, List.map, List.foldr, List.append_nil, ↓reduceIte, Nat.reduceLT, Nat.reduceEqDiff, true_and, Bool.false_eq_true, bitO, curA, bitR, bytD]
      refine sw_callXR (con_l21Bent zs hz i1 hi1' h1) rfl rfl rfl ?_ ?_ ?_ ?_
      · simp only [rC, rCs, AS.em, mPs, mP, aD, rD, eq_self, AS.ev, look, td0, td1, td2, td3, td4, td5, td6, Option.getD, List.map, List.append_nil, ↓reduceIte, and_self, curA, bytD]
      · simp only [eC, eCs, ePs, eP, eq_self, AS.ev, look, td0, td1, td2, td3, td4, td5, td6, Option.getD, List.map, List.nodup_nil, List.append_nil, ↓reduceIte, curA, bytD]
      · simp only [bPs, bP, eq_self, AS.ev, look, td0, td1, td2, td3, td4, td5, td6, Option.getD, List.map, List.not_mem_nil, List.nodup_cons, List.nodup_nil, List.append_nil, ↓reduceIte, not_false_eq_true, and_self, curA, bytD]
      rintro ⟨x, i2, h2⟩ hi2
      refine sw_run 200 _ _ _ ?_
      simp only [mkC, eC, eCs, aftS, aftV, AS.kb, rmBs, rmB, mkO, packRA, flatR, ePs, eP, bPs, bP, AS.kl, retA, eq_self, xRun, vE, vP, vRow, vApp, apP, apC, isCl, isCutO, xFill, appL, appR, gN, isPick, isCall, AS.pt, AS.ev, AS.mk', AS.owf, kill, look, avB, setRowG, AV.cells, AV.whole, AV.one, cD, cDs, eatsOf, dpOf, td0, td1, td2, td3, td4, td5, td6, Option.bind, Option.getD, Option.isSome, List.map, List.take, List.length, List.set, List.foldr, List.all, List.replicate, List.mem_cons, List.not_mem_nil, List.nodup_nil, List.nil_append, List.cons_append, List.append_nil, ↓reduceIte, Nat.reduceLT, Nat.reduceAdd, Nat.reduceLeDiff, Nat.reduceEqDiff, Nat.zero_add, Nat.zero_mul, Nat.one_mul, true_and, or_false, or_true, Bool.and_true, Bool.false_eq_true, id_eq, reduceCtorEq, and_self, Nat.succ_ne_zero, Nat.le_refl, inO, curA, inR, bytD]
      refine ⟨⟨fun h => h.elim, fun o ho => by omega, by unfold maxLen; omega, by omega⟩, .inl rfl, acc ++ [x], by unfold cdI; rw [List.length_append]; simp only [List.length_cons, List.length_nil]; omega, ?_⟩
      simp only [xRetP, rRs, rOs, rC, eRs, eOs, eC, xRes, rD, eq_self, AS.owf, look, td0, td1, td2, td3, td4, td5, td6, Option.bind, List.map, List.length, List.not_mem_nil, List.nodup_cons, List.nodup_nil, List.append_nil, ↓reduceIte, Nat.zero_add, not_false_eq_true, id_eq, and_self, inssD, fl1, List.length_append, Nat.zero_add, Tryz.results13]
theorem ctB_sz (xs : List Ins) (h : xs.length ≤ 6) : (ctB xs).size ≤ 1000 := by
  have hl := iwL_len xs xs.length (Nat.le_refl _)
  have hj := jn_len (iwL xs xs.length) ⟨#[59]⟩ 40 (fun i hi => by
    rw [getElem!_pos _ i hi]
    simp only [iwL, List.getElem_map]
    exact itB_len _) _ (Nat.le_refl _)
  have h1 : (⟨#[59]⟩ : ByteArray).data.toList.length = 1 := rfl
  rw [h1, hl] at hj
  show (jn (iwL xs xs.length) ⟨#[59]⟩ (iwL xs xs.length).length).toArray.size ≤ 1000
  rw [hl]
  simp only [List.size_toArray]
  omega
def pickCd : List ByteArray := [⟨#[59]⟩, ⟨#[32]⟩, ⟨#[114, 101, 116]⟩, ⟨#[120]⟩]
theorem con_DrawPc (zs : List Int) (hz : BytOk zs) : ConX Tryz.prog 14 [.b (.one (bytD zs))] (tuI1 2000) (fun _ => []) (fun x : ByteArray => [.one (.o (.str x))]) := by
  refine con_runX Tryz.func14 rfl rfl (by simp [Tryz.ntmps14]) (fun _ _ => rfl) ?_
  simp only [s0P, mkPs, mkPA, argA, numT, eq_self, xRun, vE, vP, isCutO, gN, isPick, isCall, AS.pt, AS.ev, look, cav, avB, td0, td1, td2, td3, td4, td5, td6, Option.getD, ↓reduceIte, Nat.reduceLT, true_and, Bool.false_eq_true, reduceCtorEq, bytD, Tryz.ntmps14]
  refine sw_callN con_New rfl rfl hz.1 hz.2 fun h => sw_run 200 _ _ _ ?_
  simp only [eq_self, xRun, vE, vP, isCutO, gN, isPick, isCall, AS.pt, AS.ev, AS.box, look, td0, td1, td2, td3, td4, td5, td6, Option.getD, ↓reduceIte, Nat.reduceLT, Nat.zero_add, true_and, Bool.false_eq_true, reduceCtorEq, bytD]
  refine sw_callX (con_DrawCt zs hz) rfl rfl rfl (fun _ _ => rfl) ?_ ?_ ?_ ?_
  · simp only [AS.kb, rmBs, mPs, mP, ePs, eP, bPs, bP, aA, aD, AS.kl, eq_self, AS.ev, kill, look, td0, td1, td2, td3, td4, td5, td6, Option.getD, List.map, List.foldr, List.append_nil, ↓reduceIte, and_self, bytD]
  · simp only [ePs, eP, eq_self, AS.ev, look, td0, td1, td2, td3, td4, td5, td6, Option.getD, List.map, List.nodup_nil, List.append_nil, ↓reduceIte, bytD]
  · simp only [bPs, bP, eq_self, AS.ev, look, td0, td1, td2, td3, td4, td5, td6, Option.getD, List.map, List.nodup_nil, List.append_nil, ↓reduceIte, bytD]
  intro xs hxs
  refine sw_run 200 _ _ _ ?_
  simp only [mkC, aftS, aftV, AS.kb, rmBs, mkO, packRA, flatR, ePs, eP, bPs, bP, AS.kl, retA, List.headD_cons, eq_self, xRun, gN, isPick, isCall, AS.pt, AS.ev, AS.mk', kill, look, td0, td1, td2, td3, td4, td5, td6, Option.getD, List.map, List.foldr, List.append_nil, ↓reduceIte, Nat.reduceLT, Nat.reduceAdd, Bool.false_eq_true, inssD]
  refine sw_call (con_CtS xs (Nat.le_trans hxs (by decide))) rfl (aAs_ok ?_) ?_ (sw_run 200 _ _ _ ?_)
  · simp only [aAs, aA, aD, AS.ev, AS.owf, look, Option.bind, Option.getD, id_eq, List.map, List.append_nil, ↓reduceIte, eq_self, and_self, inssD]
  · simp only [okR]
  have hl := ctB_sz xs hxs
  have hT := con_Turned zs hz (ctB xs) (by omega) pickCd (by decide) (by decide) (by decide +kernel) 0 (Nat.zero_le _) h
  generalize ctB xs = y at *
  simp only [mkR, flatD, packA, retA, List.headD_cons, eq_self, xRun, vE, vRow, isCutO, xFill, gN, isPick, isCall, AS.pt, AS.ev, AS.mk', kill, cav, setRowG, AV.cells, AV.whole, AV.one, cD, cDs, eatsOf, dpOf, td0, td1, td2, td3, td4, td5, td6, Option.getD, Option.isSome, List.map, List.length, List.set, List.foldr, List.all, List.replicate, List.nodup_nil, ↓reduceIte, Nat.reduceLT, Nat.reduceAdd, Nat.reduceLeDiff, Nat.zero_add, Nat.mul_one, true_and, or_true, Bool.and_true, Bool.false_eq_true, and_self, Nat.succ_ne_zero, Nat.le_refl]
  refine sw_fzE 2 rfl ?_
  refine sw_callXR (hT) rfl rfl rfl ?_ ?_ ?_ ?_
  · simp only [rC, rCs, AS.em, AS.fz, fzT, fzB, AV.fz, AV.fzs, mPs, mP, aA, aD, strsD, rD, eq_self, AS.ev, look, td0, td1, td2, td3, td4, td5, td6, Option.getD, List.map, List.length, List.append_nil, ↓reduceIte, Nat.reduceAdd, Nat.reduceEqDiff, Nat.zero_add, Int.natCast_zero, and_self, curA, bytD, strsD, pickCd, Int.natCast_zero]
  · simp only [eC, eCs, AS.fz, fzT, fzB, AV.fz, AV.fzs, ePs, eP, strsD, eq_self, AS.ev, look, td0, td1, td2, td3, td4, td5, td6, Option.getD, List.map, List.length, List.nodup_nil, List.append_nil, ↓reduceIte, Nat.reduceAdd, Nat.reduceEqDiff, Nat.zero_add, Int.natCast_zero, curA, bytD, strsD, pickCd, Int.natCast_zero]
  · simp only [AS.fz, fzT, fzB, AV.fz, AV.fzs, bPs, bP, strsD, eq_self, AS.ev, look, td0, td1, td2, td3, td4, td5, td6, Option.getD, List.map, List.length, List.not_mem_nil, List.nodup_cons, List.nodup_nil, List.append_nil, ↓reduceIte, Nat.reduceAdd, Nat.reduceEqDiff, Nat.zero_add, not_false_eq_true, Int.natCast_zero, and_self, curA, bytD, strsD, pickCd, Int.natCast_zero]
  rintro ⟨z, i2, h2⟩ ⟨hz2, hi2⟩
  simp only at hz2 hi2
  refine sw_run 200 _ _ _ ?_
  simp only [mkC, eC, eCs, AS.fz, fzT, fzB, AV.fz, AV.fzs, aftS, aftV, AS.kb, rmBs, rmB, mkO, packRA, flatR, ePs, eP, bPs, bP, AS.kl, retA, List.headD_cons, strsD, eq_self, xRun, vE, vP, isCutO, gN, isPick, isCall, AS.pt, AS.ev, kill, look, avB, td0, td1, td2, td3, td4, td5, td6, Option.getD, List.map, List.foldr, List.append_nil, ↓reduceIte, Nat.reduceLT, Nat.reduceEqDiff, true_and, Bool.false_eq_true, Int.natCast_zero, txO, curA, txR, bytD]
  refine ⟨.inl rfl, z, ?_, ?_⟩
  · exact Nat.le_trans hz2 (by omega)
  · simp only [xRetP, rRs, rOs, rC, eRs, eOs, eC, xRes, rD, eq_self, look, td0, td1, td2, td3, td4, td5, td6, List.map, List.nodup_nil, List.append_nil, ↓reduceIte, and_self, Tryz.results14]
def pickOp : List ByteArray := [⟨#[43]⟩, ⟨#[45]⟩, ⟨#[42]⟩, ⟨#[61]⟩, ⟨#[60]⟩, ⟨#[38]⟩, ⟨#[124]⟩, ⟨#[33]⟩, ⟨#[]⟩, ⟨#[120]⟩, ⟨#[43, 43]⟩]
theorem con_DrawOa (zs : List Int) (hz : BytOk zs) : ConX Tryz.prog 46 [.b (.one (bytD zs))] (fun _ : ByteArray => True) (fun _ => []) (fun x : ByteArray => [.one (.o (.str x))]) := by
  refine con_runX Tryz.func46 rfl rfl (by simp [Tryz.ntmps46]) (fun _ _ => rfl) ?_
  simp only [s0P, mkPs, mkPA, argA, numT, eq_self, xRun, vE, vP, isCutO, gN, isPick, isCall, AS.pt, AS.ev, look, cav, avB, td0, td1, td2, td3, td4, td5, td6, Option.getD, ↓reduceIte, Nat.reduceLT, true_and, Bool.false_eq_true, reduceCtorEq, bytD, Tryz.ntmps46]
  refine sw_callN con_New rfl rfl hz.1 hz.2 fun h => sw_run 200 _ _ _ ?_
  simp only [eq_self, xRun, vE, vRow, isCutO, xFill, gN, isPick, isCall, AS.pt, AS.ev, AS.box, AS.mk', kill, cav, setRowG, AV.cells, AV.whole, AV.one, cD, cDs, eatsOf, dpOf, td0, td1, td2, td3, td4, td5, td6, Option.getD, Option.isSome, List.map, List.length, List.set, List.foldr, List.all, List.replicate, List.nodup_nil, ↓reduceIte, Nat.reduceLT, Nat.reduceAdd, Nat.reduceLeDiff, Nat.zero_add, Nat.mul_one, true_and, or_true, Bool.and_true, Bool.false_eq_true, and_self, Nat.succ_ne_zero, Nat.le_refl, bytD]
  refine sw_fzE 1 rfl ?_
  refine sw_callXR (con_Pick zs hz pickOp (by decide) (by decide) 0 (Nat.zero_le _) h) rfl rfl rfl ?_ ?_ ?_ ?_
  · simp only [rC, rCs, AS.em, AS.fz, fzT, fzB, AV.fz, AV.fzs, mPs, mP, aA, aD, strsD, rD, eq_self, AS.ev, look, td0, td1, td2, td3, td4, td5, td6, Option.getD, List.map, List.length, List.append_nil, ↓reduceIte, Nat.reduceAdd, Nat.reduceEqDiff, Nat.zero_add, Int.natCast_zero, and_self, curA, bytD, strsD, pickOp]
  · simp only [eC, eCs, AS.fz, fzT, fzB, AV.fz, AV.fzs, ePs, eP, strsD, eq_self, AS.ev, look, td0, td1, td2, td3, td4, td5, td6, Option.getD, List.map, List.length, List.nodup_nil, List.append_nil, ↓reduceIte, Nat.reduceAdd, Nat.reduceEqDiff, Nat.zero_add, Int.natCast_zero, curA, bytD, strsD, pickOp]
  · simp only [AS.fz, fzT, fzB, AV.fz, AV.fzs, bPs, bP, strsD, eq_self, AS.ev, look, td0, td1, td2, td3, td4, td5, td6, Option.getD, List.map, List.length, List.not_mem_nil, List.nodup_cons, List.nodup_nil, List.append_nil, ↓reduceIte, Nat.reduceAdd, Nat.reduceEqDiff, Nat.zero_add, not_false_eq_true, Int.natCast_zero, and_self, curA, bytD, strsD, pickOp]
  rintro ⟨z, i2, h2⟩ hz2
  refine sw_run 200 _ _ _ ?_
  simp only [mkC, eC, eCs, AS.fz, fzT, fzB, AV.fz, AV.fzs, aftS, aftV, AS.kb, rmBs, rmB, mkO, packRA, flatR, ePs, eP, bPs, bP, AS.kl, retA, List.headD_cons, strsD, eq_self, xRun, vE, vP, isCutO, gN, isPick, isCall, AS.pt, AS.ev, kill, look, avB, td0, td1, td2, td3, td4, td5, td6, Option.getD, List.map, List.foldr, List.append_nil, ↓reduceIte, Nat.reduceLT, Nat.reduceEqDiff, true_and, Bool.false_eq_true, Int.natCast_zero, txO, curA, txR, bytD]
  refine ⟨.inl rfl, z, trivial, ?_⟩
  simp only [xRetP, rRs, rOs, rC, eRs, eOs, eC, xRes, rD, eq_self, look, td0, td1, td2, td3, td4, td5, td6, List.map, List.nodup_nil, List.append_nil, ↓reduceIte, and_self, Tryz.results46]
theorem con_DrawOn (zs : List Int) (hz : BytOk zs) : ConX Tryz.prog 17 [.b (.one (bytD zs))] (fun _ : ByteArray => True) (fun _ => []) (fun x : ByteArray => [.one (.o (.str x))]) := by
  refine con_runX Tryz.func17 rfl rfl (by simp [Tryz.ntmps17]) (fun _ _ => rfl) ?_
  simp only [s0P, mkPs, mkPA, argA, numT, eq_self, xRun, vE, vP, isCutO, gN, isPick, isCall, AS.pt, AS.ev, look, cav, avB, td0, td1, td2, td3, td4, td5, td6, Option.getD, ↓reduceIte, Nat.reduceLT, true_and, Bool.false_eq_true, reduceCtorEq, bytD, Tryz.ntmps17]
  refine sw_callX (con_DrawOa zs hz) rfl rfl rfl (fun _ _ => rfl) ?_ ?_ ?_ ?_
  · simp only [AS.kb, rmBs, mPs, mP, ePs, eP, bPs, bP, aA, aD, AS.kl, eq_self, AS.ev, kill, look, td0, td1, td2, td3, td4, td5, td6, Option.getD, List.map, List.foldr, List.append_nil, ↓reduceIte, and_self, bytD]
  · simp only [ePs, eP, eq_self, AS.ev, look, td0, td1, td2, td3, td4, td5, td6, Option.getD, List.map, List.nodup_nil, List.append_nil, ↓reduceIte, bytD]
  · simp only [bPs, bP, eq_self, AS.ev, look, td0, td1, td2, td3, td4, td5, td6, Option.getD, List.map, List.nodup_nil, List.append_nil, ↓reduceIte, bytD]
  intro z _
  refine sw_run 200 _ _ _ ?_
  simp only [mkC, aftS, aftV, AS.kb, rmBs, mkO, packRA, flatR, ePs, eP, bPs, bP, AS.kl, retA, List.headD_cons, eq_self, xRun, vE, vP, isCutO, gN, isPick, isCall, AS.pt, AS.ev, kill, look, td0, td1, td2, td3, td4, td5, td6, Option.getD, List.map, List.foldr, List.append_nil, ↓reduceIte, Nat.reduceLT, true_and, Bool.false_eq_true]
  refine ⟨.inl rfl, z, trivial, ?_⟩
  simp only [xRetP, rRs, rOs, rC, eRs, eOs, eC, xRes, rD, eq_self, look, td0, td1, td2, td3, td4, td5, td6, List.map, List.nodup_nil, List.append_nil, ↓reduceIte, and_self, Tryz.results17]
theorem con_DrawOm (zs : List Int) (hz : BytOk zs) : ConX Tryz.prog 18 [.b (.one (bytD zs))] (fun x : Int => -1 ≤ x ∧ x ≤ 9) (fun _ => []) (fun x : Int => [.one (.o (.int x))]) := by
  refine con_runX Tryz.func18 rfl rfl (by simp [Tryz.ntmps18]) (fun _ _ => rfl) ?_
  simp only [s0P, mkPs, mkPA, argA, numT, eq_self, xRun, vE, vP, isCutO, gN, isPick, isCall, AS.pt, AS.ev, look, cav, avB, td0, td1, td2, td3, td4, td5, td6, Option.getD, ↓reduceIte, Nat.reduceLT, true_and, Bool.false_eq_true, reduceCtorEq, Int.reduceNeg, bytD, Tryz.ntmps18]
  refine sw_callN con_New rfl rfl hz.1 hz.2 fun h => sw_run 200 _ _ _ ?_
  simp only [eq_self, xRun, gN, isPick, isCall, AS.pt, AS.box, td0, td1, td2, td3, td4, td5, td6, ↓reduceIte, Nat.reduceLT, Nat.zero_add, Bool.false_eq_true, Int.reduceNeg, bytD]
  refine sw_callXR (con_Below zs hz 11 (by decide) (by decide) 0 (Nat.zero_le _) h) rfl rfl rfl ?_ ?_ ?_ ?_
  · simp only [rC, rCs, AS.em, mPs, mP, aA, aD, rD, eq_self, AS.ev, look, cav, td0, td1, td2, td3, td4, td5, td6, Option.getD, List.map, List.append_nil, ↓reduceIte, Int.natCast_zero, and_self, curA, bytD]
  · simp only [eC, eCs, ePs, eP, eq_self, AS.ev, look, cav, td0, td1, td2, td3, td4, td5, td6, Option.getD, List.map, List.nodup_nil, List.append_nil, ↓reduceIte, Int.natCast_zero, curA, bytD]
  · simp only [bPs, bP, eq_self, AS.ev, look, cav, td0, td1, td2, td3, td4, td5, td6, Option.getD, List.map, List.not_mem_nil, List.nodup_cons, List.nodup_nil, List.append_nil, ↓reduceIte, not_false_eq_true, Int.natCast_zero, and_self, curA, bytD]
  rintro ⟨n, i0, h0⟩ ⟨hn, hi0⟩
  simp only at hn hi0
  have hin : inI (n - 1) := by unfold inI; omega
  refine sw_run 200 _ _ _ ?_
  simp only [mkC, eC, eCs, aftS, aftV, AS.kb, rmBs, rmB, mkO, packRA, flatR, ePs, eP, bPs, bP, AS.kl, retA, List.headD_cons, eq_self, xRun, vE, vP, vBin, vBinT, isAg, isBo, isCutO, gN, isPick, isCall, AS.pt, AS.ev, kill, look, cav, avB, td0, td1, td2, td3, td4, td5, td6, Option.getD, List.map, List.foldr, List.append_nil, ↓reduceIte, Nat.reduceLT, true_and, Bool.false_eq_true, Int.reduceNeg, Int.natCast_zero, curO, curA, curR, bytD, hin]
  refine ⟨.inl rfl, n - 1, by omega, ?_⟩
  simp only [xRetP, rRs, rOs, rC, eRs, eOs, eC, xRes, rD, eq_self, look, td0, td1, td2, td3, td4, td5, td6, List.map, List.nodup_nil, List.append_nil, ↓reduceIte, and_self, Tryz.results18]
end Go.Proofs.YtfbjdeeomjfhkaaGreatDoor
