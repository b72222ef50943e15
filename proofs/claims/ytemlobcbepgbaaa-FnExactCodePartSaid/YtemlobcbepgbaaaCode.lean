/-
  Levels of terms, of both sides.
-/
import Derived.Test.YtemlobcbepgbaaaTmB
import Derived.Test.YtemlobcbepgbaaaLift
namespace Go.Proofs.Ytemlobcbepgbaaa
open Go.RowKit
set_option linter.unusedVariables false
set_option linter.unusedSimpArgs false
set_option maxRecDepth 20000
def plF (k n : Int) : Int := if k = 10 then n + 1 else if k = 11 then n - 1 else n
theorem plF_rng (k n : Int) : n - 1 ≤ plF k n ∧ plF k n ≤ n + 1 := by unfold plF; split <;> (try split) <;> omega
mutual
def levB (p : Tm → Int → Bool) : Tm → Int → Bool
  | .mk k s o n t r xs, m => p (.mk k s o n t r xs) m && levBs p xs (plF k m)
def levBs (p : Tm → Int → Bool) : List Tm → Int → Bool
  | [], _ => true
  | x :: xs, m => levB p x m && levBs p xs m
end
theorem levB_eq (p : Tm → Int → Bool) (t : Tm) (m : Int) : levB p t m = (p t m && levBs p t.args (plF t.kind m)) := by obtain ⟨k, s, o, n, ty, r, xs⟩ := t; rw [levB]; rfl
theorem levBs_drop (p : Tm → Int → Bool) (xs : List Tm) (m : Int) (k : Nat) (h : k < xs.length) : levBs p (xs.drop k) m = (levB p xs[k]! m && levBs p (xs.drop (k + 1)) m) := by
  rw [List.drop_eq_getElem_cons h, levBs, getElem!_pos xs k h]
def okB (t : Tm) (m : Int) : Bool := decide (0 ≤ m) && decide (m ≤ 2)
def genB (t : Tm) (m : Int) : Bool := !(decide (t.kind = 11) && decide (m = 1))
def rgL (t : Tm) (m : Int) : Prop := -(2000000000 - (szL (tmC t) : Int)) ≤ m ∧ m ≤ 2000000000 - (szL (tmC t) : Int)
theorem con_plI (t : Tm) (m : Int) (h : -3000000000 ≤ m ∧ m ≤ 3000000000) : Con Try.prog 243 [.ag (tmC t), .one (.int m)] [.one (.int (plF t.kind m))] := by
  have i1 : inI (m + 1) := by unfold inI; omega
  have i2 : inI (m - 1) := by unfold inI; omega
  unfold plF
  rcases pc (t.kind = 10) with h1 | h1
  all_goals rcases pc (t.kind = 11) with h2 | h2
  all_goals
    simp only [h1, h2, if_true, if_false]
    refine con_run Try.func243 rfl rfl (by simp [Try.ntmps243]) ?_
    simp only [argT, argA, fQ, tysD, tmsD, xRet, rPs, xRes, flatA, rD, eq_self, xRun, vE, vP, vSub, vLoad, vFld, vBin, vBinT, isAg, isBo, isCutO, isB, bv, gN, isPick, isCall, AS.pt, AS.ev, AS.box, look, cav, avB, AV.cells, AV.whole, AV.one, eatsOf, td0, td3, Option.getD, Option.isSome, List.map, List.getElem?_cons_zero, List.all, List.nodup_nil, ↓reduceIte, Nat.reduceLT, Nat.reduceEqDiff, Nat.zero_add, Nat.add_zero, ne_eq, not_false_eq_true, or_false, Bool.and_true, Bool.false_eq_true, reduceCtorEq, decide_true, decide_false, and_self, Nat.succ_ne_zero, tmC_eq, tysD, tmsD, h1, h2, i1, i2, Try.ntmps243, Try.results243]
theorem con_plS (t : Tm) (m : Int) (h : -3000000000 ≤ m ∧ m ≤ 3000000000) : Con Try.prog 241 [.ag (tmC t), .one (.int m)] [.one (.int (plF t.kind m))] := by
  have i1 : inI (m + 1) := by unfold inI; omega
  have i2 : inI (m - 1) := by unfold inI; omega
  unfold plF
  rcases pc (t.kind = 10) with h1 | h1
  all_goals rcases pc (t.kind = 11) with h2 | h2
  all_goals
    simp only [h1, h2, if_true, if_false]
    refine con_run Try.func241 rfl rfl (by simp [Try.ntmps241]) ?_
    simp only [argT, argA, fQ, tysD, tmsD, xRet, rPs, xRes, flatA, rD, eq_self, xRun, vE, vP, vSub, vLoad, vFld, vBin, vBinT, isAg, isBo, isCutO, isB, bv, gN, isPick, isCall, AS.pt, AS.ev, AS.box, look, cav, avB, AV.cells, AV.whole, AV.one, eatsOf, td0, td3, Option.getD, Option.isSome, List.map, List.getElem?_cons_zero, List.all, List.nodup_nil, ↓reduceIte, Nat.reduceLT, Nat.reduceEqDiff, Nat.zero_add, Nat.add_zero, ne_eq, not_false_eq_true, or_false, Bool.and_true, Bool.false_eq_true, reduceCtorEq, decide_true, decide_false, and_self, Nat.succ_ne_zero, tmC_eq, tysD, tmsD, h1, h2, i1, i2, Try.ntmps241, Try.results241]
theorem con_levels (p : Tm → Int → Bool) (h : FuncId) (B : Nat) (hB : B ≤ 1000000000) (hp : ∀ (t : Tm) (m : Int), szL (tmC t) ≤ B → Con Try.prog h [.ag (tmC t), .one (.int m)] [.one (.bool (p t m))]) : ∀ t : Tm, szL (tmC t) ≤ B → ∀ m, rgL t m → Con Try.prog 204 [.ag (tmC t), .one (.int m), .fn h []] [.one (.bool (levB p t m))] := by
  refine Tm.ind fun t ih hz m hm => ?_
  obtain ⟨m1, m2⟩ := hm
  have hA := hp t m hz
  have hL := con_plI t m (by omega)
  have hpr := plF_rng t.kind m
  have hz8 := (sz_partsE (t := t) (B := B) hz).2.2
  have hz9 := (sz_partsE (t := t) (Nat.le_refl _)).2.2
  rw [levB_eq]
  generalize p t m = c at *
  generalize plF t.kind m = q at *
  cases c
  case false =>
    rw [Bool.false_and]
    refine con_run Try.func204 rfl rfl (by simp [Try.ntmps204]) ?_
    simp only [argT, argA, argAs, tysD, tmsD, eq_self, xRun, vE, vP, vSub, vLoad, isCutO, gN, isPick, isCall, AS.pt, AS.ev, AS.box, look, cav, avB, AV.cells, AV.whole, AV.one, td0, Option.getD, List.map, List.take, List.drop, List.length, List.all, ↓reduceIte, Nat.reduceLT, Nat.reduceAdd, Nat.reduceEqDiff, Nat.zero_add, true_and, Bool.and_true, Bool.false_eq_true, Nat.succ_ne_zero, Nat.le_refl, tmC_eq, tysD, tmsD, Try.ntmps204]
    refine sw_call (hA) rfl (aAs_ok ?_) ?_ (sw_run 200 _ _ _ ?_)
    · simp only [aAs, aA, aDs, aD, tysD, tmsD, AS.ev, look, Option.getD, List.map, List.append_nil, ↓reduceIte, Nat.reduceEqDiff, eq_self, and_self, tmC_eq, tysD, tmsD]
    · simp only [okR]
    simp only [mkR, flatD, packA, retA, List.headD_cons, fQ, xRet, rPs, xRes, flatA, rD, eq_self, xRun, vE, vP, vNot, isCutO, isB, bv, gN, isPick, isCall, AS.pt, AS.ev, look, cav, eatsOf, Option.getD, List.map, List.nodup_nil, ↓reduceIte, Nat.reduceLT, or_false, Bool.not_false, Bool.false_eq_true, reduceCtorEq, and_self, Try.results204]
  rw [Bool.true_and]
  refine con_run Try.func204 rfl rfl (by simp [Try.ntmps204]) ?_
  simp only [argT, argA, argAs, tysD, tmsD, eq_self, xRun, vE, vP, vSub, vLoad, isCutO, gN, isPick, isCall, AS.pt, AS.ev, AS.box, look, cav, avB, AV.cells, AV.whole, AV.one, td0, Option.getD, List.map, List.take, List.drop, List.length, List.all, ↓reduceIte, Nat.reduceLT, Nat.reduceAdd, Nat.reduceEqDiff, Nat.zero_add, true_and, Bool.and_true, Bool.false_eq_true, Nat.succ_ne_zero, Nat.le_refl, tmC_eq, tysD, tmsD, Try.ntmps204]
  refine sw_call (hA) rfl (aAs_ok ?_) ?_ (sw_run 200 _ _ _ ?_)
  · simp only [aAs, aA, aDs, aD, tysD, tmsD, AS.ev, look, Option.getD, List.map, List.append_nil, ↓reduceIte, Nat.reduceEqDiff, eq_self, and_self, tmC_eq, tysD, tmsD]
  · simp only [okR]
  simp only [mkR, flatD, packA, retA, List.headD_cons, eq_self, xRun, vE, vP, vSub, vLoad, vFld, vNot, vLen, isCutO, isB, bv, gN, isPick, isCall, AS.pt, AS.ev, AS.rd, look, cav, td0, td3, td4, Option.getD, Option.isSome, List.getElem?_cons_zero, List.getElem?_cons_succ, ↓reduceIte, Nat.reduceLT, Nat.reduceEqDiff, Nat.zero_add, ne_eq, not_false_eq_true, true_and, Bool.not_true, Bool.false_eq_true, Nat.succ_ne_zero]
  refine sw_loop (fun k : Nat => k ≤ t.args.length ∧ levBs p (t.args.drop k) q = levBs p t.args q) (fun k => ⟨29, [(17, .i k), (16, .i t.args.length), (15, .br (.rows 9 t.args.length (tmsC t.args))), (1, .i m), (2, .fn h []), (3, .bx 0 0)], [(0, [.i t.kind, .s t.name, .s t.other, .i t.n, .i t.ty.kind, .br (.rows 2 t.ty.args.length (tysC t.ty.args)), .i t.res.kind, .br (.rows 2 t.res.args.length (tysC t.res.args)), .br (.rows 9 t.args.length (tmsC t.args))])], [], 1, []⟩) (fun k => t.args.length - k) 0 id ⟨Nat.zero_le _, rfl⟩ ?_ ?_
  · simp only [Sub, subT, subB, subO, subP, inj, AV.ren, AV.rens, AV.lt, AV.lts, eq_self, look, List.map, List.not_mem_nil, List.nodup_cons, List.nodup_nil, ↓reduceIte, Nat.reduceLT, Nat.reduceEqDiff, not_false_eq_true, id_eq, Int.natCast_zero, and_self, Nat.succ_ne_zero, Int.natCast_zero]
  · rintro k ⟨hk, hf⟩
    refine sw_run 200 _ _ _ ?_
    by_cases hlt : k < t.args.length
    · have hi : (k : Int) < (t.args.length : Int) := by omega
      have hR := tmsC_row' t.args k hlt
      have hmm := mem_bang hlt
      have hs := szL_tms' t.args k hlt
      have hrec := ih _ hmm (by omega) q ⟨by omega, by omega⟩
      rw [levBs_drop p t.args q k hlt] at hf
      obtain ⟨b, hb⟩ : ∃ b, b = levB p t.args[k]! q := ⟨_, rfl⟩
      rw [← hb] at hrec hf
      simp only [tysD, tmsD, rowD, eq_self, xRun, vE, vP, vSub, vLoad, vIdx, vBin, vBinT, isAg, isBo, vStore, isCutO, isB, bv, gN, isPick, isCall, AS.pt, AS.ev, AS.box, AS.setb, look, avB, setRowG, AV.cells, AV.whole, AV.one, td0, td1, td6, Option.getD, Option.isSome, List.map, List.take, List.drop, List.length, List.set, List.all, ↓reduceIte, Nat.reduceLT, Nat.reduceAdd, Nat.reduceEqDiff, Nat.zero_add, true_and, Bool.and_true, Bool.false_eq_true, Int.toNat_natCast, Int.natCast_nonneg, decide_true, and_self, Nat.le_refl, hi, hR, tmC_eq]
      refine sw_drawn (.cons 0 true (.cons 1 true (.cons 2 true (.cons 4 true (.cons 3 false (.cons 5 false (.cons 6 true (.nil)))))))) (by kernel_rfl) qLp_panic (by kernel_rfl) (sw_run 200 _ _ _ ?_)
      simp only [eq_self, xRun, vP, vSub, vLoad, gN, isPick, isCall, AS.pt, AS.ev, look, td0, Option.getD, Option.isSome, List.take, List.drop, List.length, List.getElem?_cons_zero, List.getElem?_cons_succ, ↓reduceIte, Nat.reduceLT, Nat.reduceAdd, Nat.reduceEqDiff, Nat.zero_add, true_and, Bool.false_eq_true, reduceCtorEq, Nat.le_refl]
      refine sw_callD (hL) rfl (aAs_ok ?_) ?_ (sw_run 200 _ _ _ ?_)
      · simp only [aAs, aA, aDs, aD, tysD, tmsD, AS.ev, look, Option.getD, List.map, List.append_nil, ↓reduceIte, Nat.reduceEqDiff, eq_self, and_self, tmC_eq, tysD, tmsD]
      · simp only [okR]
      simp only [mkR, flatD, packA, retA, List.headD_cons, eq_self, xRun, gN, isCall, AS.pt, Option.getD, Option.isSome, List.getElem?_cons_zero, List.getElem?_cons_succ, ↓reduceIte, Nat.reduceLT, true_and]
      refine sw_callD (hrec) rfl (aAs_ok ?_) ?_ (sw_run 200 _ _ _ ?_)
      · simp only [aAs, aA, aDs, aD, tysD, tmsD, AS.ev, look, Option.getD, List.map, List.append_nil, ↓reduceIte, Nat.reduceEqDiff, eq_self, and_self, tmC_eq, tysD, tmsD]
      · simp only [okR]
      cases b
      · rw [Bool.false_and] at hf
        simp only [mkR, flatD, packA, retA, List.headD_cons, fQ, qLp, xRet, rPs, xRes, flatA, rD, eq_self, xRun, vE, vP, vNot, isCutO, isB, bv, gN, isPick, isCall, AS.pt, AS.ev, look, cav, eatsOf, Option.getD, Option.isSome, List.map, List.getElem?_cons_zero, List.getElem?_cons_succ, List.nodup_nil, ↓reduceIte, Nat.reduceLT, or_false, Bool.not_false, Bool.false_eq_true, reduceCtorEq, and_self, ← hf, Try.results204]
      · simp only [mkR, flatD, packA, retA, List.headD_cons, qLp, eq_self, xRun, vE, vP, vBin, vBinT, isAg, isBo, vNot, isCutO, isB, bv, gN, isPick, isCall, AS.pt, AS.ev, look, cav, Option.getD, Option.isSome, List.getElem?_cons_zero, List.getElem?_cons_succ, ↓reduceIte, Nat.reduceLT, Nat.reduceEqDiff, true_and, Bool.not_true, Bool.false_eq_true, qLp]
        refine ⟨by unfold inI; omega, k + 1, id, ⟨by omega, by simpa using hf⟩, by omega, ?_⟩
        simp only [Sub, subT, subB, subO, subP, inj, AV.ren, AV.rens, AV.lt, AV.lts, eq_self, look, List.map, List.not_mem_nil, List.nodup_cons, List.nodup_nil, ↓reduceIte, Nat.reduceLT, Nat.reduceEqDiff, not_false_eq_true, id_eq, reduceCtorEq, and_self, cast1]
    · have hi : ¬ (k : Int) < (t.args.length : Int) := by omega
      rw [List.drop_of_length_le (by omega), levBs] at hf
      rw [← hf]
      simp only [qLp, eq_self, xRun, vE, vP, vBin, vBinT, isAg, isBo, isCutO, isB, bv, gN, isPick, isCall, popTo, AS.pt, AS.ev, look, Option.getD, Option.isSome, ↓reduceIte, Nat.reduceLT, Nat.reduceEqDiff, true_and, Bool.false_eq_true, decide_false, hi]
      refine sw_run 200 _ _ _ ?_
      simp only [fQ, xRet, rPs, xRes, flatA, rD, eq_self, xRun, vE, vP, isCutO, gN, isPick, isCall, AS.pt, AS.ev, look, cav, eatsOf, List.map, List.nodup_nil, ↓reduceIte, Nat.reduceLT, or_false, Bool.false_eq_true, reduceCtorEq, and_self, Try.results204]
theorem con_okAcc (t : Tm) (m : Int) : Con Try.prog 242 [.ag (tmC t), .one (.int m)] [.one (.bool (okB t m))] := by
  have h := con_within m 0 2
  unfold okB
  refine con_run Try.func242 rfl rfl (by simp [Try.ntmps242]) ?_
  simp only [argT, argA, tysD, tmsD, eq_self, xRun, vE, vP, isCutO, gN, isPick, isCall, AS.pt, AS.ev, AS.box, look, cav, avB, AV.cells, AV.whole, AV.one, Option.getD, List.map, List.all, ↓reduceIte, Nat.reduceLT, Nat.reduceEqDiff, Nat.zero_add, true_and, Bool.and_true, Bool.false_eq_true, Nat.succ_ne_zero, tmC_eq, tysD, tmsD, Try.ntmps242]
  refine sw_call (h) rfl (aAs_ok ?_) ?_ (sw_run 200 _ _ _ ?_)
  · simp only [aAs, aA, aD, AS.ev, look, cav, Option.getD, List.map, List.append_nil, ↓reduceIte, eq_self, and_self]
  · simp only [okR]
  simp only [mkR, flatD, packA, retA, List.headD_cons, fQ, xRet, rPs, xRes, flatA, rD, eq_self, xRun, vE, vP, isCutO, gN, isPick, isCall, AS.pt, AS.ev, look, eatsOf, Option.getD, List.map, List.nodup_nil, ↓reduceIte, Nat.reduceLT, or_false, Bool.false_eq_true, reduceCtorEq, and_self, Try.results242]
theorem con_LevelsOk (t : Tm) (m : Int) (hz : szL (tmC t) ≤ 1000000000) (hm : rgL t m) : Con Try.prog 203 [.ag (tmC t), .one (.int m)] [.one (.bool (allTm isFm t && levB okB t m))] := by
  have hI := con_IsTermI t hz
  have hL := con_levels okB _ 1000000000 (Nat.le_refl _) (fun t m _ => con_okAcc t m) t hz m hm
  generalize allTm isFm t = a at *
  generalize levB okB t m = b at *
  cases a
  all_goals
    refine con_run Try.func203 rfl rfl (by simp [Try.ntmps203]) ?_
    simp only [argT, argA, tysD, tmsD, eq_self, xRun, vE, vP, vSub, vLoad, isCutO, gN, isPick, isCall, AS.pt, AS.ev, AS.box, look, cav, avB, AV.cells, AV.whole, AV.one, td0, Option.getD, List.map, List.take, List.drop, List.length, List.all, ↓reduceIte, Nat.reduceLT, Nat.reduceAdd, Nat.reduceEqDiff, Nat.zero_add, true_and, Bool.true_and, Bool.and_true, Bool.false_and, Bool.false_eq_true, Nat.le_refl, tmC_eq, tysD, tmsD, Try.ntmps203]
    refine sw_call (hI) rfl (aAs_ok ?_) ?_ (sw_run 200 _ _ _ ?_)
    · simp only [aAs, aA, aDs, aD, tysD, tmsD, AS.ev, look, Option.getD, List.map, List.append_nil, ↓reduceIte, eq_self, and_self, tmC_eq, tysD, tmsD]
    · simp only [okR]
    try simp only [mkR, flatD, packA, retA, List.headD_cons, fQ, xRet, rPs, xRes, flatA, rD, eq_self, xRun, vE, vP, vSub, vLoad, isCutO, isB, bv, gT, gW, gN, gV, isU, isPick, pkC, pkB, isCall, AS.pt, AS.kn, AS.ev, look, cav, eatsOf, td0, Option.bind, Option.getD, Option.isSome, List.map, List.take, List.drop, List.length, List.getElem?_cons_zero, List.getElem?_cons_succ, List.nodup_nil, ↓reduceIte, Nat.reduceLT, Nat.reduceAdd, Nat.reduceEqDiff, Nat.zero_add, true_and, or_false, Bool.not_true, Bool.false_eq_true, reduceCtorEq, and_self, Nat.succ_ne_zero, Nat.le_refl, Try.results203]
  · refine sw_call (hL) rfl (aAs_ok ?_) ?_ (sw_run 200 _ _ _ ?_)
    · simp only [aAs, aA, aDs, aD, tysD, tmsD, AS.ev, look, Option.getD, List.map, List.append_nil, ↓reduceIte, Nat.reduceEqDiff, eq_self, and_self, tmC_eq, tysD, tmsD]
    · simp only [okR]
    simp only [mkR, flatD, packA, retA, List.headD_cons, fQ, xRet, rPs, xRes, flatA, rD, eq_self, xRun, vE, vP, isCutO, isB, bv, gN, isPick, pkC, pkA, isCall, AS.pt, AS.ev, look, eatsOf, Option.getD, List.map, List.nodup_nil, ↓reduceIte, Nat.reduceLT, Nat.reduceEqDiff, or_false, Bool.false_eq_true, reduceCtorEq, and_self, Try.results203]
theorem con_genAcc (t : Tm) (m : Int) : Con Try.prog 205 [.ag (tmC t), .one (.int m)] [.one (.bool (genB t m))] := by
  unfold genB
  rcases pc (t.kind = 11) with h1 | h1
  all_goals rcases pc (m = 1) with h2 | h2
  all_goals
    refine con_run Try.func205 rfl rfl (by simp [Try.ntmps205]) ?_
    simp only [argT, argA, fQ, tysD, tmsD, xRet, rPs, xRes, flatA, rD, eq_self, xRun, vE, vP, vSub, vLoad, vFld, vBin, vBinT, isAg, isBo, isCutO, isB, bv, gT, gW, gN, gV, isU, isPick, pkC, pkA, pkB, isCall, AS.pt, AS.kn, AS.ev, AS.box, look, cav, avB, AV.cells, AV.whole, AV.one, eatsOf, td0, td3, Option.bind, Option.getD, Option.isSome, List.map, List.getElem?_cons_zero, List.getElem?_cons_succ, List.all, List.nodup_nil, ↓reduceIte, Nat.reduceLT, Nat.reduceEqDiff, Nat.zero_add, Nat.add_zero, ne_eq, not_false_eq_true, not_true_eq_false, or_false, Bool.and_true, Bool.and_false, Bool.not_true, Bool.not_false, Bool.false_eq_true, Bool.true_eq_false, reduceCtorEq, decide_true, decide_false, and_self, Nat.succ_ne_zero, tmC_eq, tysD, tmsD, h1, h2, Try.ntmps205, Try.results205]
theorem con_IsGenerated (t : Tm) (m : Int) (hz : szL (tmC t) ≤ 1000000000) (hm : rgL t m) : Con Try.prog 140 [.ag (tmC t), .one (.int m)] [.one (.bool (allTm isFm t && levB okB t m && levB genB t m))] := by
  have hI := con_LevelsOk t m hz hm
  have hL := con_levels genB _ 1000000000 (Nat.le_refl _) (fun t m _ => con_genAcc t m) t hz m hm
  generalize (allTm isFm t && levB okB t m) = a at *
  generalize levB genB t m = b at *
  cases a
  all_goals
    refine con_run Try.func140 rfl rfl (by simp [Try.ntmps140]) ?_
    simp only [argT, argA, tysD, tmsD, eq_self, xRun, vE, vP, vSub, vLoad, isCutO, gN, isPick, isCall, AS.pt, AS.ev, AS.box, look, cav, avB, AV.cells, AV.whole, AV.one, td0, Option.getD, List.map, List.take, List.drop, List.length, List.all, ↓reduceIte, Nat.reduceLT, Nat.reduceAdd, Nat.reduceEqDiff, Nat.zero_add, true_and, Bool.true_and, Bool.and_true, Bool.false_and, Bool.false_eq_true, Nat.succ_ne_zero, Nat.le_refl, tmC_eq, tysD, tmsD, Try.ntmps140]
    refine sw_call (hI) rfl (aAs_ok ?_) ?_ (sw_run 200 _ _ _ ?_)
    · simp only [aAs, aA, aDs, aD, tysD, tmsD, AS.ev, look, Option.getD, List.map, List.append_nil, ↓reduceIte, Nat.reduceEqDiff, eq_self, and_self, tmC_eq, tysD, tmsD]
    · simp only [okR]
    try simp only [mkR, flatD, packA, retA, List.headD_cons, fQ, xRet, rPs, xRes, flatA, rD, eq_self, xRun, vE, vP, vSub, vLoad, isCutO, isB, bv, gT, gW, gN, gV, isU, isPick, pkC, pkB, isCall, AS.pt, AS.kn, AS.ev, look, cav, eatsOf, td0, Option.bind, Option.getD, Option.isSome, List.map, List.take, List.drop, List.length, List.getElem?_cons_zero, List.getElem?_cons_succ, List.nodup_nil, ↓reduceIte, Nat.reduceLT, Nat.reduceAdd, Nat.reduceEqDiff, Nat.zero_add, true_and, or_false, Bool.not_true, Bool.false_eq_true, reduceCtorEq, and_self, Nat.succ_ne_zero, Nat.le_refl, Try.results140]
  · refine sw_call (hL) rfl (aAs_ok ?_) ?_ (sw_run 200 _ _ _ ?_)
    · simp only [aAs, aA, aDs, aD, tysD, tmsD, AS.ev, look, Option.getD, List.map, List.append_nil, ↓reduceIte, Nat.reduceEqDiff, eq_self, and_self, tmC_eq, tysD, tmsD]
    · simp only [okR]
    simp only [mkR, flatD, packA, retA, List.headD_cons, fQ, xRet, rPs, xRes, flatA, rD, eq_self, xRun, vE, vP, isCutO, isB, bv, gN, isPick, pkC, pkA, isCall, AS.pt, AS.ev, look, eatsOf, Option.getD, List.map, List.nodup_nil, ↓reduceIte, Nat.reduceLT, Nat.reduceEqDiff, or_false, Bool.false_eq_true, reduceCtorEq, and_self, Try.results140]
theorem con_l8Ok : ∀ t : Tm, szL (tmC t) ≤ 1000000000 → ∀ m, rgL t m → Con Try.prog 201 [.ag (tmC t), .one (.int m)] [.one (.bool (levB okB t m))] := by
  refine Tm.ind fun t ih hz m hm => ?_
  obtain ⟨m1, m2⟩ := hm
  have hL := con_plS t m (by omega)
  have hpr := plF_rng t.kind m
  have hz8 := (sz_partsE hz).2.2
  have hz9 := (sz_partsE (t := t) (Nat.le_refl _)).2.2
  have hA := con_l1In m 0 2
  rw [levB_eq]
  have hac : okB t m = (decide (0 ≤ m) && decide (m ≤ 2)) := rfl
  rw [← hac] at hA
  generalize okB t m = c at *
  generalize plF t.kind m = q at *
  cases c
  case false =>
    rw [Bool.false_and]
    refine con_run Try.func201 rfl rfl (by simp [Try.ntmps201]) ?_
    simp only [argT, argA, tysD, tmsD, eq_self, xRun, vE, vP, isCutO, gN, isPick, isCall, AS.pt, AS.ev, AS.box, look, cav, avB, AV.cells, AV.whole, AV.one, Option.getD, List.map, List.all, ↓reduceIte, Nat.reduceLT, Nat.reduceEqDiff, Nat.zero_add, true_and, Bool.and_true, Bool.false_eq_true, Nat.succ_ne_zero, tmC_eq, tysD, tmsD, Try.ntmps201]
    refine sw_call (hA) rfl (aAs_ok ?_) ?_ (sw_run 200 _ _ _ ?_)
    · simp only [aAs, aA, aD, AS.ev, look, cav, Option.getD, List.map, List.append_nil, ↓reduceIte, eq_self, and_self]
    · simp only [okR]
    simp only [mkR, flatD, packA, retA, List.headD_cons, fQ, xRet, rPs, xRes, flatA, rD, eq_self, xRun, vE, vP, vNot, isCutO, isB, bv, gN, isPick, isCall, AS.pt, AS.ev, look, cav, eatsOf, Option.getD, List.map, List.nodup_nil, ↓reduceIte, Nat.reduceLT, or_false, Bool.not_false, Bool.false_eq_true, reduceCtorEq, and_self, Try.results201]
  rw [Bool.true_and]
  refine con_run Try.func201 rfl rfl (by simp [Try.ntmps201]) ?_
  simp only [argT, argA, tysD, tmsD, eq_self, xRun, vE, vP, isCutO, gN, isPick, isCall, AS.pt, AS.ev, AS.box, look, cav, avB, AV.cells, AV.whole, AV.one, Option.getD, List.map, List.all, ↓reduceIte, Nat.reduceLT, Nat.reduceEqDiff, Nat.zero_add, true_and, Bool.and_true, Bool.false_eq_true, Nat.succ_ne_zero, tmC_eq, tysD, tmsD, Try.ntmps201]
  refine sw_call (hA) rfl (aAs_ok ?_) ?_ (sw_run 200 _ _ _ ?_)
  · simp only [aAs, aA, aD, AS.ev, look, cav, Option.getD, List.map, List.append_nil, ↓reduceIte, eq_self, and_self]
  · simp only [okR]
  simp only [mkR, flatD, packA, retA, List.headD_cons, eq_self, xRun, vE, vP, vNot, isCutO, isB, bv, gN, isPick, isCall, AS.pt, AS.ev, look, cav, Option.getD, ↓reduceIte, Nat.reduceLT, true_and, Bool.not_true, Bool.false_eq_true]
  refine sw_loop (fun k : Nat => k ≤ t.args.length ∧ levBs okB (t.args.drop k) q = levBs okB t.args q) (fun k => ⟨26, [(5, .i k), (1, .i m), (2, .bx 0 0)], [(0, [.i t.kind, .s t.name, .s t.other, .i t.n, .i t.ty.kind, .br (.rows 2 t.ty.args.length (tysC t.ty.args)), .i t.res.kind, .br (.rows 2 t.res.args.length (tysC t.res.args)), .br (.rows 9 t.args.length (tmsC t.args))])], [], 1, []⟩) (fun k => t.args.length - k) 0 id ⟨Nat.zero_le _, rfl⟩ ?_ ?_
  · simp only [Sub, subT, subB, subO, subP, inj, AV.ren, AV.rens, AV.lt, AV.lts, eq_self, look, List.map, List.not_mem_nil, List.nodup_cons, List.nodup_nil, ↓reduceIte, Nat.reduceLT, Nat.reduceEqDiff, not_false_eq_true, id_eq, Int.natCast_zero, and_self, Nat.succ_ne_zero, Int.natCast_zero]
  · rintro k ⟨hk, hf⟩
    refine sw_run 200 _ _ _ ?_
    by_cases hlt : k < t.args.length
    · have hi : (k : Int) < (t.args.length : Int) := by omega
      have hR := tmsC_row' t.args k hlt
      have hmm := mem_bang hlt
      have hs := szL_tms' t.args k hlt
      have hrec := ih _ hmm (by omega) q ⟨by omega, by omega⟩
      rw [levBs_drop okB t.args q k hlt] at hf
      obtain ⟨b, hb⟩ : ∃ b, b = levB okB t.args[k]! q := ⟨_, rfl⟩
      rw [← hb] at hrec hf
      simp only [eq_self, xRun, vE, vP, vSub, vLoad, vFld, vBin, vBinT, isAg, isBo, vLen, isCutO, isB, bv, gN, isPick, isCall, AS.pt, AS.ev, AS.rd, look, td0, td3, td4, Option.getD, Option.isSome, List.getElem?_cons_zero, List.getElem?_cons_succ, ↓reduceIte, Nat.reduceLT, Nat.reduceEqDiff, Nat.zero_add, ne_eq, not_false_eq_true, true_and, Bool.false_eq_true, decide_true, Nat.succ_ne_zero, hi]
      refine sw_drawn (.cons 0 true (.cons 1 true (.cons 2 true (.cons 3 true (.cons 4 true (.cons 5 true (.cons 6 true (.cons 7 false (.cons 8 false (.cons 9 true (.nil))))))))))) (by kernel_rfl) qLp_panic (by kernel_rfl) (sw_run 200 _ _ _ ?_)
      simp only [tysD, tmsD, rowD, eq_self, xRun, vP, vSub, vLoad, vFld, vIdx, gN, isPick, isCall, AS.pt, AS.ev, look, avB, td0, td1, td3, Option.getD, Option.isSome, List.map, List.take, List.drop, List.length, List.getElem?_cons_zero, List.getElem?_cons_succ, ↓reduceIte, Nat.reduceLT, Nat.reduceAdd, Nat.reduceEqDiff, Nat.zero_add, ne_eq, not_false_eq_true, true_and, Bool.false_eq_true, Int.toNat_natCast, Int.natCast_nonneg, and_self, Nat.succ_ne_zero, Nat.le_refl, hi, hR, tmC_eq]
      refine sw_callD (hL) rfl (aAs_ok ?_) ?_ (sw_run 200 _ _ _ ?_)
      · simp only [aAs, aA, aDs, aD, tysD, tmsD, AS.ev, look, Option.getD, List.map, List.append_nil, ↓reduceIte, Nat.reduceEqDiff, eq_self, and_self, tmC_eq, tysD, tmsD]
      · simp only [okR]
      simp only [mkR, flatD, packA, retA, List.headD_cons, eq_self, xRun, gN, isCall, AS.pt, Option.getD, Option.isSome, List.getElem?_cons_zero, List.getElem?_cons_succ, ↓reduceIte, Nat.reduceLT, true_and]
      refine sw_callD (hrec) rfl (aAs_ok ?_) ?_ (sw_run 200 _ _ _ ?_)
      · simp only [aAs, aA, aDs, aD, tysD, tmsD, AS.ev, look, Option.getD, List.map, List.append_nil, ↓reduceIte, Nat.reduceEqDiff, eq_self, and_self, tmC_eq, tysD, tmsD]
      · simp only [okR]
      cases b
      · rw [Bool.false_and] at hf
        simp only [mkR, flatD, packA, retA, List.headD_cons, fQ, qLp, xRet, rPs, xRes, flatA, rD, eq_self, xRun, vE, vP, vNot, isCutO, isB, bv, gN, isPick, isCall, AS.pt, AS.ev, look, cav, eatsOf, Option.getD, Option.isSome, List.map, List.getElem?_cons_zero, List.getElem?_cons_succ, List.nodup_nil, ↓reduceIte, Nat.reduceLT, or_false, Bool.not_false, Bool.false_eq_true, reduceCtorEq, and_self, ← hf, Try.results201]
      · simp only [mkR, flatD, packA, retA, List.headD_cons, qLp, eq_self, xRun, vE, vP, vBin, vBinT, isAg, isBo, vNot, isCutO, isB, bv, gN, isPick, isCall, AS.pt, AS.ev, look, cav, Option.getD, Option.isSome, List.getElem?_cons_zero, List.getElem?_cons_succ, ↓reduceIte, Nat.reduceLT, Nat.reduceEqDiff, true_and, Bool.not_true, Bool.false_eq_true, qLp]
        refine ⟨by unfold inI; omega, k + 1, id, ⟨by omega, by simpa using hf⟩, by omega, ?_⟩
        simp only [Sub, subT, subB, subO, subP, inj, AV.ren, AV.rens, AV.lt, AV.lts, eq_self, look, List.map, List.not_mem_nil, List.nodup_cons, List.nodup_nil, ↓reduceIte, Nat.reduceLT, Nat.reduceEqDiff, not_false_eq_true, id_eq, and_self, cast1]
    · have hi : ¬ (k : Int) < (t.args.length : Int) := by omega
      rw [List.drop_of_length_le (by omega), levBs] at hf
      rw [← hf]
      simp only [qLp, eq_self, xRun, vE, vP, vSub, vLoad, vFld, vBin, vBinT, isAg, isBo, vLen, isCutO, isB, bv, gN, isPick, isCall, popTo, AS.pt, AS.ev, AS.rd, look, td0, td3, td4, Option.getD, Option.isSome, List.getElem?_cons_zero, List.getElem?_cons_succ, ↓reduceIte, Nat.reduceLT, Nat.reduceEqDiff, Nat.zero_add, ne_eq, not_false_eq_true, true_and, Bool.false_eq_true, decide_false, Nat.succ_ne_zero, hi]
      refine sw_run 200 _ _ _ ?_
      simp only [fQ, xRet, rPs, xRes, flatA, rD, eq_self, xRun, vE, vP, isCutO, gN, isPick, isCall, AS.pt, AS.ev, look, cav, eatsOf, List.map, List.nodup_nil, ↓reduceIte, Nat.reduceLT, or_false, Bool.false_eq_true, reduceCtorEq, and_self, Try.results201]
theorem con_l8Made : ∀ t : Tm, szL (tmC t) ≤ 1000000000 → ∀ m, rgL t m → Con Try.prog 202 [.ag (tmC t), .one (.int m)] [.one (.bool (levB genB t m))] := by
  refine Tm.ind fun t ih hz m hm => ?_
  obtain ⟨m1, m2⟩ := hm
  have hL := con_plS t m (by omega)
  have hpr := plF_rng t.kind m
  have hz8 := (sz_partsE hz).2.2
  have hz9 := (sz_partsE (t := t) (Nat.le_refl _)).2.2
  rw [levB_eq]
  have hac : genB t m = !(decide (t.kind = 11) && decide (m = 1)) := rfl
  generalize genB t m = c at *
  generalize plF t.kind m = q at *
  rcases pc (t.kind = 11) with h1 | h1
  case inl =>
    rcases pc (m = 1) with h2 | h2
    case inl =>
      simp only [h1, h2, decide_true, Bool.and_true, Bool.not_true] at hac
      subst hac
      rw [Bool.false_and]
      refine con_run Try.func202 rfl rfl (by simp [Try.ntmps202]) ?_
      simp only [argT, argA, fQ, tysD, tmsD, xRet, rPs, xRes, flatA, rD, eq_self, xRun, vE, vP, vSub, vLoad, vFld, vBin, vBinT, isAg, isBo, isCutO, isB, bv, gT, gW, gN, gV, isU, isPick, pkC, pkA, isCall, AS.pt, AS.kn, AS.ev, AS.box, look, cav, avB, AV.cells, AV.whole, AV.one, eatsOf, td0, td3, Option.bind, Option.getD, Option.isSome, List.map, List.getElem?_cons_zero, List.getElem?_cons_succ, List.all, List.nodup_nil, ↓reduceIte, Nat.reduceLT, Nat.reduceEqDiff, Nat.zero_add, Nat.add_zero, ne_eq, not_false_eq_true, or_false, Bool.and_true, Bool.false_eq_true, reduceCtorEq, decide_true, and_self, Nat.succ_ne_zero, tmC_eq, tysD, tmsD, h1, h2, Try.ntmps202, Try.results202]
    simp only [h1, h2, decide_true, decide_false, Bool.and_false, Bool.not_false] at hac
    subst hac
    rw [Bool.true_and]
    refine con_run Try.func202 rfl rfl (by simp [Try.ntmps202]) ?_
    simp only [argT, argA, tysD, tmsD, eq_self, xRun, vE, vP, vSub, vLoad, vFld, vBin, vBinT, isAg, isBo, isCutO, isB, bv, gT, gW, gN, gV, isU, isPick, pkC, pkA, isCall, AS.pt, AS.kn, AS.ev, AS.box, look, cav, avB, AV.cells, AV.whole, AV.one, td0, td3, Option.bind, Option.getD, Option.isSome, List.map, List.getElem?_cons_zero, List.getElem?_cons_succ, List.all, ↓reduceIte, Nat.reduceLT, Nat.reduceEqDiff, Nat.zero_add, Nat.add_zero, ne_eq, not_false_eq_true, true_and, Bool.and_true, Bool.false_eq_true, decide_true, decide_false, and_self, Nat.succ_ne_zero, tmC_eq, tysD, tmsD, h1, h2, Try.ntmps202]
    refine sw_loop (fun k : Nat => k ≤ t.args.length ∧ levBs genB (t.args.drop k) q = levBs genB t.args q) (fun k => ⟨30, [(5, .i k), (1, .i m), (2, .bx 0 0)], [(0, [.i t.kind, .s t.name, .s t.other, .i t.n, .i t.ty.kind, .br (.rows 2 t.ty.args.length (tysC t.ty.args)), .i t.res.kind, .br (.rows 2 t.res.args.length (tysC t.res.args)), .br (.rows 9 t.args.length (tmsC t.args))])], [], 1, []⟩) (fun k => t.args.length - k) 0 id ⟨Nat.zero_le _, rfl⟩ ?_ ?_
    · simp only [Sub, subT, subB, subO, subP, inj, AV.ren, AV.rens, AV.lt, AV.lts, eq_self, look, List.map, List.not_mem_nil, List.nodup_cons, List.nodup_nil, ↓reduceIte, Nat.reduceLT, Nat.reduceEqDiff, not_false_eq_true, id_eq, Int.natCast_zero, and_self, Nat.succ_ne_zero, Int.natCast_zero]
    · rintro k ⟨hk, hf⟩
      refine sw_run 200 _ _ _ ?_
      by_cases hlt : k < t.args.length
      · have hi : (k : Int) < (t.args.length : Int) := by omega
        have hR := tmsC_row' t.args k hlt
        have hmm := mem_bang hlt
        have hs := szL_tms' t.args k hlt
        have hrec := ih _ hmm (by omega) q ⟨by omega, by omega⟩
        rw [levBs_drop genB t.args q k hlt] at hf
        obtain ⟨b, hb⟩ : ∃ b, b = levB genB t.args[k]! q := ⟨_, rfl⟩
        rw [← hb] at hrec hf
        simp only [eq_self, xRun, vE, vP, vSub, vLoad, vFld, vBin, vBinT, isAg, isBo, vLen, isCutO, isB, bv, gN, isPick, isCall, AS.pt, AS.ev, AS.rd, look, td0, td3, td4, Option.getD, Option.isSome, List.getElem?_cons_zero, List.getElem?_cons_succ, ↓reduceIte, Nat.reduceLT, Nat.reduceEqDiff, Nat.zero_add, ne_eq, not_false_eq_true, true_and, Bool.false_eq_true, decide_true, Nat.succ_ne_zero, hi]
        refine sw_drawn (.cons 0 true (.cons 1 true (.cons 2 true (.cons 3 true (.cons 4 true (.cons 5 true (.cons 6 true (.cons 7 false (.cons 8 false (.cons 9 true (.nil))))))))))) (by kernel_rfl) qLp_panic (by kernel_rfl) (sw_run 200 _ _ _ ?_)
        simp only [tysD, tmsD, rowD, eq_self, xRun, vP, vSub, vLoad, vFld, vIdx, gN, isPick, isCall, AS.pt, AS.ev, look, avB, td0, td1, td3, Option.getD, Option.isSome, List.map, List.take, List.drop, List.length, List.getElem?_cons_zero, List.getElem?_cons_succ, ↓reduceIte, Nat.reduceLT, Nat.reduceAdd, Nat.reduceEqDiff, Nat.zero_add, ne_eq, not_false_eq_true, true_and, Bool.false_eq_true, Int.toNat_natCast, Int.natCast_nonneg, and_self, Nat.succ_ne_zero, Nat.le_refl, hi, hR, tmC_eq]
        refine sw_callD (hL) rfl (aAs_ok ?_) ?_ (sw_run 200 _ _ _ ?_)
        · simp only [aAs, aA, aDs, aD, tysD, tmsD, AS.ev, look, Option.getD, List.map, List.append_nil, ↓reduceIte, Nat.reduceEqDiff, eq_self, and_self, tmC_eq, tysD, tmsD]
        · simp only [okR]
        simp only [mkR, flatD, packA, retA, List.headD_cons, eq_self, xRun, gN, isCall, AS.pt, Option.getD, Option.isSome, List.getElem?_cons_zero, List.getElem?_cons_succ, ↓reduceIte, Nat.reduceLT, true_and]
        refine sw_callD (hrec) rfl (aAs_ok ?_) ?_ (sw_run 200 _ _ _ ?_)
        · simp only [aAs, aA, aDs, aD, tysD, tmsD, AS.ev, look, Option.getD, List.map, List.append_nil, ↓reduceIte, Nat.reduceEqDiff, eq_self, and_self, tmC_eq, tysD, tmsD]
        · simp only [okR]
        cases b
        · rw [Bool.false_and] at hf
          simp only [mkR, flatD, packA, retA, List.headD_cons, fQ, qLp, xRet, rPs, xRes, flatA, rD, eq_self, xRun, vE, vP, vNot, isCutO, isB, bv, gN, isPick, isCall, AS.pt, AS.ev, look, cav, eatsOf, Option.getD, Option.isSome, List.map, List.getElem?_cons_zero, List.getElem?_cons_succ, List.nodup_nil, ↓reduceIte, Nat.reduceLT, or_false, Bool.not_false, Bool.false_eq_true, reduceCtorEq, and_self, ← hf, Try.results202]
        · simp only [mkR, flatD, packA, retA, List.headD_cons, qLp, eq_self, xRun, vE, vP, vBin, vBinT, isAg, isBo, vNot, isCutO, isB, bv, gN, isPick, isCall, AS.pt, AS.ev, look, cav, Option.getD, Option.isSome, List.getElem?_cons_zero, List.getElem?_cons_succ, ↓reduceIte, Nat.reduceLT, Nat.reduceEqDiff, true_and, Bool.not_true, Bool.false_eq_true, qLp]
          refine ⟨by unfold inI; omega, k + 1, id, ⟨by omega, by simpa using hf⟩, by omega, ?_⟩
          simp only [Sub, subT, subB, subO, subP, inj, AV.ren, AV.rens, AV.lt, AV.lts, eq_self, look, List.map, List.not_mem_nil, List.nodup_cons, List.nodup_nil, ↓reduceIte, Nat.reduceLT, Nat.reduceEqDiff, not_false_eq_true, id_eq, and_self, cast1]
      · have hi : ¬ (k : Int) < (t.args.length : Int) := by omega
        rw [List.drop_of_length_le (by omega), levBs] at hf
        rw [← hf]
        simp only [qLp, eq_self, xRun, vE, vP, vSub, vLoad, vFld, vBin, vBinT, isAg, isBo, vLen, isCutO, isB, bv, gN, isPick, isCall, popTo, AS.pt, AS.ev, AS.rd, look, td0, td3, td4, Option.getD, Option.isSome, List.getElem?_cons_zero, List.getElem?_cons_succ, ↓reduceIte, Nat.reduceLT, Nat.reduceEqDiff, Nat.zero_add, ne_eq, not_false_eq_true, true_and, Bool.false_eq_true, decide_false, Nat.succ_ne_zero, hi]
        refine sw_run 200 _ _ _ ?_
        simp only [fQ, xRet, rPs, xRes, flatA, rD, eq_self, xRun, vE, vP, isCutO, gN, isPick, isCall, AS.pt, AS.ev, look, cav, eatsOf, List.map, List.nodup_nil, ↓reduceIte, Nat.reduceLT, or_false, Bool.false_eq_true, reduceCtorEq, and_self, Try.results202]
  simp only [h1, decide_false, Bool.false_and, Bool.not_false] at hac
  subst hac
  rw [Bool.true_and]
  refine con_run Try.func202 rfl rfl (by simp [Try.ntmps202]) ?_
  simp only [argT, argA, tysD, tmsD, eq_self, xRun, vE, vP, vSub, vLoad, vFld, vBin, vBinT, isAg, isBo, isCutO, isB, bv, gT, gW, gN, gV, isU, isPick, pkC, pkB, isCall, AS.pt, AS.kn, AS.ev, AS.box, look, cav, avB, AV.cells, AV.whole, AV.one, td0, td3, Option.bind, Option.getD, Option.isSome, List.map, List.getElem?_cons_zero, List.getElem?_cons_succ, List.all, ↓reduceIte, Nat.reduceLT, Nat.reduceEqDiff, Nat.zero_add, Nat.add_zero, ne_eq, not_false_eq_true, true_and, Bool.and_true, Bool.not_true, Bool.false_eq_true, decide_false, and_self, Nat.succ_ne_zero, tmC_eq, tysD, tmsD, h1, Try.ntmps202]
  refine sw_loop (fun k : Nat => k ≤ t.args.length ∧ levBs genB (t.args.drop k) q = levBs genB t.args q) (fun k => ⟨30, [(5, .i k), (1, .i m), (2, .bx 0 0)], [(0, [.i t.kind, .s t.name, .s t.other, .i t.n, .i t.ty.kind, .br (.rows 2 t.ty.args.length (tysC t.ty.args)), .i t.res.kind, .br (.rows 2 t.res.args.length (tysC t.res.args)), .br (.rows 9 t.args.length (tmsC t.args))])], [], 1, []⟩) (fun k => t.args.length - k) 0 id ⟨Nat.zero_le _, rfl⟩ ?_ ?_
  · simp only [Sub, subT, subB, subO, subP, inj, AV.ren, AV.rens, AV.lt, AV.lts, eq_self, look, List.map, List.not_mem_nil, List.nodup_cons, List.nodup_nil, ↓reduceIte, Nat.reduceLT, Nat.reduceEqDiff, not_false_eq_true, id_eq, Int.natCast_zero, and_self, Nat.succ_ne_zero, Int.natCast_zero]
  · rintro k ⟨hk, hf⟩
    refine sw_run 200 _ _ _ ?_
    by_cases hlt : k < t.args.length
    · have hi : (k : Int) < (t.args.length : Int) := by omega
      have hR := tmsC_row' t.args k hlt
      have hmm := mem_bang hlt
      have hs := szL_tms' t.args k hlt
      have hrec := ih _ hmm (by omega) q ⟨by omega, by omega⟩
      rw [levBs_drop genB t.args q k hlt] at hf
      obtain ⟨b, hb⟩ : ∃ b, b = levB genB t.args[k]! q := ⟨_, rfl⟩
      rw [← hb] at hrec hf
      simp only [eq_self, xRun, vE, vP, vSub, vLoad, vFld, vBin, vBinT, isAg, isBo, vLen, isCutO, isB, bv, gN, isPick, isCall, AS.pt, AS.ev, AS.rd, look, td0, td3, td4, Option.getD, Option.isSome, List.getElem?_cons_zero, List.getElem?_cons_succ, ↓reduceIte, Nat.reduceLT, Nat.reduceEqDiff, Nat.zero_add, ne_eq, not_false_eq_true, true_and, Bool.false_eq_true, decide_true, Nat.succ_ne_zero, hi]
      refine sw_drawn (.cons 0 true (.cons 1 true (.cons 2 true (.cons 3 true (.cons 4 true (.cons 5 true (.cons 6 true (.cons 7 false (.cons 8 false (.cons 9 true (.nil))))))))))) (by kernel_rfl) qLp_panic (by kernel_rfl) (sw_run 200 _ _ _ ?_)
      simp only [tysD, tmsD, rowD, eq_self, xRun, vP, vSub, vLoad, vFld, vIdx, gN, isPick, isCall, AS.pt, AS.ev, look, avB, td0, td1, td3, Option.getD, Option.isSome, List.map, List.take, List.drop, List.length, List.getElem?_cons_zero, List.getElem?_cons_succ, ↓reduceIte, Nat.reduceLT, Nat.reduceAdd, Nat.reduceEqDiff, Nat.zero_add, ne_eq, not_false_eq_true, true_and, Bool.false_eq_true, Int.toNat_natCast, Int.natCast_nonneg, and_self, Nat.succ_ne_zero, Nat.le_refl, hi, hR, tmC_eq]
      refine sw_callD (hL) rfl (aAs_ok ?_) ?_ (sw_run 200 _ _ _ ?_)
      · simp only [aAs, aA, aDs, aD, tysD, tmsD, AS.ev, look, Option.getD, List.map, List.append_nil, ↓reduceIte, Nat.reduceEqDiff, eq_self, and_self, tmC_eq, tysD, tmsD]
      · simp only [okR]
      simp only [mkR, flatD, packA, retA, List.headD_cons, eq_self, xRun, gN, isCall, AS.pt, Option.getD, Option.isSome, List.getElem?_cons_zero, List.getElem?_cons_succ, ↓reduceIte, Nat.reduceLT, true_and]
      refine sw_callD (hrec) rfl (aAs_ok ?_) ?_ (sw_run 200 _ _ _ ?_)
      · simp only [aAs, aA, aDs, aD, tysD, tmsD, AS.ev, look, Option.getD, List.map, List.append_nil, ↓reduceIte, Nat.reduceEqDiff, eq_self, and_self, tmC_eq, tysD, tmsD]
      · simp only [okR]
      cases b
      · rw [Bool.false_and] at hf
        simp only [mkR, flatD, packA, retA, List.headD_cons, fQ, qLp, xRet, rPs, xRes, flatA, rD, eq_self, xRun, vE, vP, vNot, isCutO, isB, bv, gN, isPick, isCall, AS.pt, AS.ev, look, cav, eatsOf, Option.getD, Option.isSome, List.map, List.getElem?_cons_zero, List.getElem?_cons_succ, List.nodup_nil, ↓reduceIte, Nat.reduceLT, or_false, Bool.not_false, Bool.false_eq_true, reduceCtorEq, and_self, ← hf, Try.results202]
      · simp only [mkR, flatD, packA, retA, List.headD_cons, qLp, eq_self, xRun, vE, vP, vBin, vBinT, isAg, isBo, vNot, isCutO, isB, bv, gN, isPick, isCall, AS.pt, AS.ev, look, cav, Option.getD, Option.isSome, List.getElem?_cons_zero, List.getElem?_cons_succ, ↓reduceIte, Nat.reduceLT, Nat.reduceEqDiff, true_and, Bool.not_true, Bool.false_eq_true, qLp]
        refine ⟨by unfold inI; omega, k + 1, id, ⟨by omega, by simpa using hf⟩, by omega, ?_⟩
        simp only [Sub, subT, subB, subO, subP, inj, AV.ren, AV.rens, AV.lt, AV.lts, eq_self, look, List.map, List.not_mem_nil, List.nodup_cons, List.nodup_nil, ↓reduceIte, Nat.reduceLT, Nat.reduceEqDiff, not_false_eq_true, id_eq, and_self, cast1]
    · have hi : ¬ (k : Int) < (t.args.length : Int) := by omega
      rw [List.drop_of_length_le (by omega), levBs] at hf
      rw [← hf]
      simp only [qLp, eq_self, xRun, vE, vP, vSub, vLoad, vFld, vBin, vBinT, isAg, isBo, vLen, isCutO, isB, bv, gN, isPick, isCall, popTo, AS.pt, AS.ev, AS.rd, look, td0, td3, td4, Option.getD, Option.isSome, List.getElem?_cons_zero, List.getElem?_cons_succ, ↓reduceIte, Nat.reduceLT, Nat.reduceEqDiff, Nat.zero_add, ne_eq, not_false_eq_true, true_and, Bool.false_eq_true, decide_false, Nat.succ_ne_zero, hi]
      refine sw_run 200 _ _ _ ?_
      simp only [fQ, xRet, rPs, xRes, flatA, rD, eq_self, xRun, vE, vP, isCutO, gN, isPick, isCall, AS.pt, AS.ev, look, cav, eatsOf, List.map, List.nodup_nil, ↓reduceIte, Nat.reduceLT, or_false, Bool.false_eq_true, reduceCtorEq, and_self, Try.results202]
end Go.Proofs.Ytemlobcbepgbaaa
/-
  Results and pieces of code, of both sides.
-/
namespace Go.Proofs.Ytemlobcbepgbaaa
open Go.RowKit
set_option linter.unusedVariables false
set_option linter.unusedSimpArgs false
set_option maxRecDepth 20000
def kdR (k : Int) : Bool := decide (k = 2) || decide (k = 3) || decide (k = 6) || decide (k = 9)
def resB (e : Tm) : Bool := allTm isFm e && (kdR e.kind || (decide (e.kind = 10) && (levB okB e.args[0]! 1 && levB genB e.args[0]! 1)))
def codB (e : Tm) : Bool := resB e && decide (e.kind = 10)
def codT (e : Tm) : Tm := if codB e = true then e.args[0]! else tZ
theorem quote_one {e : Tm} (h : allTm isFm e = true) (hk : e.kind = 10) : ∃ a, e.args = [a] ∧ allTm isFm a = true := by
  rw [allTm_eq, fm_eq, Bool.and_eq_true, Bool.and_eq_true] at h
  obtain ⟨⟨_, h1⟩, h2⟩ := h
  have h3 := of_decide_eq_true h1
  rw [hk] at h3
  have h4 : e.args.length = 1 := by
    have : (e.args.length : Int) = 1 := h3
    omega
  match e, h4, h2 with
  | .mk k s o n t r [a], _, h2 =>
    refine ⟨a, rfl, ?_⟩
    have h5 : allTms isFm [a] = true := h2
    rw [allTms, Bool.and_eq_true] at h5
    exact h5.1
theorem rg_one {t : Tm} (h : szL (tmC t) ≤ 1000000000) (m : Int) (hm : -10 ≤ m ∧ m ≤ 10) : rgL t m := ⟨by omega, by omega⟩
theorem kd_cases (k : Int) : k = 2 ∨ k = 3 ∨ k = 6 ∨ k = 9 ∨ k = 10 ∨ ((k = 2) = False ∧ (k = 3) = False ∧ (k = 6) = False ∧ (k = 9) = False ∧ (k = 10) = False) := by
  by_cases h : k = 2 ∨ k = 3 ∨ k = 6 ∨ k = 9 ∨ k = 10
  · rcases h with h | h | h | h | h <;> simp [h]
  · simp only [not_or] at h
    exact .inr (.inr (.inr (.inr (.inr ⟨eq_false h.1, eq_false h.2.1, eq_false h.2.2.1, eq_false h.2.2.2.1, eq_false h.2.2.2.2⟩))))
theorem con_IsResultI (e : Tm) (hz : szL (tmC e) ≤ 100000000) : Con Try.prog 74 [.ag (tmC e)] [.one (.bool (resB e))] := by
  have hI := con_IsTermI e (by omega)
  have hq := quote_one (e := e)
  have hs := szL_tms' e.args 0
  have hz8 := (sz_partsE (t := e) (B := 100000000) hz).2.2
  have hR := tmsC_row' e.args 0
  obtain ⟨R, hR0⟩ : ∃ R, R = resB e := ⟨_, rfl⟩
  rw [← hR0]
  unfold resB at hR0
  generalize allTm isFm e = b at *
  rcases kd_cases e.kind with hk | hk | hk | hk | hk | ⟨h2, h3, h6, h9, h10⟩
  case inr.inr.inr.inr.inl =>
    rw [hk] at hR0
    cases b
    case false =>
      rw [Bool.false_and] at hR0
      subst hR0
      refine con_run Try.func74 rfl rfl (by simp [Try.ntmps74]) ?_
      simp only [argT, argA, tysD, tmsD, eq_self, xRun, vE, vP, vSub, vLoad, vFld, vBin, vBinT, isAg, isBo, isCutO, isB, bv, gN, isPick, isCall, AS.pt, AS.ev, AS.box, look, cav, avB, AV.cells, AV.whole, AV.one, td0, td3, Option.getD, Option.isSome, List.map, List.take, List.drop, List.length, List.getElem?_cons_zero, List.all, ↓reduceIte, Nat.reduceLT, Nat.reduceAdd, Nat.reduceEqDiff, Nat.zero_add, Nat.add_zero, ne_eq, not_false_eq_true, true_and, Bool.and_true, Bool.false_eq_true, Int.reduceEq, decide_true, decide_false, Nat.succ_ne_zero, Nat.le_refl, tmC_eq, tysD, tmsD, hk, Try.ntmps74]
      refine sw_call (hI) rfl (aAs_ok ?_) ?_ (sw_run 200 _ _ _ ?_)
      · simp only [aAs, aA, aDs, aD, tysD, tmsD, AS.ev, look, Option.getD, List.map, List.append_nil, ↓reduceIte, eq_self, and_self, tmC_eq, tysD, tmsD, hk]
      · simp only [okR]
      simp only [mkR, flatD, packA, retA, List.headD_cons, fQ, xRet, rPs, xRes, flatA, rD, eq_self, xRun, vE, vP, isCutO, isB, bv, gT, gW, gN, gV, isU, isPick, pkC, pkB, isCall, AS.pt, AS.kn, AS.ev, look, cav, eatsOf, Option.bind, Option.getD, Option.isSome, List.map, List.getElem?_cons_zero, List.getElem?_cons_succ, List.nodup_nil, ↓reduceIte, Nat.reduceLT, Nat.reduceEqDiff, or_false, Bool.not_true, Bool.false_eq_true, reduceCtorEq, and_self, Try.results74]
    obtain ⟨a, ha, hat⟩ := hq rfl hk
    have hlt : 0 < e.args.length := by rw [ha]; simp
    have hti : (0 : Int) < (e.args.length : Int) := by omega
    have hs1 := hs hlt
    have hR1 := hR hlt
    have h0 : e.args[0]! = a := by rw [ha]; rfl
    have hG := con_IsGenerated e.args[0]! 1 (by omega) (rg_one (by omega) 1 (by omega))
    rw [h0] at hG hR1 hR0
    rw [hat, Bool.true_and] at hG
    generalize (levB okB a 1 && levB genB a 1) = c at *
    have hRc : R = c := by rw [hR0]; simp [kdR]
    rw [hRc]
    refine con_run Try.func74 rfl rfl (by simp [Try.ntmps74]) ?_
    simp only [argT, argA, tysD, tmsD, eq_self, xRun, vE, vP, vSub, vLoad, vFld, vBin, vBinT, isAg, isBo, isCutO, isB, bv, gN, isPick, isCall, AS.pt, AS.ev, AS.box, look, cav, avB, AV.cells, AV.whole, AV.one, td0, td3, Option.getD, Option.isSome, List.map, List.take, List.drop, List.length, List.getElem?_cons_zero, List.all, ↓reduceIte, Nat.reduceLT, Nat.reduceAdd, Nat.reduceEqDiff, Nat.zero_add, Nat.add_zero, ne_eq, not_false_eq_true, true_and, Bool.and_true, Bool.false_eq_true, Int.reduceEq, decide_true, decide_false, Nat.succ_ne_zero, Nat.le_refl, tmC_eq, tysD, tmsD, hk, Try.ntmps74]
    refine sw_call (hI) rfl (aAs_ok ?_) ?_ (sw_run 200 _ _ _ ?_)
    · simp only [aAs, aA, aDs, aD, tysD, tmsD, AS.ev, look, Option.getD, List.map, List.append_nil, ↓reduceIte, eq_self, and_self, tmC_eq, tysD, tmsD, hk]
    · simp only [okR]
    simp only [mkR, flatD, packA, retA, List.headD_cons, tysD, tmsD, rowD, eq_self, xRun, vE, vP, vSub, vLoad, vFld, vIdx, isCutO, isB, bv, gT, gW, gN, gV, isU, isPick, isCall, AS.pt, AS.kn, AS.ev, look, cav, avB, td0, td1, td3, Option.bind, Option.getD, Option.isSome, List.map, List.take, List.drop, List.length, List.getElem?_cons_zero, List.getElem?_cons_succ, ↓reduceIte, Nat.reduceLT, Nat.reduceAdd, Nat.reduceEqDiff, Nat.zero_add, ne_eq, not_false_eq_true, true_and, Bool.false_eq_true, Int.toNat_zero, Int.le_refl, and_self, Nat.succ_ne_zero, Nat.le_refl, tmC_eq, tysD, tmsD, hti, hR1]
    refine sw_call (hG) rfl (aAs_ok ?_) ?_ (sw_run 200 _ _ _ ?_)
    · simp only [aAs, aA, aDs, aD, tysD, tmsD, AS.ev, look, cav, Option.getD, List.map, List.append_nil, ↓reduceIte, Nat.reduceEqDiff, eq_self, and_self, tmC_eq, tysD, tmsD]
    · simp only [okR]
    simp only [mkR, flatD, packA, retA, List.headD_cons, fQ, xRet, rPs, xRes, flatA, rD, eq_self, xRun, vE, vP, isCutO, isB, bv, gN, isPick, pkC, pkA, isCall, AS.pt, AS.ev, look, eatsOf, Option.getD, List.map, List.nodup_nil, ↓reduceIte, Nat.reduceLT, Nat.reduceEqDiff, or_false, Bool.false_eq_true, reduceCtorEq, and_self, Try.results74]
  case inr.inr.inr.inr.inr =>
    have hRf : R = false := by rw [hR0]; simp [kdR, h2, h3, h6, h9, h10]
    rw [hRf]
    refine con_run Try.func74 rfl rfl (by simp [Try.ntmps74]) ?_
    simp only [argT, argA, fQ, tysD, tmsD, xRet, rPs, xRes, flatA, rD, eq_self, xRun, vE, vP, vSub, vLoad, vFld, vBin, vBinT, isAg, isBo, isCutO, isB, bv, gN, isPick, isCall, AS.pt, AS.ev, AS.box, look, cav, avB, AV.cells, AV.whole, AV.one, eatsOf, td0, td3, Option.getD, Option.isSome, List.map, List.getElem?_cons_zero, List.all, List.nodup_nil, ↓reduceIte, Nat.reduceLT, Nat.reduceEqDiff, Nat.zero_add, Nat.add_zero, ne_eq, not_false_eq_true, or_false, Bool.and_true, Bool.false_eq_true, reduceCtorEq, decide_false, and_self, Nat.succ_ne_zero, tmC_eq, tysD, tmsD, h2, h3, h6, h9, h10, Try.ntmps74, Try.results74]
  all_goals
    have hRb : R = b := by rw [hR0, hk]; simp [kdR]
    rw [hRb]
    refine con_run Try.func74 rfl rfl (by simp [Try.ntmps74]) ?_
    simp only [argT, argA, tysD, tmsD, eq_self, xRun, vE, vP, vSub, vLoad, vFld, vBin, vBinT, isAg, isBo, isCutO, isB, bv, gN, isPick, isCall, AS.pt, AS.ev, AS.box, look, cav, avB, AV.cells, AV.whole, AV.one, td0, td3, Option.getD, Option.isSome, List.map, List.take, List.drop, List.length, List.getElem?_cons_zero, List.all, ↓reduceIte, Nat.reduceLT, Nat.reduceAdd, Nat.reduceEqDiff, Nat.zero_add, Nat.add_zero, ne_eq, not_false_eq_true, true_and, Bool.and_true, Bool.false_eq_true, Int.reduceEq, decide_true, decide_false, Nat.succ_ne_zero, Nat.le_refl, tmC_eq, tysD, tmsD, hk, Try.ntmps74]
    refine sw_call (hI) rfl (aAs_ok ?_) ?_ (sw_run 200 _ _ _ ?_)
    · simp only [aAs, aA, aDs, aD, tysD, tmsD, AS.ev, look, Option.getD, List.map, List.append_nil, ↓reduceIte, eq_self, and_self, tmC_eq, tysD, tmsD, hk]
    · simp only [okR]
    simp only [mkR, flatD, packA, retA, List.headD_cons, fQ, xRet, rPs, xRes, flatA, rD, eq_self, xRun, vE, vP, isCutO, gN, isPick, isCall, AS.pt, AS.ev, look, eatsOf, Option.getD, List.map, List.nodup_nil, ↓reduceIte, Nat.reduceLT, or_false, Bool.false_eq_true, reduceCtorEq, and_self, Try.results74]
theorem con_l10 (e : Tm) (hz : szL (tmC e) ≤ 100000000) (ht : allTm isFm e = true) : Con Try.prog 138 [.ag (tmC e)] [.one (.bool (resB e))] := by
  have hq := quote_one (e := e)
  have hs := szL_tms' e.args 0
  have hz8 := (sz_partsE (t := e) (B := 100000000) hz).2.2
  have hR := tmsC_row' e.args 0
  obtain ⟨R, hR0⟩ : ∃ R, R = resB e := ⟨_, rfl⟩
  rw [← hR0]
  unfold resB at hR0
  rw [ht, Bool.true_and] at hR0
  rcases kd_cases e.kind with hk | hk | hk | hk | hk | ⟨h2, h3, h6, h9, h10⟩
  case inr.inr.inr.inr.inl =>
    obtain ⟨a, ha, hat⟩ := hq ht hk
    have hlt : 0 < e.args.length := by rw [ha]; simp
    have hti : (0 : Int) < (e.args.length : Int) := by omega
    have hs1 := hs hlt
    have hR1 := hR hlt
    have h0 : e.args[0]! = a := by rw [ha]; rfl
    have hO := con_l8Ok e (by omega) 0 (rg_one (by omega) 0 (by omega))
    have hM := con_l8Made e.args[0]! (by omega) 1 (rg_one (by omega) 1 (by omega))
    have hoe : levB okB e 0 = levB okB a 1 := by
      rw [levB_eq, hk, ha]
      show ((decide ((0 : Int) ≤ 0) && decide ((0 : Int) ≤ 2)) && levBs okB [a] (plF 10 0)) = _
      rw [levBs, levBs, Bool.and_true]
      rfl
    rw [hoe] at hO
    rw [h0] at hM hR1 hR0
    rw [hk] at hR0
    generalize levB okB a 1 = c at *
    generalize levB genB a 1 = d at *
    have hRc : R = (c && d) := by rw [hR0]; simp [kdR]
    rw [hRc]
    cases c
    case false =>
      refine con_run Try.func138 rfl rfl (by simp [Try.ntmps138]) ?_
      simp only [argT, argA, tysD, tmsD, eq_self, xRun, vE, vP, vSub, vLoad, vFld, vBin, vBinT, isAg, isBo, isCutO, isB, bv, gN, isPick, isCall, AS.pt, AS.ev, AS.box, look, cav, avB, AV.cells, AV.whole, AV.one, td0, td3, Option.getD, Option.isSome, List.map, List.take, List.drop, List.length, List.getElem?_cons_zero, List.all, ↓reduceIte, Nat.reduceLT, Nat.reduceAdd, Nat.reduceEqDiff, Nat.zero_add, Nat.add_zero, ne_eq, not_false_eq_true, true_and, Bool.and_true, Bool.false_and, Bool.false_eq_true, Int.reduceEq, decide_true, decide_false, Nat.succ_ne_zero, Nat.le_refl, tmC_eq, tysD, tmsD, hk, Try.ntmps138]
      refine sw_call (hO) rfl (aAs_ok ?_) ?_ (sw_run 200 _ _ _ ?_)
      · simp only [aAs, aA, aDs, aD, tysD, tmsD, AS.ev, look, cav, Option.getD, List.map, List.append_nil, ↓reduceIte, eq_self, and_self, tmC_eq, tysD, tmsD, hk]
      · simp only [okR]
      simp only [mkR, flatD, packA, retA, List.headD_cons, fQ, xRet, rPs, xRes, flatA, rD, eq_self, xRun, vE, vP, isCutO, isB, bv, gT, gW, gN, gV, isU, isPick, pkC, pkB, isCall, AS.pt, AS.kn, AS.ev, look, cav, eatsOf, Option.bind, Option.getD, Option.isSome, List.map, List.getElem?_cons_zero, List.getElem?_cons_succ, List.nodup_nil, ↓reduceIte, Nat.reduceLT, Nat.reduceEqDiff, or_false, Bool.not_true, Bool.false_eq_true, reduceCtorEq, and_self, Try.results138]
    refine con_run Try.func138 rfl rfl (by simp [Try.ntmps138]) ?_
    simp only [argT, argA, tysD, tmsD, eq_self, xRun, vE, vP, vSub, vLoad, vFld, vBin, vBinT, isAg, isBo, isCutO, isB, bv, gN, isPick, isCall, AS.pt, AS.ev, AS.box, look, cav, avB, AV.cells, AV.whole, AV.one, td0, td3, Option.getD, Option.isSome, List.map, List.take, List.drop, List.length, List.getElem?_cons_zero, List.all, ↓reduceIte, Nat.reduceLT, Nat.reduceAdd, Nat.reduceEqDiff, Nat.zero_add, Nat.add_zero, ne_eq, not_false_eq_true, true_and, Bool.true_and, Bool.and_true, Bool.false_eq_true, Int.reduceEq, decide_true, decide_false, Nat.succ_ne_zero, Nat.le_refl, tmC_eq, tysD, tmsD, hk, Try.ntmps138]
    refine sw_call (hO) rfl (aAs_ok ?_) ?_ (sw_run 200 _ _ _ ?_)
    · simp only [aAs, aA, aDs, aD, tysD, tmsD, AS.ev, look, cav, Option.getD, List.map, List.append_nil, ↓reduceIte, eq_self, and_self, tmC_eq, tysD, tmsD, hk]
    · simp only [okR]
    simp only [mkR, flatD, packA, retA, List.headD_cons, tysD, tmsD, rowD, eq_self, xRun, vE, vP, vSub, vLoad, vFld, vIdx, isCutO, isB, bv, gT, gW, gN, gV, isU, isPick, isCall, AS.pt, AS.kn, AS.ev, look, cav, avB, td0, td1, td3, Option.bind, Option.getD, Option.isSome, List.map, List.take, List.drop, List.length, List.getElem?_cons_zero, List.getElem?_cons_succ, ↓reduceIte, Nat.reduceLT, Nat.reduceAdd, Nat.reduceEqDiff, Nat.zero_add, ne_eq, not_false_eq_true, true_and, Bool.false_eq_true, Int.toNat_zero, Int.le_refl, and_self, Nat.succ_ne_zero, Nat.le_refl, tmC_eq, tysD, tmsD, hti, hR1]
    refine sw_call (hM) rfl (aAs_ok ?_) ?_ (sw_run 200 _ _ _ ?_)
    · simp only [aAs, aA, aDs, aD, tysD, tmsD, AS.ev, look, cav, Option.getD, List.map, List.append_nil, ↓reduceIte, Nat.reduceEqDiff, eq_self, and_self, tmC_eq, tysD, tmsD]
    · simp only [okR]
    simp only [mkR, flatD, packA, retA, List.headD_cons, fQ, xRet, rPs, xRes, flatA, rD, eq_self, xRun, vE, vP, isCutO, isB, bv, gN, isPick, pkC, pkA, isCall, AS.pt, AS.ev, look, eatsOf, Option.getD, List.map, List.nodup_nil, ↓reduceIte, Nat.reduceLT, Nat.reduceEqDiff, or_false, Bool.false_eq_true, reduceCtorEq, and_self, Try.results138]
  case inr.inr.inr.inr.inr =>
    have hRf : R = false := by rw [hR0]; simp [kdR, h2, h3, h6, h9, h10]
    rw [hRf]
    refine con_run Try.func138 rfl rfl (by simp [Try.ntmps138]) ?_
    simp only [argT, argA, fQ, tysD, tmsD, xRet, rPs, xRes, flatA, rD, eq_self, xRun, vE, vP, vSub, vLoad, vFld, vBin, vBinT, isAg, isBo, isCutO, isB, bv, gN, isPick, isCall, AS.pt, AS.ev, AS.box, look, cav, avB, AV.cells, AV.whole, AV.one, eatsOf, td0, td3, Option.getD, Option.isSome, List.map, List.getElem?_cons_zero, List.all, List.nodup_nil, ↓reduceIte, Nat.reduceLT, Nat.reduceEqDiff, Nat.zero_add, Nat.add_zero, ne_eq, not_false_eq_true, or_false, Bool.and_true, Bool.false_eq_true, reduceCtorEq, decide_false, and_self, Nat.succ_ne_zero, tmC_eq, tysD, tmsD, h2, h3, h6, h9, h10, Try.ntmps138, Try.results138]
  all_goals
    have hRb : R = true := by rw [hR0, hk]; simp [kdR]
    rw [hRb]
    refine con_run Try.func138 rfl rfl (by simp [Try.ntmps138]) ?_
    simp only [argT, argA, fQ, tysD, tmsD, xRet, rPs, xRes, flatA, rD, eq_self, xRun, vE, vP, vSub, vLoad, vFld, vBin, vBinT, isAg, isBo, isCutO, isB, bv, gN, isPick, isCall, AS.pt, AS.ev, AS.box, look, cav, avB, AV.cells, AV.whole, AV.one, eatsOf, td0, td3, Option.getD, Option.isSome, List.map, List.getElem?_cons_zero, List.all, List.nodup_nil, ↓reduceIte, Nat.reduceLT, Nat.reduceEqDiff, Nat.zero_add, Nat.add_zero, ne_eq, not_false_eq_true, or_false, Bool.and_true, Bool.false_eq_true, reduceCtorEq, Int.reduceEq, decide_true, decide_false, and_self, Nat.succ_ne_zero, tmC_eq, tysD, tmsD, hk, Try.ntmps138, Try.results138]
theorem con_IsResultS (e : Tm) (hz : szL (tmC e) ≤ 100000000) : Con Try.prog 72 [.ag (tmC e)] [.one (.bool (resB e))] := by
  have hI := con_IsTermS e (by omega)
  have hL := con_l10 e hz
  obtain ⟨b, hb⟩ : ∃ b, b = allTm isFm e := ⟨_, rfl⟩
  rw [← hb] at hI
  cases b
  case false =>
    have hR : resB e = false := by unfold resB; rw [← hb, Bool.false_and]
    rw [hR]
    refine con_run Try.func72 rfl rfl (by simp [Try.ntmps72]) ?_
    simp only [argT, argA, tysD, tmsD, eq_self, xRun, vE, vP, vSub, vLoad, isCutO, gN, isPick, isCall, AS.pt, AS.ev, AS.box, look, cav, avB, AV.cells, AV.whole, AV.one, td0, Option.getD, List.map, List.take, List.drop, List.length, List.all, ↓reduceIte, Nat.reduceLT, Nat.reduceAdd, Nat.reduceEqDiff, Nat.zero_add, true_and, Bool.and_true, Bool.false_eq_true, Nat.le_refl, tmC_eq, tysD, tmsD, Try.ntmps72]
    refine sw_call (hI) rfl (aAs_ok ?_) ?_ (sw_run 200 _ _ _ ?_)
    · simp only [aAs, aA, aDs, aD, tysD, tmsD, AS.ev, look, Option.getD, List.map, List.append_nil, ↓reduceIte, eq_self, and_self, tmC_eq, tysD, tmsD]
    · simp only [okR]
    simp only [mkR, flatD, packA, retA, List.headD_cons, fQ, xRet, rPs, xRes, flatA, rD, eq_self, xRun, vE, vP, isCutO, isB, bv, gT, gW, gN, gV, isU, isPick, pkC, pkB, isCall, AS.pt, AS.kn, AS.ev, look, cav, eatsOf, Option.bind, Option.getD, Option.isSome, List.map, List.getElem?_cons_zero, List.getElem?_cons_succ, List.nodup_nil, ↓reduceIte, Nat.reduceLT, Nat.reduceEqDiff, or_false, Bool.not_true, Bool.false_eq_true, reduceCtorEq, and_self, Try.results72]
  have hL1 := hL hb.symm
  refine con_run Try.func72 rfl rfl (by simp [Try.ntmps72]) ?_
  simp only [argT, argA, tysD, tmsD, eq_self, xRun, vE, vP, vSub, vLoad, isCutO, gN, isPick, isCall, AS.pt, AS.ev, AS.box, look, cav, avB, AV.cells, AV.whole, AV.one, td0, Option.getD, List.map, List.take, List.drop, List.length, List.all, ↓reduceIte, Nat.reduceLT, Nat.reduceAdd, Nat.reduceEqDiff, Nat.zero_add, true_and, Bool.and_true, Bool.false_eq_true, Nat.le_refl, tmC_eq, tysD, tmsD, Try.ntmps72]
  refine sw_call (hI) rfl (aAs_ok ?_) ?_ (sw_run 200 _ _ _ ?_)
  · simp only [aAs, aA, aDs, aD, tysD, tmsD, AS.ev, look, Option.getD, List.map, List.append_nil, ↓reduceIte, eq_self, and_self, tmC_eq, tysD, tmsD]
  · simp only [okR]
  simp only [mkR, flatD, packA, retA, List.headD_cons, eq_self, xRun, vE, vP, vSub, vLoad, isCutO, isB, bv, gT, gW, gN, gV, isU, isPick, isCall, AS.pt, AS.kn, AS.ev, look, td0, Option.bind, Option.getD, Option.isSome, List.take, List.drop, List.length, List.getElem?_cons_zero, List.getElem?_cons_succ, ↓reduceIte, Nat.reduceLT, Nat.reduceAdd, Nat.reduceEqDiff, Nat.zero_add, true_and, Bool.false_eq_true, and_self, Nat.le_refl]
  refine sw_call (hL1) rfl (aAs_ok ?_) ?_ (sw_run 200 _ _ _ ?_)
  · simp only [aAs, aA, aDs, aD, tysD, tmsD, AS.ev, look, Option.getD, List.map, List.append_nil, ↓reduceIte, Nat.reduceEqDiff, eq_self, and_self, tmC_eq, tysD, tmsD]
  · simp only [okR]
  simp only [mkR, flatD, packA, retA, List.headD_cons, fQ, xRet, rPs, xRes, flatA, rD, eq_self, xRun, vE, vP, isCutO, isB, bv, gN, isPick, pkC, pkA, isCall, AS.pt, AS.ev, look, eatsOf, Option.getD, List.map, List.nodup_nil, ↓reduceIte, Nat.reduceLT, Nat.reduceEqDiff, or_false, Bool.false_eq_true, reduceCtorEq, and_self, Try.results72]
theorem cod_no {e : Tm} (h : codB e = false) : codT e = tZ := by unfold codT; rw [h]; rfl
theorem cod_yes {e : Tm} (h : codB e = true) : codT e = e.args[0]! ∧ 0 < e.args.length := by
  refine ⟨by unfold codT; rw [if_pos h], ?_⟩
  unfold codB resB at h
  rw [Bool.and_eq_true, Bool.and_eq_true] at h
  obtain ⟨a, ha, _⟩ := quote_one h.1.1 (of_decide_eq_true h.2)
  rw [ha]; simp
theorem con_CodeS (e : Tm) (hz : szL (tmC e) ≤ 100000000) : Con Try.prog 21 [.ag (tmC e)] [.ag (tmC (codT e)), .one (.bool (codB e))] := by
  have hI := con_IsResultS e hz
  have hb : codB e = (resB e && decide (e.kind = 10)) := rfl
  have hyes := cod_yes (e := e)
  have hno := cod_no (e := e)
  have hs := szL_tms' e.args 0
  have hR := tmsC_row' e.args 0
  have hz8 := (sz_partsE (t := e) (B := 100000000) hz).2.2
  generalize resB e = b at *
  generalize codB e = c at *
  rcases pc (e.kind = 10) with hk | hk
  case inr =>
    simp only [hk, decide_false, Bool.and_false] at hb
    subst hb
    rw [hno rfl]
    cases b
    all_goals
      refine con_run Try.func21 rfl rfl (by simp [Try.ntmps21]) ?_
      simp only [argT, argA, tysD, tmsD, eq_self, xRun, vE, vP, vSub, vLoad, isCutO, gN, isPick, isCall, AS.pt, AS.ev, AS.box, look, cav, avB, AV.cells, AV.whole, AV.one, td0, td6, Option.getD, Option.isSome, List.map, List.take, List.drop, List.length, List.all, ↓reduceIte, Nat.reduceLT, Nat.reduceAdd, Nat.reduceEqDiff, Nat.zero_add, true_and, Bool.and_true, Bool.false_eq_true, reduceCtorEq, Nat.le_refl, tZ, tmC_eq, mk_kind, mk_name, mk_other, mk_n, mk_ty, mk_res, mk_args, tyk, tya, tysC, List.length_nil, tmsC, Try.ntmps21]
      refine sw_call (hI) rfl (aAs_ok ?_) ?_ (sw_run 200 _ _ _ ?_)
      · simp only [aAs, aA, aDs, aD, tysD, tmsD, AS.ev, look, Option.getD, List.map, List.append_nil, ↓reduceIte, eq_self, and_self, tmC_eq, tysD, tmsD]
      · simp only [okR]
      simp only [mkR, flatD, packA, retA, List.headD_cons, fQ, xRet, rPs, xRes, flatA, rD, rDs, eq_self, xRun, vE, vP, vSub, vLoad, vFld, vBin, vBinT, isAg, isBo, vNot, vBuild, vStore, isCutO, xFill, isB, bv, gT, gW, gN, gV, isU, isPick, pkC, pkA, pkB, isCall, AS.pt, AS.kn, AS.ev, AS.setb, look, cav, setRowG, AV.cells, AV.whole, AV.one, eatsOf, td0, td1, td3, td6, Option.bind, Option.getD, Option.isSome, List.map, List.length, List.getElem?_cons_zero, List.getElem?_cons_succ, List.set, List.all, List.nodup_nil, List.nil_append, List.cons_append, ↓reduceIte, Nat.reduceLT, Nat.reduceAdd, Nat.reduceEqDiff, Nat.zero_add, Nat.add_zero, ne_eq, not_false_eq_true, or_false, Bool.and_true, Bool.not_true, Bool.not_false, Bool.false_eq_true, Bool.true_eq_false, reduceCtorEq, decide_true, and_self, Nat.succ_ne_zero, Nat.le_refl, hk, List.length_cons, Try.results21]
  simp only [hk, decide_true, Bool.and_true] at hb
  subst hb
  cases c
  case false =>
    rw [hno rfl]
    refine con_run Try.func21 rfl rfl (by simp [Try.ntmps21]) ?_
    simp only [argT, argA, tysD, tmsD, eq_self, xRun, vE, vP, vSub, vLoad, isCutO, gN, isPick, isCall, AS.pt, AS.ev, AS.box, look, cav, avB, AV.cells, AV.whole, AV.one, td0, td6, Option.getD, Option.isSome, List.map, List.take, List.drop, List.length, List.all, ↓reduceIte, Nat.reduceLT, Nat.reduceAdd, Nat.reduceEqDiff, Nat.zero_add, true_and, Bool.and_true, Bool.false_eq_true, reduceCtorEq, Nat.le_refl, tZ, tmC_eq, mk_kind, mk_name, mk_other, mk_n, mk_ty, mk_res, mk_args, tyk, tya, tysC, List.length_nil, tmsC, Try.ntmps21]
    refine sw_call (hI) rfl (aAs_ok ?_) ?_ (sw_run 200 _ _ _ ?_)
    · simp only [aAs, aA, aDs, aD, tysD, tmsD, AS.ev, look, Option.getD, List.map, List.append_nil, ↓reduceIte, eq_self, and_self, tmC_eq, tysD, tmsD]
    · simp only [okR]
    simp only [mkR, flatD, packA, retA, List.headD_cons, fQ, xRet, rPs, xRes, flatA, rD, rDs, eq_self, xRun, vE, vP, vNot, vBuild, vStore, isCutO, xFill, isB, bv, gT, gW, gN, gV, isU, isPick, pkC, pkA, isCall, AS.pt, AS.kn, AS.ev, AS.setb, look, cav, setRowG, AV.cells, AV.whole, AV.one, eatsOf, td0, td1, td6, Option.bind, Option.getD, Option.isSome, List.map, List.length, List.getElem?_cons_zero, List.getElem?_cons_succ, List.set, List.all, List.nodup_nil, List.nil_append, List.cons_append, ↓reduceIte, Nat.reduceLT, Nat.reduceAdd, Nat.reduceEqDiff, Nat.zero_add, or_false, Bool.and_true, Bool.not_false, Bool.false_eq_true, Bool.true_eq_false, reduceCtorEq, and_self, Nat.le_refl, List.length_cons, Try.results21]
  obtain ⟨h1, h2⟩ := hyes rfl
  rw [h1]
  have hs1 := hs h2
  have hR1 := hR h2
  have hti : (0 : Int) < (e.args.length : Int) := by omega
  have hO := con_l5Copy e.args[0]! (by omega)
  generalize e.args[0]! = a at *
  refine con_run Try.func21 rfl rfl (by simp [Try.ntmps21]) ?_
  simp only [argT, argA, tysD, tmsD, eq_self, xRun, vE, vP, vSub, vLoad, isCutO, gN, isPick, isCall, AS.pt, AS.ev, AS.box, look, cav, avB, AV.cells, AV.whole, AV.one, td0, td6, Option.getD, Option.isSome, List.map, List.take, List.drop, List.length, List.all, ↓reduceIte, Nat.reduceLT, Nat.reduceAdd, Nat.reduceEqDiff, Nat.zero_add, true_and, Bool.and_true, Bool.false_eq_true, reduceCtorEq, Nat.le_refl, tmC_eq, tysD, tmsD, Try.ntmps21]
  refine sw_call (hI) rfl (aAs_ok ?_) ?_ (sw_run 200 _ _ _ ?_)
  · simp only [aAs, aA, aDs, aD, tysD, tmsD, AS.ev, look, Option.getD, List.map, List.append_nil, ↓reduceIte, eq_self, and_self, tmC_eq, tysD, tmsD]
  · simp only [okR]
  simp only [mkR, flatD, packA, retA, List.headD_cons, tysD, tmsD, rowD, eq_self, xRun, vE, vP, vSub, vLoad, vFld, vIdx, vBin, vBinT, isAg, isBo, vNot, isCutO, isB, bv, gT, gW, gN, gV, isU, isPick, pkC, pkB, isCall, AS.pt, AS.kn, AS.ev, look, cav, avB, td0, td1, td3, Option.bind, Option.getD, Option.isSome, List.map, List.take, List.drop, List.length, List.getElem?_cons_zero, List.getElem?_cons_succ, ↓reduceIte, Nat.reduceLT, Nat.reduceAdd, Nat.reduceEqDiff, Nat.zero_add, Nat.add_zero, ne_eq, not_false_eq_true, not_true_eq_false, true_and, Bool.not_true, Bool.false_eq_true, reduceCtorEq, Int.toNat_zero, Int.le_refl, decide_false, and_self, Nat.succ_ne_zero, Nat.le_refl, hk, tmC_eq, tysD, tmsD, hti, hR1]
  refine sw_call (hO) rfl (aAs_ok ?_) ?_ (sw_run 200 _ _ _ ?_)
  · simp only [aAs, aA, aDs, aD, tysD, tmsD, AS.ev, look, Option.getD, List.map, List.append_nil, ↓reduceIte, eq_self, and_self, tmC_eq, tysD, tmsD]
  · simp only [okR]
  simp only [mkR, flatD, packA, retA, fQ, tysD, tmsD, xRet, rPs, xRes, flatA, rD, rDs, eq_self, xRun, vE, vP, vStore, isCutO, gN, isPick, isCall, AS.pt, AS.ev, AS.setb, AS.mk', AS.owf, kill, look, cav, setRowG, AV.cells, AV.whole, AV.one, eatsOf, td0, td6, Option.bind, Option.getD, List.map, List.take, List.length, List.set, List.foldr, List.all, List.mem_cons, List.not_mem_nil, List.nodup_cons, List.nodup_nil, List.nil_append, List.cons_append, List.append_nil, ↓reduceIte, Nat.reduceLT, Nat.reduceAdd, Nat.reduceEqDiff, Nat.zero_add, not_false_eq_true, or_false, Bool.and_true, Bool.false_eq_true, id_eq, reduceCtorEq, and_self, Nat.le_refl, tmC_eq, tysD, tmsD, Try.results21]
theorem con_CodeI (e : Tm) (hz : szL (tmC e) ≤ 100000000) : Con Try.prog 22 [.ag (tmC e)] [.ag (tmC (codT e)), .one (.bool (codB e))] := by
  have hI := con_IsResultI e hz
  have hb : codB e = (resB e && decide (e.kind = 10)) := rfl
  have hyes := cod_yes (e := e)
  have hno := cod_no (e := e)
  have hs := szL_tms' e.args 0
  have hR := tmsC_row' e.args 0
  have hz8 := (sz_partsE (t := e) (B := 100000000) hz).2.2
  generalize resB e = b at *
  generalize codB e = c at *
  rcases pc (e.kind = 10) with hk | hk
  case inr =>
    simp only [hk, decide_false, Bool.and_false] at hb
    subst hb
    rw [hno rfl]
    cases b
    all_goals
      refine con_run Try.func22 rfl rfl (by simp [Try.ntmps22]) ?_
      simp only [argT, argA, fQ, tysD, tmsD, xRet, rPs, xRes, flatA, rD, rDs, eq_self, xRun, vE, vP, vSub, vLoad, vFld, vBin, vBinT, isAg, isBo, vBuild, vStore, isCutO, xFill, isB, bv, gT, gW, gN, gV, isU, isPick, pkC, pkA, isCall, AS.pt, AS.kn, AS.ev, AS.box, AS.setb, look, cav, avB, setRowG, AV.cells, AV.whole, AV.one, eatsOf, td0, td1, td3, td6, Option.bind, Option.getD, Option.isSome, List.map, List.length, List.getElem?_cons_zero, List.getElem?_cons_succ, List.set, List.all, List.nodup_nil, List.nil_append, List.cons_append, ↓reduceIte, Nat.reduceLT, Nat.reduceAdd, Nat.reduceEqDiff, Nat.zero_add, Nat.add_zero, ne_eq, not_false_eq_true, or_false, Bool.and_true, Bool.not_false, Bool.false_eq_true, Bool.true_eq_false, reduceCtorEq, decide_true, and_self, Nat.succ_ne_zero, Nat.le_refl, hk, tZ, tmC_eq, mk_kind, mk_name, mk_other, mk_n, mk_ty, mk_res, mk_args, tyk, tya, tysC, List.length_cons, List.length_nil, tmsC, Try.ntmps22, Try.results22]
  simp only [hk, decide_true, Bool.and_true] at hb
  subst hb
  cases c
  case false =>
    rw [hno rfl]
    refine con_run Try.func22 rfl rfl (by simp [Try.ntmps22]) ?_
    simp only [argT, argA, tysD, tmsD, eq_self, xRun, vE, vP, vSub, vLoad, vFld, vBin, vBinT, isAg, isBo, isCutO, isB, bv, gT, gW, gN, gV, isU, isPick, isCall, AS.pt, AS.kn, AS.ev, AS.box, look, cav, avB, AV.cells, AV.whole, AV.one, td0, td3, td6, Option.bind, Option.getD, Option.isSome, List.map, List.take, List.drop, List.length, List.getElem?_cons_zero, List.getElem?_cons_succ, List.all, ↓reduceIte, Nat.reduceLT, Nat.reduceAdd, Nat.reduceEqDiff, Nat.zero_add, Nat.add_zero, ne_eq, not_false_eq_true, not_true_eq_false, true_and, Bool.and_true, Bool.false_eq_true, reduceCtorEq, decide_false, and_self, Nat.succ_ne_zero, Nat.le_refl, hk, tZ, tmC_eq, mk_kind, mk_name, mk_other, mk_n, mk_ty, mk_res, mk_args, tyk, tya, tysC, List.length_nil, tmsC, Try.ntmps22]
    refine sw_call (hI) rfl (aAs_ok ?_) ?_ (sw_run 200 _ _ _ ?_)
    · simp only [aAs, aA, aDs, aD, tysD, tmsD, AS.ev, look, Option.getD, List.map, List.append_nil, ↓reduceIte, Nat.reduceEqDiff, eq_self, and_self, tmC_eq, tysD, tmsD]
    · simp only [okR]
    simp only [mkR, flatD, packA, retA, List.headD_cons, fQ, xRet, rPs, xRes, flatA, rD, rDs, eq_self, xRun, vE, vP, vNot, vBuild, vStore, isCutO, xFill, isB, bv, gT, gW, gN, gV, isU, isPick, pkC, pkB, isCall, AS.pt, AS.kn, AS.ev, AS.setb, look, cav, setRowG, AV.cells, AV.whole, AV.one, eatsOf, td0, td1, td6, Option.bind, Option.getD, Option.isSome, List.map, List.length, List.getElem?_cons_zero, List.getElem?_cons_succ, List.set, List.all, List.nodup_nil, List.nil_append, List.cons_append, ↓reduceIte, Nat.reduceLT, Nat.reduceAdd, Nat.reduceEqDiff, Nat.zero_add, or_false, Bool.and_true, Bool.not_false, Bool.false_eq_true, reduceCtorEq, and_self, Nat.le_refl, List.length_cons, Try.results22]
  obtain ⟨h1, h2⟩ := hyes rfl
  rw [h1]
  have hs1 := hs h2
  have hR1 := hR h2
  have hti : (0 : Int) < (e.args.length : Int) := by omega
  have hO := con_ownT e.args[0]! (by omega)
  generalize e.args[0]! = a at *
  refine con_run Try.func22 rfl rfl (by simp [Try.ntmps22]) ?_
  simp only [argT, argA, tysD, tmsD, eq_self, xRun, vE, vP, vSub, vLoad, vFld, vBin, vBinT, isAg, isBo, isCutO, isB, bv, gT, gW, gN, gV, isU, isPick, isCall, AS.pt, AS.kn, AS.ev, AS.box, look, cav, avB, AV.cells, AV.whole, AV.one, td0, td3, td6, Option.bind, Option.getD, Option.isSome, List.map, List.take, List.drop, List.length, List.getElem?_cons_zero, List.getElem?_cons_succ, List.all, ↓reduceIte, Nat.reduceLT, Nat.reduceAdd, Nat.reduceEqDiff, Nat.zero_add, Nat.add_zero, ne_eq, not_false_eq_true, not_true_eq_false, true_and, Bool.and_true, Bool.false_eq_true, reduceCtorEq, decide_false, and_self, Nat.succ_ne_zero, Nat.le_refl, hk, tmC_eq, tysD, tmsD, Try.ntmps22]
  refine sw_call (hI) rfl (aAs_ok ?_) ?_ (sw_run 200 _ _ _ ?_)
  · simp only [aAs, aA, aDs, aD, tysD, tmsD, AS.ev, look, Option.getD, List.map, List.append_nil, ↓reduceIte, Nat.reduceEqDiff, eq_self, and_self, tmC_eq, tysD, tmsD]
  · simp only [okR]
  simp only [mkR, flatD, packA, retA, List.headD_cons, tysD, tmsD, rowD, eq_self, xRun, vE, vP, vSub, vLoad, vFld, vIdx, vNot, isCutO, isB, bv, gT, gW, gN, gV, isU, isPick, pkC, pkB, isCall, AS.pt, AS.kn, AS.ev, look, cav, avB, td0, td1, td3, Option.bind, Option.getD, Option.isSome, List.map, List.take, List.drop, List.length, List.getElem?_cons_zero, List.getElem?_cons_succ, ↓reduceIte, Nat.reduceLT, Nat.reduceAdd, Nat.reduceEqDiff, Nat.zero_add, ne_eq, not_false_eq_true, true_and, Bool.not_true, Bool.false_eq_true, reduceCtorEq, Int.toNat_zero, Int.le_refl, and_self, Nat.succ_ne_zero, Nat.le_refl, tmC_eq, tysD, tmsD, hti, hR1]
  refine sw_call (hO) rfl (aAs_ok ?_) ?_ (sw_run 200 _ _ _ ?_)
  · simp only [aAs, aA, aDs, aD, tysD, tmsD, AS.ev, look, Option.getD, List.map, List.append_nil, ↓reduceIte, eq_self, and_self, tmC_eq, tysD, tmsD]
  · simp only [okR]
  simp only [mkR, flatD, packA, retA, fQ, tysD, tmsD, xRet, rPs, xRes, flatA, rD, rDs, eq_self, xRun, vE, vP, vStore, isCutO, gN, isPick, isCall, AS.pt, AS.ev, AS.setb, AS.mk', AS.owf, kill, look, cav, setRowG, AV.cells, AV.whole, AV.one, eatsOf, td0, td6, Option.bind, Option.getD, List.map, List.take, List.length, List.set, List.foldr, List.all, List.mem_cons, List.not_mem_nil, List.nodup_cons, List.nodup_nil, List.nil_append, List.cons_append, List.append_nil, ↓reduceIte, Nat.reduceLT, Nat.reduceAdd, Nat.reduceEqDiff, Nat.zero_add, not_false_eq_true, or_false, Bool.and_true, Bool.false_eq_true, id_eq, reduceCtorEq, and_self, Nat.le_refl, tmC_eq, tysD, tmsD, Try.results22]
theorem code_fit {t : Tm} (h : szL (tmC t) ≤ 1048576) : ConfL (tmC (codT t)) K.tm.fields ∧ cntS (tmC (codT t)) ≤ 17592186044416 := by
  have h1 : szL (tmC (codT t)) ≤ 1048577 := by
    cases hb : codB t
    · rw [cod_no hb]; exact Nat.le_trans (Nat.le_of_eq (show szL (tmC tZ) = 0 from rfl)) (Nat.zero_le _)
    · obtain ⟨h2, h3⟩ := cod_yes hb
      have h4 := szL_tms' t.args 0 h3
      have hz8 := (sz_partsE (t := t) (B := 1048576) h).2.2
      rw [h2]; omega
  have hc := conf_tmS (t := codT t) (by omega)
  have := cntS_bd hc
  exact ⟨hc, by omega⟩
end Go.Proofs.Ytemlobcbepgbaaa
