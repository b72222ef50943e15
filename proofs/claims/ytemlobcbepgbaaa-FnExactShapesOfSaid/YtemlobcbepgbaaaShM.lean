/-
  VerifyCode and MaxHeight of both sides.
-/
import Derived.Test.YtemlobcbepgbaaaShS
namespace Go.Proofs.Ytemlobcbepgbaaa
open Go.RowKit
set_option linter.unusedVariables false
set_option linter.unusedSimpArgs false
set_option maxRecDepth 20000
def mhF : List Shp → Int → Int
  | [], m => m
  | x :: xs, m => mhF xs (if m < x.h then x.h else m)
theorem mhF_step (xs : List Shp) (k : Nat) (m : Int) (h : k < xs.length) : mhF (xs.drop k) m = mhF (xs.drop (k + 1)) (if m < xs[k]!.h then xs[k]!.h else m) := by
  rw [List.drop_eq_getElem_cons h, getElem!_pos xs k h]; rfl
theorem mhF_end (xs : List Shp) (k : Nat) (m : Int) (h : xs.length ≤ k) : mhF (xs.drop k) m = m := by rw [List.drop_of_length_le h]; rfl
def mxR (code : List Ins) : Int := match shpR code with | none => -1 | some T => mhF T 0
theorem shpR_len {code : List Ins} {T : List Shp} (h : shpR code = some T) : T.length = code.length := by
  unfold shpR at h
  split at h
  · rename_i hc
    have := (shRes_goI (okA_of hc.1).1).2
    rw [h] at this
    exact this.2.1
  · cases h
theorem con_mx (a b : Int) : Con Try.prog 97 [.one (.int a), .one (.int b)] [.one (.int (if a < b then b else a))] := by
  by_cases h : b < a
  · rw [if_neg (by omega)]
    refine con_run Try.func97 rfl rfl (by simp [Try.ntmps97]) ?_
    simp only [argT, argA, fQ, xRet, rPs, xRes, flatA, rD, eq_self, xRun, vE, vP, vBin, vBinT, isAg, isBo, isCutO, isB, bv, gN, isPick, isCall, AS.pt, AS.ev, look, cav, avB, eatsOf, Option.getD, List.map, List.nodup_nil, ↓reduceIte, Nat.reduceLT, Nat.reduceEqDiff, Nat.zero_add, or_false, Bool.false_eq_true, reduceCtorEq, decide_true, and_self, Nat.succ_ne_zero, h, Try.ntmps97, Try.results97]
  · have e : (if a < b then b else a) = b := by split <;> omega
    rw [e]
    refine con_run Try.func97 rfl rfl (by simp [Try.ntmps97]) ?_
    simp only [argT, argA, fQ, xRet, rPs, xRes, flatA, rD, eq_self, xRun, vE, vP, vBin, vBinT, isAg, isBo, isCutO, isB, bv, gN, isPick, isCall, AS.pt, AS.ev, look, cav, avB, eatsOf, Option.getD, List.map, List.nodup_nil, ↓reduceIte, Nat.reduceLT, Nat.reduceEqDiff, Nat.zero_add, or_false, Bool.false_eq_true, reduceCtorEq, decide_false, and_self, Nat.succ_ne_zero, h, Try.ntmps97, Try.results97]
theorem con_VerifyI (code : List Ins) (hl : code.length ≤ 1000000000) : Con Try.prog 41 [.one (inssD code)] [.one (.bool (shpR code).isSome)] := by
  have hc := con_ShapesI code hl
  generalize shpR code = R at *
  simp only [inssD, shpsD] at hc
  refine con_run Try.func41 rfl rfl (by simp [Try.ntmps41]) ?_
  simp only [argT, argA, eq_self, xRun, vE, vP, isCutO, gN, isPick, isCall, AS.pt, AS.ev, look, cav, avB, Option.getD, Option.isSome, ↓reduceIte, Nat.reduceLT, true_and, Bool.false_eq_true, reduceCtorEq, inssD, Try.ntmps41]
  refine sw_call (hc) rfl (aAs_ok ?_) ?_ (sw_run 200 _ _ _ ?_)
  · simp only [aAs, aA, aD, AS.ev, look, Option.getD, List.map, List.append_nil, ↓reduceIte, eq_self, and_self]
  · simp only [okR]
  simp only [mkR, flatD, packA, retA, List.headD_cons, List.tail_cons, fQ, xRet, rPs, xRes, flatA, rD, eq_self, xRun, vE, vP, vExt, isCutO, gN, isPick, isCall, AS.pt, AS.ev, AS.mk', kill, look, eatsOf, Option.getD, Option.isSome, List.map, List.getElem?_cons_zero, List.getElem?_cons_succ, List.foldr, List.nodup_nil, ↓reduceIte, Nat.reduceLT, Nat.reduceEqDiff, Nat.zero_add, or_false, Bool.false_eq_true, reduceCtorEq, and_self, Try.results41]
theorem con_VerifyS (code : List Ins) (hl : code.length ≤ 1000000000) : Con Try.prog 40 [.one (inssD code)] [.one (.bool (shpR code).isSome)] := by
  have hc := con_ShapesS code hl
  generalize shpR code = R at *
  simp only [inssD, shpsD] at hc
  refine con_run Try.func40 rfl rfl (by simp [Try.ntmps40]) ?_
  simp only [argT, argA, eq_self, xRun, vE, vP, isCutO, gN, isPick, isCall, AS.pt, AS.ev, look, cav, avB, Option.getD, Option.isSome, ↓reduceIte, Nat.reduceLT, true_and, Bool.false_eq_true, reduceCtorEq, inssD, Try.ntmps40]
  refine sw_call (hc) rfl (aAs_ok ?_) ?_ (sw_run 200 _ _ _ ?_)
  · simp only [aAs, aA, aD, AS.ev, look, Option.getD, List.map, List.append_nil, ↓reduceIte, eq_self, and_self]
  · simp only [okR]
  simp only [mkR, flatD, packA, retA, List.headD_cons, List.tail_cons, fQ, xRet, rPs, xRes, flatA, rD, eq_self, xRun, vE, vP, vExt, isCutO, gN, isPick, isCall, AS.pt, AS.ev, AS.mk', kill, look, eatsOf, Option.getD, Option.isSome, List.map, List.getElem?_cons_zero, List.getElem?_cons_succ, List.foldr, List.nodup_nil, ↓reduceIte, Nat.reduceLT, Nat.reduceEqDiff, Nat.zero_add, or_false, Bool.false_eq_true, reduceCtorEq, and_self, Try.results40]
theorem con_MaxI (code : List Ins) (hl : code.length ≤ 1000000000) : Con Try.prog 43 [.one (inssD code)] [.one (.int (mxR code))] := by
  have hc := con_ShapesI code hl
  have hln := fun T (h : shpR code = some T) => shpR_len h
  unfold mxR
  generalize shpR code = R at *
  simp only [inssD, shpsD] at hc
  cases R with
  | none =>
    refine con_run Try.func43 rfl rfl (by simp [Try.ntmps43]) ?_
    simp only [argT, argA, eq_self, xRun, vE, vP, isCutO, gN, isPick, isCall, AS.pt, AS.ev, look, cav, avB, Option.getD, ↓reduceIte, Nat.reduceLT, true_and, Bool.false_eq_true, reduceCtorEq, Int.reduceNeg, inssD, Try.ntmps43]
    refine sw_call (hc) rfl (aAs_ok ?_) ?_ (sw_run 200 _ _ _ ?_)
    · simp only [aAs, aA, aD, AS.ev, look, Option.getD, List.map, List.append_nil, ↓reduceIte, eq_self, and_self]
    · simp only [okR]
    simp only [mkR, flatD, packA, retA, List.headD_cons, List.tail_cons, fQ, xRet, rPs, xRes, flatA, rD, eq_self, xRun, vE, vP, vNot, vExt, isCutO, isB, bv, gN, isPick, isCall, AS.pt, AS.ev, AS.mk', kill, look, cav, eatsOf, Option.getD, Option.isSome, List.map, List.length, List.getElem?_cons_zero, List.getElem?_cons_succ, List.foldr, List.nodup_nil, ↓reduceIte, Nat.reduceLT, Nat.reduceEqDiff, Nat.zero_add, or_false, Bool.not_false, Bool.false_eq_true, reduceCtorEq, Int.reduceNeg, and_self, Try.results43]
  | some T =>
    have hT := hln T rfl
    have hTl : (T.length : Int) ≤ 1000000000 := by omega
    refine con_run Try.func43 rfl rfl (by simp [Try.ntmps43]) ?_
    simp only [argT, argA, eq_self, xRun, vE, vP, isCutO, gN, isPick, isCall, AS.pt, AS.ev, look, cav, avB, Option.getD, ↓reduceIte, Nat.reduceLT, true_and, Bool.false_eq_true, reduceCtorEq, Int.reduceNeg, inssD, Try.ntmps43]
    refine sw_call (hc) rfl (aAs_ok ?_) ?_ (sw_run 200 _ _ _ ?_)
    · simp only [aAs, aA, aD, AS.ev, look, Option.getD, List.map, List.append_nil, ↓reduceIte, eq_self, and_self]
    · simp only [okR]
    simp only [mkR, flatD, packA, retA, List.headD_cons, List.tail_cons, eq_self, xRun, vE, vP, vNot, vLen, vExt, isCutO, isB, bv, gN, isPick, isCall, AS.pt, AS.ev, AS.mk', AS.owf, AS.rd, kill, look, cav, td4, Option.bind, Option.getD, Option.map, Option.isSome, List.getElem?_cons_zero, List.getElem?_cons_succ, List.foldr, ↓reduceIte, Nat.reduceLT, Nat.reduceEqDiff, Nat.zero_add, true_and, Bool.not_true, Bool.false_eq_true, id_eq]
    refine sw_loop (fun i : Nat × Int => i.1 ≤ T.length ∧ mhF (T.drop i.1) i.2 = mhF T 0) (fun i => ⟨27, [(17, .i i.1), (16, .i T.length), (15, .sl 0), (5, .i i.2)], [], [(0, some ⟨.rows 4 T.length (flC shpC T), none, true⟩)], 1, []⟩) (fun i => T.length - i.1) (0, 0) id ⟨Nat.zero_le _, rfl⟩ ?_ ?_
    · simp only [Sub, subT, subB, subO, subP, inj, AV.ren, AV.lt, eq_self, AS.owf, look, Option.bind, List.map, List.not_mem_nil, List.nodup_cons, List.nodup_nil, ↓reduceIte, Nat.reduceLT, Nat.reduceEqDiff, not_false_eq_true, id_eq, Int.natCast_zero, and_self, Int.natCast_zero]
    · rintro ⟨k, m⟩ ⟨hk, hm⟩
      simp only at hk hm ⊢
      refine sw_run 200 _ _ _ ?_
      by_cases hlt : k < T.length
      · have hi : (k : Int) < (T.length : Int) := by omega
        have hr := flC_row shpC_len T k hlt
        simp only [shpC] at hr
        rw [mhF_step T k m hlt] at hm
        simp only [qLp, rowD, eq_self, xRun, vE, vP, vSub, vLoad, vFld, vIdx, vBin, vBinT, isAg, isBo, vMax, vStore, isCutO, isB, bv, gN, isPick, isCall, AS.pt, AS.ev, AS.box, AS.setb, AS.owf, look, cav, avO, setRowG, AV.cells, AV.whole, AV.one, td0, td1, td2, td5, td6, Option.bind, Option.getD, Option.isSome, List.map, List.take, List.drop, List.length, List.getElem?_cons_zero, List.getElem?_cons_succ, List.set, List.all, ↓reduceIte, Nat.reduceLT, Nat.reduceAdd, Nat.reduceEqDiff, Nat.zero_add, ne_eq, not_false_eq_true, true_and, Bool.and_true, Bool.false_eq_true, id_eq, Int.toNat_natCast, Int.natCast_nonneg, decide_true, and_self, Nat.succ_ne_zero, Nat.le_refl, hi, hr]
        skip
        refine ⟨by unfold inI; omega, (k + 1, if m < T[k]!.h then T[k]!.h else m), id, ⟨by simp only; omega, hm⟩, by simp only; omega, ?_⟩
        simp only [Sub, subT, subB, subO, subP, inj, AV.ren, AV.lt, eq_self, AS.owf, look, Option.bind, List.map, List.not_mem_nil, List.nodup_cons, List.nodup_nil, ↓reduceIte, Nat.reduceLT, Nat.reduceEqDiff, not_false_eq_true, id_eq, and_self, cast1]
      · have hi : ¬ (k : Int) < (T.length : Int) := by omega
        rw [mhF_end T k m (by omega)] at hm
        simp only [qLp, eq_self, xRun, vE, vP, vBin, vBinT, isAg, isBo, isCutO, isB, bv, gN, isPick, isCall, popTo, AS.pt, AS.ev, look, Option.getD, Option.isSome, ↓reduceIte, Nat.reduceLT, Nat.reduceEqDiff, true_and, Bool.false_eq_true, decide_false, hi]
        refine sw_run 200 _ _ _ ?_
        simp only [fQ, xRet, rPs, xRes, flatA, rD, eq_self, xRun, vE, vP, isCutO, gN, isPick, isCall, AS.pt, AS.ev, look, eatsOf, Option.getD, List.map, List.nodup_nil, ↓reduceIte, Nat.reduceLT, Nat.reduceEqDiff, or_false, Bool.false_eq_true, reduceCtorEq, and_self, hm, Try.results43]
theorem con_MaxS (code : List Ins) (hl : code.length ≤ 1000000000) : Con Try.prog 42 [.one (inssD code)] [.one (.int (mxR code))] := by
  have hc := con_ShapesS code hl
  have hln := fun T (h : shpR code = some T) => shpR_len h
  unfold mxR
  generalize shpR code = R at *
  simp only [inssD, shpsD] at hc
  cases R with
  | none =>
    refine con_run Try.func42 rfl rfl (by simp [Try.ntmps42]) ?_
    simp only [argT, argA, eq_self, xRun, vE, vP, isCutO, gN, isPick, isCall, AS.pt, AS.ev, look, cav, avB, Option.getD, ↓reduceIte, Nat.reduceLT, true_and, Bool.false_eq_true, reduceCtorEq, Int.reduceNeg, inssD, Try.ntmps42]
    refine sw_call (hc) rfl (aAs_ok ?_) ?_ (sw_run 200 _ _ _ ?_)
    · simp only [aAs, aA, aD, AS.ev, look, Option.getD, List.map, List.append_nil, ↓reduceIte, eq_self, and_self]
    · simp only [okR]
    simp only [mkR, flatD, packA, retA, List.headD_cons, List.tail_cons, fQ, xRet, rPs, xRes, flatA, rD, eq_self, xRun, vE, vP, vNot, vExt, isCutO, isB, bv, gN, isPick, isCall, AS.pt, AS.ev, AS.mk', kill, look, cav, eatsOf, Option.getD, Option.isSome, List.map, List.length, List.getElem?_cons_zero, List.getElem?_cons_succ, List.foldr, List.nodup_nil, ↓reduceIte, Nat.reduceLT, Nat.reduceEqDiff, Nat.zero_add, or_false, Bool.not_false, Bool.false_eq_true, reduceCtorEq, Int.reduceNeg, and_self, Try.results42]
  | some T =>
    have hT := hln T rfl
    have hTl : (T.length : Int) ≤ 1000000000 := by omega
    refine con_run Try.func42 rfl rfl (by simp [Try.ntmps42]) ?_
    simp only [argT, argA, eq_self, xRun, vE, vP, isCutO, gN, isPick, isCall, AS.pt, AS.ev, look, cav, avB, Option.getD, ↓reduceIte, Nat.reduceLT, true_and, Bool.false_eq_true, reduceCtorEq, Int.reduceNeg, inssD, Try.ntmps42]
    refine sw_call (hc) rfl (aAs_ok ?_) ?_ (sw_run 200 _ _ _ ?_)
    · simp only [aAs, aA, aD, AS.ev, look, Option.getD, List.map, List.append_nil, ↓reduceIte, eq_self, and_self]
    · simp only [okR]
    simp only [mkR, flatD, packA, retA, List.headD_cons, List.tail_cons, eq_self, xRun, vE, vP, vNot, vExt, isCutO, isB, bv, gN, isPick, isCall, AS.pt, AS.ev, AS.mk', kill, look, cav, Option.getD, Option.isSome, List.getElem?_cons_zero, List.getElem?_cons_succ, List.foldr, ↓reduceIte, Nat.reduceLT, Nat.reduceEqDiff, Nat.zero_add, true_and, Bool.not_true, Bool.false_eq_true]
    refine sw_loop (fun i : Nat × Int => i.1 ≤ T.length ∧ mhF (T.drop i.1) i.2 = mhF T 0) (fun i => ⟨28, [(6, .i i.1), (3, .sl 0), (5, .i i.2)], [], [(0, some ⟨.rows 4 T.length (flC shpC T), none, true⟩)], 1, []⟩) (fun i => T.length - i.1) (0, 0) id ⟨Nat.zero_le _, rfl⟩ ?_ ?_
    · simp only [Sub, subT, subB, subO, subP, inj, AV.ren, AV.lt, eq_self, AS.owf, look, Option.bind, List.map, List.not_mem_nil, List.nodup_cons, List.nodup_nil, ↓reduceIte, Nat.reduceLT, Nat.reduceEqDiff, not_false_eq_true, id_eq, Int.natCast_zero, and_self, Int.natCast_zero]
    · rintro ⟨k, m⟩ ⟨hk, hm⟩
      simp only at hk hm ⊢
      refine sw_run 200 _ _ _ ?_
      by_cases hlt : k < T.length
      · have hi : (k : Int) < (T.length : Int) := by omega
        have hr := flC_row shpC_len T k hlt
        simp only [shpC] at hr
        rw [mhF_step T k m hlt] at hm
        simp only [rowD, eq_self, xRun, vE, vP, vSub, vLoad, vFld, vIdx, vBin, vBinT, isAg, isBo, vLen, isCutO, isB, bv, gN, isPick, isCall, AS.pt, AS.ev, AS.owf, AS.rd, look, avO, td0, td1, td2, td4, Option.bind, Option.getD, Option.map, Option.isSome, List.map, List.getElem?_cons_zero, List.getElem?_cons_succ, ↓reduceIte, Nat.reduceLT, Nat.reduceEqDiff, Nat.zero_add, ne_eq, not_false_eq_true, true_and, Bool.false_eq_true, id_eq, Int.toNat_natCast, Int.natCast_nonneg, decide_true, and_self, Nat.succ_ne_zero, hi, hr]
        refine sw_call (con_mx m T[k]!.h) rfl (aAs_ok ?_) ?_ (sw_run 200 _ _ _ ?_)
        · simp only [aAs, aA, aD, AS.ev, look, Option.getD, List.map, List.append_nil, ↓reduceIte, Nat.reduceEqDiff, eq_self, and_self]
        · simp only [okR]
        simp only [mkR, flatD, packA, retA, List.headD_cons, qLp, eq_self, xRun, vE, vP, vBin, vBinT, isAg, isBo, isCutO, gN, isPick, isCall, AS.pt, AS.ev, look, cav, Option.getD, ↓reduceIte, Nat.reduceLT, Nat.reduceEqDiff, true_and, Bool.false_eq_true, qLp]
        refine ⟨by unfold inI; omega, (k + 1, if m < T[k]!.h then T[k]!.h else m), id, ⟨by simp only; omega, hm⟩, by simp only; omega, ?_⟩
        simp only [Sub, subT, subB, subO, subP, inj, AV.ren, AV.lt, eq_self, AS.owf, look, Option.bind, List.map, List.not_mem_nil, List.nodup_cons, List.nodup_nil, ↓reduceIte, Nat.reduceLT, Nat.reduceEqDiff, not_false_eq_true, id_eq, and_self, cast1]
      · have hi : ¬ (k : Int) < (T.length : Int) := by omega
        rw [mhF_end T k m (by omega)] at hm
        simp only [qLp, eq_self, xRun, vE, vP, vBin, vBinT, isAg, isBo, vLen, isCutO, isB, bv, gN, isPick, isCall, popTo, AS.pt, AS.ev, AS.owf, AS.rd, look, td4, Option.bind, Option.getD, Option.map, Option.isSome, ↓reduceIte, Nat.reduceLT, Nat.reduceEqDiff, true_and, Bool.false_eq_true, id_eq, decide_false, hi]
        refine sw_run 200 _ _ _ ?_
        simp only [fQ, xRet, rPs, xRes, flatA, rD, eq_self, xRun, vE, vP, isCutO, gN, isPick, isCall, AS.pt, AS.ev, look, eatsOf, Option.getD, List.map, List.nodup_nil, ↓reduceIte, Nat.reduceLT, Nat.reduceEqDiff, or_false, Bool.false_eq_true, reduceCtorEq, and_self, hm, Try.results42]
theorem len_inss (xs : List Ins) : xs.length ≤ szD (inssD xs) := by simp only [inssD, szD]; omega
theorem sz_shps (xs : List Shp) : szD (shpsD xs) = xs.length := by
  have h : szL (flC shpC xs) = 0 := by
    induction xs with
    | nil => rfl
    | cons x xs ih => rw [flC, szL_append, ih]; rfl
  simp only [shpsD, szD, h]; omega
theorem shp_fit {code : List Ins} (hz : code.length ≤ 1048576) : Conf (shpsD ((shpR code).getD [])) (.sl .shape) ∧ cntD (shpsD ((shpR code).getD [])) ≤ 17592186044416 := by
  have hl : ((shpR code).getD []).length ≤ 1048576 := by
    cases h : shpR code with
    | none => simp
    | some T => have := shpR_len h; simp only [Option.getD_some]; omega
  have hc : Conf (shpsD ((shpR code).getD [])) (.sl .shape) := conf_fl .shape (sz := 4) shpC rfl shpC_len (by unfold maxLen; omega) fun y _ => by
    simp only [shpC, K.fields, ConfL]
    exact ⟨_, _, rfl, by unfold Conf; rfl, _, _, rfl, by unfold Conf; rfl, _, _, rfl, by unfold Conf; rfl, _, _, rfl, by unfold Conf; rfl, rfl⟩
  have := cntD_bd hc
  rw [sz_shps] at this
  exact ⟨hc, by omega⟩
end Go.Proofs.Ytemlobcbepgbaaa
