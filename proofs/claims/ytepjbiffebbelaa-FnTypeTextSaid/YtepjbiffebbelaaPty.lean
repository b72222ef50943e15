/-
  The text of a type and how it is read, of both sides.
-/
import Derived.Test.YtepjbiffebbelaaPtp
import Derived.Test.YtepjbiffebbelaaAll
import Derived.Test.YtepjbiffebbelaaStaged
import Derived.Test.YtepjbiffebbelaaPtr
namespace Go.Proofs.Ytepjbiffebbelaa
open Go.RowKit
set_option linter.unusedVariables false
set_option linter.unusedSimpArgs false
set_option maxRecDepth 20000
theorem bs_size (l : List UInt8) : (bs l).size = l.length := by simp [bs, ByteArray.size]
theorem bs_app (a b : List UInt8) : bs a ++ bs b = bs (a ++ b) := by
  apply ByteArray.ext
  rw [ByteArray.data_append]; simp [bs]
theorem bs_ext (l : List UInt8) (i j : Nat) : (bs l).extract i j = bs ((l.drop i).take (j - i)) := by
  apply ByteArray.ext
  rw [ByteArray.data_extract]
  apply Array.ext'
  simp [bs]
theorem bs_dec (a b : List UInt8) : decide (bs a = bs b) = decide (a = b) := by
  by_cases h : a = b
  · subst h; simp
  · rw [decide_eq_false h, decide_eq_false (fun e => h (bs_inj e))]
theorem bs_ex (s : ByteArray) : ∃ l, s = bs l := ⟨s.data.toList, by simp [bs]⟩
/-! ## Prefixes -/
def hpB (s p : ByteArray) : Bool := decide (p.size ≤ s.size) && decide (s.extract 0 p.size = p)
theorem con_HasPre (s p : ByteArray) : Con Try.prog 219 [.one (.str s), .one (.str p)] [.one (.bool (hpB s p))] := by
  unfold hpB
  by_cases h : p.size ≤ s.size
  · rw [decide_eq_true h, Bool.true_and]
    have h1 : (p.size : Int) ≤ (s.size : Int) := by omega
    refine con_run Try.func219 rfl rfl (by simp [Try.ntmps219]) ?_
    simp only [argT, argA, fQ, xRet, rPs, xRes, flatA, rD, eq_self, xRun, vE, vP, vBin, vBinT, isAg, isBo, vLen, vCut, vSlc, isCutO, ixL, ixH, isB, bv, gT, gW, gN, gV, isU, isPick, pkC, pkA, isCall, AS.pt, AS.kn, AS.ev, look, cav, avB, eatsOf, td0, td1, td2, td3, td4, td5, td6, Option.bind, Option.getD, Option.map, Option.isSome, List.map, List.getElem?_cons_zero, List.getElem?_cons_succ, List.nodup_nil, ↓reduceIte, Nat.reduceLT, Nat.reduceEqDiff, Nat.zero_add, or_false, Bool.false_eq_true, reduceCtorEq, Int.toNat_natCast, Int.toNat_zero, Int.le_refl, Int.natCast_nonneg, decide_true, and_self, Nat.succ_ne_zero, eq_true h1, Try.ntmps219, Try.results219]
  · rw [decide_eq_false h, Bool.false_and]
    have h1 : ¬ (p.size : Int) ≤ (s.size : Int) := by omega
    refine con_run Try.func219 rfl rfl (by simp [Try.ntmps219]) ?_
    simp only [argT, argA, fQ, xRet, rPs, xRes, flatA, rD, eq_self, xRun, vE, vP, vBin, vBinT, isAg, isBo, vLen, isCutO, isB, bv, gT, gW, gN, gV, isU, isPick, pkC, pkB, isCall, AS.pt, AS.kn, AS.ev, look, cav, avB, eatsOf, td0, td1, td2, td3, td4, td5, td6, Option.bind, Option.getD, Option.isSome, List.map, List.getElem?_cons_zero, List.getElem?_cons_succ, List.nodup_nil, ↓reduceIte, Nat.reduceLT, Nat.reduceEqDiff, Nat.zero_add, or_false, Bool.not_true, Bool.false_eq_true, reduceCtorEq, decide_false, and_self, Nat.succ_ne_zero, h1, Try.ntmps219, Try.results219]
theorem con_CutPre0 (s p : ByteArray) : Con Try.prog 216 [.one (.str s), .one (.str p)] [.one (.str (if hpB s p = true then s.extract p.size s.size else s)), .one (.bool (hpB s p))] := by
  have hc := con_HasPre s p
  have hsz : hpB s p = true → p.size ≤ s.size := fun h => by
    unfold hpB at h
    simp only [Bool.and_eq_true, decide_eq_true_eq] at h
    exact h.1
  generalize hpB s p = b at *
  cases b
  · refine con_run Try.func216 rfl rfl (by simp [Try.ntmps216]) ?_
    simp only [argT, argA, eq_self, xRun, vE, vP, isCutO, gN, isPick, isCall, AS.pt, AS.ev, look, cav, avB, td0, td1, td2, td3, td4, td5, td6, Option.getD, ↓reduceIte, Nat.reduceLT, Nat.reduceEqDiff, Nat.zero_add, true_and, Bool.false_eq_true, reduceCtorEq, Nat.succ_ne_zero, Try.ntmps216]
    refine sw_call (hc) rfl (aAs_ok ?_) ?_ (sw_run 200 _ _ _ ?_)
    · simp only [aAs, aA, aD, AS.ev, look, Option.getD, List.map, List.append_nil, ↓reduceIte, Nat.reduceEqDiff, eq_self, and_self]
    · simp only [okR]
    simp only [mkR, flatD, packA, retA, List.headD_cons, fQ, xRet, rPs, xRes, flatA, rD, eq_self, xRun, vE, vP, vNot, isCutO, isB, bv, gN, isPick, isCall, AS.pt, AS.ev, look, cav, eatsOf, td0, td1, td2, td3, td4, td5, td6, Option.getD, List.map, List.nodup_nil, ↓reduceIte, Nat.reduceLT, Nat.reduceEqDiff, or_false, Bool.not_false, Bool.false_eq_true, reduceCtorEq, and_self, Try.results216]
  · have h1 : (p.size : Int) ≤ (s.size : Int) := by have := hsz rfl; omega
    refine con_run Try.func216 rfl rfl (by simp [Try.ntmps216]) ?_
    simp only [argT, argA, eq_self, xRun, vE, vP, isCutO, gN, isPick, isCall, AS.pt, AS.ev, look, cav, avB, td0, td1, td2, td3, td4, td5, td6, Option.getD, ↓reduceIte, Nat.reduceLT, Nat.reduceEqDiff, Nat.zero_add, true_and, Bool.false_eq_true, reduceCtorEq, Nat.succ_ne_zero, Try.ntmps216]
    refine sw_call (hc) rfl (aAs_ok ?_) ?_ (sw_run 200 _ _ _ ?_)
    · simp only [aAs, aA, aD, AS.ev, look, Option.getD, List.map, List.append_nil, ↓reduceIte, Nat.reduceEqDiff, eq_self, and_self]
    · simp only [okR]
    simp only [mkR, flatD, packA, retA, List.headD_cons, fQ, xRet, rPs, xRes, flatA, rD, eq_self, xRun, vE, vP, vNot, vLen, vCut, vSlc, isCutO, ixL, ixH, isB, bv, gN, isPick, isCall, AS.pt, AS.ev, look, cav, eatsOf, td0, td1, td2, td3, td4, td5, td6, Option.getD, Option.map, List.map, List.nodup_nil, ↓reduceIte, Nat.reduceLT, Nat.reduceEqDiff, or_false, Bool.not_true, Bool.false_eq_true, reduceCtorEq, Int.toNat_natCast, Int.le_refl, Int.natCast_nonneg, and_self, Nat.succ_ne_zero, eq_true h1, Try.results216]
theorem con_CutPre (s p : ByteArray) : Con Try.prog 207 [.one (.str s), .one (.str p)] [.one (.str (if hpB s p = true then s.extract p.size s.size else s)), .one (.bool (hpB s p))] := by
  have hc := con_CutPre0 s p
  refine con_run Try.func207 rfl rfl (by simp [Try.ntmps207]) ?_
  simp only [argT, argA, eq_self, xRun, vE, vP, isCutO, gN, isPick, isCall, AS.pt, AS.ev, look, cav, avB, td0, td1, td2, td3, td4, td5, td6, Option.getD, ↓reduceIte, Nat.reduceLT, Nat.reduceEqDiff, Nat.zero_add, true_and, Bool.false_eq_true, reduceCtorEq, Nat.succ_ne_zero, Try.ntmps207]
  refine sw_call (hc) rfl (aAs_ok ?_) ?_ (sw_run 200 _ _ _ ?_)
  · simp only [aAs, aA, aD, AS.ev, look, Option.getD, List.map, List.append_nil, ↓reduceIte, Nat.reduceEqDiff, eq_self, and_self]
  · simp only [okR]
  simp only [mkR, flatD, packA, retA, List.headD_cons, List.tail_cons, fQ, xRet, rPs, xRes, flatA, rD, eq_self, xRun, vE, vP, vExt, isCutO, gN, isPick, isCall, AS.pt, AS.ev, look, eatsOf, td0, td1, td2, td3, td4, td5, td6, Option.getD, Option.isSome, List.map, List.getElem?_cons_zero, List.getElem?_cons_succ, List.nodup_nil, ↓reduceIte, Nat.reduceLT, Nat.reduceEqDiff, or_false, Bool.false_eq_true, reduceCtorEq, and_self, Try.results207]
theorem hp_ct (c : UInt8) (l : List UInt8) : hpB (bs l) (bs [c]) = (ct c l).1 ∧ (if hpB (bs l) (bs [c]) = true then (bs l).extract (bs [c]).size (bs l).size else bs l) = bs (ct c l).2 := by
  unfold hpB
  rw [bs_size, bs_size, bs_ext, bs_dec]
  cases l with
  | nil => simp [ct]
  | cons x r =>
    rw [ct_cons]
    by_cases h : x = c
    · subst h
      simp [bs_ext, List.take_of_length_le]
    · simp [h]
theorem con_cut (c : UInt8) (l : List UInt8) (d : Int) : ConP Try.prog 160 [.p [.o (.str (bs l)), .o (.int d)], .b (.one (.str ⟨#[c]⟩))] [[.o (.str (bs (ct c l).2)), .o (.int d)]] [.one (.o (.bool (ct c l).1))] := by
  rw [show (⟨#[c]⟩ : ByteArray) = bs [c] from rfl]
  have hc := con_CutPre (bs l) (bs [c])
  obtain ⟨e1, e2⟩ := hp_ct c l
  rw [e2, e1] at hc
  refine con_runP Try.func160 rfl rfl (by simp [Try.ntmps160]) rfl ?_
  simp only [s0P, mkPs, mkPA, mkC, argA, numT, eq_self, xRun, vE, vP, vSub, vLoad, vFld, isCutO, gN, isPick, isCall, AS.pt, AS.ev, AS.box, look, cav, avB, td0, td1, td2, td3, td4, td5, td6, Option.getD, Option.isSome, List.getElem?_cons_zero, List.nil_append, ↓reduceIte, Nat.reduceLT, Nat.reduceEqDiff, Nat.zero_add, Nat.add_zero, ne_eq, not_false_eq_true, true_and, Bool.false_eq_true, reduceCtorEq, Nat.succ_ne_zero, Try.ntmps160]
  refine sw_call (hc) rfl (aAs_ok ?_) ?_ (sw_run 200 _ _ _ ?_)
  · simp only [aAs, aA, aD, AS.ev, look, Option.getD, List.map, List.append_nil, ↓reduceIte, Nat.reduceEqDiff, eq_self, and_self]
  · simp only [okR]
  simp only [fQP, xRetP, rRs, rOs, rC, rCs, eRs, eOs, eC, eCs, mkR, flatD, packA, retA, List.headD_cons, List.tail_cons, xRes, rD, eq_self, xRun, vE, vP, vFld, vExt, vStore, isCutO, gN, isPick, isCall, AS.pt, AS.ev, AS.setb, look, setRowG, AV.cells, AV.whole, AV.one, td0, td1, td2, td3, td4, td5, td6, Option.getD, Option.isSome, List.map, List.length, List.getElem?_cons_zero, List.getElem?_cons_succ, List.set, List.not_mem_nil, List.nodup_cons, List.nodup_nil, List.append_nil, ↓reduceIte, Nat.reduceLT, Nat.reduceAdd, Nat.reduceLeDiff, Nat.reduceEqDiff, Nat.zero_add, Nat.add_zero, ne_eq, not_false_eq_true, or_false, Bool.false_eq_true, reduceCtorEq, and_self, Nat.succ_ne_zero, Try.results160]
/-! ## Texts -/
theorem txTs_len : ∀ xs : List Ty, (∀ a ∈ xs, (txT a).length ≤ 3 * szT a) → ((txTs xs).getD 0 []).length + ((txTs xs).getD 1 []).length ≤ 3 * szTs xs
  | [], _ => by simp [txTs]
  | [a], h => by
    have := h a (by simp)
    simp [txTs, szTs]; omega
  | a :: b :: r, h => by
    have h1 := h a (by simp)
    have h2 := h b (by simp)
    simp [txTs, szTs]; omega
theorem txT_len : ∀ t : Ty, (txT t).length ≤ 3 * szT t := by
  refine Ty.ind fun k xs ih => ?_
  have h := txTs_len xs ih
  rw [txT, szT]
  repeat' split
  all_goals simp only [List.length_append, List.length_cons, List.length_nil]
  all_goals omega
theorem tx3 (a b : Ty) : txT (.mk 3 [a, b]) = [40] ++ txT a ++ [62] ++ txT b ++ [41] := by simp [txT, txTs]
theorem tx4 (a : Ty) : txT (.mk 4 [a]) = [60] ++ txT a ++ [62] := by simp [txT, txTs]
theorem form_cases {k : Int} {xs : List Ty} (h : formT (.mk k xs) = true) : (k = 1 ∧ xs = []) ∨ (k = 2 ∧ xs = []) ∨ (∃ a b, k = 3 ∧ xs = [a, b] ∧ formT a = true ∧ formT b = true) ∨ ∃ a, k = 4 ∧ xs = [a] ∧ formT a = true := by
  rw [formT] at h
  simp only [Bool.and_eq_true, shB] at h
  obtain ⟨h1, h2⟩ := h
  split at h2
  · rename_i e
    have h3 : xs.length = 0 := by have := of_decide_eq_true h2; omega
    obtain rfl := List.eq_nil_of_length_eq_zero h3
    rcases e with e | e
    · exact .inl ⟨e, rfl⟩
    · exact .inr (.inl ⟨e, rfl⟩)
  · split at h2
    · rename_i e
      have h3 : xs.length = 2 := by have := of_decide_eq_true h2; omega
      match xs, h3 with
      | [a, b], _ =>
        simp only [formTs, Bool.and_eq_true, Bool.and_true] at h1
        exact .inr (.inr (.inl ⟨a, b, e, rfl, h1.1, h1.2⟩))
    · split at h2
      · rename_i e
        have h3 : xs.length = 1 := by have := of_decide_eq_true h2; omega
        match xs, h3 with
        | [a], _ =>
          simp only [formTs, Bool.and_true] at h1
          exact .inr (.inr (.inr ⟨a, e, rfl, h1⟩))
      · cases h2
theorem ch_b (c : UInt8) : (⟨#[c]⟩ : ByteArray) = bs [c] := rfl
theorem tys_sz2 (a b : Ty) : szL (tyC (.mk 3 [a, b])) = 2 + (szL (tyC a) + szL (tyC b)) := by simp [tyC, tysC, szL, szD, szL_append]
theorem tys_sz1 (a : Ty) : szL (tyC (.mk 4 [a])) = 1 + szL (tyC a) := by simp [tyC, tysC, szL, szD]
theorem con_textI : ∀ t : Ty, formT t = true → szL (tyC t) ≤ 1000000000 → Con Try.prog 89 [.ag (tyC t)] [.one (.str (bs (txT t)))] := by
  refine Ty.ind fun k xs ih hf hz => ?_
  rcases form_cases hf with ⟨rfl, rfl⟩ | ⟨rfl, rfl⟩ | ⟨a, b, rfl, rfl, ha, hb⟩ | ⟨a, rfl, rfl, ha⟩
  · refine con_run Try.func89 rfl rfl (by simp [Try.ntmps89]) ?_
    simp only [argT, argA, fQ, xRet, rPs, xRes, flatA, rD, eq_self, xRun, vE, vP, vSub, vLoad, vFld, vBin, vBinT, isAg, isBo, isCutO, isB, bv, gN, isPick, isCall, AS.pt, AS.ev, AS.box, look, cav, avB, AV.cells, AV.whole, AV.one, eatsOf, td0, td1, td2, td3, td4, td5, td6, Option.getD, Option.isSome, List.map, List.length, List.getElem?_cons_zero, List.all, List.nodup_nil, ↓reduceIte, Nat.reduceLT, Nat.reduceEqDiff, Nat.zero_add, Nat.add_zero, ne_eq, not_false_eq_true, true_and, and_true, or_false, Bool.and_true, Bool.false_eq_true, reduceCtorEq, decide_true, Nat.succ_ne_zero, tyC, tysC, txT, Try.ntmps89, Try.results89]
    rfl
  · refine con_run Try.func89 rfl rfl (by simp [Try.ntmps89]) ?_
    simp only [argT, argA, fQ, xRet, rPs, xRes, flatA, rD, eq_self, xRun, vE, vP, vSub, vLoad, vFld, vBin, vBinT, isAg, isBo, isCutO, isB, bv, gN, isPick, isCall, AS.pt, AS.ev, AS.box, look, cav, avB, AV.cells, AV.whole, AV.one, eatsOf, td0, td1, td2, td3, td4, td5, td6, Option.getD, Option.isSome, List.map, List.length, List.getElem?_cons_zero, List.all, List.nodup_nil, ↓reduceIte, Nat.reduceLT, Nat.reduceEqDiff, Nat.zero_add, Nat.add_zero, ne_eq, not_false_eq_true, true_and, and_true, or_false, Bool.and_true, Bool.false_eq_true, reduceCtorEq, Int.reduceEq, decide_true, decide_false, Nat.succ_ne_zero, tyC, tysC, txT, Try.ntmps89, Try.results89]
    rfl
  · rw [tys_sz2] at hz
    have h1 := ih a (by simp) ha (by omega)
    have h2 := ih b (by simp) hb (by omega)
    have l1 := txT_len a
    have l2 := txT_len b
    have l3 := szT_le a
    have l4 := szT_le b
    have r0 : rowAt 2 (tysC [a, b]) 0 = [.int a.kind, tysD a.args] := by rw [tysC_row' [a, b] 0 (by simp), ← tyC_eq]; rfl
    have r1 : rowAt 2 (tysC [a, b]) 1 = [.int b.kind, tysD b.args] := by rw [tysC_row' [a, b] 1 (by simp), ← tyC_eq]; rfl
    refine con_run Try.func89 rfl rfl (by simp [Try.ntmps89]) ?_
    simp only [argT, argA, eq_self, xRun, vE, vP, vSub, vLoad, vFld, vBin, vBinT, isAg, isBo, isCutO, isB, bv, gN, isPick, isCall, AS.pt, AS.ev, AS.box, look, cav, avB, AV.cells, AV.whole, AV.one, td0, td1, td2, td3, td4, td5, td6, Option.getD, Option.isSome, List.map, List.length, List.getElem?_cons_zero, List.all, ↓reduceIte, Nat.reduceLT, Nat.reduceAdd, Nat.reduceEqDiff, Nat.zero_add, Nat.add_zero, ne_eq, not_false_eq_true, true_and, Bool.and_true, Bool.false_eq_true, Int.reduceEq, decide_true, decide_false, Nat.succ_ne_zero, tyC, Try.ntmps89]
    refine sw_drawn (.cons 0 true (.cons 1 true (.cons 2 true (.cons 3 true (.cons 7 true (.cons 8 true (.cons 9 true (.cons 10 true (.cons 4 false (.cons 5 true (.cons 6 true (.cons 11 false (.cons 12 true (.cons 13 true (.cons 14 true (.nil)))))))))))))))) (by kernel_rfl) fQ_panic (by kernel_rfl) (sw_run 200 _ _ _ ?_)
    simp only [tysD, rowD, eq_self, xRun, vP, vSub, vLoad, vFld, vIdx, gN, isPick, isCall, AS.pt, AS.ev, look, cav, avB, td0, td1, td2, td3, td4, td5, td6, Option.getD, Option.isSome, List.map, List.take, List.drop, List.length, List.getElem?_cons_zero, List.getElem?_cons_succ, ↓reduceIte, Nat.reduceLT, Nat.reduceAdd, Nat.reduceEqDiff, Nat.zero_add, ne_eq, not_false_eq_true, true_and, Bool.false_eq_true, Int.reduceLE, Int.toNat_zero, Int.toNat_one, Int.le_refl, Nat.succ_ne_zero, Nat.le_refl, r0, r1]
    refine ⟨by omega, by omega, ?_⟩
    refine sw_callD (h1) rfl (aAs_ok ?_) ?_ (sw_run 200 _ _ _ ?_)
    · simp only [aAs, aA, aDs, aD, tysD, AS.ev, look, Option.getD, List.map, List.append_nil, ↓reduceIte, Nat.reduceEqDiff, eq_self, and_self, tyC_eq]
    · simp only [okR]
    simp only [mkR, flatD, packA, retA, List.headD_cons, eq_self, xRun, vP, vBin, vBinT, isAg, isBo, gN, isPick, isCall, AS.pt, AS.ev, look, cav, td0, td1, td2, td3, td4, td5, td6, Option.getD, Option.isSome, List.length, List.getElem?_cons_zero, List.getElem?_cons_succ, List.nil_append, List.cons_append, ↓reduceIte, Nat.reduceLT, Nat.zero_add, true_and, Bool.false_eq_true, ch_b, bs_app, bs_size]
    refine ⟨by (try simp only [List.length_append, List.length_cons, List.length_nil]); unfold maxLen; omega, by (try simp only [List.length_append, List.length_cons, List.length_nil]); unfold maxLen; omega, ?_⟩
    refine sw_callD (h2) rfl (aAs_ok ?_) ?_ (sw_run 200 _ _ _ ?_)
    · simp only [aAs, aA, aDs, aD, tysD, AS.ev, look, Option.getD, List.map, List.append_nil, ↓reduceIte, Nat.reduceEqDiff, eq_self, and_self, tyC_eq]
    · simp only [okR]
    simp only [mkR, flatD, packA, retA, List.headD_cons, fQ, xRet, rPs, xRes, flatA, rD, eq_self, xRun, vP, vBin, vBinT, isAg, isBo, gN, isPick, AS.pt, AS.ev, look, cav, eatsOf, td0, td1, td2, td3, td4, td5, td6, Option.getD, Option.isSome, List.map, List.length, List.getElem?_cons_zero, List.getElem?_cons_succ, List.nodup_nil, List.nil_append, List.cons_append, ↓reduceIte, Nat.reduceLT, Nat.reduceEqDiff, Nat.zero_add, true_and, and_true, or_false, Bool.false_eq_true, reduceCtorEq, and_self, bs_app, bs_size, tx3, Try.results89]
    exact ⟨by (try simp only [List.length_append, List.length_cons, List.length_nil]); unfold maxLen; omega, by (try simp only [List.length_append, List.length_cons, List.length_nil]); unfold maxLen; omega⟩
  · rw [tys_sz1] at hz
    have h1 := ih a (by simp) ha (by omega)
    have l1 := txT_len a
    have l3 := szT_le a
    have r0 : rowAt 2 (tysC [a]) 0 = [.int a.kind, tysD a.args] := by rw [tysC_row' [a] 0 (by simp), ← tyC_eq]; rfl
    refine con_run Try.func89 rfl rfl (by simp [Try.ntmps89]) ?_
    simp only [argT, argA, tysD, rowD, eq_self, xRun, vE, vP, vSub, vLoad, vFld, vIdx, vBin, vBinT, isAg, isBo, isCutO, isB, bv, gN, isPick, isCall, AS.pt, AS.ev, AS.box, look, cav, avB, AV.cells, AV.whole, AV.one, td0, td1, td2, td3, td4, td5, td6, Option.getD, Option.isSome, List.map, List.take, List.drop, List.length, List.getElem?_cons_zero, List.getElem?_cons_succ, List.all, ↓reduceIte, Nat.reduceLT, Nat.reduceAdd, Nat.reduceEqDiff, Nat.zero_add, Nat.add_zero, ne_eq, not_false_eq_true, true_and, Bool.and_true, Bool.false_eq_true, Int.reduceEq, Int.toNat_zero, Int.le_refl, decide_false, Nat.succ_ne_zero, Nat.le_refl, tyC, r0, Try.ntmps89]
    refine ⟨by omega, ?_⟩
    refine sw_call (h1) rfl (aAs_ok ?_) ?_ (sw_run 200 _ _ _ ?_)
    · simp only [aAs, aA, aDs, aD, tysD, AS.ev, look, Option.getD, List.map, List.append_nil, ↓reduceIte, eq_self, and_self, tyC_eq]
    · simp only [okR]
    simp only [mkR, flatD, packA, retA, List.headD_cons, fQ, xRet, rPs, xRes, flatA, rD, eq_self, xRun, vE, vP, vBin, vBinT, isAg, isBo, isCutO, gN, isPick, isCall, AS.pt, AS.ev, look, cav, eatsOf, td0, td1, td2, td3, td4, td5, td6, Option.getD, List.map, List.length, List.nodup_nil, List.nil_append, List.cons_append, ↓reduceIte, Nat.reduceLT, Nat.zero_add, and_true, or_false, Bool.false_eq_true, reduceCtorEq, and_self, ch_b, bs_app, bs_size, tx4, Try.results89]
    exact ⟨by (try simp only [List.length_append, List.length_cons, List.length_nil]); unfold maxLen; omega, by (try simp only [List.length_append, List.length_cons, List.length_nil]); unfold maxLen; omega⟩
theorem con_FormatI (t : Ty) (hz : szL (tyC t) ≤ 1000000000) : Con Try.prog 33 [.ag (tyC t)] [.one (.str (bs (fmT t)))] := by
  have hv := con_ValidTyI t hz
  unfold fmT
  have hx : vTy t = true → Con Try.prog 89 [.ag (tyC t)] [.one (.str (bs (txT t)))] := fun h => con_textI t (by unfold vTy at h; simp only [Bool.and_eq_true] at h; exact h.2.2) hz
  generalize vTy t = b at *
  cases b
  · refine con_run Try.func33 rfl rfl (by simp [Try.ntmps33]) ?_
    simp only [argT, argA, tysD, eq_self, xRun, vE, vP, vSub, vLoad, isCutO, gN, isPick, isCall, AS.pt, AS.ev, AS.box, look, cav, avB, AV.cells, AV.whole, AV.one, td0, td1, td2, td3, td4, td5, td6, Option.getD, List.map, List.take, List.drop, List.length, List.all, ↓reduceIte, Nat.reduceLT, Nat.reduceAdd, Nat.reduceEqDiff, Nat.zero_add, true_and, Bool.and_true, Bool.false_eq_true, Nat.le_refl, tyC_eq, Try.ntmps33]
    refine sw_call (hv) rfl (aAs_ok ?_) ?_ (sw_run 200 _ _ _ ?_)
    · simp only [aAs, aA, aDs, aD, tysD, AS.ev, look, Option.getD, List.map, List.append_nil, ↓reduceIte, eq_self, and_self, tyC_eq]
    · simp only [okR]
    simp only [mkR, flatD, packA, retA, List.headD_cons, fQ, xRet, rPs, xRes, flatA, rD, eq_self, xRun, vE, vP, vNot, isCutO, isB, bv, gN, isPick, isCall, AS.pt, AS.ev, look, cav, eatsOf, td0, td1, td2, td3, td4, td5, td6, Option.getD, List.map, List.nodup_nil, ↓reduceIte, Nat.reduceLT, true_and, and_true, or_false, Bool.not_false, Bool.false_eq_true, reduceCtorEq, Try.results33]
    rfl
  · have hx := hx rfl
    refine con_run Try.func33 rfl rfl (by simp [Try.ntmps33]) ?_
    simp only [argT, argA, tysD, eq_self, xRun, vE, vP, vSub, vLoad, isCutO, gN, isPick, isCall, AS.pt, AS.ev, AS.box, look, cav, avB, AV.cells, AV.whole, AV.one, td0, td1, td2, td3, td4, td5, td6, Option.getD, List.map, List.take, List.drop, List.length, List.all, ↓reduceIte, Nat.reduceLT, Nat.reduceAdd, Nat.reduceEqDiff, Nat.zero_add, true_and, Bool.and_true, Bool.false_eq_true, Nat.le_refl, tyC_eq, Try.ntmps33]
    refine sw_call (hv) rfl (aAs_ok ?_) ?_ (sw_run 200 _ _ _ ?_)
    · simp only [aAs, aA, aDs, aD, tysD, AS.ev, look, Option.getD, List.map, List.append_nil, ↓reduceIte, eq_self, and_self, tyC_eq]
    · simp only [okR]
    simp only [mkR, flatD, packA, retA, List.headD_cons, eq_self, xRun, vE, vP, vSub, vLoad, vNot, isCutO, isB, bv, gN, isPick, isCall, AS.pt, AS.ev, look, td0, td1, td2, td3, td4, td5, td6, Option.getD, List.take, List.drop, List.length, ↓reduceIte, Nat.reduceLT, Nat.reduceAdd, Nat.reduceEqDiff, Nat.zero_add, true_and, Bool.not_true, Bool.false_eq_true, Nat.le_refl]
    refine sw_call (hx) rfl (aAs_ok ?_) ?_ (sw_run 200 _ _ _ ?_)
    · simp only [aAs, aA, aDs, aD, tysD, AS.ev, look, Option.getD, List.map, List.append_nil, ↓reduceIte, eq_self, and_self, tyC_eq]
    · simp only [okR]
    simp only [mkR, flatD, packA, retA, List.headD_cons, fQ, xRet, rPs, xRes, flatA, rD, eq_self, xRun, vE, vP, isCutO, gN, isPick, isCall, AS.pt, AS.ev, look, eatsOf, td0, td1, td2, td3, td4, td5, td6, Option.getD, List.map, List.nodup_nil, ↓reduceIte, Nat.reduceLT, or_false, Bool.false_eq_true, reduceCtorEq, and_self, Try.results33]
theorem con_textS : ∀ t : Ty, formT t = true → szL (tyC t) ≤ 1000000000 → Con Try.prog 91 [.ag (tyC t)] [.one (.str (bs (txT t)))] := by
  refine Ty.ind fun k xs ih hf hz => ?_
  rcases form_cases hf with ⟨rfl, rfl⟩ | ⟨rfl, rfl⟩ | ⟨a, b, rfl, rfl, ha, hb⟩ | ⟨a, rfl, rfl, ha⟩
  · refine con_run Try.func91 rfl rfl (by simp [Try.ntmps91]) ?_
    simp only [argT, argA, fQ, xRet, rPs, xRes, flatA, rD, eq_self, xRun, vE, vP, vSub, vLoad, vFld, vBin, vBinT, isAg, isBo, isCutO, isB, bv, gN, isPick, isCall, AS.pt, AS.ev, AS.box, look, cav, avB, AV.cells, AV.whole, AV.one, eatsOf, td0, td1, td2, td3, td4, td5, td6, Option.getD, Option.isSome, List.map, List.length, List.getElem?_cons_zero, List.all, List.nodup_nil, ↓reduceIte, Nat.reduceLT, Nat.reduceEqDiff, Nat.zero_add, Nat.add_zero, ne_eq, not_false_eq_true, true_and, and_true, or_false, Bool.and_true, Bool.false_eq_true, reduceCtorEq, decide_true, Nat.succ_ne_zero, tyC, tysC, txT, Try.ntmps91, Try.results91]
    rfl
  · refine con_run Try.func91 rfl rfl (by simp [Try.ntmps91]) ?_
    simp only [argT, argA, fQ, xRet, rPs, xRes, flatA, rD, eq_self, xRun, vE, vP, vSub, vLoad, vFld, vBin, vBinT, isAg, isBo, isCutO, isB, bv, gN, isPick, isCall, AS.pt, AS.ev, AS.box, look, cav, avB, AV.cells, AV.whole, AV.one, eatsOf, td0, td1, td2, td3, td4, td5, td6, Option.getD, Option.isSome, List.map, List.length, List.getElem?_cons_zero, List.all, List.nodup_nil, ↓reduceIte, Nat.reduceLT, Nat.reduceEqDiff, Nat.zero_add, Nat.add_zero, ne_eq, not_false_eq_true, true_and, and_true, or_false, Bool.and_true, Bool.false_eq_true, reduceCtorEq, Int.reduceEq, decide_true, decide_false, Nat.succ_ne_zero, tyC, tysC, txT, Try.ntmps91, Try.results91]
    rfl
  · rw [tys_sz2] at hz
    have h1 := ih a (by simp) ha (by omega)
    have h2 := ih b (by simp) hb (by omega)
    have l1 := txT_len a
    have l2 := txT_len b
    have l3 := szT_le a
    have l4 := szT_le b
    have r0 : rowAt 2 (tysC [a, b]) 0 = [.int a.kind, tysD a.args] := by rw [tysC_row' [a, b] 0 (by simp), ← tyC_eq]; rfl
    have r1 : rowAt 2 (tysC [a, b]) 1 = [.int b.kind, tysD b.args] := by rw [tysC_row' [a, b] 1 (by simp), ← tyC_eq]; rfl
    refine con_run Try.func91 rfl rfl (by simp [Try.ntmps91]) ?_
    simp only [argT, argA, eq_self, xRun, vE, vP, vSub, vLoad, vFld, vBin, vBinT, isAg, isBo, isCutO, isB, bv, gN, isPick, isCall, AS.pt, AS.ev, AS.box, look, cav, avB, AV.cells, AV.whole, AV.one, td0, td1, td2, td3, td4, td5, td6, Option.getD, Option.isSome, List.map, List.length, List.getElem?_cons_zero, List.all, ↓reduceIte, Nat.reduceLT, Nat.reduceAdd, Nat.reduceEqDiff, Nat.zero_add, Nat.add_zero, ne_eq, not_false_eq_true, true_and, Bool.and_true, Bool.false_eq_true, Int.reduceEq, decide_true, decide_false, Nat.succ_ne_zero, tyC, Try.ntmps91]
    refine sw_drawn (.cons 0 true (.cons 1 true (.cons 2 true (.cons 3 true (.cons 7 true (.cons 8 true (.cons 9 true (.cons 10 true (.cons 4 false (.cons 5 true (.cons 6 true (.cons 11 false (.cons 12 true (.cons 13 true (.cons 14 true (.nil)))))))))))))))) (by kernel_rfl) fQ_panic (by kernel_rfl) (sw_run 200 _ _ _ ?_)
    simp only [tysD, rowD, eq_self, xRun, vP, vSub, vLoad, vFld, vIdx, gN, isPick, isCall, AS.pt, AS.ev, look, cav, avB, td0, td1, td2, td3, td4, td5, td6, Option.getD, Option.isSome, List.map, List.take, List.drop, List.length, List.getElem?_cons_zero, List.getElem?_cons_succ, ↓reduceIte, Nat.reduceLT, Nat.reduceAdd, Nat.reduceEqDiff, Nat.zero_add, ne_eq, not_false_eq_true, true_and, Bool.false_eq_true, Int.reduceLE, Int.toNat_zero, Int.toNat_one, Int.le_refl, Nat.succ_ne_zero, Nat.le_refl, r0, r1]
    refine ⟨by omega, by omega, ?_⟩
    refine sw_callD (h1) rfl (aAs_ok ?_) ?_ (sw_run 200 _ _ _ ?_)
    · simp only [aAs, aA, aDs, aD, tysD, AS.ev, look, Option.getD, List.map, List.append_nil, ↓reduceIte, Nat.reduceEqDiff, eq_self, and_self, tyC_eq]
    · simp only [okR]
    simp only [mkR, flatD, packA, retA, List.headD_cons, eq_self, xRun, vP, vBin, vBinT, isAg, isBo, gN, isPick, isCall, AS.pt, AS.ev, look, cav, td0, td1, td2, td3, td4, td5, td6, Option.getD, Option.isSome, List.length, List.getElem?_cons_zero, List.getElem?_cons_succ, List.nil_append, List.cons_append, ↓reduceIte, Nat.reduceLT, Nat.zero_add, true_and, Bool.false_eq_true, ch_b, bs_app, bs_size]
    refine ⟨by (try simp only [List.length_append, List.length_cons, List.length_nil]); unfold maxLen; omega, by (try simp only [List.length_append, List.length_cons, List.length_nil]); unfold maxLen; omega, ?_⟩
    refine sw_callD (h2) rfl (aAs_ok ?_) ?_ (sw_run 200 _ _ _ ?_)
    · simp only [aAs, aA, aDs, aD, tysD, AS.ev, look, Option.getD, List.map, List.append_nil, ↓reduceIte, Nat.reduceEqDiff, eq_self, and_self, tyC_eq]
    · simp only [okR]
    simp only [mkR, flatD, packA, retA, List.headD_cons, fQ, xRet, rPs, xRes, flatA, rD, eq_self, xRun, vP, vBin, vBinT, isAg, isBo, gN, isPick, AS.pt, AS.ev, look, cav, eatsOf, td0, td1, td2, td3, td4, td5, td6, Option.getD, Option.isSome, List.map, List.length, List.getElem?_cons_zero, List.getElem?_cons_succ, List.nodup_nil, List.nil_append, List.cons_append, ↓reduceIte, Nat.reduceLT, Nat.reduceEqDiff, Nat.zero_add, true_and, and_true, or_false, Bool.false_eq_true, reduceCtorEq, and_self, bs_app, bs_size, tx3, Try.results91]
    exact ⟨by (try simp only [List.length_append, List.length_cons, List.length_nil]); unfold maxLen; omega, by (try simp only [List.length_append, List.length_cons, List.length_nil]); unfold maxLen; omega⟩
  · rw [tys_sz1] at hz
    have h1 := ih a (by simp) ha (by omega)
    have l1 := txT_len a
    have l3 := szT_le a
    have r0 : rowAt 2 (tysC [a]) 0 = [.int a.kind, tysD a.args] := by rw [tysC_row' [a] 0 (by simp), ← tyC_eq]; rfl
    refine con_run Try.func91 rfl rfl (by simp [Try.ntmps91]) ?_
    simp only [argT, argA, tysD, rowD, eq_self, xRun, vE, vP, vSub, vLoad, vFld, vIdx, vBin, vBinT, isAg, isBo, isCutO, isB, bv, gN, isPick, isCall, AS.pt, AS.ev, AS.box, look, cav, avB, AV.cells, AV.whole, AV.one, td0, td1, td2, td3, td4, td5, td6, Option.getD, Option.isSome, List.map, List.take, List.drop, List.length, List.getElem?_cons_zero, List.getElem?_cons_succ, List.all, ↓reduceIte, Nat.reduceLT, Nat.reduceAdd, Nat.reduceEqDiff, Nat.zero_add, Nat.add_zero, ne_eq, not_false_eq_true, true_and, Bool.and_true, Bool.false_eq_true, Int.reduceEq, Int.toNat_zero, Int.le_refl, decide_false, Nat.succ_ne_zero, Nat.le_refl, tyC, r0, Try.ntmps91]
    refine ⟨by omega, ?_⟩
    refine sw_call (h1) rfl (aAs_ok ?_) ?_ (sw_run 200 _ _ _ ?_)
    · simp only [aAs, aA, aDs, aD, tysD, AS.ev, look, Option.getD, List.map, List.append_nil, ↓reduceIte, eq_self, and_self, tyC_eq]
    · simp only [okR]
    simp only [mkR, flatD, packA, retA, List.headD_cons, fQ, xRet, rPs, xRes, flatA, rD, eq_self, xRun, vE, vP, vBin, vBinT, isAg, isBo, isCutO, gN, isPick, isCall, AS.pt, AS.ev, look, cav, eatsOf, td0, td1, td2, td3, td4, td5, td6, Option.getD, List.map, List.length, List.nodup_nil, List.nil_append, List.cons_append, ↓reduceIte, Nat.reduceLT, Nat.zero_add, and_true, or_false, Bool.false_eq_true, reduceCtorEq, and_self, ch_b, bs_app, bs_size, tx4, Try.results91]
    exact ⟨by (try simp only [List.length_append, List.length_cons, List.length_nil]); unfold maxLen; omega, by (try simp only [List.length_append, List.length_cons, List.length_nil]); unfold maxLen; omega⟩
theorem con_FormatS (t : Ty) (hz : szL (tyC t) ≤ 1000000000) : Con Try.prog 35 [.ag (tyC t)] [.one (.str (bs (fmT t)))] := by
  have hv := con_ValidTyS t hz
  unfold fmT
  have hx : vTy t = true → Con Try.prog 91 [.ag (tyC t)] [.one (.str (bs (txT t)))] := fun h => con_textS t (by unfold vTy at h; simp only [Bool.and_eq_true] at h; exact h.2.2) hz
  generalize vTy t = b at *
  cases b
  · refine con_run Try.func35 rfl rfl (by simp [Try.ntmps35]) ?_
    simp only [argT, argA, tysD, eq_self, xRun, vE, vP, vSub, vLoad, isCutO, gN, isPick, isCall, AS.pt, AS.ev, AS.box, look, cav, avB, AV.cells, AV.whole, AV.one, td0, td1, td2, td3, td4, td5, td6, Option.getD, List.map, List.take, List.drop, List.length, List.all, ↓reduceIte, Nat.reduceLT, Nat.reduceAdd, Nat.reduceEqDiff, Nat.zero_add, true_and, Bool.and_true, Bool.false_eq_true, Nat.le_refl, tyC_eq, Try.ntmps35]
    refine sw_call (hv) rfl (aAs_ok ?_) ?_ (sw_run 200 _ _ _ ?_)
    · simp only [aAs, aA, aDs, aD, tysD, AS.ev, look, Option.getD, List.map, List.append_nil, ↓reduceIte, eq_self, and_self, tyC_eq]
    · simp only [okR]
    simp only [mkR, flatD, packA, retA, List.headD_cons, fQ, xRet, rPs, xRes, flatA, rD, eq_self, xRun, vE, vP, vNot, isCutO, isB, bv, gN, isPick, isCall, AS.pt, AS.ev, look, cav, eatsOf, td0, td1, td2, td3, td4, td5, td6, Option.getD, List.map, List.nodup_nil, ↓reduceIte, Nat.reduceLT, true_and, and_true, or_false, Bool.not_false, Bool.false_eq_true, reduceCtorEq, Try.results35]
    rfl
  · have hx := hx rfl
    refine con_run Try.func35 rfl rfl (by simp [Try.ntmps35]) ?_
    simp only [argT, argA, tysD, eq_self, xRun, vE, vP, vSub, vLoad, isCutO, gN, isPick, isCall, AS.pt, AS.ev, AS.box, look, cav, avB, AV.cells, AV.whole, AV.one, td0, td1, td2, td3, td4, td5, td6, Option.getD, List.map, List.take, List.drop, List.length, List.all, ↓reduceIte, Nat.reduceLT, Nat.reduceAdd, Nat.reduceEqDiff, Nat.zero_add, true_and, Bool.and_true, Bool.false_eq_true, Nat.le_refl, tyC_eq, Try.ntmps35]
    refine sw_call (hv) rfl (aAs_ok ?_) ?_ (sw_run 200 _ _ _ ?_)
    · simp only [aAs, aA, aDs, aD, tysD, AS.ev, look, Option.getD, List.map, List.append_nil, ↓reduceIte, eq_self, and_self, tyC_eq]
    · simp only [okR]
    simp only [mkR, flatD, packA, retA, List.headD_cons, eq_self, xRun, vE, vP, vSub, vLoad, vNot, isCutO, isB, bv, gN, isPick, isCall, AS.pt, AS.ev, look, td0, td1, td2, td3, td4, td5, td6, Option.getD, List.take, List.drop, List.length, ↓reduceIte, Nat.reduceLT, Nat.reduceAdd, Nat.reduceEqDiff, Nat.zero_add, true_and, Bool.not_true, Bool.false_eq_true, Nat.le_refl]
    refine sw_call (hx) rfl (aAs_ok ?_) ?_ (sw_run 200 _ _ _ ?_)
    · simp only [aAs, aA, aDs, aD, tysD, AS.ev, look, Option.getD, List.map, List.append_nil, ↓reduceIte, eq_self, and_self, tyC_eq]
    · simp only [okR]
    simp only [mkR, flatD, packA, retA, List.headD_cons, fQ, xRet, rPs, xRes, flatA, rD, eq_self, xRun, vE, vP, isCutO, gN, isPick, isCall, AS.pt, AS.ev, look, eatsOf, td0, td1, td2, td3, td4, td5, td6, Option.getD, List.map, List.nodup_nil, ↓reduceIte, Nat.reduceLT, or_false, Bool.false_eq_true, reduceCtorEq, and_self, Try.results35]
/-! ## The program's reader -/
def tyR (t : Ty) : RD := .ag [.o (.int t.kind), .o (.rows 2 t.args.length (tysC t.args))]
theorem con_tyBool : Con Try.prog 162 [] [.ag (tyC (.mk 2 []))] := by
  refine con_run Try.func162 rfl rfl (by simp [Try.ntmps162]) ?_
  simp only [argT, fQ, xRet, rPs, xRes, flatA, rD, rDs, eq_self, xRun, vE, vP, vBuild, vStore, isCutO, xFill, gN, isPick, isCall, AS.pt, AS.ev, AS.box, AS.setb, look, cav, setRowG, AV.cells, AV.whole, AV.one, eatsOf, td0, td1, td2, td3, td4, td5, td6, Option.getD, Option.isSome, List.map, List.length, List.getElem?_cons_zero, List.set, List.all, List.nodup_nil, List.append_nil, ↓reduceIte, Nat.reduceLT, Nat.reduceAdd, Nat.reduceLeDiff, Nat.zero_add, or_false, Bool.and_true, Bool.false_eq_true, reduceCtorEq, and_self, Nat.le_refl, tyC, tysC, Try.ntmps162, Try.results162]
theorem con_l3Bool : Con Try.prog 168 [] [.ag (tyC (.mk 2 []))] := by
  refine con_run Try.func168 rfl rfl (by simp [Try.ntmps168]) ?_
  simp only [argT, fQ, xRet, rPs, xRes, flatA, rD, rDs, eq_self, xRun, vE, vP, vBuild, vStore, isCutO, xFill, gN, isPick, isCall, AS.pt, AS.ev, AS.box, AS.setb, look, cav, setRowG, AV.cells, AV.whole, AV.one, eatsOf, td0, td1, td2, td3, td4, td5, td6, Option.getD, Option.isSome, List.map, List.length, List.getElem?_cons_zero, List.set, List.all, List.nodup_nil, List.append_nil, ↓reduceIte, Nat.reduceLT, Nat.reduceAdd, Nat.reduceLeDiff, Nat.zero_add, or_false, Bool.and_true, Bool.false_eq_true, reduceCtorEq, and_self, Nat.le_refl, tyC, tysC, Try.ntmps168, Try.results168]
theorem tyF_sz (a b : Ty) : szL (tyC (tyF a b)) = 2 + (szL (tyC a) + szL (tyC b)) := tys_sz2 a b
theorem tyG_sz (a : Ty) : szL (tyC (tyG a)) = 1 + szL (tyC a) := tys_sz1 a
theorem rdI_sz : ∀ d l, szL (tyC (rdI d l).t) ≤ 4 ^ d
  | 0, l => by unfold rdI; simp [sz_ty0]
  | d + 1, l => by
    have hp : 1 ≤ 4 ^ d := Nat.one_le_pow _ _ (by omega)
    have hI : szL (tyC tyI) = 0 := rfl
    have hB : szL (tyC tyB) = 0 := rfl
    have e4 : 4 ^ (d + 1) = 4 * 4 ^ d := by rw [Nat.pow_succ]; omega
    rw [e4]
    unfold rdI
    repeat' split
    all_goals first | (simp only [hI, hB, sz_ty0]; omega) | skip
    all_goals first
      | (have h1 := rdI_sz d (ct 40 l).2
         have h2 := rdI_sz d (ct 62 (rdI d (ct 40 l).2).l).2
         simp only [tyF_sz]; omega)
      | (have h1 := rdI_sz d (ct 60 l).2
         simp only [tyG_sz]; omega)
theorem rdI_I {d : Nat} {l : List UInt8} (h : (ct 73 l).1 = true) : rdI (d + 1) l = ⟨tyI, true, (ct 73 l).2⟩ := by unfold rdI; rw [if_pos h]
theorem rdI_B {d : Nat} {l : List UInt8} (h1 : (ct 73 l).1 = false) (h : (ct 66 l).1 = true) : rdI (d + 1) l = ⟨tyB, true, (ct 66 l).2⟩ := by unfold rdI; rw [if_neg (by rw [h1]; simp), if_pos h]
theorem rdI_F {d : Nat} {l : List UInt8} (h1 : (ct 73 l).1 = false) (h2 : (ct 66 l).1 = false) (h : (ct 40 l).1 = true) : rdI (d + 1) l = (if (rdI d (ct 40 l).2).ok = true then
        if (ct 62 (rdI d (ct 40 l).2).l).1 = true then
          ⟨tyF (rdI d (ct 40 l).2).t (rdI d (ct 62 (rdI d (ct 40 l).2).l).2).t,
            (rdI d (ct 62 (rdI d (ct 40 l).2).l).2).ok && (ct 41 (rdI d (ct 62 (rdI d (ct 40 l).2).l).2).l).1,
            if (rdI d (ct 62 (rdI d (ct 40 l).2).l).2).ok = true then (ct 41 (rdI d (ct 62 (rdI d (ct 40 l).2).l).2).l).2 else (rdI d (ct 62 (rdI d (ct 40 l).2).l).2).l⟩
        else ⟨ty0, false, (rdI d (ct 40 l).2).l⟩
      else ⟨ty0, false, (rdI d (ct 40 l).2).l⟩) := by
  rw [rdI, if_neg (by rw [h1]; simp), if_neg (by rw [h2]; simp), if_pos h]
theorem rdI_G {d : Nat} {l : List UInt8} (h1 : (ct 73 l).1 = false) (h2 : (ct 66 l).1 = false) (h3 : (ct 40 l).1 = false) (h : (ct 60 l).1 = true) : rdI (d + 1) l = ⟨tyG (rdI d (ct 60 l).2).t, (rdI d (ct 60 l).2).ok && (ct 62 (rdI d (ct 60 l).2).l).1, if (rdI d (ct 60 l).2).ok = true then (ct 62 (rdI d (ct 60 l).2).l).2 else (rdI d (ct 60 l).2).l⟩ := by
  rw [rdI, if_neg (by rw [h1]; simp), if_neg (by rw [h2]; simp), if_neg (by rw [h3]; simp), if_pos h]
theorem rdI_N {d : Nat} {l : List UInt8} (h1 : (ct 73 l).1 = false) (h2 : (ct 66 l).1 = false) (h3 : (ct 40 l).1 = false) (h : (ct 60 l).1 = false) : rdI (d + 1) l = ⟨ty0, false, l⟩ := by
  rw [rdI, if_neg (by rw [h1]; simp), if_neg (by rw [h2]; simp), if_neg (by rw [h3]; simp), if_neg (by rw [h]; simp)]
theorem tyF_k (a b : Ty) : (tyF a b).kind = 3 := rfl
theorem tyF_a (a b : Ty) : (tyF a b).args = [a, b] := rfl
theorem tyG_k (a : Ty) : (tyG a).kind = 4 := rfl
theorem tyG_a (a : Ty) : (tyG a).args = [a] := rfl
theorem con_read : ∀ (d : Nat) (l : List UInt8), d ≤ 8 → ConP Try.prog 90 [.p [.o (.str (bs l)), .o (.int 0)], .b (.one (.int d))] [[.o (.str (bs (rdI d l).l)), .o (.int 0)]] [tyR (rdI d l).t, .one (.o (.bool (rdI d l).ok))]
  | 0, l, hd => by
    refine con_runP Try.func90 rfl rfl (by simp [Try.ntmps90]) rfl ?_
    simp only [s0P, mkPs, mkPA, mkC, fQP, xRetP, rRs, rOs, rC, rCs, eRs, eOs, eC, eCs, argA, numT, xRes, rD, eq_self, xRun, vE, vP, vBin, vBinT, isAg, isBo, vBuild, vStore, isCutO, xFill, isB, bv, gN, isPick, isCall, AS.pt, AS.ev, AS.box, AS.setb, look, cav, avB, setRowG, AV.cells, AV.whole, AV.one, td0, td1, td2, td3, td4, td5, td6, Option.getD, Option.isSome, List.map, List.length, List.set, List.all, List.not_mem_nil, List.nodup_cons, List.nodup_nil, List.nil_append, List.append_nil, ↓reduceIte, Nat.reduceLT, Nat.reduceAdd, Nat.reduceEqDiff, Nat.zero_add, not_false_eq_true, or_false, Bool.and_true, Bool.false_eq_true, reduceCtorEq, Int.natCast_zero, decide_true, and_self, Nat.succ_ne_zero, Nat.le_refl, rdI, tyR, ty0, tyk, tya, tysC, Int.natCast_zero, Try.ntmps90, Try.results90]
  | d + 1, l, hd => by
    have hn : ¬ ((d + 1 : Nat) : Int) = 0 := by omega
    have hs : ((d + 1 : Nat) : Int) - 1 = (d : Int) := by omega
    have hi : inI (d : Int) := by unfold inI; omega
    have hb : ∀ l', szL (tyC (rdI d l').t) ≤ 1000000000 := fun l' => Nat.le_trans (rdI_sz d l') (Nat.le_trans (Nat.pow_le_pow_right (by omega) (show d ≤ 8 by omega)) (by decide))
    have c1 := con_cut 73 l 0
    have c2 := con_cut 66 l 0
    have c3 := con_cut 40 l 0
    have c4 := con_cut 60 l 0
    have n1 := @ct_no 73 l
    have n2 := @ct_no 66 l
    have n3 := @ct_no 40 l
    have n4 := @ct_no 60 l
    rcases h1 : (ct 73 l).1 with _ | _
    case true =>
      rw [rdI_I h1]
      rw [h1] at c1
      refine con_runP Try.func90 rfl rfl (by simp [Try.ntmps90]) rfl ?_
      simp only [s0P, mkPs, mkPA, mkC, argA, numT, eq_self, xRun, vE, vP, vBin, vBinT, isAg, isBo, isCutO, isB, bv, gN, isPick, isCall, AS.pt, AS.ev, AS.box, look, cav, avB, td0, td1, td2, td3, td4, td5, td6, Option.getD, Option.isSome, List.nil_append, ↓reduceIte, Nat.reduceLT, Nat.reduceAdd, Nat.reduceEqDiff, Nat.zero_add, true_and, Bool.false_eq_true, reduceCtorEq, decide_false, Nat.succ_ne_zero, hn, tyR, Try.ntmps90]
      refine sw_callP (c1) rfl rfl rfl rfl ?_ ?_ ?_ (sw_run 200 _ _ _ ?_)
      · simp only [rC, rCs, eC, eCs, AS.kb, rmBs, rmB, mPs, mP, ePs, eP, bPs, bP, aA, aD, AS.kl, rD, eq_self, AS.ev, kill, look, cav, td0, td1, td2, td3, td4, td5, td6, Option.getD, List.map, List.foldr, List.append_nil, ↓reduceIte, reduceCtorEq, and_self, Nat.succ_ne_zero]
      · simp only [eC, eCs, ePs, eP, eq_self, AS.ev, look, cav, td0, td1, td2, td3, td4, td5, td6, Option.getD, List.map, List.nodup_nil, List.append_nil, ↓reduceIte, reduceCtorEq]
      · simp only [bPs, bP, eq_self, AS.ev, look, cav, td0, td1, td2, td3, td4, td5, td6, Option.getD, List.map, List.not_mem_nil, List.nodup_cons, List.nodup_nil, List.append_nil, ↓reduceIte, not_false_eq_true, and_self]
      simp only [mkC, eC, eCs, aftS, aftV, AS.kb, rmBs, rmB, mkO, packRA, flatR, ePs, eP, bPs, bP, AS.kl, retA, List.headD_cons, eq_self, xRun, vE, vP, isCutO, isB, bv, gN, isPick, isCall, AS.pt, AS.ev, kill, look, cav, td0, td1, td2, td3, td4, td5, td6, Option.getD, List.map, List.foldr, List.append_nil, ↓reduceIte, Nat.reduceLT, true_and, Bool.false_eq_true, reduceCtorEq, Nat.succ_ne_zero]
      refine sw_call (con_tyInt) rfl (aAs_ok ?_) ?_ (sw_run 200 _ _ _ ?_)
      · simp only [aAs, List.map, List.append_nil]
      · simp only [okR]
      simp only [fQP, xRetP, rRs, rOs, rC, rCs, eRs, eOs, eC, eCs, mkR, flatD, packA, retA, xRes, rD, eq_self, xRun, vE, vP, vStore, isCutO, gN, isPick, isCall, AS.pt, AS.ev, AS.setb, AS.mk', AS.owf, kill, look, cav, setRowG, AV.cells, AV.whole, AV.one, td0, td1, td2, td3, td4, td5, td6, Option.bind, Option.getD, List.map, List.take, List.length, List.set, List.foldr, List.all, List.not_mem_nil, List.nodup_cons, List.nodup_nil, List.nil_append, List.append_nil, ↓reduceIte, Nat.reduceLT, Nat.reduceAdd, Nat.reduceEqDiff, Nat.zero_add, not_false_eq_true, or_false, Bool.and_true, Bool.false_eq_true, id_eq, reduceCtorEq, and_self, Nat.succ_ne_zero, Nat.le_refl, tyI, tyC, tyk, tya, tysC, List.length_nil, Try.results90]
    rw [h1] at c1
    rw [n1 h1] at c1
    rcases h2 : (ct 66 l).1 with _ | _
    case true =>
      rw [rdI_B h1 h2]
      rw [h2] at c2
      refine con_runP Try.func90 rfl rfl (by simp [Try.ntmps90]) rfl ?_
      simp only [s0P, mkPs, mkPA, mkC, argA, numT, eq_self, xRun, vE, vP, vBin, vBinT, isAg, isBo, isCutO, isB, bv, gN, isPick, isCall, AS.pt, AS.ev, AS.box, look, cav, avB, td0, td1, td2, td3, td4, td5, td6, Option.getD, Option.isSome, List.nil_append, ↓reduceIte, Nat.reduceLT, Nat.reduceAdd, Nat.reduceEqDiff, Nat.zero_add, true_and, Bool.false_eq_true, reduceCtorEq, decide_false, Nat.succ_ne_zero, hn, tyR, Try.ntmps90]
      refine sw_callP (c1) rfl rfl rfl rfl ?_ ?_ ?_ (sw_run 200 _ _ _ ?_)
      · simp only [rC, rCs, eC, eCs, AS.kb, rmBs, rmB, mPs, mP, ePs, eP, bPs, bP, aA, aD, AS.kl, rD, eq_self, AS.ev, kill, look, cav, td0, td1, td2, td3, td4, td5, td6, Option.getD, List.map, List.foldr, List.append_nil, ↓reduceIte, reduceCtorEq, and_self, Nat.succ_ne_zero]
      · simp only [eC, eCs, ePs, eP, eq_self, AS.ev, look, cav, td0, td1, td2, td3, td4, td5, td6, Option.getD, List.map, List.nodup_nil, List.append_nil, ↓reduceIte, reduceCtorEq]
      · simp only [bPs, bP, eq_self, AS.ev, look, cav, td0, td1, td2, td3, td4, td5, td6, Option.getD, List.map, List.not_mem_nil, List.nodup_cons, List.nodup_nil, List.append_nil, ↓reduceIte, not_false_eq_true, and_self]
      simp only [mkC, eC, eCs, aftS, aftV, AS.kb, rmBs, rmB, mkO, packRA, flatR, ePs, eP, bPs, bP, AS.kl, retA, List.headD_cons, eq_self, xRun, vE, vP, isCutO, isB, bv, gN, isPick, isCall, AS.pt, AS.ev, kill, look, cav, td0, td1, td2, td3, td4, td5, td6, Option.getD, List.map, List.foldr, List.append_nil, ↓reduceIte, Nat.reduceLT, true_and, Bool.false_eq_true, reduceCtorEq, Nat.succ_ne_zero]
      refine sw_callP (c2) rfl rfl rfl rfl ?_ ?_ ?_ (sw_run 200 _ _ _ ?_)
      · simp only [rC, rCs, eC, eCs, AS.kb, rmBs, rmB, mPs, mP, ePs, eP, bPs, bP, aA, aD, AS.kl, rD, eq_self, AS.ev, kill, look, cav, td0, td1, td2, td3, td4, td5, td6, Option.getD, List.map, List.foldr, List.append_nil, ↓reduceIte, and_self, Nat.succ_ne_zero]
      · simp only [eC, eCs, ePs, eP, eq_self, AS.ev, look, cav, td0, td1, td2, td3, td4, td5, td6, Option.getD, List.map, List.nodup_nil, List.append_nil, ↓reduceIte]
      · simp only [bPs, bP, eq_self, AS.ev, look, cav, td0, td1, td2, td3, td4, td5, td6, Option.getD, List.map, List.not_mem_nil, List.nodup_cons, List.nodup_nil, List.append_nil, ↓reduceIte, not_false_eq_true, and_self]
      simp only [mkC, eC, eCs, aftS, aftV, AS.kb, rmBs, rmB, mkO, packRA, flatR, ePs, eP, bPs, bP, AS.kl, retA, List.headD_cons, eq_self, xRun, vE, vP, isCutO, isB, bv, gN, isPick, isCall, AS.pt, AS.ev, kill, look, cav, td0, td1, td2, td3, td4, td5, td6, Option.getD, List.map, List.foldr, List.append_nil, ↓reduceIte, Nat.reduceLT, true_and, Bool.false_eq_true, Nat.succ_ne_zero]
      refine sw_call (con_tyBool) rfl (aAs_ok ?_) ?_ (sw_run 200 _ _ _ ?_)
      · simp only [aAs, List.map, List.append_nil]
      · simp only [okR]
      simp only [fQP, xRetP, rRs, rOs, rC, rCs, eRs, eOs, eC, eCs, mkR, flatD, packA, retA, xRes, rD, eq_self, xRun, vE, vP, vStore, isCutO, gN, isPick, isCall, AS.pt, AS.ev, AS.setb, AS.mk', AS.owf, kill, look, cav, setRowG, AV.cells, AV.whole, AV.one, td0, td1, td2, td3, td4, td5, td6, Option.bind, Option.getD, List.map, List.take, List.length, List.set, List.foldr, List.all, List.not_mem_nil, List.nodup_cons, List.nodup_nil, List.nil_append, List.append_nil, ↓reduceIte, Nat.reduceLT, Nat.reduceAdd, Nat.reduceEqDiff, Nat.zero_add, not_false_eq_true, or_false, Bool.and_true, Bool.false_eq_true, id_eq, reduceCtorEq, and_self, Nat.succ_ne_zero, Nat.le_refl, tyB, tyC, tyk, tya, tysC, List.length_nil, Try.results90]
    rw [h2] at c2
    rw [n2 h2] at c2
    rcases h3 : (ct 40 l).1 with _ | _
    case true =>
      rw [rdI_F h1 h2 h3]
      rw [h3] at c3
      have ra := con_read d (ct 40 l).2 (by omega)
      have za := hb (ct 40 l).2
      generalize (rdI d (ct 40 l).2) = A at *
      obtain ⟨At, Ao, Al⟩ := A
      simp only at ra za ⊢
      have c5 := con_cut 62 Al 0
      cases Ao
      case false =>
        rw [if_neg (by simp)]
        refine con_runP Try.func90 rfl rfl (by simp [Try.ntmps90]) rfl ?_
        simp only [s0P, mkPs, mkPA, mkC, argA, numT, eq_self, xRun, vE, vP, vBin, vBinT, isAg, isBo, isCutO, isB, bv, gN, isPick, isCall, AS.pt, AS.ev, AS.box, look, cav, avB, td0, td1, td2, td3, td4, td5, td6, Option.getD, Option.isSome, List.nil_append, ↓reduceIte, Nat.reduceLT, Nat.reduceAdd, Nat.reduceEqDiff, Nat.zero_add, true_and, Bool.false_eq_true, reduceCtorEq, decide_false, Nat.succ_ne_zero, hn, tyR, Try.ntmps90]
        refine sw_callP (c1) rfl rfl rfl rfl ?_ ?_ ?_ (sw_run 200 _ _ _ ?_)
        · simp only [rC, rCs, eC, eCs, AS.kb, rmBs, rmB, mPs, mP, ePs, eP, bPs, bP, aA, aD, AS.kl, rD, eq_self, AS.ev, kill, look, cav, td0, td1, td2, td3, td4, td5, td6, Option.getD, List.map, List.foldr, List.append_nil, ↓reduceIte, reduceCtorEq, and_self, Nat.succ_ne_zero]
        · simp only [eC, eCs, ePs, eP, eq_self, AS.ev, look, cav, td0, td1, td2, td3, td4, td5, td6, Option.getD, List.map, List.nodup_nil, List.append_nil, ↓reduceIte, reduceCtorEq]
        · simp only [bPs, bP, eq_self, AS.ev, look, cav, td0, td1, td2, td3, td4, td5, td6, Option.getD, List.map, List.not_mem_nil, List.nodup_cons, List.nodup_nil, List.append_nil, ↓reduceIte, not_false_eq_true, and_self]
        simp only [mkC, eC, eCs, aftS, aftV, AS.kb, rmBs, rmB, mkO, packRA, flatR, ePs, eP, bPs, bP, AS.kl, retA, List.headD_cons, eq_self, xRun, vE, vP, isCutO, isB, bv, gN, isPick, isCall, AS.pt, AS.ev, kill, look, cav, td0, td1, td2, td3, td4, td5, td6, Option.getD, List.map, List.foldr, List.append_nil, ↓reduceIte, Nat.reduceLT, true_and, Bool.false_eq_true, reduceCtorEq, Nat.succ_ne_zero]
        refine sw_callP (c2) rfl rfl rfl rfl ?_ ?_ ?_ (sw_run 200 _ _ _ ?_)
        · simp only [rC, rCs, eC, eCs, AS.kb, rmBs, rmB, mPs, mP, ePs, eP, bPs, bP, aA, aD, AS.kl, rD, eq_self, AS.ev, kill, look, cav, td0, td1, td2, td3, td4, td5, td6, Option.getD, List.map, List.foldr, List.append_nil, ↓reduceIte, and_self, Nat.succ_ne_zero]
        · simp only [eC, eCs, ePs, eP, eq_self, AS.ev, look, cav, td0, td1, td2, td3, td4, td5, td6, Option.getD, List.map, List.nodup_nil, List.append_nil, ↓reduceIte]
        · simp only [bPs, bP, eq_self, AS.ev, look, cav, td0, td1, td2, td3, td4, td5, td6, Option.getD, List.map, List.not_mem_nil, List.nodup_cons, List.nodup_nil, List.append_nil, ↓reduceIte, not_false_eq_true, and_self]
        simp only [mkC, eC, eCs, aftS, aftV, AS.kb, rmBs, rmB, mkO, packRA, flatR, ePs, eP, bPs, bP, AS.kl, retA, List.headD_cons, eq_self, xRun, vE, vP, isCutO, isB, bv, gN, isPick, isCall, AS.pt, AS.ev, kill, look, cav, td0, td1, td2, td3, td4, td5, td6, Option.getD, List.map, List.foldr, List.append_nil, ↓reduceIte, Nat.reduceLT, true_and, Bool.false_eq_true, reduceCtorEq, Nat.succ_ne_zero]
        refine sw_callP (c3) rfl rfl rfl rfl ?_ ?_ ?_ (sw_run 200 _ _ _ ?_)
        · simp only [rC, rCs, eC, eCs, AS.kb, rmBs, rmB, mPs, mP, ePs, eP, bPs, bP, aA, aD, AS.kl, rD, eq_self, AS.ev, kill, look, cav, td0, td1, td2, td3, td4, td5, td6, Option.getD, List.map, List.foldr, List.append_nil, ↓reduceIte, and_self, Nat.succ_ne_zero]
        · simp only [eC, eCs, ePs, eP, eq_self, AS.ev, look, cav, td0, td1, td2, td3, td4, td5, td6, Option.getD, List.map, List.nodup_nil, List.append_nil, ↓reduceIte]
        · simp only [bPs, bP, eq_self, AS.ev, look, cav, td0, td1, td2, td3, td4, td5, td6, Option.getD, List.map, List.not_mem_nil, List.nodup_cons, List.nodup_nil, List.append_nil, ↓reduceIte, not_false_eq_true, and_self]
        simp only [mkC, eC, eCs, aftS, aftV, AS.kb, rmBs, rmB, mkO, packRA, flatR, ePs, eP, bPs, bP, AS.kl, retA, List.headD_cons, eq_self, xRun, vE, vP, vBin, vBinT, isAg, isBo, isCutO, isB, bv, gN, isPick, isCall, AS.pt, AS.ev, kill, look, cav, td0, td1, td2, td3, td4, td5, td6, Option.getD, List.map, List.foldr, List.append_nil, ↓reduceIte, Nat.reduceLT, Nat.reduceEqDiff, true_and, Bool.false_eq_true, reduceCtorEq, Nat.succ_ne_zero, hs, hi]
        refine sw_callP (ra) rfl rfl rfl rfl ?_ ?_ ?_ (sw_run 200 _ _ _ ?_)
        · simp only [rC, rCs, eC, eCs, AS.kb, rmBs, rmB, mPs, mP, ePs, eP, bPs, bP, aA, aD, AS.kl, rD, eq_self, AS.ev, kill, look, td0, td1, td2, td3, td4, td5, td6, Option.getD, List.map, List.foldr, List.append_nil, ↓reduceIte, Nat.reduceEqDiff, and_self, Nat.succ_ne_zero]
        · simp only [eC, eCs, ePs, eP, eq_self, AS.ev, look, td0, td1, td2, td3, td4, td5, td6, Option.getD, List.map, List.nodup_nil, List.append_nil, ↓reduceIte, Nat.reduceEqDiff]
        · simp only [bPs, bP, eq_self, AS.ev, look, td0, td1, td2, td3, td4, td5, td6, Option.getD, List.map, List.not_mem_nil, List.nodup_cons, List.nodup_nil, List.append_nil, ↓reduceIte, Nat.reduceEqDiff, not_false_eq_true, and_self]
        simp only [mkC, fQP, xRetP, rRs, rOs, rC, rCs, eRs, eOs, eC, eCs, aftS, aftV, AS.kb, rmBs, rmB, mkO, packRA, flatR, ePs, eP, bPs, bP, AS.kl, retA, List.headD_cons, xRes, rD, eq_self, xRun, vE, vP, vNot, vExt, vBuild, vStore, isCutO, xFill, isB, bv, gT, gW, gN, gV, isU, isPick, pkC, pkA, isCall, AS.pt, AS.kn, AS.ev, AS.box, AS.setb, AS.mk', kill, look, cav, setRowG, AV.cells, AV.whole, AV.one, td0, td1, td2, td3, td4, td5, td6, Option.bind, Option.getD, Option.isSome, List.map, List.take, List.drop, List.length, List.getElem?_cons_zero, List.getElem?_cons_succ, List.set, List.foldr, List.all, List.not_mem_nil, List.nodup_cons, List.nodup_nil, List.nil_append, List.cons_append, List.append_nil, ↓reduceIte, Nat.reduceLT, Nat.reduceAdd, Nat.reduceEqDiff, Nat.zero_add, not_false_eq_true, or_false, Bool.and_true, Bool.not_false, Bool.false_eq_true, Bool.true_eq_false, reduceCtorEq, and_self, Nat.succ_ne_zero, Nat.le_refl, tyR, ty0, tyk, tya, tysC, List.length_nil, Try.results90]
      rw [if_pos rfl]
      rcases h5 : (ct 62 Al).1 with _ | _
      case false =>
        rw [if_neg (by simp)]
        rw [h5, ct_no h5] at c5
        refine con_runP Try.func90 rfl rfl (by simp [Try.ntmps90]) rfl ?_
        simp only [s0P, mkPs, mkPA, mkC, argA, numT, eq_self, xRun, vE, vP, vBin, vBinT, isAg, isBo, isCutO, isB, bv, gN, isPick, isCall, AS.pt, AS.ev, AS.box, look, cav, avB, td0, td1, td2, td3, td4, td5, td6, Option.getD, Option.isSome, List.nil_append, ↓reduceIte, Nat.reduceLT, Nat.reduceAdd, Nat.reduceEqDiff, Nat.zero_add, true_and, Bool.false_eq_true, reduceCtorEq, decide_false, Nat.succ_ne_zero, hn, tyR, Try.ntmps90]
        refine sw_callP (c1) rfl rfl rfl rfl ?_ ?_ ?_ (sw_run 200 _ _ _ ?_)
        · simp only [rC, rCs, eC, eCs, AS.kb, rmBs, rmB, mPs, mP, ePs, eP, bPs, bP, aA, aD, AS.kl, rD, eq_self, AS.ev, kill, look, cav, td0, td1, td2, td3, td4, td5, td6, Option.getD, List.map, List.foldr, List.append_nil, ↓reduceIte, reduceCtorEq, and_self, Nat.succ_ne_zero]
        · simp only [eC, eCs, ePs, eP, eq_self, AS.ev, look, cav, td0, td1, td2, td3, td4, td5, td6, Option.getD, List.map, List.nodup_nil, List.append_nil, ↓reduceIte, reduceCtorEq]
        · simp only [bPs, bP, eq_self, AS.ev, look, cav, td0, td1, td2, td3, td4, td5, td6, Option.getD, List.map, List.not_mem_nil, List.nodup_cons, List.nodup_nil, List.append_nil, ↓reduceIte, not_false_eq_true, and_self]
        simp only [mkC, eC, eCs, aftS, aftV, AS.kb, rmBs, rmB, mkO, packRA, flatR, ePs, eP, bPs, bP, AS.kl, retA, List.headD_cons, eq_self, xRun, vE, vP, isCutO, isB, bv, gN, isPick, isCall, AS.pt, AS.ev, kill, look, cav, td0, td1, td2, td3, td4, td5, td6, Option.getD, List.map, List.foldr, List.append_nil, ↓reduceIte, Nat.reduceLT, true_and, Bool.false_eq_true, reduceCtorEq, Nat.succ_ne_zero]
        refine sw_callP (c2) rfl rfl rfl rfl ?_ ?_ ?_ (sw_run 200 _ _ _ ?_)
        · simp only [rC, rCs, eC, eCs, AS.kb, rmBs, rmB, mPs, mP, ePs, eP, bPs, bP, aA, aD, AS.kl, rD, eq_self, AS.ev, kill, look, cav, td0, td1, td2, td3, td4, td5, td6, Option.getD, List.map, List.foldr, List.append_nil, ↓reduceIte, and_self, Nat.succ_ne_zero]
        · simp only [eC, eCs, ePs, eP, eq_self, AS.ev, look, cav, td0, td1, td2, td3, td4, td5, td6, Option.getD, List.map, List.nodup_nil, List.append_nil, ↓reduceIte]
        · simp only [bPs, bP, eq_self, AS.ev, look, cav, td0, td1, td2, td3, td4, td5, td6, Option.getD, List.map, List.not_mem_nil, List.nodup_cons, List.nodup_nil, List.append_nil, ↓reduceIte, not_false_eq_true, and_self]
        simp only [mkC, eC, eCs, aftS, aftV, AS.kb, rmBs, rmB, mkO, packRA, flatR, ePs, eP, bPs, bP, AS.kl, retA, List.headD_cons, eq_self, xRun, vE, vP, isCutO, isB, bv, gN, isPick, isCall, AS.pt, AS.ev, kill, look, cav, td0, td1, td2, td3, td4, td5, td6, Option.getD, List.map, List.foldr, List.append_nil, ↓reduceIte, Nat.reduceLT, true_and, Bool.false_eq_true, reduceCtorEq, Nat.succ_ne_zero]
        refine sw_callP (c3) rfl rfl rfl rfl ?_ ?_ ?_ (sw_run 200 _ _ _ ?_)
        · simp only [rC, rCs, eC, eCs, AS.kb, rmBs, rmB, mPs, mP, ePs, eP, bPs, bP, aA, aD, AS.kl, rD, eq_self, AS.ev, kill, look, cav, td0, td1, td2, td3, td4, td5, td6, Option.getD, List.map, List.foldr, List.append_nil, ↓reduceIte, and_self, Nat.succ_ne_zero]
        · simp only [eC, eCs, ePs, eP, eq_self, AS.ev, look, cav, td0, td1, td2, td3, td4, td5, td6, Option.getD, List.map, List.nodup_nil, List.append_nil, ↓reduceIte]
        · simp only [bPs, bP, eq_self, AS.ev, look, cav, td0, td1, td2, td3, td4, td5, td6, Option.getD, List.map, List.not_mem_nil, List.nodup_cons, List.nodup_nil, List.append_nil, ↓reduceIte, not_false_eq_true, and_self]
        simp only [mkC, eC, eCs, aftS, aftV, AS.kb, rmBs, rmB, mkO, packRA, flatR, ePs, eP, bPs, bP, AS.kl, retA, List.headD_cons, eq_self, xRun, vE, vP, vBin, vBinT, isAg, isBo, isCutO, isB, bv, gN, isPick, isCall, AS.pt, AS.ev, kill, look, cav, td0, td1, td2, td3, td4, td5, td6, Option.getD, List.map, List.foldr, List.append_nil, ↓reduceIte, Nat.reduceLT, Nat.reduceEqDiff, true_and, Bool.false_eq_true, reduceCtorEq, Nat.succ_ne_zero, hs, hi]
        refine sw_callP (ra) rfl rfl rfl rfl ?_ ?_ ?_ (sw_run 200 _ _ _ ?_)
        · simp only [rC, rCs, eC, eCs, AS.kb, rmBs, rmB, mPs, mP, ePs, eP, bPs, bP, aA, aD, AS.kl, rD, eq_self, AS.ev, kill, look, td0, td1, td2, td3, td4, td5, td6, Option.getD, List.map, List.foldr, List.append_nil, ↓reduceIte, Nat.reduceEqDiff, and_self, Nat.succ_ne_zero]
        · simp only [eC, eCs, ePs, eP, eq_self, AS.ev, look, td0, td1, td2, td3, td4, td5, td6, Option.getD, List.map, List.nodup_nil, List.append_nil, ↓reduceIte, Nat.reduceEqDiff]
        · simp only [bPs, bP, eq_self, AS.ev, look, td0, td1, td2, td3, td4, td5, td6, Option.getD, List.map, List.not_mem_nil, List.nodup_cons, List.nodup_nil, List.append_nil, ↓reduceIte, Nat.reduceEqDiff, not_false_eq_true, and_self]
        simp only [mkC, eC, eCs, aftS, aftV, AS.kb, rmBs, rmB, mkO, packRA, flatR, ePs, eP, bPs, bP, AS.kl, retA, List.headD_cons, eq_self, xRun, vE, vP, vNot, vExt, vStore, isCutO, isB, bv, gT, gW, gN, gV, isU, isPick, isCall, AS.pt, AS.kn, AS.ev, AS.box, AS.setb, AS.mk', kill, look, setRowG, AV.cells, AV.whole, AV.one, td0, td1, td2, td3, td4, td5, td6, Option.bind, Option.getD, Option.isSome, List.map, List.take, List.drop, List.length, List.getElem?_cons_zero, List.getElem?_cons_succ, List.set, List.foldr, List.all, List.nil_append, List.cons_append, List.append_nil, ↓reduceIte, Nat.reduceLT, Nat.reduceAdd, Nat.reduceEqDiff, Nat.zero_add, true_and, Bool.and_true, Bool.not_true, Bool.false_eq_true, reduceCtorEq, and_self, Nat.succ_ne_zero, Nat.le_refl, tyR]
        refine sw_callP (c5) rfl rfl rfl rfl ?_ ?_ ?_ (sw_run 200 _ _ _ ?_)
        · simp only [rC, rCs, eC, eCs, AS.kb, rmBs, rmB, mPs, mP, ePs, eP, bPs, bP, aA, aD, AS.kl, rD, eq_self, AS.ev, kill, look, cav, td0, td1, td2, td3, td4, td5, td6, Option.getD, List.map, List.foldr, List.append_nil, ↓reduceIte, Nat.reduceEqDiff, reduceCtorEq, and_self, Nat.succ_ne_zero]
        · simp only [eC, eCs, ePs, eP, eq_self, AS.ev, look, cav, td0, td1, td2, td3, td4, td5, td6, Option.getD, List.map, List.nodup_nil, List.append_nil, ↓reduceIte, Nat.reduceEqDiff, reduceCtorEq]
        · simp only [bPs, bP, eq_self, AS.ev, look, cav, td0, td1, td2, td3, td4, td5, td6, Option.getD, List.map, List.not_mem_nil, List.nodup_cons, List.nodup_nil, List.append_nil, ↓reduceIte, Nat.reduceEqDiff, not_false_eq_true, and_self]
        simp only [mkC, fQP, xRetP, rRs, rOs, rC, rCs, eRs, eOs, eC, eCs, aftS, aftV, AS.kb, rmBs, rmB, mkO, packRA, flatR, ePs, eP, bPs, bP, AS.kl, retA, List.headD_cons, xRes, rD, eq_self, xRun, vE, vP, vNot, vBuild, vStore, isCutO, xFill, isB, bv, gT, gW, gN, gV, isU, isPick, pkC, pkB, isCall, AS.pt, AS.kn, AS.ev, AS.setb, kill, look, cav, setRowG, AV.cells, AV.whole, AV.one, td0, td1, td2, td3, td4, td5, td6, Option.bind, Option.getD, Option.isSome, List.map, List.length, List.getElem?_cons_zero, List.getElem?_cons_succ, List.set, List.foldr, List.all, List.not_mem_nil, List.nodup_cons, List.nodup_nil, List.append_nil, ↓reduceIte, Nat.reduceLT, Nat.reduceAdd, Nat.reduceEqDiff, Nat.zero_add, not_false_eq_true, or_false, Bool.and_true, Bool.not_false, Bool.false_eq_true, reduceCtorEq, and_self, Nat.succ_ne_zero, Nat.le_refl, ty0, tyk, tya, tysC, List.length_nil, Try.results90]
      rw [if_pos rfl]
      rw [h5] at c5
      have rb := con_read d (ct 62 Al).2 (by omega)
      have zb := hb (ct 62 Al).2
      generalize (rdI d (ct 62 Al).2) = B at *
      obtain ⟨Bt, Bo, Bl⟩ := B
      simp only at rb zb ⊢
      have c6 := con_cut 41 Bl 0
      have cf := con_tyFun At Bt za zb
      cases Bo
      case false =>
        refine con_runP Try.func90 rfl rfl (by simp [Try.ntmps90]) rfl ?_
        simp only [s0P, mkPs, mkPA, mkC, argA, numT, eq_self, xRun, vE, vP, vBin, vBinT, isAg, isBo, isCutO, isB, bv, gN, isPick, isCall, AS.pt, AS.ev, AS.box, look, cav, avB, td0, td1, td2, td3, td4, td5, td6, Option.getD, Option.isSome, List.nil_append, ↓reduceIte, Nat.reduceLT, Nat.reduceAdd, Nat.reduceEqDiff, Nat.zero_add, true_and, Bool.false_and, Bool.false_eq_true, reduceCtorEq, decide_false, Nat.succ_ne_zero, hn, tyR, Try.ntmps90]
        refine sw_callP (c1) rfl rfl rfl rfl ?_ ?_ ?_ (sw_run 200 _ _ _ ?_)
        · simp only [rC, rCs, eC, eCs, AS.kb, rmBs, rmB, mPs, mP, ePs, eP, bPs, bP, aA, aD, AS.kl, rD, eq_self, AS.ev, kill, look, cav, td0, td1, td2, td3, td4, td5, td6, Option.getD, List.map, List.foldr, List.append_nil, ↓reduceIte, reduceCtorEq, and_self, Nat.succ_ne_zero]
        · simp only [eC, eCs, ePs, eP, eq_self, AS.ev, look, cav, td0, td1, td2, td3, td4, td5, td6, Option.getD, List.map, List.nodup_nil, List.append_nil, ↓reduceIte, reduceCtorEq]
        · simp only [bPs, bP, eq_self, AS.ev, look, cav, td0, td1, td2, td3, td4, td5, td6, Option.getD, List.map, List.not_mem_nil, List.nodup_cons, List.nodup_nil, List.append_nil, ↓reduceIte, not_false_eq_true, and_self]
        simp only [mkC, eC, eCs, aftS, aftV, AS.kb, rmBs, rmB, mkO, packRA, flatR, ePs, eP, bPs, bP, AS.kl, retA, List.headD_cons, eq_self, xRun, vE, vP, isCutO, isB, bv, gN, isPick, isCall, AS.pt, AS.ev, kill, look, cav, td0, td1, td2, td3, td4, td5, td6, Option.getD, List.map, List.foldr, List.append_nil, ↓reduceIte, Nat.reduceLT, true_and, Bool.false_eq_true, reduceCtorEq, Nat.succ_ne_zero]
        refine sw_callP (c2) rfl rfl rfl rfl ?_ ?_ ?_ (sw_run 200 _ _ _ ?_)
        · simp only [rC, rCs, eC, eCs, AS.kb, rmBs, rmB, mPs, mP, ePs, eP, bPs, bP, aA, aD, AS.kl, rD, eq_self, AS.ev, kill, look, cav, td0, td1, td2, td3, td4, td5, td6, Option.getD, List.map, List.foldr, List.append_nil, ↓reduceIte, and_self, Nat.succ_ne_zero]
        · simp only [eC, eCs, ePs, eP, eq_self, AS.ev, look, cav, td0, td1, td2, td3, td4, td5, td6, Option.getD, List.map, List.nodup_nil, List.append_nil, ↓reduceIte]
        · simp only [bPs, bP, eq_self, AS.ev, look, cav, td0, td1, td2, td3, td4, td5, td6, Option.getD, List.map, List.not_mem_nil, List.nodup_cons, List.nodup_nil, List.append_nil, ↓reduceIte, not_false_eq_true, and_self]
        simp only [mkC, eC, eCs, aftS, aftV, AS.kb, rmBs, rmB, mkO, packRA, flatR, ePs, eP, bPs, bP, AS.kl, retA, List.headD_cons, eq_self, xRun, vE, vP, isCutO, isB, bv, gN, isPick, isCall, AS.pt, AS.ev, kill, look, cav, td0, td1, td2, td3, td4, td5, td6, Option.getD, List.map, List.foldr, List.append_nil, ↓reduceIte, Nat.reduceLT, true_and, Bool.false_eq_true, reduceCtorEq, Nat.succ_ne_zero]
        refine sw_callP (c3) rfl rfl rfl rfl ?_ ?_ ?_ (sw_run 200 _ _ _ ?_)
        · simp only [rC, rCs, eC, eCs, AS.kb, rmBs, rmB, mPs, mP, ePs, eP, bPs, bP, aA, aD, AS.kl, rD, eq_self, AS.ev, kill, look, cav, td0, td1, td2, td3, td4, td5, td6, Option.getD, List.map, List.foldr, List.append_nil, ↓reduceIte, and_self, Nat.succ_ne_zero]
        · simp only [eC, eCs, ePs, eP, eq_self, AS.ev, look, cav, td0, td1, td2, td3, td4, td5, td6, Option.getD, List.map, List.nodup_nil, List.append_nil, ↓reduceIte]
        · simp only [bPs, bP, eq_self, AS.ev, look, cav, td0, td1, td2, td3, td4, td5, td6, Option.getD, List.map, List.not_mem_nil, List.nodup_cons, List.nodup_nil, List.append_nil, ↓reduceIte, not_false_eq_true, and_self]
        simp only [mkC, eC, eCs, aftS, aftV, AS.kb, rmBs, rmB, mkO, packRA, flatR, ePs, eP, bPs, bP, AS.kl, retA, List.headD_cons, eq_self, xRun, vE, vP, vBin, vBinT, isAg, isBo, isCutO, isB, bv, gN, isPick, isCall, AS.pt, AS.ev, kill, look, cav, td0, td1, td2, td3, td4, td5, td6, Option.getD, List.map, List.foldr, List.append_nil, ↓reduceIte, Nat.reduceLT, Nat.reduceEqDiff, true_and, Bool.false_eq_true, reduceCtorEq, Nat.succ_ne_zero, hs, hi]
        refine sw_callP (ra) rfl rfl rfl rfl ?_ ?_ ?_ (sw_run 200 _ _ _ ?_)
        · simp only [rC, rCs, eC, eCs, AS.kb, rmBs, rmB, mPs, mP, ePs, eP, bPs, bP, aA, aD, AS.kl, rD, eq_self, AS.ev, kill, look, td0, td1, td2, td3, td4, td5, td6, Option.getD, List.map, List.foldr, List.append_nil, ↓reduceIte, Nat.reduceEqDiff, and_self, Nat.succ_ne_zero]
        · simp only [eC, eCs, ePs, eP, eq_self, AS.ev, look, td0, td1, td2, td3, td4, td5, td6, Option.getD, List.map, List.nodup_nil, List.append_nil, ↓reduceIte, Nat.reduceEqDiff]
        · simp only [bPs, bP, eq_self, AS.ev, look, td0, td1, td2, td3, td4, td5, td6, Option.getD, List.map, List.not_mem_nil, List.nodup_cons, List.nodup_nil, List.append_nil, ↓reduceIte, Nat.reduceEqDiff, not_false_eq_true, and_self]
        simp only [mkC, eC, eCs, aftS, aftV, AS.kb, rmBs, rmB, mkO, packRA, flatR, ePs, eP, bPs, bP, AS.kl, retA, List.headD_cons, eq_self, xRun, vE, vP, vNot, vExt, vStore, isCutO, isB, bv, gT, gW, gN, gV, isU, isPick, isCall, AS.pt, AS.kn, AS.ev, AS.box, AS.setb, AS.mk', kill, look, setRowG, AV.cells, AV.whole, AV.one, td0, td1, td2, td3, td4, td5, td6, Option.bind, Option.getD, Option.isSome, List.map, List.take, List.drop, List.length, List.getElem?_cons_zero, List.getElem?_cons_succ, List.set, List.foldr, List.all, List.nil_append, List.cons_append, List.append_nil, ↓reduceIte, Nat.reduceLT, Nat.reduceAdd, Nat.reduceEqDiff, Nat.zero_add, true_and, Bool.and_true, Bool.not_true, Bool.false_eq_true, reduceCtorEq, and_self, Nat.succ_ne_zero, Nat.le_refl, tyR]
        refine sw_callP (c5) rfl rfl rfl rfl ?_ ?_ ?_ (sw_run 200 _ _ _ ?_)
        · simp only [rC, rCs, eC, eCs, AS.kb, rmBs, rmB, mPs, mP, ePs, eP, bPs, bP, aA, aD, AS.kl, rD, eq_self, AS.ev, kill, look, cav, td0, td1, td2, td3, td4, td5, td6, Option.getD, List.map, List.foldr, List.append_nil, ↓reduceIte, Nat.reduceEqDiff, reduceCtorEq, and_self, Nat.succ_ne_zero]
        · simp only [eC, eCs, ePs, eP, eq_self, AS.ev, look, cav, td0, td1, td2, td3, td4, td5, td6, Option.getD, List.map, List.nodup_nil, List.append_nil, ↓reduceIte, Nat.reduceEqDiff, reduceCtorEq]
        · simp only [bPs, bP, eq_self, AS.ev, look, cav, td0, td1, td2, td3, td4, td5, td6, Option.getD, List.map, List.not_mem_nil, List.nodup_cons, List.nodup_nil, List.append_nil, ↓reduceIte, Nat.reduceEqDiff, not_false_eq_true, and_self]
        simp only [mkC, eC, eCs, aftS, aftV, AS.kb, rmBs, rmB, mkO, packRA, flatR, ePs, eP, bPs, bP, AS.kl, retA, List.headD_cons, eq_self, xRun, vE, vP, vBin, vBinT, isAg, isBo, vNot, isCutO, isB, bv, gT, gW, gN, gV, isU, isPick, pkC, pkB, isCall, AS.pt, AS.kn, AS.ev, kill, look, cav, td0, td1, td2, td3, td4, td5, td6, Option.bind, Option.getD, Option.isSome, List.map, List.getElem?_cons_zero, List.getElem?_cons_succ, List.foldr, List.append_nil, ↓reduceIte, Nat.reduceLT, Nat.reduceEqDiff, true_and, Bool.not_true, Bool.false_eq_true, reduceCtorEq, and_self, Nat.succ_ne_zero, hs, hi]
        refine sw_callP (rb) rfl rfl rfl rfl ?_ ?_ ?_ (sw_run 200 _ _ _ ?_)
        · simp only [rC, rCs, eC, eCs, AS.kb, rmBs, rmB, mPs, mP, ePs, eP, bPs, bP, aA, aD, AS.kl, rD, eq_self, AS.ev, kill, look, td0, td1, td2, td3, td4, td5, td6, Option.getD, List.map, List.foldr, List.append_nil, ↓reduceIte, Nat.reduceEqDiff, and_self, Nat.succ_ne_zero]
        · simp only [eC, eCs, ePs, eP, eq_self, AS.ev, look, td0, td1, td2, td3, td4, td5, td6, Option.getD, List.map, List.nodup_nil, List.append_nil, ↓reduceIte, Nat.reduceEqDiff]
        · simp only [bPs, bP, eq_self, AS.ev, look, td0, td1, td2, td3, td4, td5, td6, Option.getD, List.map, List.not_mem_nil, List.nodup_cons, List.nodup_nil, List.append_nil, ↓reduceIte, Nat.reduceEqDiff, not_false_eq_true, and_self]
        simp only [mkC, eC, eCs, aftS, aftV, AS.kb, rmBs, rmB, mkO, packRA, flatR, ePs, eP, bPs, bP, AS.kl, retA, List.headD_cons, eq_self, xRun, vE, vP, vSub, vLoad, vExt, vStore, isCutO, gN, isPick, isCall, AS.pt, AS.ev, AS.box, AS.setb, AS.mk', kill, look, setRowG, AV.cells, AV.whole, AV.one, td0, td1, td2, td3, td4, td5, td6, Option.getD, Option.isSome, List.map, List.take, List.drop, List.length, List.getElem?_cons_zero, List.getElem?_cons_succ, List.set, List.foldr, List.all, List.nil_append, List.cons_append, List.append_nil, ↓reduceIte, Nat.reduceLT, Nat.reduceAdd, Nat.reduceEqDiff, Nat.zero_add, true_and, Bool.and_true, Bool.false_eq_true, and_self, Nat.succ_ne_zero, Nat.le_refl, tyR]
        refine sw_call (cf) rfl (aAs_ok ?_) ?_ (sw_run 200 _ _ _ ?_)
        · simp only [aAs, aA, aDs, aD, tysD, AS.ev, AS.owf, look, Option.bind, Option.getD, id_eq, List.map, List.append_nil, ↓reduceIte, Nat.reduceEqDiff, eq_self, and_self, tyC_eq, tysD]
        · simp only [okR]
        simp only [fQP, xRetP, rRs, rOs, rC, rCs, eRs, eOs, eC, eCs, mkR, flatD, packA, retA, xRes, rD, eq_self, xRun, vE, vP, vStore, isCutO, isB, bv, gT, gW, gN, gV, isU, isPick, pkC, pkB, isCall, AS.pt, AS.kn, AS.ev, AS.setb, AS.mk', AS.owf, kill, look, cav, setRowG, AV.cells, AV.whole, AV.one, td0, td1, td2, td3, td4, td5, td6, Option.bind, Option.getD, Option.isSome, List.map, List.take, List.length, List.getElem?_cons_zero, List.getElem?_cons_succ, List.set, List.foldr, List.all, List.not_mem_nil, List.nodup_cons, List.nodup_nil, List.nil_append, List.append_nil, ↓reduceIte, Nat.reduceLT, Nat.reduceAdd, Nat.reduceEqDiff, Nat.zero_add, not_false_eq_true, or_false, Bool.and_true, Bool.not_true, Bool.false_eq_true, id_eq, reduceCtorEq, and_self, Nat.succ_ne_zero, Nat.le_refl, tyC, tyF_k, tyF_a, Try.results90]
      case true =>
        refine con_runP Try.func90 rfl rfl (by simp [Try.ntmps90]) rfl ?_
        simp only [s0P, mkPs, mkPA, mkC, argA, numT, eq_self, xRun, vE, vP, vBin, vBinT, isAg, isBo, isCutO, isB, bv, gN, isPick, isCall, AS.pt, AS.ev, AS.box, look, cav, avB, td0, td1, td2, td3, td4, td5, td6, Option.getD, Option.isSome, List.nil_append, ↓reduceIte, Nat.reduceLT, Nat.reduceAdd, Nat.reduceEqDiff, Nat.zero_add, true_and, Bool.true_and, Bool.false_eq_true, reduceCtorEq, decide_false, Nat.succ_ne_zero, hn, tyR, Try.ntmps90]
        refine sw_callP (c1) rfl rfl rfl rfl ?_ ?_ ?_ (sw_run 200 _ _ _ ?_)
        · simp only [rC, rCs, eC, eCs, AS.kb, rmBs, rmB, mPs, mP, ePs, eP, bPs, bP, aA, aD, AS.kl, rD, eq_self, AS.ev, kill, look, cav, td0, td1, td2, td3, td4, td5, td6, Option.getD, List.map, List.foldr, List.append_nil, ↓reduceIte, reduceCtorEq, and_self, Nat.succ_ne_zero]
        · simp only [eC, eCs, ePs, eP, eq_self, AS.ev, look, cav, td0, td1, td2, td3, td4, td5, td6, Option.getD, List.map, List.nodup_nil, List.append_nil, ↓reduceIte, reduceCtorEq]
        · simp only [bPs, bP, eq_self, AS.ev, look, cav, td0, td1, td2, td3, td4, td5, td6, Option.getD, List.map, List.not_mem_nil, List.nodup_cons, List.nodup_nil, List.append_nil, ↓reduceIte, not_false_eq_true, and_self]
        simp only [mkC, eC, eCs, aftS, aftV, AS.kb, rmBs, rmB, mkO, packRA, flatR, ePs, eP, bPs, bP, AS.kl, retA, List.headD_cons, eq_self, xRun, vE, vP, isCutO, isB, bv, gN, isPick, isCall, AS.pt, AS.ev, kill, look, cav, td0, td1, td2, td3, td4, td5, td6, Option.getD, List.map, List.foldr, List.append_nil, ↓reduceIte, Nat.reduceLT, true_and, Bool.false_eq_true, reduceCtorEq, Nat.succ_ne_zero]
        refine sw_callP (c2) rfl rfl rfl rfl ?_ ?_ ?_ (sw_run 200 _ _ _ ?_)
        · simp only [rC, rCs, eC, eCs, AS.kb, rmBs, rmB, mPs, mP, ePs, eP, bPs, bP, aA, aD, AS.kl, rD, eq_self, AS.ev, kill, look, cav, td0, td1, td2, td3, td4, td5, td6, Option.getD, List.map, List.foldr, List.append_nil, ↓reduceIte, and_self, Nat.succ_ne_zero]
        · simp only [eC, eCs, ePs, eP, eq_self, AS.ev, look, cav, td0, td1, td2, td3, td4, td5, td6, Option.getD, List.map, List.nodup_nil, List.append_nil, ↓reduceIte]
        · simp only [bPs, bP, eq_self, AS.ev, look, cav, td0, td1, td2, td3, td4, td5, td6, Option.getD, List.map, List.not_mem_nil, List.nodup_cons, List.nodup_nil, List.append_nil, ↓reduceIte, not_false_eq_true, and_self]
        simp only [mkC, eC, eCs, aftS, aftV, AS.kb, rmBs, rmB, mkO, packRA, flatR, ePs, eP, bPs, bP, AS.kl, retA, List.headD_cons, eq_self, xRun, vE, vP, isCutO, isB, bv, gN, isPick, isCall, AS.pt, AS.ev, kill, look, cav, td0, td1, td2, td3, td4, td5, td6, Option.getD, List.map, List.foldr, List.append_nil, ↓reduceIte, Nat.reduceLT, true_and, Bool.false_eq_true, reduceCtorEq, Nat.succ_ne_zero]
        refine sw_callP (c3) rfl rfl rfl rfl ?_ ?_ ?_ (sw_run 200 _ _ _ ?_)
        · simp only [rC, rCs, eC, eCs, AS.kb, rmBs, rmB, mPs, mP, ePs, eP, bPs, bP, aA, aD, AS.kl, rD, eq_self, AS.ev, kill, look, cav, td0, td1, td2, td3, td4, td5, td6, Option.getD, List.map, List.foldr, List.append_nil, ↓reduceIte, and_self, Nat.succ_ne_zero]
        · simp only [eC, eCs, ePs, eP, eq_self, AS.ev, look, cav, td0, td1, td2, td3, td4, td5, td6, Option.getD, List.map, List.nodup_nil, List.append_nil, ↓reduceIte]
        · simp only [bPs, bP, eq_self, AS.ev, look, cav, td0, td1, td2, td3, td4, td5, td6, Option.getD, List.map, List.not_mem_nil, List.nodup_cons, List.nodup_nil, List.append_nil, ↓reduceIte, not_false_eq_true, and_self]
        simp only [mkC, eC, eCs, aftS, aftV, AS.kb, rmBs, rmB, mkO, packRA, flatR, ePs, eP, bPs, bP, AS.kl, retA, List.headD_cons, eq_self, xRun, vE, vP, vBin, vBinT, isAg, isBo, isCutO, isB, bv, gN, isPick, isCall, AS.pt, AS.ev, kill, look, cav, td0, td1, td2, td3, td4, td5, td6, Option.getD, List.map, List.foldr, List.append_nil, ↓reduceIte, Nat.reduceLT, Nat.reduceEqDiff, true_and, Bool.false_eq_true, reduceCtorEq, Nat.succ_ne_zero, hs, hi]
        refine sw_callP (ra) rfl rfl rfl rfl ?_ ?_ ?_ (sw_run 200 _ _ _ ?_)
        · simp only [rC, rCs, eC, eCs, AS.kb, rmBs, rmB, mPs, mP, ePs, eP, bPs, bP, aA, aD, AS.kl, rD, eq_self, AS.ev, kill, look, td0, td1, td2, td3, td4, td5, td6, Option.getD, List.map, List.foldr, List.append_nil, ↓reduceIte, Nat.reduceEqDiff, and_self, Nat.succ_ne_zero]
        · simp only [eC, eCs, ePs, eP, eq_self, AS.ev, look, td0, td1, td2, td3, td4, td5, td6, Option.getD, List.map, List.nodup_nil, List.append_nil, ↓reduceIte, Nat.reduceEqDiff]
        · simp only [bPs, bP, eq_self, AS.ev, look, td0, td1, td2, td3, td4, td5, td6, Option.getD, List.map, List.not_mem_nil, List.nodup_cons, List.nodup_nil, List.append_nil, ↓reduceIte, Nat.reduceEqDiff, not_false_eq_true, and_self]
        simp only [mkC, eC, eCs, aftS, aftV, AS.kb, rmBs, rmB, mkO, packRA, flatR, ePs, eP, bPs, bP, AS.kl, retA, List.headD_cons, eq_self, xRun, vE, vP, vNot, vExt, vStore, isCutO, isB, bv, gT, gW, gN, gV, isU, isPick, isCall, AS.pt, AS.kn, AS.ev, AS.box, AS.setb, AS.mk', kill, look, setRowG, AV.cells, AV.whole, AV.one, td0, td1, td2, td3, td4, td5, td6, Option.bind, Option.getD, Option.isSome, List.map, List.take, List.drop, List.length, List.getElem?_cons_zero, List.getElem?_cons_succ, List.set, List.foldr, List.all, List.nil_append, List.cons_append, List.append_nil, ↓reduceIte, Nat.reduceLT, Nat.reduceAdd, Nat.reduceEqDiff, Nat.zero_add, true_and, Bool.and_true, Bool.not_true, Bool.false_eq_true, reduceCtorEq, and_self, Nat.succ_ne_zero, Nat.le_refl, tyR]
        refine sw_callP (c5) rfl rfl rfl rfl ?_ ?_ ?_ (sw_run 200 _ _ _ ?_)
        · simp only [rC, rCs, eC, eCs, AS.kb, rmBs, rmB, mPs, mP, ePs, eP, bPs, bP, aA, aD, AS.kl, rD, eq_self, AS.ev, kill, look, cav, td0, td1, td2, td3, td4, td5, td6, Option.getD, List.map, List.foldr, List.append_nil, ↓reduceIte, Nat.reduceEqDiff, reduceCtorEq, and_self, Nat.succ_ne_zero]
        · simp only [eC, eCs, ePs, eP, eq_self, AS.ev, look, cav, td0, td1, td2, td3, td4, td5, td6, Option.getD, List.map, List.nodup_nil, List.append_nil, ↓reduceIte, Nat.reduceEqDiff, reduceCtorEq]
        · simp only [bPs, bP, eq_self, AS.ev, look, cav, td0, td1, td2, td3, td4, td5, td6, Option.getD, List.map, List.not_mem_nil, List.nodup_cons, List.nodup_nil, List.append_nil, ↓reduceIte, Nat.reduceEqDiff, not_false_eq_true, and_self]
        simp only [mkC, eC, eCs, aftS, aftV, AS.kb, rmBs, rmB, mkO, packRA, flatR, ePs, eP, bPs, bP, AS.kl, retA, List.headD_cons, eq_self, xRun, vE, vP, vBin, vBinT, isAg, isBo, vNot, isCutO, isB, bv, gT, gW, gN, gV, isU, isPick, pkC, pkB, isCall, AS.pt, AS.kn, AS.ev, kill, look, cav, td0, td1, td2, td3, td4, td5, td6, Option.bind, Option.getD, Option.isSome, List.map, List.getElem?_cons_zero, List.getElem?_cons_succ, List.foldr, List.append_nil, ↓reduceIte, Nat.reduceLT, Nat.reduceEqDiff, true_and, Bool.not_true, Bool.false_eq_true, reduceCtorEq, and_self, Nat.succ_ne_zero, hs, hi]
        refine sw_callP (rb) rfl rfl rfl rfl ?_ ?_ ?_ (sw_run 200 _ _ _ ?_)
        · simp only [rC, rCs, eC, eCs, AS.kb, rmBs, rmB, mPs, mP, ePs, eP, bPs, bP, aA, aD, AS.kl, rD, eq_self, AS.ev, kill, look, td0, td1, td2, td3, td4, td5, td6, Option.getD, List.map, List.foldr, List.append_nil, ↓reduceIte, Nat.reduceEqDiff, and_self, Nat.succ_ne_zero]
        · simp only [eC, eCs, ePs, eP, eq_self, AS.ev, look, td0, td1, td2, td3, td4, td5, td6, Option.getD, List.map, List.nodup_nil, List.append_nil, ↓reduceIte, Nat.reduceEqDiff]
        · simp only [bPs, bP, eq_self, AS.ev, look, td0, td1, td2, td3, td4, td5, td6, Option.getD, List.map, List.not_mem_nil, List.nodup_cons, List.nodup_nil, List.append_nil, ↓reduceIte, Nat.reduceEqDiff, not_false_eq_true, and_self]
        simp only [mkC, eC, eCs, aftS, aftV, AS.kb, rmBs, rmB, mkO, packRA, flatR, ePs, eP, bPs, bP, AS.kl, retA, List.headD_cons, eq_self, xRun, vE, vP, vSub, vLoad, vExt, vStore, isCutO, gN, isPick, isCall, AS.pt, AS.ev, AS.box, AS.setb, AS.mk', kill, look, setRowG, AV.cells, AV.whole, AV.one, td0, td1, td2, td3, td4, td5, td6, Option.getD, Option.isSome, List.map, List.take, List.drop, List.length, List.getElem?_cons_zero, List.getElem?_cons_succ, List.set, List.foldr, List.all, List.nil_append, List.cons_append, List.append_nil, ↓reduceIte, Nat.reduceLT, Nat.reduceAdd, Nat.reduceEqDiff, Nat.zero_add, true_and, Bool.and_true, Bool.false_eq_true, and_self, Nat.succ_ne_zero, Nat.le_refl, tyR]
        refine sw_call (cf) rfl (aAs_ok ?_) ?_ (sw_run 200 _ _ _ ?_)
        · simp only [aAs, aA, aDs, aD, tysD, AS.ev, AS.owf, look, Option.bind, Option.getD, id_eq, List.map, List.append_nil, ↓reduceIte, Nat.reduceEqDiff, eq_self, and_self, tyC_eq, tysD]
        · simp only [okR]
        simp only [mkR, flatD, packA, retA, eq_self, xRun, vE, vP, isCutO, isB, bv, gT, gW, gN, gV, isU, isPick, isCall, AS.pt, AS.kn, AS.ev, AS.mk', kill, look, td0, td1, td2, td3, td4, td5, td6, Option.bind, Option.getD, Option.isSome, List.take, List.length, List.getElem?_cons_zero, List.getElem?_cons_succ, List.foldr, List.append_nil, ↓reduceIte, Nat.reduceLT, Nat.reduceAdd, Nat.reduceEqDiff, Nat.zero_add, true_and, Bool.false_eq_true, reduceCtorEq, and_self, tyC]
        refine sw_callP (c6) rfl rfl rfl rfl ?_ ?_ ?_ (sw_run 200 _ _ _ ?_)
        · simp only [rC, rCs, eC, eCs, AS.kb, rmBs, rmB, mPs, mP, ePs, eP, bPs, bP, aA, aD, AS.kl, rD, eq_self, AS.ev, kill, look, cav, td0, td1, td2, td3, td4, td5, td6, Option.getD, List.map, List.foldr, List.append_nil, ↓reduceIte, Nat.reduceEqDiff, reduceCtorEq, and_self, Nat.succ_ne_zero]
        · simp only [eC, eCs, ePs, eP, eq_self, AS.ev, look, cav, td0, td1, td2, td3, td4, td5, td6, Option.getD, List.map, List.nodup_nil, List.append_nil, ↓reduceIte, Nat.reduceEqDiff, reduceCtorEq]
        · simp only [bPs, bP, eq_self, AS.ev, look, cav, td0, td1, td2, td3, td4, td5, td6, Option.getD, List.map, List.not_mem_nil, List.nodup_cons, List.nodup_nil, List.append_nil, ↓reduceIte, Nat.reduceEqDiff, not_false_eq_true, and_self]
        simp only [mkC, fQP, xRetP, rRs, rOs, rC, rCs, eRs, eOs, eC, eCs, aftS, aftV, AS.kb, rmBs, rmB, mkO, packRA, flatR, ePs, eP, bPs, bP, AS.kl, retA, List.headD_cons, xRes, rD, eq_self, xRun, vE, vP, vStore, isCutO, isB, bv, gN, isPick, pkC, pkA, isCall, AS.pt, AS.ev, AS.setb, AS.owf, kill, look, cav, setRowG, AV.cells, AV.whole, AV.one, td0, td1, td2, td3, td4, td5, td6, Option.bind, Option.getD, List.map, List.length, List.set, List.foldr, List.all, List.not_mem_nil, List.nodup_cons, List.nodup_nil, List.nil_append, List.append_nil, ↓reduceIte, Nat.reduceLT, Nat.reduceAdd, Nat.reduceEqDiff, Nat.zero_add, not_false_eq_true, or_false, Bool.and_true, Bool.false_eq_true, id_eq, reduceCtorEq, and_self, Nat.succ_ne_zero, Nat.le_refl, tyF_k, tyF_a, Try.results90]
    rw [h3] at c3
    rw [n3 h3] at c3
    rcases h4 : (ct 60 l).1 with _ | _
    case true =>
      rw [rdI_G h1 h2 h3 h4]
      rw [h4] at c4
      have ra := con_read d (ct 60 l).2 (by omega)
      have za := hb (ct 60 l).2
      generalize (rdI d (ct 60 l).2) = A at *
      obtain ⟨At, Ao, Al⟩ := A
      simp only at ra za ⊢
      have c5 := con_cut 62 Al 0
      have cf := con_tyCode At za
      cases Ao
      case false =>
        refine con_runP Try.func90 rfl rfl (by simp [Try.ntmps90]) rfl ?_
        simp only [s0P, mkPs, mkPA, mkC, argA, numT, eq_self, xRun, vE, vP, vBin, vBinT, isAg, isBo, isCutO, isB, bv, gN, isPick, isCall, AS.pt, AS.ev, AS.box, look, cav, avB, td0, td1, td2, td3, td4, td5, td6, Option.getD, Option.isSome, List.nil_append, ↓reduceIte, Nat.reduceLT, Nat.reduceAdd, Nat.reduceEqDiff, Nat.zero_add, true_and, Bool.false_and, Bool.false_eq_true, reduceCtorEq, decide_false, Nat.succ_ne_zero, hn, tyR, Try.ntmps90]
        refine sw_callP (c1) rfl rfl rfl rfl ?_ ?_ ?_ (sw_run 200 _ _ _ ?_)
        · simp only [rC, rCs, eC, eCs, AS.kb, rmBs, rmB, mPs, mP, ePs, eP, bPs, bP, aA, aD, AS.kl, rD, eq_self, AS.ev, kill, look, cav, td0, td1, td2, td3, td4, td5, td6, Option.getD, List.map, List.foldr, List.append_nil, ↓reduceIte, reduceCtorEq, and_self, Nat.succ_ne_zero]
        · simp only [eC, eCs, ePs, eP, eq_self, AS.ev, look, cav, td0, td1, td2, td3, td4, td5, td6, Option.getD, List.map, List.nodup_nil, List.append_nil, ↓reduceIte, reduceCtorEq]
        · simp only [bPs, bP, eq_self, AS.ev, look, cav, td0, td1, td2, td3, td4, td5, td6, Option.getD, List.map, List.not_mem_nil, List.nodup_cons, List.nodup_nil, List.append_nil, ↓reduceIte, not_false_eq_true, and_self]
        simp only [mkC, eC, eCs, aftS, aftV, AS.kb, rmBs, rmB, mkO, packRA, flatR, ePs, eP, bPs, bP, AS.kl, retA, List.headD_cons, eq_self, xRun, vE, vP, isCutO, isB, bv, gN, isPick, isCall, AS.pt, AS.ev, kill, look, cav, td0, td1, td2, td3, td4, td5, td6, Option.getD, List.map, List.foldr, List.append_nil, ↓reduceIte, Nat.reduceLT, true_and, Bool.false_eq_true, reduceCtorEq, Nat.succ_ne_zero]
        refine sw_callP (c2) rfl rfl rfl rfl ?_ ?_ ?_ (sw_run 200 _ _ _ ?_)
        · simp only [rC, rCs, eC, eCs, AS.kb, rmBs, rmB, mPs, mP, ePs, eP, bPs, bP, aA, aD, AS.kl, rD, eq_self, AS.ev, kill, look, cav, td0, td1, td2, td3, td4, td5, td6, Option.getD, List.map, List.foldr, List.append_nil, ↓reduceIte, and_self, Nat.succ_ne_zero]
        · simp only [eC, eCs, ePs, eP, eq_self, AS.ev, look, cav, td0, td1, td2, td3, td4, td5, td6, Option.getD, List.map, List.nodup_nil, List.append_nil, ↓reduceIte]
        · simp only [bPs, bP, eq_self, AS.ev, look, cav, td0, td1, td2, td3, td4, td5, td6, Option.getD, List.map, List.not_mem_nil, List.nodup_cons, List.nodup_nil, List.append_nil, ↓reduceIte, not_false_eq_true, and_self]
        simp only [mkC, eC, eCs, aftS, aftV, AS.kb, rmBs, rmB, mkO, packRA, flatR, ePs, eP, bPs, bP, AS.kl, retA, List.headD_cons, eq_self, xRun, vE, vP, isCutO, isB, bv, gN, isPick, isCall, AS.pt, AS.ev, kill, look, cav, td0, td1, td2, td3, td4, td5, td6, Option.getD, List.map, List.foldr, List.append_nil, ↓reduceIte, Nat.reduceLT, true_and, Bool.false_eq_true, reduceCtorEq, Nat.succ_ne_zero]
        refine sw_callP (c3) rfl rfl rfl rfl ?_ ?_ ?_ (sw_run 200 _ _ _ ?_)
        · simp only [rC, rCs, eC, eCs, AS.kb, rmBs, rmB, mPs, mP, ePs, eP, bPs, bP, aA, aD, AS.kl, rD, eq_self, AS.ev, kill, look, cav, td0, td1, td2, td3, td4, td5, td6, Option.getD, List.map, List.foldr, List.append_nil, ↓reduceIte, and_self, Nat.succ_ne_zero]
        · simp only [eC, eCs, ePs, eP, eq_self, AS.ev, look, cav, td0, td1, td2, td3, td4, td5, td6, Option.getD, List.map, List.nodup_nil, List.append_nil, ↓reduceIte]
        · simp only [bPs, bP, eq_self, AS.ev, look, cav, td0, td1, td2, td3, td4, td5, td6, Option.getD, List.map, List.not_mem_nil, List.nodup_cons, List.nodup_nil, List.append_nil, ↓reduceIte, not_false_eq_true, and_self]
        simp only [mkC, eC, eCs, aftS, aftV, AS.kb, rmBs, rmB, mkO, packRA, flatR, ePs, eP, bPs, bP, AS.kl, retA, List.headD_cons, eq_self, xRun, vE, vP, isCutO, isB, bv, gN, isPick, isCall, AS.pt, AS.ev, kill, look, cav, td0, td1, td2, td3, td4, td5, td6, Option.getD, List.map, List.foldr, List.append_nil, ↓reduceIte, Nat.reduceLT, true_and, Bool.false_eq_true, reduceCtorEq, Nat.succ_ne_zero]
        refine sw_callP (c4) rfl rfl rfl rfl ?_ ?_ ?_ (sw_run 200 _ _ _ ?_)
        · simp only [rC, rCs, eC, eCs, AS.kb, rmBs, rmB, mPs, mP, ePs, eP, bPs, bP, aA, aD, AS.kl, rD, eq_self, AS.ev, kill, look, cav, td0, td1, td2, td3, td4, td5, td6, Option.getD, List.map, List.foldr, List.append_nil, ↓reduceIte, and_self, Nat.succ_ne_zero]
        · simp only [eC, eCs, ePs, eP, eq_self, AS.ev, look, cav, td0, td1, td2, td3, td4, td5, td6, Option.getD, List.map, List.nodup_nil, List.append_nil, ↓reduceIte]
        · simp only [bPs, bP, eq_self, AS.ev, look, cav, td0, td1, td2, td3, td4, td5, td6, Option.getD, List.map, List.not_mem_nil, List.nodup_cons, List.nodup_nil, List.append_nil, ↓reduceIte, not_false_eq_true, and_self]
        simp only [mkC, eC, eCs, aftS, aftV, AS.kb, rmBs, rmB, mkO, packRA, flatR, ePs, eP, bPs, bP, AS.kl, retA, List.headD_cons, eq_self, xRun, vE, vP, vBin, vBinT, isAg, isBo, isCutO, isB, bv, gN, isPick, isCall, AS.pt, AS.ev, kill, look, cav, td0, td1, td2, td3, td4, td5, td6, Option.getD, List.map, List.foldr, List.append_nil, ↓reduceIte, Nat.reduceLT, Nat.reduceEqDiff, true_and, Bool.false_eq_true, reduceCtorEq, Nat.succ_ne_zero, hs, hi]
        refine sw_callP (ra) rfl rfl rfl rfl ?_ ?_ ?_ (sw_run 200 _ _ _ ?_)
        · simp only [rC, rCs, eC, eCs, AS.kb, rmBs, rmB, mPs, mP, ePs, eP, bPs, bP, aA, aD, AS.kl, rD, eq_self, AS.ev, kill, look, td0, td1, td2, td3, td4, td5, td6, Option.getD, List.map, List.foldr, List.append_nil, ↓reduceIte, Nat.reduceEqDiff, and_self, Nat.succ_ne_zero]
        · simp only [eC, eCs, ePs, eP, eq_self, AS.ev, look, td0, td1, td2, td3, td4, td5, td6, Option.getD, List.map, List.nodup_nil, List.append_nil, ↓reduceIte, Nat.reduceEqDiff]
        · simp only [bPs, bP, eq_self, AS.ev, look, td0, td1, td2, td3, td4, td5, td6, Option.getD, List.map, List.not_mem_nil, List.nodup_cons, List.nodup_nil, List.append_nil, ↓reduceIte, Nat.reduceEqDiff, not_false_eq_true, and_self]
        simp only [mkC, eC, eCs, aftS, aftV, AS.kb, rmBs, rmB, mkO, packRA, flatR, ePs, eP, bPs, bP, AS.kl, retA, List.headD_cons, eq_self, xRun, vE, vP, vSub, vLoad, vExt, vStore, isCutO, gN, isPick, isCall, AS.pt, AS.ev, AS.box, AS.setb, AS.mk', kill, look, setRowG, AV.cells, AV.whole, AV.one, td0, td1, td2, td3, td4, td5, td6, Option.getD, Option.isSome, List.map, List.take, List.drop, List.length, List.getElem?_cons_zero, List.getElem?_cons_succ, List.set, List.foldr, List.all, List.nil_append, List.cons_append, List.append_nil, ↓reduceIte, Nat.reduceLT, Nat.reduceAdd, Nat.reduceEqDiff, Nat.zero_add, true_and, Bool.and_true, Bool.false_eq_true, and_self, Nat.succ_ne_zero, Nat.le_refl, tyR]
        refine sw_call (cf) rfl (aAs_ok ?_) ?_ (sw_run 200 _ _ _ ?_)
        · simp only [aAs, aA, aDs, aD, tysD, AS.ev, AS.owf, look, Option.bind, Option.getD, id_eq, List.map, List.append_nil, ↓reduceIte, eq_self, and_self, tyC_eq, tysD]
        · simp only [okR]
        simp only [fQP, xRetP, rRs, rOs, rC, rCs, eRs, eOs, eC, eCs, mkR, flatD, packA, retA, xRes, rD, eq_self, xRun, vE, vP, vStore, isCutO, isB, bv, gT, gW, gN, gV, isU, isPick, pkC, pkB, isCall, AS.pt, AS.kn, AS.ev, AS.setb, AS.mk', AS.owf, kill, look, cav, setRowG, AV.cells, AV.whole, AV.one, td0, td1, td2, td3, td4, td5, td6, Option.bind, Option.getD, Option.isSome, List.map, List.take, List.length, List.getElem?_cons_zero, List.getElem?_cons_succ, List.set, List.foldr, List.all, List.not_mem_nil, List.nodup_cons, List.nodup_nil, List.nil_append, List.append_nil, ↓reduceIte, Nat.reduceLT, Nat.reduceAdd, Nat.reduceEqDiff, Nat.zero_add, not_false_eq_true, or_false, Bool.and_true, Bool.not_true, Bool.false_eq_true, id_eq, reduceCtorEq, and_self, Nat.succ_ne_zero, Nat.le_refl, tyC, tyG_k, tyG_a, Try.results90]
      case true =>
        refine con_runP Try.func90 rfl rfl (by simp [Try.ntmps90]) rfl ?_
        simp only [s0P, mkPs, mkPA, mkC, argA, numT, eq_self, xRun, vE, vP, vBin, vBinT, isAg, isBo, isCutO, isB, bv, gN, isPick, isCall, AS.pt, AS.ev, AS.box, look, cav, avB, td0, td1, td2, td3, td4, td5, td6, Option.getD, Option.isSome, List.nil_append, ↓reduceIte, Nat.reduceLT, Nat.reduceAdd, Nat.reduceEqDiff, Nat.zero_add, true_and, Bool.true_and, Bool.false_eq_true, reduceCtorEq, decide_false, Nat.succ_ne_zero, hn, tyR, Try.ntmps90]
        refine sw_callP (c1) rfl rfl rfl rfl ?_ ?_ ?_ (sw_run 200 _ _ _ ?_)
        · simp only [rC, rCs, eC, eCs, AS.kb, rmBs, rmB, mPs, mP, ePs, eP, bPs, bP, aA, aD, AS.kl, rD, eq_self, AS.ev, kill, look, cav, td0, td1, td2, td3, td4, td5, td6, Option.getD, List.map, List.foldr, List.append_nil, ↓reduceIte, reduceCtorEq, and_self, Nat.succ_ne_zero]
        · simp only [eC, eCs, ePs, eP, eq_self, AS.ev, look, cav, td0, td1, td2, td3, td4, td5, td6, Option.getD, List.map, List.nodup_nil, List.append_nil, ↓reduceIte, reduceCtorEq]
        · simp only [bPs, bP, eq_self, AS.ev, look, cav, td0, td1, td2, td3, td4, td5, td6, Option.getD, List.map, List.not_mem_nil, List.nodup_cons, List.nodup_nil, List.append_nil, ↓reduceIte, not_false_eq_true, and_self]
        simp only [mkC, eC, eCs, aftS, aftV, AS.kb, rmBs, rmB, mkO, packRA, flatR, ePs, eP, bPs, bP, AS.kl, retA, List.headD_cons, eq_self, xRun, vE, vP, isCutO, isB, bv, gN, isPick, isCall, AS.pt, AS.ev, kill, look, cav, td0, td1, td2, td3, td4, td5, td6, Option.getD, List.map, List.foldr, List.append_nil, ↓reduceIte, Nat.reduceLT, true_and, Bool.false_eq_true, reduceCtorEq, Nat.succ_ne_zero]
        refine sw_callP (c2) rfl rfl rfl rfl ?_ ?_ ?_ (sw_run 200 _ _ _ ?_)
        · simp only [rC, rCs, eC, eCs, AS.kb, rmBs, rmB, mPs, mP, ePs, eP, bPs, bP, aA, aD, AS.kl, rD, eq_self, AS.ev, kill, look, cav, td0, td1, td2, td3, td4, td5, td6, Option.getD, List.map, List.foldr, List.append_nil, ↓reduceIte, and_self, Nat.succ_ne_zero]
        · simp only [eC, eCs, ePs, eP, eq_self, AS.ev, look, cav, td0, td1, td2, td3, td4, td5, td6, Option.getD, List.map, List.nodup_nil, List.append_nil, ↓reduceIte]
        · simp only [bPs, bP, eq_self, AS.ev, look, cav, td0, td1, td2, td3, td4, td5, td6, Option.getD, List.map, List.not_mem_nil, List.nodup_cons, List.nodup_nil, List.append_nil, ↓reduceIte, not_false_eq_true, and_self]
        simp only [mkC, eC, eCs, aftS, aftV, AS.kb, rmBs, rmB, mkO, packRA, flatR, ePs, eP, bPs, bP, AS.kl, retA, List.headD_cons, eq_self, xRun, vE, vP, isCutO, isB, bv, gN, isPick, isCall, AS.pt, AS.ev, kill, look, cav, td0, td1, td2, td3, td4, td5, td6, Option.getD, List.map, List.foldr, List.append_nil, ↓reduceIte, Nat.reduceLT, true_and, Bool.false_eq_true, reduceCtorEq, Nat.succ_ne_zero]
        refine sw_callP (c3) rfl rfl rfl rfl ?_ ?_ ?_ (sw_run 200 _ _ _ ?_)
        · simp only [rC, rCs, eC, eCs, AS.kb, rmBs, rmB, mPs, mP, ePs, eP, bPs, bP, aA, aD, AS.kl, rD, eq_self, AS.ev, kill, look, cav, td0, td1, td2, td3, td4, td5, td6, Option.getD, List.map, List.foldr, List.append_nil, ↓reduceIte, and_self, Nat.succ_ne_zero]
        · simp only [eC, eCs, ePs, eP, eq_self, AS.ev, look, cav, td0, td1, td2, td3, td4, td5, td6, Option.getD, List.map, List.nodup_nil, List.append_nil, ↓reduceIte]
        · simp only [bPs, bP, eq_self, AS.ev, look, cav, td0, td1, td2, td3, td4, td5, td6, Option.getD, List.map, List.not_mem_nil, List.nodup_cons, List.nodup_nil, List.append_nil, ↓reduceIte, not_false_eq_true, and_self]
        simp only [mkC, eC, eCs, aftS, aftV, AS.kb, rmBs, rmB, mkO, packRA, flatR, ePs, eP, bPs, bP, AS.kl, retA, List.headD_cons, eq_self, xRun, vE, vP, isCutO, isB, bv, gN, isPick, isCall, AS.pt, AS.ev, kill, look, cav, td0, td1, td2, td3, td4, td5, td6, Option.getD, List.map, List.foldr, List.append_nil, ↓reduceIte, Nat.reduceLT, true_and, Bool.false_eq_true, reduceCtorEq, Nat.succ_ne_zero]
        refine sw_callP (c4) rfl rfl rfl rfl ?_ ?_ ?_ (sw_run 200 _ _ _ ?_)
        · simp only [rC, rCs, eC, eCs, AS.kb, rmBs, rmB, mPs, mP, ePs, eP, bPs, bP, aA, aD, AS.kl, rD, eq_self, AS.ev, kill, look, cav, td0, td1, td2, td3, td4, td5, td6, Option.getD, List.map, List.foldr, List.append_nil, ↓reduceIte, and_self, Nat.succ_ne_zero]
        · simp only [eC, eCs, ePs, eP, eq_self, AS.ev, look, cav, td0, td1, td2, td3, td4, td5, td6, Option.getD, List.map, List.nodup_nil, List.append_nil, ↓reduceIte]
        · simp only [bPs, bP, eq_self, AS.ev, look, cav, td0, td1, td2, td3, td4, td5, td6, Option.getD, List.map, List.not_mem_nil, List.nodup_cons, List.nodup_nil, List.append_nil, ↓reduceIte, not_false_eq_true, and_self]
        simp only [mkC, eC, eCs, aftS, aftV, AS.kb, rmBs, rmB, mkO, packRA, flatR, ePs, eP, bPs, bP, AS.kl, retA, List.headD_cons, eq_self, xRun, vE, vP, vBin, vBinT, isAg, isBo, isCutO, isB, bv, gN, isPick, isCall, AS.pt, AS.ev, kill, look, cav, td0, td1, td2, td3, td4, td5, td6, Option.getD, List.map, List.foldr, List.append_nil, ↓reduceIte, Nat.reduceLT, Nat.reduceEqDiff, true_and, Bool.false_eq_true, reduceCtorEq, Nat.succ_ne_zero, hs, hi]
        refine sw_callP (ra) rfl rfl rfl rfl ?_ ?_ ?_ (sw_run 200 _ _ _ ?_)
        · simp only [rC, rCs, eC, eCs, AS.kb, rmBs, rmB, mPs, mP, ePs, eP, bPs, bP, aA, aD, AS.kl, rD, eq_self, AS.ev, kill, look, td0, td1, td2, td3, td4, td5, td6, Option.getD, List.map, List.foldr, List.append_nil, ↓reduceIte, Nat.reduceEqDiff, and_self, Nat.succ_ne_zero]
        · simp only [eC, eCs, ePs, eP, eq_self, AS.ev, look, td0, td1, td2, td3, td4, td5, td6, Option.getD, List.map, List.nodup_nil, List.append_nil, ↓reduceIte, Nat.reduceEqDiff]
        · simp only [bPs, bP, eq_self, AS.ev, look, td0, td1, td2, td3, td4, td5, td6, Option.getD, List.map, List.not_mem_nil, List.nodup_cons, List.nodup_nil, List.append_nil, ↓reduceIte, Nat.reduceEqDiff, not_false_eq_true, and_self]
        simp only [mkC, eC, eCs, aftS, aftV, AS.kb, rmBs, rmB, mkO, packRA, flatR, ePs, eP, bPs, bP, AS.kl, retA, List.headD_cons, eq_self, xRun, vE, vP, vSub, vLoad, vExt, vStore, isCutO, gN, isPick, isCall, AS.pt, AS.ev, AS.box, AS.setb, AS.mk', kill, look, setRowG, AV.cells, AV.whole, AV.one, td0, td1, td2, td3, td4, td5, td6, Option.getD, Option.isSome, List.map, List.take, List.drop, List.length, List.getElem?_cons_zero, List.getElem?_cons_succ, List.set, List.foldr, List.all, List.nil_append, List.cons_append, List.append_nil, ↓reduceIte, Nat.reduceLT, Nat.reduceAdd, Nat.reduceEqDiff, Nat.zero_add, true_and, Bool.and_true, Bool.false_eq_true, and_self, Nat.succ_ne_zero, Nat.le_refl, tyR]
        refine sw_call (cf) rfl (aAs_ok ?_) ?_ (sw_run 200 _ _ _ ?_)
        · simp only [aAs, aA, aDs, aD, tysD, AS.ev, AS.owf, look, Option.bind, Option.getD, id_eq, List.map, List.append_nil, ↓reduceIte, eq_self, and_self, tyC_eq, tysD]
        · simp only [okR]
        simp only [mkR, flatD, packA, retA, eq_self, xRun, vE, vP, isCutO, isB, bv, gT, gW, gN, gV, isU, isPick, isCall, AS.pt, AS.kn, AS.ev, AS.mk', kill, look, td0, td1, td2, td3, td4, td5, td6, Option.bind, Option.getD, Option.isSome, List.take, List.length, List.getElem?_cons_zero, List.getElem?_cons_succ, List.foldr, List.append_nil, ↓reduceIte, Nat.reduceLT, Nat.reduceAdd, Nat.reduceEqDiff, Nat.zero_add, true_and, Bool.false_eq_true, reduceCtorEq, and_self, tyC]
        refine sw_callP (c5) rfl rfl rfl rfl ?_ ?_ ?_ (sw_run 200 _ _ _ ?_)
        · simp only [rC, rCs, eC, eCs, AS.kb, rmBs, rmB, mPs, mP, ePs, eP, bPs, bP, aA, aD, AS.kl, rD, eq_self, AS.ev, kill, look, cav, td0, td1, td2, td3, td4, td5, td6, Option.getD, List.map, List.foldr, List.append_nil, ↓reduceIte, Nat.reduceEqDiff, reduceCtorEq, and_self, Nat.succ_ne_zero]
        · simp only [eC, eCs, ePs, eP, eq_self, AS.ev, look, cav, td0, td1, td2, td3, td4, td5, td6, Option.getD, List.map, List.nodup_nil, List.append_nil, ↓reduceIte, Nat.reduceEqDiff, reduceCtorEq]
        · simp only [bPs, bP, eq_self, AS.ev, look, cav, td0, td1, td2, td3, td4, td5, td6, Option.getD, List.map, List.not_mem_nil, List.nodup_cons, List.nodup_nil, List.append_nil, ↓reduceIte, Nat.reduceEqDiff, not_false_eq_true, and_self]
        simp only [mkC, fQP, xRetP, rRs, rOs, rC, rCs, eRs, eOs, eC, eCs, aftS, aftV, AS.kb, rmBs, rmB, mkO, packRA, flatR, ePs, eP, bPs, bP, AS.kl, retA, List.headD_cons, xRes, rD, eq_self, xRun, vE, vP, vStore, isCutO, isB, bv, gN, isPick, pkC, pkA, isCall, AS.pt, AS.ev, AS.setb, AS.owf, kill, look, cav, setRowG, AV.cells, AV.whole, AV.one, td0, td1, td2, td3, td4, td5, td6, Option.bind, Option.getD, List.map, List.length, List.set, List.foldr, List.all, List.not_mem_nil, List.nodup_cons, List.nodup_nil, List.nil_append, List.append_nil, ↓reduceIte, Nat.reduceLT, Nat.reduceAdd, Nat.reduceEqDiff, Nat.zero_add, not_false_eq_true, or_false, Bool.and_true, Bool.false_eq_true, id_eq, reduceCtorEq, and_self, Nat.succ_ne_zero, Nat.le_refl, tyG_k, tyG_a, Try.results90]
    rw [h4] at c4
    rw [n4 h4] at c4
    rw [rdI_N h1 h2 h3 h4]
    refine con_runP Try.func90 rfl rfl (by simp [Try.ntmps90]) rfl ?_
    simp only [s0P, mkPs, mkPA, mkC, argA, numT, eq_self, xRun, vE, vP, vBin, vBinT, isAg, isBo, isCutO, isB, bv, gN, isPick, isCall, AS.pt, AS.ev, AS.box, look, cav, avB, td0, td1, td2, td3, td4, td5, td6, Option.getD, Option.isSome, List.nil_append, ↓reduceIte, Nat.reduceLT, Nat.reduceAdd, Nat.reduceEqDiff, Nat.zero_add, true_and, Bool.false_eq_true, reduceCtorEq, decide_false, Nat.succ_ne_zero, hn, tyR, Try.ntmps90]
    refine sw_callP (c1) rfl rfl rfl rfl ?_ ?_ ?_ (sw_run 200 _ _ _ ?_)
    · simp only [rC, rCs, eC, eCs, AS.kb, rmBs, rmB, mPs, mP, ePs, eP, bPs, bP, aA, aD, AS.kl, rD, eq_self, AS.ev, kill, look, cav, td0, td1, td2, td3, td4, td5, td6, Option.getD, List.map, List.foldr, List.append_nil, ↓reduceIte, reduceCtorEq, and_self, Nat.succ_ne_zero]
    · simp only [eC, eCs, ePs, eP, eq_self, AS.ev, look, cav, td0, td1, td2, td3, td4, td5, td6, Option.getD, List.map, List.nodup_nil, List.append_nil, ↓reduceIte, reduceCtorEq]
    · simp only [bPs, bP, eq_self, AS.ev, look, cav, td0, td1, td2, td3, td4, td5, td6, Option.getD, List.map, List.not_mem_nil, List.nodup_cons, List.nodup_nil, List.append_nil, ↓reduceIte, not_false_eq_true, and_self]
    simp only [mkC, eC, eCs, aftS, aftV, AS.kb, rmBs, rmB, mkO, packRA, flatR, ePs, eP, bPs, bP, AS.kl, retA, List.headD_cons, eq_self, xRun, vE, vP, isCutO, isB, bv, gN, isPick, isCall, AS.pt, AS.ev, kill, look, cav, td0, td1, td2, td3, td4, td5, td6, Option.getD, List.map, List.foldr, List.append_nil, ↓reduceIte, Nat.reduceLT, true_and, Bool.false_eq_true, reduceCtorEq, Nat.succ_ne_zero]
    refine sw_callP (c2) rfl rfl rfl rfl ?_ ?_ ?_ (sw_run 200 _ _ _ ?_)
    · simp only [rC, rCs, eC, eCs, AS.kb, rmBs, rmB, mPs, mP, ePs, eP, bPs, bP, aA, aD, AS.kl, rD, eq_self, AS.ev, kill, look, cav, td0, td1, td2, td3, td4, td5, td6, Option.getD, List.map, List.foldr, List.append_nil, ↓reduceIte, and_self, Nat.succ_ne_zero]
    · simp only [eC, eCs, ePs, eP, eq_self, AS.ev, look, cav, td0, td1, td2, td3, td4, td5, td6, Option.getD, List.map, List.nodup_nil, List.append_nil, ↓reduceIte]
    · simp only [bPs, bP, eq_self, AS.ev, look, cav, td0, td1, td2, td3, td4, td5, td6, Option.getD, List.map, List.not_mem_nil, List.nodup_cons, List.nodup_nil, List.append_nil, ↓reduceIte, not_false_eq_true, and_self]
    simp only [mkC, eC, eCs, aftS, aftV, AS.kb, rmBs, rmB, mkO, packRA, flatR, ePs, eP, bPs, bP, AS.kl, retA, List.headD_cons, eq_self, xRun, vE, vP, isCutO, isB, bv, gN, isPick, isCall, AS.pt, AS.ev, kill, look, cav, td0, td1, td2, td3, td4, td5, td6, Option.getD, List.map, List.foldr, List.append_nil, ↓reduceIte, Nat.reduceLT, true_and, Bool.false_eq_true, reduceCtorEq, Nat.succ_ne_zero]
    refine sw_callP (c3) rfl rfl rfl rfl ?_ ?_ ?_ (sw_run 200 _ _ _ ?_)
    · simp only [rC, rCs, eC, eCs, AS.kb, rmBs, rmB, mPs, mP, ePs, eP, bPs, bP, aA, aD, AS.kl, rD, eq_self, AS.ev, kill, look, cav, td0, td1, td2, td3, td4, td5, td6, Option.getD, List.map, List.foldr, List.append_nil, ↓reduceIte, and_self, Nat.succ_ne_zero]
    · simp only [eC, eCs, ePs, eP, eq_self, AS.ev, look, cav, td0, td1, td2, td3, td4, td5, td6, Option.getD, List.map, List.nodup_nil, List.append_nil, ↓reduceIte]
    · simp only [bPs, bP, eq_self, AS.ev, look, cav, td0, td1, td2, td3, td4, td5, td6, Option.getD, List.map, List.not_mem_nil, List.nodup_cons, List.nodup_nil, List.append_nil, ↓reduceIte, not_false_eq_true, and_self]
    simp only [mkC, eC, eCs, aftS, aftV, AS.kb, rmBs, rmB, mkO, packRA, flatR, ePs, eP, bPs, bP, AS.kl, retA, List.headD_cons, eq_self, xRun, vE, vP, isCutO, isB, bv, gN, isPick, isCall, AS.pt, AS.ev, kill, look, cav, td0, td1, td2, td3, td4, td5, td6, Option.getD, List.map, List.foldr, List.append_nil, ↓reduceIte, Nat.reduceLT, true_and, Bool.false_eq_true, reduceCtorEq, Nat.succ_ne_zero]
    refine sw_callP (c4) rfl rfl rfl rfl ?_ ?_ ?_ (sw_run 200 _ _ _ ?_)
    · simp only [rC, rCs, eC, eCs, AS.kb, rmBs, rmB, mPs, mP, ePs, eP, bPs, bP, aA, aD, AS.kl, rD, eq_self, AS.ev, kill, look, cav, td0, td1, td2, td3, td4, td5, td6, Option.getD, List.map, List.foldr, List.append_nil, ↓reduceIte, and_self, Nat.succ_ne_zero]
    · simp only [eC, eCs, ePs, eP, eq_self, AS.ev, look, cav, td0, td1, td2, td3, td4, td5, td6, Option.getD, List.map, List.nodup_nil, List.append_nil, ↓reduceIte]
    · simp only [bPs, bP, eq_self, AS.ev, look, cav, td0, td1, td2, td3, td4, td5, td6, Option.getD, List.map, List.not_mem_nil, List.nodup_cons, List.nodup_nil, List.append_nil, ↓reduceIte, not_false_eq_true, and_self]
    simp only [mkC, fQP, xRetP, rRs, rOs, rC, rCs, eRs, eOs, eC, eCs, aftS, aftV, AS.kb, rmBs, rmB, mkO, packRA, flatR, ePs, eP, bPs, bP, AS.kl, retA, List.headD_cons, xRes, rD, eq_self, xRun, vE, vP, vBuild, vStore, isCutO, xFill, isB, bv, gN, isPick, isCall, AS.pt, AS.ev, AS.setb, kill, look, cav, setRowG, AV.cells, AV.whole, AV.one, td0, td1, td2, td3, td4, td5, td6, Option.getD, Option.isSome, List.map, List.length, List.set, List.foldr, List.all, List.not_mem_nil, List.nodup_cons, List.nodup_nil, List.append_nil, ↓reduceIte, Nat.reduceLT, Nat.reduceAdd, Nat.reduceEqDiff, Nat.zero_add, not_false_eq_true, or_false, Bool.and_true, Bool.false_eq_true, reduceCtorEq, and_self, Nat.succ_ne_zero, Nat.le_refl, ty0, tyk, tya, tysC, List.length_nil, Try.results90]
end Go.Proofs.Ytepjbiffebbelaa
