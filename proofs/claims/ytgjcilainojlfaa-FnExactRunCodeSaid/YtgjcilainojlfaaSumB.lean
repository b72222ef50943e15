/-
  Sums: numbers, and what is a sum, of both sides.
-/
import Derived.Test.YtgjcilainojlfaaNm
import Derived.Test.YtgjcilainojlfaaNum
import Derived.Sort.Walk0
import Derived.Test.YtgjcilainojlfaaUMark
namespace Go.Proofs.Ytgjcilainojlfaa
open Go.RowKit
set_option linter.unusedVariables false
set_option linter.unusedSimpArgs false
set_option maxRecDepth 20000
def asc (a b : ByteArray) : Bool := Op.bytesLess a.toList b.toList
theorem asc_leq (a b : ByteArray) : (Op.bytesLess a.toList b.toList || decide (a = b)) = !asc b a := by
  have e : (decide (a = b)) = (a.toList == b.toList) := (ba_eq a b).symm
  rw [asc, bytesLess_eq, bytesLess_eq, e, Bool.eq_iff_iff]
  simp only [Bool.or_eq_true, decide_eq_true_eq, beq_iff_eq, Bool.not_eq_true', decide_eq_false_iff_not, List.not_lt]
  exact Iff.symm (List.le_iff_lt_or_eq)
def cfB (n : Int) : Bool := decide (1 ≤ n) && decide (n ≤ 10006)
def itOk (xs : List Im) : Nat → Bool
  | 0 => nmB xs[0]!.name && cfB xs[0]!.coef
  | k + 1 => nmB xs[k + 1]!.name && cfB xs[k + 1]!.coef && asc xs[k]!.name xs[k + 1]!.name
def itAll (xs : List Im) : Nat → Bool
  | 0 => true
  | k + 1 => itAll xs k && itOk xs k
theorem itAll_le (xs : List Im) : ∀ n k, k ≤ n → itAll xs k = false → itAll xs n = false
  | 0, k, h, e => by obtain rfl : k = 0 := by omega
                     exact e
  | n + 1, k, h, e => by
    by_cases hk : k = n + 1
    · subst hk; exact e
    · rw [itAll, itAll_le xs n k (by omega) e]; rfl
def sumOk (s : Sm) : Bool := itAll s.items s.items.length && (numB s.const && decide ((s.items.length : Int) ≤ 8))
theorem sumOk_f (s : Sm) (k : Nat) (hk : k < s.items.length) (h : itOk s.items k = false) : sumOk s = false := by
  rw [sumOk, itAll_le s.items _ (k + 1) (by omega) (by rw [itAll, h, Bool.and_false])]; rfl
theorem sz_im (s : Sm) (k : Nat) (hk : k < s.items.length) : s.items[k]!.name.size ≤ szL (sumC s) ∧ s.items.length ≤ szL (sumC s) := by
  have := szL_flC imC s.items k hk
  simp only [sumC, imsD, imC, szL, szD] at this ⊢
  omega
theorem con_IsSumI (s : Sm) (hz : szL (sumC s) ≤ 1000000000) : Con Try.prog 112 [.ag (sumC s)] [.one (.bool (sumOk s))] := by
  have hnb := con_isNumber s.const
  obtain ⟨b, hb⟩ : ∃ b, b = numB s.const := ⟨_, rfl⟩
  rw [← hb] at hnb
  refine con_run Try.func112 rfl rfl (by simp [Try.ntmps112]) ?_
  simp only [argT, argA, eq_self, xRun, vE, vP, vSub, vLoad, vFld, isCutO, gN, isPick, isCall, AS.pt, AS.ev, AS.box, look, cav, avB, AV.cells, AV.whole, AV.one, td0, td1, td2, td3, td4, td5, td6, Option.getD, Option.isSome, List.map, List.getElem?_cons_zero, List.all, ↓reduceIte, Nat.reduceLT, Nat.reduceEqDiff, Nat.zero_add, Nat.add_zero, ne_eq, not_false_eq_true, true_and, Bool.and_true, Bool.false_eq_true, Nat.succ_ne_zero, Try.ntmps112, sumC, imsD]
  refine sw_call (hnb) rfl (aAs_ok ?_) ?_ (sw_run 200 _ _ _ ?_)
  · simp only [aAs, aA, aD, AS.ev, look, Option.getD, List.map, List.append_nil, ↓reduceIte, eq_self, and_self]
  · simp only [okR]
  cases b
  · have hf : sumOk s = false := by rw [sumOk, ← hb, Bool.false_and, Bool.and_false]
    rw [hf]
    simp only [mkR, flatD, packA, retA, List.headD_cons, fQ, xRet, rPs, xRes, flatA, rD, eq_self, xRun, vE, vP, vNot, isCutO, isB, bv, gT, gW, gN, gV, isU, isPick, pkC, pkA, isCall, AS.pt, AS.kn, AS.ev, look, cav, eatsOf, td0, td1, td2, td3, td4, td5, td6, Option.bind, Option.getD, Option.isSome, List.map, List.getElem?_cons_zero, List.getElem?_cons_succ, List.nodup_nil, ↓reduceIte, Nat.reduceLT, Nat.reduceEqDiff, or_false, Bool.not_false, Bool.false_eq_true, Bool.true_eq_false, reduceCtorEq, and_self, Try.results112]
  by_cases h8 : (8 : Int) < (s.items.length : Int)
  · have hf : sumOk s = false := by rw [sumOk, decide_eq_false (p := (s.items.length : Int) ≤ 8) (by omega), Bool.and_false, Bool.and_false]
    rw [hf]
    simp only [mkR, flatD, packA, retA, List.headD_cons, fQ, xRet, rPs, xRes, flatA, rD, eq_self, xRun, vE, vP, vSub, vLoad, vFld, vBin, vBinT, isAg, isBo, vNot, vLen, isCutO, isB, bv, gT, gW, gN, gV, isU, isPick, pkC, pkB, isCall, AS.pt, AS.kn, AS.ev, AS.rd, look, cav, eatsOf, td0, td1, td2, td3, td4, td5, td6, Option.bind, Option.getD, Option.isSome, List.map, List.getElem?_cons_zero, List.getElem?_cons_succ, List.nodup_nil, ↓reduceIte, Nat.reduceLT, Nat.reduceEqDiff, Nat.zero_add, ne_eq, not_false_eq_true, or_false, Bool.not_true, Bool.false_eq_true, reduceCtorEq, decide_true, and_self, Nat.succ_ne_zero, h8, Try.results112]
  simp only [mkR, flatD, packA, retA, List.headD_cons, eq_self, xRun, vE, vP, vSub, vLoad, vFld, vBin, vBinT, isAg, isBo, vNot, vLen, isCutO, isB, bv, gT, gW, gN, gV, isU, isPick, pkC, pkB, isCall, AS.pt, AS.kn, AS.ev, AS.rd, look, cav, td0, td1, td2, td3, td4, td5, td6, Option.bind, Option.getD, Option.isSome, List.getElem?_cons_zero, List.getElem?_cons_succ, ↓reduceIte, Nat.reduceLT, Nat.reduceEqDiff, Nat.zero_add, ne_eq, not_false_eq_true, true_and, Bool.not_true, Bool.false_eq_true, decide_false, and_self, Nat.succ_ne_zero, h8]
  refine sw_loop (fun k : Nat => k ≤ s.items.length ∧ itAll s.items k = true) (fun k => ⟨50, [(18, .i k), (17, .i s.items.length), (16, .br (.rows 2 s.items.length (flC imC s.items))), (1, .bx 0 0)], [(0, [.i s.const, .br (.rows 2 s.items.length (flC imC s.items))])], [], 1, []⟩) (fun k => s.items.length - k) 0 id ⟨Nat.zero_le _, rfl⟩ ?_ ?_
  · simp only [Sub, subT, subB, subO, subP, inj, AV.ren, AV.rens, AV.lt, AV.lts, eq_self, look, td0, td1, td2, td3, td4, td5, td6, List.map, List.not_mem_nil, List.nodup_cons, List.nodup_nil, ↓reduceIte, Nat.reduceLT, Nat.reduceEqDiff, not_false_eq_true, id_eq, Int.natCast_zero, and_self, Int.natCast_zero]
  · rintro k ⟨hk, hall⟩
    refine sw_run 200 _ _ _ ?_
    by_cases hlt : k < s.items.length
    · have hi : (k : Int) < (s.items.length : Int) := by omega
      have hR := flC_row imC_len s.items k hlt
      obtain ⟨hsz, hsz2⟩ := sz_im s k hlt
      have hnm := con_IsNameI s.items[k]!.name (by omega)
      have hcf := con_within s.items[k]!.coef 1 10006
      rw [← cfB] at hcf
      cases k with
      | zero =>
        have hit : itOk s.items 0 = (nmB s.items[0]!.name && cfB s.items[0]!.coef) := rfl
        have hi2 : True := trivial
        have hRp : True := trivial
        simp only [Int.natCast_zero] at hi
        simp only [rowD, eq_self, xRun, vE, vP, vSub, vLoad, vIdx, vBin, vBinT, isAg, isBo, vStore, isCutO, isB, bv, gN, isPick, isCall, AS.pt, AS.ev, AS.box, AS.setb, look, avB, setRowG, AV.cells, AV.whole, AV.one, td0, td1, td2, td3, td4, td5, td6, Option.getD, Option.isSome, List.map, List.take, List.drop, List.length, List.set, List.all, ↓reduceIte, Nat.reduceLT, Nat.reduceAdd, Nat.reduceEqDiff, Nat.zero_add, true_and, Bool.and_true, Bool.false_eq_true, Int.toNat_zero, Int.natCast_zero, Int.le_refl, decide_true, and_self, Nat.le_refl, hi, hR, imC]
        refine sw_drawn (.cons 0 true (.cons 1 true (.cons 2 false (.cons 3 true (.cons 4 true (.cons 5 true (.cons 6 true (.cons 7 false (.cons 8 true (.cons 9 true (.cons 10 true (.cons 11 true (.cons 12 true (.cons 13 true (.cons 14 true (.cons 15 true (.cons 16 true (.cons 17 true (.cons 18 true (.cons 19 true (.cons 20 true (.cons 21 true (.cons 22 true (.cons 23 true (.cons 24 true (.cons 25 true (.nil))))))))))))))))))))))))))) (by kernel_rfl) qLp_panic (by kernel_rfl) (sw_run 200 _ _ _ ?_)
        simp only [eq_self, xRun, vP, vSub, vLoad, vFld, gN, isPick, isCall, AS.pt, AS.ev, look, td0, td1, td2, td3, td4, td5, td6, Option.getD, Option.isSome, List.getElem?_cons_zero, List.getElem?_cons_succ, ↓reduceIte, Nat.reduceLT, Nat.reduceEqDiff, Nat.add_zero, ne_eq, not_false_eq_true, true_and, Bool.false_eq_true, Nat.succ_ne_zero]
        refine sw_callD (hnm) rfl (aAs_ok ?_) ?_ (sw_run 200 _ _ _ ?_)
        · simp only [aAs, aA, aD, AS.ev, look, Option.getD, List.map, List.append_nil, ↓reduceIte, eq_self, and_self]
        · simp only [okR]
        obtain ⟨b1, e1⟩ : ∃ b, b = nmB s.items[0]!.name := ⟨_, rfl⟩
        obtain ⟨b2, e2⟩ : ∃ b, b = cfB s.items[0]!.coef := ⟨_, rfl⟩
        rw [← e1] at hit
        rw [← e2] at hit hcf
        simp only [← e1]
        cases b1
        · rw [sumOk_f s 0 hlt (by rw [hit]; rfl)]
          simp only [mkR, flatD, packA, retA, List.headD_cons, fQ, qLp, xRet, rPs, xRes, flatA, rD, eq_self, xRun, vE, vP, vNot, isCutO, isB, bv, gT, gW, gN, gV, isU, isPick, pkC, pkA, isCall, AS.pt, AS.kn, AS.ev, look, cav, eatsOf, td0, td1, td2, td3, td4, td5, td6, Option.bind, Option.getD, Option.isSome, List.map, List.getElem?_cons_zero, List.getElem?_cons_succ, List.nodup_nil, ↓reduceIte, Nat.reduceLT, Nat.reduceEqDiff, or_false, Bool.not_false, Bool.false_eq_true, Bool.true_eq_false, reduceCtorEq, and_self, Try.results112]
        simp only [mkR, flatD, packA, retA, List.headD_cons, eq_self, xRun, vP, vSub, vLoad, vFld, vNot, isB, bv, gT, gW, gN, gV, isU, isPick, isCall, AS.pt, AS.kn, AS.ev, look, td0, td1, td2, td3, td4, td5, td6, Option.bind, Option.getD, Option.isSome, List.getElem?_cons_zero, List.getElem?_cons_succ, ↓reduceIte, Nat.reduceLT, Nat.reduceEqDiff, Nat.zero_add, ne_eq, not_false_eq_true, true_and, Bool.not_true, Bool.false_eq_true, and_self, Nat.succ_ne_zero]
        refine sw_callD (hcf) rfl (aAs_ok ?_) ?_ (sw_run 200 _ _ _ ?_)
        · simp only [aAs, aA, aD, AS.ev, look, cav, Option.getD, List.map, List.append_nil, ↓reduceIte, Nat.reduceEqDiff, eq_self, and_self]
        · simp only [okR]
        cases b2
        · rw [sumOk_f s 0 hlt (by rw [hit]; rfl)]
          simp only [mkR, flatD, packA, retA, List.headD_cons, fQ, qLp, xRet, rPs, xRes, flatA, rD, eq_self, xRun, vE, vP, vNot, isCutO, isB, bv, gT, gW, gN, gV, isU, isPick, pkC, pkA, pkB, isCall, AS.pt, AS.kn, AS.ev, look, cav, eatsOf, td0, td1, td2, td3, td4, td5, td6, Option.bind, Option.getD, Option.isSome, List.map, List.getElem?_cons_zero, List.getElem?_cons_succ, List.nodup_nil, ↓reduceIte, Nat.reduceLT, Nat.reduceEqDiff, or_false, Bool.not_false, Bool.false_eq_true, Bool.true_eq_false, reduceCtorEq, and_self, Try.results112]
        simp only [mkR, flatD, packA, retA, List.headD_cons, qLp, eq_self, xRun, vE, vP, vBin, vBinT, isAg, isBo, vNot, isCutO, isB, bv, gT, gW, gN, gV, isU, isPick, pkC, pkB, isCall, AS.pt, AS.kn, AS.ev, look, cav, td0, td1, td2, td3, td4, td5, td6, Option.bind, Option.getD, Option.isSome, List.getElem?_cons_zero, List.getElem?_cons_succ, ↓reduceIte, Nat.reduceLT, Nat.reduceEqDiff, true_and, Bool.not_true, Bool.false_eq_true, Int.reduceLT, Int.reduceAdd, decide_false, and_self, qLp]
        refine ⟨by unfold inI; omega, 1, id, ⟨by omega, by rw [itAll, hall, hit]; rfl⟩, by omega, ?_⟩
        simp only [Sub, subT, subB, subO, subP, inj, AV.ren, AV.rens, AV.lt, AV.lts, eq_self, look, td0, td1, td2, td3, td4, td5, td6, List.map, List.not_mem_nil, List.nodup_cons, List.nodup_nil, ↓reduceIte, Nat.reduceLT, Nat.reduceEqDiff, not_false_eq_true, id_eq, reduceCtorEq, Int.reduceAdd, Int.natCast_zero, and_self, Int.natCast_zero, cast1]
      | succ k =>
        have hit : itOk s.items (k + 1) = (nmB s.items[k + 1]!.name && cfB s.items[k + 1]!.coef && asc s.items[k]!.name s.items[k + 1]!.name) := rfl
        have hi2 : ((k + 1 : Nat) : Int) - 1 = (k : Int) := by omega
        have hpos : (0 : Int) < ((k + 1 : Nat) : Int) := by omega
        have hilt : (k : Int) < (s.items.length : Int) := by omega
        have hRp := flC_row imC_len s.items k (by omega)
        simp only [rowD, eq_self, xRun, vE, vP, vSub, vLoad, vIdx, vBin, vBinT, isAg, isBo, vStore, isCutO, isB, bv, gN, isPick, isCall, AS.pt, AS.ev, AS.box, AS.setb, look, avB, setRowG, AV.cells, AV.whole, AV.one, td0, td1, td2, td3, td4, td5, td6, Option.getD, Option.isSome, List.map, List.take, List.drop, List.length, List.set, List.all, ↓reduceIte, Nat.reduceLT, Nat.reduceAdd, Nat.reduceEqDiff, Nat.zero_add, true_and, Bool.and_true, Bool.false_eq_true, Int.toNat_natCast, Int.natCast_nonneg, decide_true, and_self, Nat.le_refl, hi, hR, imC]
        refine sw_drawn (.cons 0 true (.cons 1 true (.cons 2 false (.cons 3 true (.cons 4 true (.cons 5 true (.cons 6 true (.cons 7 false (.cons 8 true (.cons 9 true (.cons 10 true (.cons 11 true (.cons 12 true (.cons 13 true (.cons 14 true (.cons 15 true (.cons 16 true (.cons 17 true (.cons 18 true (.cons 19 true (.cons 20 true (.cons 21 true (.cons 22 true (.cons 23 true (.cons 24 true (.cons 25 true (.nil))))))))))))))))))))))))))) (by kernel_rfl) qLp_panic (by kernel_rfl) (sw_run 200 _ _ _ ?_)
        simp only [eq_self, xRun, vP, vSub, vLoad, vFld, gN, isPick, isCall, AS.pt, AS.ev, look, td0, td1, td2, td3, td4, td5, td6, Option.getD, Option.isSome, List.getElem?_cons_zero, List.getElem?_cons_succ, ↓reduceIte, Nat.reduceLT, Nat.reduceEqDiff, Nat.add_zero, ne_eq, not_false_eq_true, true_and, Bool.false_eq_true, Nat.succ_ne_zero]
        refine sw_callD (hnm) rfl (aAs_ok ?_) ?_ (sw_run 200 _ _ _ ?_)
        · simp only [aAs, aA, aD, AS.ev, look, Option.getD, List.map, List.append_nil, ↓reduceIte, eq_self, and_self]
        · simp only [okR]
        obtain ⟨b1, e1⟩ : ∃ b, b = nmB s.items[(k + 1)]!.name := ⟨_, rfl⟩
        obtain ⟨b2, e2⟩ : ∃ b, b = cfB s.items[(k + 1)]!.coef := ⟨_, rfl⟩
        rw [← e1] at hit
        rw [← e2] at hit hcf
        simp only [← e1]
        cases b1
        · rw [sumOk_f s (k + 1) hlt (by rw [hit]; rfl)]
          simp only [mkR, flatD, packA, retA, List.headD_cons, fQ, qLp, xRet, rPs, xRes, flatA, rD, eq_self, xRun, vE, vP, vNot, isCutO, isB, bv, gT, gW, gN, gV, isU, isPick, pkC, pkA, isCall, AS.pt, AS.kn, AS.ev, look, cav, eatsOf, td0, td1, td2, td3, td4, td5, td6, Option.bind, Option.getD, Option.isSome, List.map, List.getElem?_cons_zero, List.getElem?_cons_succ, List.nodup_nil, ↓reduceIte, Nat.reduceLT, Nat.reduceEqDiff, or_false, Bool.not_false, Bool.false_eq_true, Bool.true_eq_false, reduceCtorEq, and_self, Try.results112]
        simp only [mkR, flatD, packA, retA, List.headD_cons, eq_self, xRun, vP, vSub, vLoad, vFld, vNot, isB, bv, gT, gW, gN, gV, isU, isPick, isCall, AS.pt, AS.kn, AS.ev, look, td0, td1, td2, td3, td4, td5, td6, Option.bind, Option.getD, Option.isSome, List.getElem?_cons_zero, List.getElem?_cons_succ, ↓reduceIte, Nat.reduceLT, Nat.reduceEqDiff, Nat.zero_add, ne_eq, not_false_eq_true, true_and, Bool.not_true, Bool.false_eq_true, and_self, Nat.succ_ne_zero]
        refine sw_callD (hcf) rfl (aAs_ok ?_) ?_ (sw_run 200 _ _ _ ?_)
        · simp only [aAs, aA, aD, AS.ev, look, cav, Option.getD, List.map, List.append_nil, ↓reduceIte, Nat.reduceEqDiff, eq_self, and_self]
        · simp only [okR]
        cases b2
        · rw [sumOk_f s (k + 1) hlt (by rw [hit]; rfl)]
          simp only [mkR, flatD, packA, retA, List.headD_cons, fQ, qLp, xRet, rPs, xRes, flatA, rD, eq_self, xRun, vE, vP, vNot, isCutO, isB, bv, gT, gW, gN, gV, isU, isPick, pkC, pkA, pkB, isCall, AS.pt, AS.kn, AS.ev, look, cav, eatsOf, td0, td1, td2, td3, td4, td5, td6, Option.bind, Option.getD, Option.isSome, List.map, List.getElem?_cons_zero, List.getElem?_cons_succ, List.nodup_nil, ↓reduceIte, Nat.reduceLT, Nat.reduceEqDiff, or_false, Bool.not_false, Bool.false_eq_true, Bool.true_eq_false, reduceCtorEq, and_self, Try.results112]
        obtain ⟨b3, e3⟩ : ∃ b, b = asc s.items[k]!.name s.items[k + 1]!.name := ⟨_, rfl⟩
        rw [← e3] at hit
        have hcm := asc_leq s.items[k + 1]!.name s.items[k]!.name
        rw [← e3] at hcm
        cases b3
        · rw [sumOk_f s (k + 1) hlt (by rw [hit]; rfl)]
          simp only [mkR, flatD, packA, retA, List.headD_cons, fQ, qLp, rowD, xRet, rPs, xRes, flatA, rD, eq_self, xRun, vE, vP, vSub, vLoad, vFld, vIdx, vBin, vBinT, isAg, isBo, vNot, isCutO, isB, bv, gT, gW, gN, gV, isU, isPick, pkC, pkA, pkB, isCall, AS.pt, AS.kn, AS.ev, look, cav, avB, eatsOf, td0, td1, td2, td3, td4, td5, td6, Option.bind, Option.getD, Option.isSome, List.map, List.getElem?_cons_zero, List.getElem?_cons_succ, List.nodup_nil, ↓reduceIte, Nat.reduceLT, Nat.reduceEqDiff, Nat.zero_add, Nat.add_zero, ne_eq, not_false_eq_true, true_and, and_true, or_false, Bool.not_true, Bool.not_false, Bool.false_eq_true, reduceCtorEq, Int.toNat_natCast, Int.natCast_nonneg, decide_true, and_self, Nat.succ_ne_zero, hRp, imC, hi2, hilt, hpos, hcm, Try.results112]
          all_goals (repeat' apply And.intro)
          all_goals first | omega | (unfold inI; omega)
        simp only [mkR, flatD, packA, retA, List.headD_cons, qLp, rowD, eq_self, xRun, vE, vP, vSub, vLoad, vFld, vIdx, vBin, vBinT, isAg, isBo, vNot, isCutO, isB, bv, gT, gW, gN, gV, isU, isPick, pkC, pkA, pkB, isCall, AS.pt, AS.kn, AS.ev, look, cav, avB, td0, td1, td2, td3, td4, td5, td6, Option.bind, Option.getD, Option.isSome, List.map, List.getElem?_cons_zero, List.getElem?_cons_succ, ↓reduceIte, Nat.reduceLT, Nat.reduceEqDiff, Nat.zero_add, Nat.add_zero, ne_eq, not_false_eq_true, true_and, Bool.not_true, Bool.false_eq_true, reduceCtorEq, Int.toNat_natCast, Int.natCast_nonneg, decide_true, and_self, Nat.succ_ne_zero, hRp, imC, hi2, hilt, hpos, hcm, qLp]
        refine ⟨by unfold inI; omega, by unfold inI; omega, k + 2, id, ⟨by omega, by rw [itAll, hall, hit]; rfl⟩, by omega, ?_⟩
        simp only [Sub, subT, subB, subO, subP, inj, AV.ren, AV.rens, AV.lt, AV.lts, eq_self, look, td0, td1, td2, td3, td4, td5, td6, List.map, List.not_mem_nil, List.nodup_cons, List.nodup_nil, ↓reduceIte, Nat.reduceLT, Nat.reduceEqDiff, not_false_eq_true, id_eq, reduceCtorEq, and_self, cast1]
    · have hi : ¬ (k : Int) < (s.items.length : Int) := by omega
      obtain rfl : k = s.items.length := by omega
      simp only [qLp, eq_self, xRun, vE, vP, vBin, vBinT, isAg, isBo, isCutO, isB, bv, gN, isPick, isCall, popTo, AS.pt, AS.ev, look, td0, td1, td2, td3, td4, td5, td6, Option.getD, Option.isSome, ↓reduceIte, Nat.reduceLT, Nat.reduceEqDiff, true_and, Bool.false_eq_true, decide_false, hi]
      refine sw_run 200 _ _ _ ?_
      have hf : sumOk s = true := by rw [sumOk, hall, ← hb, decide_eq_true (p := (s.items.length : Int) ≤ 8) (by omega)]; rfl
      rw [hf]
      simp only [fQ, xRet, rPs, xRes, flatA, rD, eq_self, xRun, vE, vP, isCutO, gN, isPick, isCall, AS.pt, AS.ev, look, cav, eatsOf, td0, td1, td2, td3, td4, td5, td6, List.map, List.nodup_nil, ↓reduceIte, Nat.reduceLT, or_false, Bool.false_eq_true, reduceCtorEq, and_self, Try.results112]
end Go.Proofs.Ytgjcilainojlfaa
/-
  A sum times a number, of both sides.
-/
namespace Go.Proofs.Ytgjcilainojlfaa
open Go.RowKit
set_option linter.unusedVariables false
set_option linter.unusedSimpArgs false
set_option maxRecDepth 20000
theorem tmodM (n : Int) : n.tmod 10007 = if 0 ≤ n then n % 10007 else -((-n) % 10007) := by
  split
  · rename_i h; exact Int.tmod_eq_emod_of_nonneg h
  · rename_i h
    have : n.tmod 10007 = -((-n).tmod 10007) := by rw [Int.neg_tmod]; omega
    rw [this, Int.tmod_eq_emod_of_nonneg (by omega)]
theorem con_ReduceI (n : Int) : Con Try.prog 117 [.one (.int n)] [.one (.int (n % 10007))] := by
  have h := tmodM n
  have hb : -10006 ≤ n.tmod 10007 ∧ n.tmod 10007 ≤ 10006 := by rw [h]; split <;> omega
  have h2 : (n.tmod 10007 + 10007).tmod 10007 = n % 10007 := by rw [tmodM, h]; split <;> split <;> omega
  refine con_run Try.func117 rfl rfl (by simp [Try.ntmps117]) ?_
  simp only [argT, argA, fQ, xRet, rPs, xRes, flatA, rD, eq_self, xRun, vE, vP, vBin, vBinT, isAg, isBo, isCutO, gN, isPick, isCall, AS.pt, AS.ev, look, cav, avB, eatsOf, td0, td1, td2, td3, td4, td5, td6, Option.getD, List.map, List.nodup_nil, ↓reduceIte, Nat.reduceLT, ne_eq, not_false_eq_true, true_and, and_true, or_false, Bool.false_eq_true, reduceCtorEq, Int.reduceEq, and_self, h2, Try.ntmps117, Try.results117]
  unfold inI; omega
theorem con_ReduceS (n : Int) : Con Try.prog 149 [.one (.int n)] [.one (.int (n % 10007))] := by
  have h := tmodM n
  have hb : -10006 ≤ n.tmod 10007 ∧ n.tmod 10007 ≤ 10006 := by rw [h]; split <;> omega
  refine con_run Try.func149 rfl rfl (by simp [Try.ntmps149]) ?_
  by_cases hn : n.tmod 10007 < 0
  · have h2 : n.tmod 10007 + 10007 = n % 10007 := by rw [h] at hn ⊢; split at hn <;> split <;> omega
    simp only [argT, argA, fQ, xRet, rPs, xRes, flatA, rD, eq_self, xRun, vE, vP, vBin, vBinT, isAg, isBo, isCutO, isB, bv, gN, isPick, isCall, AS.pt, AS.ev, look, cav, avB, eatsOf, td0, td1, td2, td3, td4, td5, td6, Option.getD, List.map, List.nodup_nil, ↓reduceIte, Nat.reduceLT, Nat.reduceEqDiff, ne_eq, not_false_eq_true, true_and, and_true, or_false, Bool.false_eq_true, reduceCtorEq, Int.reduceEq, decide_true, and_self, hn, h2, Try.ntmps149, Try.results149]
    unfold inI; omega
  · have h2 : n.tmod 10007 = n % 10007 := by rw [h] at hn ⊢; split at hn <;> split <;> omega
    rw [h2] at hn
    simp only [argT, argA, fQ, xRet, rPs, xRes, flatA, rD, eq_self, xRun, vE, vP, vBin, vBinT, isAg, isBo, isCutO, isB, bv, gN, isPick, isCall, AS.pt, AS.ev, look, cav, avB, eatsOf, td0, td1, td2, td3, td4, td5, td6, Option.getD, List.map, List.nodup_nil, ↓reduceIte, Nat.reduceLT, Nat.reduceEqDiff, ne_eq, not_false_eq_true, or_false, Bool.false_eq_true, reduceCtorEq, Int.reduceEq, decide_false, and_self, h2, hn, Try.ntmps149, Try.results149]
end Go.Proofs.Ytgjcilainojlfaa
